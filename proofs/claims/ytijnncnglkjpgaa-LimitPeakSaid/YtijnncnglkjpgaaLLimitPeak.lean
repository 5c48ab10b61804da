/- LimitPeak: its walk. -/
import Derived.Test.YtijnncnglkjpgaaKOrd
namespace Go.Proofs.Ytijnncnglkjpgaa.LLimitPeak
open Go.RowKit KFlt KKind KRight KLeast KScale KMeter KStep KHold KFixed KArg KOrd Go.Proofs.YtijnncnglkjpgaaW.PrintWords Go.Proofs.YtijnncnglkjpgaaW.PrintLast Go.Proofs.YtijnncnglkjpgaaW.PrintMore
set_option linter.unusedVariables false
attribute [local go_sem] KKind.run_store_float
set_option linter.unusedSimpArgs false

set_option maxRecDepth 100000 in
set_option maxHeartbeats 6400000 in
theorem limitPeak_row (A : Option Addr) (len cap : Nat) (Z : List Int) (w : World) (hA : IntArg w .i8 A len Z) :
    Calls Try.prog 8 #[.slice A len cap] w fun e w' => e = .returned (.bool true) ∧ Below w.heap.size w w' := by
  have hlen := hA.1
  have hmax := hA.2.1
  unfold maxLen at hmax
  have HA := Lib.hid hA.2.2.1
  have HW := Lib.hid hA.2.2.2
  clear hA
  go_enter Try.func8, Try.ntmps8
  go_wp2_with fail
  refine (new_yes _ _ (by decide) (by decide) (by kernel_rfl) _).mono ?_
  rintro e w1 ⟨m, rfl, hm, hl, hb⟩
  have HM1 := Lib.hid hm
  have HB1 := Lib.hid hb
  clear hm hb
  have LM := Lib.hid hl
  clear hl
  go_wp2
  go_loopw [5, 6, 7, 8, 9] (fun q p t _ _ wr => ∃ (i : Nat) (h pk : Int), i ≤ len ∧ q = .int .i64 h ∧ p = .int .i64 pk ∧ t = .int .i64 i ∧ 0 ≤ h ∧ h ≤ 127 * i ∧ 0 ≤ pk ∧ pk ≤ 127 * i ∧ Hid (MHas 71 wr m 4621819117588971520 4636737291354636288 0 h pk) ∧ Hid (Below w.heap.size w wr)) (fun _ _ t _ _ _ => len - (intOf t).toNat)
  case atStart => exact ⟨0, 0, 0, by omega, rfl, rfl, rfl, by omega, by omega, by omega, by omega, HM1, HB1⟩
  case round =>
    obtain ⟨i, h, pk, hi, rfl, rfl, rfl, h0, h1, p0, p1, HM, HB⟩ := hrel
    clear HM1 HB1
    by_cases h2 : i < len ∧ i < 60
    · obtain ⟨h2, h60⟩ := h2
      obtain ⟨b, o, rfl, d0⟩ := HA.out i (by omega)
      have hz := HW.out Z[i] (List.getElem_mem _)
      have lb := World.block_lt_of_cell? w _ d0
      have d0 := (HB.out.cell (show (⟨b, o + i, none⟩ : Addr).block < w.heap.size from lb)).trans d0
      generalize Z[i] = z at *
      have hz' : -128 ≤ z ∧ z ≤ 127 := by
        simp [Lit.wf, IntKind.min, IntKind.max, IntKind.signed, IntKind.bits] at hz
        omega
      clear hz lb
      have hf : holdF h z = max 0 (h + z) := by unfold holdF; split <;> omega
      have hc := hold_calls m _ _ 0 h pk z wr HM.out h0 (by omega) (by omega) (by omega)
      rw [hf, le_100 (by omega) (by omega)] at hc
      have hmax1 := max_run 0 (h + z)
      have hmax2 := max_run pk (max 0 (h + z))
      obtain ⟨h', hh, h0', h1'⟩ : ∃ h', max 0 (h + z) = h' ∧ 0 ≤ h' ∧ h' ≤ 127 * (i + 1) := ⟨_, rfl, by omega, by omega⟩
      rw [hh] at hc hmax1 hmax2
      obtain ⟨pk', hp, p0', p1'⟩ : ∃ pk', max pk h' = pk' ∧ 0 ≤ pk' ∧ pk' ≤ 127 * (i + 1) := ⟨_, rfl, by omega, by omega⟩
      rw [hp] at hc hmax2
      have HC := Lib.hid hc
      clear hc hf hh hp
      go_wp2_with (go_at_call 24; (with_reducible refine HC.out.mono ?_); rintro e w2 ⟨rfl, hm, ho⟩)
      have HM2 := Lib.hid hm
      have HB2 := Lib.hid (Only.below HB.out ho LM.out HB.out.size)
      clear hm ho HC HM HB hmax1 hmax2 d0
      refine (used_calls _ _ _ _ _ _ _ HM2.out).mono ?_
      rintro e w3 ⟨rfl, hb⟩
      have HM3 := Lib.hid (HM2.out.below hb)
      have HB3 := Lib.hid (below_step HB2.out hb)
      clear hb HM2 HB2
      go_wp2
      go_roundw
      case rel => exact ⟨i + 1, h', pk', by omega, rfl, rfl, by simp, h0', by omega, p0', by omega, HM3, HB3⟩
      case measure => simp [intOf]; omega
    · by_cases h3 : i < len
      · have h4 : 60 ≤ i := by omega
        go_wp2_with (go_at_call 19; (with_reducible refine (fixed_calls _).mono ?_); rintro e w6 ⟨rfl, hB7⟩)
        go_ret
        exact ⟨rfl, below_step HB.out hB7⟩
      · go_wp2_with (go_at_call 19; (with_reducible refine (fixed_calls _).mono ?_); rintro e w6 ⟨rfl, hB7⟩)
        go_ret
        exact ⟨rfl, below_step HB.out hB7⟩
end Go.Proofs.Ytijnncnglkjpgaa.LLimitPeak
