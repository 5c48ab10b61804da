/- Groups: Get, of the program and of the document. -/
import Derived.Test.YtpeccbdobdnpiaaDoorACap
import Derived.BigQuiet
namespace Go.Proofs.YtpeccbdobdnpiaaDoor.AGet
open Go.RowKit CMem ACap Go.Proofs.YtpeccbdobdnpiaaDoorW.PrintWords Go.Proofs.YtpeccbdobdnpiaaDoorW.PrintLast Go.Proofs.YtpeccbdobdnpiaaDoorW.PrintMore
set_option linter.unusedVariables false
set_option linter.unusedSimpArgs false
set_option maxRecDepth 100000
/-- where a group matched: 0 of none -/
def gfr (b : Nat → Bool) (y : Nat → Int) (g : Int) : Int := if gi b g = true then y ((g - 1).toNat * 2) else 0
def gto (b : Nat → Bool) (y : Nat → Int) (g : Int) : Int := if gi b g = true then y ((g - 1).toNat * 2 + 1) else 0
theorem get_none {b : Nat → Bool} {y : Nat → Int} {g : Int} (h : gi b g = false) : gfr b y g = 0 ∧ gto b y g = 0 := by
  unfold gfr gto
  rw [h]
  exact ⟨rfl, rfl⟩
theorem get_some {b : Nat → Bool} {y : Nat → Int} {k : Nat} (hk : k < 9) (h : b k = true) : gfr b y ((k : Int) + 1) = y (k * 2) ∧ gto b y ((k : Int) + 1) = y (k * 2 + 1) := by
  unfold gfr gto
  rw [gi_of hk, h, if_pos rfl, if_pos rfl, show ((k : Int) + 1 - 1).toNat = k by omega]
  exact ⟨rfl, rfl⟩
set_option maxHeartbeats 3200000 in
attribute [-go_sem] Go.loadCells in
theorem get_calls (b : Nat → Bool) (y : Nat → Int) (g : Int) (w : World) :
    Calls Tryd.prog 11 #[.agg (cc b y), .int .i64 g] w fun e w' => e = .returned (.tuple #[.int .i64 (gfr b y g), .int .i64 (gto b y g), .bool (gi b g)]) ∧ Below w.heap.size w w' := by
  have hs := cc_size b y
  have e9 := eq9 b
  have KH := Lib.hid (has_calls b y g)
  have BX := heap_alloc_new w (.cells (cc b y) 26)
  have l9 := load9 BX
  have l27 := load27 BX
  have HB := Lib.hid (below1 w (.cells (cc b y) 26))
  have BX := Lib.hid BX
  by_cases hn : nob b = true
  · have hg : gi b g = false := by
      rcases Classical.em (g < 1 ∨ 9 < g) with h | h
      · exact gi_lt h
      · obtain ⟨k, rfl⟩ : ∃ k : Nat, g = (k : Int) + 1 := ⟨(g - 1).toNat, by omega⟩
        rw [gi_of (by omega)]
        exact nob_at hn k (by omega)
    rw [(get_none hg).1, (get_none hg).2, hg]
    rw [hn] at e9
    go_enter Tryd.func11, Tryd.ntmps11
    go_wp2
    go_ret3
    exact ⟨rfl, HB.out⟩
  · rw [show nob b = false by simpa using hn] at e9
    by_cases hg : gi b g = true
    · obtain ⟨k, hk, rfl, hb⟩ := gi_ge hg
      rw [(get_some hk hb).1, (get_some hk hb).2, hg]
      rw [hg] at KH
      have hx : IntKind.i64.wrap (k : Int) = (k : Int) := by simp [IntKind.wrap, IntKind.signed, IntKind.bits]; omega
      have hk1 : (k : Int) < 9 := by omega
      have a0 := Lib.hid (blk_cell BX.out (9 + k * 2) _ (cc_at b y (k * 2) (by omega)))
      have a1 := blk_cell BX.out (9 + (k * 2 + 1)) _ (cc_at b y (k * 2 + 1) (by omega))
      rw [← Nat.add_assoc] at a1
      have a1 := Lib.hid a1
      clear hn hb hg
      go_enter Tryd.func11, Tryd.ntmps11
      go_wp2_with (go_at_call 22; (with_reducible refine (KH.out _).mono ?_); (rintro e w2 ⟨rfl, hb⟩); (have a0 := below_of hb a0.out); (have a1 := below_of hb a1.out); (have HB2 := Lib.hid (below_step HB.out hb)); clear hb)
      go_quiet (fail)
      go_wp2
      go_ret3
      exact ⟨rfl, below_drewN HB2.out _⟩
    · have hg : gi b g = false := by simpa using hg
      rw [(get_none hg).1, (get_none hg).2, hg]
      rw [hg] at KH
      go_enter Tryd.func11, Tryd.ntmps11
      go_wp2_with (go_at_call 22; (with_reducible refine (KH.out _).mono ?_); (rintro e w2 ⟨rfl, hb⟩); (have HB2 := Lib.hid (below_step HB.out hb)); clear hb)
      go_ret3
      exact ⟨rfl, HB2.out⟩
set_option maxHeartbeats 3200000 in
attribute [-go_sem] Go.loadCells in
theorem rget_calls (b : Nat → Bool) (y : Nat → Int) (g : Int) (w : World) :
    Calls Tryd.prog 12 #[.agg (cc b y), .int .i64 g] w fun e w' => e = .returned (.tuple #[.int .i64 (gfr b y g), .int .i64 (gto b y g), .bool (gi b g)]) ∧ Below w.heap.size w w' := by
  have hs := cc_size b y
  have BX := Lib.hid (heap_alloc_new w (.cells (cc b y) 28))
  have HB := Lib.hid (below1 w (.cells (cc b y) 28))
  by_cases h1 : g < 1
  · have hg := gi_lt (b := b) (g := g) (.inl h1)
    rw [(get_none hg).1, (get_none hg).2, hg]
    go_enter Tryd.func12, Tryd.ntmps12
    go_wp2
    go_ret3
    exact ⟨rfl, HB.out⟩
  · by_cases h2 : 9 < g
    · have hg := gi_lt (b := b) (g := g) (.inr h2)
      rw [(get_none hg).1, (get_none hg).2, hg]
      go_enter Tryd.func12, Tryd.ntmps12
      go_wp2
      go_ret3
      exact ⟨rfl, HB.out⟩
    · obtain ⟨k, hk⟩ : ∃ k : Nat, g = (k : Int) + 1 := ⟨(g - 1).toNat, by omega⟩
      have hk9 : k < 9 := by omega
      subst hk
      have hg := gi_of (b := b) hk9
      have hx : IntKind.i64.wrap (k : Int) = (k : Int) := by simp [IntKind.wrap, IntKind.signed, IntKind.bits]; omega
      have hx1 : wrap64 ((k : Int) + 1 - 1) = (k : Int) := by unfold wrap64; omega
      have hk1 : (k : Int) < 9 := by omega
      have ai := blk_cell BX.out k _ (cc_is b y k hk9)
      cases hb : b k
      · rw [hb] at hg ai
        rw [(get_none hg).1, (get_none hg).2, hg]
        clear hg hb
        go_enter Tryd.func12, Tryd.ntmps12
        go_wp2
        go_ret3
        exact ⟨rfl, HB.out⟩
      · rw [hb] at hg ai
        rw [(get_some hk9 hb).1, (get_some hk9 hb).2, hg]
        have a0 := blk_cell BX.out (9 + k * 2) _ (cc_at b y (k * 2) (by omega))
        have a1 := blk_cell BX.out (9 + (k * 2 + 1)) _ (cc_at b y (k * 2 + 1) (by omega))
        rw [← Nat.add_assoc] at a1
        clear hg hb
        go_enter Tryd.func12, Tryd.ntmps12
        go_wp2
        go_quiet (fail)
        go_wp2
        go_ret3
        exact ⟨rfl, below_drewN HB.out _⟩
end Go.Proofs.YtpeccbdobdnpiaaDoor.AGet
