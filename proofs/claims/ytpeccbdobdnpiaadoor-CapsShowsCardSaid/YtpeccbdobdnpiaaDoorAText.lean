/- Groups: Text, of the program and of the document; a letter in the lower case; whether two texts are the same but for that. -/
import Derived.Test.YtpeccbdobdnpiaaDoorAGet
namespace Go.Proofs.YtpeccbdobdnpiaaDoor.AText
open Go.RowKit CMem ACap AGet Go.Proofs.YtpeccbdobdnpiaaDoorW.PrintWords Go.Proofs.YtpeccbdobdnpiaaDoorW.PrintLast Go.Proofs.YtpeccbdobdnpiaaDoorW.PrintMore
set_option linter.unusedVariables false
set_option linter.unusedSimpArgs false
set_option maxRecDepth 100000
/-- a text's part from p to q, if there is one: i -/
def pok (s : ByteArray) (i : Bool) (p q : Int) : Bool := i && (ris p q && decide (q ≤ s.size))
def prt (s : ByteArray) (i : Bool) (p q : Int) : ByteArray := if pok s i p q = true then s.extract p.toNat q.toNat else ⟨#[]⟩
theorem ris_t {p q : Int} (h : ris p q = true) : 0 ≤ p ∧ p ≤ q ∧ q ≤ 10000 := by
  unfold ris at h
  simpa only [Bool.and_eq_true, decide_eq_true_eq] using h
theorem prt_no {s : ByteArray} {i : Bool} {p q : Int} (h : pok s i p q = false) : prt s i p q = ⟨#[]⟩ := by unfold prt; rw [h]; rfl
set_option maxHeartbeats 3200000 in
attribute [-go_sem] Go.loadCells in
theorem text_calls (b : Nat → Bool) (y : Nat → Int) (s : ByteArray) (g : Int) (w : World) :
    Calls Tryd.prog 13 #[.agg (cc b y), .string s, .int .i64 g] w fun e w' => e = .returned (.tuple #[.string (prt s (gi b g) (gfr b y g) (gto b y g)), .bool (pok s (gi b g) (gfr b y g) (gto b y g))]) ∧ Below w.heap.size w w' := by
  have hs := cc_size b y
  have BX := heap_alloc_new w (.cells (cc b y) 26)
  have l27 := load27 BX
  have HB := Lib.hid (below1 w (.cells (cc b y) 26))
  have kg := get_calls b y g
  generalize gfr b y g = p at *
  generalize gto b y g = q at *
  generalize gi b g = i at *
  have KG := Lib.hid kg
  have km := rises_calls p q
  clear kg BX
  cases i
  · have h0 : pok s false p q = false := rfl
    rw [prt_no h0, h0]
    clear km h0
    go_enter Tryd.func13, Tryd.ntmps13
    go_wp2_with (go_at_call 11; (with_reducible refine (KG.out _).mono ?_); (rintro e w2 ⟨rfl, hb⟩); (have HB2 := Lib.hid (below_step HB.out hb)); clear hb)
    go_ret2
    exact ⟨rfl, HB2.out⟩
  · cases hr : ris p q
    · have h0 : pok s true p q = false := by unfold pok; rw [hr]; rfl
      rw [prt_no h0, h0]
      rw [hr] at km
      have KM := Lib.hid km
      clear km h0 hr
      go_enter Tryd.func13, Tryd.ntmps13
      go_wp2_with (first | (go_at_call 11; (with_reducible refine (KG.out _).mono ?_); (rintro e w2 ⟨rfl, hb⟩); (have HB2 := Lib.hid (below_step HB.out hb)); clear hb) | (go_at_call 20; (with_reducible refine (KM.out _).mono ?_); (rintro e w3 ⟨rfl, hb⟩); (have HB3 := Lib.hid (below_step HB2.out hb)); clear hb))
      go_ret2
      exact ⟨rfl, HB3.out⟩
    · by_cases hq : q ≤ s.size
      · have h0 : pok s true p q = true := by unfold pok; rw [hr, decide_eq_true hq]; rfl
        rw [show prt s true p q = s.extract p.toNat q.toNat by unfold prt; rw [h0]; rfl, h0]
        rw [hr] at km
        have KM := Lib.hid km
        obtain ⟨r1, r2, r3⟩ := ris_t hr
        clear km h0 hr
        obtain ⟨m, rfl⟩ := Int.eq_ofNat_of_zero_le r1
        obtain ⟨n, rfl⟩ := Int.eq_ofNat_of_zero_le (show 0 ≤ q by omega)
        have hmn : m ≤ n := by omega
        have hns : n ≤ s.size := by omega
        go_enter Tryd.func13, Tryd.ntmps13
        go_wp2_with (first | (go_at_call 11; (with_reducible refine (KG.out _).mono ?_); (rintro e w2 ⟨rfl, hb⟩); (have HB2 := Lib.hid (below_step HB.out hb)); clear hb) | (go_at_call 20; (with_reducible refine (KM.out _).mono ?_); (rintro e w3 ⟨rfl, hb⟩); (have HB3 := Lib.hid (below_step HB2.out hb)); clear hb))
        go_ret2
        exact ⟨rfl, HB3.out⟩
      · have h0 : pok s true p q = false := by unfold pok; rw [hr, decide_eq_false hq]; rfl
        rw [prt_no h0, h0]
        rw [hr] at km
        have KM := Lib.hid km
        have hq2 : (s.size : Int) < q := by omega
        clear km h0 hr hq
        go_enter Tryd.func13, Tryd.ntmps13
        go_wp2_with (first | (go_at_call 11; (with_reducible refine (KG.out _).mono ?_); (rintro e w2 ⟨rfl, hb⟩); (have HB2 := Lib.hid (below_step HB.out hb)); clear hb) | (go_at_call 20; (with_reducible refine (KM.out _).mono ?_); (rintro e w3 ⟨rfl, hb⟩); (have HB3 := Lib.hid (below_step HB2.out hb)); clear hb))
        go_ret2
        exact ⟨rfl, HB3.out⟩
set_option maxHeartbeats 3200000 in
attribute [-go_sem] Go.loadCells in
theorem rtext_calls (b : Nat → Bool) (y : Nat → Int) (s : ByteArray) (g : Int) (w : World) :
    Calls Tryd.prog 14 #[.agg (cc b y), .string s, .int .i64 g] w fun e w' => e = .returned (.tuple #[.string (prt s (gi b g) (gfr b y g) (gto b y g)), .bool (pok s (gi b g) (gfr b y g) (gto b y g))]) ∧ Below w.heap.size w w' := by
  have hs := cc_size b y
  have BX := heap_alloc_new w (.cells (cc b y) 28)
  have l27 := load27 BX
  have HB := Lib.hid (below1 w (.cells (cc b y) 28))
  have kg := rget_calls b y g
  generalize gfr b y g = p at *
  generalize gto b y g = q at *
  generalize gi b g = i at *
  have KG := Lib.hid kg
  have km := may_calls p q
  clear kg BX
  cases i
  · have h0 : pok s false p q = false := rfl
    rw [prt_no h0, h0]
    clear km h0
    go_enter Tryd.func14, Tryd.ntmps14
    go_wp2_with (go_at_call 12; (with_reducible refine (KG.out _).mono ?_); (rintro e w2 ⟨rfl, hb⟩); (have HB2 := Lib.hid (below_step HB.out hb)); clear hb)
    go_ret2
    exact ⟨rfl, HB2.out⟩
  · cases hr : ris p q
    · have h0 : pok s true p q = false := by unfold pok; rw [hr]; rfl
      rw [prt_no h0, h0]
      rw [hr] at km
      have KM := Lib.hid km
      clear km h0 hr
      go_enter Tryd.func14, Tryd.ntmps14
      go_wp2_with (first | (go_at_call 12; (with_reducible refine (KG.out _).mono ?_); (rintro e w2 ⟨rfl, hb⟩); (have HB2 := Lib.hid (below_step HB.out hb)); clear hb) | (go_at_call 21; (with_reducible refine (KM.out _).mono ?_); (rintro e w3 ⟨rfl, hb⟩); (have HB3 := Lib.hid (below_step HB2.out hb)); clear hb))
      go_ret2
      exact ⟨rfl, HB3.out⟩
    · by_cases hq : q ≤ s.size
      · have h0 : pok s true p q = true := by unfold pok; rw [hr, decide_eq_true hq]; rfl
        rw [show prt s true p q = s.extract p.toNat q.toNat by unfold prt; rw [h0]; rfl, h0]
        rw [hr] at km
        have KM := Lib.hid km
        obtain ⟨r1, r2, r3⟩ := ris_t hr
        clear km h0 hr
        obtain ⟨m, rfl⟩ := Int.eq_ofNat_of_zero_le r1
        obtain ⟨n, rfl⟩ := Int.eq_ofNat_of_zero_le (show 0 ≤ q by omega)
        have hmn : m ≤ n := by omega
        have hns : n ≤ s.size := by omega
        go_enter Tryd.func14, Tryd.ntmps14
        go_wp2_with (first | (go_at_call 12; (with_reducible refine (KG.out _).mono ?_); (rintro e w2 ⟨rfl, hb⟩); (have HB2 := Lib.hid (below_step HB.out hb)); clear hb) | (go_at_call 21; (with_reducible refine (KM.out _).mono ?_); (rintro e w3 ⟨rfl, hb⟩); (have HB3 := Lib.hid (below_step HB2.out hb)); clear hb))
        go_ret2
        exact ⟨rfl, HB3.out⟩
      · have h0 : pok s true p q = false := by unfold pok; rw [hr, decide_eq_false hq]; rfl
        rw [prt_no h0, h0]
        rw [hr] at km
        have KM := Lib.hid km
        have hq2 : (s.size : Int) < q := by omega
        clear km h0 hr hq
        go_enter Tryd.func14, Tryd.ntmps14
        go_wp2_with (first | (go_at_call 12; (with_reducible refine (KG.out _).mono ?_); (rintro e w2 ⟨rfl, hb⟩); (have HB2 := Lib.hid (below_step HB.out hb)); clear hb) | (go_at_call 21; (with_reducible refine (KM.out _).mono ?_); (rintro e w3 ⟨rfl, hb⟩); (have HB3 := Lib.hid (below_step HB2.out hb)); clear hb))
        go_ret2
        exact ⟨rfl, HB3.out⟩
/-- a letter in the lower case -/
def lw (c : Int) : Int := if 65 ≤ c ∧ c ≤ 90 then c + 32 else c
theorem lower_calls (c : Int) (h0 : 0 ≤ c) (h1 : c < 256) (w : World) : Calls Tryd.prog 32 #[.int .u8 c] w fun e w' => e = .returned (.int .u8 (lw c)) ∧ Below w.heap.size w w' := by
  unfold lw
  by_cases h : 65 ≤ c
  · by_cases h2 : c ≤ 90
    · rw [if_pos ⟨h, h2⟩]
      have hw : IntKind.u8.wrap (c + 32) = c + 32 := by simp [IntKind.wrap, IntKind.signed, IntKind.bits]; omega
      have hw2 : (c + 32) % 256 = c + 32 := by omega
      go_enter Tryd.func32, Tryd.ntmps32
      go_wp2
      go_ret
      exact ⟨rfl, Below.refl _ _⟩
    · rw [if_neg (fun h => h2 h.2)]
      go_enter Tryd.func32, Tryd.ntmps32
      go_wp2
      go_ret
      exact ⟨rfl, Below.refl _ _⟩
  · rw [if_neg (fun k => h k.1)]
    go_enter Tryd.func32, Tryd.ntmps32
    go_wp2
    go_ret
    exact ⟨rfl, Below.refl _ _⟩
theorem rlower_calls (c : Int) (h0 : 0 ≤ c) (h1 : c < 256) (w : World) : Calls Tryd.prog 27 #[.int .u8 c] w fun e w' => e = .returned (.int .u8 (lw c)) ∧ Below w.heap.size w w' := by
  unfold lw
  by_cases h : 65 ≤ c
  · by_cases h2 : c ≤ 90
    · rw [if_pos ⟨h, h2⟩]
      have hw : IntKind.u8.wrap (c + 32) = c + 32 := by simp [IntKind.wrap, IntKind.signed, IntKind.bits]; omega
      have hw2 : (c + 32) % 256 = c + 32 := by omega
      go_enter Tryd.func27, Tryd.ntmps27
      go_wp2
      go_ret
      exact ⟨rfl, Below.refl _ _⟩
    · rw [if_neg (fun h => h2 h.2)]
      go_enter Tryd.func27, Tryd.ntmps27
      go_wp2
      go_ret
      exact ⟨rfl, Below.refl _ _⟩
  · rw [if_neg (fun k => h k.1)]
    go_enter Tryd.func27, Tryd.ntmps27
    go_wp2
    go_ret
    exact ⟨rfl, Below.refl _ _⟩
end Go.Proofs.YtpeccbdobdnpiaaDoor.AText
