/- Groups: their cells; rises, has, Get. -/
import Derived.Test.YtpeccbdobdnpiaaDoorCMem
import Derived.Laws.Rows
import Derived.Laws.Tables
import Derived.Test.YtpeccbdobdnpiaaDoorWLast
namespace Go.Proofs.YtpeccbdobdnpiaaDoor.ACap
open Go.RowKit CMem Go.Proofs.YtpeccbdobdnpiaaDoorW.PrintWords Go.Proofs.YtpeccbdobdnpiaaDoorW.PrintLast Go.Proofs.YtpeccbdobdnpiaaDoorW.PrintMore
set_option linter.unusedVariables false
set_option linter.unusedSimpArgs false
set_option maxRecDepth 100000
theorem below_drewN {B : Nat} {a w : World} (h : Below B a w) (n : Nat) : Below B a (w.drewN n) := h.trans ⟨rfl, rfl, rfl, Nat.le_refl _, fun _ _ => rfl⟩
/-- a Caps' cells -/
def cc (b : Nat → Bool) (y : Nat → Int) : Array Value := #[.bool (b 0), .bool (b 1), .bool (b 2), .bool (b 3), .bool (b 4), .bool (b 5), .bool (b 6), .bool (b 7), .bool (b 8), .int .i64 (y 0), .int .i64 (y 1), .int .i64 (y 2), .int .i64 (y 3), .int .i64 (y 4), .int .i64 (y 5), .int .i64 (y 6), .int .i64 (y 7), .int .i64 (y 8), .int .i64 (y 9), .int .i64 (y 10), .int .i64 (y 11), .int .i64 (y 12), .int .i64 (y 13), .int .i64 (y 14), .int .i64 (y 15), .int .i64 (y 16), .int .i64 (y 17)]
def ib (b : Nat → Bool) : Array Value := #[.bool (b 0), .bool (b 1), .bool (b 2), .bool (b 3), .bool (b 4), .bool (b 5), .bool (b 6), .bool (b 7), .bool (b 8)]
theorem cc_size (b y) : (cc b y).size = 27 := rfl
theorem ib_size (b) : (ib b).size = 9 := rfl
theorem cc_is (b : Nat → Bool) (y : Nat → Int) (i : Nat) (h : i < 9) : (cc b y)[i]? = some (.bool (b i)) := by
  have : i = 0 ∨ i = 1 ∨ i = 2 ∨ i = 3 ∨ i = 4 ∨ i = 5 ∨ i = 6 ∨ i = 7 ∨ i = 8 := by omega
  rcases this with rfl | rfl | rfl | rfl | rfl | rfl | rfl | rfl | rfl <;> rfl
theorem cc_at (b : Nat → Bool) (y : Nat → Int) (i : Nat) (h : i < 18) : (cc b y)[9 + i]? = some (.int .i64 (y i)) := by
  have : i = 0 ∨ i = 1 ∨ i = 2 ∨ i = 3 ∨ i = 4 ∨ i = 5 ∨ i = 6 ∨ i = 7 ∨ i = 8 ∨ i = 9 ∨ i = 10 ∨ i = 11 ∨ i = 12 ∨ i = 13 ∨ i = 14 ∨ i = 15 ∨ i = 16 ∨ i = 17 := by omega
  rcases this with rfl | rfl | rfl | rfl | rfl | rfl | rfl | rfl | rfl | rfl | rfl | rfl | rfl | rfl | rfl | rfl | rfl | rfl <;> rfl
theorem cc_ext {b b' : Nat → Bool} {y y' : Nat → Int} (h : ∀ i, i < 9 → b i = b' i) (k : ∀ i, i < 18 → y i = y' i) : cc b y = cc b' y' := by
  unfold cc
  rw [h 0 (by decide), h 1 (by decide), h 2 (by decide), h 3 (by decide), h 4 (by decide), h 5 (by decide), h 6 (by decide), h 7 (by decide), h 8 (by decide), k 0 (by decide), k 1 (by decide), k 2 (by decide), k 3 (by decide), k 4 (by decide), k 5 (by decide), k 6 (by decide), k 7 (by decide), k 8 (by decide), k 9 (by decide), k 10 (by decide), k 11 (by decide), k 12 (by decide), k 13 (by decide), k 14 (by decide), k 15 (by decide), k 16 (by decide), k 17 (by decide)]
theorem cc_inj {b b' : Nat → Bool} {y y' : Nat → Int} (h : cc b y = cc b' y') : (∀ i, i < 9 → b i = b' i) ∧ (∀ i, i < 18 → y i = y' i) := by
  refine ⟨fun i hi => ?_, fun i hi => ?_⟩
  · have e := cc_is b y i hi
    rw [h, cc_is b' y' i hi] at e
    injection e with e; injection e with e; exact e.symm
  · have e := cc_at b y i hi
    rw [h, cc_at b' y' i hi] at e
    injection e with e; injection e with _ e; exact e.symm
theorem cc_set_is (b : Nat → Bool) (y : Nat → Int) (i : Nat) (v : Bool) (h : i < 9) : (cc b y).setIfInBounds i (.bool v) = cc (fun j => if j = i then v else b j) y := by
  have : i = 0 ∨ i = 1 ∨ i = 2 ∨ i = 3 ∨ i = 4 ∨ i = 5 ∨ i = 6 ∨ i = 7 ∨ i = 8 := by omega
  rcases this with rfl | rfl | rfl | rfl | rfl | rfl | rfl | rfl | rfl <;> rfl
theorem cc_set_at (b : Nat → Bool) (y : Nat → Int) (i : Nat) (v : Int) (h : i < 18) : (cc b y).setIfInBounds (9 + i) (.int .i64 v) = cc b (fun j => if j = i then v else y j) := by
  have : i = 0 ∨ i = 1 ∨ i = 2 ∨ i = 3 ∨ i = 4 ∨ i = 5 ∨ i = 6 ∨ i = 7 ∨ i = 8 ∨ i = 9 ∨ i = 10 ∨ i = 11 ∨ i = 12 ∨ i = 13 ∨ i = 14 ∨ i = 15 ∨ i = 16 ∨ i = 17 := by omega
  rcases this with rfl | rfl | rfl | rfl | rfl | rfl | rfl | rfl | rfl | rfl | rfl | rfl | rfl | rfl | rfl | rfl | rfl | rfl <;> rfl
theorem cc_one (b : Nat → Bool) (y : Nat → Int) : (cc b y).all (·.oneCell') = true := by simp [cc, Value.oneCell']
theorem load27 {w : World} {g : Nat} {b : Nat → Bool} {y : Nat → Int} {t : TypeId} {fr : Nat × Nat} (h : w.heap[g]? = some (.cells (cc b y) t fr)) :
    (loadCells ⟨g, 0, none⟩ 27).run Tryd.prog w = .ok (cc b y) w := by
  have h1 := run_loadCells_list (P := Tryd.prog) w ⟨g, 0, none⟩ (cc b y).toList (fun j v hv => by
      have hadd : (⟨g, 0, none⟩ : Addr).add j = ⟨g, j, none⟩ := by unfold Addr.add; split <;> simp_all
      rw [hadd, cell_of_row w g j (cc b y) t fr h]
      simpa using hv)
  rw [Array.length_toList, cc_size] at h1
  simpa using h1
theorem load9 {w : World} {g : Nat} {b : Nat → Bool} {y : Nat → Int} {t : TypeId} {fr : Nat × Nat} (h : w.heap[g]? = some (.cells (cc b y) t fr)) :
    (loadCells ⟨g, 0, none⟩ 9).run Tryd.prog w = .ok (ib b) w := by
  have h1 := run_loadCells_list (P := Tryd.prog) w ⟨g, 0, none⟩ (ib b).toList (fun j v hv => by
      have hadd : (⟨g, 0, none⟩ : Addr).add j = ⟨g, j, none⟩ := by unfold Addr.add; split <;> simp_all
      rw [hadd, cell_of_row w g j (cc b y) t fr h]
      have hj : j < 9 := by
        have := (List.getElem?_eq_some_iff.1 hv).1
        rw [Array.length_toList, ib_size] at this
        exact this
      rw [cc_is b y j hj]
      have : j = 0 ∨ j = 1 ∨ j = 2 ∨ j = 3 ∨ j = 4 ∨ j = 5 ∨ j = 6 ∨ j = 7 ∨ j = 8 := by omega
      rcases this with rfl | rfl | rfl | rfl | rfl | rfl | rfl | rfl | rfl <;> exact hv)
  rw [Array.length_toList, ib_size] at h1
  simpa using h1
/-- no group at all -/
def nob (b : Nat → Bool) : Bool := !(b 0 || b 1 || b 2 || b 3 || b 4 || b 5 || b 6 || b 7 || b 8)
theorem nob_at {b : Nat → Bool} (h : nob b = true) (i : Nat) (hi : i < 9) : b i = false := by
  unfold nob at h
  simp only [Bool.not_or, Bool.and_eq_true, Bool.not_eq_true'] at h
  obtain ⟨⟨⟨⟨⟨⟨⟨⟨h0, h1⟩, h2⟩, h3⟩, h4⟩, h5⟩, h6⟩, h7⟩, h8⟩ := h
  have : i = 0 ∨ i = 1 ∨ i = 2 ∨ i = 3 ∨ i = 4 ∨ i = 5 ∨ i = 6 ∨ i = 7 ∨ i = 8 := by omega
  rcases this with rfl | rfl | rfl | rfl | rfl | rfl | rfl | rfl | rfl <;> assumption
theorem eq9 (b : Nat → Bool) (W : World) : (binOp .eql 22 (.agg (ib b)) (.agg #[.bool false, .bool false, .bool false, .bool false, .bool false, .bool false, .bool false, .bool false, .bool false])).run Tryd.prog W = .ok (.bool (nob b)) W := by
  unfold ib nob
  generalize b 0 = b0
  generalize b 1 = b1
  generalize b 2 = b2
  generalize b 3 = b3
  generalize b 4 = b4
  generalize b 5 = b5
  generalize b 6 = b6
  generalize b 7 = b7
  generalize b 8 = b8
  cases b0 <;> cases b1 <;> cases b2 <;> cases b3 <;> cases b4 <;> cases b5 <;> cases b6 <;> cases b7 <;> cases b8 <;> kernel_rfl
/-- from where to where numbers may be -/
def ris (a b : Int) : Bool := decide (0 ≤ a) && (decide (a ≤ b) && decide (b ≤ 10000))
def gi (b : Nat → Bool) (g : Int) : Bool := decide (1 ≤ g) && (decide (g ≤ 9) && b (g - 1).toNat)
theorem rises_calls (a b : Int) (w : World) : Calls Tryd.prog 20 #[.int .i64 a, .int .i64 b] w fun e w' => e = .returned (.bool (ris a b)) ∧ Below w.heap.size w w' := by
  unfold ris
  by_cases h1 : 0 ≤ a
  · rw [decide_eq_true h1]
    by_cases h2 : a ≤ b
    · rw [decide_eq_true h2]
      by_cases h3 : b ≤ 10000
      · rw [decide_eq_true h3]
        go_enter Tryd.func20, Tryd.ntmps20
        go_wp2
        go_ret
        exact ⟨rfl, Below.refl _ _⟩
      · rw [decide_eq_false h3]
        go_enter Tryd.func20, Tryd.ntmps20
        go_wp2
        go_ret
        exact ⟨rfl, Below.refl _ _⟩
    · rw [decide_eq_false h2]
      go_enter Tryd.func20, Tryd.ntmps20
      go_wp2
      go_ret
      exact ⟨rfl, Below.refl _ _⟩
  · rw [decide_eq_false h1]
    go_enter Tryd.func20, Tryd.ntmps20
    go_wp2
    go_ret
    exact ⟨rfl, Below.refl _ _⟩
theorem may_calls (a b : Int) (w : World) : Calls Tryd.prog 21 #[.int .i64 a, .int .i64 b] w fun e w' => e = .returned (.bool (ris a b)) ∧ Below w.heap.size w w' := by
  unfold ris
  by_cases h1 : 0 ≤ a
  · rw [decide_eq_true h1]
    by_cases h2 : a ≤ b
    · rw [decide_eq_true h2]
      by_cases h3 : b ≤ 10000
      · rw [decide_eq_true h3]
        go_enter Tryd.func21, Tryd.ntmps21
        go_wp2
        go_ret
        exact ⟨rfl, Below.refl _ _⟩
      · rw [decide_eq_false h3]
        go_enter Tryd.func21, Tryd.ntmps21
        go_wp2
        go_ret
        exact ⟨rfl, Below.refl _ _⟩
    · rw [decide_eq_false h2]
      go_enter Tryd.func21, Tryd.ntmps21
      go_wp2
      go_ret
      exact ⟨rfl, Below.refl _ _⟩
  · rw [decide_eq_false h1]
    go_enter Tryd.func21, Tryd.ntmps21
    go_wp2
    go_ret
    exact ⟨rfl, Below.refl _ _⟩
theorem gi_ge {b : Nat → Bool} {g : Int} (h : gi b g = true) : ∃ k : Nat, k < 9 ∧ g = (k : Int) + 1 ∧ b k = true := by
  unfold gi at h
  simp only [Bool.and_eq_true, decide_eq_true_eq] at h
  exact ⟨(g - 1).toNat, by omega, by omega, h.2.2⟩
theorem gi_of {b : Nat → Bool} {k : Nat} (h : k < 9) : gi b ((k : Int) + 1) = b k := by
  unfold gi
  rw [decide_eq_true (by omega), decide_eq_true (by omega), show ((k : Int) + 1 - 1).toNat = k by omega]
  rfl
theorem gi_lt {b : Nat → Bool} {g : Int} (h : g < 1 ∨ 9 < g) : gi b g = false := by
  unfold gi
  rcases h with h | h
  · rw [decide_eq_false (by omega)]; rfl
  · rw [show decide (g ≤ 9) = false from decide_eq_false (by omega)]; simp
set_option maxHeartbeats 1600000 in
theorem has_calls (b : Nat → Bool) (y : Nat → Int) (g : Int) (w : World) :
    Calls Tryd.prog 22 #[.agg (cc b y), .int .i64 g] w fun e w' => e = .returned (.bool (gi b g)) ∧ Below w.heap.size w w' := by
  have hs := cc_size b y
  by_cases h1 : g < 1
  · rw [gi_lt (.inl h1)]
    go_enter Tryd.func22, Tryd.ntmps22
    go_wp2
    go_ret
    exact ⟨rfl, below1 _ _⟩
  · by_cases h2 : 9 < g
    · rw [gi_lt (.inr h2)]
      go_enter Tryd.func22, Tryd.ntmps22
      go_wp2
      go_ret
      exact ⟨rfl, below1 _ _⟩
    · obtain ⟨k, hk⟩ : ∃ k : Nat, g = (k : Int) + 1 := ⟨(g - 1).toNat, by omega⟩
      have hk9 : k < 9 := by omega
      subst hk
      rw [gi_of hk9]
      have hx : wrap64 ((k : Int) + 1 - 1) = (k : Int) := by unfold wrap64; omega
      have a0 := blk_cell (heap_alloc_new w (.cells (cc b y) 26)) k _ (cc_is b y k hk9)
      go_enter Tryd.func22, Tryd.ntmps22
      go_wp2
      go_ret
      exact ⟨rfl, below1 _ _⟩
end Go.Proofs.YtpeccbdobdnpiaaDoor.ACap
