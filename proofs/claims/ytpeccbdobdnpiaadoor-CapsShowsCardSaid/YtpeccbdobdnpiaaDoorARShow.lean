/- Groups: the document's Show. -/
import Derived.Test.YtpeccbdobdnpiaaDoorANum
import Derived.Test.YtpeccbdobdnpiaaDoorAShow
namespace Go.Proofs.YtpeccbdobdnpiaaDoor.ARShow
open Go.RowKit CMem ACap AGet AShow Go.Proofs.YtpeccbdobdnpiaaDoorW.PrintWords Go.Proofs.YtpeccbdobdnpiaaDoorW.PrintLast Go.Proofs.YtpeccbdobdnpiaaDoorW.PrintMore
set_option linter.unusedVariables false
set_option linter.unusedSimpArgs false
set_option maxRecDepth 100000
theorem number_calls (n : Int) (h0 : -9223372036854775808 ≤ n) (h1 : n ≤ 9223372036854775807) (w : World) :
    Calls Tryd.prog 25 #[.int .i64 n] w fun e w' => e = .returned (.string (num n)) ∧ Below w.heap.size w w' :=
  Q.clewref10_number.calls 50 n _ w (ANum.number_f n h0 h1 50 (Nat.le_refl _))
/-- what is told, k groups on -/
def told (b : Nat → Bool) (y : Nat → Int) : Nat → ByteArray
  | 0 => ⟨#[]⟩
  | k + 1 => (if k = 0 then told b y k else told b y k ++ ⟨#[44]⟩) ++ item b y ((k : Int) + 1)
theorem tail_snoc (r : List (List UInt8)) (x : List UInt8) : Lib.joinTail [44] (r ++ [x]) = Lib.joinTail [44] r ++ (44 :: x) := by simp [Lib.joinTail]
theorem join_snoc (L : List (List UInt8)) (hL : L ≠ []) (x : List UInt8) : Lib.join (L ++ [x]) [44] = Lib.join L [44] ++ (44 :: x) := by
  cases L with
  | nil => exact absurd rfl hL
  | cons a r => rw [List.cons_append, Lib.join_cons, Lib.join_cons, tail_snoc, List.append_assoc]
theorem told_eq (b : Nat → Bool) (y : Nat → Int) (k : Nat) : told b y k = ⟨(shown (items b y k)).toArray⟩ := by
  induction k with
  | zero => rfl
  | succ k ih =>
    rw [told, ih, items_succ]
    apply ByteArray.ext
    apply Array.toList_inj.1
    unfold shown
    rw [List.map_append, List.map_cons, List.map_nil]
    cases k with
    | zero =>
      rw [if_pos rfl]
      show _ = (Lib.join ([] ++ _) [44]).toArray.toList
      rw [List.nil_append, Lib.join_one]
      simp [items, Lib.join_nil]
    | succ k =>
      rw [if_neg (by omega), join_snoc _ (by rw [items_succ]; simp)]
      simp
theorem told_le {b : Nat → Bool} {y : Nat → Int} (h : in64 y) (k : Nat) : (told b y k).size ≤ 44 * k := by
  rw [told_eq]
  show (shown (items b y k)).toArray.size ≤ _
  rw [List.size_toArray]
  have := shown_le (items_le (b := b) h k)
  rwa [items_len] at this
set_option maxHeartbeats 6400000 in
attribute [-go_sem] Go.loadCells in
theorem rshow_calls (b : Nat → Bool) (y : Nat → Int) (hy : in64 y) (n : Int) (m : Nat) (hm : (n < 1 ∧ m = 0) ∨ (1 ≤ n ∧ n ≤ 9 ∧ n = m) ∨ (9 < n ∧ m = 9)) (w : World) :
    Calls Tryd.prog 16 #[.agg (cc b y), .int .i64 n] w fun e w' => e = .returned (.string (told b y m)) ∧ Below w.heap.size w w' := by
  have hs := cc_size b y
  have BX := heap_alloc_new w (.cells (cc b y) 28)
  have HB0 := Lib.hid (below1 w (.cells (cc b y) 28))
  have HY := Lib.hid hy
  have hm9 : m ≤ 9 := by omega
  have HX := Lib.hid BX
  clear hy BX
  go_enter Tryd.func16, Tryd.ntmps16
  go_wp2
  generalize hW : w.alloc (.cells (cc b y) 28) = w1 at *
  clear hW
  go_loopw [5, 6] (fun v t wr => ∃ k : Nat, k ≤ m ∧ t = .int .i64 ((k : Nat) + 1) ∧ v = .string (told b y k) ∧ Hid (wr.heap[w.heap.size]? = some (.cells (cc b y) 28 (0, 0))) ∧ Hid (Below w.heap.size w wr)) (fun _ t _ => (11 - intOf t).toNat)
  case atStart => exact ⟨0, by omega, rfl, rfl, HX, HB0⟩
  case round =>
    clear HX HB0
    obtain ⟨k, hk, rfl, rfl, HX, HB⟩ := hrel
    by_cases h : k < m
    · have hk1 : (k : Int) + 1 ≤ n := by omega
      have hk2 : (k : Int) + 1 ≤ 9 := by omega
      have hk9 : k < 9 := by omega
      have hx : IntKind.i64.wrap (k : Int) = (k : Int) := by simp [IntKind.wrap, IntKind.signed, IntKind.bits]; omega
      have hx1 : wrap64 ((k : Int) + 1 - 1) = (k : Int) := by unfold wrap64; omega
      have hk3 : (k : Int) < 9 := by omega
      have ai := blk_cell HX.out k _ (cc_is b y k hk9)
      have a0 := blk_cell HX.out (9 + k * 2) _ (cc_at b y (k * 2) (by omega))
      have a1 := blk_cell HX.out (9 + (k * 2 + 1)) _ (cc_at b y (k * 2 + 1) (by omega))
      rw [← Nat.add_assoc] at a1
      have hp := HY.out (k * 2) (by omega)
      have hq := HY.out (k * 2 + 1) (by omega)
      have hbp := @get_some b y k hk9
      have hgi := @gi_of b k hk9
      have hsz := told_le (b := b) HY.out k
      have HTO : told b y (k + 1) = (if k = 0 then told b y k else told b y k ++ ⟨#[44]⟩) ++ item b y ((k : Int) + 1) := rfl
      have HIT : item b y ((k : Int) + 1) = if gi b ((k : Int) + 1) = true then num (gfr b y ((k : Int) + 1)) ++ ⟨#[45]⟩ ++ num (gto b y ((k : Int) + 1)) else ⟨#[63]⟩ := rfl
      rw [HIT] at HTO
      rw [hgi] at HTO
      clear HIT hgi
      cases hb : b k
      · rw [hb] at ai HTO
        by_cases hk0 : k = 0
        · rw [if_neg (show ¬ ((false : Bool) = true) by decide)] at HTO
          rw [if_pos hk0] at HTO
          have hk4 : ¬ (1 < (k : Int) + 1) := by omega
          clear hk0
          clear hb hbp
          generalize told b y k = S at *
          have HTU := Lib.hid HTO
          clear HTO
          clear a0 a1
          go_wp2
          go_roundw
          case rel => exact ⟨k + 1, by omega, by simp, by rw [HTU.out], HX, HB⟩
          case measure => simp [intOf] <;> omega
        · rw [if_neg (show ¬ ((false : Bool) = true) by decide)] at HTO
          rw [if_neg hk0] at HTO
          have hk4 : (1 < (k : Int) + 1) := by omega
          clear hk0
          clear hb hbp
          generalize told b y k = S at *
          have HTU := Lib.hid HTO
          clear HTO
          clear a0 a1
          go_wp2
          go_roundw
          case rel => exact ⟨k + 1, by omega, by simp, by rw [HTU.out], HX, HB⟩
          case measure => simp [intOf] <;> omega
      · rw [hb] at ai HTO
        by_cases hk0 : k = 0
        · rw [if_pos (show ((true : Bool) = true) by decide)] at HTO
          rw [if_pos hk0] at HTO
          have hk4 : ¬ (1 < (k : Int) + 1) := by omega
          clear hk0
          obtain ⟨e1, e2⟩ := hbp hb
          rw [e1, e2] at HTO
          clear e1 e2
          clear hb hbp
          generalize told b y k = S at *
          have HTU := Lib.hid HTO
          clear HTO
          obtain ⟨p0, p1⟩ := hp
          obtain ⟨q0, q1⟩ := hq
          generalize y (k * 2) = p at *
          generalize y (k * 2 + 1) = q at *
          have ki := number_calls p p0 p1
          have kj := number_calls q q0 q1
          have hnp := num_size p0 p1
          have hnq := num_size q0 q1
          generalize num p = sp at *
          generalize num q = sq at *
          have KI := Lib.hid ki
          have KJ := Lib.hid kj
          clear ki kj p0 p1 q0 q1
          have HC := Lib.hid (show (⟨#[45]⟩ : ByteArray).size = 1 from rfl)
          have c1 : (9223372036854775807 < sp.size + 1) = False := eq_false (by omega)
          have c2 : (9223372036854775807 < sp.size + 1 + sq.size) = False := eq_false (by omega)
          have c3 : (9223372036854775807 < S.size + (sp.size + 1 + sq.size)) = False := eq_false (by omega)
          have c4 : (9223372036854775807 < S.size + 1 + (sp.size + 1 + sq.size)) = False := eq_false (by omega)
          go_wp2
          refine start_ (n := 19) (S := fun w' => w'.cell? ⟨w.heap.size, 9 + k * 2, none⟩ = some (.int .i64 p) ∧ w'.cell? ⟨w.heap.size, 9 + k * 2 + 1, none⟩ = some (.int .i64 q) ∧ w'.heap[w.heap.size]? = some (.cells (cc b y) 28 (0, 0)) ∧ Below w.heap.size w w') (ds := []) #[false, false, false, false, false, false, false, false, false, false, false, false, false, false, false, false, false, false, false] (by kernel_rfl) rfl rfl ⟨a0, a1, HX.out, HB.out.drew⟩ (fun hHeld => ?_)
          refine pure_ (i := 0) (N := some 25) (v := ?_) (a' := ?_) #[true, false, false, false, false, false, false, false, false, false, false, false, false, false, false, false, false, false, false] rfl rfl (by kernel_rfl) (fun _ _ _ h => h) (Or.inl ⟨by rfl, ?_⟩) ?_ ?_
          rotate_left
          · intro w'
            go_simp
            with_reducible rfl
          rotate_left
          · simp only [Act.put, List.setIfInBounds_toArray, List.set_cons_zero, List.set_cons_succ, i64_w, i32_w]
            rfl
          refine pure_ (i := 1) (N := some 26) (v := ?_) (a' := ?_) #[true, true, false, false, false, false, false, false, false, false, false, false, false, false, false, false, false, false, false] rfl rfl (by kernel_rfl) (fun _ _ _ h => h) (Or.inl ⟨by rfl, ?_⟩) ?_ ?_
          rotate_left
          · intro w'
            go_simp
            with_reducible rfl
          rotate_left
          · simp only [Act.put, List.setIfInBounds_toArray, List.set_cons_zero, List.set_cons_succ, i64_w, i32_w]
            rfl
          refine pure_ (i := 2) (N := some 27) (v := ?_) (a' := ?_) #[true, true, true, false, false, false, false, false, false, false, false, false, false, false, false, false, false, false, false] rfl rfl (by kernel_rfl) (fun _ _ _ h => h) (Or.inl ⟨by rfl, ?_⟩) ?_ ?_
          rotate_left
          · intro w'
            go_simp
            with_reducible rfl
          rotate_left
          · simp only [Act.put, List.setIfInBounds_toArray, List.set_cons_zero, List.set_cons_succ, i64_w, i32_w]
            rfl
          refine pure_ (i := 3) (N := some 28) (v := ?_) (a' := ?_) #[true, true, true, true, false, false, false, false, false, false, false, false, false, false, false, false, false, false, false] rfl rfl (by kernel_rfl) (fun _ _ _ h => h) (Or.inl ⟨by rfl, ?_⟩) ?_ ?_
          rotate_left
          · intro w'
            go_simp
            with_reducible rfl
          rotate_left
          · simp only [Act.put, List.setIfInBounds_toArray, List.set_cons_zero, List.set_cons_succ, i64_w, i32_w]
            rfl
          refine pure_ (i := 4) (N := some 29) (v := ?_) (a' := ?_) #[true, true, true, true, true, false, false, false, false, false, false, false, false, false, false, false, false, false, false] rfl rfl (by kernel_rfl) (fun _ _ _ h => h) (Or.inl ⟨by rfl, ?_⟩) ?_ ?_
          rotate_left
          · intro w'
            go_simp
            with_reducible rfl
          rotate_left
          · simp only [Act.put, List.setIfInBounds_toArray, List.set_cons_zero, List.set_cons_succ, i64_w, i32_w]
            rfl
          refine pure_ (i := 5) (N := some 30) (v := ?_) (a' := ?_) #[true, true, true, true, true, true, false, false, false, false, false, false, false, false, false, false, false, false, false] rfl rfl (by kernel_rfl) (fun _ _ _ h => h) (Or.inl ⟨by rfl, ?_⟩) ?_ ?_
          rotate_left
          · intro w'
            go_simp
            with_reducible rfl
          rotate_left
          · simp only [Act.put, List.setIfInBounds_toArray, List.set_cons_zero, List.set_cons_succ, i64_w, i32_w]
            rfl
          refine pure_ (i := 9) (N := some 34) (v := ?_) (a' := ?_) #[true, true, true, true, true, true, false, false, false, true, false, false, false, false, false, false, false, false, false] rfl rfl (by kernel_rfl) (fun _ _ _ h => h) (Or.inl ⟨by rfl, ?_⟩) ?_ ?_
          rotate_left
          · intro w'
            go_simp
            with_reducible rfl
          rotate_left
          · simp only [Act.put, List.setIfInBounds_toArray, List.set_cons_zero, List.set_cons_succ, i64_w, i32_w]
            rfl
          refine pure_ (i := 10) (N := some 35) (v := ?_) (a' := ?_) #[true, true, true, true, true, true, false, false, false, true, true, false, false, false, false, false, false, false, false] rfl rfl (by kernel_rfl) (fun _ _ _ h => h) (Or.inl ⟨by rfl, ?_⟩) ?_ ?_
          rotate_left
          · intro w'
            go_simp
            with_reducible rfl
          rotate_left
          · simp only [Act.put, List.setIfInBounds_toArray, List.set_cons_zero, List.set_cons_succ, i64_w, i32_w]
            rfl
          refine pure_ (i := 11) (N := some 36) (v := ?_) (a' := ?_) #[true, true, true, true, true, true, false, false, false, true, true, true, false, false, false, false, false, false, false] rfl rfl (by kernel_rfl) (fun _ _ _ h => h) (Or.inl ⟨by rfl, ?_⟩) ?_ ?_
          rotate_left
          · intro w'
            go_simp
            with_reducible rfl
          rotate_left
          · simp only [Act.put, List.setIfInBounds_toArray, List.set_cons_zero, List.set_cons_succ, i64_w, i32_w]
            rfl
          refine pure_ (i := 12) (N := some 37) (v := ?_) (a' := ?_) #[true, true, true, true, true, true, false, false, false, true, true, true, true, false, false, false, false, false, false] rfl rfl (by kernel_rfl) (fun _ _ _ h => h) (Or.inl ⟨by rfl, ?_⟩) ?_ ?_
          rotate_left
          · intro w'
            go_simp
            with_reducible rfl
          rotate_left
          · simp only [Act.put, List.setIfInBounds_toArray, List.set_cons_zero, List.set_cons_succ, i64_w, i32_w]
            rfl
          refine pure_ (i := 13) (N := some 38) (v := ?_) (a' := ?_) #[true, true, true, true, true, true, false, false, false, true, true, true, true, true, false, false, false, false, false] rfl rfl (by kernel_rfl) (fun _ _ _ h => h) (Or.inl ⟨by rfl, ?_⟩) ?_ ?_
          rotate_left
          · intro w'
            go_simp
            with_reducible rfl
          rotate_left
          · simp only [Act.put, List.setIfInBounds_toArray, List.set_cons_zero, List.set_cons_succ, i64_w, i32_w]
            rfl
          refine take_ (i := 6) (N := some 31) (v := ?_) (a' := ?_) #[true, true, true, true, true, true, true, false, false, true, true, true, true, true, false, false, false, false, false] rfl rfl (by kernel_rfl) (fun _ _ _ h => h) (Or.inl ⟨by rfl, ?_⟩) hHeld ?_ ?_
          rotate_left
          · rintro w' ⟨s0, s1, s2, s3⟩
            go_simp
            with_reducible rfl
          rotate_left
          · simp only [Act.put, List.setIfInBounds_toArray, List.set_cons_zero, List.set_cons_succ, i64_w, i32_w]
            rfl
          refine take_ (i := 14) (N := some 39) (v := ?_) (a' := ?_) #[true, true, true, true, true, true, true, false, false, true, true, true, true, true, true, false, false, false, false] rfl rfl (by kernel_rfl) (fun _ _ _ h => h) (Or.inl ⟨by rfl, ?_⟩) hHeld ?_ ?_
          rotate_left
          · rintro w' ⟨s0, s1, s2, s3⟩
            go_simp
            with_reducible rfl
          rotate_left
          · simp only [Act.put, List.setIfInBounds_toArray, List.set_cons_zero, List.set_cons_succ, i64_w, i32_w]
            rfl
          refine one_ (i := 7) (N := some 32) #[true, true, true, true, true, true, true, true, false, true, true, true, true, true, true, false, false, false, false] rfl rfl (by kernel_rfl) (by decide) (fun K hK => ?_)
          refine goes_ Tryd.func25 (by kernel_rfl) rfl #[.int .i64 p] (by rfl) rfl rfl (by simp only [List.map_toArray, List.map_cons, List.map_nil]; rfl) ?_
          with_reducible refine (KI.out _).mono ?_
          rintro e X1 ⟨rfl, hb⟩
          refine ⟨_, rfl, ?_⟩
          refine hK.out _ _ ⟨(below_of hb hHeld.1), (below_of hb hHeld.2.1), (below_blk hb hHeld.2.2.1), (below_step hHeld.2.2.2 hb)⟩ (fun hHeld => ?_)
          clear hK K
          refine norm_ (a' := ?_) ?_ ?_
          rotate_left
          · show Act.put _ (some 32) _ = _
            simp only [Act.put, List.setIfInBounds_toArray, List.set_cons_zero, List.set_cons_succ, i64_w, i32_w]
            rfl
          refine pure_ (i := 8) (N := some 33) (v := ?_) (a' := ?_) #[true, true, true, true, true, true, true, true, true, true, true, true, true, true, true, false, false, false, false] rfl rfl (by kernel_rfl) (fun _ _ _ h => h) (Or.inl ⟨by rfl, ?_⟩) ?_ ?_
          rotate_left
          · intro w'
            go_simp
            with_reducible rfl
          rotate_left
          · simp only [Act.put, List.setIfInBounds_toArray, List.set_cons_zero, List.set_cons_succ, i64_w, i32_w]
            rfl
          refine one_ (i := 15) (N := some 40) #[true, true, true, true, true, true, true, true, true, true, true, true, true, true, true, true, false, false, false] rfl rfl (by kernel_rfl) (by decide) (fun K hK => ?_)
          refine goes_ Tryd.func25 (by kernel_rfl) rfl #[.int .i64 q] (by rfl) rfl rfl (by simp only [List.map_toArray, List.map_cons, List.map_nil]; rfl) ?_
          with_reducible refine (KJ.out _).mono ?_
          rintro e X2 ⟨rfl, hb⟩
          refine ⟨_, rfl, ?_⟩
          refine hK.out _ _ ⟨(below_of hb hHeld.1), (below_of hb hHeld.2.1), (below_blk hb hHeld.2.2.1), (below_step hHeld.2.2.2 hb)⟩ (fun hHeld => ?_)
          clear hK K
          refine norm_ (a' := ?_) ?_ ?_
          rotate_left
          · show Act.put _ (some 40) _ = _
            simp only [Act.put, List.setIfInBounds_toArray, List.set_cons_zero, List.set_cons_succ, i64_w, i32_w]
            rfl
          refine pure_ (i := 16) (N := some 41) (v := ?_) (a' := ?_) #[true, true, true, true, true, true, true, true, true, true, true, true, true, true, true, true, true, false, false] rfl rfl (by kernel_rfl) (fun _ _ _ h => h) (Or.inl ⟨by rfl, ?_⟩) ?_ ?_
          rotate_left
          · intro w'
            go_simp
            with_reducible rfl
          rotate_left
          · simp only [Act.put, List.setIfInBounds_toArray, List.set_cons_zero, List.set_cons_succ, i64_w, i32_w]
            rfl
          refine pure_ (i := 17) (N := some 42) (v := ?_) (a' := ?_) #[true, true, true, true, true, true, true, true, true, true, true, true, true, true, true, true, true, true, false] rfl rfl (by kernel_rfl) (fun _ _ _ h => h) (Or.inl ⟨by rfl, ?_⟩) ?_ ?_
          rotate_left
          · intro w'
            go_simp
            with_reducible rfl
          rotate_left
          · simp only [Act.put, List.setIfInBounds_toArray, List.set_cons_zero, List.set_cons_succ, i64_w, i32_w]
            rfl
          refine pure_ (i := 18) (N := some 5) (v := ?_) (a' := ?_) #[true, true, true, true, true, true, true, true, true, true, true, true, true, true, true, true, true, true, true] rfl rfl (by kernel_rfl) (fun _ _ _ h => h) (Or.inl ⟨by rfl, ?_⟩) ?_ ?_
          rotate_left
          · intro w'
            go_simp
            with_reducible rfl
          rotate_left
          · simp only [Act.put, List.setIfInBounds_toArray, List.set_cons_zero, List.set_cons_succ, i64_w, i32_w]
            rfl
          refine done_ (by kernel_rfl) ?_
          go_wp2
          go_roundw
          case rel => exact ⟨k + 1, by omega, by simp, by rw [HTU.out], Lib.hid hHeld.2.2.1, Lib.hid hHeld.2.2.2⟩
          case measure => simp [intOf] <;> omega
        · rw [if_pos (show ((true : Bool) = true) by decide)] at HTO
          rw [if_neg hk0] at HTO
          have hk4 : (1 < (k : Int) + 1) := by omega
          clear hk0
          obtain ⟨e1, e2⟩ := hbp hb
          rw [e1, e2] at HTO
          clear e1 e2
          clear hb hbp
          generalize told b y k = S at *
          have HTU := Lib.hid HTO
          clear HTO
          obtain ⟨p0, p1⟩ := hp
          obtain ⟨q0, q1⟩ := hq
          generalize y (k * 2) = p at *
          generalize y (k * 2 + 1) = q at *
          have ki := number_calls p p0 p1
          have kj := number_calls q q0 q1
          have hnp := num_size p0 p1
          have hnq := num_size q0 q1
          generalize num p = sp at *
          generalize num q = sq at *
          have KI := Lib.hid ki
          have KJ := Lib.hid kj
          clear ki kj p0 p1 q0 q1
          have HC := Lib.hid (show (⟨#[45]⟩ : ByteArray).size = 1 from rfl)
          have c1 : (9223372036854775807 < sp.size + 1) = False := eq_false (by omega)
          have c2 : (9223372036854775807 < sp.size + 1 + sq.size) = False := eq_false (by omega)
          have c3 : (9223372036854775807 < S.size + (sp.size + 1 + sq.size)) = False := eq_false (by omega)
          have c4 : (9223372036854775807 < S.size + 1 + (sp.size + 1 + sq.size)) = False := eq_false (by omega)
          go_wp2
          refine start_ (n := 19) (S := fun w' => w'.cell? ⟨w.heap.size, 9 + k * 2, none⟩ = some (.int .i64 p) ∧ w'.cell? ⟨w.heap.size, 9 + k * 2 + 1, none⟩ = some (.int .i64 q) ∧ w'.heap[w.heap.size]? = some (.cells (cc b y) 28 (0, 0)) ∧ Below w.heap.size w w') (ds := []) #[false, false, false, false, false, false, false, false, false, false, false, false, false, false, false, false, false, false, false] (by kernel_rfl) rfl rfl ⟨a0, a1, HX.out, HB.out.drew⟩ (fun hHeld => ?_)
          refine pure_ (i := 0) (N := some 25) (v := ?_) (a' := ?_) #[true, false, false, false, false, false, false, false, false, false, false, false, false, false, false, false, false, false, false] rfl rfl (by kernel_rfl) (fun _ _ _ h => h) (Or.inl ⟨by rfl, ?_⟩) ?_ ?_
          rotate_left
          · intro w'
            go_simp
            with_reducible rfl
          rotate_left
          · simp only [Act.put, List.setIfInBounds_toArray, List.set_cons_zero, List.set_cons_succ, i64_w, i32_w]
            rfl
          refine pure_ (i := 1) (N := some 26) (v := ?_) (a' := ?_) #[true, true, false, false, false, false, false, false, false, false, false, false, false, false, false, false, false, false, false] rfl rfl (by kernel_rfl) (fun _ _ _ h => h) (Or.inl ⟨by rfl, ?_⟩) ?_ ?_
          rotate_left
          · intro w'
            go_simp
            with_reducible rfl
          rotate_left
          · simp only [Act.put, List.setIfInBounds_toArray, List.set_cons_zero, List.set_cons_succ, i64_w, i32_w]
            rfl
          refine pure_ (i := 2) (N := some 27) (v := ?_) (a' := ?_) #[true, true, true, false, false, false, false, false, false, false, false, false, false, false, false, false, false, false, false] rfl rfl (by kernel_rfl) (fun _ _ _ h => h) (Or.inl ⟨by rfl, ?_⟩) ?_ ?_
          rotate_left
          · intro w'
            go_simp
            with_reducible rfl
          rotate_left
          · simp only [Act.put, List.setIfInBounds_toArray, List.set_cons_zero, List.set_cons_succ, i64_w, i32_w]
            rfl
          refine pure_ (i := 3) (N := some 28) (v := ?_) (a' := ?_) #[true, true, true, true, false, false, false, false, false, false, false, false, false, false, false, false, false, false, false] rfl rfl (by kernel_rfl) (fun _ _ _ h => h) (Or.inl ⟨by rfl, ?_⟩) ?_ ?_
          rotate_left
          · intro w'
            go_simp
            with_reducible rfl
          rotate_left
          · simp only [Act.put, List.setIfInBounds_toArray, List.set_cons_zero, List.set_cons_succ, i64_w, i32_w]
            rfl
          refine pure_ (i := 4) (N := some 29) (v := ?_) (a' := ?_) #[true, true, true, true, true, false, false, false, false, false, false, false, false, false, false, false, false, false, false] rfl rfl (by kernel_rfl) (fun _ _ _ h => h) (Or.inl ⟨by rfl, ?_⟩) ?_ ?_
          rotate_left
          · intro w'
            go_simp
            with_reducible rfl
          rotate_left
          · simp only [Act.put, List.setIfInBounds_toArray, List.set_cons_zero, List.set_cons_succ, i64_w, i32_w]
            rfl
          refine pure_ (i := 5) (N := some 30) (v := ?_) (a' := ?_) #[true, true, true, true, true, true, false, false, false, false, false, false, false, false, false, false, false, false, false] rfl rfl (by kernel_rfl) (fun _ _ _ h => h) (Or.inl ⟨by rfl, ?_⟩) ?_ ?_
          rotate_left
          · intro w'
            go_simp
            with_reducible rfl
          rotate_left
          · simp only [Act.put, List.setIfInBounds_toArray, List.set_cons_zero, List.set_cons_succ, i64_w, i32_w]
            rfl
          refine pure_ (i := 9) (N := some 34) (v := ?_) (a' := ?_) #[true, true, true, true, true, true, false, false, false, true, false, false, false, false, false, false, false, false, false] rfl rfl (by kernel_rfl) (fun _ _ _ h => h) (Or.inl ⟨by rfl, ?_⟩) ?_ ?_
          rotate_left
          · intro w'
            go_simp
            with_reducible rfl
          rotate_left
          · simp only [Act.put, List.setIfInBounds_toArray, List.set_cons_zero, List.set_cons_succ, i64_w, i32_w]
            rfl
          refine pure_ (i := 10) (N := some 35) (v := ?_) (a' := ?_) #[true, true, true, true, true, true, false, false, false, true, true, false, false, false, false, false, false, false, false] rfl rfl (by kernel_rfl) (fun _ _ _ h => h) (Or.inl ⟨by rfl, ?_⟩) ?_ ?_
          rotate_left
          · intro w'
            go_simp
            with_reducible rfl
          rotate_left
          · simp only [Act.put, List.setIfInBounds_toArray, List.set_cons_zero, List.set_cons_succ, i64_w, i32_w]
            rfl
          refine pure_ (i := 11) (N := some 36) (v := ?_) (a' := ?_) #[true, true, true, true, true, true, false, false, false, true, true, true, false, false, false, false, false, false, false] rfl rfl (by kernel_rfl) (fun _ _ _ h => h) (Or.inl ⟨by rfl, ?_⟩) ?_ ?_
          rotate_left
          · intro w'
            go_simp
            with_reducible rfl
          rotate_left
          · simp only [Act.put, List.setIfInBounds_toArray, List.set_cons_zero, List.set_cons_succ, i64_w, i32_w]
            rfl
          refine pure_ (i := 12) (N := some 37) (v := ?_) (a' := ?_) #[true, true, true, true, true, true, false, false, false, true, true, true, true, false, false, false, false, false, false] rfl rfl (by kernel_rfl) (fun _ _ _ h => h) (Or.inl ⟨by rfl, ?_⟩) ?_ ?_
          rotate_left
          · intro w'
            go_simp
            with_reducible rfl
          rotate_left
          · simp only [Act.put, List.setIfInBounds_toArray, List.set_cons_zero, List.set_cons_succ, i64_w, i32_w]
            rfl
          refine pure_ (i := 13) (N := some 38) (v := ?_) (a' := ?_) #[true, true, true, true, true, true, false, false, false, true, true, true, true, true, false, false, false, false, false] rfl rfl (by kernel_rfl) (fun _ _ _ h => h) (Or.inl ⟨by rfl, ?_⟩) ?_ ?_
          rotate_left
          · intro w'
            go_simp
            with_reducible rfl
          rotate_left
          · simp only [Act.put, List.setIfInBounds_toArray, List.set_cons_zero, List.set_cons_succ, i64_w, i32_w]
            rfl
          refine take_ (i := 6) (N := some 31) (v := ?_) (a' := ?_) #[true, true, true, true, true, true, true, false, false, true, true, true, true, true, false, false, false, false, false] rfl rfl (by kernel_rfl) (fun _ _ _ h => h) (Or.inl ⟨by rfl, ?_⟩) hHeld ?_ ?_
          rotate_left
          · rintro w' ⟨s0, s1, s2, s3⟩
            go_simp
            with_reducible rfl
          rotate_left
          · simp only [Act.put, List.setIfInBounds_toArray, List.set_cons_zero, List.set_cons_succ, i64_w, i32_w]
            rfl
          refine take_ (i := 14) (N := some 39) (v := ?_) (a' := ?_) #[true, true, true, true, true, true, true, false, false, true, true, true, true, true, true, false, false, false, false] rfl rfl (by kernel_rfl) (fun _ _ _ h => h) (Or.inl ⟨by rfl, ?_⟩) hHeld ?_ ?_
          rotate_left
          · rintro w' ⟨s0, s1, s2, s3⟩
            go_simp
            with_reducible rfl
          rotate_left
          · simp only [Act.put, List.setIfInBounds_toArray, List.set_cons_zero, List.set_cons_succ, i64_w, i32_w]
            rfl
          refine one_ (i := 7) (N := some 32) #[true, true, true, true, true, true, true, true, false, true, true, true, true, true, true, false, false, false, false] rfl rfl (by kernel_rfl) (by decide) (fun K hK => ?_)
          refine goes_ Tryd.func25 (by kernel_rfl) rfl #[.int .i64 p] (by rfl) rfl rfl (by simp only [List.map_toArray, List.map_cons, List.map_nil]; rfl) ?_
          with_reducible refine (KI.out _).mono ?_
          rintro e X1 ⟨rfl, hb⟩
          refine ⟨_, rfl, ?_⟩
          refine hK.out _ _ ⟨(below_of hb hHeld.1), (below_of hb hHeld.2.1), (below_blk hb hHeld.2.2.1), (below_step hHeld.2.2.2 hb)⟩ (fun hHeld => ?_)
          clear hK K
          refine norm_ (a' := ?_) ?_ ?_
          rotate_left
          · show Act.put _ (some 32) _ = _
            simp only [Act.put, List.setIfInBounds_toArray, List.set_cons_zero, List.set_cons_succ, i64_w, i32_w]
            rfl
          refine pure_ (i := 8) (N := some 33) (v := ?_) (a' := ?_) #[true, true, true, true, true, true, true, true, true, true, true, true, true, true, true, false, false, false, false] rfl rfl (by kernel_rfl) (fun _ _ _ h => h) (Or.inl ⟨by rfl, ?_⟩) ?_ ?_
          rotate_left
          · intro w'
            go_simp
            with_reducible rfl
          rotate_left
          · simp only [Act.put, List.setIfInBounds_toArray, List.set_cons_zero, List.set_cons_succ, i64_w, i32_w]
            rfl
          refine one_ (i := 15) (N := some 40) #[true, true, true, true, true, true, true, true, true, true, true, true, true, true, true, true, false, false, false] rfl rfl (by kernel_rfl) (by decide) (fun K hK => ?_)
          refine goes_ Tryd.func25 (by kernel_rfl) rfl #[.int .i64 q] (by rfl) rfl rfl (by simp only [List.map_toArray, List.map_cons, List.map_nil]; rfl) ?_
          with_reducible refine (KJ.out _).mono ?_
          rintro e X2 ⟨rfl, hb⟩
          refine ⟨_, rfl, ?_⟩
          refine hK.out _ _ ⟨(below_of hb hHeld.1), (below_of hb hHeld.2.1), (below_blk hb hHeld.2.2.1), (below_step hHeld.2.2.2 hb)⟩ (fun hHeld => ?_)
          clear hK K
          refine norm_ (a' := ?_) ?_ ?_
          rotate_left
          · show Act.put _ (some 40) _ = _
            simp only [Act.put, List.setIfInBounds_toArray, List.set_cons_zero, List.set_cons_succ, i64_w, i32_w]
            rfl
          refine pure_ (i := 16) (N := some 41) (v := ?_) (a' := ?_) #[true, true, true, true, true, true, true, true, true, true, true, true, true, true, true, true, true, false, false] rfl rfl (by kernel_rfl) (fun _ _ _ h => h) (Or.inl ⟨by rfl, ?_⟩) ?_ ?_
          rotate_left
          · intro w'
            go_simp
            with_reducible rfl
          rotate_left
          · simp only [Act.put, List.setIfInBounds_toArray, List.set_cons_zero, List.set_cons_succ, i64_w, i32_w]
            rfl
          refine pure_ (i := 17) (N := some 42) (v := ?_) (a' := ?_) #[true, true, true, true, true, true, true, true, true, true, true, true, true, true, true, true, true, true, false] rfl rfl (by kernel_rfl) (fun _ _ _ h => h) (Or.inl ⟨by rfl, ?_⟩) ?_ ?_
          rotate_left
          · intro w'
            go_simp
            with_reducible rfl
          rotate_left
          · simp only [Act.put, List.setIfInBounds_toArray, List.set_cons_zero, List.set_cons_succ, i64_w, i32_w]
            rfl
          refine pure_ (i := 18) (N := some 5) (v := ?_) (a' := ?_) #[true, true, true, true, true, true, true, true, true, true, true, true, true, true, true, true, true, true, true] rfl rfl (by kernel_rfl) (fun _ _ _ h => h) (Or.inl ⟨by rfl, ?_⟩) ?_ ?_
          rotate_left
          · intro w'
            go_simp
            with_reducible rfl
          rotate_left
          · simp only [Act.put, List.setIfInBounds_toArray, List.set_cons_zero, List.set_cons_succ, i64_w, i32_w]
            rfl
          refine done_ (by kernel_rfl) ?_
          go_wp2
          go_roundw
          case rel => exact ⟨k + 1, by omega, by simp, by rw [HTU.out], Lib.hid hHeld.2.2.1, Lib.hid hHeld.2.2.2⟩
          case measure => simp [intOf] <;> omega
    · obtain rfl : k = m := by omega
      have hmn : ¬ ((k : Int) + 1 ≤ n) ∨ ¬ ((k : Int) + 1 ≤ 9) := by omega
      by_cases h1 : (k : Int) + 1 ≤ n
      · have h2 : ¬ ((k : Int) + 1 ≤ 9) := by omega
        clear hm hmn hm9
        go_wp2
        go_ret
        exact ⟨rfl, HB.out⟩
      · clear hm hmn hm9
        go_wp2
        go_ret
        exact ⟨rfl, HB.out⟩
end Go.Proofs.YtpeccbdobdnpiaaDoor.ARShow
