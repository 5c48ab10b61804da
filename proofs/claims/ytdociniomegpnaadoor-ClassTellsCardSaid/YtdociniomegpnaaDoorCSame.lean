/- Runs: the same? -/
import Derived.Test.YtdociniomegpnaaDoorCRuns
import Derived.Test.YtdociniomegpnaaDoorCEqs
namespace Go.Proofs.YtdociniomegpnaaDoor.CSame
open Go.RowKit CMem CBits CSet CMake COps CRng CRuns CEqs Go.Proofs.YtdociniomegpnaaDoorW.PrintWords Go.Proofs.YtdociniomegpnaaDoorW.PrintLast Go.Proofs.YtdociniomegpnaaDoorW.PrintMore
set_option linter.unusedVariables false
set_option linter.unusedSimpArgs false

theorem arr2_run (d : Nat) (x0 x1 y0 y1 : Int) (W : World) : (Op.equalIn (d + 2) 53 (.agg #[.int .u8 x0, .int .u8 x1]) (.agg #[.int .u8 y0, .int .u8 y1])).run Tryd.prog W = .ok (x0 == y0 && x1 == y1) W := by
  obtain ⟨i, hi⟩ : ∃ i, Tryd.prog.info? 5 = some i := ⟨_, rfl⟩
  have hc : Tryd.prog.cellsOf 5 = 1 := by kernel_rfl
  have he : ∀ a b W, (Op.equalIn (d + 1) 5 (.int .u8 a) (.int .u8 b)).run Tryd.prog W = .ok (a == b) W := fun a b W => run_equalIn_int W d _ .u8 .u8 a b Tryd.underlying5
  have p0 : ∀ (a b : Int) W, (part 5 #[.int .u8 a, .int .u8 b] (0 * 1)).run Tryd.prog W = .ok (.int .u8 a) W := fun a b W => by kernel_rfl
  have p1 : ∀ (a b : Int) W, (part 5 #[.int .u8 a, .int .u8 b] (1 * 1)).run Tryd.prog W = .ok (.int .u8 b) W := fun a b W => by kernel_rfl
  rw [run_equalIn_array W (d + 1) _ _ Tryd.underlying53 hi, hc]
  show (Op.eqItems (d + 1) 5 1 _ _ [0, 1]).run Tryd.prog W = _
  simp only [Op.eqItems, Sem.run_bind, p0, p1, Result.andThen_ok, he, Sem.run_ite, Sem.run_pure]
  cases (x0 == y0) <;> cases (x1 == y1) <;> rfl
theorem arr2_neq (x0 x1 y0 y1 : Int) (W : World) : (binOp .neq 53 (.agg #[.int .u8 x0, .int .u8 x1]) (.agg #[.int .u8 y0, .int .u8 y1])).run Tryd.prog W = .ok (.bool (!(x0 == y0 && x1 == y1))) W := by
  rw [run_neq_struct, arr2_run 9998]
  rfl
/-- a slice of runs, to be read -/
def Row (w : World) (v : Value) (L : List (Nat × Nat)) : Prop := (v = .slice none 0 0 ∧ L = []) ∨ ∃ g cap, v = .slice (some ⟨g, 0, none⟩) L.length cap ∧ ∀ i (h : i < L.length), w.cell? ⟨g, i * 2, none⟩ = some (.int .u8 (L[i].1 : Nat)) ∧ w.cell? ⟨g, i * 2 + 1, none⟩ = some (.int .u8 (L[i].2 : Nat))
theorem prs_length (L : List (Nat × Nat)) : (prs L).length = L.length * 2 := by
  induction L with
  | nil => rfl
  | cons a L ih =>
    rw [show prs (a :: L) = .int .u8 (a.1 : Nat) :: .int .u8 (a.2 : Nat) :: prs L from rfl]
    simp only [List.length_cons, ih]
    omega
theorem prs_at (L : List (Nat × Nat)) (i : Nat) (h : i < L.length) : (prs L)[i * 2]? = some (.int .u8 (L[i].1 : Nat)) ∧ (prs L)[i * 2 + 1]? = some (.int .u8 (L[i].2 : Nat)) := by
  induction L generalizing i with
  | nil => simp at h
  | cons a L ih =>
    cases i with
    | zero => exact ⟨rfl, rfl⟩
    | succ i =>
      have := ih i (by simpa using h)
      constructor
      · rw [show (i + 1) * 2 = i * 2 + 2 by omega]; exact this.1
      · rw [show (i + 1) * 2 + 1 = i * 2 + 1 + 2 by omega]; exact this.2
theorem Row.of_owns {w : World} {B : Nat} {v : Value} {L : List (Nat × Nat)} (h : w.ownsRow B 53 2 v L.length (prs L)) : Row w v L := by
  rcases h.2 with ⟨q2, q3⟩ | ⟨g, cap, cur, q2, q3, q4, q5⟩
  · exact .inl ⟨q2, List.length_eq_zero_iff.1 q3⟩
  · refine .inr ⟨g, cap, q2, fun i hi => ?_⟩
    rw [q2] at h
    have hp := prs_length L
    have ha := prs_at L i hi
    exact ⟨(h.cellAt (i * 2) (by omega)).trans ha.1, (h.cellAt (i * 2 + 1) (by omega)).trans ha.2⟩
theorem Row.below {w w' : World} {v : Value} {L : List (Nat × Nat)} (h : Row w v L) (hb : Below w.heap.size w w') : Row w' v L := by
  rcases h with h | ⟨g, cap, h1, h2⟩
  · exact .inl h
  · exact .inr ⟨g, cap, h1, fun i hi => ⟨below_of hb (h2 i hi).1, below_of hb (h2 i hi).2⟩⟩
set_option maxRecDepth 100000 in
set_option maxHeartbeats 6400000 in
attribute [-go_sem] Go.run_neq_struct in
theorem runs_walk (g1 c1 g2 c2 : Nat) (L M : List (Nat × Nat)) (w : World) (hl : L.length ≤ 300) (hm : M.length ≤ 300) (h1 : ∀ i (h : i < L.length), w.cell? ⟨g1, i * 2, none⟩ = some (.int .u8 (L[i].1 : Nat)) ∧ w.cell? ⟨g1, i * 2 + 1, none⟩ = some (.int .u8 (L[i].2 : Nat)))
    (h2 : ∀ i (h : i < M.length), w.cell? ⟨g2, i * 2, none⟩ = some (.int .u8 (M[i].1 : Nat)) ∧ w.cell? ⟨g2, i * 2 + 1, none⟩ = some (.int .u8 (M[i].2 : Nat))) :
    Calls Tryd.prog 16 #[.slice (some ⟨g1, 0, none⟩) L.length c1, .slice (some ⟨g2, 0, none⟩) M.length c2] w fun e w' => e = .returned (.bool (decide (L = M))) ∧ Below w.heap.size w w' := by
  have H1 := Lib.hid h1
  have H2 := Lib.hid h2
  clear h1 h2
  by_cases hlm : L.length = M.length
  · obtain ⟨n, hn⟩ : ∃ n, L.length = n := ⟨_, rfl⟩
    have hn' : M.length = n := by omega
    have HN := Lib.hid hn
    have HN' := Lib.hid hn'
    rw [hn, hn']
    rw [hn] at hl
    clear hlm hn hn' hm
    go_enter Tryd.func16, Tryd.ntmps16
    go_wp2
    go_loopw [5] (fun t wr => ∃ k : Nat, k ≤ n ∧ t = .int .i64 (k : Nat) ∧ Hid (∀ i, i < k → L[i]? = M[i]?) ∧ Hid (Below w.heap.size w wr)) (fun t _ => n - (intOf t).toNat)
    case atStart => exact ⟨0, by omega, rfl, Lib.hid (fun i h => by omega), Lib.hid (Below.refl _ _)⟩
    case round =>
      obtain ⟨k, hk, rfl, HE, HB⟩ := hrel
      by_cases h : k < n
      · have kL : k < L.length := by have := HN.out; omega
        have kM : k < M.length := by have := HN'.out; omega
        obtain ⟨a0, a1⟩ := And.imp (below_of HB.out) (below_of HB.out) (H1.out k kL)
        obtain ⟨b0, b1⟩ := And.imp (below_of HB.out) (below_of HB.out) (H2.out k kM)
        have e1 : L[k]? = some L[k] := List.getElem?_eq_getElem kL
        have e2 : M[k]? = some M[k] := List.getElem?_eq_getElem kM
        have E1 := Lib.hid e1
        have E2 := Lib.hid e2
        clear e1 e2
        generalize L[k]'kL = p at *
        generalize M[k]'kM = q at *
        clear kL kM
        obtain ⟨p1, p2⟩ := p
        obtain ⟨q1, q2⟩ := q
        simp only [] at a0 a1 b0 b1
        have hne := fun W => arr2_neq (p1 : Nat) (p2 : Nat) (q1 : Nat) (q2 : Nat) W
        have hk1 : (k : Int) < (n : Int) := by omega
        by_cases hpq : p1 = q1 ∧ p2 = q2
        · obtain ⟨rfl, rfl⟩ := hpq
          simp only [BEq.rfl, Bool.and_self, Bool.not_true] at hne
          go_wp2
          refine start_ (n := 9) (S := fun w' => w'.cell? ⟨g1, k * 2, none⟩ = some (.int .u8 (p1 : Nat)) ∧ w'.cell? ⟨g1, k * 2 + 1, none⟩ = some (.int .u8 (p2 : Nat)) ∧ w'.cell? ⟨g2, k * 2, none⟩ = some (.int .u8 (p1 : Nat)) ∧ w'.cell? ⟨g2, k * 2 + 1, none⟩ = some (.int .u8 (p2 : Nat))) (ds := []) #[false, false, false, false, false, false, false, false, false] (by kernel_rfl) rfl rfl ⟨a0, a1, b0, b1⟩ (fun hHeld => ?_)
          refine pure_ (i := 0) (N := some 17) (v := ?_) (a' := ?_) #[true, false, false, false, false, false, false, false, false] rfl rfl (by kernel_rfl) (fun _ _ _ h => h) (Or.inl ⟨by rfl, ?_⟩) ?_ ?_
          rotate_left
          · intro w'
            go_simp
            with_reducible rfl
          rotate_left
          · simp only [Act.put, List.setIfInBounds_toArray, List.set_cons_zero, List.set_cons_succ, i64_w, i32_w]
            rfl
          refine pure_ (i := 1) (N := some 18) (v := ?_) (a' := ?_) #[true, true, false, false, false, false, false, false, false] rfl rfl (by kernel_rfl) (fun _ _ _ h => h) (Or.inl ⟨by rfl, ?_⟩) ?_ ?_
          rotate_left
          · intro w'
            go_simp
            with_reducible rfl
          rotate_left
          · simp only [Act.put, List.setIfInBounds_toArray, List.set_cons_zero, List.set_cons_succ, i64_w, i32_w]
            rfl
          refine pure_ (i := 2) (N := some 19) (v := ?_) (a' := ?_) #[true, true, true, false, false, false, false, false, false] rfl rfl (by kernel_rfl) (fun _ _ _ h => h) (Or.inl ⟨by rfl, ?_⟩) ?_ ?_
          rotate_left
          · intro w'
            go_simp
            with_reducible rfl
          rotate_left
          · simp only [Act.put, List.setIfInBounds_toArray, List.set_cons_zero, List.set_cons_succ, i64_w, i32_w]
            rfl
          refine pure_ (i := 4) (N := some 21) (v := ?_) (a' := ?_) #[true, true, true, false, true, false, false, false, false] rfl rfl (by kernel_rfl) (fun _ _ _ h => h) (Or.inl ⟨by rfl, ?_⟩) ?_ ?_
          rotate_left
          · intro w'
            go_simp
            with_reducible rfl
          rotate_left
          · simp only [Act.put, List.setIfInBounds_toArray, List.set_cons_zero, List.set_cons_succ, i64_w, i32_w]
            rfl
          refine pure_ (i := 5) (N := some 22) (v := ?_) (a' := ?_) #[true, true, true, false, true, true, false, false, false] rfl rfl (by kernel_rfl) (fun _ _ _ h => h) (Or.inl ⟨by rfl, ?_⟩) ?_ ?_
          rotate_left
          · intro w'
            go_simp
            with_reducible rfl
          rotate_left
          · simp only [Act.put, List.setIfInBounds_toArray, List.set_cons_zero, List.set_cons_succ, i64_w, i32_w]
            rfl
          refine pure_ (i := 6) (N := some 23) (v := ?_) (a' := ?_) #[true, true, true, false, true, true, true, false, false] rfl rfl (by kernel_rfl) (fun _ _ _ h => h) (Or.inl ⟨by rfl, ?_⟩) ?_ ?_
          rotate_left
          · intro w'
            go_simp
            with_reducible rfl
          rotate_left
          · simp only [Act.put, List.setIfInBounds_toArray, List.set_cons_zero, List.set_cons_succ, i64_w, i32_w]
            rfl
          refine take_ (i := 3) (N := some 20) (v := ?_) (a' := ?_) #[true, true, true, true, true, true, true, false, false] rfl rfl (by kernel_rfl) (fun _ _ _ h => h) (Or.inl ⟨by rfl, ?_⟩) hHeld ?_ ?_
          rotate_left
          · rintro w' ⟨s0, s1, s2, s3⟩
            go_simp
            with_reducible rfl
          rotate_left
          · simp only [Act.put, List.setIfInBounds_toArray, List.set_cons_zero, List.set_cons_succ, i64_w, i32_w]
            rfl
          refine take_ (i := 7) (N := some 24) (v := ?_) (a' := ?_) #[true, true, true, true, true, true, true, true, false] rfl rfl (by kernel_rfl) (fun _ _ _ h => h) (Or.inl ⟨by rfl, ?_⟩) hHeld ?_ ?_
          rotate_left
          · rintro w' ⟨s0, s1, s2, s3⟩
            go_simp
            with_reducible rfl
          rotate_left
          · simp only [Act.put, List.setIfInBounds_toArray, List.set_cons_zero, List.set_cons_succ, i64_w, i32_w]
            rfl
          refine pure_ (i := 8) (N := some 25) (v := ?_) (a' := ?_) #[true, true, true, true, true, true, true, true, true] rfl rfl (by kernel_rfl) (fun _ _ _ h => h) (Or.inl ⟨by rfl, ?_⟩) ?_ ?_
          rotate_left
          · intro w'
            go_simp
            with_reducible rfl
          rotate_left
          · simp only [Act.put, List.setIfInBounds_toArray, List.set_cons_zero, List.set_cons_succ, i64_w, i32_w]
            rfl
          refine done_ (by kernel_rfl) ?_
          go_wp2
          go_roundw
          case rel =>
            refine ⟨k + 1, by omega, by simp, Lib.hid (fun i hi => ?_), Lib.hid HB.out.drew⟩
            by_cases e : i < k
            · exact HE.out i e
            · obtain rfl : i = k := by omega
              rw [E1.out, E2.out]
          case measure => simp [intOf]; omega
        · have hb : (!(((p1 : Nat) : Int) == (q1 : Nat) && ((p2 : Nat) : Int) == (q2 : Nat))) = true := by
            by_cases e : p1 = q1
            · have : ¬ p2 = q2 := fun e2 => hpq ⟨e, e2⟩
              have : ¬ ((p2 : Int) = (q2 : Int)) := by omega
              simp [e, this]
            · have : ¬ ((p1 : Int) = (q1 : Int)) := by omega
              simp [this]
          rw [hb] at hne
          have HP := Lib.hid hpq
          clear hb hpq
          go_wp2
          refine start_ (n := 9) (S := fun w' => w'.cell? ⟨g1, k * 2, none⟩ = some (.int .u8 (p1 : Nat)) ∧ w'.cell? ⟨g1, k * 2 + 1, none⟩ = some (.int .u8 (p2 : Nat)) ∧ w'.cell? ⟨g2, k * 2, none⟩ = some (.int .u8 (q1 : Nat)) ∧ w'.cell? ⟨g2, k * 2 + 1, none⟩ = some (.int .u8 (q2 : Nat))) (ds := []) #[false, false, false, false, false, false, false, false, false] (by kernel_rfl) rfl rfl ⟨a0, a1, b0, b1⟩ (fun hHeld => ?_)
          refine pure_ (i := 0) (N := some 17) (v := ?_) (a' := ?_) #[true, false, false, false, false, false, false, false, false] rfl rfl (by kernel_rfl) (fun _ _ _ h => h) (Or.inl ⟨by rfl, ?_⟩) ?_ ?_
          rotate_left
          · intro w'
            go_simp
            with_reducible rfl
          rotate_left
          · simp only [Act.put, List.setIfInBounds_toArray, List.set_cons_zero, List.set_cons_succ, i64_w, i32_w]
            rfl
          refine pure_ (i := 1) (N := some 18) (v := ?_) (a' := ?_) #[true, true, false, false, false, false, false, false, false] rfl rfl (by kernel_rfl) (fun _ _ _ h => h) (Or.inl ⟨by rfl, ?_⟩) ?_ ?_
          rotate_left
          · intro w'
            go_simp
            with_reducible rfl
          rotate_left
          · simp only [Act.put, List.setIfInBounds_toArray, List.set_cons_zero, List.set_cons_succ, i64_w, i32_w]
            rfl
          refine pure_ (i := 2) (N := some 19) (v := ?_) (a' := ?_) #[true, true, true, false, false, false, false, false, false] rfl rfl (by kernel_rfl) (fun _ _ _ h => h) (Or.inl ⟨by rfl, ?_⟩) ?_ ?_
          rotate_left
          · intro w'
            go_simp
            with_reducible rfl
          rotate_left
          · simp only [Act.put, List.setIfInBounds_toArray, List.set_cons_zero, List.set_cons_succ, i64_w, i32_w]
            rfl
          refine pure_ (i := 4) (N := some 21) (v := ?_) (a' := ?_) #[true, true, true, false, true, false, false, false, false] rfl rfl (by kernel_rfl) (fun _ _ _ h => h) (Or.inl ⟨by rfl, ?_⟩) ?_ ?_
          rotate_left
          · intro w'
            go_simp
            with_reducible rfl
          rotate_left
          · simp only [Act.put, List.setIfInBounds_toArray, List.set_cons_zero, List.set_cons_succ, i64_w, i32_w]
            rfl
          refine pure_ (i := 5) (N := some 22) (v := ?_) (a' := ?_) #[true, true, true, false, true, true, false, false, false] rfl rfl (by kernel_rfl) (fun _ _ _ h => h) (Or.inl ⟨by rfl, ?_⟩) ?_ ?_
          rotate_left
          · intro w'
            go_simp
            with_reducible rfl
          rotate_left
          · simp only [Act.put, List.setIfInBounds_toArray, List.set_cons_zero, List.set_cons_succ, i64_w, i32_w]
            rfl
          refine pure_ (i := 6) (N := some 23) (v := ?_) (a' := ?_) #[true, true, true, false, true, true, true, false, false] rfl rfl (by kernel_rfl) (fun _ _ _ h => h) (Or.inl ⟨by rfl, ?_⟩) ?_ ?_
          rotate_left
          · intro w'
            go_simp
            with_reducible rfl
          rotate_left
          · simp only [Act.put, List.setIfInBounds_toArray, List.set_cons_zero, List.set_cons_succ, i64_w, i32_w]
            rfl
          refine take_ (i := 3) (N := some 20) (v := ?_) (a' := ?_) #[true, true, true, true, true, true, true, false, false] rfl rfl (by kernel_rfl) (fun _ _ _ h => h) (Or.inl ⟨by rfl, ?_⟩) hHeld ?_ ?_
          rotate_left
          · rintro w' ⟨s0, s1, s2, s3⟩
            go_simp
            with_reducible rfl
          rotate_left
          · simp only [Act.put, List.setIfInBounds_toArray, List.set_cons_zero, List.set_cons_succ, i64_w, i32_w]
            rfl
          refine take_ (i := 7) (N := some 24) (v := ?_) (a' := ?_) #[true, true, true, true, true, true, true, true, false] rfl rfl (by kernel_rfl) (fun _ _ _ h => h) (Or.inl ⟨by rfl, ?_⟩) hHeld ?_ ?_
          rotate_left
          · rintro w' ⟨s0, s1, s2, s3⟩
            go_simp
            with_reducible rfl
          rotate_left
          · simp only [Act.put, List.setIfInBounds_toArray, List.set_cons_zero, List.set_cons_succ, i64_w, i32_w]
            rfl
          refine pure_ (i := 8) (N := some 25) (v := ?_) (a' := ?_) #[true, true, true, true, true, true, true, true, true] rfl rfl (by kernel_rfl) (fun _ _ _ h => h) (Or.inl ⟨by rfl, ?_⟩) ?_ ?_
          rotate_left
          · intro w'
            go_simp
            with_reducible rfl
          rotate_left
          · simp only [Act.put, List.setIfInBounds_toArray, List.set_cons_zero, List.set_cons_succ, i64_w, i32_w]
            rfl
          refine done_ (by kernel_rfl) ?_
          go_wp2
          go_ret
          have hf : decide (L = M) = false := decide_eq_false (fun e => by
            have h1 := E1.out
            rw [e, E2.out] at h1
            have h2 := Option.some.inj h1
            exact HP.out ⟨by have := congrArg Prod.fst h2; simpa using this.symm, by have := congrArg Prod.snd h2; simpa using this.symm⟩)
          rw [hf]
          exact ⟨rfl, HB.out.drew⟩
      · obtain rfl : k = n := by omega
        go_wp2
        go_ret
        have hf : decide (L = M) = true := decide_eq_true (by
          apply List.ext_getElem?
          intro i
          by_cases e : i < k
          · exact HE.out i e
          · rw [List.getElem?_eq_none (by have := HN.out; omega), List.getElem?_eq_none (by have := HN'.out; omega)])
        rw [hf]
        exact ⟨rfl, HB.out⟩
  · have hne : ((L.length : Int) != (M.length : Int)) = true := by simp; omega
    have hd : decide (L = M) = false := decide_eq_false (fun e => hlm (by rw [e]))
    rw [hd]
    clear H1 H2 hd hlm
    generalize L.length = n at *
    generalize M.length = m at *
    go_enter Tryd.func16, Tryd.ntmps16
    go_wp2
    go_ret
    exact ⟨rfl, Below.refl _ _⟩
theorem runs_unlike (A1 A2 : Option Addr) (n m c1 c2 : Nat) (hn : n ≤ 300) (hm : m ≤ 300) (h : n ≠ m) (w : World) :
    Calls Tryd.prog 16 #[.slice A1 n c1, .slice A2 m c2] w fun e w' => e = .returned (.bool false) ∧ Below w.heap.size w w' := by
  have hne : ((n : Int) != (m : Int)) = true := by simp; omega
  go_enter Tryd.func16, Tryd.ntmps16
  go_wp2
  go_ret
  exact ⟨rfl, Below.refl _ _⟩
theorem runs_none (A1 A2 : Option Addr) (c1 c2 : Nat) (w : World) :
    Calls Tryd.prog 16 #[.slice A1 0 c1, .slice A2 0 c2] w fun e w' => e = .returned (.bool true) ∧ Below w.heap.size w w' := by
  go_enter Tryd.func16, Tryd.ntmps16
  go_wp2
  go_loopw [5] (fun t wr => t = .int .i64 0 ∧ wr = w) (fun t _ => 0)
  case atStart => exact ⟨rfl, rfl⟩
  case round =>
    obtain ⟨rfl, rfl⟩ := hrel
    go_wp2
    go_ret
    exact ⟨rfl, Below.refl _ _⟩
theorem runs_calls {v u : Value} {L M : List (Nat × Nat)} {w : World} (h1 : Row w v L) (h2 : Row w u M) (hl : L.length ≤ 300) (hm : M.length ≤ 300) :
    Calls Tryd.prog 16 #[v, u] w fun e w' => e = .returned (.bool (decide (L = M))) ∧ Below w.heap.size w w' := by
  rcases h1 with ⟨rfl, rfl⟩ | ⟨g, cap, rfl, c1⟩
  · rcases h2 with ⟨rfl, rfl⟩ | ⟨g', cap', rfl, c2⟩
    · simpa using runs_none none none 0 0 w
    · by_cases hM : M = []
      · subst hM
        simpa using runs_none none (some ⟨g', 0, none⟩) 0 cap' w
      · have : M.length ≠ 0 := fun h => hM (List.length_eq_zero_iff.1 h)
        have := runs_unlike none (some ⟨g', 0, none⟩) 0 M.length 0 cap' (by omega) hm (by omega) w
        rwa [decide_eq_false (fun h => hM h.symm)]
  · rcases h2 with ⟨rfl, rfl⟩ | ⟨g', cap', rfl, c2⟩
    · by_cases hL : L = []
      · subst hL
        simpa using runs_none (some ⟨g, 0, none⟩) none cap 0 w
      · have : L.length ≠ 0 := fun h => hL (List.length_eq_zero_iff.1 h)
        have := runs_unlike (some ⟨g, 0, none⟩) none L.length 0 cap 0 hl (by omega) (by omega) w
        rwa [decide_eq_false hL]
    · exact runs_walk g cap g' cap' L M w hl hm c1 c2
end Go.Proofs.YtdociniomegpnaaDoor.CSame
