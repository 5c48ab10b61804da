import Derived.Test.YtaaihcojedibeaaGreatDoorZ1
import Derived.Test.YtaaihcojedibeaaGreatDoorZ2
import Derived.Test.YtaaihcojedibeaaGreatDoorZ0
import Derived.Lib.AppendIntMem
import Derived.Lib.LaidTab
import Derived.LaidMore
import Derived.Laws.EntriesVeiled
import Derived.Test.YtaaihcojedibeaaGreatDoorZ5
import Derived.Test.YtaaihcojedibeaaGreatDoorRows
import Derived.Test.YtaaihcojedibeaaGreatDoorTie
import Derived.ProofKit
section
/- show.back, often, Set: their walks. -/
namespace Go.Proofs.YtaaihcojedibeaaGreatDoor.SKinds
open Go.RowKit CMem CBits CSet CRng CRuns CLen DRow DDeep DSizes SText SSpec Q Go.Proofs.YtaaihcojedibeaaGreatDoorW.PrintWords Go.Proofs.YtaaihcojedibeaaGreatDoorW.PrintLast Go.Proofs.YtaaihcojedibeaaGreatDoorW.PrintMore
set_option linter.unusedVariables false
set_option linter.unusedSimpArgs false
set_option maxRecDepth 100000
/-- the program's table: the powers of ten -/
structure Tab (w : World) : Prop where
  pow : Lib.TabIs Tryz.prog w "internal/strconv.uint64pow10" .u64 Lib.pow10Tab
theorem Tab.below {w w' : World} (h : Tab w) (hb : Below w.heap.size w w') : Tab w' := ⟨Go.Lib.tabBelow_of_tabIs h.pow w' hb⟩
theorem itoa_calls (n : Int) (h0 : -9223372036854775808 ≤ n) (h1 : n ≤ 9223372036854775807) (w : World) (T : Tab w) :
    Calls Tryz.prog 71 #[.int .i64 n] w fun e w' => e = .returned (.string (num n)) ∧ Below w.heap.size w w' := by
  refine (Tryz.strconv_Itoa n h0 h1 w T.pow).mono ?_
  rintro e w' ⟨rfl, kk, os, rfl⟩
  exact ⟨rfl, Go.Lib.below_grow _ _ (Nat.le_refl _) kk os⟩
set_option maxHeartbeats 6400000 in
theorem back_calls (x : S49) (h : -9223372036854775808 ≤ x.f7 ∧ x.f7 ≤ 9223372036854775807) (w : World) (T : Tab w) :
    Calls Tryz.prog 57 #[.agg (nc x)] w fun e w' => e = .returned (.string (back x.f7 x.f8)) ∧ Below w.heap.size w w' := by
  obtain ⟨xk, xa, xb, ⟨⟨y0, y1, y2, y3⟩⟩, xi, xm, xo, xn, xf⟩ := x
  simp only [] at h ⊢
  have B0 := Lib.hid (heap_alloc_new w (.cells (nc ⟨xk, xa, xb, ⟨⟨y0, y1, y2, y3⟩⟩, xi, xm, xo, xn, xf⟩) 49))
  have HB0 := Lib.hid (below1 w (.cells (nc ⟨xk, xa, xb, ⟨⟨y0, y1, y2, y3⟩⟩, xi, xm, xo, xn, xf⟩) 49))
  have HT := Lib.hid T
  have KI := Lib.hid (fun W T => itoa_calls xn h.1 h.2 W T)
  unfold back
  have hs := num_size h.1 h.2
  generalize num xn = s at *
  clear h T
  unfold nc at *
  simp only [] at *
  go_enter Tryz.func57, Tryz.ntmps57
  go_wp2_with fail
  refine (KI.out _ (HT.out.below HB0.out)).mono ?_
  rintro e w2 ⟨rfl, hb⟩
  have HB2 := Lib.hid (below_step HB0.out hb)
  have n8 := blk_cell (below_blk hb B0.out) 11 (.bool xf) rfl
  clear hb B0 HB0
  have e0 : (⟨#[92]⟩ : ByteArray).size = 1 := rfl
  have e1 : (⟨#[40, 63, 105, 58]⟩ : ByteArray).size = 4 := rfl
  cases xf
  · go_wp2
    go_ret
    exact ⟨rfl, HB2.out⟩
  · go_wp2
    go_ret
    exact ⟨rfl, HB2.out⟩
theorem mode_size (o : Int) : (mode o).size ≤ 1 := by
  unfold mode
  split
  · decide
  · split <;> decide
theorem mode_at (o : Int) (h : 0 ≤ o ∧ o ≤ 2) (W : World) : (Instr.index 103 (.agg #[.string ⟨#[]⟩, .string ⟨#[63]⟩, .string ⟨#[43]⟩]) (.int .i64 o)).run Tryz.prog W = .ok (.string (mode o)) W := by
  have hm : o = 0 ∨ o = 1 ∨ o = 2 := by omega
  rcases hm with rfl | rfl | rfl <;> rfl
set_option maxHeartbeats 12800000 in
theorem often_calls (x : S49) (h0 : -1 ≤ x.f4 ∧ x.f4 ≤ 100) (h1 : -1 ≤ x.f5 ∧ x.f5 ≤ 100) (h2 : 0 ≤ x.f6 ∧ x.f6 ≤ 2) (w : World) (T : Tab w) :
    Calls Tryz.prog 62 #[.agg (nc x)] w fun e w' => e = .returned (.string (often x.f4 x.f5 x.f6)) ∧ Below w.heap.size w w' := by
  obtain ⟨xk, xa, xb, ⟨⟨y0, y1, y2, y3⟩⟩, xi, xm, xo, xn, xf⟩ := x
  simp only [] at h0 h1 h2 ⊢
  have B0 := Lib.hid (heap_alloc_new w (.cells (nc ⟨xk, xa, xb, ⟨⟨y0, y1, y2, y3⟩⟩, xi, xm, xo, xn, xf⟩) 49))
  have HB0 := Lib.hid (below1 w (.cells (nc ⟨xk, xa, xb, ⟨⟨y0, y1, y2, y3⟩⟩, xi, xm, xo, xn, xf⟩) 49))
  have HT := Lib.hid T
  have KI := Lib.hid (fun W T => itoa_calls xi (by omega) (by omega) W T)
  have KJ := Lib.hid (fun W T => itoa_calls xm (by omega) (by omega) W T)
  have hs1 := num_size (n := xi) (by omega) (by omega)
  have hs2 := num_size (n := xm) (by omega) (by omega)
  obtain ⟨R, hR⟩ : ∃ R, often xi xm xo = R := ⟨_, rfl⟩
  rw [hR]
  unfold often at hR
  replace hR := Lib.hid hR
  generalize num xi = s1 at *
  generalize num xm = s2 at *
  have hix := mode_at xo h2
  have hs3 := mode_size xo
  generalize mode xo = md at *
  clear T h0 h1 h2
  unfold nc at *
  simp only [] at *
  go_enter Tryz.func62, Tryz.ntmps62
  go_wp2_with fail
  generalize hW : w.alloc (.cells #[.int .i64 xk, .int .i64 xa, .int .i64 xb, .int .u64 y0, .int .u64 y1, .int .u64 y2, .int .u64 y3, .int .i64 xi, .int .i64 xm, .int .i64 xo, .int .i64 xn, .bool xf] 49) = v0 at *
  clear hW
  have hZ := Lib.hid (Below.refl v0.heap.size v0)
  have n7 := blk_cell B0.out 7 (.int .i64 xi) rfl
  have n8 := blk_cell B0.out 8 (.int .i64 xm) rfl
  refine start_ (n := 8) (S := fun w' => w'.cell? ⟨w.heap.size, 7, none⟩ = some (.int .i64 xi) ∧ w'.cell? ⟨w.heap.size, 8, none⟩ = some (.int .i64 xm) ∧ Below v0.heap.size v0 w') (ds := []) #[false, false, false, false, false, false, false, false] (by kernel_rfl) rfl rfl ⟨n7, n8, hZ.out.drew⟩ (fun hHeld => ?_)
  refine pure_ (i := 0) (N := some 6) (v := ?_) (a' := ?_) #[true, false, false, false, false, false, false, false] rfl rfl (by kernel_rfl) (fun _ _ _ h => h) (Or.inl ⟨by rfl, ?_⟩) ?_ ?_
  rotate_left
  · intro w'
    go_simp
    with_reducible rfl
  rotate_left
  · simp only [Act.put, List.setIfInBounds_toArray, List.set_cons_zero, List.set_cons_succ, i64_w, i32_w]
    rfl
  refine pure_ (i := 3) (N := some 9) (v := ?_) (a' := ?_) #[true, false, false, true, false, false, false, false] rfl rfl (by kernel_rfl) (fun _ _ _ h => h) (Or.inl ⟨by rfl, ?_⟩) ?_ ?_
  rotate_left
  · intro w'
    go_simp
    with_reducible rfl
  rotate_left
  · simp only [Act.put, List.setIfInBounds_toArray, List.set_cons_zero, List.set_cons_succ, i64_w, i32_w]
    rfl
  refine take_ (i := 1) (N := some 7) (v := ?_) (a' := ?_) #[true, true, false, true, false, false, false, false] rfl rfl (by kernel_rfl) (fun _ _ _ h => h) (Or.inl ⟨by rfl, ?_⟩) hHeld ?_ ?_
  rotate_left
  · rintro w' ⟨s0, s1, s2⟩
    go_simp
    with_reducible rfl
  rotate_left
  · simp only [Act.put, List.setIfInBounds_toArray, List.set_cons_zero, List.set_cons_succ, i64_w, i32_w]
    rfl
  refine take_ (i := 4) (N := some 10) (v := ?_) (a' := ?_) #[true, true, false, true, true, false, false, false] rfl rfl (by kernel_rfl) (fun _ _ _ h => h) (Or.inl ⟨by rfl, ?_⟩) hHeld ?_ ?_
  rotate_left
  · rintro w' ⟨s0, s1, s2⟩
    go_simp
    with_reducible rfl
  rotate_left
  · simp only [Act.put, List.setIfInBounds_toArray, List.set_cons_zero, List.set_cons_succ, i64_w, i32_w]
    rfl
  refine one_ (i := 2) (N := some 8) #[true, true, true, true, true, false, false, false] rfl rfl (by kernel_rfl) (by decide) (fun K hK => ?_)
  refine goes_ Tryz.func71 (by kernel_rfl) rfl #[.int .i64 xi] (by rfl) rfl rfl (by simp only [List.map_toArray, List.map_cons, List.map_nil]; rfl) ?_
  with_reducible refine (KI.out _ (HT.out.below (below_step HB0.out hHeld.2.2))).mono ?_
  rintro e w30 ⟨rfl, hb30⟩
  refine ⟨_, rfl, ?_⟩
  refine hK.out _ _ ⟨(below_of hb30 hHeld.1), (below_of hb30 hHeld.2.1), (below_step hHeld.2.2 hb30)⟩ (fun hHeld => ?_)
  clear hK K
  refine norm_ (a' := ?_) ?_ ?_
  rotate_left
  · show Act.put _ (some 8) _ = _
    simp only [Act.put, List.setIfInBounds_toArray, List.set_cons_zero, List.set_cons_succ, i64_w, i32_w]
    rfl
  refine one_ (i := 5) (N := some 11) #[true, true, true, true, true, true, false, false] rfl rfl (by kernel_rfl) (by decide) (fun K hK => ?_)
  refine goes_ Tryz.func71 (by kernel_rfl) rfl #[.int .i64 xm] (by rfl) rfl rfl (by simp only [List.map_toArray, List.map_cons, List.map_nil]; rfl) ?_
  with_reducible refine (KJ.out _ (HT.out.below (below_step HB0.out hHeld.2.2))).mono ?_
  rintro e w3 ⟨rfl, hb3⟩
  refine ⟨_, rfl, ?_⟩
  refine hK.out _ _ ⟨(below_of hb3 hHeld.1), (below_of hb3 hHeld.2.1), (below_step hHeld.2.2 hb3)⟩ (fun hHeld => ?_)
  clear hK K
  refine norm_ (a' := ?_) ?_ ?_
  rotate_left
  · show Act.put _ (some 11) _ = _
    simp only [Act.put, List.setIfInBounds_toArray, List.set_cons_zero, List.set_cons_succ, i64_w, i32_w]
    rfl
  refine pure_ (i := 6) (N := some 3) (v := ?_) (a' := ?_) #[true, true, true, true, true, true, true, false] rfl rfl (by kernel_rfl) (fun _ _ _ h => h) (Or.inl ⟨by rfl, ?_⟩) ?_ ?_
  rotate_left
  · intro w'
    go_simp
    with_reducible rfl
  rotate_left
  · simp only [Act.put, List.setIfInBounds_toArray, List.set_cons_zero, List.set_cons_succ, i64_w, i32_w]
    rfl
  refine pure_ (i := 7) (N := some 4) (v := ?_) (a' := ?_) #[true, true, true, true, true, true, true, true] rfl rfl (by kernel_rfl) (fun _ _ _ h => h) (Or.inl ⟨by rfl, ?_⟩) ?_ ?_
  rotate_left
  · intro w'
    go_simp
    with_reducible rfl
  rotate_left
  · simp only [Act.put, List.setIfInBounds_toArray, List.set_cons_zero, List.set_cons_succ, i64_w, i32_w]
    rfl
  refine done_ (by kernel_rfl) ?_
  have hb := below_step (below_step hZ.out.drew hb30) hb3
  have HB3 := Lib.hid (below_step HB0.out hb)
  clear n7 n8
  have n7 := blk_cell (below_blk hb B0.out) 7 (.int .i64 xi) rfl
  have n8 := blk_cell (below_blk hb B0.out) 8 (.int .i64 xm) rfl
  have n9 := blk_cell (below_blk hb B0.out) 9 (.int .i64 xo) rfl
  clear hb hb30 hb3 hZ hHeld B0 HB0 KI KJ HT
  have hcase : (xi = 0 ∧ xm = -1) ∨ (xi = 1 ∧ xm = -1) ∨ (xi ≠ 0 ∧ xi ≠ 1 ∧ xm = -1 ∧ xi ≠ xm) ∨ (xi = 0 ∧ xm = 1) ∨ (xi = 1 ∧ xm = 1) ∨ (xi = 0 ∧ xm = 0) ∨ (xi = 0 ∧ xm ≠ -1 ∧ xm ≠ 1 ∧ xm ≠ 0) ∨ (xi = 1 ∧ xm ≠ -1 ∧ xm ≠ 1) ∨ (xi ≠ 0 ∧ xi ≠ 1 ∧ xm = xi) ∨ (xi ≠ 0 ∧ xi ≠ 1 ∧ xm ≠ -1 ∧ xi ≠ xm) := by omega
  have q1 : (⟨#[42]⟩ : ByteArray).size = 1 := rfl
  have q2 : (⟨#[43]⟩ : ByteArray).size = 1 := rfl
  have q3 : (⟨#[63]⟩ : ByteArray).size = 1 := rfl
  have q4 : (⟨#[123]⟩ : ByteArray).size = 1 := rfl
  have q5 : (⟨#[125]⟩ : ByteArray).size = 1 := rfl
  have q6 : (⟨#[44, 125]⟩ : ByteArray).size = 2 := rfl
  have q7 : (⟨#[44]⟩ : ByteArray).size = 1 := rfl
  rcases hcase with h | h | h | h | h | h | h | h | h | h
  · obtain ⟨rfl, rfl⟩ := h
    go_wp2
    go_ret
    exact ⟨by rw [← hR.out]; simp [*] <;> omega, HB3.out⟩
  · obtain ⟨rfl, rfl⟩ := h
    go_wp2
    go_ret
    exact ⟨by rw [← hR.out]; simp [*] <;> omega, HB3.out⟩
  · obtain ⟨a1, a2, rfl, a3⟩ := h
    have b1 : (xi == 0) = false := by simp; omega
    have b2 : (xi == 1) = false := by simp; omega
    have b3 : (xi == -1) = false := by simp; omega
    go_wp2
    go_ret
    exact ⟨by rw [← hR.out]; simp [*] <;> omega, HB3.out⟩
  · obtain ⟨rfl, rfl⟩ := h
    go_wp2
    go_ret
    exact ⟨by rw [← hR.out]; simp [*] <;> omega, HB3.out⟩
  · obtain ⟨rfl, rfl⟩ := h
    go_wp2
    go_ret
    exact ⟨by rw [← hR.out]; simp [*] <;> omega, HB3.out⟩
  · obtain ⟨rfl, rfl⟩ := h
    go_wp2
    go_ret
    exact ⟨by rw [← hR.out]; simp [*] <;> omega, HB3.out⟩
  · obtain ⟨rfl, a1, a2, a3⟩ := h
    have a4 := Ne.symm a3
    have b4 : (xm == -1) = false := by simp; omega
    have b5 : (xm == 1) = false := by simp; omega
    have b6 : ((0 : Int) == xm) = false := by simp; omega
    go_wp2
    go_ret
    exact ⟨by rw [← hR.out]; simp [*] <;> omega, HB3.out⟩
  · obtain ⟨rfl, a1, a2⟩ := h
    have a4 := Ne.symm a2
    have b4 : (xm == -1) = false := by simp; omega
    have b5 : (xm == 1) = false := by simp; omega
    have b7 : ((1 : Int) == xm) = false := by simp; omega
    go_wp2
    go_ret
    exact ⟨by rw [← hR.out]; simp [*] <;> omega, HB3.out⟩
  · obtain ⟨a1, a2, rfl⟩ := h
    have b1 : (xm == 0) = false := by simp; omega
    have b2 : (xm == 1) = false := by simp; omega
    go_wp2
    go_ret
    exact ⟨by rw [← hR.out]; simp [*] <;> omega, HB3.out⟩
  · obtain ⟨a1, a2, a3, a4⟩ := h
    have b1 : (xi == 0) = false := by simp; omega
    have b2 : (xi == 1) = false := by simp; omega
    have b4 : (xm == -1) = false := by simp; omega
    have b8 : (xi == xm) = false := by simp; omega
    go_wp2
    go_ret
    exact ⟨by rw [← hR.out]; simp [*] <;> omega, HB3.out⟩
end Go.Proofs.YtaaihcojedibeaaGreatDoor.SKinds
end
section
/- show.Set: its walk. -/
namespace Go.Proofs.YtaaihcojedibeaaGreatDoor.SSet
open Go.RowKit CMem CBits CSet CRng CRuns CLen DRow DDeep DSizes SText SSpec SKinds Q Go.Proofs.YtaaihcojedibeaaGreatDoorW.PrintWords Go.Proofs.YtaaihcojedibeaaGreatDoorW.PrintLast Go.Proofs.YtaaihcojedibeaaGreatDoorW.PrintMore
set_option linter.unusedVariables false
set_option linter.unusedSimpArgs false
set_option maxRecDepth 100000
theorem prs_at (L : List (Nat × Nat)) (k : Nat) (p : Nat × Nat) (h : L[k]? = some p) : (prs L)[k * 2]? = some (.int .u8 (p.1 : Nat)) ∧ (prs L)[k * 2 + 1]? = some (.int .u8 (p.2 : Nat)) := by
  induction L generalizing k with
  | nil => simp at h
  | cons x r ih =>
    cases k with
    | zero =>
      rw [List.getElem?_cons_zero, Option.some.injEq] at h
      subst h
      exact ⟨rfl, rfl⟩
    | succ k =>
      rw [List.getElem?_cons_succ] at h
      obtain ⟨h1, h2⟩ := ih k h
      have e : prs (x :: r) = .int .u8 (x.1 : Nat) :: .int .u8 (x.2 : Nat) :: prs r := rfl
      rw [e, show (k + 1) * 2 = k * 2 + 1 + 1 by omega, List.getElem?_cons_succ, List.getElem?_cons_succ, show k * 2 + 1 + 1 + 1 = (k * 2 + 1) + 1 + 1 by omega, List.getElem?_cons_succ, List.getElem?_cons_succ]
      exact ⟨h1, h2⟩
theorem own_slice {w : World} {b : Nat} {e : TypeId} {s n : Nat} {v : Value} {xs : List Value} (h : w.ownsRow b e s v n xs) : (n = 0 ∧ v = .slice none 0 0) ∨ ∃ g c, v = .slice (some ⟨g, 0, none⟩) n c := by
  rcases h.2 with ⟨h1, h2⟩ | ⟨g, c, cur, h1, _⟩
  · exact .inl ⟨h2, h1⟩
  · exact .inr ⟨g, c, h1⟩
set_option maxHeartbeats 12800000 in
theorem set_calls (N : Nat) (w : World) : Calls Tryz.prog 8 #[.agg (sc N)] w fun e w' => e = .returned (.string (setB N)) ∧ Below w.heap.size w w' := by
  have KR := Lib.hid (fun W => ranges_calls N W)
  have KL := Lib.hid (fun W => len_calls N W)
  have KT := Lib.hid (fun c hc W => text_calls c hc W)
  have B0 := Lib.hid (heap_alloc_new w (.cells (sc N) 28))
  have HB0 := Lib.hid (below1 w (.cells (sc N) 28))
  have HR := Lib.hid (runs_rng N)
  obtain ⟨R, hR⟩ : ∃ R, setB N = R := ⟨_, rfl⟩
  rw [hR]
  unfold setB at hR
  have hlen := runs_len N
  generalize runs N = L at *
  obtain ⟨r, hr⟩ : ∃ r, L.length = r := ⟨_, rfl⟩
  rw [hr] at hR hlen
  have HN := Lib.hid hr
  obtain ⟨q, hq⟩ : ∃ q, cnt N 256 = q := ⟨_, rfl⟩
  rw [hq] at hR KL
  replace hR := Lib.hid hR
  clear hr hq
  have hsc : sc N = #[.int .u64 (wd N 0 : Nat), .int .u64 (wd N 1 : Nat), .int .u64 (wd N 2 : Nat), .int .u64 (wd N 3 : Nat)] := rfl
  rw [hsc] at KR KL B0 HB0 ⊢
  generalize ((wd N 0 : Nat) : Int) = x0 at *
  generalize ((wd N 1 : Nat) : Int) = x1 at *
  generalize ((wd N 2 : Nat) : Int) = x2 at *
  generalize ((wd N 3 : Nat) : Int) = x3 at *
  clear hsc
  go_enter Tryz.func8, Tryz.ntmps8
  go_wp2_with fail
  refine (KR.out _).mono ?_
  rintro e w2 ⟨⟨v, rfl, hO⟩, hb⟩
  have B2 := Lib.hid (below_blk hb B0.out)
  have HB2 := Lib.hid (below_step HB0.out hb)
  have s0 := blk_cell B2.out 0 (.int .u64 x0) rfl
  have s1 := blk_cell B2.out 1 (.int .u64 x1) rfl
  have s2 := blk_cell B2.out 2 (.int .u64 x2) rfl
  have s3 := blk_cell B2.out 3 (.int .u64 x3) rfl
  rw [HN.out] at hO
  clear hb B0 HB0
  rcases Nat.eq_zero_or_pos r with hr0 | hr0
  · subst hr0
    rcases own_slice hO with ⟨_, rfl⟩ | ⟨g, c, rfl⟩
    all_goals clear hO
    all_goals go_wp2
    all_goals go_ret
    all_goals exact ⟨by rw [← hR.out]; rfl, HB2.out⟩
  obtain ⟨g, c, rfl⟩ : ∃ g c, v = .slice (some ⟨g, 0, none⟩) r c := by
    rcases own_slice hO with ⟨h, _⟩ | h
    · omega
    · exact h
  have HC := Lib.hid (fun (k : Nat) (p : Nat × Nat) (h : L[k]? = some p) => (show w2.cell? ⟨g, k * 2, none⟩ = some (.int .u8 (p.1 : Nat)) ∧ w2.cell? ⟨g, k * 2 + 1, none⟩ = some (.int .u8 (p.2 : Nat)) from by
    have hk : k < L.length := (List.getElem?_eq_some_iff.1 h).1
    rw [HN.out] at hk
    exact ⟨(hO.cellAt (k * 2) (by omega)).trans (prs_at L k p h).1, (hO.cellAt (k * 2 + 1) (by omega)).trans (prs_at L k p h).2⟩))
  clear hO
  have hz : ((r : Int) == 0) = false := by simp; omega
  go_wp2_with fail
  refine (KL.out _).mono ?_
  rintro e w3 ⟨rfl, hb⟩
  have HB3 := Lib.hid (below_step HB2.out hb)
  have HD := Lib.hid hb
  clear hb s0 s1 s2 s3 B2 HB2 KR KL hz
  have hr1 : ¬ r = 0 := by omega
  by_cases hq : q = 1
  · have hq1 : ((q : Int) == 1) = true := by simp; omega
    obtain ⟨p, hp⟩ : ∃ p, L[0]? = some p := ⟨_, List.getElem?_eq_getElem (by rw [HN.out]; exact hr0)⟩
    have hrng := HR.out p (List.mem_of_getElem? hp)
    have c0 := below_of HD.out (HC.out 0 p hp).1
    have hd : L.getD 0 (0, 0) = p := by rw [List.getD_eq_getElem?_getD, hp]; rfl
    rw [hd] at hR
    obtain ⟨p1, p2⟩ := p
    have K1 := Lib.hid (KT.out p1 hrng.1)
    simp only [] at c0 hR
    clear hp hd hrng HC HD KT
    have hr2 : (0 : Int) < (r : Int) := by omega
    go_wp2_with fail
    refine (K1.out _).mono ?_
    rintro e w4 ⟨rfl, hb⟩
    have HB4 := Lib.hid (below_step HB3.out hb)
    clear hb
    go_wp2
    go_ret
    exact ⟨by rw [← hR.out, if_neg hr1, if_pos hq]; rfl, HB4.out⟩
  · have hq1 : ((q : Int) == 1) = false := by simp; omega
    go_wp2
    clear hq1
    go_loopw [4, 24] (fun o t wr => ∃ (k : Nat) (s : ByteArray), k ≤ r ∧ o = .string s ∧ t = .int .i64 (k : Nat) ∧ s.size ≤ 2400 ∧ Hid (s = rngs (L.take k) ⟨#[91]⟩) ∧ Hid (Below w.heap.size w wr) ∧ Hid (Below w2.heap.size w2 wr)) (fun _ t _ => r - (intOf t).toNat)
    case atStart => exact ⟨0, ⟨#[91]⟩, Nat.zero_le _, rfl, rfl, by decide, Lib.hid rfl, HB3, HD⟩
    case round =>
      clear HB3 HD
      obtain ⟨k, s, hk, rfl, rfl, hs, HS, HB, HD⟩ := hrel
      by_cases h : k < r
      · have hk2 : (k : Int) < (r : Int) := by omega
        obtain ⟨p, hp⟩ : ∃ p, L[k]? = some p := ⟨_, List.getElem?_eq_getElem (by rw [HN.out]; exact h)⟩
        have hrng := HR.out p (List.mem_of_getElem? hp)
        have hsn := rngs_snoc L ⟨#[91]⟩ k p hp
        have hsz := rngs_size (L.take (k + 1)) ⟨#[91]⟩
        have hsz2 : (L.take (k + 1)).length ≤ 257 := by rw [List.length_take, HN.out]; omega
        have e91 : (⟨#[91]⟩ : ByteArray).size = 1 := rfl
        have e45 : (⟨#[45]⟩ : ByteArray).size = 1 := rfl
        rw [← HS.out] at hsn
        have hsz3 : (sst s p).size ≤ 2400 := by rw [← hsn]; omega
        have HS3 := Lib.hid hsz3
        have HSN := Lib.hid hsn
        have c0 := below_of HD.out (HC.out k p hp).1
        have c1 := below_of HD.out (HC.out k p hp).2
        obtain ⟨p1, p2⟩ := p
        simp only [] at c0 c1 hrng
        have K1 := Lib.hid (KT.out p1 hrng.1)
        have K2 := Lib.hid (KT.out p2 hrng.2)
        have t1s := txt_size p1
        have t2s := txt_size p2
        unfold sst at HSN HS3
        simp only [] at HSN HS3
        generalize txt p1 = t1 at *
        generalize txt p2 = t2 at *
        have BP := Lib.hid (heap_alloc_new wr (.cells #[.int .u8 (p1 : Nat), .int .u8 (p2 : Nat)] 54))
        have HB1 := Lib.hid (HB.out.alloc HB.out.size (.cells #[.int .u8 (p1 : Nat), .int .u8 (p2 : Nat)] 54))
        have HD1 := Lib.hid (HD.out.alloc HD.out.size (.cells #[.int .u8 (p1 : Nat), .int .u8 (p2 : Nat)] 54))
        clear hp hsn hsz hsz2 hsz3 hrng HB HD HS
        go_wp2_with fail
        refine (K1.out _).mono ?_
        rintro e w4 ⟨rfl, hb⟩
        have HB4 := Lib.hid (below_step HB1.out hb)
        have HD4 := Lib.hid (below_step HD1.out hb)
        have BP4 := Lib.hid (below_blk hb BP.out)
        have d0 := blk_cell BP4.out 0 (.int .u8 (p1 : Nat)) rfl
        have d1 := blk_cell BP4.out 1 (.int .u8 (p2 : Nat)) rfl
        clear hb BP HB1 HD1 c0 c1 K1
        by_cases hlt : p1 < p2
        · have hl2 : (p1 : Int) < (p2 : Int) := by omega
          go_wp2_with fail
          refine (K2.out _).mono ?_
          rintro e w5 ⟨rfl, hb⟩
          have HB5 := Lib.hid (below_step HB4.out hb)
          have HD5 := Lib.hid (below_step HD4.out hb)
          clear hb HB4 HD4 d0 d1 BP4 K2
          go_wp2
          go_roundw
          case rel => exact ⟨k + 1, _, by omega, rfl, by simp, by have := HS3.out; rw [if_pos hlt] at this; exact this, Lib.hid (by have := HSN.out; rw [if_pos hlt] at this; exact this.symm), HB5, HD5⟩
          case measure => simp [intOf]; omega
        · have hl2 : ¬ (p1 : Int) < (p2 : Int) := by omega
          go_wp2
          go_roundw
          case rel => exact ⟨k + 1, _, by omega, rfl, by simp, by have := HS3.out; rw [if_neg hlt] at this; exact this, Lib.hid (by have := HSN.out; rw [if_neg hlt] at this; exact this.symm), HB4, HD4⟩
          case measure => simp [intOf]; omega
      · obtain rfl : r = k := by omega
        have hk2 : ¬ ((r : Int) < (r : Int)) := by omega
        have e93 : (⟨#[93]⟩ : ByteArray).size = 1 := rfl
        have hall := HS.out
        rw [List.take_of_length_le (by rw [HN.out]; exact Nat.le_refl _)] at hall
        replace hall := Lib.hid hall
        go_wp2
        go_ret
        exact ⟨by rw [← hR.out, if_neg hr1, if_neg hq, hall.out]; rfl, HB.out⟩
end Go.Proofs.YtaaihcojedibeaaGreatDoor.SSet
end
section
/- show's node: one kind's way, by the contract of its function. -/
namespace Go.Proofs.YtaaihcojedibeaaGreatDoor.SNode
open Go.RowKit CMem DRow DDeep DSizes DSpec SText SSpec SKinds SSet SWays Q Go.Proofs.YtaaihcojedibeaaGreatDoorW.PrintWords Go.Proofs.YtaaihcojedibeaaGreatDoorW.PrintLast Go.Proofs.YtaaihcojedibeaaGreatDoorW.PrintMore
set_option linter.unusedVariables false
set_option linter.unusedSimpArgs false
set_option maxRecDepth 100000
abbrev t_ : Bool := true
abbrev f_ : Bool := false
theorem sa_ {α : Type} (l : List α) (i : Nat) (a : α) : l.toArray.setIfInBounds i a = (l.set i a).toArray := List.setIfInBounds_toArray _ _ _
theorem sz_ {α : Type} (x : α) (l : List α) (a : α) : (x :: l).set 0 a = a :: l := rfl
theorem ss_ {α : Type} (x : α) (l : List α) (i : Nat) (a : α) : (x :: l).set (i + 1) a = x :: l.set i a := rfl
abbrev Nod (w : World) (P : Nat) (z : S49) : Prop := w.cell? ⟨P, 0, none⟩ = some (.int .i64 z.f0) ∧ w.cell? ⟨P, 1, none⟩ = some (.int .i64 z.f1) ∧ w.cell? ⟨P, 2, none⟩ = some (.int .i64 z.f2) ∧ w.cell? ⟨P, 3, none⟩ = some (.int .u64 z.f3.f0.f0) ∧ w.cell? ⟨P, 4, none⟩ = some (.int .u64 z.f3.f0.f1) ∧ w.cell? ⟨P, 5, none⟩ = some (.int .u64 z.f3.f0.f2) ∧ w.cell? ⟨P, 6, none⟩ = some (.int .u64 z.f3.f0.f3) ∧ w.cell? ⟨P, 7, none⟩ = some (.int .i64 z.f4) ∧ w.cell? ⟨P, 8, none⟩ = some (.int .i64 z.f5) ∧ w.cell? ⟨P, 9, none⟩ = some (.int .i64 z.f6) ∧ w.cell? ⟨P, 10, none⟩ = some (.int .i64 z.f7) ∧ w.cell? ⟨P, 11, none⟩ = some (.bool z.f8)
theorem nod_below {w w1 : World} {P : Nat} {z : S49} (hb : Below w.heap.size w w1) (h : Nod w P z) : Nod w1 P z := by
  obtain ⟨h0, h1, h2, h3, h4, h5, h6, h7, h8, h9, h10, h11⟩ := h
  exact ⟨below_of hb h0, below_of hb h1, below_of hb h2, below_of hb h3, below_of hb h4, below_of hb h5, below_of hb h6, below_of hb h7, below_of hb h8, below_of hb h9, below_of hb h10, below_of hb h11⟩
theorem nod_of {w : World} {P : Nat} {z : S49} (h : w.heap[P]? = some (.cells (nc z) 49 (0, 0))) : Nod w P z :=
  ⟨blk_cell h 0 _ rfl, blk_cell h 1 _ rfl, blk_cell h 2 _ rfl, blk_cell h 3 _ rfl, blk_cell h 4 _ rfl, blk_cell h 5 _ rfl, blk_cell h 6 _ rfl, blk_cell h 7 _ rfl, blk_cell h 8 _ rfl, blk_cell h 9 _ rfl, blk_cell h 10 _ rfl, blk_cell h 11 _ rfl⟩
/-- a call by a function's value -/
theorem goesd_ {P : Program} {ops : Array Oper} {Q : Exit → Act → World → Prop} {oi : Oper} {N : Option Tmp} {a : Act} {w : World} {K : Act → World → Prop} {f t : Nat} {fn : Func} {as_ : Array Operand} {ts : Array TypeId} (hf : P.funcs[f]? = some fn) (hname : (fn.name == "runtime.NumGoroutine") = false) (hb : fn.body.isSome = true) (args : Array Value)
    (hw : Region.wanted oi (yielded ops a.tmps) = true) (hN : oi.dst = N) (hop : oi.op = .call { callee := .value (.tmp t), args := as_, argTypes := ts }) (hv : a.eval (.tmp t) = .func (.func f) #[] #[]) (hargs : as_.map a.eval = args)
    (h : Calls P f args w fun e w' => ∃ v, e = .returned v ∧ K (a.put N v) w') : if Region.wanted oi (yielded ops a.tmps) = true then Oper.wp P oi a w K Q else K (a.put N undef) w := by
  refine call_ f args hw hN ?_ h
  have he := enters_ hf hname hb args w
  unfold execOp
  simp [hop, resolve, Deferred.ofValue, invoke, hv, hargs, he]
/-- what the second region's loads need -/
abbrev Sn (v : World) (p q P : Nat) (A : Option Addr) (n c : Nat) (z : S49) (hd : ByteArray) (f : Value) (w : World) : Prop :=
  w.cell? ⟨P, 0, none⟩ = some (.string hd) ∧ w.cell? ⟨P, 1, none⟩ = some f ∧ w.cell? ⟨p, 0, none⟩ = some (.slice A n c) ∧ Nod w q z ∧ Below v.heap.size v w
theorem sn_ {v w w1 : World} {p q P n c : Nat} {A : Option Addr} {z : S49} {hd : ByteArray} {f : Value} (hb : Below w.heap.size w w1) (h : Sn v p q P A n c z hd f w) : Sn v p q P A n c z hd f w1 :=
  ⟨below_of hb h.1, below_of hb h.2.1, below_of hb h.2.2.1, nod_below hb h.2.2.2.1, below_step h.2.2.2.2 hb⟩
set_option maxHeartbeats 12800000 in
theorem via (f : Nat) (fn : Func) (hfn : Tryz.prog.funcs[f]? = some fn) (hnm : (fn.name == "runtime.NumGoroutine") = false) (hbo : fn.body.isSome = true) (L : List S49) (n : Nat) (A : Option Addr) (c : Nat) (i : Nat) (hi : i < n) (hd s : ByteArray) (h1 : hd.size ≤ 10) (h2 : s.size ≤ 1000000000)
    (hl : ∀ W g, W.heap[g]? = some (.map ents.toArray 18) → (Instr.lookup 73 (.map (some g)) (.int .i64 (rd_T49 L i).f0) false).run Tryz.prog W = .ok (.agg #[.string hd, .func (.func f) #[] #[]]) W)
    (w : World) (hC : Kd.C k49 w A n L)
    (hF : ∀ W, Below w.heap.size w W → Calls Tryz.prog f #[.agg #[.slice A n c], .agg (nc (rd_T49 L i))] W fun e W' => e = .returned (.string s) ∧ Below W.heap.size W W') :
    Calls Tryz.prog 12 #[.agg #[.slice A n c], .int .i64 (i : Nat)] w fun e w' => e = .returned (.string (hd ++ s)) ∧ Below w.heap.size w w' := by
  obtain ⟨ad, hA, a0, a1, a2, a3, a4, a5, a6, a7, a8, a9, a10, a11⟩ := at_T49 (Kd.C_below hC (below1 w (.cells #[.slice A n c] 41))) (i : Int) (by omega) (by omega)
  subst hA
  rw [Int.toNat_natCast] at a0 a1 a2 a3 a4 a5 a6 a7 a8 a9 a10 a11
  generalize rd_T49 L i = z at *
  have HL := Lib.hid hl
  have HF := Lib.hid hF
  have hi2 : (i : Int) < (n : Int) := by omega
  have hsz : ¬ 9223372036854775807 < hd.size + s.size := by omega
  clear hl hF hC
  have B0 := Lib.hid (blk_alloc (heap_alloc_new w (.cells #[.slice (some ad) n c] 41)) (.cells (nc z) 49))
  have B1 := Lib.hid (blk2 w (.cells #[.slice (some ad) n c] 41) (nc z) 49)
  have HB1 := Lib.hid (below2 w (.cells #[.slice (some ad) n c] 41) (.cells (nc z) 49))
  unfold nc at B1 HB1 B0
  go_enter Tryz.func12, Tryz.ntmps12
  go_wp2_with fail
  generalize hW : (w.alloc (.cells #[.slice (some ad) n c] 41)).alloc (.cells #[.int .i64 z.f0, .int .i64 z.f1, .int .i64 z.f2, .int .u64 z.f3.f0.f0, .int .u64 z.f3.f0.f1, .int .u64 z.f3.f0.f2, .int .u64 z.f3.f0.f3, .int .i64 z.f4, .int .i64 z.f5, .int .i64 z.f6, .int .i64 z.f7, .bool z.f8] 49) = v1 at *
  clear hW a0 a1 a2 a3 a4 a5 a6 a7 a8 a9 a10 a11
  have n0 := blk_cell B1.out 0 (.int .i64 z.f0) rfl
  have hZ := Lib.hid (Below.refl v1.heap.size v1)
  refine start_ (n := 6) (S := fun w' => w'.cell? ⟨w.heap.size + 1, 0, none⟩ = some (.int .i64 z.f0) ∧ Below v1.heap.size v1 w') (ds := [5]) #[f_, f_, f_, f_, f_, f_] (by kernel_rfl) rfl rfl ⟨n0, hZ.out.drew⟩ (fun hHeld => ?_)
  refine pure_ (i := 1) (N := some 14) (v := ?_) (a' := ?_) #[f_, t_, f_, f_, f_, f_] rfl rfl (by kernel_rfl) (fun _ _ _ h => h) (Or.inl ⟨by rfl, ?_⟩) ?_ ?_
  rotate_left
  · intro w'
    go_simp
    with_reducible rfl
  rotate_left
  · simp only [Act.put, sa_, sz_, ss_, i64_w, i32_w]
    rfl
  refine take_ (i := 2) (N := some 15) (v := ?_) (a' := ?_) #[f_, t_, t_, f_, f_, f_] rfl rfl (by kernel_rfl) (fun _ _ _ h => h) (Or.inl ⟨by rfl, ?_⟩) hHeld ?_ ?_
  rotate_left
  · rintro w' ⟨s0, s1⟩
    go_simp
    with_reducible rfl
  rotate_left
  · simp only [Act.put, sa_, sz_, ss_, i64_w, i32_w]
    rfl
  refine join_ (σ := Nat × Nat) 1 #[t_, t_, t_, t_, t_, f_] (fun s => [(13, .map (some s.1)), (16, .agg #[.string hd, .func (.func f) #[] #[]]), (6, .pointer (some ⟨s.2, 0, none⟩))]) (fun s w' => w'.heap[s.2]? = some (.cells #[.string ⟨#[]⟩, .nilFunc] 72 (0, 0)) ∧ v1.heap.size ≤ s.2 ∧ w'.cell? ⟨w.heap.size + 1, 0, none⟩ = some (.int .i64 z.f0) ∧ Below v1.heap.size v1 w') ?_ ?_
  rotate_left
  · intro hCont
    refine two_ (i := 0) (j := 4) (Ni := some 13) (Nj := some 6) #[t_, t_, t_, f_, f_, f_] #[f_, t_, t_, f_, t_, f_] rfl rfl rfl rfl (by kernel_rfl) (by decide) (by decide) (fun K hK => ?_) (fun K hK => ?_)
    · skip
      refine goes_ Tryz.func31 (by kernel_rfl) rfl #[] (by rfl) rfl rfl (by simp) ?_
      with_reducible refine (ways_calls _).mono ?_
      rintro e X0 ⟨rfl, hM, hb0⟩
      refine ⟨_, rfl, ?_⟩
      refine hK.out _ _ ⟨(below_of hb0 hHeld.1), (below_step hHeld.2 hb0)⟩ (fun hHeld => ?_)
      clear hK K
      refine norm_ (a' := ?_) ?_ ?_
      rotate_left
      · show Act.put _ (some 13) _ = _
        simp only [Act.put, sa_, sz_, ss_, i64_w, i32_w]
        rfl
      refine two_ (i := 3) (j := 4) (Ni := some 16) (Nj := some 6) #[t_, t_, t_, t_, f_, f_] #[t_, t_, t_, f_, t_, f_] rfl rfl rfl rfl (by kernel_rfl) (by decide) (by decide) (fun K hK => ?_) (fun K hK => ?_)
      · skip
        have hl := HL.out _ (v1.heap.size) hM
        refine value_ (w1 := ?_) (v := ?_) (by rfl) rfl ?_ ?_
        rotate_left 2
        · go_simp
          constructor
          · rfl
          · rfl
        clear hl
        refine hK.out _ _ ⟨hHeld.1, hHeld.2⟩ (fun hHeld => ?_)
        clear hK K
        refine norm_ (a' := ?_) ?_ ?_
        rotate_left
        · show Act.put _ (some 16) _ = _
          simp only [Act.put, sa_, sz_, ss_, i64_w, i32_w]
          rfl
        refine one_ (i := 4) (N := some 6) #[t_, t_, t_, t_, t_, f_] rfl rfl (by kernel_rfl) (by decide) (fun K hK => ?_)
        refine value_ (w1 := ?_) (v := ?_) (by rfl) rfl ?_ ?_
        rotate_left 2
        · go_simp
          constructor
          · rfl
          · rfl
        refine letter_ ?_
        intro X4 hW
        have hb4 : Below X0.heap.size X0 X4 := by rw [hW]; exact below1 _ _
        have R4 : X4.heap[X0.heap.size]? = some (.cells #[.string ⟨#[]⟩, .nilFunc] 72 (0, 0)) := by rw [hW]; exact heap_alloc_new _ _
        have le4 := (hHeld.2).size
        replace hM := below_blk hb4 hM
        clear hW
        refine hK.out _ _ ⟨(below_of hb4 hHeld.1), (below_step hHeld.2 hb4)⟩ (fun hHeld => ?_)
        clear hK K
        refine norm_ (a' := ?_) ?_ ?_
        rotate_left
        · show Act.put _ (some 6) _ = _
          simp only [Act.put, sa_, sz_, ss_, i64_w, i32_w]
          rfl
        exact norm_ (by simp only [putAll, Act.put, sa_, sz_, ss_]) (hCont (v1.drew.heap.size, X0.heap.size) _ ⟨R4, le4, hHeld⟩)
      · skip
        refine value_ (w1 := ?_) (v := ?_) (by rfl) rfl ?_ ?_
        rotate_left 2
        · go_simp
          constructor
          · rfl
          · rfl
        refine letter_ ?_
        intro X4 hW
        have hb4 : Below X0.heap.size X0 X4 := by rw [hW]; exact below1 _ _
        have R4 : X4.heap[X0.heap.size]? = some (.cells #[.string ⟨#[]⟩, .nilFunc] 72 (0, 0)) := by rw [hW]; exact heap_alloc_new _ _
        have le4 := (hHeld.2).size
        replace hM := below_blk hb4 hM
        clear hW
        refine hK.out _ _ ⟨(below_of hb4 hHeld.1), (below_step hHeld.2 hb4)⟩ (fun hHeld => ?_)
        clear hK K
        refine norm_ (a' := ?_) ?_ ?_
        rotate_left
        · show Act.put _ (some 6) _ = _
          simp only [Act.put, sa_, sz_, ss_, i64_w, i32_w]
          rfl
        refine one_ (i := 3) (N := some 16) #[t_, t_, t_, t_, t_, f_] rfl rfl (by kernel_rfl) (by decide) (fun K hK => ?_)
        have hl := HL.out _ (v1.heap.size) hM
        refine value_ (w1 := ?_) (v := ?_) (by rfl) rfl ?_ ?_
        rotate_left 2
        · go_simp
          constructor
          · rfl
          · rfl
        clear hl
        refine hK.out _ _ ⟨hHeld.1, hHeld.2⟩ (fun hHeld => ?_)
        clear hK K
        refine norm_ (a' := ?_) ?_ ?_
        rotate_left
        · show Act.put _ (some 16) _ = _
          simp only [Act.put, sa_, sz_, ss_, i64_w, i32_w]
          rfl
        exact norm_ (by simp only [putAll, Act.put, sa_, sz_, ss_]) (hCont (v1.drew.heap.size, X0.heap.size) _ ⟨R4, le4, hHeld⟩)
    · skip
      refine value_ (w1 := ?_) (v := ?_) (by rfl) rfl ?_ ?_
      rotate_left 2
      · go_simp
        constructor
        · rfl
        · rfl
      refine letter_ ?_
      intro X4 hW
      have hb4 : Below v1.drew.heap.size v1.drew X4 := by rw [hW]; exact below1 _ _
      have R4 : X4.heap[v1.drew.heap.size]? = some (.cells #[.string ⟨#[]⟩, .nilFunc] 72 (0, 0)) := by rw [hW]; exact heap_alloc_new _ _
      have le4 := (hHeld.2).size
      clear hW
      refine hK.out _ _ ⟨(below_of hb4 hHeld.1), (below_step hHeld.2 hb4)⟩ (fun hHeld => ?_)
      clear hK K
      refine norm_ (a' := ?_) ?_ ?_
      rotate_left
      · show Act.put _ (some 6) _ = _
        simp only [Act.put, sa_, sz_, ss_, i64_w, i32_w]
        rfl
      refine one_ (i := 0) (N := some 13) #[t_, t_, t_, f_, t_, f_] rfl rfl (by kernel_rfl) (by decide) (fun K hK => ?_)
      refine goes_ Tryz.func31 (by kernel_rfl) rfl #[] (by rfl) rfl rfl (by simp) ?_
      with_reducible refine (ways_calls _).mono ?_
      rintro e X0 ⟨rfl, hM, hb0⟩
      refine ⟨_, rfl, ?_⟩
      replace R4 := below_blk hb0 R4
      refine hK.out _ _ ⟨(below_of hb0 hHeld.1), (below_step hHeld.2 hb0)⟩ (fun hHeld => ?_)
      clear hK K
      refine norm_ (a' := ?_) ?_ ?_
      rotate_left
      · show Act.put _ (some 13) _ = _
        simp only [Act.put, sa_, sz_, ss_, i64_w, i32_w]
        rfl
      refine one_ (i := 3) (N := some 16) #[t_, t_, t_, t_, t_, f_] rfl rfl (by kernel_rfl) (by decide) (fun K hK => ?_)
      have hl := HL.out _ (X4.heap.size) hM
      refine value_ (w1 := ?_) (v := ?_) (by rfl) rfl ?_ ?_
      rotate_left 2
      · go_simp
        constructor
        · rfl
        · rfl
      clear hl
      refine hK.out _ _ ⟨hHeld.1, hHeld.2⟩ (fun hHeld => ?_)
      clear hK K
      refine norm_ (a' := ?_) ?_ ?_
      rotate_left
      · show Act.put _ (some 16) _ = _
        simp only [Act.put, sa_, sz_, ss_, i64_w, i32_w]
        rfl
      exact norm_ (by simp only [putAll, Act.put, sa_, sz_, ss_]) (hCont (X4.heap.size, v1.heap.size) _ ⟨R4, le4, hHeld⟩)
  rintro ⟨g, PW⟩ W2 ⟨R4, le4, hHeld⟩
  simp only [] at R4 le4
  refine norm_ (a' := ?_) ?_ ?_
  rotate_left
  · simp only [putAll, Act.put, sa_, sz_, ss_]
    rfl
  refine last_ (i := 5) (N := none) #[t_, t_, t_, t_, t_, t_] rfl rfl (by kernel_rfl) (by decide) (fun K hK => ?_)
  have c6 := blk_cell R4 0 (.string ⟨#[]⟩) rfl
  have c7 := blk_cell R4 1 .nilFunc rfl
  have f6 := blk_free R4 0
  have f7 := blk_free R4 1
  refine skip_ (w1 := ?_) (by rfl) rfl ?_ ?_
  rotate_left
  · go_simp
    rfl
  refine hK.out _ _ ?_
  clear hK K
  refine done_ (by kernel_rfl) ?_
  have hb := CMem.below_set (b := PW) (i := 1) (CMem.below_set (b := PW) (i := 0) hHeld.2 le4 (.string hd)) le4 (.func (.func f) #[] #[])
  have RW := Lib.hid (set_blk (i := 1) (set_blk (i := 0) R4 (.string hd)) (.func (.func f) #[] #[]))
  have B02 := Lib.hid (below_blk hb B0.out)
  have B12 := Lib.hid (below_blk hb B1.out)
  have HB2 := Lib.hid (below_step HB1.out hb)
  clear c6 c7 f6 f7 R4 le4 hHeld hb hZ B0 B1 HB1 n0 HL
  generalize hW : (W2.setCell ⟨PW, 0, none⟩ (.string hd)).setCell ⟨PW, 1, none⟩ (.func (.func f) #[] #[]) = v2 at *
  clear hW
  go_wp2_with fail
  have hZ := Lib.hid (Below.refl v2.heap.size v2)
  have hSn : Sn v2 w.heap.size (w.heap.size + 1) PW (some ad) n c z hd (.func (.func f) #[] #[]) v2.drew := ⟨blk_cell RW.out 0 (.string hd) rfl, blk_cell RW.out 1 (.func (.func f) #[] #[]) rfl, blk_cell B02.out 0 (.slice (some ad) n c) rfl, nod_of B12.out, hZ.out.drew⟩
  refine start_ (n := 9) (S := fun w' => Sn v2 w.heap.size (w.heap.size + 1) PW (some ad) n c z hd (.func (.func f) #[] #[]) w') (ds := []) #[f_, f_, f_, f_, f_, f_, f_, f_, f_] (by kernel_rfl) rfl rfl (hSn) (fun hHeld => ?_)
  refine pure_ (i := 0) (N := some 17) (v := ?_) (a' := ?_) #[t_, f_, f_, f_, f_, f_, f_, f_, f_] rfl rfl (by kernel_rfl) (fun _ _ _ h => h) (Or.inl ⟨by rfl, ?_⟩) ?_ ?_
  rotate_left
  · intro w'
    go_simp
    with_reducible rfl
  rotate_left
  · simp only [Act.put, sa_, sz_, ss_, i64_w, i32_w]
    rfl
  refine pure_ (i := 2) (N := some 19) (v := ?_) (a' := ?_) #[t_, f_, t_, f_, f_, f_, f_, f_, f_] rfl rfl (by kernel_rfl) (fun _ _ _ h => h) (Or.inl ⟨by rfl, ?_⟩) ?_ ?_
  rotate_left
  · intro w'
    go_simp
    with_reducible rfl
  rotate_left
  · simp only [Act.put, sa_, sz_, ss_, i64_w, i32_w]
    rfl
  refine take_ (i := 1) (N := some 18) (v := ?_) (a' := ?_) #[t_, t_, t_, f_, f_, f_, f_, f_, f_] rfl rfl (by kernel_rfl) (fun _ _ _ h => h) (Or.inl ⟨by rfl, ?_⟩) hHeld ?_ ?_
  rotate_left
  · intro w' s0
    go_simp
    with_reducible rfl
  rotate_left
  · simp only [Act.put, sa_, sz_, ss_, i64_w, i32_w]
    rfl
  refine take_ (i := 3) (N := some 20) (v := ?_) (a' := ?_) #[t_, t_, t_, t_, f_, f_, f_, f_, f_] rfl rfl (by kernel_rfl) (fun _ _ _ h => h) (Or.inl ⟨by rfl, ?_⟩) hHeld ?_ ?_
  rotate_left
  · intro w' s0
    go_simp
    with_reducible rfl
  rotate_left
  · simp only [Act.put, sa_, sz_, ss_, i64_w, i32_w]
    rfl
  refine take_ (i := 4) (N := some 21) (v := ?_) (a' := ?_) #[t_, t_, t_, t_, t_, f_, f_, f_, f_] rfl rfl (by kernel_rfl) (fun _ _ _ h => h) (Or.inl ⟨by rfl, ?_⟩) hHeld ?_ ?_
  rotate_left
  · intro w' s0
    go_simp
    with_reducible rfl
  rotate_left
  · simp only [Act.put, sa_, sz_, ss_, i64_w, i32_w]
    rfl
  refine take_ (i := 5) (N := some 22) (v := ?_) (a' := ?_) #[t_, t_, t_, t_, t_, t_, f_, f_, f_] rfl rfl (by kernel_rfl) (fun _ _ _ h => h) (Or.inl ⟨by rfl, ?_⟩) hHeld ?_ ?_
  rotate_left
  · intro w' s0
    go_simp
    with_reducible rfl
  rotate_left
  · simp only [Act.put, sa_, sz_, ss_, i64_w, i32_w]
    rfl
  refine one_ (i := 6) (N := some 23) #[t_, t_, t_, t_, t_, t_, t_, f_, f_] rfl rfl (by kernel_rfl) (by decide) (fun K hK => ?_)
  refine goesd_ hfn hnm hbo #[.agg #[.slice (some ad) n c], .agg (nc z)] (by rfl) rfl rfl (by rfl) (by simp only [List.map_toArray, List.map_cons, List.map_nil]; rfl) ?_
  with_reducible refine (HF.out _ (below_step HB2.out hHeld.2.2.2.2)).mono ?_
  rintro e w3 ⟨rfl, hb3⟩
  refine ⟨_, rfl, ?_⟩
  refine hK.out _ _ ((sn_ hb3 hHeld)) (fun hHeld => ?_)
  clear hK K
  refine norm_ (a' := ?_) ?_ ?_
  rotate_left
  · show Act.put _ (some 23) _ = _
    simp only [Act.put, sa_, sz_, ss_, i64_w, i32_w]
    rfl
  refine pure_ (i := 7) (N := some 24) (v := ?_) (a' := ?_) #[t_, t_, t_, t_, t_, t_, t_, t_, f_] rfl rfl (by kernel_rfl) (fun _ _ _ h => h) (Or.inl ⟨by rfl, ?_⟩) ?_ ?_
  rotate_left
  · intro w'
    go_simp
    with_reducible rfl
  rotate_left
  · simp only [Act.put, sa_, sz_, ss_, i64_w, i32_w]
    rfl
  refine pure_ (i := 8) (N := some 4) (v := ?_) (a' := ?_) #[t_, t_, t_, t_, t_, t_, t_, t_, t_] rfl rfl (by kernel_rfl) (fun _ _ _ h => h) (Or.inl ⟨by rfl, ?_⟩) ?_ ?_
  rotate_left
  · intro w'
    go_simp
    with_reducible rfl
  rotate_left
  · simp only [Act.put, sa_, sz_, ss_, i64_w, i32_w]
    rfl
  refine done_ (by kernel_rfl) ?_
  have hbf := Lib.hid (below_step HB2.out hHeld.2.2.2.2)
  clear hHeld
  go_wp2
  go_ret
  exact ⟨rfl, hbf.out⟩
end Go.Proofs.YtaaihcojedibeaaGreatDoor.SNode
end
section
/- show's within: a node in parentheses, if it is of one of some kinds. -/
namespace Go.Proofs.YtaaihcojedibeaaGreatDoor.SWith
open Go.RowKit CMem DRow DDeep DSizes DSpec SText SSpec SKinds SSet SWays SNode Q Go.Proofs.YtaaihcojedibeaaGreatDoorW.PrintWords Go.Proofs.YtaaihcojedibeaaGreatDoorW.PrintLast Go.Proofs.YtaaihcojedibeaaGreatDoorW.PrintMore
set_option linter.unusedVariables false
set_option linter.unusedSimpArgs false
set_option maxRecDepth 100000
set_option maxHeartbeats 12800000 in
theorem within_calls (L : List S49) (n : Nat) (A : Option Addr) (c : Nat) (i : Nat) (hi : i < n) (ks : List Int) (m P kc : Nat) (hm : ks.length = m) (hm3 : m ≤ 3) (s : ByteArray) (h2 : s.size ≤ 1000000000)
    (w : World) (hC : Kd.C k49 w A n L) (hP : ∀ j v, ks[j]? = some v → w.cell? ⟨P, j, none⟩ = some (.int .i64 v))
    (hN : ∀ W, Below w.heap.size w W → Calls Tryz.prog 12 #[.agg #[.slice A n c], .int .i64 (i : Nat)] W fun e W' => e = .returned (.string s) ∧ Below W.heap.size W W') :
    Calls Tryz.prog 59 #[.agg #[.slice A n c], .int .i64 (i : Nat), .slice (some ⟨P, 0, none⟩) m kc] w fun e w' => e = .returned (.string (if (rd_T49 L i).f0 ∈ ks then ⟨#[40, 63, 58]⟩ ++ s ++ ⟨#[41]⟩ else s)) ∧ Below w.heap.size w w' := by
  obtain ⟨ad, hA, a0, _⟩ := at_T49 hC (i : Int) (by omega) (by omega)
  subst hA
  rw [Int.toNat_natCast] at a0
  generalize (rd_T49 L i).f0 = K at *
  have hi2 : (i : Int) < (n : Int) := by omega
  have e1 : (⟨#[40, 63, 58]⟩ : ByteArray).size = 3 := rfl
  have e2 : (⟨#[41]⟩ : ByteArray).size = 1 := rfl
  have HN := Lib.hid hN
  have B0 := Lib.hid (heap_alloc_new w (.cells #[.slice (some ad) n c] 41))
  have HB0 := Lib.hid (below1 w (.cells #[.slice (some ad) n c] 41))
  have A0 := Lib.hid (below_of HB0.out a0)
  have HP := Lib.hid (fun j v h => below_of HB0.out (hP j v h))
  have HM := Lib.hid hm
  obtain ⟨R, hR⟩ : ∃ R, (if K ∈ ks then ⟨#[40, 63, 58]⟩ ++ s ++ ⟨#[41]⟩ else s) = R := ⟨_, rfl⟩
  rw [hR]
  replace hR := Lib.hid hR
  clear hN hC hP a0 hm
  go_enter Tryz.func59, Tryz.ntmps59
  go_wp2
  generalize w.alloc (.cells #[.slice (some ad) n c] 41) = v0 at *
  go_loopw [11] (fun t wr => ∃ k : Nat, k ≤ m ∧ t = .int .i64 (k : Nat) ∧ Hid (∀ j v, j < k → ks[j]? = some v → v ≠ K) ∧ Hid (Below v0.heap.size v0 wr)) (fun t _ => m - (intOf t).toNat)
  case atStart => exact ⟨0, Nat.zero_le _, rfl, Lib.hid (fun j v h => absurd h (Nat.not_lt_zero _)), Lib.hid (Below.refl _ _)⟩
  case round =>
    obtain ⟨k, hk, rfl, HS, HD⟩ := hrel
    have s0 := blk_cell (below_blk HD.out B0.out) 0 (.slice (some ad) n c) rfl
    have a0 := below_of HD.out A0.out
    have HBr := Lib.hid (below_step HB0.out HD.out)
    by_cases h : k < m
    · have hk2 : (k : Int) < (m : Int) := by omega
      obtain ⟨q, hq⟩ : ∃ q, ks[k]? = some q := ⟨_, List.getElem?_eq_getElem (by rw [HM.out]; exact h)⟩
      have c0 := below_of HD.out (HP.out k q hq)
      have HQ := Lib.hid hq
      clear hq
      by_cases hqk : K = q
      · subst hqk
        have hbq : (K == K) = true := by simp
        go_wp2_with fail
        refine (HN.out _ HBr.out).mono ?_
        rintro e w3 ⟨rfl, hb⟩
        have HB3 := Lib.hid (below_step HBr.out hb)
        clear hb c0 s0 a0
        go_wp2
        go_ret
        exact ⟨by rw [← hR.out, if_pos (List.mem_of_getElem? HQ.out)]; rfl, HB3.out⟩
      · have hbq : (K == q) = false := by simpa using hqk
        go_wp2
        go_roundw
        case rel => exact ⟨k + 1, by omega, by simp, Lib.hid (fun j v hj hv => by
          rcases Nat.lt_or_ge j k with h1 | h1
          · exact HS.out j v h1 hv
          · obtain rfl : j = k := by omega
            rw [HQ.out] at hv
            injection hv with hv
            subst hv
            exact fun e => hqk e.symm), HD⟩
        case measure => simp [intOf]; omega
    · obtain rfl : m = k := by omega
      have hk2 : ¬ ((m : Int) < (m : Int)) := by omega
      go_wp2_with fail
      refine (HN.out _ HBr.out).mono ?_
      rintro e w3 ⟨rfl, hb⟩
      have HB3 := Lib.hid (below_step HBr.out hb)
      have hno : ¬ K ∈ ks := by
        intro hmem
        obtain ⟨j, hj, hv⟩ := List.mem_iff_getElem.1 hmem
        exact HS.out j K (by rw [← HM.out]; exact hj) (by rw [← hv]; exact List.getElem?_eq_getElem hj) rfl
      clear hb s0 a0
      go_wp2
      go_ret
      exact ⟨by rw [← hR.out, if_neg hno]; rfl, HB3.out⟩
end Go.Proofs.YtaaihcojedibeaaGreatDoor.SWith
end
section
/- show's ways: their functions. -/
namespace Go.Proofs.YtaaihcojedibeaaGreatDoor.SBody
open Go.RowKit CMem CBits CSet DRow DDeep DSizes DSpec SText SSpec SKinds SSet SWays SNode SWith Q Go.Proofs.YtaaihcojedibeaaGreatDoorW.PrintWords Go.Proofs.YtaaihcojedibeaaGreatDoorW.PrintLast Go.Proofs.YtaaihcojedibeaaGreatDoorW.PrintMore
set_option linter.unusedVariables false
set_option linter.unusedSimpArgs false
set_option maxRecDepth 100000
/-- a node's pattern is told, in every later world -/
abbrev NTold (w : World) (A : Option Addr) (n c i : Nat) (s : ByteArray) : Prop :=
  ∀ W, Below w.heap.size w W → Calls Tryz.prog 12 #[.agg #[.slice A n c], .int .i64 (i : Nat)] W fun e W' => e = .returned (.string s) ∧ Below W.heap.size W W'
theorem NTold.later {w w1 : World} {A : Option Addr} {n c i : Nat} {s : ByteArray} (h : NTold w A n c i s) (hb : Below w.heap.size w w1) : NTold w1 A n c i s := fun W h2 => h W (below_step hb h2)
set_option maxHeartbeats 6400000 in
theorem empty_calls (A : Option Addr) (n c : Nat) (x : S49) (w : World) : Calls Tryz.prog 53 #[.agg #[.slice A n c], .agg (nc x)] w fun e w' => e = .returned (.string ⟨#[]⟩) ∧ Below w.heap.size w w' := by
  have HB := Lib.hid (below2 w (.cells #[.slice A n c] 41) (.cells (nc x) 49))
  unfold nc at *
  go_enter Tryz.func53, Tryz.ntmps53
  go_wp2
  go_ret
  exact ⟨rfl, HB.out⟩
set_option maxHeartbeats 6400000 in
theorem child_calls (A : Option Addr) (n c : Nat) (x : S49) (a : Nat) (hx : x.f1 = (a : Int)) (s : ByteArray) (h2 : s.size ≤ 1000000000) (w : World) (hN : NTold w A n c a s) :
    Calls Tryz.prog 54 #[.agg #[.slice A n c], .agg (nc x)] w fun e w' => e = .returned (.string (s ++ ⟨#[41]⟩)) ∧ Below w.heap.size w w' := by
  obtain ⟨xk, xa, xb, ⟨⟨y0, y1, y2, y3⟩⟩, xi, xm, xo, xn, xf⟩ := x
  simp only [] at hx
  subst hx
  have HB := Lib.hid (below2 w (.cells #[.slice A n c] 41) (.cells (nc ⟨xk, (a : Int), xb, ⟨⟨y0, y1, y2, y3⟩⟩, xi, xm, xo, xn, xf⟩) 49))
  have HN := Lib.hid hN
  have e1 : (⟨#[41]⟩ : ByteArray).size = 1 := rfl
  clear hN
  unfold nc at *
  simp only [] at HB ⊢
  go_enter Tryz.func54, Tryz.ntmps54
  go_wp2_with fail
  refine (HN.out _ HB.out).mono ?_
  rintro e w3 ⟨rfl, hb⟩
  have HB3 := Lib.hid (below_step HB.out hb)
  clear hb
  go_wp2
  go_ret
  exact ⟨rfl, HB3.out⟩
set_option maxHeartbeats 6400000 in
theorem w1_calls (A : Option Addr) (n c : Nat) (x : S49) (hx : OkN x) (w : World) :
    Calls Tryz.prog 55 #[.agg #[.slice A n c], .agg (nc x)] w fun e w' => e = .returned (.string (setB (nw x.f3))) ∧ Below w.heap.size w w' := by
  have hsc := sc_nw x.f3 ⟨hx.1, hx.2.1, hx.2.2.1, hx.2.2.2.1⟩
  have KS := Lib.hid (fun W => set_calls (nw x.f3) W)
  rw [hsc] at KS
  generalize setB (nw x.f3) = s at *
  clear hsc hx
  have HB := Lib.hid (below2 w (.cells #[.slice A n c] 41) (.cells (nc x) 49))
  unfold nc at *
  go_enter Tryz.func55, Tryz.ntmps55
  go_wp2_with fail
  refine (KS.out _).mono ?_
  rintro e w3 ⟨rfl, hb⟩
  have HB3 := Lib.hid (below_step HB.out hb)
  clear hb
  go_wp2
  go_ret
  exact ⟨rfl, HB3.out⟩
set_option maxHeartbeats 6400000 in
theorem w2_calls (A : Option Addr) (n c : Nat) (x : S49) (hx : OkN x) (w : World) (T : Tab w) :
    Calls Tryz.prog 56 #[.agg #[.slice A n c], .agg (nc x)] w fun e w' => e = .returned (.string (back x.f7 x.f8)) ∧ Below w.heap.size w w' := by
  have KS := Lib.hid (fun W T => back_calls x hx.2.2.2.2 W T)
  have HT := Lib.hid T
  generalize back x.f7 x.f8 = s at *
  clear hx T
  have HB := Lib.hid (below2 w (.cells #[.slice A n c] 41) (.cells (nc x) 49))
  unfold nc at *
  go_enter Tryz.func56, Tryz.ntmps56
  go_wp2_with fail
  refine (KS.out _ (HT.out.below HB.out)).mono ?_
  rintro e w3 ⟨rfl, hb⟩
  have HB3 := Lib.hid (below_step HB.out hb)
  clear hb
  go_wp2
  go_ret
  exact ⟨rfl, HB3.out⟩
end Go.Proofs.YtaaihcojedibeaaGreatDoor.SBody
end
section
/- show's ways: two trees one behind the other, one or the other, and again. -/
namespace Go.Proofs.YtaaihcojedibeaaGreatDoor.SBodyB
open Go.RowKit CMem CBits CSet DRow DDeep DSizes DSpec SText SSpec SKinds SSet SWays SNode SWith SBody Q Go.Proofs.YtaaihcojedibeaaGreatDoorW.PrintWords Go.Proofs.YtaaihcojedibeaaGreatDoorW.PrintLast Go.Proofs.YtaaihcojedibeaaGreatDoorW.PrintMore
set_option linter.unusedVariables false
set_option linter.unusedSimpArgs false
set_option maxRecDepth 100000
abbrev t_ : Bool := true
abbrev f_ : Bool := false
theorem sa_ {α : Type} (l : List α) (i : Nat) (a : α) : l.toArray.setIfInBounds i a = (l.set i a).toArray := List.setIfInBounds_toArray _ _ _
theorem sz_ {α : Type} (x : α) (l : List α) (a : α) : (x :: l).set 0 a = a :: l := rfl
theorem ss_ {α : Type} (x : α) (l : List α) (i : Nat) (a : α) : (x :: l).set (i + 1) a = x :: l.set i a := rfl
/-- what the regions' loads need -/
abbrev Sw (v : World) (p q : Nat) (A : Option Addr) (n c : Nat) (z : S49) (w : World) : Prop := w.cell? ⟨p, 0, none⟩ = some (.slice A n c) ∧ Nod w q z ∧ Below v.heap.size v w
theorem sw_ {v w w1 : World} {p q n c : Nat} {A : Option Addr} {z : S49} (hb : Below w.heap.size w w1) (h : Sw v p q A n c z w) : Sw v p q A n c z w1 := ⟨below_of hb h.1, nod_below hb h.2.1, below_step h.2.2 hb⟩
theorem lits {W : World} {P : Nat} {vs : List Int} {t : TypeId} (h : W.heap[P]? = some (.cells (vs.map (Value.int .i64)).toArray t (0, 0))) : ∀ (j : Nat) (v : Int), vs[j]? = some v → W.cell? ⟨P, j, none⟩ = some (.int .i64 v) :=
  fun j v hj => blk_cell h j _ (by rw [List.getElem?_toArray, List.getElem?_map, hj]; rfl)
/-- in parentheses, if it is of one of some kinds -/
def par (k : Int) (ks : List Int) (s : ByteArray) : ByteArray := if k ∈ ks then ⟨#[40, 63, 58]⟩ ++ s ++ ⟨#[41]⟩ else s
theorem par_size {k : Int} {ks : List Int} {s : ByteArray} (h : s.size ≤ 1000000000) : (par k ks s).size ≤ 1000000004 := by
  unfold par
  split
  · rw [ByteArray.size_append, ByteArray.size_append]
    show 3 + _ + 1 ≤ _
    omega
  · omega
set_option maxHeartbeats 12800000 in
theorem w3_calls (L : List S49) (A : Option Addr) (n c : Nat) (x : S49) (a b : Nat) (hx1 : x.f1 = (a : Int)) (hx2 : x.f2 = (b : Int)) (ha : a < n) (hb : b < n) (s t : ByteArray) (hs : s.size ≤ 1000000000) (ht : t.size ≤ 1000000000) (w : World) (hC : Kd.C k49 w A n L) (hA : NTold w A n c a s) (hB : NTold w A n c b t) :
    Calls Tryz.prog 58 #[.agg #[.slice A n c], .agg (nc x)] w fun e w' => e = .returned (.string (par (rd_T49 L a).f0 [9] s ++ par (rd_T49 L b).f0 [8, 9] t)) ∧ Below w.heap.size w w' := by
  have hz1 := par_size (k := (rd_T49 L a).f0) (ks := [9]) hs
  have hz2 := par_size (k := (rd_T49 L b).f0) (ks := [8, 9]) ht
  have HA := Lib.hid hA
  have HB := Lib.hid hB
  have HC := Lib.hid hC
  have K1 := Lib.hid (fun W P (h : Below w.heap.size w W) hP => within_calls L n A c a ha [9] 1 P 1 rfl (by decide) s hs W (Kd.C_below HC.out h) hP (HA.out.later h))
  have K2 := Lib.hid (fun W P (h : Below w.heap.size w W) hP => within_calls L n A c b hb [8, 9] 2 P 2 rfl (by decide) t ht W (Kd.C_below HC.out h) hP (HB.out.later h))
  unfold par at hz1 hz2 ⊢
  obtain ⟨r1, hr1⟩ : ∃ r, (if (rd_T49 L a).f0 ∈ ([9] : List Int) then (⟨#[40, 63, 58]⟩ ++ s ++ ⟨#[41]⟩ : ByteArray) else s) = r := ⟨_, rfl⟩
  obtain ⟨r2, hr2⟩ : ∃ r, (if (rd_T49 L b).f0 ∈ ([8, 9] : List Int) then (⟨#[40, 63, 58]⟩ ++ t ++ ⟨#[41]⟩ : ByteArray) else t) = r := ⟨_, rfl⟩
  rw [hr1] at hz1 K1 ⊢
  rw [hr2] at hz2 K2 ⊢
  clear hr1 hr2 hA hB hC hs ht
  have hsz : ¬ 9223372036854775807 < r1.size + r2.size := by omega
  rw [← hx1] at K1
  rw [← hx2] at K2
  clear hx1 hx2
  have B0 := Lib.hid (blk_alloc (heap_alloc_new w (.cells #[.slice A n c] 41)) (.cells (nc x) 49))
  have B1 := Lib.hid (blk2 w (.cells #[.slice A n c] 41) (nc x) 49)
  have HB1 := Lib.hid (below2 w (.cells #[.slice A n c] 41) (.cells (nc x) 49))
  go_enter Tryz.func58, Tryz.ntmps58
  go_wp2_with fail
  generalize (w.alloc (.cells #[.slice A n c] 41)).alloc (.cells (nc x) 49) = v1 at *
  have hZ := Lib.hid (Below.refl v1.heap.size v1)
  have hSw : Sw v1 w.heap.size (w.heap.size + 1) A n c x v1.drew := ⟨blk_cell B0.out 0 (.slice A n c) rfl, nod_of B1.out, hZ.out.drew⟩
  refine start_ (n := 12) (S := fun w' => Sw v1 w.heap.size (w.heap.size + 1) A n c x w') (ds := []) #[f_, f_, f_, f_, f_, f_, f_, f_, f_, f_, f_, f_] (by kernel_rfl) rfl rfl (hSw) (fun hHeld => ?_)
  refine pure_ (i := 1) (N := some 6) (v := ?_) (a' := ?_) #[f_, t_, f_, f_, f_, f_, f_, f_, f_, f_, f_, f_] rfl rfl (by kernel_rfl) (fun _ _ _ h => h) (Or.inl ⟨by rfl, ?_⟩) ?_ ?_
  rotate_left
  · intro w'
    go_simp
    with_reducible rfl
  rotate_left
  · simp only [Act.put, sa_, sz_, ss_, i64_w, i32_w]
    rfl
  refine pure_ (i := 6) (N := some 11) (v := ?_) (a' := ?_) #[f_, t_, f_, f_, f_, f_, t_, f_, f_, f_, f_, f_] rfl rfl (by kernel_rfl) (fun _ _ _ h => h) (Or.inl ⟨by rfl, ?_⟩) ?_ ?_
  rotate_left
  · intro w'
    go_simp
    with_reducible rfl
  rotate_left
  · simp only [Act.put, sa_, sz_, ss_, i64_w, i32_w]
    rfl
  refine take_ (i := 0) (N := some 5) (v := ?_) (a' := ?_) #[t_, t_, f_, f_, f_, f_, t_, f_, f_, f_, f_, f_] rfl rfl (by kernel_rfl) (fun _ _ _ h => h) (Or.inl ⟨by rfl, ?_⟩) hHeld ?_ ?_
  rotate_left
  · intro w' s0
    go_simp
    with_reducible rfl
  rotate_left
  · simp only [Act.put, sa_, sz_, ss_, i64_w, i32_w]
    rfl
  refine take_ (i := 2) (N := some 7) (v := ?_) (a' := ?_) #[t_, t_, t_, f_, f_, f_, t_, f_, f_, f_, f_, f_] rfl rfl (by kernel_rfl) (fun _ _ _ h => h) (Or.inl ⟨by rfl, ?_⟩) hHeld ?_ ?_
  rotate_left
  · intro w' s0
    go_simp
    with_reducible rfl
  rotate_left
  · simp only [Act.put, sa_, sz_, ss_, i64_w, i32_w]
    rfl
  refine take_ (i := 5) (N := some 10) (v := ?_) (a' := ?_) #[t_, t_, t_, f_, f_, t_, t_, f_, f_, f_, f_, f_] rfl rfl (by kernel_rfl) (fun _ _ _ h => h) (Or.inl ⟨by rfl, ?_⟩) hHeld ?_ ?_
  rotate_left
  · intro w' s0
    go_simp
    with_reducible rfl
  rotate_left
  · simp only [Act.put, sa_, sz_, ss_, i64_w, i32_w]
    rfl
  refine take_ (i := 7) (N := some 12) (v := ?_) (a' := ?_) #[t_, t_, t_, f_, f_, t_, t_, t_, f_, f_, f_, f_] rfl rfl (by kernel_rfl) (fun _ _ _ h => h) (Or.inl ⟨by rfl, ?_⟩) hHeld ?_ ?_
  rotate_left
  · intro w' s0
    go_simp
    with_reducible rfl
  rotate_left
  · simp only [Act.put, sa_, sz_, ss_, i64_w, i32_w]
    rfl
  refine join_ (σ := Nat × Nat) 3 #[t_, t_, t_, t_, t_, t_, t_, t_, t_, f_, f_, f_] (fun s => [(8, .slice (some ⟨s.1, 0, none⟩) 1 1), (9, .string r1), (13, .slice (some ⟨s.2, 0, none⟩) 2 2)]) (fun s w' => w'.heap[s.2]? = some (.cells (([8, 9] : List Int).map (Value.int .i64)).toArray 3 (0, 0)) ∧ Sw v1 w.heap.size (w.heap.size + 1) A n c x w') ?_ ?_
  rotate_left
  · intro hCont
    refine two_ (i := 3) (j := 8) (Ni := some 8) (Nj := some 13) #[t_, t_, t_, t_, f_, t_, t_, t_, f_, f_, f_, f_] #[t_, t_, t_, f_, f_, t_, t_, t_, t_, f_, f_, f_] rfl rfl rfl rfl (by kernel_rfl) (by decide) (by decide) (fun K hK => ?_) (fun K hK => ?_)
    · skip
      refine value_ (w1 := ?_) (v := ?_) (by rfl) rfl ?_ ?_
      rotate_left 2
      · go_simp
        constructor
        · rfl
        · rfl
      refine letter_ ?_
      intro X3 hW
      have hb3 : Below v1.drew.heap.size v1.drew X3 := by rw [hW]; exact below1 _ _
      have R3 : X3.heap[v1.heap.size]? = some (.cells (([9] : List Int).map (Value.int .i64)).toArray 3 (0, 0)) := by rw [hW]; exact heap_alloc_new _ _
      clear hW
      refine hK.out _ _ ((sw_ hb3 hHeld)) (fun hHeld => ?_)
      clear hK K
      refine norm_ (a' := ?_) ?_ ?_
      rotate_left
      · show Act.put _ (some 8) _ = _
        simp only [Act.put, sa_, sz_, ss_, i64_w, i32_w]
        rfl
      refine two_ (i := 4) (j := 8) (Ni := some 9) (Nj := some 13) #[t_, t_, t_, t_, t_, t_, t_, t_, f_, f_, f_, f_] #[t_, t_, t_, t_, f_, t_, t_, t_, t_, f_, f_, f_] rfl rfl rfl rfl (by kernel_rfl) (by decide) (by decide) (fun K hK => ?_) (fun K hK => ?_)
      · skip
        refine goes_ Tryz.func59 (by kernel_rfl) rfl #[.agg #[.slice A n c], .int .i64 x.f1, .slice (some ⟨v1.heap.size, 0, none⟩) 1 1] (by rfl) rfl rfl (by simp only [List.map_toArray, List.map_cons, List.map_nil]; rfl) ?_
        with_reducible refine (K1.out _ (v1.heap.size) (below_step HB1.out hHeld.2.2) (lits R3)).mono ?_
        rintro e X4 ⟨rfl, hb4⟩
        refine ⟨_, rfl, ?_⟩
        replace R3 := below_blk hb4 R3
        refine hK.out _ _ ((sw_ hb4 hHeld)) (fun hHeld => ?_)
        clear hK K
        refine norm_ (a' := ?_) ?_ ?_
        rotate_left
        · show Act.put _ (some 9) _ = _
          simp only [Act.put, sa_, sz_, ss_, i64_w, i32_w]
          rfl
        refine one_ (i := 8) (N := some 13) #[t_, t_, t_, t_, t_, t_, t_, t_, t_, f_, f_, f_] rfl rfl (by kernel_rfl) (by decide) (fun K hK => ?_)
        refine value_ (w1 := ?_) (v := ?_) (by rfl) rfl ?_ ?_
        rotate_left 2
        · go_simp
          constructor
          · rfl
          · rfl
        refine letter_ ?_
        intro X8 hW
        have hb8 : Below X4.heap.size X4 X8 := by rw [hW]; exact below1 _ _
        have R8 : X8.heap[X4.heap.size]? = some (.cells (([8, 9] : List Int).map (Value.int .i64)).toArray 3 (0, 0)) := by rw [hW]; exact heap_alloc_new _ _
        clear hW
        replace R3 := below_blk hb8 R3
        refine hK.out _ _ ((sw_ hb8 hHeld)) (fun hHeld => ?_)
        clear hK K
        refine norm_ (a' := ?_) ?_ ?_
        rotate_left
        · show Act.put _ (some 13) _ = _
          simp only [Act.put, sa_, sz_, ss_, i64_w, i32_w]
          rfl
        exact norm_ (by simp only [putAll, Act.put, sa_, sz_, ss_]) (hCont (v1.heap.size, X4.heap.size) _ ⟨R8, hHeld⟩)
      · skip
        refine value_ (w1 := ?_) (v := ?_) (by rfl) rfl ?_ ?_
        rotate_left 2
        · go_simp
          constructor
          · rfl
          · rfl
        refine letter_ ?_
        intro X8 hW
        have hb8 : Below X3.heap.size X3 X8 := by rw [hW]; exact below1 _ _
        have R8 : X8.heap[X3.heap.size]? = some (.cells (([8, 9] : List Int).map (Value.int .i64)).toArray 3 (0, 0)) := by rw [hW]; exact heap_alloc_new _ _
        clear hW
        replace R3 := below_blk hb8 R3
        refine hK.out _ _ ((sw_ hb8 hHeld)) (fun hHeld => ?_)
        clear hK K
        refine norm_ (a' := ?_) ?_ ?_
        rotate_left
        · show Act.put _ (some 13) _ = _
          simp only [Act.put, sa_, sz_, ss_, i64_w, i32_w]
          rfl
        refine one_ (i := 4) (N := some 9) #[t_, t_, t_, t_, t_, t_, t_, t_, t_, f_, f_, f_] rfl rfl (by kernel_rfl) (by decide) (fun K hK => ?_)
        refine goes_ Tryz.func59 (by kernel_rfl) rfl #[.agg #[.slice A n c], .int .i64 x.f1, .slice (some ⟨v1.heap.size, 0, none⟩) 1 1] (by rfl) rfl rfl (by simp only [List.map_toArray, List.map_cons, List.map_nil]; rfl) ?_
        with_reducible refine (K1.out _ (v1.heap.size) (below_step HB1.out hHeld.2.2) (lits R3)).mono ?_
        rintro e X4 ⟨rfl, hb4⟩
        refine ⟨_, rfl, ?_⟩
        replace R3 := below_blk hb4 R3
        replace R8 := below_blk hb4 R8
        refine hK.out _ _ ((sw_ hb4 hHeld)) (fun hHeld => ?_)
        clear hK K
        refine norm_ (a' := ?_) ?_ ?_
        rotate_left
        · show Act.put _ (some 9) _ = _
          simp only [Act.put, sa_, sz_, ss_, i64_w, i32_w]
          rfl
        exact norm_ (by simp only [putAll, Act.put, sa_, sz_, ss_]) (hCont (v1.heap.size, X3.heap.size) _ ⟨R8, hHeld⟩)
    · skip
      refine value_ (w1 := ?_) (v := ?_) (by rfl) rfl ?_ ?_
      rotate_left 2
      · go_simp
        constructor
        · rfl
        · rfl
      refine letter_ ?_
      intro X8 hW
      have hb8 : Below v1.drew.heap.size v1.drew X8 := by rw [hW]; exact below1 _ _
      have R8 : X8.heap[v1.heap.size]? = some (.cells (([8, 9] : List Int).map (Value.int .i64)).toArray 3 (0, 0)) := by rw [hW]; exact heap_alloc_new _ _
      clear hW
      refine hK.out _ _ ((sw_ hb8 hHeld)) (fun hHeld => ?_)
      clear hK K
      refine norm_ (a' := ?_) ?_ ?_
      rotate_left
      · show Act.put _ (some 13) _ = _
        simp only [Act.put, sa_, sz_, ss_, i64_w, i32_w]
        rfl
      refine one_ (i := 3) (N := some 8) #[t_, t_, t_, t_, f_, t_, t_, t_, t_, f_, f_, f_] rfl rfl (by kernel_rfl) (by decide) (fun K hK => ?_)
      refine value_ (w1 := ?_) (v := ?_) (by rfl) rfl ?_ ?_
      rotate_left 2
      · go_simp
        constructor
        · rfl
        · rfl
      refine letter_ ?_
      intro X3 hW
      have hb3 : Below X8.heap.size X8 X3 := by rw [hW]; exact below1 _ _
      have R3 : X3.heap[X8.heap.size]? = some (.cells (([9] : List Int).map (Value.int .i64)).toArray 3 (0, 0)) := by rw [hW]; exact heap_alloc_new _ _
      clear hW
      replace R8 := below_blk hb3 R8
      refine hK.out _ _ ((sw_ hb3 hHeld)) (fun hHeld => ?_)
      clear hK K
      refine norm_ (a' := ?_) ?_ ?_
      rotate_left
      · show Act.put _ (some 8) _ = _
        simp only [Act.put, sa_, sz_, ss_, i64_w, i32_w]
        rfl
      refine one_ (i := 4) (N := some 9) #[t_, t_, t_, t_, t_, t_, t_, t_, t_, f_, f_, f_] rfl rfl (by kernel_rfl) (by decide) (fun K hK => ?_)
      refine goes_ Tryz.func59 (by kernel_rfl) rfl #[.agg #[.slice A n c], .int .i64 x.f1, .slice (some ⟨X8.heap.size, 0, none⟩) 1 1] (by rfl) rfl rfl (by simp only [List.map_toArray, List.map_cons, List.map_nil]; rfl) ?_
      with_reducible refine (K1.out _ (X8.heap.size) (below_step HB1.out hHeld.2.2) (lits R3)).mono ?_
      rintro e X4 ⟨rfl, hb4⟩
      refine ⟨_, rfl, ?_⟩
      replace R8 := below_blk hb4 R8
      replace R3 := below_blk hb4 R3
      refine hK.out _ _ ((sw_ hb4 hHeld)) (fun hHeld => ?_)
      clear hK K
      refine norm_ (a' := ?_) ?_ ?_
      rotate_left
      · show Act.put _ (some 9) _ = _
        simp only [Act.put, sa_, sz_, ss_, i64_w, i32_w]
        rfl
      exact norm_ (by simp only [putAll, Act.put, sa_, sz_, ss_]) (hCont (X8.heap.size, v1.heap.size) _ ⟨R8, hHeld⟩)
  rintro ⟨P3, P8⟩ W2 ⟨R8, hHeld⟩
  simp only [] at R8
  refine norm_ (a' := ?_) ?_ ?_
  rotate_left
  · simp only [putAll, Act.put, sa_, sz_, ss_]
    rfl
  refine one_ (i := 9) (N := some 14) #[t_, t_, t_, t_, t_, t_, t_, t_, t_, t_, f_, f_] rfl rfl (by kernel_rfl) (by decide) (fun K hK => ?_)
  refine goes_ Tryz.func59 (by kernel_rfl) rfl #[.agg #[.slice A n c], .int .i64 x.f2, .slice (some ⟨P8, 0, none⟩) 2 2] (by rfl) rfl rfl (by simp only [List.map_toArray, List.map_cons, List.map_nil]; rfl) ?_
  with_reducible refine (K2.out _ _ (below_step HB1.out hHeld.2.2) (lits R8)).mono ?_
  rintro e X9 ⟨rfl, hb9⟩
  refine ⟨_, rfl, ?_⟩
  refine hK.out _ _ ((sw_ hb9 hHeld)) (fun hHeld => ?_)
  clear hK K
  refine norm_ (a' := ?_) ?_ ?_
  rotate_left
  · show Act.put _ (some 14) _ = _
    simp only [Act.put, sa_, sz_, ss_, i64_w, i32_w]
    rfl
  refine pure_ (i := 10) (N := some 15) (v := ?_) (a' := ?_) #[t_, t_, t_, t_, t_, t_, t_, t_, t_, t_, t_, f_] rfl rfl (by kernel_rfl) (fun _ _ _ h => h) (Or.inl ⟨by rfl, ?_⟩) ?_ ?_
  rotate_left
  · intro w'
    go_simp
    with_reducible rfl
  rotate_left
  · simp only [Act.put, sa_, sz_, ss_, i64_w, i32_w]
    rfl
  refine pure_ (i := 11) (N := some 4) (v := ?_) (a' := ?_) #[t_, t_, t_, t_, t_, t_, t_, t_, t_, t_, t_, t_] rfl rfl (by kernel_rfl) (fun _ _ _ h => h) (Or.inl ⟨by rfl, ?_⟩) ?_ ?_
  rotate_left
  · intro w'
    go_simp
    with_reducible rfl
  rotate_left
  · simp only [Act.put, sa_, sz_, ss_, i64_w, i32_w]
    rfl
  refine done_ (by kernel_rfl) ?_
  have hbf := Lib.hid (below_step HB1.out hHeld.2.2)
  clear hHeld
  go_wp2
  go_ret
  exact ⟨rfl, hbf.out⟩
set_option maxHeartbeats 12800000 in
theorem w4_calls (L : List S49) (A : Option Addr) (n c : Nat) (x : S49) (a b : Nat) (hx1 : x.f1 = (a : Int)) (hx2 : x.f2 = (b : Int)) (hb : b < n) (s t : ByteArray) (hs : s.size ≤ 1000000000) (ht : t.size ≤ 1000000000) (w : World) (hC : Kd.C k49 w A n L) (hA : NTold w A n c a s) (hB : NTold w A n c b t) :
    Calls Tryz.prog 60 #[.agg #[.slice A n c], .agg (nc x)] w fun e w' => e = .returned (.string (s ++ ⟨#[124]⟩ ++ par (rd_T49 L b).f0 [9] t)) ∧ Below w.heap.size w w' := by
  have hz2 := par_size (k := (rd_T49 L b).f0) (ks := [9]) ht
  have HA := Lib.hid hA
  have HB := Lib.hid hB
  have HC := Lib.hid hC
  have K1 := Lib.hid (fun W (h : Below w.heap.size w W) => HA.out W h)
  have K2 := Lib.hid (fun W P (h : Below w.heap.size w W) hP => within_calls L n A c b hb [9] 1 P 1 rfl (by decide) t ht W (Kd.C_below HC.out h) hP (HB.out.later h))
  unfold par at hz2 ⊢
  obtain ⟨r2, hr2⟩ : ∃ r, (if (rd_T49 L b).f0 ∈ ([9] : List Int) then (⟨#[40, 63, 58]⟩ ++ t ++ ⟨#[41]⟩ : ByteArray) else t) = r := ⟨_, rfl⟩
  rw [hr2] at hz2 K2 ⊢
  clear hr2 hA hB hC ht
  have e1 : (⟨#[124]⟩ : ByteArray).size = 1 := rfl
  have hsz : ¬ 9223372036854775807 < s.size + 1 := by omega
  have hsz2 : ¬ 9223372036854775807 < s.size + 1 + r2.size := by omega
  rw [← hx1] at K1
  rw [← hx2] at K2
  clear hx1 hx2
  have B0 := Lib.hid (blk_alloc (heap_alloc_new w (.cells #[.slice A n c] 41)) (.cells (nc x) 49))
  have B1 := Lib.hid (blk2 w (.cells #[.slice A n c] 41) (nc x) 49)
  have HB1 := Lib.hid (below2 w (.cells #[.slice A n c] 41) (.cells (nc x) 49))
  go_enter Tryz.func60, Tryz.ntmps60
  go_wp2_with fail
  generalize (w.alloc (.cells #[.slice A n c] 41)).alloc (.cells (nc x) 49) = v1 at *
  have hZ := Lib.hid (Below.refl v1.heap.size v1)
  have hSw : Sw v1 w.heap.size (w.heap.size + 1) A n c x v1.drew := ⟨blk_cell B0.out 0 (.slice A n c) rfl, nod_of B1.out, hZ.out.drew⟩
  refine start_ (n := 12) (S := fun w' => Sw v1 w.heap.size (w.heap.size + 1) A n c x w') (ds := []) #[f_, f_, f_, f_, f_, f_, f_, f_, f_, f_, f_, f_] (by kernel_rfl) rfl rfl (hSw) (fun hHeld => ?_)
  refine pure_ (i := 1) (N := some 6) (v := ?_) (a' := ?_) #[f_, t_, f_, f_, f_, f_, f_, f_, f_, f_, f_, f_] rfl rfl (by kernel_rfl) (fun _ _ _ h => h) (Or.inl ⟨by rfl, ?_⟩) ?_ ?_
  rotate_left
  · intro w'
    go_simp
    with_reducible rfl
  rotate_left
  · simp only [Act.put, sa_, sz_, ss_, i64_w, i32_w]
    rfl
  refine pure_ (i := 6) (N := some 11) (v := ?_) (a' := ?_) #[f_, t_, f_, f_, f_, f_, t_, f_, f_, f_, f_, f_] rfl rfl (by kernel_rfl) (fun _ _ _ h => h) (Or.inl ⟨by rfl, ?_⟩) ?_ ?_
  rotate_left
  · intro w'
    go_simp
    with_reducible rfl
  rotate_left
  · simp only [Act.put, sa_, sz_, ss_, i64_w, i32_w]
    rfl
  refine take_ (i := 0) (N := some 5) (v := ?_) (a' := ?_) #[t_, t_, f_, f_, f_, f_, t_, f_, f_, f_, f_, f_] rfl rfl (by kernel_rfl) (fun _ _ _ h => h) (Or.inl ⟨by rfl, ?_⟩) hHeld ?_ ?_
  rotate_left
  · intro w' s0
    go_simp
    with_reducible rfl
  rotate_left
  · simp only [Act.put, sa_, sz_, ss_, i64_w, i32_w]
    rfl
  refine take_ (i := 2) (N := some 7) (v := ?_) (a' := ?_) #[t_, t_, t_, f_, f_, f_, t_, f_, f_, f_, f_, f_] rfl rfl (by kernel_rfl) (fun _ _ _ h => h) (Or.inl ⟨by rfl, ?_⟩) hHeld ?_ ?_
  rotate_left
  · intro w' s0
    go_simp
    with_reducible rfl
  rotate_left
  · simp only [Act.put, sa_, sz_, ss_, i64_w, i32_w]
    rfl
  refine take_ (i := 5) (N := some 10) (v := ?_) (a' := ?_) #[t_, t_, t_, f_, f_, t_, t_, f_, f_, f_, f_, f_] rfl rfl (by kernel_rfl) (fun _ _ _ h => h) (Or.inl ⟨by rfl, ?_⟩) hHeld ?_ ?_
  rotate_left
  · intro w' s0
    go_simp
    with_reducible rfl
  rotate_left
  · simp only [Act.put, sa_, sz_, ss_, i64_w, i32_w]
    rfl
  refine take_ (i := 7) (N := some 12) (v := ?_) (a' := ?_) #[t_, t_, t_, f_, f_, t_, t_, t_, f_, f_, f_, f_] rfl rfl (by kernel_rfl) (fun _ _ _ h => h) (Or.inl ⟨by rfl, ?_⟩) hHeld ?_ ?_
  rotate_left
  · intro w' s0
    go_simp
    with_reducible rfl
  rotate_left
  · simp only [Act.put, sa_, sz_, ss_, i64_w, i32_w]
    rfl
  refine join_ (σ := Nat) 3 #[t_, t_, t_, t_, t_, t_, t_, t_, t_, f_, f_, f_] (fun s_ => [(8, .string s), (9, .string (s ++ ⟨#[124]⟩)), (13, .slice (some ⟨s_, 0, none⟩) 1 1)]) (fun s_ w' => w'.heap[s_]? = some (.cells (([9] : List Int).map (Value.int .i64)).toArray 3 (0, 0)) ∧ Sw v1 w.heap.size (w.heap.size + 1) A n c x w') ?_ ?_
  rotate_left
  · intro hCont
    refine two_ (i := 3) (j := 8) (Ni := some 8) (Nj := some 13) #[t_, t_, t_, t_, f_, t_, t_, t_, f_, f_, f_, f_] #[t_, t_, t_, f_, f_, t_, t_, t_, t_, f_, f_, f_] rfl rfl rfl rfl (by kernel_rfl) (by decide) (by decide) (fun K hK => ?_) (fun K hK => ?_)
    · skip
      refine goes_ Tryz.func12 (by kernel_rfl) rfl #[.agg #[.slice A n c], .int .i64 x.f1] (by rfl) rfl rfl (by simp only [List.map_toArray, List.map_cons, List.map_nil]; rfl) ?_
      with_reducible refine (K1.out _ (below_step HB1.out hHeld.2.2)).mono ?_
      rintro e X3 ⟨rfl, hb3⟩
      refine ⟨_, rfl, ?_⟩
      refine hK.out _ _ ((sw_ hb3 hHeld)) (fun hHeld => ?_)
      clear hK K
      refine norm_ (a' := ?_) ?_ ?_
      rotate_left
      · show Act.put _ (some 8) _ = _
        simp only [Act.put, sa_, sz_, ss_, i64_w, i32_w]
        rfl
      refine pure_ (i := 4) (N := some 9) (v := ?_) (a' := ?_) #[t_, t_, t_, t_, t_, t_, t_, t_, f_, f_, f_, f_] rfl rfl (by kernel_rfl) (fun _ _ _ h => h) (Or.inl ⟨by rfl, ?_⟩) ?_ ?_
      rotate_left
      · intro w'
        go_simp
        with_reducible rfl
      rotate_left
      · simp only [Act.put, sa_, sz_, ss_, i64_w, i32_w]
        rfl
      refine one_ (i := 8) (N := some 13) #[t_, t_, t_, t_, t_, t_, t_, t_, t_, f_, f_, f_] rfl rfl (by kernel_rfl) (by decide) (fun K hK => ?_)
      refine value_ (w1 := ?_) (v := ?_) (by rfl) rfl ?_ ?_
      rotate_left 2
      · go_simp
        constructor
        · rfl
        · rfl
      refine letter_ ?_
      intro X8 hW
      have hb8 : Below X3.heap.size X3 X8 := by rw [hW]; exact below1 _ _
      have R8 : X8.heap[X3.heap.size]? = some (.cells (([9] : List Int).map (Value.int .i64)).toArray 3 (0, 0)) := by rw [hW]; exact heap_alloc_new _ _
      clear hW
      refine hK.out _ _ ((sw_ hb8 hHeld)) (fun hHeld => ?_)
      clear hK K
      refine norm_ (a' := ?_) ?_ ?_
      rotate_left
      · show Act.put _ (some 13) _ = _
        simp only [Act.put, sa_, sz_, ss_, i64_w, i32_w]
        rfl
      exact norm_ (by simp only [putAll, Act.put, sa_, sz_, ss_]) (hCont X3.heap.size _ ⟨R8, hHeld⟩)
    · skip
      refine value_ (w1 := ?_) (v := ?_) (by rfl) rfl ?_ ?_
      rotate_left 2
      · go_simp
        constructor
        · rfl
        · rfl
      refine letter_ ?_
      intro X8 hW
      have hb8 : Below v1.drew.heap.size v1.drew X8 := by rw [hW]; exact below1 _ _
      have R8 : X8.heap[v1.heap.size]? = some (.cells (([9] : List Int).map (Value.int .i64)).toArray 3 (0, 0)) := by rw [hW]; exact heap_alloc_new _ _
      clear hW
      refine hK.out _ _ ((sw_ hb8 hHeld)) (fun hHeld => ?_)
      clear hK K
      refine norm_ (a' := ?_) ?_ ?_
      rotate_left
      · show Act.put _ (some 13) _ = _
        simp only [Act.put, sa_, sz_, ss_, i64_w, i32_w]
        rfl
      refine one_ (i := 3) (N := some 8) #[t_, t_, t_, t_, f_, t_, t_, t_, t_, f_, f_, f_] rfl rfl (by kernel_rfl) (by decide) (fun K hK => ?_)
      refine goes_ Tryz.func12 (by kernel_rfl) rfl #[.agg #[.slice A n c], .int .i64 x.f1] (by rfl) rfl rfl (by simp only [List.map_toArray, List.map_cons, List.map_nil]; rfl) ?_
      with_reducible refine (K1.out _ (below_step HB1.out hHeld.2.2)).mono ?_
      rintro e X3 ⟨rfl, hb3⟩
      refine ⟨_, rfl, ?_⟩
      replace R8 := below_blk hb3 R8
      refine hK.out _ _ ((sw_ hb3 hHeld)) (fun hHeld => ?_)
      clear hK K
      refine norm_ (a' := ?_) ?_ ?_
      rotate_left
      · show Act.put _ (some 8) _ = _
        simp only [Act.put, sa_, sz_, ss_, i64_w, i32_w]
        rfl
      refine pure_ (i := 4) (N := some 9) (v := ?_) (a' := ?_) #[t_, t_, t_, t_, t_, t_, t_, t_, t_, f_, f_, f_] rfl rfl (by kernel_rfl) (fun _ _ _ h => h) (Or.inl ⟨by rfl, ?_⟩) ?_ ?_
      rotate_left
      · intro w'
        go_simp
        with_reducible rfl
      rotate_left
      · simp only [Act.put, sa_, sz_, ss_, i64_w, i32_w]
        rfl
      exact norm_ (by simp only [putAll, Act.put, sa_, sz_, ss_]) (hCont v1.heap.size _ ⟨R8, hHeld⟩)
  rintro P8 W2 ⟨R8, hHeld⟩
  refine norm_ (a' := ?_) ?_ ?_
  rotate_left
  · simp only [putAll, Act.put, sa_, sz_, ss_]
    rfl
  refine one_ (i := 9) (N := some 14) #[t_, t_, t_, t_, t_, t_, t_, t_, t_, t_, f_, f_] rfl rfl (by kernel_rfl) (by decide) (fun K hK => ?_)
  refine goes_ Tryz.func59 (by kernel_rfl) rfl #[.agg #[.slice A n c], .int .i64 x.f2, .slice (some ⟨P8, 0, none⟩) 1 1] (by rfl) rfl rfl (by simp only [List.map_toArray, List.map_cons, List.map_nil]; rfl) ?_
  with_reducible refine (K2.out _ P8 (below_step HB1.out hHeld.2.2) (lits R8)).mono ?_
  rintro e X9 ⟨rfl, hb9⟩
  refine ⟨_, rfl, ?_⟩
  refine hK.out _ _ ((sw_ hb9 hHeld)) (fun hHeld => ?_)
  clear hK K
  refine norm_ (a' := ?_) ?_ ?_
  rotate_left
  · show Act.put _ (some 14) _ = _
    simp only [Act.put, sa_, sz_, ss_, i64_w, i32_w]
    rfl
  refine pure_ (i := 10) (N := some 15) (v := ?_) (a' := ?_) #[t_, t_, t_, t_, t_, t_, t_, t_, t_, t_, t_, f_] rfl rfl (by kernel_rfl) (fun _ _ _ h => h) (Or.inl ⟨by rfl, ?_⟩) ?_ ?_
  rotate_left
  · intro w'
    go_simp
    with_reducible rfl
  rotate_left
  · simp only [Act.put, sa_, sz_, ss_, i64_w, i32_w]
    rfl
  refine pure_ (i := 11) (N := some 4) (v := ?_) (a' := ?_) #[t_, t_, t_, t_, t_, t_, t_, t_, t_, t_, t_, t_] rfl rfl (by kernel_rfl) (fun _ _ _ h => h) (Or.inl ⟨by rfl, ?_⟩) ?_ ?_
  rotate_left
  · intro w'
    go_simp
    with_reducible rfl
  rotate_left
  · simp only [Act.put, sa_, sz_, ss_, i64_w, i32_w]
    rfl
  refine done_ (by kernel_rfl) ?_
  have hbf := Lib.hid (below_step HB1.out hHeld.2.2)
  clear hHeld
  go_wp2
  go_ret
  exact ⟨rfl, hbf.out⟩
set_option maxHeartbeats 12800000 in
theorem w5_calls (L : List S49) (A : Option Addr) (n c : Nat) (x : S49) (a : Nat) (hx1 : x.f1 = (a : Int)) (ha : a < n) (s : ByteArray) (hs : s.size ≤ 1000000000) (h0 : -1 ≤ x.f4 ∧ x.f4 ≤ 100) (h1 : -1 ≤ x.f5 ∧ x.f5 ≤ 100) (h2 : 0 ≤ x.f6 ∧ x.f6 ≤ 2) (hof : (often x.f4 x.f5 x.f6).size ≤ 100) (w : World) (T : Tab w) (hC : Kd.C k49 w A n L) (hA : NTold w A n c a s) :
    Calls Tryz.prog 61 #[.agg #[.slice A n c], .agg (nc x)] w fun e w' => e = .returned (.string (par (rd_T49 L a).f0 [8, 9, 10] s ++ often x.f4 x.f5 x.f6)) ∧ Below w.heap.size w w' := by
  have hz1 := par_size (k := (rd_T49 L a).f0) (ks := [8, 9, 10]) hs
  have HA := Lib.hid hA
  have HC := Lib.hid hC
  have HT := Lib.hid T
  have K1 := Lib.hid (fun W P (h : Below w.heap.size w W) hP => within_calls L n A c a ha [8, 9, 10] 3 P 3 rfl (by decide) s hs W (Kd.C_below HC.out h) hP (HA.out.later h))
  have K2 := Lib.hid (fun W (h : Below w.heap.size w W) => often_calls x h0 h1 h2 W (HT.out.below h))
  unfold par at hz1 ⊢
  obtain ⟨r1, hr1⟩ : ∃ r, (if (rd_T49 L a).f0 ∈ ([8, 9, 10] : List Int) then (⟨#[40, 63, 58]⟩ ++ s ++ ⟨#[41]⟩ : ByteArray) else s) = r := ⟨_, rfl⟩
  rw [hr1] at hz1 K1 ⊢
  generalize often x.f4 x.f5 x.f6 = r2 at *
  clear hr1 hA hC hs T h0 h1 h2
  have hsz : ¬ 9223372036854775807 < r1.size + r2.size := by omega
  rw [← hx1] at K1
  clear hx1
  have B0 := Lib.hid (blk_alloc (heap_alloc_new w (.cells #[.slice A n c] 41)) (.cells (nc x) 49))
  have B1 := Lib.hid (blk2 w (.cells #[.slice A n c] 41) (nc x) 49)
  have HB1 := Lib.hid (below2 w (.cells #[.slice A n c] 41) (.cells (nc x) 49))
  go_enter Tryz.func61, Tryz.ntmps61
  go_wp2_with fail
  generalize (w.alloc (.cells #[.slice A n c] 41)).alloc (.cells (nc x) 49) = v1 at *
  have hZ := Lib.hid (Below.refl v1.heap.size v1)
  have hSw : Sw v1 w.heap.size (w.heap.size + 1) A n c x v1.drew := ⟨blk_cell B0.out 0 (.slice A n c) rfl, nod_of B1.out, hZ.out.drew⟩
  refine start_ (n := 9) (S := fun w' => Sw v1 w.heap.size (w.heap.size + 1) A n c x w') (ds := []) #[f_, f_, f_, f_, f_, f_, f_, f_, f_] (by kernel_rfl) rfl rfl (hSw) (fun hHeld => ?_)
  refine pure_ (i := 1) (N := some 6) (v := ?_) (a' := ?_) #[f_, t_, f_, f_, f_, f_, f_, f_, f_] rfl rfl (by kernel_rfl) (fun _ _ _ h => h) (Or.inl ⟨by rfl, ?_⟩) ?_ ?_
  rotate_left
  · intro w'
    go_simp
    with_reducible rfl
  rotate_left
  · simp only [Act.put, sa_, sz_, ss_, i64_w, i32_w]
    rfl
  refine take_ (i := 0) (N := some 5) (v := ?_) (a' := ?_) #[t_, t_, f_, f_, f_, f_, f_, f_, f_] rfl rfl (by kernel_rfl) (fun _ _ _ h => h) (Or.inl ⟨by rfl, ?_⟩) hHeld ?_ ?_
  rotate_left
  · intro w' s0
    go_simp
    with_reducible rfl
  rotate_left
  · simp only [Act.put, sa_, sz_, ss_, i64_w, i32_w]
    rfl
  refine take_ (i := 2) (N := some 7) (v := ?_) (a' := ?_) #[t_, t_, t_, f_, f_, f_, f_, f_, f_] rfl rfl (by kernel_rfl) (fun _ _ _ h => h) (Or.inl ⟨by rfl, ?_⟩) hHeld ?_ ?_
  rotate_left
  · intro w' s0
    go_simp
    with_reducible rfl
  rotate_left
  · simp only [Act.put, sa_, sz_, ss_, i64_w, i32_w]
    rfl
  refine take_ (i := 5) (N := some 10) (v := ?_) (a' := ?_) #[t_, t_, t_, f_, f_, t_, f_, f_, f_] rfl rfl (by kernel_rfl) (fun _ _ _ h => h) (Or.inl ⟨by rfl, ?_⟩) hHeld ?_ ?_
  rotate_left
  · intro w' s0
    go_simp
    with_reducible rfl
  rotate_left
  · simp only [Act.put, sa_, sz_, ss_, i64_w, i32_w]
    rfl
  refine one_ (i := 3) (N := some 8) #[t_, t_, t_, t_, f_, t_, f_, f_, f_] rfl rfl (by kernel_rfl) (by decide) (fun K hK => ?_)
  refine value_ (w1 := ?_) (v := ?_) (by rfl) rfl ?_ ?_
  rotate_left 2
  · go_simp
    constructor
    · rfl
    · rfl
  refine letter_ ?_
  intro X3 hW
  have hb3 : Below v1.drew.heap.size v1.drew X3 := by rw [hW]; exact below1 _ _
  have R3 : X3.heap[v1.heap.size]? = some (.cells (([8, 9, 10] : List Int).map (Value.int .i64)).toArray 3 (0, 0)) := by rw [hW]; exact heap_alloc_new _ _
  clear hW
  refine hK.out _ _ ((sw_ hb3 hHeld)) (fun hHeld => ?_)
  clear hK K
  refine norm_ (a' := ?_) ?_ ?_
  rotate_left
  · show Act.put _ (some 8) _ = _
    simp only [Act.put, sa_, sz_, ss_, i64_w, i32_w]
    rfl
  refine one_ (i := 4) (N := some 9) #[t_, t_, t_, t_, t_, t_, f_, f_, f_] rfl rfl (by kernel_rfl) (by decide) (fun K hK => ?_)
  refine goes_ Tryz.func59 (by kernel_rfl) rfl #[.agg #[.slice A n c], .int .i64 x.f1, .slice (some ⟨v1.heap.size, 0, none⟩) 3 3] (by rfl) rfl rfl (by simp only [List.map_toArray, List.map_cons, List.map_nil]; rfl) ?_
  with_reducible refine (K1.out _ (v1.heap.size) (below_step HB1.out hHeld.2.2) (lits R3)).mono ?_
  rintro e X4 ⟨rfl, hb4⟩
  refine ⟨_, rfl, ?_⟩
  refine hK.out _ _ ((sw_ hb4 hHeld)) (fun hHeld => ?_)
  clear hK K
  refine norm_ (a' := ?_) ?_ ?_
  rotate_left
  · show Act.put _ (some 9) _ = _
    simp only [Act.put, sa_, sz_, ss_, i64_w, i32_w]
    rfl
  refine one_ (i := 6) (N := some 11) #[t_, t_, t_, t_, t_, t_, t_, f_, f_] rfl rfl (by kernel_rfl) (by decide) (fun K hK => ?_)
  refine goes_ Tryz.func62 (by kernel_rfl) rfl #[.agg (nc x)] (by rfl) rfl rfl (by simp only [List.map_toArray, List.map_cons, List.map_nil]; rfl) ?_
  with_reducible refine (K2.out _ (below_step HB1.out hHeld.2.2)).mono ?_
  rintro e X6 ⟨rfl, hb6⟩
  refine ⟨_, rfl, ?_⟩
  refine hK.out _ _ ((sw_ hb6 hHeld)) (fun hHeld => ?_)
  clear hK K
  refine norm_ (a' := ?_) ?_ ?_
  rotate_left
  · show Act.put _ (some 11) _ = _
    simp only [Act.put, sa_, sz_, ss_, i64_w, i32_w]
    rfl
  refine pure_ (i := 7) (N := some 12) (v := ?_) (a' := ?_) #[t_, t_, t_, t_, t_, t_, t_, t_, f_] rfl rfl (by kernel_rfl) (fun _ _ _ h => h) (Or.inl ⟨by rfl, ?_⟩) ?_ ?_
  rotate_left
  · intro w'
    go_simp
    with_reducible rfl
  rotate_left
  · simp only [Act.put, sa_, sz_, ss_, i64_w, i32_w]
    rfl
  refine pure_ (i := 8) (N := some 4) (v := ?_) (a' := ?_) #[t_, t_, t_, t_, t_, t_, t_, t_, t_] rfl rfl (by kernel_rfl) (fun _ _ _ h => h) (Or.inl ⟨by rfl, ?_⟩) ?_ ?_
  rotate_left
  · intro w'
    go_simp
    with_reducible rfl
  rotate_left
  · simp only [Act.put, sa_, sz_, ss_, i64_w, i32_w]
    rfl
  refine done_ (by kernel_rfl) ?_
  have hbf := Lib.hid (below_step HB1.out hHeld.2.2)
  clear hHeld
  go_wp2
  go_ret
  exact ⟨rfl, hbf.out⟩
end Go.Proofs.YtaaihcojedibeaaGreatDoor.SBodyB
end
section
/- How long the text of a tree is at most. -/
namespace Go.Proofs.YtaaihcojedibeaaGreatDoor.SSize
open CMem DRow DDeep DSizes DFits DLens DSpec SText SSpec SKinds SBodyB Q
set_option linter.unusedVariables false
set_option linter.unusedSimpArgs false
set_option maxRecDepth 100000
theorem often_size (x : S49) (h0 : -1 ≤ x.f4 ∧ x.f4 ≤ 100) (h1 : -1 ≤ x.f5 ∧ x.f5 ≤ 100) : (often x.f4 x.f5 x.f6).size ≤ 100 := by
  have a := num_size (n := x.f4) (by omega) (by omega)
  have b := num_size (n := x.f5) (by omega) (by omega)
  have c := mode_size x.f6
  unfold often
  repeat' split
  all_goals simp only [ByteArray.size_append]
  all_goals simp only [ByteArray.size, Array.size, List.length]
  all_goals (try simp only [ByteArray.size, Array.size] at a b c)
  all_goals omega
theorem back_size (x : S49) (h : -9223372036854775808 ≤ x.f7 ∧ x.f7 ≤ 9223372036854775807) : (back x.f7 x.f8).size ≤ 100 := by
  have a := num_size h.1 h.2
  unfold back
  split
  · rw [ByteArray.size_append, ByteArray.size_append, ByteArray.size_append]
    show 4 + (1 + _) + 1 ≤ 100
    omega
  · rw [ByteArray.size_append]
    show 1 + _ ≤ 100
    omega
theorem ite_size {c : Prop} [Decidable c] {a b : ByteArray} {n : Nat} (ha : a.size ≤ n) (hb : b.size ≤ n) : (if c then a else b).size ≤ n := by split <;> assumption
theorem head_size (k : Int) : (head k).size ≤ 6 := by
  unfold head
  iterate 13 refine ite_size (by decide) ?_
  decide
theorem wi_size (L : List S49) (g : Int → ByteArray) (i : Int) (ks : List Int) : (wi L g i ks).size ≤ (g i).size + 4 := by
  unfold wi
  split
  · rw [ByteArray.size_append, ByteArray.size_append]
    show 3 + _ + 1 ≤ _
    omega
  · omega
theorem shw_size (L : List S49) (n : Nat) (hw : ∀ i, i < n → Wf L i) (hok : ∀ i, i < n → OkN (rd_T49 L (i : Nat))) : ∀ f (i : Nat), i < n → (shwf L f i).size ≤ 3000 * (sz L i).toNat
  | 0, i, _ => Nat.zero_le _
  | f + 1, i, hi => by
    have ih := shw_size L n hw hok f
    have hh := head_size (rd_T49 L i).f0
    have e : shwf L (f + 1) i = head (rd_T49 L i).f0 ++ body L (shwf L f) (rd_T49 L i) := rfl
    rw [e, ByteArray.size_append]
    have hwi := hw i hi
    have hr := fit_rng hwi.1
    have ho := hok i hi
    have e1 : (⟨#[41]⟩ : ByteArray).size = 1 := rfl
    have e2 : (⟨#[124]⟩ : ByteArray).size = 1 := rfl
    have e3 : (⟨#[]⟩ : ByteArray).size = 0 := rfl
    rcases hwi.2 with ⟨hk, h1, h2, h3⟩ | ⟨m, rfl, hk, h1, h2, h3, h4⟩ | ⟨m, p, rfl, hp, hk, h1, h2, h3, h4, h5⟩
    · rw [h3]
      unfold body
      split
      · have := setB_size (nw (rd_T49 L i).f3); omega
      · split
        · have := back_size _ ho.2.2.2.2; omega
        · split
          · rename_i h; rw [h] at hk; exact absurd hk (by decide)
          · split
            · rename_i h; rw [h] at hk; exact absurd hk (by decide)
            · split
              · rename_i h; rw [h] at hk; exact absurd hk (by decide)
              · split
                · rename_i h
                  have : kd (rd_T49 L i).f0 = 1 := by
                    have h18 : (rd_T49 L i).f0 = 11 ∨ (rd_T49 L i).f0 = 13 ∨ (rd_T49 L i).f0 = 14 ∨ (rd_T49 L i).f0 = 15 ∨ (rd_T49 L i).f0 = 16 ∨ (rd_T49 L i).f0 = 17 := by omega
                    rcases h18 with h | h | h | h | h | h <;> rw [h] <;> rfl
                  omega
                · omega
    · have im := ih m (by omega)
      unfold body
      rw [h1]
      split
      · rename_i h; rw [h] at hk; exact absurd hk (by decide)
      · split
        · rename_i h; rw [h] at hk; exact absurd hk (by decide)
        · split
          · rename_i h; rw [h] at hk; exact absurd hk (by decide)
          · split
            · rename_i h; rw [h] at hk; exact absurd hk (by decide)
            · split
              · rename_i h
                obtain ⟨m1, m2, m3, m4, m5, m6⟩ := fit10 hwi.1 h
                have q1 := wi_size L (shwf L f) m [8, 9, 10]
                have q2 := often_size (rd_T49 L (m + 1 : Nat)) (by omega) (by omega)
                rw [ByteArray.size_append]
                omega
              · split
                · rw [ByteArray.size_append]; omega
                · omega
    · have im := ih m (by omega)
      have ip := ih p (by omega)
      unfold body
      rw [h1, h2]
      split
      · rename_i h; rw [h] at hk; exact absurd hk (by decide)
      · split
        · rename_i h; rw [h] at hk; exact absurd hk (by decide)
        · split
          · have q1 := wi_size L (shwf L f) p [9]
            have q2 := wi_size L (shwf L f) m [8, 9]
            rw [ByteArray.size_append]
            omega
          · split
            · have q2 := wi_size L (shwf L f) m [9]
              rw [ByteArray.size_append, ByteArray.size_append]
              omega
            · split
              · rename_i h; rw [h] at hk; exact absurd hk (by decide)
              · split
                · rename_i h
                  have : kd (rd_T49 L (m + 1 : Nat)).f0 = 1 := by
                    have h18 : (rd_T49 L (m + 1 : Nat)).f0 = 11 ∨ (rd_T49 L (m + 1 : Nat)).f0 = 13 ∨ (rd_T49 L (m + 1 : Nat)).f0 = 14 ∨ (rd_T49 L (m + 1 : Nat)).f0 = 15 ∨ (rd_T49 L (m + 1 : Nat)).f0 = 16 ∨ (rd_T49 L (m + 1 : Nat)).f0 = 17 := by omega
                    rcases h18 with h | h | h | h | h | h <;> rw [h] <;> rfl
                  omega
                · omega
theorem shw_big (L : List S49) (n : Nat) (hn : n ≤ 1000) (hw : ∀ i, i < n → Wf L i) (hok : ∀ i, i < n → OkN (rd_T49 L (i : Nat))) (f i : Nat) (hi : i < n) : (shwf L f i).size ≤ 1000000000 := by
  have h := shw_size L n hw hok f i hi
  have hr := sz_rng L i
  omega
end Go.Proofs.YtaaihcojedibeaaGreatDoor.SSize
end
section
/- show.Tree: its walk. -/
namespace Go.Proofs.YtaaihcojedibeaaGreatDoor.SShow
open Go.RowKit CMem CBits CSet DRow DDeep DSizes DSpec DCon DRight SText SSpec SKinds SSet SWays SNode SWith SBody SBodyB SSize Q Go.Proofs.YtaaihcojedibeaaGreatDoorW.PrintWords Go.Proofs.YtaaihcojedibeaaGreatDoorW.PrintLast Go.Proofs.YtaaihcojedibeaaGreatDoorW.PrintMore
set_option linter.unusedVariables false
set_option linter.unusedSimpArgs false
set_option maxRecDepth 100000
section
variable {L : List S49} {n : Nat} {A : Option Addr} {c : Nat} (hn : L.length = n) (hn2 : n ≤ 1000) (hw : ∀ i, i < n → Wf L i) (hok : ∀ i, i < n → OkN (rd_T49 L (i : Nat)))
include hn hn2 hw hok
set_option maxHeartbeats 6400000 in
theorem node_all : ∀ (f i : Nat), i < n → i < f → ∀ w, Kd.C k49 w A n L → Tab w → Calls Tryz.prog 12 #[.agg #[.slice A n c], .int .i64 (i : Nat)] w fun e w' => e = .returned (.string (shwf L f i)) ∧ Below w.heap.size w w'
  | 0, i, _, h, _, _, _ => absurd h (Nat.not_lt_zero _)
  | f + 1, i, hi, hf, w, hC, T => by
    have ih := node_all f
    have hbig := fun j hj => shw_big L n hn2 hw hok f j hj
    have told : ∀ a, a < i → NTold w A n c a (shwf L f a) := fun a ha W hb => ih a (by omega) (by omega) W (Kd.C_below hC hb) (T.below hb)
    have hwi := hw i hi
    have hr := fit_rng hwi.1
    have ho := hok i hi
    have e : shwf L (f + 1) i = head (rd_T49 L i).f0 ++ body L (shwf L f) (rd_T49 L i) := rfl
    rw [e]
    have hk18 : (rd_T49 L i).f0 = 0 ∨ (rd_T49 L i).f0 = 1 ∨ (rd_T49 L i).f0 = 2 ∨ (rd_T49 L i).f0 = 3 ∨ (rd_T49 L i).f0 = 4 ∨ (rd_T49 L i).f0 = 5 ∨ (rd_T49 L i).f0 = 6 ∨ (rd_T49 L i).f0 = 7 ∨ (rd_T49 L i).f0 = 8 ∨ (rd_T49 L i).f0 = 9 ∨ (rd_T49 L i).f0 = 10 ∨ (rd_T49 L i).f0 = 11 ∨ (rd_T49 L i).f0 = 12 ∨ (rd_T49 L i).f0 = 13 ∨ (rd_T49 L i).f0 = 14 ∨ (rd_T49 L i).f0 = 15 ∨ (rd_T49 L i).f0 = 16 ∨ (rd_T49 L i).f0 = 17 := by omega
    have hh := head_size (rd_T49 L i).f0
    rcases hk18 with hk | hk | hk | hk | hk | hk | hk | hk | hk | hk | hk | hk | hk | hk | hk | hk | hk | hk
    · have hb : body L (shwf L f) (rd_T49 L i) = ⟨#[]⟩ := by unfold body; simp [hk]
      rw [hb]
      exact via 53 _ Tryz.func53 (by kernel_rfl) rfl L n A c i hi (head (rd_T49 L i).f0) ⟨#[]⟩ (by omega) (by decide) (fun W g hg => by rw [hk]; exact look_0 hg) w hC (fun W _ => empty_calls A n c _ W)
    · have hb : body L (shwf L f) (rd_T49 L i) = setB (nw (rd_T49 L i).f3) := by unfold body; simp [hk]
      rw [hb]
      exact via 55 _ Tryz.func55 (by kernel_rfl) rfl L n A c i hi (head (rd_T49 L i).f0) (setB (nw (rd_T49 L i).f3)) (by omega) (by have := setB_size (nw (rd_T49 L i).f3); omega) (fun W g hg => by rw [hk]; exact look_1 hg) w hC (fun W _ => w1_calls A n c _ ho W)
    · have hb : body L (shwf L f) (rd_T49 L i) = ⟨#[]⟩ := by unfold body; simp [hk]
      rw [hb]
      exact via 53 _ Tryz.func53 (by kernel_rfl) rfl L n A c i hi (head (rd_T49 L i).f0) ⟨#[]⟩ (by omega) (by decide) (fun W g hg => by rw [hk]; exact look_2 hg) w hC (fun W _ => empty_calls A n c _ W)
    · have hb : body L (shwf L f) (rd_T49 L i) = ⟨#[]⟩ := by unfold body; simp [hk]
      rw [hb]
      exact via 53 _ Tryz.func53 (by kernel_rfl) rfl L n A c i hi (head (rd_T49 L i).f0) ⟨#[]⟩ (by omega) (by decide) (fun W g hg => by rw [hk]; exact look_3 hg) w hC (fun W _ => empty_calls A n c _ W)
    · have hb : body L (shwf L f) (rd_T49 L i) = ⟨#[]⟩ := by unfold body; simp [hk]
      rw [hb]
      exact via 53 _ Tryz.func53 (by kernel_rfl) rfl L n A c i hi (head (rd_T49 L i).f0) ⟨#[]⟩ (by omega) (by decide) (fun W g hg => by rw [hk]; exact look_4 hg) w hC (fun W _ => empty_calls A n c _ W)
    · have hb : body L (shwf L f) (rd_T49 L i) = ⟨#[]⟩ := by unfold body; simp [hk]
      rw [hb]
      exact via 53 _ Tryz.func53 (by kernel_rfl) rfl L n A c i hi (head (rd_T49 L i).f0) ⟨#[]⟩ (by omega) (by decide) (fun W g hg => by rw [hk]; exact look_5 hg) w hC (fun W _ => empty_calls A n c _ W)
    · have hb : body L (shwf L f) (rd_T49 L i) = ⟨#[]⟩ := by unfold body; simp [hk]
      rw [hb]
      exact via 53 _ Tryz.func53 (by kernel_rfl) rfl L n A c i hi (head (rd_T49 L i).f0) ⟨#[]⟩ (by omega) (by decide) (fun W g hg => by rw [hk]; exact look_6 hg) w hC (fun W _ => empty_calls A n c _ W)
    · have hb : body L (shwf L f) (rd_T49 L i) = ⟨#[]⟩ := by unfold body; simp [hk]
      rw [hb]
      exact via 53 _ Tryz.func53 (by kernel_rfl) rfl L n A c i hi (head (rd_T49 L i).f0) ⟨#[]⟩ (by omega) (by decide) (fun W g hg => by rw [hk]; exact look_7 hg) w hC (fun W _ => empty_calls A n c _ W)
    · obtain ⟨a, b, h1, h2, ha, hb2⟩ := kid2 hwi (by rw [hk]; rfl)
      have sa := hbig a (by omega)
      have sb := hbig b (by omega)
      have hb : body L (shwf L f) (rd_T49 L i) = (par (rd_T49 L a).f0 [9] (shwf L f a) ++ par (rd_T49 L b).f0 [8, 9] (shwf L f b)) := by unfold body; rw [h1, h2]; simp [hk, wi, par]
      rw [hb]
      exact via 58 _ Tryz.func58 (by kernel_rfl) rfl L n A c i hi (head (rd_T49 L i).f0) (par (rd_T49 L a).f0 [9] (shwf L f a) ++ par (rd_T49 L b).f0 [8, 9] (shwf L f b)) (by omega) (by have hq := shw_size L n hw hok (f + 1) i hi; have hr2 := sz_rng L i; rw [e, hb, ByteArray.size_append] at hq; omega) (fun W g hg => by rw [hk]; exact look_8 hg) w hC (fun W h => w3_calls L A n c _ a b h1 h2 (by omega) (by omega) _ _ sa sb W (Kd.C_below hC h) ((told a ha).later h) ((told b hb2).later h))
    · obtain ⟨a, b, h1, h2, ha, hb2⟩ := kid2 hwi (by rw [hk]; rfl)
      have sa := hbig a (by omega)
      have sb := hbig b (by omega)
      have hb : body L (shwf L f) (rd_T49 L i) = (shwf L f a ++ ⟨#[124]⟩ ++ par (rd_T49 L b).f0 [9] (shwf L f b)) := by unfold body; rw [h1, h2]; simp [hk, wi, par]
      rw [hb]
      exact via 60 _ Tryz.func60 (by kernel_rfl) rfl L n A c i hi (head (rd_T49 L i).f0) (shwf L f a ++ ⟨#[124]⟩ ++ par (rd_T49 L b).f0 [9] (shwf L f b)) (by omega) (by have hq := shw_size L n hw hok (f + 1) i hi; have hr2 := sz_rng L i; rw [e, hb, ByteArray.size_append] at hq; omega) (fun W g hg => by rw [hk]; exact look_9 hg) w hC (fun W h => w4_calls L A n c _ a b h1 h2 (by omega) _ _ sa sb W (Kd.C_below hC h) ((told a ha).later h) ((told b hb2).later h))
    · obtain ⟨a, h1, ha⟩ := kid1 hwi (by rw [hk]; rfl)
      have sa := hbig a (by omega)
      obtain ⟨m1, m2, m3, m4, m5, m6⟩ := fit10 hwi.1 hk
      have q2 := often_size (rd_T49 L i) (by omega) (by omega)
      have hb : body L (shwf L f) (rd_T49 L i) = (par (rd_T49 L a).f0 [8, 9, 10] (shwf L f a) ++ often (rd_T49 L i).f4 (rd_T49 L i).f5 (rd_T49 L i).f6) := by unfold body; rw [h1]; simp [hk, wi, par]
      rw [hb]
      exact via 61 _ Tryz.func61 (by kernel_rfl) rfl L n A c i hi (head (rd_T49 L i).f0) (par (rd_T49 L a).f0 [8, 9, 10] (shwf L f a) ++ often (rd_T49 L i).f4 (rd_T49 L i).f5 (rd_T49 L i).f6) (by omega) (by have hq := shw_size L n hw hok (f + 1) i hi; have hr2 := sz_rng L i; rw [e, hb, ByteArray.size_append] at hq; omega) (fun W g hg => by rw [hk]; exact look_10 hg) w hC (fun W h => w5_calls L A n c _ a h1 (by omega) _ sa (by omega) (by omega) (by omega) q2 W (T.below h) (Kd.C_below hC h) ((told a ha).later h))
    · obtain ⟨a, h1, ha⟩ := kid1 hwi (by rw [hk]; rfl)
      have sa := hbig a (by omega)
      have hb : body L (shwf L f) (rd_T49 L i) = (shwf L f a ++ ⟨#[41]⟩) := by unfold body; rw [h1]; simp [hk]
      rw [hb]
      exact via 54 _ Tryz.func54 (by kernel_rfl) rfl L n A c i hi (head (rd_T49 L i).f0) (shwf L f a ++ ⟨#[41]⟩) (by omega) (by have hq := shw_size L n hw hok (f + 1) i hi; have hr2 := sz_rng L i; rw [e, hb, ByteArray.size_append] at hq; omega) (fun W g hg => by rw [hk]; exact look_11 hg) w hC (fun W h => child_calls A n c _ a h1 _ sa W ((told a ha).later h))
    · have hb : body L (shwf L f) (rd_T49 L i) = back (rd_T49 L i).f7 (rd_T49 L i).f8 := by unfold body; simp [hk]
      rw [hb]
      exact via 56 _ Tryz.func56 (by kernel_rfl) rfl L n A c i hi (head (rd_T49 L i).f0) (back (rd_T49 L i).f7 (rd_T49 L i).f8) (by omega) (by have := back_size _ ho.2.2.2.2; omega) (fun W g hg => by rw [hk]; exact look_12 hg) w hC (fun W h => w2_calls A n c _ ho W (T.below h))
    · obtain ⟨a, h1, ha⟩ := kid1 hwi (by rw [hk]; rfl)
      have sa := hbig a (by omega)
      have hb : body L (shwf L f) (rd_T49 L i) = (shwf L f a ++ ⟨#[41]⟩) := by unfold body; rw [h1]; simp [hk]
      rw [hb]
      exact via 54 _ Tryz.func54 (by kernel_rfl) rfl L n A c i hi (head (rd_T49 L i).f0) (shwf L f a ++ ⟨#[41]⟩) (by omega) (by have hq := shw_size L n hw hok (f + 1) i hi; have hr2 := sz_rng L i; rw [e, hb, ByteArray.size_append] at hq; omega) (fun W g hg => by rw [hk]; exact look_13 hg) w hC (fun W h => child_calls A n c _ a h1 _ sa W ((told a ha).later h))
    · obtain ⟨a, h1, ha⟩ := kid1 hwi (by rw [hk]; rfl)
      have sa := hbig a (by omega)
      have hb : body L (shwf L f) (rd_T49 L i) = (shwf L f a ++ ⟨#[41]⟩) := by unfold body; rw [h1]; simp [hk]
      rw [hb]
      exact via 54 _ Tryz.func54 (by kernel_rfl) rfl L n A c i hi (head (rd_T49 L i).f0) (shwf L f a ++ ⟨#[41]⟩) (by omega) (by have hq := shw_size L n hw hok (f + 1) i hi; have hr2 := sz_rng L i; rw [e, hb, ByteArray.size_append] at hq; omega) (fun W g hg => by rw [hk]; exact look_14 hg) w hC (fun W h => child_calls A n c _ a h1 _ sa W ((told a ha).later h))
    · obtain ⟨a, h1, ha⟩ := kid1 hwi (by rw [hk]; rfl)
      have sa := hbig a (by omega)
      have hb : body L (shwf L f) (rd_T49 L i) = (shwf L f a ++ ⟨#[41]⟩) := by unfold body; rw [h1]; simp [hk]
      rw [hb]
      exact via 54 _ Tryz.func54 (by kernel_rfl) rfl L n A c i hi (head (rd_T49 L i).f0) (shwf L f a ++ ⟨#[41]⟩) (by omega) (by have hq := shw_size L n hw hok (f + 1) i hi; have hr2 := sz_rng L i; rw [e, hb, ByteArray.size_append] at hq; omega) (fun W g hg => by rw [hk]; exact look_15 hg) w hC (fun W h => child_calls A n c _ a h1 _ sa W ((told a ha).later h))
    · obtain ⟨a, h1, ha⟩ := kid1 hwi (by rw [hk]; rfl)
      have sa := hbig a (by omega)
      have hb : body L (shwf L f) (rd_T49 L i) = (shwf L f a ++ ⟨#[41]⟩) := by unfold body; rw [h1]; simp [hk]
      rw [hb]
      exact via 54 _ Tryz.func54 (by kernel_rfl) rfl L n A c i hi (head (rd_T49 L i).f0) (shwf L f a ++ ⟨#[41]⟩) (by omega) (by have hq := shw_size L n hw hok (f + 1) i hi; have hr2 := sz_rng L i; rw [e, hb, ByteArray.size_append] at hq; omega) (fun W g hg => by rw [hk]; exact look_16 hg) w hC (fun W h => child_calls A n c _ a h1 _ sa W ((told a ha).later h))
    · obtain ⟨a, h1, ha⟩ := kid1 hwi (by rw [hk]; rfl)
      have sa := hbig a (by omega)
      have hb : body L (shwf L f) (rd_T49 L i) = (shwf L f a ++ ⟨#[41]⟩) := by unfold body; rw [h1]; simp [hk]
      rw [hb]
      exact via 54 _ Tryz.func54 (by kernel_rfl) rfl L n A c i hi (head (rd_T49 L i).f0) (shwf L f a ++ ⟨#[41]⟩) (by omega) (by have hq := shw_size L n hw hok (f + 1) i hi; have hr2 := sz_rng L i; rw [e, hb, ByteArray.size_append] at hq; omega) (fun W g hg => by rw [hk]; exact look_17 hg) w hC (fun W h => child_calls A n c _ a h1 _ sa W ((told a ha).later h))
end
end Go.Proofs.YtaaihcojedibeaaGreatDoor.SShow
end
section
/- show.Tree: its walk. -/
namespace Go.Proofs.YtaaihcojedibeaaGreatDoor.STree
open Go.RowKit CMem CBits CSet DRow DDeep DSizes DSpec DCon DRight SText SSpec SKinds SSet SWays SNode SWith SBody SBodyB SSize SShow Q Go.Proofs.YtaaihcojedibeaaGreatDoorW.PrintWords Go.Proofs.YtaaihcojedibeaaGreatDoorW.PrintLast Go.Proofs.YtaaihcojedibeaaGreatDoorW.PrintMore
set_option linter.unusedVariables false
set_option linter.unusedSimpArgs false
set_option maxRecDepth 100000
/-- a tree's pattern -/
def shows (L : List S49) : ByteArray := if rgt L = 0 then shwf L L.length ((L.length - 1 : Nat) : Int) else ⟨#[]⟩
theorem rgt_ord {L : List S49} (h : rgt L = 0) : ord L = true := by
  unfold rgt at h
  split at h
  · rename_i hf; exact frm_ord hf
  · rename_i hf; exact absurd h hf
set_option maxHeartbeats 6400000 in
theorem tree_calls (L : List S49) (n : Nat) (A : Option Addr) (c : Nat) (hn : L.length = n) (hn2 : n ≤ 500) (hok : ∀ i, i < n → OkN (rd_T49 L (i : Nat))) (s : ByteArray) (hs : shows L = s) (w : World) (hC : Kd.C k49 w A n L) (T : Tab w) :
    Calls Tryz.prog 5 #[.agg #[.slice A n c]] w fun e w' => e = .returned (.string s) ∧ Below w.heap.size w w' := by
  have KR := Lib.hid (fun W (hb : Below w.heap.size w W) => right_calls A c L n hn hn2 W (Kd.C_below hC hb))
  have B0 := Lib.hid (heap_alloc_new w (.cells #[.slice A n c] 24))
  have HB0 := Lib.hid (below1 w (.cells #[.slice A n c] 24))
  by_cases h : rgt L = 0
  · have ho := rgt_ord h
    have hp := ord_pos ho
    have hw := fun i (hi : i < n) => ord_wf ho i (by omega)
    obtain ⟨m, hm⟩ : ∃ m, n - 1 = m := ⟨_, rfl⟩
    have hw1 : wrap64 ((n : Int) - 1) = (m : Int) := by unfold wrap64; omega
    have KN := Lib.hid (fun W (hb : Below w.heap.size w W) => node_all (c := c) hn (by omega) hw hok n m (by omega) (by omega) W (Kd.C_below hC hb) (T.below hb))
    have e : shwf L n (m : Nat) = s := by
      rw [← hs]
      unfold shows
      rw [if_pos h, hn, hm]
    rw [e] at KN
    rw [h] at KR
    obtain ⟨I, hI⟩ : ∃ I : Int, (m : Int) = I := ⟨_, rfl⟩
    rw [hI] at KN hw1
    clear hw hm hp ho h hs hC T hok hn e hI hn2
    go_enter Tryz.func5, Tryz.ntmps5
    go_wp2_with fail
    refine (KR.out _ HB0.out).mono ?_
    rintro e w2 ⟨rfl, hb⟩
    have HB2 := Lib.hid (below_step HB0.out hb)
    have l0 := blk_cell (below_blk hb B0.out) 0 (.slice A n c) rfl
    clear hb
    go_wp2_with fail
    refine (KN.out _ HB2.out).mono ?_
    rintro e w3 ⟨rfl, hb⟩
    have HB3 := Lib.hid (below_step HB2.out hb)
    clear hb
    go_wp2
    go_ret
    exact ⟨rfl, HB3.out⟩
  · have hne : (rgt L != 0) = true := by simpa using h
    have e : s = ⟨#[]⟩ := by rw [← hs]; unfold shows; rw [if_neg h]
    subst e
    generalize rgt L = r at *
    clear hs hC T hok hn h
    go_enter Tryz.func5, Tryz.ntmps5
    go_wp2_with fail
    refine (KR.out _ HB0.out).mono ?_
    rintro e w2 ⟨rfl, hb⟩
    have HB2 := Lib.hid (below_step HB0.out hb)
    clear hb
    go_wp2
    go_ret
    exact ⟨rfl, HB2.out⟩
end Go.Proofs.YtaaihcojedibeaaGreatDoor.STree
end
section
/- The trees and the texts of clewlaw08.fixed. -/
namespace Go.Proofs.YtaaihcojedibeaaGreatDoor.SFix
open CMem CBits CSet CRng CRuns COf DRow DDeep DSizes DFits DLens DSpec DGrp DCon DRight DJoin SText SSpec SKinds SShow STree Q
set_option linter.unusedVariables false
set_option linter.unusedSimpArgs false
set_option maxRecDepth 100000
def nA : S49 := ⟨1, 0, 0, ⟨⟨0, 8589934594, 0, 0⟩⟩, 0, 0, 0, 0, false⟩
def nR : S49 := ⟨10, 0, 0, ⟨⟨0, 0, 0, 0⟩⟩, 0, -1, 1, 0, false⟩
def nL : S49 := ⟨5, 0, 0, ⟨⟨0, 0, 0, 0⟩⟩, 0, 0, 0, 0, false⟩
def tR : List S49 := [nA, nR]
def tJ : List S49 := [nA, nR, nA, ⟨9, 1, 2, z28, 0, 0, 0, 0, false⟩]
def tT : List S49 := [nA, nR, nA, ⟨9, 1, 2, z28, 0, 0, 0, 0, false⟩, nL, ⟨8, 3, 4, z28, 0, 0, 0, 0, false⟩]
theorem wR : [nA] ++ [(⟨10, ((1 : Nat) : Int) - 1, 0, ⟨⟨0, 0, 0, 0⟩⟩, 0, -1, 1, 0, false⟩ : S49)] = tR := rfl
theorem jJ : tR ++ [nA].map (shift (2 : Nat)) ++ [(⟨9, ((2 : Nat) : Int) - 1, ((2 : Nat) : Int) + ((1 : Nat) : Int) - 1, z28, 0, 0, 0, 0, false⟩ : S49)] = tJ := rfl
theorem jT : tJ ++ [nL].map (shift (4 : Nat)) ++ [(⟨8, ((4 : Nat) : Int) - 1, ((4 : Nat) : Int) + ((1 : Nat) : Int) - 1, z28, 0, 0, 0, 0, false⟩ : S49)] = tT := rfl
theorem sR : shows tR = { data := #[91, 65, 97, 93, 42, 63] } := by kernel_rfl
theorem sT : shows tT = { data := #[40, 63, 58, 91, 65, 97, 93, 42, 63, 124, 91, 65, 97, 93, 41, 40, 63, 109, 58, 36, 41] } := by kernel_rfl
theorem sE : shows [] = { data := #[] } := by kernel_rfl
theorem sZ : shows [(⟨0, 0, 0, ⟨⟨0, 0, 0, 0⟩⟩, 0, 0, 0, 0, false⟩ : S49)] = { data := #[40, 63, 58, 41] } := by kernel_rfl
theorem oA : sc (tx ⟨#[97, 65]⟩ 2) = #[.int .u64 0, .int .u64 8589934594, .int .u64 0, .int .u64 0] := by kernel_rfl
theorem bX : setB (tx ⟨#[97, 98, 99, 120]⟩ 4) = { data := #[91, 97, 45, 99, 120, 93] } := by kernel_rfl
theorem b0 : setB 0 = { data := #[91, 94, 92, 120, 48, 48, 45, 92, 120, 102, 102, 93] } := by kernel_rfl
theorem bD : setB (2 ^ 46) = { data := #[92, 120, 50, 101] } := by kernel_rfl
theorem c0 : sc 0 = #[.int .u64 0, .int .u64 0, .int .u64 0, .int .u64 0] := by kernel_rfl
theorem cX : sc (tx ⟨#[97, 98, 99, 120]⟩ 4) = #[.int .u64 0, .int .u64 72057654167470080, .int .u64 0, .int .u64 0] := by kernel_rfl
theorem cD : sc (2 ^ 46) = #[.int .u64 70368744177664, .int .u64 0, .int .u64 0, .int .u64 0] := by kernel_rfl
theorem z4 : ({ data := #[97, 98, 99, 120] } : ByteArray).size = 4 := rfl
theorem z2 : ({ data := #[97, 65] } : ByteArray).size = 2 := rfl
theorem okl {L : List S49} (h : ∀ x ∈ L, OkN x) : ∀ i, i < L.length → OkN (rd_T49 L (i : Nat)) := by
  intro i hi
  have e : rd_T49 L i = L[i]'hi := by
    unfold rd_T49
    rw [Int.toNat_natCast, List.getD_eq_getElem?_getD, List.getElem?_eq_getElem hi]
    rfl
  rw [e]
  exact h _ (List.getElem_mem hi)
theorem okR : ∀ x ∈ tR, OkN x := by unfold tR OkN in64; decide
theorem okT : ∀ x ∈ tT, OkN x := by unfold tT OkN in64; decide
theorem okZ : ∀ x ∈ [(⟨0, 0, 0, ⟨⟨0, 0, 0, 0⟩⟩, 0, 0, 0, 0, false⟩ : S49)], OkN x := by unfold OkN in64; decide
end Go.Proofs.YtaaihcojedibeaaGreatDoor.SFix
end
section
/- clewlaw08.fixed: its walk. -/
namespace Go.Proofs.YtaaihcojedibeaaGreatDoor.SFixed
open Go.RowKit CMem CBits CSet CMake COf DRow DDeep DSizes DFits DLens DSpec DCon DJoin DWrap DRowN DKit SText SSpec SKinds SSet SShow STree SFix Q Go.Proofs.YtaaihcojedibeaaGreatDoorW.PrintWords Go.Proofs.YtaaihcojedibeaaGreatDoorW.PrintLast Go.Proofs.YtaaihcojedibeaaGreatDoorW.PrintMore
set_option linter.unusedVariables false
set_option linter.unusedSimpArgs false
set_option maxRecDepth 100000
set_option maxHeartbeats 12800000 in
theorem fixed_calls (w : World) (T : Tab w) : Calls Tryz.prog 10 #[] w fun e w' => e = .returned (.bool true) ∧ Below w.heap.size w w' := by
  have HT := Lib.hid (fun W (h : Below w.heap.size w W) => T.below h)
  have KA := Lib.hid (fun W => of_calls { data := #[97, 65] } (by decide) W)
  have KX := Lib.hid (fun W => of_calls { data := #[97, 98, 99, 120] } (by decide) W)
  have KD := Lib.hid (fun W => one_calls 46 (by decide) W)
  have SX := Lib.hid (fun W => set_calls (tx ⟨#[97, 98, 99, 120]⟩ 4) W)
  have S0 := Lib.hid (fun W => set_calls 0 W)
  have SD := Lib.hid (fun W => set_calls (2 ^ 46) W)
  rw [z2, oA] at KA
  rw [bX] at SX
  rw [b0] at S0
  rw [bD] at SD
  rw [z4] at KX
  rw [c0] at S0
  rw [cX] at SX KX
  rw [cD] at SD KD
  clear T
  have HB_0 := Lib.hid (Below.refl w.heap.size w)
  go_enter Tryz.func10, Tryz.ntmps10
  go_wp2_with fail
  refine (KA.out _).mono ?_
  rintro e w1 ⟨rfl, hb⟩
  have HB_1 := Lib.hid (below_step HB_0.out hb)
  clear hb HB_0
  go_wp2_with fail
  refine (leaf_tree 1 0 0 0 8589934594 0 0 0 0 0 0 false _).mono ?_
  rintro e w2 ⟨⟨Aa, ca, rfl, hle, C⟩, hb⟩
  have Ca_2 := Lib.hid (Kd.C_below C (below1 _ (.cells #[.slice Aa 1 ca] 24)))
  have Ha := Lib.hid hle
  clear C hle
  have Ba_2 := Lib.hid (heap_alloc_new w2 (.cells #[.slice Aa 1 ca] 24))
  have HB_2 := Lib.hid ((below_step HB_1.out hb).alloc (below_step HB_1.out hb).size (.cells #[.slice Aa 1 ca] 24))
  clear hb HB_1
  go_wp2_with fail
  generalize hW : w2.alloc (.cells #[.slice Aa 1 ca] 24) = v2 at *
  clear hW
  generalize hPa : w2.heap.size = Pa at *
  clear hPa
  have La_2 := blk_cell Ba_2.out 0 (.slice Aa 1 ca) rfl
  refine (wrap_tree Aa ca [nA] tR 1 2 rfl (by decide) rfl 10 0 0 0 0 0 0 0 (-1) 1 0 false wR _ Ca_2.out).mono ?_
  rintro e w3 ⟨⟨Ar, cr, rfl, hle, C⟩, hb⟩
  have Ca_3 := Lib.hid (Kd.C_below (Kd.C_below Ca_2.out hb) (below1 _ (.cells #[.slice Ar 2 cr] 24)))
  have Cr_3 := Lib.hid (Kd.C_below C (below1 _ (.cells #[.slice Ar 2 cr] 24)))
  have Hr := Lib.hid hle
  clear C hle
  have Ba_3 := Lib.hid (blk_alloc (below_blk hb Ba_2.out) (.cells #[.slice Ar 2 cr] 24))
  have La_3 := blk_cell Ba_3.out 0 (.slice Aa 1 ca) rfl
  have Br_3 := Lib.hid (heap_alloc_new w3 (.cells #[.slice Ar 2 cr] 24))
  have HB_3 := Lib.hid ((below_step HB_2.out hb).alloc (below_step HB_2.out hb).size (.cells #[.slice Ar 2 cr] 24))
  clear hb HB_2 Ca_2 Ba_2 La_2
  go_wp2_with fail
  generalize hW : w3.alloc (.cells #[.slice Ar 2 cr] 24) = v3 at *
  clear hW
  generalize hPr : w3.heap.size = Pr at *
  clear hPr
  have Lr_3 := blk_cell Br_3.out 0 (.slice Ar 2 cr) rfl
  refine (join_tree Ar cr tR [nA] tJ 2 1 4 rfl Aa ca rfl (by decide) rfl 9 jJ _ Cr_3.out Ca_3.out).mono ?_
  rintro e w4 ⟨⟨Aj, cj, rfl, hle, C⟩, hb⟩
  have Ca_4 := Lib.hid (Kd.C_below Ca_3.out hb)
  have Cr_4 := Lib.hid (Kd.C_below Cr_3.out hb)
  have Cj_4 := Lib.hid C
  have Hj := Lib.hid hle
  clear C hle
  have Ba_4 := Lib.hid (below_blk hb Ba_3.out)
  have La_4 := blk_cell Ba_4.out 0 (.slice Aa 1 ca) rfl
  have Br_4 := Lib.hid (below_blk hb Br_3.out)
  have Lr_4 := blk_cell Br_4.out 0 (.slice Ar 2 cr) rfl
  have HB_4 := Lib.hid (below_step HB_3.out hb)
  clear hb HB_3 Ca_3 Cr_3 Ba_3 La_3 Br_3 Lr_3
  go_wp2_with fail
  refine (leaf_tree 5 0 0 0 0 0 0 0 0 0 0 false _).mono ?_
  rintro e w5 ⟨⟨Al, cl, rfl, hle, C⟩, hb⟩
  have Ca_5 := Lib.hid (Kd.C_below Ca_4.out hb)
  have Cr_5 := Lib.hid (Kd.C_below Cr_4.out hb)
  have Cj_5 := Lib.hid (Kd.C_below Cj_4.out hb)
  have Cl_5 := Lib.hid C
  have Hl := Lib.hid hle
  clear C hle
  have Ba_5 := Lib.hid (below_blk hb Ba_4.out)
  have La_5 := blk_cell Ba_5.out 0 (.slice Aa 1 ca) rfl
  have Br_5 := Lib.hid (below_blk hb Br_4.out)
  have Lr_5 := blk_cell Br_5.out 0 (.slice Ar 2 cr) rfl
  have HB_5 := Lib.hid (below_step HB_4.out hb)
  clear hb HB_4 Ca_4 Cr_4 Cj_4 Ba_4 La_4 Br_4 Lr_4
  go_wp2_with fail
  refine (join_tree Aj cj tJ [nL] tT 4 1 6 rfl Al cl rfl (by decide) rfl 8 jT _ Cj_5.out Cl_5.out).mono ?_
  rintro e w6 ⟨⟨At, ct, rfl, hle, C⟩, hb⟩
  have Ca_6 := Lib.hid (Kd.C_below (Kd.C_below Ca_5.out hb) (below1 _ (.cells #[.slice At 6 ct] 24)))
  have Cr_6 := Lib.hid (Kd.C_below (Kd.C_below Cr_5.out hb) (below1 _ (.cells #[.slice At 6 ct] 24)))
  have Cj_6 := Lib.hid (Kd.C_below (Kd.C_below Cj_5.out hb) (below1 _ (.cells #[.slice At 6 ct] 24)))
  have Cl_6 := Lib.hid (Kd.C_below (Kd.C_below Cl_5.out hb) (below1 _ (.cells #[.slice At 6 ct] 24)))
  have Ct_6 := Lib.hid (Kd.C_below C (below1 _ (.cells #[.slice At 6 ct] 24)))
  have Ht := Lib.hid hle
  clear C hle
  have Ba_6 := Lib.hid (blk_alloc (below_blk hb Ba_5.out) (.cells #[.slice At 6 ct] 24))
  have La_6 := blk_cell Ba_6.out 0 (.slice Aa 1 ca) rfl
  have Br_6 := Lib.hid (blk_alloc (below_blk hb Br_5.out) (.cells #[.slice At 6 ct] 24))
  have Lr_6 := blk_cell Br_6.out 0 (.slice Ar 2 cr) rfl
  have Bt_6 := Lib.hid (heap_alloc_new w6 (.cells #[.slice At 6 ct] 24))
  have HB_6 := Lib.hid ((below_step HB_5.out hb).alloc (below_step HB_5.out hb).size (.cells #[.slice At 6 ct] 24))
  clear hb HB_5 Ca_5 Cr_5 Cj_5 Cl_5 Ba_5 La_5 Br_5 Lr_5
  go_wp2_with fail
  generalize hW : w6.alloc (.cells #[.slice At 6 ct] 24) = v6 at *
  clear hW
  generalize hPt : w6.heap.size = Pt at *
  clear hPt
  have Lt_6 := blk_cell Bt_6.out 0 (.slice At 6 ct) rfl
  refine (tree_calls tR 2 Ar cr rfl (by decide) (okl okR) _ sR _ Cr_6.out (HT.out _ HB_6.out)).mono ?_
  rintro e w7 ⟨rfl, hb⟩
  have Ca_7 := Lib.hid (Kd.C_below Ca_6.out hb)
  have Cr_7 := Lib.hid (Kd.C_below Cr_6.out hb)
  have Cj_7 := Lib.hid (Kd.C_below Cj_6.out hb)
  have Cl_7 := Lib.hid (Kd.C_below Cl_6.out hb)
  have Ct_7 := Lib.hid (Kd.C_below Ct_6.out hb)
  have Ba_7 := Lib.hid (below_blk hb Ba_6.out)
  have La_7 := blk_cell Ba_7.out 0 (.slice Aa 1 ca) rfl
  have Br_7 := Lib.hid (below_blk hb Br_6.out)
  have Lr_7 := blk_cell Br_7.out 0 (.slice Ar 2 cr) rfl
  have Bt_7 := Lib.hid (below_blk hb Bt_6.out)
  have Lt_7 := blk_cell Bt_7.out 0 (.slice At 6 ct) rfl
  have HB_7 := Lib.hid (below_step HB_6.out hb)
  clear hb HB_6 Ca_6 Cr_6 Cj_6 Cl_6 Ct_6 Ba_6 La_6 Br_6 Lr_6 Bt_6 Lt_6
  go_wp2_with fail
  refine (tree_calls tT 6 At ct rfl (by decide) (okl okT) _ sT _ Ct_7.out (HT.out _ HB_7.out)).mono ?_
  rintro e w8 ⟨rfl, hb⟩
  have Ca_8 := Lib.hid (Kd.C_below Ca_7.out hb)
  have Cr_8 := Lib.hid (Kd.C_below Cr_7.out hb)
  have Cj_8 := Lib.hid (Kd.C_below Cj_7.out hb)
  have Cl_8 := Lib.hid (Kd.C_below Cl_7.out hb)
  have Ct_8 := Lib.hid (Kd.C_below Ct_7.out hb)
  have Ba_8 := Lib.hid (below_blk hb Ba_7.out)
  have La_8 := blk_cell Ba_8.out 0 (.slice Aa 1 ca) rfl
  have Br_8 := Lib.hid (below_blk hb Br_7.out)
  have Lr_8 := blk_cell Br_8.out 0 (.slice Ar 2 cr) rfl
  have Bt_8 := Lib.hid (below_blk hb Bt_7.out)
  have Lt_8 := blk_cell Bt_8.out 0 (.slice At 6 ct) rfl
  have HB_8 := Lib.hid (below_step HB_7.out hb)
  clear hb HB_7 Ca_7 Cr_7 Cj_7 Cl_7 Ct_7 Ba_7 La_7 Br_7 Lr_7 Bt_7 Lt_7
  go_wp2_with fail
  refine (KX.out _).mono ?_
  rintro e w9 ⟨rfl, hb⟩
  have Ca_9 := Lib.hid (Kd.C_below Ca_8.out hb)
  have Cr_9 := Lib.hid (Kd.C_below Cr_8.out hb)
  have Cj_9 := Lib.hid (Kd.C_below Cj_8.out hb)
  have Cl_9 := Lib.hid (Kd.C_below Cl_8.out hb)
  have Ct_9 := Lib.hid (Kd.C_below Ct_8.out hb)
  have Ba_9 := Lib.hid (below_blk hb Ba_8.out)
  have La_9 := blk_cell Ba_9.out 0 (.slice Aa 1 ca) rfl
  have Br_9 := Lib.hid (below_blk hb Br_8.out)
  have Lr_9 := blk_cell Br_9.out 0 (.slice Ar 2 cr) rfl
  have Bt_9 := Lib.hid (below_blk hb Bt_8.out)
  have Lt_9 := blk_cell Bt_9.out 0 (.slice At 6 ct) rfl
  have HB_9 := Lib.hid (below_step HB_8.out hb)
  clear hb HB_8 Ca_8 Cr_8 Cj_8 Cl_8 Ct_8 Ba_8 La_8 Br_8 Lr_8 Bt_8 Lt_8
  go_wp2_with fail
  refine (SX.out _).mono ?_
  rintro e w10 ⟨rfl, hb⟩
  have Ca_10 := Lib.hid (Kd.C_below Ca_9.out hb)
  have Cr_10 := Lib.hid (Kd.C_below Cr_9.out hb)
  have Cj_10 := Lib.hid (Kd.C_below Cj_9.out hb)
  have Cl_10 := Lib.hid (Kd.C_below Cl_9.out hb)
  have Ct_10 := Lib.hid (Kd.C_below Ct_9.out hb)
  have Ba_10 := Lib.hid (below_blk hb Ba_9.out)
  have La_10 := blk_cell Ba_10.out 0 (.slice Aa 1 ca) rfl
  have Br_10 := Lib.hid (below_blk hb Br_9.out)
  have Lr_10 := blk_cell Br_10.out 0 (.slice Ar 2 cr) rfl
  have Bt_10 := Lib.hid (below_blk hb Bt_9.out)
  have Lt_10 := blk_cell Bt_10.out 0 (.slice At 6 ct) rfl
  have HB_10 := Lib.hid (below_step HB_9.out hb)
  clear hb HB_9 Ca_9 Cr_9 Cj_9 Cl_9 Ct_9 Ba_9 La_9 Br_9 Lr_9 Bt_9 Lt_9
  go_wp2_with fail
  refine (S0.out _).mono ?_
  rintro e w11 ⟨rfl, hb⟩
  have Ca_11 := Lib.hid (Kd.C_below Ca_10.out hb)
  have Cr_11 := Lib.hid (Kd.C_below Cr_10.out hb)
  have Cj_11 := Lib.hid (Kd.C_below Cj_10.out hb)
  have Cl_11 := Lib.hid (Kd.C_below Cl_10.out hb)
  have Ct_11 := Lib.hid (Kd.C_below Ct_10.out hb)
  have Ba_11 := Lib.hid (below_blk hb Ba_10.out)
  have La_11 := blk_cell Ba_11.out 0 (.slice Aa 1 ca) rfl
  have Br_11 := Lib.hid (below_blk hb Br_10.out)
  have Lr_11 := blk_cell Br_11.out 0 (.slice Ar 2 cr) rfl
  have Bt_11 := Lib.hid (below_blk hb Bt_10.out)
  have Lt_11 := blk_cell Bt_11.out 0 (.slice At 6 ct) rfl
  have HB_11 := Lib.hid (below_step HB_10.out hb)
  clear hb HB_10 Ca_10 Cr_10 Cj_10 Cl_10 Ct_10 Ba_10 La_10 Br_10 Lr_10 Bt_10 Lt_10
  go_wp2_with fail
  refine (KD.out _).mono ?_
  rintro e w12 ⟨rfl, hb⟩
  have Ca_12 := Lib.hid (Kd.C_below Ca_11.out hb)
  have Cr_12 := Lib.hid (Kd.C_below Cr_11.out hb)
  have Cj_12 := Lib.hid (Kd.C_below Cj_11.out hb)
  have Cl_12 := Lib.hid (Kd.C_below Cl_11.out hb)
  have Ct_12 := Lib.hid (Kd.C_below Ct_11.out hb)
  have Ba_12 := Lib.hid (below_blk hb Ba_11.out)
  have La_12 := blk_cell Ba_12.out 0 (.slice Aa 1 ca) rfl
  have Br_12 := Lib.hid (below_blk hb Br_11.out)
  have Lr_12 := blk_cell Br_12.out 0 (.slice Ar 2 cr) rfl
  have Bt_12 := Lib.hid (below_blk hb Bt_11.out)
  have Lt_12 := blk_cell Bt_12.out 0 (.slice At 6 ct) rfl
  have HB_12 := Lib.hid (below_step HB_11.out hb)
  clear hb HB_11 Ca_11 Cr_11 Cj_11 Cl_11 Ct_11 Ba_11 La_11 Br_11 Lr_11 Bt_11 Lt_11
  go_wp2_with fail
  refine (SD.out _).mono ?_
  rintro e w13 ⟨rfl, hb⟩
  have Ca_13 := Lib.hid (Kd.C_below Ca_12.out hb)
  have Cr_13 := Lib.hid (Kd.C_below Cr_12.out hb)
  have Cj_13 := Lib.hid (Kd.C_below Cj_12.out hb)
  have Cl_13 := Lib.hid (Kd.C_below Cl_12.out hb)
  have Ct_13 := Lib.hid (Kd.C_below Ct_12.out hb)
  have Ba_13 := Lib.hid (below_blk hb Ba_12.out)
  have La_13 := blk_cell Ba_13.out 0 (.slice Aa 1 ca) rfl
  have Br_13 := Lib.hid (below_blk hb Br_12.out)
  have Lr_13 := blk_cell Br_13.out 0 (.slice Ar 2 cr) rfl
  have Bt_13 := Lib.hid (below_blk hb Bt_12.out)
  have Lt_13 := blk_cell Bt_13.out 0 (.slice At 6 ct) rfl
  have HB_13 := Lib.hid (below_step HB_12.out hb)
  clear hb HB_12 Ca_12 Cr_12 Cj_12 Cl_12 Ct_12 Ba_12 La_12 Br_12 Lr_12 Bt_12 Lt_12
  go_wp2_with fail
  refine (tree_calls [] 0 none 0 rfl (by decide) (fun i h => absurd h (Nat.not_lt_zero _)) _ sE _ ⟨rfl, by decide, fun h => absurd h (Nat.lt_irrefl _)⟩ (HT.out _ HB_13.out)).mono ?_
  rintro e w14 ⟨rfl, hb⟩
  have Ca_14 := Lib.hid (Kd.C_below Ca_13.out hb)
  have Cr_14 := Lib.hid (Kd.C_below Cr_13.out hb)
  have Cj_14 := Lib.hid (Kd.C_below Cj_13.out hb)
  have Cl_14 := Lib.hid (Kd.C_below Cl_13.out hb)
  have Ct_14 := Lib.hid (Kd.C_below Ct_13.out hb)
  have Ba_14 := Lib.hid (below_blk hb Ba_13.out)
  have La_14 := blk_cell Ba_14.out 0 (.slice Aa 1 ca) rfl
  have Br_14 := Lib.hid (below_blk hb Br_13.out)
  have Lr_14 := blk_cell Br_14.out 0 (.slice Ar 2 cr) rfl
  have Bt_14 := Lib.hid (below_blk hb Bt_13.out)
  have Lt_14 := blk_cell Bt_14.out 0 (.slice At 6 ct) rfl
  have HB_14 := Lib.hid (below_step HB_13.out hb)
  clear hb HB_13 Ca_13 Cr_13 Cj_13 Cl_13 Ct_13 Ba_13 La_13 Br_13 Lr_13 Bt_13 Lt_13
  go_wp2_with fail
  refine (leaf_tree 0 0 0 0 0 0 0 0 0 0 0 false _).mono ?_
  rintro e w15 ⟨⟨Az, cz, rfl, hle, C⟩, hb⟩
  have Ca_15 := Lib.hid (Kd.C_below Ca_14.out hb)
  have Cr_15 := Lib.hid (Kd.C_below Cr_14.out hb)
  have Cj_15 := Lib.hid (Kd.C_below Cj_14.out hb)
  have Cl_15 := Lib.hid (Kd.C_below Cl_14.out hb)
  have Ct_15 := Lib.hid (Kd.C_below Ct_14.out hb)
  have Cz_15 := Lib.hid C
  have Hz := Lib.hid hle
  clear C hle
  have Ba_15 := Lib.hid (below_blk hb Ba_14.out)
  have La_15 := blk_cell Ba_15.out 0 (.slice Aa 1 ca) rfl
  have Br_15 := Lib.hid (below_blk hb Br_14.out)
  have Lr_15 := blk_cell Br_15.out 0 (.slice Ar 2 cr) rfl
  have Bt_15 := Lib.hid (below_blk hb Bt_14.out)
  have Lt_15 := blk_cell Bt_15.out 0 (.slice At 6 ct) rfl
  have HB_15 := Lib.hid (below_step HB_14.out hb)
  clear hb HB_14 Ca_14 Cr_14 Cj_14 Cl_14 Ct_14 Ba_14 La_14 Br_14 Lr_14 Bt_14 Lt_14
  go_wp2_with fail
  refine (tree_calls _ 1 Az cz rfl (by decide) (okl okZ) _ sZ _ Cz_15.out (HT.out _ HB_15.out)).mono ?_
  rintro e w16 ⟨rfl, hb⟩
  have Ca_16 := Lib.hid (Kd.C_below Ca_15.out hb)
  have Cr_16 := Lib.hid (Kd.C_below Cr_15.out hb)
  have Cj_16 := Lib.hid (Kd.C_below Cj_15.out hb)
  have Cl_16 := Lib.hid (Kd.C_below Cl_15.out hb)
  have Ct_16 := Lib.hid (Kd.C_below Ct_15.out hb)
  have Cz_16 := Lib.hid (Kd.C_below Cz_15.out hb)
  have Ba_16 := Lib.hid (below_blk hb Ba_15.out)
  have La_16 := blk_cell Ba_16.out 0 (.slice Aa 1 ca) rfl
  have Br_16 := Lib.hid (below_blk hb Br_15.out)
  have Lr_16 := blk_cell Br_16.out 0 (.slice Ar 2 cr) rfl
  have Bt_16 := Lib.hid (below_blk hb Bt_15.out)
  have Lt_16 := blk_cell Bt_16.out 0 (.slice At 6 ct) rfl
  have HB_16 := Lib.hid (below_step HB_15.out hb)
  clear hb HB_15 Ca_15 Cr_15 Cj_15 Cl_15 Ct_15 Cz_15 Ba_15 La_15 Br_15 Lr_15 Bt_15 Lt_15
  go_wp2
  go_ret
  exact ⟨rfl, HB_16.out⟩
end Go.Proofs.YtaaihcojedibeaaGreatDoor.SFixed
end
section
/- The document's pattern of every node of a tree in order, and of a tree. -/
namespace Go.Proofs.YtaaihcojedibeaaGreatDoor.RAll
open Go.RowKit CMem CBits CSet DRow DDeep DSizes DSpec DGrp DCon DOdd DGrouped DRight SText SSpec SSize STree ROd RNum ROften RShow RNode DTreeS Q Go.Proofs.YtaaihcojedibeaaGreatDoorW.PrintWords Go.Proofs.YtaaihcojedibeaaGreatDoorW.PrintLast Go.Proofs.YtaaihcojedibeaaGreatDoorW.PrintMore
set_option linter.unusedVariables false
set_option linter.unusedSimpArgs false
set_option maxRecDepth 100000
theorem nil_app (s : ByteArray) : (⟨#[]⟩ : ByteArray) ++ s = s := ByteArray.ext (by simp)
theorem app_nil (s : ByteArray) : s ++ (⟨#[]⟩ : ByteArray) = s := ByteArray.ext (by simp)
theorem psz {s : ByteArray} (h : s.size ≤ 1000000000) (so : Bool) : (if so = true then ⟨#[40, 63, 58]⟩ ++ s ++ ⟨#[41]⟩ else s : ByteArray).size ≤ 1000000004 := by
  split
  · rw [ByteArray.size_append, ByteArray.size_append]
    show 3 + _ + 1 ≤ _
    omega
  · omega
theorem nw_lt (s : S28) (h : in64 s.f0.f0 ∧ in64 s.f0.f1 ∧ in64 s.f0.f2 ∧ in64 s.f0.f3) : nw s < 2 ^ 256 := by
  obtain ⟨⟨a, b, c, d⟩⟩ := s
  simp only [in64] at h
  obtain ⟨⟨a0, a1⟩, ⟨b0, b1⟩, ⟨c0, c1⟩, d0, d1⟩ := h
  obtain ⟨a, rfl⟩ := Int.eq_ofNat_of_zero_le a0
  obtain ⟨b, rfl⟩ := Int.eq_ofNat_of_zero_le b0
  obtain ⟨c, rfl⟩ := Int.eq_ofNat_of_zero_le c0
  obtain ⟨d, rfl⟩ := Int.eq_ofNat_of_zero_le d0
  have e : nw ⟨⟨(a : Int), b, c, d⟩⟩ = a + 2 ^ 64 * (b + 2 ^ 64 * (c + 2 ^ 64 * d)) := by simp [nw]
  rw [e]
  omega
theorem rgt_back {L : List S49} (h : rgt L = 0) (i : Nat) (hi : i < L.length) (hk : (rd_T49 L (i : Nat)).f0 = 12) : 1 ≤ (rd_T49 L (i : Nat)).f7 ∧ (rd_T49 L (i : Nat)).f7 ≤ 9 := by
  unfold rgt at h
  split at h
  · split at h
    · rename_i hg
      unfold grp at hg
      simp only [Bool.and_eq_true, decide_eq_true_eq, Bool.not_eq_true'] at hg
      obtain ⟨_, h9, hno⟩ := hg
      have hmem : rd_T49 L (i : Nat) ∈ L := by
        unfold rd_T49
        rw [Int.toNat_natCast, List.getD_eq_getElem?_getD, List.getElem?_eq_getElem hi]
        exact List.getElem_mem _
      have ho := List.any_eq_false.1 hno _ hmem
      unfold oddb at ho
      simp only [Bool.and_eq_true, beq_iff_eq, Bool.or_eq_true, decide_eq_true_eq, not_and, not_or] at ho
      have := ho hk
      omega
    · exact absurd h (by decide)
  · rename_i hf
    exact absurd h hf
section
variable {L : List S49} {n : Nat} {A : Option Addr} {c : Nat} (hn : L.length = n) (hn2 : n ≤ 1000) (hw : ∀ i, i < n → Wf L i) (hok : ∀ i, i < n → OkN (rd_T49 L (i : Nat))) (h12 : ∀ i, i < n → (rd_T49 L (i : Nat)).f0 = 12 → 1 ≤ (rd_T49 L (i : Nat)).f7 ∧ (rd_T49 L (i : Nat)).f7 ≤ 9)
include hn hn2 hw hok h12
set_option maxHeartbeats 6400000 in
theorem rnode_all : ∀ (f i : Nat), i < n → i < f → ∀ w, Kd.C k46 w A n (L.map od) → Calls Tryz.prog 14 #[.slice A n c, .int .i64 (i : Nat)] w fun e w' => e = .returned (.string (shwf L f i)) ∧ Below w.heap.size w w'
  | 0, i, _, h, _, _ => absurd h (Nat.not_lt_zero _)
  | f + 1, i, hi, hf, w, hC => by
    have ih := rnode_all f
    have hbig := fun j hj => shw_big L n hn2 hw hok f j hj
    obtain ⟨ad, hA, hR⟩ := rat hC hn i hi
    have told : ∀ a, a < i → NT w ad n c a (shwf L f a) := fun a ha W hb => by rw [← hA]; exact ih a (by omega) (by omega) W (Kd.C_below hC hb)
    have kindof : ∀ a : Nat, a < i → w.cell? (ad.add (a * 12)) = some (.int .i64 (rd_T49 L (a : Nat)).f0) := fun a ha => by
      obtain ⟨ad2, hA2, hR2⟩ := rat hC hn a (by omega)
      rw [hA] at hA2
      obtain rfl := Option.some.inj hA2
      exact hR2.1
    have hwi := hw i hi
    have hr := fit_rng hwi.1
    have ho := hok i hi
    have hb := h12 i hi
    have e : shwf L (f + 1) i = head (rd_T49 L i).f0 ++ body L (shwf L f) (rd_T49 L i) := rfl
    rw [e, hA]
    have K1 : kd (rd_T49 L i).f0 = 1 → ∃ a : Nat, (rd_T49 L i).f1 = (a : Int) ∧ a < i := fun h => kid1 hwi h
    have K2 : kd (rd_T49 L i).f0 = 2 → ∃ a b : Nat, (rd_T49 L i).f1 = (a : Int) ∧ (rd_T49 L i).f2 = (b : Int) ∧ a < i ∧ b < i := fun h => kid2 hwi h
    have H10 : (rd_T49 L i).f0 = 10 → 0 ≤ (rd_T49 L i).f4 ∧ (rd_T49 L i).f4 ≤ 100 ∧ (rd_T49 L i).f5 ≤ 100 ∧ ((rd_T49 L i).f5 = -1 ∨ (rd_T49 L i).f4 ≤ (rd_T49 L i).f5) ∧ 0 ≤ (rd_T49 L i).f6 ∧ (rd_T49 L i).f6 ≤ 2 := fun h => fit10 hwi.1 h
    clear hwi ih e
    generalize rd_T49 L i = z at *
    obtain ⟨k, f1, f2, ⟨⟨s0, s1, s2, s3⟩⟩, x4, x5, x6, x7, x8⟩ := z
    simp only [OkN] at hr ho hb K1 K2 H10 ⊢
    have hk18 : k = 0 ∨ k = 1 ∨ k = 2 ∨ k = 3 ∨ k = 4 ∨ k = 5 ∨ k = 6 ∨ k = 7 ∨ k = 8 ∨ k = 9 ∨ k = 10 ∨ k = 11 ∨ k = 12 ∨ k = 13 ∨ k = 14 ∨ k = 15 ∨ k = 16 ∨ k = 17 := by omega
    rcases hk18 with rfl | rfl | rfl | rfl | rfl | rfl | rfl | rfl | rfl | rfl | rfl | rfl | rfl | rfl | rfl | rfl | rfl | rfl
    · rw [show head 0 = ⟨#[40, 63, 58, 41]⟩ from rfl, show body L (shwf L f) ⟨0, f1, f2, ⟨⟨s0, s1, s2, s3⟩⟩, x4, x5, x6, x7, x8⟩ = ⟨#[]⟩ from rfl]
      rw [app_nil]
      exact n0 n c i hi ad s0 s1 s2 s3 x4 x5 x6 x7 x8 w f1 f2 0 (by decide) rfl rfl rfl rfl rfl _ rfl (Lib.hid (fun W => DRJoin.rkids_calls 0 W)) hR
    · have hsc := sc_nw ⟨⟨s0, s1, s2, s3⟩⟩ ⟨ho.1, ho.2.1, ho.2.2.1, ho.2.2.2.1⟩
      have KS := Lib.hid (fun W => rset_calls (nw ⟨⟨s0, s1, s2, s3⟩⟩) (nw_lt _ ⟨ho.1, ho.2.1, ho.2.2.1, ho.2.2.2.1⟩) W)
      rw [hsc] at KS
      rw [show head 1 = ⟨#[]⟩ from rfl, show body L (shwf L f) ⟨1, f1, f2, ⟨⟨s0, s1, s2, s3⟩⟩, x4, x5, x6, x7, x8⟩ = setB (nw ⟨⟨s0, s1, s2, s3⟩⟩) from rfl]
      rw [nil_app]
      exact n1 n c i hi ad s0 s1 s2 s3 x4 x5 x6 x7 x8 w f1 f2 _ KS hR
    · rw [show head 2 = ⟨#[94]⟩ from rfl, show body L (shwf L f) ⟨2, f1, f2, ⟨⟨s0, s1, s2, s3⟩⟩, x4, x5, x6, x7, x8⟩ = ⟨#[]⟩ from rfl]
      rw [app_nil]
      exact n0 n c i hi ad s0 s1 s2 s3 x4 x5 x6 x7 x8 w f1 f2 2 (by decide) rfl rfl rfl rfl rfl _ rfl (Lib.hid (fun W => DRJoin.rkids_calls 2 W)) hR
    · rw [show head 3 = ⟨#[36]⟩ from rfl, show body L (shwf L f) ⟨3, f1, f2, ⟨⟨s0, s1, s2, s3⟩⟩, x4, x5, x6, x7, x8⟩ = ⟨#[]⟩ from rfl]
      rw [app_nil]
      exact n0 n c i hi ad s0 s1 s2 s3 x4 x5 x6 x7 x8 w f1 f2 3 (by decide) rfl rfl rfl rfl rfl _ rfl (Lib.hid (fun W => DRJoin.rkids_calls 3 W)) hR
    · rw [show head 4 = ⟨#[40, 63, 109, 58, 94, 41]⟩ from rfl, show body L (shwf L f) ⟨4, f1, f2, ⟨⟨s0, s1, s2, s3⟩⟩, x4, x5, x6, x7, x8⟩ = ⟨#[]⟩ from rfl]
      rw [app_nil]
      exact n0 n c i hi ad s0 s1 s2 s3 x4 x5 x6 x7 x8 w f1 f2 4 (by decide) rfl rfl rfl rfl rfl _ rfl (Lib.hid (fun W => DRJoin.rkids_calls 4 W)) hR
    · rw [show head 5 = ⟨#[40, 63, 109, 58, 36, 41]⟩ from rfl, show body L (shwf L f) ⟨5, f1, f2, ⟨⟨s0, s1, s2, s3⟩⟩, x4, x5, x6, x7, x8⟩ = ⟨#[]⟩ from rfl]
      rw [app_nil]
      exact n0 n c i hi ad s0 s1 s2 s3 x4 x5 x6 x7 x8 w f1 f2 5 (by decide) rfl rfl rfl rfl rfl _ rfl (Lib.hid (fun W => DRJoin.rkids_calls 5 W)) hR
    · rw [show head 6 = ⟨#[92, 98]⟩ from rfl, show body L (shwf L f) ⟨6, f1, f2, ⟨⟨s0, s1, s2, s3⟩⟩, x4, x5, x6, x7, x8⟩ = ⟨#[]⟩ from rfl]
      rw [app_nil]
      exact n0 n c i hi ad s0 s1 s2 s3 x4 x5 x6 x7 x8 w f1 f2 6 (by decide) rfl rfl rfl rfl rfl _ rfl (Lib.hid (fun W => DRJoin.rkids_calls 6 W)) hR
    · rw [show head 7 = ⟨#[92, 66]⟩ from rfl, show body L (shwf L f) ⟨7, f1, f2, ⟨⟨s0, s1, s2, s3⟩⟩, x4, x5, x6, x7, x8⟩ = ⟨#[]⟩ from rfl]
      rw [app_nil]
      exact n0 n c i hi ad s0 s1 s2 s3 x4 x5 x6 x7 x8 w f1 f2 7 (by decide) rfl rfl rfl rfl rfl _ rfl (Lib.hid (fun W => DRJoin.rkids_calls 7 W)) hR
    · obtain ⟨a, b, rfl, rfl, ha, hb2⟩ := K2 rfl
      have sa := hbig a (by omega)
      have sb := hbig b (by omega)
      have ka := kindof a ha
      have kb := kindof b hb2
      have ta := told a ha
      have tb := told b hb2
      rw [show head 8 = ⟨#[]⟩ from rfl, show body L (shwf L f) ⟨8, (a : Nat), (b : Nat), ⟨⟨s0, s1, s2, s3⟩⟩, x4, x5, x6, x7, x8⟩ = wi L (shwf L f) (a : Nat) [9] ++ wi L (shwf L f) (b : Nat) [8, 9] from rfl]
      rw [nil_app, show wi L (shwf L f) (a : Nat) [9] = (if ((rd_T49 L (a : Nat)).f0 == 9) = true then ⟨#[40, 63, 58]⟩ ++ shwf L f (a : Nat) ++ ⟨#[41]⟩ else shwf L f (a : Nat)) by unfold wi; simp]
      by_cases h8 : (rd_T49 L (b : Nat)).f0 = 8
      · rw [show wi L (shwf L f) (b : Nat) [8, 9] = (if true = true then ⟨#[40, 63, 58]⟩ ++ shwf L f (b : Nat) ++ ⟨#[41]⟩ else shwf L f (b : Nat)) by unfold wi; simp [h8]]
        rw [h8] at kb
        exact n8a n c i hi ad s0 s1 s2 s3 x4 x5 x6 x7 x8 w a b (by omega) (by omega) _ ka kb _ _ (psz sa _) (psz sb _) (Lib.hid (rwithin sa _ ta)) (Lib.hid (rwithin sb _ tb)) hR
      · rw [show wi L (shwf L f) (b : Nat) [8, 9] = (if ((rd_T49 L (b : Nat)).f0 == 9) = true then ⟨#[40, 63, 58]⟩ ++ shwf L f (b : Nat) ++ ⟨#[41]⟩ else shwf L f (b : Nat)) by unfold wi; simp [h8]]
        exact n8b n c i hi ad s0 s1 s2 s3 x4 x5 x6 x7 x8 w a b (by omega) (by omega) _ ka _ kb (by simpa using h8) _ _ (psz sa _) (psz sb _) (Lib.hid (rwithin sa _ ta)) (Lib.hid (rwithin sb _ tb)) hR
    · obtain ⟨a, b, rfl, rfl, ha, hb2⟩ := K2 rfl
      have sa := hbig a (by omega)
      have sb := hbig b (by omega)
      have ka := kindof a ha
      have kb := kindof b hb2
      have ta := told a ha
      have tb := told b hb2
      rw [show head 9 = ⟨#[]⟩ from rfl, show body L (shwf L f) ⟨9, (a : Nat), (b : Nat), ⟨⟨s0, s1, s2, s3⟩⟩, x4, x5, x6, x7, x8⟩ = shwf L f (a : Nat) ++ ⟨#[124]⟩ ++ wi L (shwf L f) (b : Nat) [9] from rfl]
      rw [nil_app, show wi L (shwf L f) (b : Nat) [9] = (if ((rd_T49 L (b : Nat)).f0 == 9) = true then ⟨#[40, 63, 58]⟩ ++ shwf L f (b : Nat) ++ ⟨#[41]⟩ else shwf L f (b : Nat)) by unfold wi; simp]
      exact n9 n c i hi ad s0 s1 s2 s3 x4 x5 x6 x7 x8 w a b (by omega) (by omega) _ ka _ kb _ _ (by omega) (psz sb _) (Lib.hid ta) (Lib.hid (rwithin sb _ tb)) hR
    · obtain ⟨a, rfl, ha⟩ := K1 rfl
      have sa := hbig a (by omega)
      have ka := kindof a ha
      have ta := told a ha
      obtain ⟨m1, m2, m3, m4, m5, m6⟩ := H10 rfl
      have q2 := often_size (⟨10, (a : Nat), f2, ⟨⟨s0, s1, s2, s3⟩⟩, x4, x5, x6, x7, x8⟩ : S49) ⟨by show -1 ≤ x4; omega, m2⟩ ⟨by show -1 ≤ x5; omega, m3⟩
      simp only [] at q2
      rw [show head 10 = ⟨#[]⟩ from rfl, show body L (shwf L f) ⟨10, (a : Nat), f2, ⟨⟨s0, s1, s2, s3⟩⟩, x4, x5, x6, x7, x8⟩ = wi L (shwf L f) (a : Nat) [8, 9, 10] ++ often x4 x5 x6 from rfl]
      have KO := Lib.hid (fun W => roften_calls (⟨10, (a : Nat), f2, ⟨⟨s0, s1, s2, s3⟩⟩, x4, x5, x6, x7, x8⟩ : S49) ⟨m1, m2⟩ ⟨m3, m4⟩ ⟨m5, m6⟩ W)
      rw [nil_app]
      by_cases h8 : 8 ≤ (rd_T49 L (a : Nat)).f0
      · rw [show wi L (shwf L f) (a : Nat) [8, 9, 10] = (if decide ((rd_T49 L (a : Nat)).f0 ≤ 10) = true then ⟨#[40, 63, 58]⟩ ++ shwf L f (a : Nat) ++ ⟨#[41]⟩ else shwf L f (a : Nat)) by unfold wi; congr 1; simp; omega]
        exact n10a n c i hi ad s0 s1 s2 s3 x4 x5 x6 x7 x8 w a (by omega) _ ka f2 (by simpa using h8) _ rfl _ _ (psz sa _) (by omega) (Lib.hid (rwithin sa _ ta)) KO hR
      · rw [show wi L (shwf L f) (a : Nat) [8, 9, 10] = (if false = true then ⟨#[40, 63, 58]⟩ ++ shwf L f (a : Nat) ++ ⟨#[41]⟩ else shwf L f (a : Nat)) by unfold wi; congr 1; simp; omega]
        exact n10b n c i hi ad s0 s1 s2 s3 x4 x5 x6 x7 x8 w a (by omega) _ ka f2 (by simpa using h8) _ _ (psz sa _) (by omega) (Lib.hid (rwithin sa _ ta)) KO hR
    · obtain ⟨a, rfl, ha⟩ := K1 rfl
      have sa := hbig a (by omega)
      have ka := kindof a ha
      have ta := told a ha
      rw [show head 11 = ⟨#[40]⟩ from rfl, show body L (shwf L f) ⟨11, (a : Nat), f2, ⟨⟨s0, s1, s2, s3⟩⟩, x4, x5, x6, x7, x8⟩ = shwf L f (a : Nat) ++ ⟨#[41]⟩ from rfl]
      rw [← ByteArray.append_assoc]
      exact n11 n c i hi ad s0 s1 s2 s3 x4 x5 x6 x7 x8 w a f2 11 0 (by decide) (by unfold wrap64; decide) rfl rfl rfl rfl rfl _ _ rfl (by decide) sa (Lib.hid ta) (Lib.hid (fun W => DRJoin.rkids_calls 11 W)) hR
    · obtain ⟨h1, h9⟩ := hb rfl
      obtain ⟨r, rfl⟩ := Int.eq_ofNat_of_zero_le (show 0 ≤ x7 by omega)
      rw [show head 12 = ⟨#[]⟩ from rfl, show body L (shwf L f) ⟨12, f1, f2, ⟨⟨s0, s1, s2, s3⟩⟩, x4, x5, x6, (r : Nat), x8⟩ = back (r : Nat) x8 from rfl]
      rw [nil_app]
      unfold back
      rw [num_small r (by omega)]
      cases x8
      · rw [if_neg (by decide)]
        exact n12f n c i hi ad s0 s1 s2 s3 x4 x5 x6 w f1 f2 r (by omega) hR
      · rw [if_pos rfl]
        exact n12t n c i hi ad s0 s1 s2 s3 x4 x5 x6 w f1 f2 r (by omega) hR
    · obtain ⟨a, rfl, ha⟩ := K1 rfl
      have sa := hbig a (by omega)
      have ka := kindof a ha
      have ta := told a ha
      rw [show head 13 = ⟨#[40, 63, 61]⟩ from rfl, show body L (shwf L f) ⟨13, (a : Nat), f2, ⟨⟨s0, s1, s2, s3⟩⟩, x4, x5, x6, x7, x8⟩ = shwf L f (a : Nat) ++ ⟨#[41]⟩ from rfl]
      rw [← ByteArray.append_assoc]
      exact n11 n c i hi ad s0 s1 s2 s3 x4 x5 x6 x7 x8 w a f2 13 2 (by decide) (by unfold wrap64; decide) rfl rfl rfl rfl rfl _ _ rfl (by decide) sa (Lib.hid ta) (Lib.hid (fun W => DRJoin.rkids_calls 13 W)) hR
    · obtain ⟨a, rfl, ha⟩ := K1 rfl
      have sa := hbig a (by omega)
      have ka := kindof a ha
      have ta := told a ha
      rw [show head 14 = ⟨#[40, 63, 33]⟩ from rfl, show body L (shwf L f) ⟨14, (a : Nat), f2, ⟨⟨s0, s1, s2, s3⟩⟩, x4, x5, x6, x7, x8⟩ = shwf L f (a : Nat) ++ ⟨#[41]⟩ from rfl]
      rw [← ByteArray.append_assoc]
      exact n11 n c i hi ad s0 s1 s2 s3 x4 x5 x6 x7 x8 w a f2 14 3 (by decide) (by unfold wrap64; decide) rfl rfl rfl rfl rfl _ _ rfl (by decide) sa (Lib.hid ta) (Lib.hid (fun W => DRJoin.rkids_calls 14 W)) hR
    · obtain ⟨a, rfl, ha⟩ := K1 rfl
      have sa := hbig a (by omega)
      have ka := kindof a ha
      have ta := told a ha
      rw [show head 15 = ⟨#[40, 63, 60, 61]⟩ from rfl, show body L (shwf L f) ⟨15, (a : Nat), f2, ⟨⟨s0, s1, s2, s3⟩⟩, x4, x5, x6, x7, x8⟩ = shwf L f (a : Nat) ++ ⟨#[41]⟩ from rfl]
      rw [← ByteArray.append_assoc]
      exact n11 n c i hi ad s0 s1 s2 s3 x4 x5 x6 x7 x8 w a f2 15 4 (by decide) (by unfold wrap64; decide) rfl rfl rfl rfl rfl _ _ rfl (by decide) sa (Lib.hid ta) (Lib.hid (fun W => DRJoin.rkids_calls 15 W)) hR
    · obtain ⟨a, rfl, ha⟩ := K1 rfl
      have sa := hbig a (by omega)
      have ka := kindof a ha
      have ta := told a ha
      rw [show head 16 = ⟨#[40, 63, 60, 33]⟩ from rfl, show body L (shwf L f) ⟨16, (a : Nat), f2, ⟨⟨s0, s1, s2, s3⟩⟩, x4, x5, x6, x7, x8⟩ = shwf L f (a : Nat) ++ ⟨#[41]⟩ from rfl]
      rw [← ByteArray.append_assoc]
      exact n11 n c i hi ad s0 s1 s2 s3 x4 x5 x6 x7 x8 w a f2 16 5 (by decide) (by unfold wrap64; decide) rfl rfl rfl rfl rfl _ _ rfl (by decide) sa (Lib.hid ta) (Lib.hid (fun W => DRJoin.rkids_calls 16 W)) hR
    · obtain ⟨a, rfl, ha⟩ := K1 rfl
      have sa := hbig a (by omega)
      have ka := kindof a ha
      have ta := told a ha
      rw [show head 17 = ⟨#[40, 63, 62]⟩ from rfl, show body L (shwf L f) ⟨17, (a : Nat), f2, ⟨⟨s0, s1, s2, s3⟩⟩, x4, x5, x6, x7, x8⟩ = shwf L f (a : Nat) ++ ⟨#[41]⟩ from rfl]
      rw [← ByteArray.append_assoc]
      exact n11 n c i hi ad s0 s1 s2 s3 x4 x5 x6 x7 x8 w a f2 17 6 (by decide) (by unfold wrap64; decide) rfl rfl rfl rfl rfl _ _ rfl (by decide) sa (Lib.hid ta) (Lib.hid (fun W => DRJoin.rkids_calls 17 W)) hR
end
set_option maxHeartbeats 6400000 in
theorem rtree_calls (L : List S49) (n : Nat) (A : Option Addr) (c : Nat) (hn : L.length = n) (hn2 : n ≤ 500) (hc : n ≤ c) (hok : ∀ i, i < n → OkN (rd_T49 L (i : Nat))) (s : ByteArray) (hs : shows L = s) (w : World) (hC : Kd.C k46 w A n (L.map od)) :
    Calls Tryz.prog 6 #[.slice A n c] w fun e w' => e = .returned (.string s) ∧ Below w.heap.size w w' := by
  have KR := rright_calls A c L n hn hn2 hc w hC
  by_cases h : rgt L = 0
  · have ho := rgt_ord h
    have hp := ord_pos ho
    have hw := fun i (hi : i < n) => ord_wf ho i (by omega)
    have h12 := fun i (hi : i < n) => rgt_back h i (by omega)
    obtain ⟨m, hm⟩ : ∃ m, n - 1 = m := ⟨_, rfl⟩
    have hw1 : wrap64 ((n : Int) - 1) = (m : Int) := by unfold wrap64; omega
    have KN := Lib.hid (fun W (hb : Below w.heap.size w W) => rnode_all (c := c) hn (by omega) hw hok h12 n m (by omega) (by omega) W (Kd.C_below hC hb))
    have e : shwf L n (m : Nat) = s := by
      rw [← hs]
      unfold shows
      rw [if_pos h, hn, hm]
    rw [e] at KN
    rw [h] at KR
    obtain ⟨I, hI⟩ : ∃ I : Int, (m : Int) = I := ⟨_, rfl⟩
    rw [hI] at KN hw1
    replace KR := Lib.hid KR
    clear hw hm hp ho h hs hC hok hn e hI hn2 h12 hc
    go_enter Tryz.func6, Tryz.ntmps6
    go_wp2_with fail
    refine KR.out.mono ?_
    rintro e w2 ⟨rfl, hb⟩
    have HB2 := Lib.hid hb
    clear hb
    go_wp2_with fail
    refine (KN.out _ HB2.out).mono ?_
    rintro e w3 ⟨rfl, hb⟩
    have HB3 := Lib.hid (below_step HB2.out hb)
    clear hb
    go_wp2
    go_ret
    exact ⟨rfl, HB3.out⟩
  · have hne : (rgt L != 0) = true := by simpa using h
    have e : s = ⟨#[]⟩ := by rw [← hs]; unfold shows; rw [if_neg h]
    subst e
    replace KR := Lib.hid KR
    generalize rgt L = r at *
    clear hs hC hok hn h
    go_enter Tryz.func6, Tryz.ntmps6
    go_wp2_with fail
    refine KR.out.mono ?_
    rintro e w2 ⟨rfl, hb⟩
    have HB2 := Lib.hid hb
    clear hb
    go_wp2
    go_ret
    exact ⟨rfl, HB2.out⟩
end Go.Proofs.YtaaihcojedibeaaGreatDoor.RAll
end
section
/- The program's tables, from the row's condition: their cells; and the start in which the door lays them. -/
namespace Go.Proofs.YtaaihcojedibeaaGreatDoor.HLaid
set_option maxRecDepth 100000
open Go.ChangeShapes Go.WideShapes Go.ChangeAt Go.RowKit Go.Lib

abbrev laidL : List (String × DataW Unit) := [("math/bits.deBruijn32tab", Rows.laid_math_bits_deBruijn32tab), ("math/bits.deBruijn64tab", Rows.laid_math_bits_deBruijn64tab), ("internal/strconv.uint64pow10", Rows.laid_internal_strconv_uint64pow10)]
theorem gPow : Tryz.prog.globalNamed "internal/strconv.uint64pow10" = some 0 := by kernel_rfl
theorem tPow : (Tryz.prog.globals[0]?).map (·.type) = some 131 := by kernel_rfl
theorem tab_of_laid {W : World} (h : laidMetH Tryz.prog laidL W) : SKinds.Tab W := by
  rw [MakeChecks.laidMetH_plain _ _ _ (by kernel_rfl)] at h
  have h2 := HTail.laid_tail (HTail.laid_tail h)
  exact ⟨Lib.tabIs_of_head gPow tPow Tryz.underlying131 Tryz.underlying25 (by kernel_rfl) (by kernel_rfl) h2⟩
theorem door_met (os : Os) (args : Array Value) : laidMetH Tryz.prog laidL ((World.doorLaid Tryz.prog 14 os).forCall (fun _ _ => 0) ⟨#[], args, []⟩).memory :=
  laidMetH_of_parts3 (fuel := 8) (laidMet_of_run' 8 (by kernel_rfl) (by kernel_rfl)) (by kernel_rfl) (by kernel_rfl)
end Go.Proofs.YtaaihcojedibeaaGreatDoor.HLaid
end
