/- AstOrder: two trees that are right, without groups, not too deep: joined in either order they are right and as long. -/
import Derived.Test.YtjeoiebdchlilaaZ2
import Derived.Test.YtjeoiebdchlilaaZ1
import Derived.Test.YtjeoiebdchlilaaDAlgB
import Derived.Test.YtjeoiebdchlilaaDForkK
import Derived.Test.YtjeoiebdchlilaaDOrdP
namespace Go.Proofs.Ytjeoiebdchlilaa.LAstOrder
open Go.RowKit CMem DRow DDeep DSizes DFits DLens DSpec DGrp DCon DOdd DRowN DWrap DJoin DGrouped DRight DRJoin DRFits DRef DRefB DCut DTree DKit DFix DFixed DArg DAlg DAlgB DForkK DOrdP Q Go.Proofs.YtjeoiebdchlilaaW.PrintWords Go.Proofs.YtjeoiebdchlilaaW.PrintLast Go.Proofs.YtjeoiebdchlilaaW.PrintMore
set_option linter.unusedVariables false
set_option linter.unusedSimpArgs false
set_option maxRecDepth 100000
abbrev t_ : Bool := true
abbrev f_ : Bool := false
theorem sa_ {α : Type} (l : List α) (i : Nat) (a : α) : l.toArray.setIfInBounds i a = (l.set i a).toArray := List.setIfInBounds_toArray _ _ _
theorem sz_ {α : Type} (x : α) (l : List α) (a : α) : (x :: l).set 0 a = a :: l := rfl
theorem ss_ {α : Type} (x : α) (l : List α) (i : Nat) (a : α) : (x :: l).set (i + 1) a = x :: l.set i a := rfl
set_option maxHeartbeats 12800000 in
theorem walk (za zb : TreeArg) (w : World) (hza : TreeIn w za) (hzb : TreeIn w zb) :
    Calls Try.prog 9 #[.agg #[.slice za.A za.n za.c], .agg #[.slice zb.A zb.n zb.c]] w fun e w' => e = .returned (.bool true) ∧ Below w.heap.size w w' := by
  obtain ⟨Aa, n, cA, LA⟩ := za
  obtain ⟨Ab, m, cB, LB⟩ := zb
  obtain ⟨h1a, hlea, hcapa, hCa⟩ := hza
  obtain ⟨h1b, hleb, hcapb, hCb⟩ := hzb
  simp only [] at h1a hlea hcapa hCa h1b hleb hcapb hCb ⊢
  obtain ⟨k, hka⟩ : ∃ k, k = min n 60 := ⟨_, rfl⟩
  obtain ⟨q, hkb⟩ : ∃ k, k = min m 60 := ⟨_, rfl⟩
  obtain ⟨La, hLa⟩ : ∃ l, LA.take k = l := ⟨_, rfl⟩
  obtain ⟨Lb, hLb⟩ : ∃ l, LB.take q = l := ⟨_, rfl⟩
  have hna : La.length = k := by rw [← hLa, List.length_take]; omega
  have hnb : Lb.length = q := by rw [← hLb, List.length_take]; omega
  have hk5 : k ≤ 60 := by omega
  have hq5 : q ≤ 60 := by omega
  have hk6 := Lib.hid (show k ≤ 500 by omega)
  have hq6 := Lib.hid (show q ≤ 500 by omega)
  have HCa := Lib.hid (fun W (hb : Below w.heap.size w W) => (hLa ▸ C_take (Kd.C_below (w1 := W) hCa hb) (show k ≤ n by omega) : Kd.C k43 W Aa k La))
  have HCb := Lib.hid (fun W (hb : Below w.heap.size w W) => (hLb ▸ C_take (Kd.C_below (w1 := W) hCb hb) (show q ≤ m by omega) : Kd.C k43 W Ab q Lb))
  obtain ⟨x, hx⟩ : ∃ r, dep La = r := ⟨_, rfl⟩
  obtain ⟨y, hy⟩ : ∃ r, dep Lb = r := ⟨_, rfl⟩
  have HX := Lib.hid hx
  have HY := Lib.hid hy
  have HK := Lib.hid (And.intro hk5 hq5)
  clear hx hy hCa hCb hLa hLb hk5 hq5 h1a h1b
  replace hka := Lib.hid hka
  replace hkb := Lib.hid hkb
  replace hlea := Lib.hid hlea
  replace hleb := Lib.hid hleb
  replace hcapa := Lib.hid hcapa
  replace hcapb := Lib.hid hcapb
  replace hna := Lib.hid hna
  replace hnb := Lib.hid hnb
  have Q0_0 := Lib.hid (blk_alloc (heap_alloc_new w (.cells #[.slice Aa n cA] 24)) (.cells #[.slice Ab m cB] 24))
  have Q1_0 := Lib.hid (blk2 w (.cells #[.slice Aa n cA] 24) #[.slice Ab m cB] 24)
  have HB_0 := Lib.hid (below2 w (.cells #[.slice Aa n cA] 24) (.cells #[.slice Ab m cB] 24))
  have M0_0 := blk_cell Q0_0.out 0 (.slice Aa n cA) rfl
  have M1_0 := blk_cell Q1_0.out 0 (.slice Ab m cB) rfl
  go_enter Try.func9, Try.ntmps9
  go_wp2_with fail
  generalize hW : (w.alloc (.cells #[.slice Aa n cA] 24)).alloc (.cells #[.slice Ab m cB] 24) = v0 at *
  clear hW
  refine (cut_calls Aa cA n k 60 hka.out hlea.out hcapa.out (by decide) _).mono ?_
  -- cut
  rintro e w1 ⟨⟨ca, rfl, hca⟩, hb⟩
  have R_ := below_blk hb Q0_0.out
  have q_ := blk_cell R_ 0 (.slice Aa n cA) rfl
  have f_ := blk_free R_ 0
  have Q0_1 := Lib.hid (set_blk (i := 0) R_ (.slice Aa k ca))
  have Q1_1 := Lib.hid (set_other (c := w.heap.size) (i := 0) (v := (.slice Aa k ca)) (below_blk hb Q1_0.out) (by omega))
  have HB_1 := Lib.hid (CMem.below_set (b := w.heap.size) (i := 0) (below_step HB_0.out hb) (by omega) (.slice Aa k ca))
  have HHa := Lib.hid hca
  clear hb R_ hca HB_0 Q0_0 Q1_0 M0_0 M1_0
  have M0_1 := blk_cell Q0_1.out 0 (.slice Aa k ca) rfl
  have M1_1 := blk_cell Q1_1.out 0 (.slice Ab m cB) rfl
  go_wp2_with fail
  generalize hW : w1.setCell ⟨w.heap.size, 0, none⟩ (.slice Aa k ca) = v1 at *
  clear hW q_ f_
  refine (cut_calls Ab cB m q 60 hkb.out hleb.out hcapb.out (by decide) _).mono ?_
  -- cut
  rintro e w2 ⟨⟨cb, rfl, hcb⟩, hb⟩
  have Q0_2 := Lib.hid (set_other (c := w.heap.size + 1) (i := 0) (v := (.slice Ab q cb)) (below_blk hb Q0_1.out) (by omega))
  have R_ := below_blk hb Q1_1.out
  have q_ := blk_cell R_ 0 (.slice Ab m cB) rfl
  have f_ := blk_free R_ 0
  have Q1_2 := Lib.hid (set_blk (i := 0) R_ (.slice Ab q cb))
  have HB_2 := Lib.hid (CMem.below_set (b := w.heap.size + 1) (i := 0) (below_step HB_1.out hb) (by omega) (.slice Ab q cb))
  have HHb := Lib.hid hcb
  clear hb R_ hcb HB_1 Q0_1 Q1_1 M0_1 M1_1
  have M1_2 := blk_cell Q1_2.out 0 (.slice Ab q cb) rfl
  have M0_2 := blk_cell Q0_2.out 0 (.slice Aa k ca) rfl
  go_wp2_with fail
  generalize hW : w2.setCell ⟨w.heap.size + 1, 0, none⟩ (.slice Ab q cb) = v2 at *
  clear hW q_ f_
  have Ba_2 := Q0_2
  have La_2 := M0_2
  clear Q0_2 M0_2
  have Bb_2 := Q1_2
  have Lb_2 := M1_2
  clear Q1_2 M1_2
  obtain ⟨RA, hRA⟩ : ∃ r, rgt La = r := ⟨_, rfl⟩
  obtain ⟨RB, hRB⟩ : ∃ r, rgt Lb = r := ⟨_, rfl⟩
  obtain ⟨ga, hga⟩ : ∃ r, grn La = r := ⟨_, rfl⟩
  obtain ⟨gb, hgb⟩ : ∃ r, grn Lb = r := ⟨_, rfl⟩
  obtain ⟨z, hz1⟩ : ∃ z, max x y = z := ⟨_, rfl⟩
  have hz2 : (if x < y then y else x) = z := by rw [← hz1]; split <;> omega
  have hg9 : wrap64 (ga + gb) = ga + gb := by
    have hgA := grn_rng La
    have hgB := grn_rng Lb
    have := HK.out
    have := hna.out
    have := hnb.out
    unfold wrap64
    omega
  obtain ⟨gs, hgs⟩ : ∃ r, ga + gb = r := ⟨_, rfl⟩
  have hg1 : wrap64 (ga + gb) = gs := by rw [hg9, hgs]
  clear hg9
  replace hgs := Lib.hid hgs
  replace hga := Lib.hid hga
  replace hgb := Lib.hid hgb
  replace hRA := Lib.hid hRA
  replace hRB := Lib.hid hRB
  have hZ := Lib.hid (Below.refl v2.heap.size v2)
  have fin (w5 : World) (hb : Below w.heap.size w w5) : Calls Try.prog 20 #[] w5 fun e w' => e = .returned (.bool true) ∧ Below w.heap.size w w' :=
    (fixed_calls w5).mono fun e w' hh => ⟨hh.1, below_step hb hh.2⟩
  rcases Decidable.em (¬ RA = 0) with hr0 | hr0
  · have hrA : (RA != 0) = true := by simpa using hr0
    refine start_ (n := 24) (S := fun w' => w'.cell? ⟨w.heap.size, 0, none⟩ = some (.slice Aa k ca) ∧ w'.cell? ⟨w.heap.size + 1, 0, none⟩ = some (.slice Ab q cb) ∧ Below v2.heap.size v2 w') (ds := []) #[f_, f_, f_, f_, f_, f_, f_, f_, f_, f_, f_, f_, f_, f_, f_, f_, f_, f_, f_, f_, f_, f_, f_, f_] (by kernel_rfl) rfl rfl ⟨La_2, Lb_2, hZ.out.drew⟩ (fun hHeld => ?_)
    refine take_ (i := 0) (N := some 17) (v := ?_) (a' := ?_) #[t_, f_, f_, f_, f_, f_, f_, f_, f_, f_, f_, f_, f_, f_, f_, f_, f_, f_, f_, f_, f_, f_, f_, f_] rfl rfl (by kernel_rfl) (fun _ _ _ h => h) (Or.inl ⟨by rfl, ?_⟩) hHeld ?_ ?_
    rotate_left
    · rintro w' ⟨s0, s1, s2⟩
      go_simp
      with_reducible rfl
    rotate_left
    · simp only [Act.put, sa_, sz_, ss_, i64_w, i32_w]
      rfl
    refine one_ (i := 1) (N := some 18) #[t_, t_, f_, f_, f_, f_, f_, f_, f_, f_, f_, f_, f_, f_, f_, f_, f_, f_, f_, f_, f_, f_, f_, f_] rfl rfl (by kernel_rfl) (by decide) (fun K hK => ?_)
    refine goes_ Try.func14 (by kernel_rfl) rfl #[.agg #[.slice Aa k ca]] (by rfl) rfl rfl (by simp only [List.map_toArray, List.map_cons, List.map_nil]; rfl) ?_
    with_reducible refine (right_tree Aa ca La k RA hna.out hk6.out hRA.out _ (HCa.out _ (below_step HB_2.out hHeld.2.2))).mono ?_
    rintro e w3 ⟨rfl, hbq0⟩
    refine ⟨_, rfl, ?_⟩
    refine hK.out _ _ ⟨(below_of hbq0 hHeld.1), (below_of hbq0 hHeld.2.1), (below_step hHeld.2.2 hbq0)⟩ (fun hHeld => ?_)
    clear hK K
    refine norm_ (a' := ?_) ?_ ?_
    rotate_left
    · show Act.put _ (some 18) _ = _
      simp only [Act.put, sa_, sz_, ss_, i64_w, i32_w]
      rfl
    refine pure_ (i := 2) (N := some 19) (v := ?_) (a' := ?_) #[t_, t_, t_, f_, f_, f_, f_, f_, f_, f_, f_, f_, f_, f_, f_, f_, f_, f_, f_, f_, f_, f_, f_, f_] rfl rfl (by kernel_rfl) (fun _ _ _ h => h) (Or.inl ⟨by rfl, ?_⟩) ?_ ?_
    rotate_left
    · intro w'
      go_simp
      with_reducible rfl
    rotate_left
    · simp only [Act.put, sa_, sz_, ss_, i64_w, i32_w]
      rfl
    refine pure_ (i := 3) (N := some 20) (v := ?_) (a' := ?_) #[t_, t_, t_, t_, f_, f_, f_, f_, f_, f_, f_, f_, f_, f_, f_, f_, f_, f_, f_, f_, f_, f_, f_, f_] rfl rfl (by kernel_rfl) (fun _ _ _ h => h) (Or.inl ⟨by rfl, ?_⟩) ?_ ?_
    rotate_left
    · intro w'
      go_simp
      with_reducible rfl
    rotate_left
    · simp only [Act.put, sa_, sz_, ss_, i64_w, i32_w]
      rfl
    refine pure_ (i := 4) (N := some 21) (v := undef) (a' := ?_) #[t_, t_, t_, t_, t_, f_, f_, f_, f_, f_, f_, f_, f_, f_, f_, f_, f_, f_, f_, f_, f_, f_, f_, f_] rfl rfl (by kernel_rfl) (fun _ _ _ h => h) (Or.inr ⟨by rfl, rfl⟩) ?_ ?_
    rotate_left
    · simp only [Act.put, sa_, sz_, ss_, i64_w, i32_w]
      rfl
    refine pure_ (i := 5) (N := some 22) (v := undef) (a' := ?_) #[t_, t_, t_, t_, t_, t_, f_, f_, f_, f_, f_, f_, f_, f_, f_, f_, f_, f_, f_, f_, f_, f_, f_, f_] rfl rfl (by kernel_rfl) (fun _ _ _ h => h) (Or.inr ⟨by rfl, rfl⟩) ?_ ?_
    rotate_left
    · simp only [Act.put, sa_, sz_, ss_, i64_w, i32_w]
      rfl
    refine pure_ (i := 6) (N := some 23) (v := undef) (a' := ?_) #[t_, t_, t_, t_, t_, t_, t_, f_, f_, f_, f_, f_, f_, f_, f_, f_, f_, f_, f_, f_, f_, f_, f_, f_] rfl rfl (by kernel_rfl) (fun _ _ _ h => h) (Or.inr ⟨by rfl, rfl⟩) ?_ ?_
    rotate_left
    · simp only [Act.put, sa_, sz_, ss_, i64_w, i32_w]
      rfl
    refine pure_ (i := 7) (N := some 24) (v := ?_) (a' := ?_) #[t_, t_, t_, t_, t_, t_, t_, t_, f_, f_, f_, f_, f_, f_, f_, f_, f_, f_, f_, f_, f_, f_, f_, f_] rfl rfl (by kernel_rfl) (fun _ _ _ h => h) (Or.inl ⟨by rfl, ?_⟩) ?_ ?_
    rotate_left
    · intro w'
      go_simp
      with_reducible rfl
    rotate_left
    · simp only [Act.put, sa_, sz_, ss_, i64_w, i32_w]
      rfl
    refine pure_ (i := 8) (N := some 25) (v := ?_) (a' := ?_) #[t_, t_, t_, t_, t_, t_, t_, t_, t_, f_, f_, f_, f_, f_, f_, f_, f_, f_, f_, f_, f_, f_, f_, f_] rfl rfl (by kernel_rfl) (fun _ _ _ h => h) (Or.inl ⟨by rfl, ?_⟩) ?_ ?_
    rotate_left
    · intro w'
      go_simp
      with_reducible rfl
    rotate_left
    · simp only [Act.put, sa_, sz_, ss_, i64_w, i32_w]
      rfl
    refine pure_ (i := 9) (N := some 26) (v := undef) (a' := ?_) #[t_, t_, t_, t_, t_, t_, t_, t_, t_, t_, f_, f_, f_, f_, f_, f_, f_, f_, f_, f_, f_, f_, f_, f_] rfl rfl (by kernel_rfl) (fun _ _ _ h => h) (Or.inr ⟨by rfl, rfl⟩) ?_ ?_
    rotate_left
    · simp only [Act.put, sa_, sz_, ss_, i64_w, i32_w]
      rfl
    refine pure_ (i := 10) (N := some 27) (v := undef) (a' := ?_) #[t_, t_, t_, t_, t_, t_, t_, t_, t_, t_, t_, f_, f_, f_, f_, f_, f_, f_, f_, f_, f_, f_, f_, f_] rfl rfl (by kernel_rfl) (fun _ _ _ h => h) (Or.inr ⟨by rfl, rfl⟩) ?_ ?_
    rotate_left
    · simp only [Act.put, sa_, sz_, ss_, i64_w, i32_w]
      rfl
    refine pure_ (i := 11) (N := some 28) (v := undef) (a' := ?_) #[t_, t_, t_, t_, t_, t_, t_, t_, t_, t_, t_, t_, f_, f_, f_, f_, f_, f_, f_, f_, f_, f_, f_, f_] rfl rfl (by kernel_rfl) (fun _ _ _ h => h) (Or.inr ⟨by rfl, rfl⟩) ?_ ?_
    rotate_left
    · simp only [Act.put, sa_, sz_, ss_, i64_w, i32_w]
      rfl
    refine pure_ (i := 12) (N := some 29) (v := undef) (a' := ?_) #[t_, t_, t_, t_, t_, t_, t_, t_, t_, t_, t_, t_, t_, f_, f_, f_, f_, f_, f_, f_, f_, f_, f_, f_] rfl rfl (by kernel_rfl) (fun _ _ _ h => h) (Or.inr ⟨by rfl, rfl⟩) ?_ ?_
    rotate_left
    · simp only [Act.put, sa_, sz_, ss_, i64_w, i32_w]
      rfl
    refine pure_ (i := 13) (N := some 30) (v := undef) (a' := ?_) #[t_, t_, t_, t_, t_, t_, t_, t_, t_, t_, t_, t_, t_, t_, f_, f_, f_, f_, f_, f_, f_, f_, f_, f_] rfl rfl (by kernel_rfl) (fun _ _ _ h => h) (Or.inr ⟨by rfl, rfl⟩) ?_ ?_
    rotate_left
    · simp only [Act.put, sa_, sz_, ss_, i64_w, i32_w]
      rfl
    refine pure_ (i := 14) (N := some 31) (v := undef) (a' := ?_) #[t_, t_, t_, t_, t_, t_, t_, t_, t_, t_, t_, t_, t_, t_, t_, f_, f_, f_, f_, f_, f_, f_, f_, f_] rfl rfl (by kernel_rfl) (fun _ _ _ h => h) (Or.inr ⟨by rfl, rfl⟩) ?_ ?_
    rotate_left
    · simp only [Act.put, sa_, sz_, ss_, i64_w, i32_w]
      rfl
    refine pure_ (i := 15) (N := some 32) (v := ?_) (a' := ?_) #[t_, t_, t_, t_, t_, t_, t_, t_, t_, t_, t_, t_, t_, t_, t_, t_, f_, f_, f_, f_, f_, f_, f_, f_] rfl rfl (by kernel_rfl) (fun _ _ _ h => h) (Or.inl ⟨by rfl, ?_⟩) ?_ ?_
    rotate_left
    · intro w'
      go_simp
      with_reducible rfl
    rotate_left
    · simp only [Act.put, sa_, sz_, ss_, i64_w, i32_w]
      rfl
    refine pure_ (i := 16) (N := some 33) (v := ?_) (a' := ?_) #[t_, t_, t_, t_, t_, t_, t_, t_, t_, t_, t_, t_, t_, t_, t_, t_, t_, f_, f_, f_, f_, f_, f_, f_] rfl rfl (by kernel_rfl) (fun _ _ _ h => h) (Or.inl ⟨by rfl, ?_⟩) ?_ ?_
    rotate_left
    · intro w'
      go_simp
      with_reducible rfl
    rotate_left
    · simp only [Act.put, sa_, sz_, ss_, i64_w, i32_w]
      rfl
    refine pure_ (i := 17) (N := some 34) (v := undef) (a' := ?_) #[t_, t_, t_, t_, t_, t_, t_, t_, t_, t_, t_, t_, t_, t_, t_, t_, t_, t_, f_, f_, f_, f_, f_, f_] rfl rfl (by kernel_rfl) (fun _ _ _ h => h) (Or.inr ⟨by rfl, rfl⟩) ?_ ?_
    rotate_left
    · simp only [Act.put, sa_, sz_, ss_, i64_w, i32_w]
      rfl
    refine pure_ (i := 18) (N := some 35) (v := undef) (a' := ?_) #[t_, t_, t_, t_, t_, t_, t_, t_, t_, t_, t_, t_, t_, t_, t_, t_, t_, t_, t_, f_, f_, f_, f_, f_] rfl rfl (by kernel_rfl) (fun _ _ _ h => h) (Or.inr ⟨by rfl, rfl⟩) ?_ ?_
    rotate_left
    · simp only [Act.put, sa_, sz_, ss_, i64_w, i32_w]
      rfl
    refine pure_ (i := 19) (N := some 36) (v := undef) (a' := ?_) #[t_, t_, t_, t_, t_, t_, t_, t_, t_, t_, t_, t_, t_, t_, t_, t_, t_, t_, t_, t_, f_, f_, f_, f_] rfl rfl (by kernel_rfl) (fun _ _ _ h => h) (Or.inr ⟨by rfl, rfl⟩) ?_ ?_
    rotate_left
    · simp only [Act.put, sa_, sz_, ss_, i64_w, i32_w]
      rfl
    refine pure_ (i := 20) (N := some 37) (v := undef) (a' := ?_) #[t_, t_, t_, t_, t_, t_, t_, t_, t_, t_, t_, t_, t_, t_, t_, t_, t_, t_, t_, t_, t_, f_, f_, f_] rfl rfl (by kernel_rfl) (fun _ _ _ h => h) (Or.inr ⟨by rfl, rfl⟩) ?_ ?_
    rotate_left
    · simp only [Act.put, sa_, sz_, ss_, i64_w, i32_w]
      rfl
    refine pure_ (i := 21) (N := some 38) (v := undef) (a' := ?_) #[t_, t_, t_, t_, t_, t_, t_, t_, t_, t_, t_, t_, t_, t_, t_, t_, t_, t_, t_, t_, t_, t_, f_, f_] rfl rfl (by kernel_rfl) (fun _ _ _ h => h) (Or.inr ⟨by rfl, rfl⟩) ?_ ?_
    rotate_left
    · simp only [Act.put, sa_, sz_, ss_, i64_w, i32_w]
      rfl
    refine pure_ (i := 22) (N := some 39) (v := undef) (a' := ?_) #[t_, t_, t_, t_, t_, t_, t_, t_, t_, t_, t_, t_, t_, t_, t_, t_, t_, t_, t_, t_, t_, t_, t_, f_] rfl rfl (by kernel_rfl) (fun _ _ _ h => h) (Or.inr ⟨by rfl, rfl⟩) ?_ ?_
    rotate_left
    · simp only [Act.put, sa_, sz_, ss_, i64_w, i32_w]
      rfl
    refine pure_ (i := 23) (N := some 40) (v := ?_) (a' := ?_) #[t_, t_, t_, t_, t_, t_, t_, t_, t_, t_, t_, t_, t_, t_, t_, t_, t_, t_, t_, t_, t_, t_, t_, t_] rfl rfl (by kernel_rfl) (fun _ _ _ h => h) (Or.inl ⟨by rfl, ?_⟩) ?_ ?_
    rotate_left
    · intro w'
      go_simp
      with_reducible rfl
    rotate_left
    · simp only [Act.put, sa_, sz_, ss_, i64_w, i32_w]
      rfl
    refine done_ (by kernel_rfl) ?_
    have hb := below_step HB_2.out (below_step hZ.out.drew hbq0)
    clear hHeld hbq0
    go_wp2_with fail
    refine (fixed_calls _).mono ?_
    rintro e w4 ⟨rfl, hb4⟩
    go_wp2
    go_ret
    exact ⟨rfl, below_step hb hb4⟩
  replace hr0 := Decidable.not_not.1 hr0
  subst hr0
  rcases Decidable.em (¬ RB = 0) with hr0 | hr0
  · have hrB : (RB != 0) = true := by simpa using hr0
    refine start_ (n := 24) (S := fun w' => w'.cell? ⟨w.heap.size, 0, none⟩ = some (.slice Aa k ca) ∧ w'.cell? ⟨w.heap.size + 1, 0, none⟩ = some (.slice Ab q cb) ∧ Below v2.heap.size v2 w') (ds := []) #[f_, f_, f_, f_, f_, f_, f_, f_, f_, f_, f_, f_, f_, f_, f_, f_, f_, f_, f_, f_, f_, f_, f_, f_] (by kernel_rfl) rfl rfl ⟨La_2, Lb_2, hZ.out.drew⟩ (fun hHeld => ?_)
    refine take_ (i := 0) (N := some 17) (v := ?_) (a' := ?_) #[t_, f_, f_, f_, f_, f_, f_, f_, f_, f_, f_, f_, f_, f_, f_, f_, f_, f_, f_, f_, f_, f_, f_, f_] rfl rfl (by kernel_rfl) (fun _ _ _ h => h) (Or.inl ⟨by rfl, ?_⟩) hHeld ?_ ?_
    rotate_left
    · rintro w' ⟨s0, s1, s2⟩
      go_simp
      with_reducible rfl
    rotate_left
    · simp only [Act.put, sa_, sz_, ss_, i64_w, i32_w]
      rfl
    refine one_ (i := 1) (N := some 18) #[t_, t_, f_, f_, f_, f_, f_, f_, f_, f_, f_, f_, f_, f_, f_, f_, f_, f_, f_, f_, f_, f_, f_, f_] rfl rfl (by kernel_rfl) (by decide) (fun K hK => ?_)
    refine goes_ Try.func14 (by kernel_rfl) rfl #[.agg #[.slice Aa k ca]] (by rfl) rfl rfl (by simp only [List.map_toArray, List.map_cons, List.map_nil]; rfl) ?_
    with_reducible refine (right_tree Aa ca La k 0 hna.out hk6.out hRA.out _ (HCa.out _ (below_step HB_2.out hHeld.2.2))).mono ?_
    rintro e x0 ⟨rfl, hbq0⟩
    refine ⟨_, rfl, ?_⟩
    refine hK.out _ _ ⟨(below_of hbq0 hHeld.1), (below_of hbq0 hHeld.2.1), (below_step hHeld.2.2 hbq0)⟩ (fun hHeld => ?_)
    clear hK K
    refine norm_ (a' := ?_) ?_ ?_
    rotate_left
    · show Act.put _ (some 18) _ = _
      simp only [Act.put, sa_, sz_, ss_, i64_w, i32_w]
      rfl
    refine pure_ (i := 2) (N := some 19) (v := ?_) (a' := ?_) #[t_, t_, t_, f_, f_, f_, f_, f_, f_, f_, f_, f_, f_, f_, f_, f_, f_, f_, f_, f_, f_, f_, f_, f_] rfl rfl (by kernel_rfl) (fun _ _ _ h => h) (Or.inl ⟨by rfl, ?_⟩) ?_ ?_
    rotate_left
    · intro w'
      go_simp
      with_reducible rfl
    rotate_left
    · simp only [Act.put, sa_, sz_, ss_, i64_w, i32_w]
      rfl
    refine pure_ (i := 3) (N := some 20) (v := ?_) (a' := ?_) #[t_, t_, t_, t_, f_, f_, f_, f_, f_, f_, f_, f_, f_, f_, f_, f_, f_, f_, f_, f_, f_, f_, f_, f_] rfl rfl (by kernel_rfl) (fun _ _ _ h => h) (Or.inl ⟨by rfl, ?_⟩) ?_ ?_
    rotate_left
    · intro w'
      go_simp
      with_reducible rfl
    rotate_left
    · simp only [Act.put, sa_, sz_, ss_, i64_w, i32_w]
      rfl
    refine take_ (i := 4) (N := some 21) (v := ?_) (a' := ?_) #[t_, t_, t_, t_, t_, f_, f_, f_, f_, f_, f_, f_, f_, f_, f_, f_, f_, f_, f_, f_, f_, f_, f_, f_] rfl rfl (by kernel_rfl) (fun _ _ _ h => h) (Or.inl ⟨by rfl, ?_⟩) hHeld ?_ ?_
    rotate_left
    · rintro w' ⟨s0, s1, s2⟩
      go_simp
      with_reducible rfl
    rotate_left
    · simp only [Act.put, sa_, sz_, ss_, i64_w, i32_w]
      rfl
    refine one_ (i := 5) (N := some 22) #[t_, t_, t_, t_, t_, t_, f_, f_, f_, f_, f_, f_, f_, f_, f_, f_, f_, f_, f_, f_, f_, f_, f_, f_] rfl rfl (by kernel_rfl) (by decide) (fun K hK => ?_)
    refine goes_ Try.func14 (by kernel_rfl) rfl #[.agg #[.slice Ab q cb]] (by rfl) rfl rfl (by simp only [List.map_toArray, List.map_cons, List.map_nil]; rfl) ?_
    with_reducible refine (right_tree Ab cb Lb q RB hnb.out hq6.out hRB.out _ (HCb.out _ (below_step HB_2.out hHeld.2.2))).mono ?_
    rintro e w3 ⟨rfl, hbq1⟩
    refine ⟨_, rfl, ?_⟩
    refine hK.out _ _ ⟨(below_of hbq1 hHeld.1), (below_of hbq1 hHeld.2.1), (below_step hHeld.2.2 hbq1)⟩ (fun hHeld => ?_)
    clear hK K
    refine norm_ (a' := ?_) ?_ ?_
    rotate_left
    · show Act.put _ (some 22) _ = _
      simp only [Act.put, sa_, sz_, ss_, i64_w, i32_w]
      rfl
    refine pure_ (i := 6) (N := some 23) (v := ?_) (a' := ?_) #[t_, t_, t_, t_, t_, t_, t_, f_, f_, f_, f_, f_, f_, f_, f_, f_, f_, f_, f_, f_, f_, f_, f_, f_] rfl rfl (by kernel_rfl) (fun _ _ _ h => h) (Or.inl ⟨by rfl, ?_⟩) ?_ ?_
    rotate_left
    · intro w'
      go_simp
      with_reducible rfl
    rotate_left
    · simp only [Act.put, sa_, sz_, ss_, i64_w, i32_w]
      rfl
    refine pure_ (i := 7) (N := some 24) (v := ?_) (a' := ?_) #[t_, t_, t_, t_, t_, t_, t_, t_, f_, f_, f_, f_, f_, f_, f_, f_, f_, f_, f_, f_, f_, f_, f_, f_] rfl rfl (by kernel_rfl) (fun _ _ _ h => h) (Or.inl ⟨by rfl, ?_⟩) ?_ ?_
    rotate_left
    · intro w'
      go_simp
      with_reducible rfl
    rotate_left
    · simp only [Act.put, sa_, sz_, ss_, i64_w, i32_w]
      rfl
    refine pure_ (i := 8) (N := some 25) (v := ?_) (a' := ?_) #[t_, t_, t_, t_, t_, t_, t_, t_, t_, f_, f_, f_, f_, f_, f_, f_, f_, f_, f_, f_, f_, f_, f_, f_] rfl rfl (by kernel_rfl) (fun _ _ _ h => h) (Or.inl ⟨by rfl, ?_⟩) ?_ ?_
    rotate_left
    · intro w'
      go_simp
      with_reducible rfl
    rotate_left
    · simp only [Act.put, sa_, sz_, ss_, i64_w, i32_w]
      rfl
    refine pure_ (i := 9) (N := some 26) (v := undef) (a' := ?_) #[t_, t_, t_, t_, t_, t_, t_, t_, t_, t_, f_, f_, f_, f_, f_, f_, f_, f_, f_, f_, f_, f_, f_, f_] rfl rfl (by kernel_rfl) (fun _ _ _ h => h) (Or.inr ⟨by rfl, rfl⟩) ?_ ?_
    rotate_left
    · simp only [Act.put, sa_, sz_, ss_, i64_w, i32_w]
      rfl
    refine pure_ (i := 10) (N := some 27) (v := undef) (a' := ?_) #[t_, t_, t_, t_, t_, t_, t_, t_, t_, t_, t_, f_, f_, f_, f_, f_, f_, f_, f_, f_, f_, f_, f_, f_] rfl rfl (by kernel_rfl) (fun _ _ _ h => h) (Or.inr ⟨by rfl, rfl⟩) ?_ ?_
    rotate_left
    · simp only [Act.put, sa_, sz_, ss_, i64_w, i32_w]
      rfl
    refine pure_ (i := 11) (N := some 28) (v := undef) (a' := ?_) #[t_, t_, t_, t_, t_, t_, t_, t_, t_, t_, t_, t_, f_, f_, f_, f_, f_, f_, f_, f_, f_, f_, f_, f_] rfl rfl (by kernel_rfl) (fun _ _ _ h => h) (Or.inr ⟨by rfl, rfl⟩) ?_ ?_
    rotate_left
    · simp only [Act.put, sa_, sz_, ss_, i64_w, i32_w]
      rfl
    refine pure_ (i := 12) (N := some 29) (v := undef) (a' := ?_) #[t_, t_, t_, t_, t_, t_, t_, t_, t_, t_, t_, t_, t_, f_, f_, f_, f_, f_, f_, f_, f_, f_, f_, f_] rfl rfl (by kernel_rfl) (fun _ _ _ h => h) (Or.inr ⟨by rfl, rfl⟩) ?_ ?_
    rotate_left
    · simp only [Act.put, sa_, sz_, ss_, i64_w, i32_w]
      rfl
    refine pure_ (i := 13) (N := some 30) (v := undef) (a' := ?_) #[t_, t_, t_, t_, t_, t_, t_, t_, t_, t_, t_, t_, t_, t_, f_, f_, f_, f_, f_, f_, f_, f_, f_, f_] rfl rfl (by kernel_rfl) (fun _ _ _ h => h) (Or.inr ⟨by rfl, rfl⟩) ?_ ?_
    rotate_left
    · simp only [Act.put, sa_, sz_, ss_, i64_w, i32_w]
      rfl
    refine pure_ (i := 14) (N := some 31) (v := undef) (a' := ?_) #[t_, t_, t_, t_, t_, t_, t_, t_, t_, t_, t_, t_, t_, t_, t_, f_, f_, f_, f_, f_, f_, f_, f_, f_] rfl rfl (by kernel_rfl) (fun _ _ _ h => h) (Or.inr ⟨by rfl, rfl⟩) ?_ ?_
    rotate_left
    · simp only [Act.put, sa_, sz_, ss_, i64_w, i32_w]
      rfl
    refine pure_ (i := 15) (N := some 32) (v := ?_) (a' := ?_) #[t_, t_, t_, t_, t_, t_, t_, t_, t_, t_, t_, t_, t_, t_, t_, t_, f_, f_, f_, f_, f_, f_, f_, f_] rfl rfl (by kernel_rfl) (fun _ _ _ h => h) (Or.inl ⟨by rfl, ?_⟩) ?_ ?_
    rotate_left
    · intro w'
      go_simp
      with_reducible rfl
    rotate_left
    · simp only [Act.put, sa_, sz_, ss_, i64_w, i32_w]
      rfl
    refine pure_ (i := 16) (N := some 33) (v := ?_) (a' := ?_) #[t_, t_, t_, t_, t_, t_, t_, t_, t_, t_, t_, t_, t_, t_, t_, t_, t_, f_, f_, f_, f_, f_, f_, f_] rfl rfl (by kernel_rfl) (fun _ _ _ h => h) (Or.inl ⟨by rfl, ?_⟩) ?_ ?_
    rotate_left
    · intro w'
      go_simp
      with_reducible rfl
    rotate_left
    · simp only [Act.put, sa_, sz_, ss_, i64_w, i32_w]
      rfl
    refine pure_ (i := 17) (N := some 34) (v := undef) (a' := ?_) #[t_, t_, t_, t_, t_, t_, t_, t_, t_, t_, t_, t_, t_, t_, t_, t_, t_, t_, f_, f_, f_, f_, f_, f_] rfl rfl (by kernel_rfl) (fun _ _ _ h => h) (Or.inr ⟨by rfl, rfl⟩) ?_ ?_
    rotate_left
    · simp only [Act.put, sa_, sz_, ss_, i64_w, i32_w]
      rfl
    refine pure_ (i := 18) (N := some 35) (v := undef) (a' := ?_) #[t_, t_, t_, t_, t_, t_, t_, t_, t_, t_, t_, t_, t_, t_, t_, t_, t_, t_, t_, f_, f_, f_, f_, f_] rfl rfl (by kernel_rfl) (fun _ _ _ h => h) (Or.inr ⟨by rfl, rfl⟩) ?_ ?_
    rotate_left
    · simp only [Act.put, sa_, sz_, ss_, i64_w, i32_w]
      rfl
    refine pure_ (i := 19) (N := some 36) (v := undef) (a' := ?_) #[t_, t_, t_, t_, t_, t_, t_, t_, t_, t_, t_, t_, t_, t_, t_, t_, t_, t_, t_, t_, f_, f_, f_, f_] rfl rfl (by kernel_rfl) (fun _ _ _ h => h) (Or.inr ⟨by rfl, rfl⟩) ?_ ?_
    rotate_left
    · simp only [Act.put, sa_, sz_, ss_, i64_w, i32_w]
      rfl
    refine pure_ (i := 20) (N := some 37) (v := undef) (a' := ?_) #[t_, t_, t_, t_, t_, t_, t_, t_, t_, t_, t_, t_, t_, t_, t_, t_, t_, t_, t_, t_, t_, f_, f_, f_] rfl rfl (by kernel_rfl) (fun _ _ _ h => h) (Or.inr ⟨by rfl, rfl⟩) ?_ ?_
    rotate_left
    · simp only [Act.put, sa_, sz_, ss_, i64_w, i32_w]
      rfl
    refine pure_ (i := 21) (N := some 38) (v := undef) (a' := ?_) #[t_, t_, t_, t_, t_, t_, t_, t_, t_, t_, t_, t_, t_, t_, t_, t_, t_, t_, t_, t_, t_, t_, f_, f_] rfl rfl (by kernel_rfl) (fun _ _ _ h => h) (Or.inr ⟨by rfl, rfl⟩) ?_ ?_
    rotate_left
    · simp only [Act.put, sa_, sz_, ss_, i64_w, i32_w]
      rfl
    refine pure_ (i := 22) (N := some 39) (v := undef) (a' := ?_) #[t_, t_, t_, t_, t_, t_, t_, t_, t_, t_, t_, t_, t_, t_, t_, t_, t_, t_, t_, t_, t_, t_, t_, f_] rfl rfl (by kernel_rfl) (fun _ _ _ h => h) (Or.inr ⟨by rfl, rfl⟩) ?_ ?_
    rotate_left
    · simp only [Act.put, sa_, sz_, ss_, i64_w, i32_w]
      rfl
    refine pure_ (i := 23) (N := some 40) (v := ?_) (a' := ?_) #[t_, t_, t_, t_, t_, t_, t_, t_, t_, t_, t_, t_, t_, t_, t_, t_, t_, t_, t_, t_, t_, t_, t_, t_] rfl rfl (by kernel_rfl) (fun _ _ _ h => h) (Or.inl ⟨by rfl, ?_⟩) ?_ ?_
    rotate_left
    · intro w'
      go_simp
      with_reducible rfl
    rotate_left
    · simp only [Act.put, sa_, sz_, ss_, i64_w, i32_w]
      rfl
    refine done_ (by kernel_rfl) ?_
    have hb := below_step HB_2.out (below_step (below_step hZ.out.drew hbq0) hbq1)
    clear hHeld hbq0 hbq1
    go_wp2_with fail
    refine (fixed_calls _).mono ?_
    rintro e w4 ⟨rfl, hb4⟩
    go_wp2
    go_ret
    exact ⟨rfl, below_step hb hb4⟩
  replace hr0 := Decidable.not_not.1 hr0
  subst hr0
  rcases Decidable.em (0 < gs) with hg0 | hg0
  · have hgt : decide (0 < gs) = true := by simpa using hg0
    refine start_ (n := 24) (S := fun w' => w'.cell? ⟨w.heap.size, 0, none⟩ = some (.slice Aa k ca) ∧ w'.cell? ⟨w.heap.size + 1, 0, none⟩ = some (.slice Ab q cb) ∧ Below v2.heap.size v2 w') (ds := []) #[f_, f_, f_, f_, f_, f_, f_, f_, f_, f_, f_, f_, f_, f_, f_, f_, f_, f_, f_, f_, f_, f_, f_, f_] (by kernel_rfl) rfl rfl ⟨La_2, Lb_2, hZ.out.drew⟩ (fun hHeld => ?_)
    refine take_ (i := 0) (N := some 17) (v := ?_) (a' := ?_) #[t_, f_, f_, f_, f_, f_, f_, f_, f_, f_, f_, f_, f_, f_, f_, f_, f_, f_, f_, f_, f_, f_, f_, f_] rfl rfl (by kernel_rfl) (fun _ _ _ h => h) (Or.inl ⟨by rfl, ?_⟩) hHeld ?_ ?_
    rotate_left
    · rintro w' ⟨s0, s1, s2⟩
      go_simp
      with_reducible rfl
    rotate_left
    · simp only [Act.put, sa_, sz_, ss_, i64_w, i32_w]
      rfl
    refine one_ (i := 1) (N := some 18) #[t_, t_, f_, f_, f_, f_, f_, f_, f_, f_, f_, f_, f_, f_, f_, f_, f_, f_, f_, f_, f_, f_, f_, f_] rfl rfl (by kernel_rfl) (by decide) (fun K hK => ?_)
    refine goes_ Try.func14 (by kernel_rfl) rfl #[.agg #[.slice Aa k ca]] (by rfl) rfl rfl (by simp only [List.map_toArray, List.map_cons, List.map_nil]; rfl) ?_
    with_reducible refine (right_tree Aa ca La k 0 hna.out hk6.out hRA.out _ (HCa.out _ (below_step HB_2.out hHeld.2.2))).mono ?_
    rintro e x0 ⟨rfl, hbq0⟩
    refine ⟨_, rfl, ?_⟩
    refine hK.out _ _ ⟨(below_of hbq0 hHeld.1), (below_of hbq0 hHeld.2.1), (below_step hHeld.2.2 hbq0)⟩ (fun hHeld => ?_)
    clear hK K
    refine norm_ (a' := ?_) ?_ ?_
    rotate_left
    · show Act.put _ (some 18) _ = _
      simp only [Act.put, sa_, sz_, ss_, i64_w, i32_w]
      rfl
    refine pure_ (i := 2) (N := some 19) (v := ?_) (a' := ?_) #[t_, t_, t_, f_, f_, f_, f_, f_, f_, f_, f_, f_, f_, f_, f_, f_, f_, f_, f_, f_, f_, f_, f_, f_] rfl rfl (by kernel_rfl) (fun _ _ _ h => h) (Or.inl ⟨by rfl, ?_⟩) ?_ ?_
    rotate_left
    · intro w'
      go_simp
      with_reducible rfl
    rotate_left
    · simp only [Act.put, sa_, sz_, ss_, i64_w, i32_w]
      rfl
    refine pure_ (i := 3) (N := some 20) (v := ?_) (a' := ?_) #[t_, t_, t_, t_, f_, f_, f_, f_, f_, f_, f_, f_, f_, f_, f_, f_, f_, f_, f_, f_, f_, f_, f_, f_] rfl rfl (by kernel_rfl) (fun _ _ _ h => h) (Or.inl ⟨by rfl, ?_⟩) ?_ ?_
    rotate_left
    · intro w'
      go_simp
      with_reducible rfl
    rotate_left
    · simp only [Act.put, sa_, sz_, ss_, i64_w, i32_w]
      rfl
    refine take_ (i := 4) (N := some 21) (v := ?_) (a' := ?_) #[t_, t_, t_, t_, t_, f_, f_, f_, f_, f_, f_, f_, f_, f_, f_, f_, f_, f_, f_, f_, f_, f_, f_, f_] rfl rfl (by kernel_rfl) (fun _ _ _ h => h) (Or.inl ⟨by rfl, ?_⟩) hHeld ?_ ?_
    rotate_left
    · rintro w' ⟨s0, s1, s2⟩
      go_simp
      with_reducible rfl
    rotate_left
    · simp only [Act.put, sa_, sz_, ss_, i64_w, i32_w]
      rfl
    refine one_ (i := 5) (N := some 22) #[t_, t_, t_, t_, t_, t_, f_, f_, f_, f_, f_, f_, f_, f_, f_, f_, f_, f_, f_, f_, f_, f_, f_, f_] rfl rfl (by kernel_rfl) (by decide) (fun K hK => ?_)
    refine goes_ Try.func14 (by kernel_rfl) rfl #[.agg #[.slice Ab q cb]] (by rfl) rfl rfl (by simp only [List.map_toArray, List.map_cons, List.map_nil]; rfl) ?_
    with_reducible refine (right_tree Ab cb Lb q 0 hnb.out hq6.out hRB.out _ (HCb.out _ (below_step HB_2.out hHeld.2.2))).mono ?_
    rintro e x1 ⟨rfl, hbq1⟩
    refine ⟨_, rfl, ?_⟩
    refine hK.out _ _ ⟨(below_of hbq1 hHeld.1), (below_of hbq1 hHeld.2.1), (below_step hHeld.2.2 hbq1)⟩ (fun hHeld => ?_)
    clear hK K
    refine norm_ (a' := ?_) ?_ ?_
    rotate_left
    · show Act.put _ (some 22) _ = _
      simp only [Act.put, sa_, sz_, ss_, i64_w, i32_w]
      rfl
    refine pure_ (i := 6) (N := some 23) (v := ?_) (a' := ?_) #[t_, t_, t_, t_, t_, t_, t_, f_, f_, f_, f_, f_, f_, f_, f_, f_, f_, f_, f_, f_, f_, f_, f_, f_] rfl rfl (by kernel_rfl) (fun _ _ _ h => h) (Or.inl ⟨by rfl, ?_⟩) ?_ ?_
    rotate_left
    · intro w'
      go_simp
      with_reducible rfl
    rotate_left
    · simp only [Act.put, sa_, sz_, ss_, i64_w, i32_w]
      rfl
    refine pure_ (i := 7) (N := some 24) (v := ?_) (a' := ?_) #[t_, t_, t_, t_, t_, t_, t_, t_, f_, f_, f_, f_, f_, f_, f_, f_, f_, f_, f_, f_, f_, f_, f_, f_] rfl rfl (by kernel_rfl) (fun _ _ _ h => h) (Or.inl ⟨by rfl, ?_⟩) ?_ ?_
    rotate_left
    · intro w'
      go_simp
      with_reducible rfl
    rotate_left
    · simp only [Act.put, sa_, sz_, ss_, i64_w, i32_w]
      rfl
    refine pure_ (i := 8) (N := some 25) (v := ?_) (a' := ?_) #[t_, t_, t_, t_, t_, t_, t_, t_, t_, f_, f_, f_, f_, f_, f_, f_, f_, f_, f_, f_, f_, f_, f_, f_] rfl rfl (by kernel_rfl) (fun _ _ _ h => h) (Or.inl ⟨by rfl, ?_⟩) ?_ ?_
    rotate_left
    · intro w'
      go_simp
      with_reducible rfl
    rotate_left
    · simp only [Act.put, sa_, sz_, ss_, i64_w, i32_w]
      rfl
    refine take_ (i := 9) (N := some 26) (v := ?_) (a' := ?_) #[t_, t_, t_, t_, t_, t_, t_, t_, t_, t_, f_, f_, f_, f_, f_, f_, f_, f_, f_, f_, f_, f_, f_, f_] rfl rfl (by kernel_rfl) (fun _ _ _ h => h) (Or.inl ⟨by rfl, ?_⟩) hHeld ?_ ?_
    rotate_left
    · rintro w' ⟨s0, s1, s2⟩
      go_simp
      with_reducible rfl
    rotate_left
    · simp only [Act.put, sa_, sz_, ss_, i64_w, i32_w]
      rfl
    refine take_ (i := 11) (N := some 28) (v := ?_) (a' := ?_) #[t_, t_, t_, t_, t_, t_, t_, t_, t_, t_, f_, t_, f_, f_, f_, f_, f_, f_, f_, f_, f_, f_, f_, f_] rfl rfl (by kernel_rfl) (fun _ _ _ h => h) (Or.inl ⟨by rfl, ?_⟩) hHeld ?_ ?_
    rotate_left
    · rintro w' ⟨s0, s1, s2⟩
      go_simp
      with_reducible rfl
    rotate_left
    · simp only [Act.put, sa_, sz_, ss_, i64_w, i32_w]
      rfl
    refine one_ (i := 10) (N := some 27) #[t_, t_, t_, t_, t_, t_, t_, t_, t_, t_, t_, t_, f_, f_, f_, f_, f_, f_, f_, f_, f_, f_, f_, f_] rfl rfl (by kernel_rfl) (by decide) (fun K hK => ?_)
    refine goes_ Try.func18 (by kernel_rfl) rfl #[.agg #[.slice Aa k ca]] (by rfl) rfl rfl (by simp only [List.map_toArray, List.map_cons, List.map_nil]; rfl) ?_
    with_reducible refine (groups_tree Aa ca La k ga hna.out hk6.out HHa.out hga.out _ (HCa.out _ (below_step HB_2.out hHeld.2.2))).mono ?_
    rintro e x2 ⟨rfl, hbq2⟩
    refine ⟨_, rfl, ?_⟩
    refine hK.out _ _ ⟨(below_of hbq2 hHeld.1), (below_of hbq2 hHeld.2.1), (below_step hHeld.2.2 hbq2)⟩ (fun hHeld => ?_)
    clear hK K
    refine norm_ (a' := ?_) ?_ ?_
    rotate_left
    · show Act.put _ (some 27) _ = _
      simp only [Act.put, sa_, sz_, ss_, i64_w, i32_w]
      rfl
    refine one_ (i := 12) (N := some 29) #[t_, t_, t_, t_, t_, t_, t_, t_, t_, t_, t_, t_, t_, f_, f_, f_, f_, f_, f_, f_, f_, f_, f_, f_] rfl rfl (by kernel_rfl) (by decide) (fun K hK => ?_)
    refine goes_ Try.func18 (by kernel_rfl) rfl #[.agg #[.slice Ab q cb]] (by rfl) rfl rfl (by simp only [List.map_toArray, List.map_cons, List.map_nil]; rfl) ?_
    with_reducible refine (groups_tree Ab cb Lb q gb hnb.out hq6.out HHb.out hgb.out _ (HCb.out _ (below_step HB_2.out hHeld.2.2))).mono ?_
    rintro e w3 ⟨rfl, hbq3⟩
    refine ⟨_, rfl, ?_⟩
    refine hK.out _ _ ⟨(below_of hbq3 hHeld.1), (below_of hbq3 hHeld.2.1), (below_step hHeld.2.2 hbq3)⟩ (fun hHeld => ?_)
    clear hK K
    refine norm_ (a' := ?_) ?_ ?_
    rotate_left
    · show Act.put _ (some 29) _ = _
      simp only [Act.put, sa_, sz_, ss_, i64_w, i32_w]
      rfl
    refine pure_ (i := 13) (N := some 30) (v := ?_) (a' := ?_) #[t_, t_, t_, t_, t_, t_, t_, t_, t_, t_, t_, t_, t_, t_, f_, f_, f_, f_, f_, f_, f_, f_, f_, f_] rfl rfl (by kernel_rfl) (fun _ _ _ h => h) (Or.inl ⟨by rfl, ?_⟩) ?_ ?_
    rotate_left
    · intro w'
      go_simp
      with_reducible rfl
    rotate_left
    · simp only [Act.put, sa_, sz_, ss_, i64_w, i32_w]
      rfl
    refine pure_ (i := 14) (N := some 31) (v := ?_) (a' := ?_) #[t_, t_, t_, t_, t_, t_, t_, t_, t_, t_, t_, t_, t_, t_, t_, f_, f_, f_, f_, f_, f_, f_, f_, f_] rfl rfl (by kernel_rfl) (fun _ _ _ h => h) (Or.inl ⟨by rfl, ?_⟩) ?_ ?_
    rotate_left
    · intro w'
      go_simp
      with_reducible rfl
    rotate_left
    · simp only [Act.put, sa_, sz_, ss_, i64_w, i32_w]
      rfl
    refine pure_ (i := 15) (N := some 32) (v := ?_) (a' := ?_) #[t_, t_, t_, t_, t_, t_, t_, t_, t_, t_, t_, t_, t_, t_, t_, t_, f_, f_, f_, f_, f_, f_, f_, f_] rfl rfl (by kernel_rfl) (fun _ _ _ h => h) (Or.inl ⟨by rfl, ?_⟩) ?_ ?_
    rotate_left
    · intro w'
      go_simp
      with_reducible rfl
    rotate_left
    · simp only [Act.put, sa_, sz_, ss_, i64_w, i32_w]
      rfl
    refine pure_ (i := 16) (N := some 33) (v := ?_) (a' := ?_) #[t_, t_, t_, t_, t_, t_, t_, t_, t_, t_, t_, t_, t_, t_, t_, t_, t_, f_, f_, f_, f_, f_, f_, f_] rfl rfl (by kernel_rfl) (fun _ _ _ h => h) (Or.inl ⟨by rfl, ?_⟩) ?_ ?_
    rotate_left
    · intro w'
      go_simp
      with_reducible rfl
    rotate_left
    · simp only [Act.put, sa_, sz_, ss_, i64_w, i32_w]
      rfl
    refine pure_ (i := 17) (N := some 34) (v := undef) (a' := ?_) #[t_, t_, t_, t_, t_, t_, t_, t_, t_, t_, t_, t_, t_, t_, t_, t_, t_, t_, f_, f_, f_, f_, f_, f_] rfl rfl (by kernel_rfl) (fun _ _ _ h => h) (Or.inr ⟨by rfl, rfl⟩) ?_ ?_
    rotate_left
    · simp only [Act.put, sa_, sz_, ss_, i64_w, i32_w]
      rfl
    refine pure_ (i := 18) (N := some 35) (v := undef) (a' := ?_) #[t_, t_, t_, t_, t_, t_, t_, t_, t_, t_, t_, t_, t_, t_, t_, t_, t_, t_, t_, f_, f_, f_, f_, f_] rfl rfl (by kernel_rfl) (fun _ _ _ h => h) (Or.inr ⟨by rfl, rfl⟩) ?_ ?_
    rotate_left
    · simp only [Act.put, sa_, sz_, ss_, i64_w, i32_w]
      rfl
    refine pure_ (i := 19) (N := some 36) (v := undef) (a' := ?_) #[t_, t_, t_, t_, t_, t_, t_, t_, t_, t_, t_, t_, t_, t_, t_, t_, t_, t_, t_, t_, f_, f_, f_, f_] rfl rfl (by kernel_rfl) (fun _ _ _ h => h) (Or.inr ⟨by rfl, rfl⟩) ?_ ?_
    rotate_left
    · simp only [Act.put, sa_, sz_, ss_, i64_w, i32_w]
      rfl
    refine pure_ (i := 20) (N := some 37) (v := undef) (a' := ?_) #[t_, t_, t_, t_, t_, t_, t_, t_, t_, t_, t_, t_, t_, t_, t_, t_, t_, t_, t_, t_, t_, f_, f_, f_] rfl rfl (by kernel_rfl) (fun _ _ _ h => h) (Or.inr ⟨by rfl, rfl⟩) ?_ ?_
    rotate_left
    · simp only [Act.put, sa_, sz_, ss_, i64_w, i32_w]
      rfl
    refine pure_ (i := 21) (N := some 38) (v := undef) (a' := ?_) #[t_, t_, t_, t_, t_, t_, t_, t_, t_, t_, t_, t_, t_, t_, t_, t_, t_, t_, t_, t_, t_, t_, f_, f_] rfl rfl (by kernel_rfl) (fun _ _ _ h => h) (Or.inr ⟨by rfl, rfl⟩) ?_ ?_
    rotate_left
    · simp only [Act.put, sa_, sz_, ss_, i64_w, i32_w]
      rfl
    refine pure_ (i := 22) (N := some 39) (v := undef) (a' := ?_) #[t_, t_, t_, t_, t_, t_, t_, t_, t_, t_, t_, t_, t_, t_, t_, t_, t_, t_, t_, t_, t_, t_, t_, f_] rfl rfl (by kernel_rfl) (fun _ _ _ h => h) (Or.inr ⟨by rfl, rfl⟩) ?_ ?_
    rotate_left
    · simp only [Act.put, sa_, sz_, ss_, i64_w, i32_w]
      rfl
    refine pure_ (i := 23) (N := some 40) (v := ?_) (a' := ?_) #[t_, t_, t_, t_, t_, t_, t_, t_, t_, t_, t_, t_, t_, t_, t_, t_, t_, t_, t_, t_, t_, t_, t_, t_] rfl rfl (by kernel_rfl) (fun _ _ _ h => h) (Or.inl ⟨by rfl, ?_⟩) ?_ ?_
    rotate_left
    · intro w'
      go_simp
      with_reducible rfl
    rotate_left
    · simp only [Act.put, sa_, sz_, ss_, i64_w, i32_w]
      rfl
    refine done_ (by kernel_rfl) ?_
    have hb := below_step HB_2.out (below_step (below_step (below_step (below_step hZ.out.drew hbq0) hbq1) hbq2) hbq3)
    clear hHeld hbq0 hbq1 hbq2 hbq3
    go_wp2_with fail
    refine (fixed_calls _).mono ?_
    rintro e w4 ⟨rfl, hb4⟩
    go_wp2
    go_ret
    exact ⟨rfl, below_step hb hb4⟩
  have hgt : decide (0 < gs) = false := by simpa using hg0
  rcases Decidable.em (40 ≤ z) with hz4 | hz4
  · have hzt : decide (40 ≤ z) = true := by simpa using hz4
    refine start_ (n := 24) (S := fun w' => w'.cell? ⟨w.heap.size, 0, none⟩ = some (.slice Aa k ca) ∧ w'.cell? ⟨w.heap.size + 1, 0, none⟩ = some (.slice Ab q cb) ∧ Below v2.heap.size v2 w') (ds := []) #[f_, f_, f_, f_, f_, f_, f_, f_, f_, f_, f_, f_, f_, f_, f_, f_, f_, f_, f_, f_, f_, f_, f_, f_] (by kernel_rfl) rfl rfl ⟨La_2, Lb_2, hZ.out.drew⟩ (fun hHeld => ?_)
    refine take_ (i := 0) (N := some 17) (v := ?_) (a' := ?_) #[t_, f_, f_, f_, f_, f_, f_, f_, f_, f_, f_, f_, f_, f_, f_, f_, f_, f_, f_, f_, f_, f_, f_, f_] rfl rfl (by kernel_rfl) (fun _ _ _ h => h) (Or.inl ⟨by rfl, ?_⟩) hHeld ?_ ?_
    rotate_left
    · rintro w' ⟨s0, s1, s2⟩
      go_simp
      with_reducible rfl
    rotate_left
    · simp only [Act.put, sa_, sz_, ss_, i64_w, i32_w]
      rfl
    refine one_ (i := 1) (N := some 18) #[t_, t_, f_, f_, f_, f_, f_, f_, f_, f_, f_, f_, f_, f_, f_, f_, f_, f_, f_, f_, f_, f_, f_, f_] rfl rfl (by kernel_rfl) (by decide) (fun K hK => ?_)
    refine goes_ Try.func14 (by kernel_rfl) rfl #[.agg #[.slice Aa k ca]] (by rfl) rfl rfl (by simp only [List.map_toArray, List.map_cons, List.map_nil]; rfl) ?_
    with_reducible refine (right_tree Aa ca La k 0 hna.out hk6.out hRA.out _ (HCa.out _ (below_step HB_2.out hHeld.2.2))).mono ?_
    rintro e x0 ⟨rfl, hbq0⟩
    refine ⟨_, rfl, ?_⟩
    refine hK.out _ _ ⟨(below_of hbq0 hHeld.1), (below_of hbq0 hHeld.2.1), (below_step hHeld.2.2 hbq0)⟩ (fun hHeld => ?_)
    clear hK K
    refine norm_ (a' := ?_) ?_ ?_
    rotate_left
    · show Act.put _ (some 18) _ = _
      simp only [Act.put, sa_, sz_, ss_, i64_w, i32_w]
      rfl
    refine pure_ (i := 2) (N := some 19) (v := ?_) (a' := ?_) #[t_, t_, t_, f_, f_, f_, f_, f_, f_, f_, f_, f_, f_, f_, f_, f_, f_, f_, f_, f_, f_, f_, f_, f_] rfl rfl (by kernel_rfl) (fun _ _ _ h => h) (Or.inl ⟨by rfl, ?_⟩) ?_ ?_
    rotate_left
    · intro w'
      go_simp
      with_reducible rfl
    rotate_left
    · simp only [Act.put, sa_, sz_, ss_, i64_w, i32_w]
      rfl
    refine pure_ (i := 3) (N := some 20) (v := ?_) (a' := ?_) #[t_, t_, t_, t_, f_, f_, f_, f_, f_, f_, f_, f_, f_, f_, f_, f_, f_, f_, f_, f_, f_, f_, f_, f_] rfl rfl (by kernel_rfl) (fun _ _ _ h => h) (Or.inl ⟨by rfl, ?_⟩) ?_ ?_
    rotate_left
    · intro w'
      go_simp
      with_reducible rfl
    rotate_left
    · simp only [Act.put, sa_, sz_, ss_, i64_w, i32_w]
      rfl
    refine take_ (i := 4) (N := some 21) (v := ?_) (a' := ?_) #[t_, t_, t_, t_, t_, f_, f_, f_, f_, f_, f_, f_, f_, f_, f_, f_, f_, f_, f_, f_, f_, f_, f_, f_] rfl rfl (by kernel_rfl) (fun _ _ _ h => h) (Or.inl ⟨by rfl, ?_⟩) hHeld ?_ ?_
    rotate_left
    · rintro w' ⟨s0, s1, s2⟩
      go_simp
      with_reducible rfl
    rotate_left
    · simp only [Act.put, sa_, sz_, ss_, i64_w, i32_w]
      rfl
    refine one_ (i := 5) (N := some 22) #[t_, t_, t_, t_, t_, t_, f_, f_, f_, f_, f_, f_, f_, f_, f_, f_, f_, f_, f_, f_, f_, f_, f_, f_] rfl rfl (by kernel_rfl) (by decide) (fun K hK => ?_)
    refine goes_ Try.func14 (by kernel_rfl) rfl #[.agg #[.slice Ab q cb]] (by rfl) rfl rfl (by simp only [List.map_toArray, List.map_cons, List.map_nil]; rfl) ?_
    with_reducible refine (right_tree Ab cb Lb q 0 hnb.out hq6.out hRB.out _ (HCb.out _ (below_step HB_2.out hHeld.2.2))).mono ?_
    rintro e x1 ⟨rfl, hbq1⟩
    refine ⟨_, rfl, ?_⟩
    refine hK.out _ _ ⟨(below_of hbq1 hHeld.1), (below_of hbq1 hHeld.2.1), (below_step hHeld.2.2 hbq1)⟩ (fun hHeld => ?_)
    clear hK K
    refine norm_ (a' := ?_) ?_ ?_
    rotate_left
    · show Act.put _ (some 22) _ = _
      simp only [Act.put, sa_, sz_, ss_, i64_w, i32_w]
      rfl
    refine pure_ (i := 6) (N := some 23) (v := ?_) (a' := ?_) #[t_, t_, t_, t_, t_, t_, t_, f_, f_, f_, f_, f_, f_, f_, f_, f_, f_, f_, f_, f_, f_, f_, f_, f_] rfl rfl (by kernel_rfl) (fun _ _ _ h => h) (Or.inl ⟨by rfl, ?_⟩) ?_ ?_
    rotate_left
    · intro w'
      go_simp
      with_reducible rfl
    rotate_left
    · simp only [Act.put, sa_, sz_, ss_, i64_w, i32_w]
      rfl
    refine pure_ (i := 7) (N := some 24) (v := ?_) (a' := ?_) #[t_, t_, t_, t_, t_, t_, t_, t_, f_, f_, f_, f_, f_, f_, f_, f_, f_, f_, f_, f_, f_, f_, f_, f_] rfl rfl (by kernel_rfl) (fun _ _ _ h => h) (Or.inl ⟨by rfl, ?_⟩) ?_ ?_
    rotate_left
    · intro w'
      go_simp
      with_reducible rfl
    rotate_left
    · simp only [Act.put, sa_, sz_, ss_, i64_w, i32_w]
      rfl
    refine pure_ (i := 8) (N := some 25) (v := ?_) (a' := ?_) #[t_, t_, t_, t_, t_, t_, t_, t_, t_, f_, f_, f_, f_, f_, f_, f_, f_, f_, f_, f_, f_, f_, f_, f_] rfl rfl (by kernel_rfl) (fun _ _ _ h => h) (Or.inl ⟨by rfl, ?_⟩) ?_ ?_
    rotate_left
    · intro w'
      go_simp
      with_reducible rfl
    rotate_left
    · simp only [Act.put, sa_, sz_, ss_, i64_w, i32_w]
      rfl
    refine take_ (i := 9) (N := some 26) (v := ?_) (a' := ?_) #[t_, t_, t_, t_, t_, t_, t_, t_, t_, t_, f_, f_, f_, f_, f_, f_, f_, f_, f_, f_, f_, f_, f_, f_] rfl rfl (by kernel_rfl) (fun _ _ _ h => h) (Or.inl ⟨by rfl, ?_⟩) hHeld ?_ ?_
    rotate_left
    · rintro w' ⟨s0, s1, s2⟩
      go_simp
      with_reducible rfl
    rotate_left
    · simp only [Act.put, sa_, sz_, ss_, i64_w, i32_w]
      rfl
    refine take_ (i := 11) (N := some 28) (v := ?_) (a' := ?_) #[t_, t_, t_, t_, t_, t_, t_, t_, t_, t_, f_, t_, f_, f_, f_, f_, f_, f_, f_, f_, f_, f_, f_, f_] rfl rfl (by kernel_rfl) (fun _ _ _ h => h) (Or.inl ⟨by rfl, ?_⟩) hHeld ?_ ?_
    rotate_left
    · rintro w' ⟨s0, s1, s2⟩
      go_simp
      with_reducible rfl
    rotate_left
    · simp only [Act.put, sa_, sz_, ss_, i64_w, i32_w]
      rfl
    refine one_ (i := 10) (N := some 27) #[t_, t_, t_, t_, t_, t_, t_, t_, t_, t_, t_, t_, f_, f_, f_, f_, f_, f_, f_, f_, f_, f_, f_, f_] rfl rfl (by kernel_rfl) (by decide) (fun K hK => ?_)
    refine goes_ Try.func18 (by kernel_rfl) rfl #[.agg #[.slice Aa k ca]] (by rfl) rfl rfl (by simp only [List.map_toArray, List.map_cons, List.map_nil]; rfl) ?_
    with_reducible refine (groups_tree Aa ca La k ga hna.out hk6.out HHa.out hga.out _ (HCa.out _ (below_step HB_2.out hHeld.2.2))).mono ?_
    rintro e x2 ⟨rfl, hbq2⟩
    refine ⟨_, rfl, ?_⟩
    refine hK.out _ _ ⟨(below_of hbq2 hHeld.1), (below_of hbq2 hHeld.2.1), (below_step hHeld.2.2 hbq2)⟩ (fun hHeld => ?_)
    clear hK K
    refine norm_ (a' := ?_) ?_ ?_
    rotate_left
    · show Act.put _ (some 27) _ = _
      simp only [Act.put, sa_, sz_, ss_, i64_w, i32_w]
      rfl
    refine one_ (i := 12) (N := some 29) #[t_, t_, t_, t_, t_, t_, t_, t_, t_, t_, t_, t_, t_, f_, f_, f_, f_, f_, f_, f_, f_, f_, f_, f_] rfl rfl (by kernel_rfl) (by decide) (fun K hK => ?_)
    refine goes_ Try.func18 (by kernel_rfl) rfl #[.agg #[.slice Ab q cb]] (by rfl) rfl rfl (by simp only [List.map_toArray, List.map_cons, List.map_nil]; rfl) ?_
    with_reducible refine (groups_tree Ab cb Lb q gb hnb.out hq6.out HHb.out hgb.out _ (HCb.out _ (below_step HB_2.out hHeld.2.2))).mono ?_
    rintro e x3 ⟨rfl, hbq3⟩
    refine ⟨_, rfl, ?_⟩
    refine hK.out _ _ ⟨(below_of hbq3 hHeld.1), (below_of hbq3 hHeld.2.1), (below_step hHeld.2.2 hbq3)⟩ (fun hHeld => ?_)
    clear hK K
    refine norm_ (a' := ?_) ?_ ?_
    rotate_left
    · show Act.put _ (some 29) _ = _
      simp only [Act.put, sa_, sz_, ss_, i64_w, i32_w]
      rfl
    refine pure_ (i := 13) (N := some 30) (v := ?_) (a' := ?_) #[t_, t_, t_, t_, t_, t_, t_, t_, t_, t_, t_, t_, t_, t_, f_, f_, f_, f_, f_, f_, f_, f_, f_, f_] rfl rfl (by kernel_rfl) (fun _ _ _ h => h) (Or.inl ⟨by rfl, ?_⟩) ?_ ?_
    rotate_left
    · intro w'
      go_simp
      with_reducible rfl
    rotate_left
    · simp only [Act.put, sa_, sz_, ss_, i64_w, i32_w]
      rfl
    refine pure_ (i := 14) (N := some 31) (v := ?_) (a' := ?_) #[t_, t_, t_, t_, t_, t_, t_, t_, t_, t_, t_, t_, t_, t_, t_, f_, f_, f_, f_, f_, f_, f_, f_, f_] rfl rfl (by kernel_rfl) (fun _ _ _ h => h) (Or.inl ⟨by rfl, ?_⟩) ?_ ?_
    rotate_left
    · intro w'
      go_simp
      with_reducible rfl
    rotate_left
    · simp only [Act.put, sa_, sz_, ss_, i64_w, i32_w]
      rfl
    refine pure_ (i := 15) (N := some 32) (v := ?_) (a' := ?_) #[t_, t_, t_, t_, t_, t_, t_, t_, t_, t_, t_, t_, t_, t_, t_, t_, f_, f_, f_, f_, f_, f_, f_, f_] rfl rfl (by kernel_rfl) (fun _ _ _ h => h) (Or.inl ⟨by rfl, ?_⟩) ?_ ?_
    rotate_left
    · intro w'
      go_simp
      with_reducible rfl
    rotate_left
    · simp only [Act.put, sa_, sz_, ss_, i64_w, i32_w]
      rfl
    refine pure_ (i := 16) (N := some 33) (v := ?_) (a' := ?_) #[t_, t_, t_, t_, t_, t_, t_, t_, t_, t_, t_, t_, t_, t_, t_, t_, t_, f_, f_, f_, f_, f_, f_, f_] rfl rfl (by kernel_rfl) (fun _ _ _ h => h) (Or.inl ⟨by rfl, ?_⟩) ?_ ?_
    rotate_left
    · intro w'
      go_simp
      with_reducible rfl
    rotate_left
    · simp only [Act.put, sa_, sz_, ss_, i64_w, i32_w]
      rfl
    refine take_ (i := 17) (N := some 34) (v := ?_) (a' := ?_) #[t_, t_, t_, t_, t_, t_, t_, t_, t_, t_, t_, t_, t_, t_, t_, t_, t_, t_, f_, f_, f_, f_, f_, f_] rfl rfl (by kernel_rfl) (fun _ _ _ h => h) (Or.inl ⟨by rfl, ?_⟩) hHeld ?_ ?_
    rotate_left
    · rintro w' ⟨s0, s1, s2⟩
      go_simp
      with_reducible rfl
    rotate_left
    · simp only [Act.put, sa_, sz_, ss_, i64_w, i32_w]
      rfl
    refine take_ (i := 19) (N := some 36) (v := ?_) (a' := ?_) #[t_, t_, t_, t_, t_, t_, t_, t_, t_, t_, t_, t_, t_, t_, t_, t_, t_, t_, f_, t_, f_, f_, f_, f_] rfl rfl (by kernel_rfl) (fun _ _ _ h => h) (Or.inl ⟨by rfl, ?_⟩) hHeld ?_ ?_
    rotate_left
    · rintro w' ⟨s0, s1, s2⟩
      go_simp
      with_reducible rfl
    rotate_left
    · simp only [Act.put, sa_, sz_, ss_, i64_w, i32_w]
      rfl
    refine one_ (i := 18) (N := some 35) #[t_, t_, t_, t_, t_, t_, t_, t_, t_, t_, t_, t_, t_, t_, t_, t_, t_, t_, t_, t_, f_, f_, f_, f_] rfl rfl (by kernel_rfl) (by decide) (fun K hK => ?_)
    refine goes_ Try.func16 (by kernel_rfl) rfl #[.agg #[.slice Aa k ca]] (by rfl) rfl rfl (by simp only [List.map_toArray, List.map_cons, List.map_nil]; rfl) ?_
    with_reducible refine (deep_tree Aa ca La k x hna.out hk6.out HX.out _ (HCa.out _ (below_step HB_2.out hHeld.2.2))).mono ?_
    rintro e x4 ⟨rfl, hbq4⟩
    refine ⟨_, rfl, ?_⟩
    refine hK.out _ _ ⟨(below_of hbq4 hHeld.1), (below_of hbq4 hHeld.2.1), (below_step hHeld.2.2 hbq4)⟩ (fun hHeld => ?_)
    clear hK K
    refine norm_ (a' := ?_) ?_ ?_
    rotate_left
    · show Act.put _ (some 35) _ = _
      simp only [Act.put, sa_, sz_, ss_, i64_w, i32_w]
      rfl
    refine one_ (i := 20) (N := some 37) #[t_, t_, t_, t_, t_, t_, t_, t_, t_, t_, t_, t_, t_, t_, t_, t_, t_, t_, t_, t_, t_, f_, f_, f_] rfl rfl (by kernel_rfl) (by decide) (fun K hK => ?_)
    refine goes_ Try.func16 (by kernel_rfl) rfl #[.agg #[.slice Ab q cb]] (by rfl) rfl rfl (by simp only [List.map_toArray, List.map_cons, List.map_nil]; rfl) ?_
    with_reducible refine (deep_tree Ab cb Lb q y hnb.out hq6.out HY.out _ (HCb.out _ (below_step HB_2.out hHeld.2.2))).mono ?_
    rintro e w3 ⟨rfl, hbq5⟩
    refine ⟨_, rfl, ?_⟩
    refine hK.out _ _ ⟨(below_of hbq5 hHeld.1), (below_of hbq5 hHeld.2.1), (below_step hHeld.2.2 hbq5)⟩ (fun hHeld => ?_)
    clear hK K
    refine norm_ (a' := ?_) ?_ ?_
    rotate_left
    · show Act.put _ (some 37) _ = _
      simp only [Act.put, sa_, sz_, ss_, i64_w, i32_w]
      rfl
    refine pure_ (i := 21) (N := some 38) (v := ?_) (a' := ?_) #[t_, t_, t_, t_, t_, t_, t_, t_, t_, t_, t_, t_, t_, t_, t_, t_, t_, t_, t_, t_, t_, t_, f_, f_] rfl rfl (by kernel_rfl) (fun _ _ _ h => h) (Or.inl ⟨by rfl, ?_⟩) ?_ ?_
    rotate_left
    · intro w'
      go_simp
      with_reducible rfl
    rotate_left
    · simp only [Act.put, sa_, sz_, ss_, i64_w, i32_w]
      rfl
    refine pure_ (i := 22) (N := some 39) (v := ?_) (a' := ?_) #[t_, t_, t_, t_, t_, t_, t_, t_, t_, t_, t_, t_, t_, t_, t_, t_, t_, t_, t_, t_, t_, t_, t_, f_] rfl rfl (by kernel_rfl) (fun _ _ _ h => h) (Or.inl ⟨by rfl, ?_⟩) ?_ ?_
    rotate_left
    · intro w'
      go_simp
      with_reducible rfl
    rotate_left
    · simp only [Act.put, sa_, sz_, ss_, i64_w, i32_w]
      rfl
    refine pure_ (i := 23) (N := some 40) (v := ?_) (a' := ?_) #[t_, t_, t_, t_, t_, t_, t_, t_, t_, t_, t_, t_, t_, t_, t_, t_, t_, t_, t_, t_, t_, t_, t_, t_] rfl rfl (by kernel_rfl) (fun _ _ _ h => h) (Or.inl ⟨by rfl, ?_⟩) ?_ ?_
    rotate_left
    · intro w'
      go_simp
      with_reducible rfl
    rotate_left
    · simp only [Act.put, sa_, sz_, ss_, i64_w, i32_w]
      rfl
    refine done_ (by kernel_rfl) ?_
    have hb := below_step HB_2.out (below_step (below_step (below_step (below_step (below_step (below_step hZ.out.drew hbq0) hbq1) hbq2) hbq3) hbq4) hbq5)
    clear hHeld hbq0 hbq1 hbq2 hbq3 hbq4 hbq5
    go_wp2_with fail
    refine (fixed_calls _).mono ?_
    rintro e w4 ⟨rfl, hb4⟩
    go_wp2
    go_ret
    exact ⟨rfl, below_step hb hb4⟩
  have hzt : decide (40 ≤ z) = false := by simpa using hz4
  refine start_ (n := 24) (S := fun w' => w'.cell? ⟨w.heap.size, 0, none⟩ = some (.slice Aa k ca) ∧ w'.cell? ⟨w.heap.size + 1, 0, none⟩ = some (.slice Ab q cb) ∧ Below v2.heap.size v2 w') (ds := []) #[f_, f_, f_, f_, f_, f_, f_, f_, f_, f_, f_, f_, f_, f_, f_, f_, f_, f_, f_, f_, f_, f_, f_, f_] (by kernel_rfl) rfl rfl ⟨La_2, Lb_2, hZ.out.drew⟩ (fun hHeld => ?_)
  refine take_ (i := 0) (N := some 17) (v := ?_) (a' := ?_) #[t_, f_, f_, f_, f_, f_, f_, f_, f_, f_, f_, f_, f_, f_, f_, f_, f_, f_, f_, f_, f_, f_, f_, f_] rfl rfl (by kernel_rfl) (fun _ _ _ h => h) (Or.inl ⟨by rfl, ?_⟩) hHeld ?_ ?_
  rotate_left
  · rintro w' ⟨s0, s1, s2⟩
    go_simp
    with_reducible rfl
  rotate_left
  · simp only [Act.put, sa_, sz_, ss_, i64_w, i32_w]
    rfl
  refine one_ (i := 1) (N := some 18) #[t_, t_, f_, f_, f_, f_, f_, f_, f_, f_, f_, f_, f_, f_, f_, f_, f_, f_, f_, f_, f_, f_, f_, f_] rfl rfl (by kernel_rfl) (by decide) (fun K hK => ?_)
  refine goes_ Try.func14 (by kernel_rfl) rfl #[.agg #[.slice Aa k ca]] (by rfl) rfl rfl (by simp only [List.map_toArray, List.map_cons, List.map_nil]; rfl) ?_
  with_reducible refine (right_tree Aa ca La k 0 hna.out hk6.out hRA.out _ (HCa.out _ (below_step HB_2.out hHeld.2.2))).mono ?_
  rintro e x0 ⟨rfl, hbq0⟩
  refine ⟨_, rfl, ?_⟩
  refine hK.out _ _ ⟨(below_of hbq0 hHeld.1), (below_of hbq0 hHeld.2.1), (below_step hHeld.2.2 hbq0)⟩ (fun hHeld => ?_)
  clear hK K
  refine norm_ (a' := ?_) ?_ ?_
  rotate_left
  · show Act.put _ (some 18) _ = _
    simp only [Act.put, sa_, sz_, ss_, i64_w, i32_w]
    rfl
  refine pure_ (i := 2) (N := some 19) (v := ?_) (a' := ?_) #[t_, t_, t_, f_, f_, f_, f_, f_, f_, f_, f_, f_, f_, f_, f_, f_, f_, f_, f_, f_, f_, f_, f_, f_] rfl rfl (by kernel_rfl) (fun _ _ _ h => h) (Or.inl ⟨by rfl, ?_⟩) ?_ ?_
  rotate_left
  · intro w'
    go_simp
    with_reducible rfl
  rotate_left
  · simp only [Act.put, sa_, sz_, ss_, i64_w, i32_w]
    rfl
  refine pure_ (i := 3) (N := some 20) (v := ?_) (a' := ?_) #[t_, t_, t_, t_, f_, f_, f_, f_, f_, f_, f_, f_, f_, f_, f_, f_, f_, f_, f_, f_, f_, f_, f_, f_] rfl rfl (by kernel_rfl) (fun _ _ _ h => h) (Or.inl ⟨by rfl, ?_⟩) ?_ ?_
  rotate_left
  · intro w'
    go_simp
    with_reducible rfl
  rotate_left
  · simp only [Act.put, sa_, sz_, ss_, i64_w, i32_w]
    rfl
  refine take_ (i := 4) (N := some 21) (v := ?_) (a' := ?_) #[t_, t_, t_, t_, t_, f_, f_, f_, f_, f_, f_, f_, f_, f_, f_, f_, f_, f_, f_, f_, f_, f_, f_, f_] rfl rfl (by kernel_rfl) (fun _ _ _ h => h) (Or.inl ⟨by rfl, ?_⟩) hHeld ?_ ?_
  rotate_left
  · rintro w' ⟨s0, s1, s2⟩
    go_simp
    with_reducible rfl
  rotate_left
  · simp only [Act.put, sa_, sz_, ss_, i64_w, i32_w]
    rfl
  refine one_ (i := 5) (N := some 22) #[t_, t_, t_, t_, t_, t_, f_, f_, f_, f_, f_, f_, f_, f_, f_, f_, f_, f_, f_, f_, f_, f_, f_, f_] rfl rfl (by kernel_rfl) (by decide) (fun K hK => ?_)
  refine goes_ Try.func14 (by kernel_rfl) rfl #[.agg #[.slice Ab q cb]] (by rfl) rfl rfl (by simp only [List.map_toArray, List.map_cons, List.map_nil]; rfl) ?_
  with_reducible refine (right_tree Ab cb Lb q 0 hnb.out hq6.out hRB.out _ (HCb.out _ (below_step HB_2.out hHeld.2.2))).mono ?_
  rintro e x1 ⟨rfl, hbq1⟩
  refine ⟨_, rfl, ?_⟩
  refine hK.out _ _ ⟨(below_of hbq1 hHeld.1), (below_of hbq1 hHeld.2.1), (below_step hHeld.2.2 hbq1)⟩ (fun hHeld => ?_)
  clear hK K
  refine norm_ (a' := ?_) ?_ ?_
  rotate_left
  · show Act.put _ (some 22) _ = _
    simp only [Act.put, sa_, sz_, ss_, i64_w, i32_w]
    rfl
  refine pure_ (i := 6) (N := some 23) (v := ?_) (a' := ?_) #[t_, t_, t_, t_, t_, t_, t_, f_, f_, f_, f_, f_, f_, f_, f_, f_, f_, f_, f_, f_, f_, f_, f_, f_] rfl rfl (by kernel_rfl) (fun _ _ _ h => h) (Or.inl ⟨by rfl, ?_⟩) ?_ ?_
  rotate_left
  · intro w'
    go_simp
    with_reducible rfl
  rotate_left
  · simp only [Act.put, sa_, sz_, ss_, i64_w, i32_w]
    rfl
  refine pure_ (i := 7) (N := some 24) (v := ?_) (a' := ?_) #[t_, t_, t_, t_, t_, t_, t_, t_, f_, f_, f_, f_, f_, f_, f_, f_, f_, f_, f_, f_, f_, f_, f_, f_] rfl rfl (by kernel_rfl) (fun _ _ _ h => h) (Or.inl ⟨by rfl, ?_⟩) ?_ ?_
  rotate_left
  · intro w'
    go_simp
    with_reducible rfl
  rotate_left
  · simp only [Act.put, sa_, sz_, ss_, i64_w, i32_w]
    rfl
  refine pure_ (i := 8) (N := some 25) (v := ?_) (a' := ?_) #[t_, t_, t_, t_, t_, t_, t_, t_, t_, f_, f_, f_, f_, f_, f_, f_, f_, f_, f_, f_, f_, f_, f_, f_] rfl rfl (by kernel_rfl) (fun _ _ _ h => h) (Or.inl ⟨by rfl, ?_⟩) ?_ ?_
  rotate_left
  · intro w'
    go_simp
    with_reducible rfl
  rotate_left
  · simp only [Act.put, sa_, sz_, ss_, i64_w, i32_w]
    rfl
  refine take_ (i := 9) (N := some 26) (v := ?_) (a' := ?_) #[t_, t_, t_, t_, t_, t_, t_, t_, t_, t_, f_, f_, f_, f_, f_, f_, f_, f_, f_, f_, f_, f_, f_, f_] rfl rfl (by kernel_rfl) (fun _ _ _ h => h) (Or.inl ⟨by rfl, ?_⟩) hHeld ?_ ?_
  rotate_left
  · rintro w' ⟨s0, s1, s2⟩
    go_simp
    with_reducible rfl
  rotate_left
  · simp only [Act.put, sa_, sz_, ss_, i64_w, i32_w]
    rfl
  refine take_ (i := 11) (N := some 28) (v := ?_) (a' := ?_) #[t_, t_, t_, t_, t_, t_, t_, t_, t_, t_, f_, t_, f_, f_, f_, f_, f_, f_, f_, f_, f_, f_, f_, f_] rfl rfl (by kernel_rfl) (fun _ _ _ h => h) (Or.inl ⟨by rfl, ?_⟩) hHeld ?_ ?_
  rotate_left
  · rintro w' ⟨s0, s1, s2⟩
    go_simp
    with_reducible rfl
  rotate_left
  · simp only [Act.put, sa_, sz_, ss_, i64_w, i32_w]
    rfl
  refine one_ (i := 10) (N := some 27) #[t_, t_, t_, t_, t_, t_, t_, t_, t_, t_, t_, t_, f_, f_, f_, f_, f_, f_, f_, f_, f_, f_, f_, f_] rfl rfl (by kernel_rfl) (by decide) (fun K hK => ?_)
  refine goes_ Try.func18 (by kernel_rfl) rfl #[.agg #[.slice Aa k ca]] (by rfl) rfl rfl (by simp only [List.map_toArray, List.map_cons, List.map_nil]; rfl) ?_
  with_reducible refine (groups_tree Aa ca La k ga hna.out hk6.out HHa.out hga.out _ (HCa.out _ (below_step HB_2.out hHeld.2.2))).mono ?_
  rintro e x2 ⟨rfl, hbq2⟩
  refine ⟨_, rfl, ?_⟩
  refine hK.out _ _ ⟨(below_of hbq2 hHeld.1), (below_of hbq2 hHeld.2.1), (below_step hHeld.2.2 hbq2)⟩ (fun hHeld => ?_)
  clear hK K
  refine norm_ (a' := ?_) ?_ ?_
  rotate_left
  · show Act.put _ (some 27) _ = _
    simp only [Act.put, sa_, sz_, ss_, i64_w, i32_w]
    rfl
  refine one_ (i := 12) (N := some 29) #[t_, t_, t_, t_, t_, t_, t_, t_, t_, t_, t_, t_, t_, f_, f_, f_, f_, f_, f_, f_, f_, f_, f_, f_] rfl rfl (by kernel_rfl) (by decide) (fun K hK => ?_)
  refine goes_ Try.func18 (by kernel_rfl) rfl #[.agg #[.slice Ab q cb]] (by rfl) rfl rfl (by simp only [List.map_toArray, List.map_cons, List.map_nil]; rfl) ?_
  with_reducible refine (groups_tree Ab cb Lb q gb hnb.out hq6.out HHb.out hgb.out _ (HCb.out _ (below_step HB_2.out hHeld.2.2))).mono ?_
  rintro e x3 ⟨rfl, hbq3⟩
  refine ⟨_, rfl, ?_⟩
  refine hK.out _ _ ⟨(below_of hbq3 hHeld.1), (below_of hbq3 hHeld.2.1), (below_step hHeld.2.2 hbq3)⟩ (fun hHeld => ?_)
  clear hK K
  refine norm_ (a' := ?_) ?_ ?_
  rotate_left
  · show Act.put _ (some 29) _ = _
    simp only [Act.put, sa_, sz_, ss_, i64_w, i32_w]
    rfl
  refine pure_ (i := 13) (N := some 30) (v := ?_) (a' := ?_) #[t_, t_, t_, t_, t_, t_, t_, t_, t_, t_, t_, t_, t_, t_, f_, f_, f_, f_, f_, f_, f_, f_, f_, f_] rfl rfl (by kernel_rfl) (fun _ _ _ h => h) (Or.inl ⟨by rfl, ?_⟩) ?_ ?_
  rotate_left
  · intro w'
    go_simp
    with_reducible rfl
  rotate_left
  · simp only [Act.put, sa_, sz_, ss_, i64_w, i32_w]
    rfl
  refine pure_ (i := 14) (N := some 31) (v := ?_) (a' := ?_) #[t_, t_, t_, t_, t_, t_, t_, t_, t_, t_, t_, t_, t_, t_, t_, f_, f_, f_, f_, f_, f_, f_, f_, f_] rfl rfl (by kernel_rfl) (fun _ _ _ h => h) (Or.inl ⟨by rfl, ?_⟩) ?_ ?_
  rotate_left
  · intro w'
    go_simp
    with_reducible rfl
  rotate_left
  · simp only [Act.put, sa_, sz_, ss_, i64_w, i32_w]
    rfl
  refine pure_ (i := 15) (N := some 32) (v := ?_) (a' := ?_) #[t_, t_, t_, t_, t_, t_, t_, t_, t_, t_, t_, t_, t_, t_, t_, t_, f_, f_, f_, f_, f_, f_, f_, f_] rfl rfl (by kernel_rfl) (fun _ _ _ h => h) (Or.inl ⟨by rfl, ?_⟩) ?_ ?_
  rotate_left
  · intro w'
    go_simp
    with_reducible rfl
  rotate_left
  · simp only [Act.put, sa_, sz_, ss_, i64_w, i32_w]
    rfl
  refine pure_ (i := 16) (N := some 33) (v := ?_) (a' := ?_) #[t_, t_, t_, t_, t_, t_, t_, t_, t_, t_, t_, t_, t_, t_, t_, t_, t_, f_, f_, f_, f_, f_, f_, f_] rfl rfl (by kernel_rfl) (fun _ _ _ h => h) (Or.inl ⟨by rfl, ?_⟩) ?_ ?_
  rotate_left
  · intro w'
    go_simp
    with_reducible rfl
  rotate_left
  · simp only [Act.put, sa_, sz_, ss_, i64_w, i32_w]
    rfl
  refine take_ (i := 17) (N := some 34) (v := ?_) (a' := ?_) #[t_, t_, t_, t_, t_, t_, t_, t_, t_, t_, t_, t_, t_, t_, t_, t_, t_, t_, f_, f_, f_, f_, f_, f_] rfl rfl (by kernel_rfl) (fun _ _ _ h => h) (Or.inl ⟨by rfl, ?_⟩) hHeld ?_ ?_
  rotate_left
  · rintro w' ⟨s0, s1, s2⟩
    go_simp
    with_reducible rfl
  rotate_left
  · simp only [Act.put, sa_, sz_, ss_, i64_w, i32_w]
    rfl
  refine take_ (i := 19) (N := some 36) (v := ?_) (a' := ?_) #[t_, t_, t_, t_, t_, t_, t_, t_, t_, t_, t_, t_, t_, t_, t_, t_, t_, t_, f_, t_, f_, f_, f_, f_] rfl rfl (by kernel_rfl) (fun _ _ _ h => h) (Or.inl ⟨by rfl, ?_⟩) hHeld ?_ ?_
  rotate_left
  · rintro w' ⟨s0, s1, s2⟩
    go_simp
    with_reducible rfl
  rotate_left
  · simp only [Act.put, sa_, sz_, ss_, i64_w, i32_w]
    rfl
  refine one_ (i := 18) (N := some 35) #[t_, t_, t_, t_, t_, t_, t_, t_, t_, t_, t_, t_, t_, t_, t_, t_, t_, t_, t_, t_, f_, f_, f_, f_] rfl rfl (by kernel_rfl) (by decide) (fun K hK => ?_)
  refine goes_ Try.func16 (by kernel_rfl) rfl #[.agg #[.slice Aa k ca]] (by rfl) rfl rfl (by simp only [List.map_toArray, List.map_cons, List.map_nil]; rfl) ?_
  with_reducible refine (deep_tree Aa ca La k x hna.out hk6.out HX.out _ (HCa.out _ (below_step HB_2.out hHeld.2.2))).mono ?_
  rintro e x4 ⟨rfl, hbq4⟩
  refine ⟨_, rfl, ?_⟩
  refine hK.out _ _ ⟨(below_of hbq4 hHeld.1), (below_of hbq4 hHeld.2.1), (below_step hHeld.2.2 hbq4)⟩ (fun hHeld => ?_)
  clear hK K
  refine norm_ (a' := ?_) ?_ ?_
  rotate_left
  · show Act.put _ (some 35) _ = _
    simp only [Act.put, sa_, sz_, ss_, i64_w, i32_w]
    rfl
  refine one_ (i := 20) (N := some 37) #[t_, t_, t_, t_, t_, t_, t_, t_, t_, t_, t_, t_, t_, t_, t_, t_, t_, t_, t_, t_, t_, f_, f_, f_] rfl rfl (by kernel_rfl) (by decide) (fun K hK => ?_)
  refine goes_ Try.func16 (by kernel_rfl) rfl #[.agg #[.slice Ab q cb]] (by rfl) rfl rfl (by simp only [List.map_toArray, List.map_cons, List.map_nil]; rfl) ?_
  with_reducible refine (deep_tree Ab cb Lb q y hnb.out hq6.out HY.out _ (HCb.out _ (below_step HB_2.out hHeld.2.2))).mono ?_
  rintro e w3 ⟨rfl, hbq5⟩
  refine ⟨_, rfl, ?_⟩
  refine hK.out _ _ ⟨(below_of hbq5 hHeld.1), (below_of hbq5 hHeld.2.1), (below_step hHeld.2.2 hbq5)⟩ (fun hHeld => ?_)
  clear hK K
  refine norm_ (a' := ?_) ?_ ?_
  rotate_left
  · show Act.put _ (some 37) _ = _
    simp only [Act.put, sa_, sz_, ss_, i64_w, i32_w]
    rfl
  refine pure_ (i := 21) (N := some 38) (v := ?_) (a' := ?_) #[t_, t_, t_, t_, t_, t_, t_, t_, t_, t_, t_, t_, t_, t_, t_, t_, t_, t_, t_, t_, t_, t_, f_, f_] rfl rfl (by kernel_rfl) (fun _ _ _ h => h) (Or.inl ⟨by rfl, ?_⟩) ?_ ?_
  rotate_left
  · intro w'
    go_simp
    with_reducible rfl
  rotate_left
  · simp only [Act.put, sa_, sz_, ss_, i64_w, i32_w]
    rfl
  refine pure_ (i := 22) (N := some 39) (v := ?_) (a' := ?_) #[t_, t_, t_, t_, t_, t_, t_, t_, t_, t_, t_, t_, t_, t_, t_, t_, t_, t_, t_, t_, t_, t_, t_, f_] rfl rfl (by kernel_rfl) (fun _ _ _ h => h) (Or.inl ⟨by rfl, ?_⟩) ?_ ?_
  rotate_left
  · intro w'
    go_simp
    with_reducible rfl
  rotate_left
  · simp only [Act.put, sa_, sz_, ss_, i64_w, i32_w]
    rfl
  refine pure_ (i := 23) (N := some 40) (v := ?_) (a' := ?_) #[t_, t_, t_, t_, t_, t_, t_, t_, t_, t_, t_, t_, t_, t_, t_, t_, t_, t_, t_, t_, t_, t_, t_, t_] rfl rfl (by kernel_rfl) (fun _ _ _ h => h) (Or.inl ⟨by rfl, ?_⟩) ?_ ?_
  rotate_left
  · intro w'
    go_simp
    with_reducible rfl
  rotate_left
  · simp only [Act.put, sa_, sz_, ss_, i64_w, i32_w]
    rfl
  refine done_ (by kernel_rfl) ?_
  have hb := (below_step (below_step (below_step (below_step (below_step (below_step hZ.out.drew hbq0) hbq1) hbq2) hbq3) hbq4) hbq5)
  clear hHeld hZ hbq0 hbq1 hbq2 hbq3 hbq4 hbq5
  have Ba_3 := Lib.hid (below_blk hb Ba_2.out)
  have La_3 := blk_cell Ba_3.out 0 (.slice Aa k ca) rfl
  have Bb_3 := Lib.hid (below_blk hb Bb_2.out)
  have Lb_3 := blk_cell Bb_3.out 0 (.slice Ab q cb) rfl
  have HB_3 := Lib.hid (below_step HB_2.out hb)
  clear hb HB_2 Ba_2 La_2 Bb_2 Lb_2
  go_wp2_with fail
  have hg8 : Hid (¬ 0 < grn La + grn Lb) := Lib.hid (by rw [hga.out, hgb.out, hgs.out]; omega)
  have hz8 : Hid (¬ 40 ≤ max x y) := Lib.hid (by omega)
  clear hg0 hz4 hgt hzt hz1 hz2 hg1
  obtain ⟨N, hN⟩ : ∃ r, k + q + 1 = r := ⟨_, rfl⟩
  have hN2 : q + k + 1 = N := by omega
  obtain ⟨LX, hLX⟩ : ∃ r, La ++ Lb.map (shift k) ++ [⟨8, (k : Int) - 1, (k : Int) + q - 1, z41, 0, 0, 0, 0, false⟩] = r := ⟨_, rfl⟩
  obtain ⟨LY, hLY⟩ : ∃ r, Lb ++ La.map (shift q) ++ [⟨8, (q : Int) - 1, (q : Int) + k - 1, z41, 0, 0, 0, 0, false⟩] = r := ⟨_, rfl⟩
  have hnX_ : LX.length = N := by rw [← hLX, ← hN]; simp [hna.out, hnb.out]; omega
  have hnY_ : LY.length = N := by rw [← hLY, ← hN]; simp [hna.out, hnb.out]; omega
  have hmX_ : Hid (N ≤ 1001) := Lib.hid (by have := HK.out; omega)
  have hmY_ : Hid (N ≤ 1001) := Lib.hid (by have := HK.out; omega)
  have hnm : Hid (k + q ≤ 999) := Lib.hid (by have := HK.out; omega)
  have hnm2 : Hid (q + k ≤ 999) := Lib.hid (by have := HK.out; omega)
  have hN5 : Hid (N ≤ 500) := Lib.hid (by have := HK.out; omega)
  replace hN := Lib.hid hN
  replace hN2 := Lib.hid hN2
  replace hLX := Lib.hid hLX
  replace hLY := Lib.hid hLY
  replace hnX_ := Lib.hid hnX_
  replace hnY_ := Lib.hid hnY_
  have hZ := Lib.hid (Below.refl w3.heap.size w3)
  refine start_ (n := 10) (S := fun w' => w'.cell? ⟨w.heap.size, 0, none⟩ = some (.slice Aa k ca) ∧ w'.cell? ⟨w.heap.size + 1, 0, none⟩ = some (.slice Ab q cb) ∧ Below w3.heap.size w3 w') (ds := [8, 9]) #[f_, f_, f_, f_, f_, f_, f_, f_, f_, f_] (by kernel_rfl) rfl rfl ⟨La_3, Lb_3, hZ.out.drew⟩ (fun hHeld => ?_)
  refine take_ (i := 0) (N := some 42) (v := ?_) (a' := ?_) #[t_, f_, f_, f_, f_, f_, f_, f_, f_, f_] rfl rfl (by kernel_rfl) (fun _ _ _ h => h) (Or.inl ⟨by rfl, ?_⟩) hHeld ?_ ?_
  rotate_left
  · rintro w' ⟨s0, s1, s2⟩
    go_simp
    with_reducible rfl
  rotate_left
  · simp only [Act.put, sa_, sz_, ss_, i64_w, i32_w]
    rfl
  refine take_ (i := 1) (N := some 43) (v := ?_) (a' := ?_) #[t_, t_, f_, f_, f_, f_, f_, f_, f_, f_] rfl rfl (by kernel_rfl) (fun _ _ _ h => h) (Or.inl ⟨by rfl, ?_⟩) hHeld ?_ ?_
  rotate_left
  · rintro w' ⟨s0, s1, s2⟩
    go_simp
    with_reducible rfl
  rotate_left
  · simp only [Act.put, sa_, sz_, ss_, i64_w, i32_w]
    rfl
  refine take_ (i := 3) (N := some 45) (v := ?_) (a' := ?_) #[t_, t_, f_, t_, f_, f_, f_, f_, f_, f_] rfl rfl (by kernel_rfl) (fun _ _ _ h => h) (Or.inl ⟨by rfl, ?_⟩) hHeld ?_ ?_
  rotate_left
  · rintro w' ⟨s0, s1, s2⟩
    go_simp
    with_reducible rfl
  rotate_left
  · simp only [Act.put, sa_, sz_, ss_, i64_w, i32_w]
    rfl
  refine take_ (i := 4) (N := some 46) (v := ?_) (a' := ?_) #[t_, t_, f_, t_, t_, f_, f_, f_, f_, f_] rfl rfl (by kernel_rfl) (fun _ _ _ h => h) (Or.inl ⟨by rfl, ?_⟩) hHeld ?_ ?_
  rotate_left
  · rintro w' ⟨s0, s1, s2⟩
    go_simp
    with_reducible rfl
  rotate_left
  · simp only [Act.put, sa_, sz_, ss_, i64_w, i32_w]
    rfl
  refine join_ (σ := Nat × Nat × (Option Addr × Nat) × (Option Addr × Nat)) 2 #[t_, t_, t_, t_, t_, t_, t_, t_, f_, f_] (fun s => [(44, .agg #[.slice s.2.2.1.1 N s.2.2.1.2]), (47, .agg #[.slice s.2.2.2.1 N s.2.2.2.2]), (5, .pointer (some ⟨s.1, 0, none⟩)), (6, .pointer (some ⟨s.2.1, 0, none⟩))]) (fun s w' => w'.heap[s.1]? = some (.cells #[.slice none 0 0] 24 (0, 0)) ∧ w'.heap[s.2.1]? = some (.cells #[.slice none 0 0] 24 (0, 0)) ∧ w3.heap.size ≤ s.1 ∧ w3.heap.size ≤ s.2.1 ∧ s.1 ≠ s.2.1 ∧ w'.ownsRow w3.heap.size 43 12 (.slice s.2.2.1.1 N s.2.2.1.2) N (ra LX) ∧ w'.ownsRow w3.heap.size 43 12 (.slice s.2.2.2.1 N s.2.2.2.2) N (ra LY) ∧ N ≤ s.2.2.1.2 ∧ N ≤ s.2.2.2.2 ∧ w'.cell? ⟨w.heap.size, 0, none⟩ = some (.slice Aa k ca) ∧ w'.cell? ⟨w.heap.size + 1, 0, none⟩ = some (.slice Ab q cb) ∧ Below w3.heap.size w3 w') ?_ ?_
  rotate_left
  · intro hCont
    refine three_ (i := 2) (j := 6) (k := 7) (Ni := some 44) (Nj := some 5) (Nk := some 6) #[t_, t_, t_, t_, t_, f_, f_, f_, f_, f_] #[t_, t_, f_, t_, t_, f_, t_, f_, f_, f_] #[t_, t_, f_, t_, t_, f_, f_, t_, f_, f_] rfl rfl rfl rfl rfl rfl (by kernel_rfl) (by decide) (by decide) (by decide) (fun K hK => ?_) (fun K hK => ?_) (fun K hK => ?_)
    · skip
      refine goes_ Try.func22 (by kernel_rfl) rfl #[.agg #[.slice Aa k ca], .agg #[.slice Ab q cb], .int .i64 8] (by rfl) rfl rfl (by simp only [List.map_toArray, List.map_cons, List.map_nil]; rfl) ?_
      with_reducible refine (join_own Aa ca La Lb LX k q N hna.out Ab cb hnb.out hnm.out hN.out 8 hLX.out _ (HCa.out _ (below_step HB_3.out hHeld.2.2)) (HCb.out _ (below_step HB_3.out hHeld.2.2))).mono ?_
      rintro e X2 ⟨⟨v_, rfl, hoX⟩, hb2⟩
      refine ⟨_, rfl, ?_⟩
      obtain ⟨AX, cX, rfl, hleX, _⟩ := own_C (n := N) hnX_ hmX_.out hoX
      replace hoX := own_weaken hoX (hHeld.2.2).size
      refine hK.out _ _ ⟨(below_of hb2 hHeld.1), (below_of hb2 hHeld.2.1), (below_step hHeld.2.2 hb2)⟩ (fun hHeld => ?_)
      clear hK K
      refine norm_ (a' := ?_) ?_ ?_
      rotate_left
      · show Act.put _ (some 44) _ = _
        simp only [Act.put, sa_, sz_, ss_, i64_w, i32_w]
        rfl
      refine three_ (i := 5) (j := 6) (k := 7) (Ni := some 47) (Nj := some 5) (Nk := some 6) #[t_, t_, t_, t_, t_, t_, f_, f_, f_, f_] #[t_, t_, t_, t_, t_, f_, t_, f_, f_, f_] #[t_, t_, t_, t_, t_, f_, f_, t_, f_, f_] rfl rfl rfl rfl rfl rfl (by kernel_rfl) (by decide) (by decide) (by decide) (fun K hK => ?_) (fun K hK => ?_) (fun K hK => ?_)
      · skip
        refine goes_ Try.func22 (by kernel_rfl) rfl #[.agg #[.slice Ab q cb], .agg #[.slice Aa k ca], .int .i64 8] (by rfl) rfl rfl (by simp only [List.map_toArray, List.map_cons, List.map_nil]; rfl) ?_
        with_reducible refine (join_own Ab cb Lb La LY q k N hnb.out Aa ca hna.out hnm2.out hN2.out 8 hLY.out _ (HCb.out _ (below_step HB_3.out hHeld.2.2)) (HCa.out _ (below_step HB_3.out hHeld.2.2))).mono ?_
        rintro e X5 ⟨⟨v_, rfl, hoY⟩, hb5⟩
        refine ⟨_, rfl, ?_⟩
        obtain ⟨AY, cY, rfl, hleY, _⟩ := own_C (n := N) hnY_ hmY_.out hoY
        replace hoY := own_weaken hoY (hHeld.2.2).size
        replace hoX := own_below hoX hb5
        refine hK.out _ _ ⟨(below_of hb5 hHeld.1), (below_of hb5 hHeld.2.1), (below_step hHeld.2.2 hb5)⟩ (fun hHeld => ?_)
        clear hK K
        refine norm_ (a' := ?_) ?_ ?_
        rotate_left
        · show Act.put _ (some 47) _ = _
          simp only [Act.put, sa_, sz_, ss_, i64_w, i32_w]
          rfl
        refine two_ (i := 6) (j := 7) (Ni := some 5) (Nj := some 6) #[t_, t_, t_, t_, t_, t_, t_, f_, f_, f_] #[t_, t_, t_, t_, t_, t_, f_, t_, f_, f_] rfl rfl rfl rfl (by kernel_rfl) (by decide) (by decide) (fun K hK => ?_) (fun K hK => ?_)
        · skip
          refine value_ (w1 := ?_) (v := ?_) (by rfl) rfl ?_ ?_
          rotate_left 2
          · go_simp
            constructor
            · rfl
            · rfl
          refine letter_ ?_
          intro X6 hW
          have hb6 : Below X5.heap.size X5 X6 := by rw [hW]; exact below1 _ _
          have RX : X6.heap[X5.heap.size]? = some (.cells #[.slice none 0 0] 24 (0, 0)) := by rw [hW]; exact heap_alloc_new _ _
          have leX := (hHeld.2.2).size
          clear hW
          replace hoX := own_below hoX hb6
          replace hoY := own_below hoY hb6
          refine hK.out _ _ ⟨(below_of hb6 hHeld.1), (below_of hb6 hHeld.2.1), (below_step hHeld.2.2 hb6)⟩ (fun hHeld => ?_)
          clear hK K
          refine norm_ (a' := ?_) ?_ ?_
          rotate_left
          · show Act.put _ (some 5) _ = _
            simp only [Act.put, sa_, sz_, ss_, i64_w, i32_w]
            rfl
          refine one_ (i := 7) (N := some 6) #[t_, t_, t_, t_, t_, t_, t_, t_, f_, f_] rfl rfl (by kernel_rfl) (by decide) (fun K hK => ?_)
          refine value_ (w1 := ?_) (v := ?_) (by rfl) rfl ?_ ?_
          rotate_left 2
          · go_simp
            constructor
            · rfl
            · rfl
          refine letter_ ?_
          intro X7 hW
          have hb7 : Below X6.heap.size X6 X7 := by rw [hW]; exact below1 _ _
          have RY : X7.heap[X6.heap.size]? = some (.cells #[.slice none 0 0] 24 (0, 0)) := by rw [hW]; exact heap_alloc_new _ _
          have leY := (hHeld.2.2).size
          have neX_Y := Nat.ne_of_lt (lt_of_blk RX)
          clear hW
          replace hoX := own_below hoX hb7
          replace hoY := own_below hoY hb7
          replace RX := below_blk hb7 RX
          refine hK.out _ _ ⟨(below_of hb7 hHeld.1), (below_of hb7 hHeld.2.1), (below_step hHeld.2.2 hb7)⟩ (fun hHeld => ?_)
          clear hK K
          refine norm_ (a' := ?_) ?_ ?_
          rotate_left
          · show Act.put _ (some 6) _ = _
            simp only [Act.put, sa_, sz_, ss_, i64_w, i32_w]
            rfl
          exact norm_ (by simp only [putAll, Act.put, sa_, sz_, ss_]) (hCont (X5.heap.size, X6.heap.size, (AX, cX), (AY, cY)) _ ⟨RX, RY, leX, leY, neX_Y, hoX, hoY, hleX, hleY, hHeld⟩)
        · skip
          refine value_ (w1 := ?_) (v := ?_) (by rfl) rfl ?_ ?_
          rotate_left 2
          · go_simp
            constructor
            · rfl
            · rfl
          refine letter_ ?_
          intro X7 hW
          have hb7 : Below X5.heap.size X5 X7 := by rw [hW]; exact below1 _ _
          have RY : X7.heap[X5.heap.size]? = some (.cells #[.slice none 0 0] 24 (0, 0)) := by rw [hW]; exact heap_alloc_new _ _
          have leY := (hHeld.2.2).size
          clear hW
          replace hoX := own_below hoX hb7
          replace hoY := own_below hoY hb7
          refine hK.out _ _ ⟨(below_of hb7 hHeld.1), (below_of hb7 hHeld.2.1), (below_step hHeld.2.2 hb7)⟩ (fun hHeld => ?_)
          clear hK K
          refine norm_ (a' := ?_) ?_ ?_
          rotate_left
          · show Act.put _ (some 6) _ = _
            simp only [Act.put, sa_, sz_, ss_, i64_w, i32_w]
            rfl
          refine one_ (i := 6) (N := some 5) #[t_, t_, t_, t_, t_, t_, t_, t_, f_, f_] rfl rfl (by kernel_rfl) (by decide) (fun K hK => ?_)
          refine value_ (w1 := ?_) (v := ?_) (by rfl) rfl ?_ ?_
          rotate_left 2
          · go_simp
            constructor
            · rfl
            · rfl
          refine letter_ ?_
          intro X6 hW
          have hb6 : Below X7.heap.size X7 X6 := by rw [hW]; exact below1 _ _
          have RX : X6.heap[X7.heap.size]? = some (.cells #[.slice none 0 0] 24 (0, 0)) := by rw [hW]; exact heap_alloc_new _ _
          have leX := (hHeld.2.2).size
          have neY_X := Nat.ne_of_lt (lt_of_blk RY)
          clear hW
          replace hoX := own_below hoX hb6
          replace hoY := own_below hoY hb6
          replace RY := below_blk hb6 RY
          refine hK.out _ _ ⟨(below_of hb6 hHeld.1), (below_of hb6 hHeld.2.1), (below_step hHeld.2.2 hb6)⟩ (fun hHeld => ?_)
          clear hK K
          refine norm_ (a' := ?_) ?_ ?_
          rotate_left
          · show Act.put _ (some 5) _ = _
            simp only [Act.put, sa_, sz_, ss_, i64_w, i32_w]
            rfl
          exact norm_ (by simp only [putAll, Act.put, sa_, sz_, ss_]) (hCont (X7.heap.size, X5.heap.size, (AX, cX), (AY, cY)) _ ⟨RX, RY, leX, leY, neY_X.symm, hoX, hoY, hleX, hleY, hHeld⟩)
      · skip
        refine value_ (w1 := ?_) (v := ?_) (by rfl) rfl ?_ ?_
        rotate_left 2
        · go_simp
          constructor
          · rfl
          · rfl
        refine letter_ ?_
        intro X6 hW
        have hb6 : Below X2.heap.size X2 X6 := by rw [hW]; exact below1 _ _
        have RX : X6.heap[X2.heap.size]? = some (.cells #[.slice none 0 0] 24 (0, 0)) := by rw [hW]; exact heap_alloc_new _ _
        have leX := (hHeld.2.2).size
        clear hW
        replace hoX := own_below hoX hb6
        refine hK.out _ _ ⟨(below_of hb6 hHeld.1), (below_of hb6 hHeld.2.1), (below_step hHeld.2.2 hb6)⟩ (fun hHeld => ?_)
        clear hK K
        refine norm_ (a' := ?_) ?_ ?_
        rotate_left
        · show Act.put _ (some 5) _ = _
          simp only [Act.put, sa_, sz_, ss_, i64_w, i32_w]
          rfl
        refine two_ (i := 5) (j := 7) (Ni := some 47) (Nj := some 6) #[t_, t_, t_, t_, t_, t_, t_, f_, f_, f_] #[t_, t_, t_, t_, t_, f_, t_, t_, f_, f_] rfl rfl rfl rfl (by kernel_rfl) (by decide) (by decide) (fun K hK => ?_) (fun K hK => ?_)
        · skip
          refine goes_ Try.func22 (by kernel_rfl) rfl #[.agg #[.slice Ab q cb], .agg #[.slice Aa k ca], .int .i64 8] (by rfl) rfl rfl (by simp only [List.map_toArray, List.map_cons, List.map_nil]; rfl) ?_
          with_reducible refine (join_own Ab cb Lb La LY q k N hnb.out Aa ca hna.out hnm2.out hN2.out 8 hLY.out _ (HCb.out _ (below_step HB_3.out hHeld.2.2)) (HCa.out _ (below_step HB_3.out hHeld.2.2))).mono ?_
          rintro e X5 ⟨⟨v_, rfl, hoY⟩, hb5⟩
          refine ⟨_, rfl, ?_⟩
          obtain ⟨AY, cY, rfl, hleY, _⟩ := own_C (n := N) hnY_ hmY_.out hoY
          replace hoY := own_weaken hoY (hHeld.2.2).size
          replace hoX := own_below hoX hb5
          replace RX := below_blk hb5 RX
          refine hK.out _ _ ⟨(below_of hb5 hHeld.1), (below_of hb5 hHeld.2.1), (below_step hHeld.2.2 hb5)⟩ (fun hHeld => ?_)
          clear hK K
          refine norm_ (a' := ?_) ?_ ?_
          rotate_left
          · show Act.put _ (some 47) _ = _
            simp only [Act.put, sa_, sz_, ss_, i64_w, i32_w]
            rfl
          refine one_ (i := 7) (N := some 6) #[t_, t_, t_, t_, t_, t_, t_, t_, f_, f_] rfl rfl (by kernel_rfl) (by decide) (fun K hK => ?_)
          refine value_ (w1 := ?_) (v := ?_) (by rfl) rfl ?_ ?_
          rotate_left 2
          · go_simp
            constructor
            · rfl
            · rfl
          refine letter_ ?_
          intro X7 hW
          have hb7 : Below X5.heap.size X5 X7 := by rw [hW]; exact below1 _ _
          have RY : X7.heap[X5.heap.size]? = some (.cells #[.slice none 0 0] 24 (0, 0)) := by rw [hW]; exact heap_alloc_new _ _
          have leY := (hHeld.2.2).size
          have neX_Y := Nat.ne_of_lt (lt_of_blk RX)
          clear hW
          replace hoX := own_below hoX hb7
          replace RX := below_blk hb7 RX
          replace hoY := own_below hoY hb7
          refine hK.out _ _ ⟨(below_of hb7 hHeld.1), (below_of hb7 hHeld.2.1), (below_step hHeld.2.2 hb7)⟩ (fun hHeld => ?_)
          clear hK K
          refine norm_ (a' := ?_) ?_ ?_
          rotate_left
          · show Act.put _ (some 6) _ = _
            simp only [Act.put, sa_, sz_, ss_, i64_w, i32_w]
            rfl
          exact norm_ (by simp only [putAll, Act.put, sa_, sz_, ss_]) (hCont (X2.heap.size, X5.heap.size, (AX, cX), (AY, cY)) _ ⟨RX, RY, leX, leY, neX_Y, hoX, hoY, hleX, hleY, hHeld⟩)
        · skip
          refine value_ (w1 := ?_) (v := ?_) (by rfl) rfl ?_ ?_
          rotate_left 2
          · go_simp
            constructor
            · rfl
            · rfl
          refine letter_ ?_
          intro X7 hW
          have hb7 : Below X6.heap.size X6 X7 := by rw [hW]; exact below1 _ _
          have RY : X7.heap[X6.heap.size]? = some (.cells #[.slice none 0 0] 24 (0, 0)) := by rw [hW]; exact heap_alloc_new _ _
          have leY := (hHeld.2.2).size
          have neX_Y := Nat.ne_of_lt (lt_of_blk RX)
          clear hW
          replace hoX := own_below hoX hb7
          replace RX := below_blk hb7 RX
          refine hK.out _ _ ⟨(below_of hb7 hHeld.1), (below_of hb7 hHeld.2.1), (below_step hHeld.2.2 hb7)⟩ (fun hHeld => ?_)
          clear hK K
          refine norm_ (a' := ?_) ?_ ?_
          rotate_left
          · show Act.put _ (some 6) _ = _
            simp only [Act.put, sa_, sz_, ss_, i64_w, i32_w]
            rfl
          refine one_ (i := 5) (N := some 47) #[t_, t_, t_, t_, t_, t_, t_, t_, f_, f_] rfl rfl (by kernel_rfl) (by decide) (fun K hK => ?_)
          refine goes_ Try.func22 (by kernel_rfl) rfl #[.agg #[.slice Ab q cb], .agg #[.slice Aa k ca], .int .i64 8] (by rfl) rfl rfl (by simp only [List.map_toArray, List.map_cons, List.map_nil]; rfl) ?_
          with_reducible refine (join_own Ab cb Lb La LY q k N hnb.out Aa ca hna.out hnm2.out hN2.out 8 hLY.out _ (HCb.out _ (below_step HB_3.out hHeld.2.2)) (HCa.out _ (below_step HB_3.out hHeld.2.2))).mono ?_
          rintro e X5 ⟨⟨v_, rfl, hoY⟩, hb5⟩
          refine ⟨_, rfl, ?_⟩
          obtain ⟨AY, cY, rfl, hleY, _⟩ := own_C (n := N) hnY_ hmY_.out hoY
          replace hoY := own_weaken hoY (hHeld.2.2).size
          replace hoX := own_below hoX hb5
          replace RX := below_blk hb5 RX
          replace RY := below_blk hb5 RY
          refine hK.out _ _ ⟨(below_of hb5 hHeld.1), (below_of hb5 hHeld.2.1), (below_step hHeld.2.2 hb5)⟩ (fun hHeld => ?_)
          clear hK K
          refine norm_ (a' := ?_) ?_ ?_
          rotate_left
          · show Act.put _ (some 47) _ = _
            simp only [Act.put, sa_, sz_, ss_, i64_w, i32_w]
            rfl
          exact norm_ (by simp only [putAll, Act.put, sa_, sz_, ss_]) (hCont (X2.heap.size, X6.heap.size, (AX, cX), (AY, cY)) _ ⟨RX, RY, leX, leY, neX_Y, hoX, hoY, hleX, hleY, hHeld⟩)
      · skip
        refine value_ (w1 := ?_) (v := ?_) (by rfl) rfl ?_ ?_
        rotate_left 2
        · go_simp
          constructor
          · rfl
          · rfl
        refine letter_ ?_
        intro X7 hW
        have hb7 : Below X2.heap.size X2 X7 := by rw [hW]; exact below1 _ _
        have RY : X7.heap[X2.heap.size]? = some (.cells #[.slice none 0 0] 24 (0, 0)) := by rw [hW]; exact heap_alloc_new _ _
        have leY := (hHeld.2.2).size
        clear hW
        replace hoX := own_below hoX hb7
        refine hK.out _ _ ⟨(below_of hb7 hHeld.1), (below_of hb7 hHeld.2.1), (below_step hHeld.2.2 hb7)⟩ (fun hHeld => ?_)
        clear hK K
        refine norm_ (a' := ?_) ?_ ?_
        rotate_left
        · show Act.put _ (some 6) _ = _
          simp only [Act.put, sa_, sz_, ss_, i64_w, i32_w]
          rfl
        refine two_ (i := 5) (j := 6) (Ni := some 47) (Nj := some 5) #[t_, t_, t_, t_, t_, t_, f_, t_, f_, f_] #[t_, t_, t_, t_, t_, f_, t_, t_, f_, f_] rfl rfl rfl rfl (by kernel_rfl) (by decide) (by decide) (fun K hK => ?_) (fun K hK => ?_)
        · skip
          refine goes_ Try.func22 (by kernel_rfl) rfl #[.agg #[.slice Ab q cb], .agg #[.slice Aa k ca], .int .i64 8] (by rfl) rfl rfl (by simp only [List.map_toArray, List.map_cons, List.map_nil]; rfl) ?_
          with_reducible refine (join_own Ab cb Lb La LY q k N hnb.out Aa ca hna.out hnm2.out hN2.out 8 hLY.out _ (HCb.out _ (below_step HB_3.out hHeld.2.2)) (HCa.out _ (below_step HB_3.out hHeld.2.2))).mono ?_
          rintro e X5 ⟨⟨v_, rfl, hoY⟩, hb5⟩
          refine ⟨_, rfl, ?_⟩
          obtain ⟨AY, cY, rfl, hleY, _⟩ := own_C (n := N) hnY_ hmY_.out hoY
          replace hoY := own_weaken hoY (hHeld.2.2).size
          replace hoX := own_below hoX hb5
          replace RY := below_blk hb5 RY
          refine hK.out _ _ ⟨(below_of hb5 hHeld.1), (below_of hb5 hHeld.2.1), (below_step hHeld.2.2 hb5)⟩ (fun hHeld => ?_)
          clear hK K
          refine norm_ (a' := ?_) ?_ ?_
          rotate_left
          · show Act.put _ (some 47) _ = _
            simp only [Act.put, sa_, sz_, ss_, i64_w, i32_w]
            rfl
          refine one_ (i := 6) (N := some 5) #[t_, t_, t_, t_, t_, t_, t_, t_, f_, f_] rfl rfl (by kernel_rfl) (by decide) (fun K hK => ?_)
          refine value_ (w1 := ?_) (v := ?_) (by rfl) rfl ?_ ?_
          rotate_left 2
          · go_simp
            constructor
            · rfl
            · rfl
          refine letter_ ?_
          intro X6 hW
          have hb6 : Below X5.heap.size X5 X6 := by rw [hW]; exact below1 _ _
          have RX : X6.heap[X5.heap.size]? = some (.cells #[.slice none 0 0] 24 (0, 0)) := by rw [hW]; exact heap_alloc_new _ _
          have leX := (hHeld.2.2).size
          have neY_X := Nat.ne_of_lt (lt_of_blk RY)
          clear hW
          replace hoX := own_below hoX hb6
          replace RY := below_blk hb6 RY
          replace hoY := own_below hoY hb6
          refine hK.out _ _ ⟨(below_of hb6 hHeld.1), (below_of hb6 hHeld.2.1), (below_step hHeld.2.2 hb6)⟩ (fun hHeld => ?_)
          clear hK K
          refine norm_ (a' := ?_) ?_ ?_
          rotate_left
          · show Act.put _ (some 5) _ = _
            simp only [Act.put, sa_, sz_, ss_, i64_w, i32_w]
            rfl
          exact norm_ (by simp only [putAll, Act.put, sa_, sz_, ss_]) (hCont (X5.heap.size, X2.heap.size, (AX, cX), (AY, cY)) _ ⟨RX, RY, leX, leY, neY_X.symm, hoX, hoY, hleX, hleY, hHeld⟩)
        · skip
          refine value_ (w1 := ?_) (v := ?_) (by rfl) rfl ?_ ?_
          rotate_left 2
          · go_simp
            constructor
            · rfl
            · rfl
          refine letter_ ?_
          intro X6 hW
          have hb6 : Below X7.heap.size X7 X6 := by rw [hW]; exact below1 _ _
          have RX : X6.heap[X7.heap.size]? = some (.cells #[.slice none 0 0] 24 (0, 0)) := by rw [hW]; exact heap_alloc_new _ _
          have leX := (hHeld.2.2).size
          have neY_X := Nat.ne_of_lt (lt_of_blk RY)
          clear hW
          replace hoX := own_below hoX hb6
          replace RY := below_blk hb6 RY
          refine hK.out _ _ ⟨(below_of hb6 hHeld.1), (below_of hb6 hHeld.2.1), (below_step hHeld.2.2 hb6)⟩ (fun hHeld => ?_)
          clear hK K
          refine norm_ (a' := ?_) ?_ ?_
          rotate_left
          · show Act.put _ (some 5) _ = _
            simp only [Act.put, sa_, sz_, ss_, i64_w, i32_w]
            rfl
          refine one_ (i := 5) (N := some 47) #[t_, t_, t_, t_, t_, t_, t_, t_, f_, f_] rfl rfl (by kernel_rfl) (by decide) (fun K hK => ?_)
          refine goes_ Try.func22 (by kernel_rfl) rfl #[.agg #[.slice Ab q cb], .agg #[.slice Aa k ca], .int .i64 8] (by rfl) rfl rfl (by simp only [List.map_toArray, List.map_cons, List.map_nil]; rfl) ?_
          with_reducible refine (join_own Ab cb Lb La LY q k N hnb.out Aa ca hna.out hnm2.out hN2.out 8 hLY.out _ (HCb.out _ (below_step HB_3.out hHeld.2.2)) (HCa.out _ (below_step HB_3.out hHeld.2.2))).mono ?_
          rintro e X5 ⟨⟨v_, rfl, hoY⟩, hb5⟩
          refine ⟨_, rfl, ?_⟩
          obtain ⟨AY, cY, rfl, hleY, _⟩ := own_C (n := N) hnY_ hmY_.out hoY
          replace hoY := own_weaken hoY (hHeld.2.2).size
          replace hoX := own_below hoX hb5
          replace RY := below_blk hb5 RY
          replace RX := below_blk hb5 RX
          refine hK.out _ _ ⟨(below_of hb5 hHeld.1), (below_of hb5 hHeld.2.1), (below_step hHeld.2.2 hb5)⟩ (fun hHeld => ?_)
          clear hK K
          refine norm_ (a' := ?_) ?_ ?_
          rotate_left
          · show Act.put _ (some 47) _ = _
            simp only [Act.put, sa_, sz_, ss_, i64_w, i32_w]
            rfl
          exact norm_ (by simp only [putAll, Act.put, sa_, sz_, ss_]) (hCont (X7.heap.size, X2.heap.size, (AX, cX), (AY, cY)) _ ⟨RX, RY, leX, leY, neY_X.symm, hoX, hoY, hleX, hleY, hHeld⟩)
    · skip
      refine value_ (w1 := ?_) (v := ?_) (by rfl) rfl ?_ ?_
      rotate_left 2
      · go_simp
        constructor
        · rfl
        · rfl
      refine letter_ ?_
      intro X6 hW
      have hb6 : Below w3.drew.heap.size w3.drew X6 := by rw [hW]; exact below1 _ _
      have RX : X6.heap[w3.drew.heap.size]? = some (.cells #[.slice none 0 0] 24 (0, 0)) := by rw [hW]; exact heap_alloc_new _ _
      have leX := (hHeld.2.2).size
      clear hW
      refine hK.out _ _ ⟨(below_of hb6 hHeld.1), (below_of hb6 hHeld.2.1), (below_step hHeld.2.2 hb6)⟩ (fun hHeld => ?_)
      clear hK K
      refine norm_ (a' := ?_) ?_ ?_
      rotate_left
      · show Act.put _ (some 5) _ = _
        simp only [Act.put, sa_, sz_, ss_, i64_w, i32_w]
        rfl
      refine two_ (i := 2) (j := 7) (Ni := some 44) (Nj := some 6) #[t_, t_, t_, t_, t_, f_, t_, f_, f_, f_] #[t_, t_, f_, t_, t_, f_, t_, t_, f_, f_] rfl rfl rfl rfl (by kernel_rfl) (by decide) (by decide) (fun K hK => ?_) (fun K hK => ?_)
      · skip
        refine goes_ Try.func22 (by kernel_rfl) rfl #[.agg #[.slice Aa k ca], .agg #[.slice Ab q cb], .int .i64 8] (by rfl) rfl rfl (by simp only [List.map_toArray, List.map_cons, List.map_nil]; rfl) ?_
        with_reducible refine (join_own Aa ca La Lb LX k q N hna.out Ab cb hnb.out hnm.out hN.out 8 hLX.out _ (HCa.out _ (below_step HB_3.out hHeld.2.2)) (HCb.out _ (below_step HB_3.out hHeld.2.2))).mono ?_
        rintro e X2 ⟨⟨v_, rfl, hoX⟩, hb2⟩
        refine ⟨_, rfl, ?_⟩
        obtain ⟨AX, cX, rfl, hleX, _⟩ := own_C (n := N) hnX_ hmX_.out hoX
        replace hoX := own_weaken hoX (hHeld.2.2).size
        replace RX := below_blk hb2 RX
        refine hK.out _ _ ⟨(below_of hb2 hHeld.1), (below_of hb2 hHeld.2.1), (below_step hHeld.2.2 hb2)⟩ (fun hHeld => ?_)
        clear hK K
        refine norm_ (a' := ?_) ?_ ?_
        rotate_left
        · show Act.put _ (some 44) _ = _
          simp only [Act.put, sa_, sz_, ss_, i64_w, i32_w]
          rfl
        refine two_ (i := 5) (j := 7) (Ni := some 47) (Nj := some 6) #[t_, t_, t_, t_, t_, t_, t_, f_, f_, f_] #[t_, t_, t_, t_, t_, f_, t_, t_, f_, f_] rfl rfl rfl rfl (by kernel_rfl) (by decide) (by decide) (fun K hK => ?_) (fun K hK => ?_)
        · skip
          refine goes_ Try.func22 (by kernel_rfl) rfl #[.agg #[.slice Ab q cb], .agg #[.slice Aa k ca], .int .i64 8] (by rfl) rfl rfl (by simp only [List.map_toArray, List.map_cons, List.map_nil]; rfl) ?_
          with_reducible refine (join_own Ab cb Lb La LY q k N hnb.out Aa ca hna.out hnm2.out hN2.out 8 hLY.out _ (HCb.out _ (below_step HB_3.out hHeld.2.2)) (HCa.out _ (below_step HB_3.out hHeld.2.2))).mono ?_
          rintro e X5 ⟨⟨v_, rfl, hoY⟩, hb5⟩
          refine ⟨_, rfl, ?_⟩
          obtain ⟨AY, cY, rfl, hleY, _⟩ := own_C (n := N) hnY_ hmY_.out hoY
          replace hoY := own_weaken hoY (hHeld.2.2).size
          replace RX := below_blk hb5 RX
          replace hoX := own_below hoX hb5
          refine hK.out _ _ ⟨(below_of hb5 hHeld.1), (below_of hb5 hHeld.2.1), (below_step hHeld.2.2 hb5)⟩ (fun hHeld => ?_)
          clear hK K
          refine norm_ (a' := ?_) ?_ ?_
          rotate_left
          · show Act.put _ (some 47) _ = _
            simp only [Act.put, sa_, sz_, ss_, i64_w, i32_w]
            rfl
          refine one_ (i := 7) (N := some 6) #[t_, t_, t_, t_, t_, t_, t_, t_, f_, f_] rfl rfl (by kernel_rfl) (by decide) (fun K hK => ?_)
          refine value_ (w1 := ?_) (v := ?_) (by rfl) rfl ?_ ?_
          rotate_left 2
          · go_simp
            constructor
            · rfl
            · rfl
          refine letter_ ?_
          intro X7 hW
          have hb7 : Below X5.heap.size X5 X7 := by rw [hW]; exact below1 _ _
          have RY : X7.heap[X5.heap.size]? = some (.cells #[.slice none 0 0] 24 (0, 0)) := by rw [hW]; exact heap_alloc_new _ _
          have leY := (hHeld.2.2).size
          have neX_Y := Nat.ne_of_lt (lt_of_blk RX)
          clear hW
          replace RX := below_blk hb7 RX
          replace hoX := own_below hoX hb7
          replace hoY := own_below hoY hb7
          refine hK.out _ _ ⟨(below_of hb7 hHeld.1), (below_of hb7 hHeld.2.1), (below_step hHeld.2.2 hb7)⟩ (fun hHeld => ?_)
          clear hK K
          refine norm_ (a' := ?_) ?_ ?_
          rotate_left
          · show Act.put _ (some 6) _ = _
            simp only [Act.put, sa_, sz_, ss_, i64_w, i32_w]
            rfl
          exact norm_ (by simp only [putAll, Act.put, sa_, sz_, ss_]) (hCont (w3.heap.size, X5.heap.size, (AX, cX), (AY, cY)) _ ⟨RX, RY, leX, leY, neX_Y, hoX, hoY, hleX, hleY, hHeld⟩)
        · skip
          refine value_ (w1 := ?_) (v := ?_) (by rfl) rfl ?_ ?_
          rotate_left 2
          · go_simp
            constructor
            · rfl
            · rfl
          refine letter_ ?_
          intro X7 hW
          have hb7 : Below X2.heap.size X2 X7 := by rw [hW]; exact below1 _ _
          have RY : X7.heap[X2.heap.size]? = some (.cells #[.slice none 0 0] 24 (0, 0)) := by rw [hW]; exact heap_alloc_new _ _
          have leY := (hHeld.2.2).size
          have neX_Y := Nat.ne_of_lt (lt_of_blk RX)
          clear hW
          replace RX := below_blk hb7 RX
          replace hoX := own_below hoX hb7
          refine hK.out _ _ ⟨(below_of hb7 hHeld.1), (below_of hb7 hHeld.2.1), (below_step hHeld.2.2 hb7)⟩ (fun hHeld => ?_)
          clear hK K
          refine norm_ (a' := ?_) ?_ ?_
          rotate_left
          · show Act.put _ (some 6) _ = _
            simp only [Act.put, sa_, sz_, ss_, i64_w, i32_w]
            rfl
          refine one_ (i := 5) (N := some 47) #[t_, t_, t_, t_, t_, t_, t_, t_, f_, f_] rfl rfl (by kernel_rfl) (by decide) (fun K hK => ?_)
          refine goes_ Try.func22 (by kernel_rfl) rfl #[.agg #[.slice Ab q cb], .agg #[.slice Aa k ca], .int .i64 8] (by rfl) rfl rfl (by simp only [List.map_toArray, List.map_cons, List.map_nil]; rfl) ?_
          with_reducible refine (join_own Ab cb Lb La LY q k N hnb.out Aa ca hna.out hnm2.out hN2.out 8 hLY.out _ (HCb.out _ (below_step HB_3.out hHeld.2.2)) (HCa.out _ (below_step HB_3.out hHeld.2.2))).mono ?_
          rintro e X5 ⟨⟨v_, rfl, hoY⟩, hb5⟩
          refine ⟨_, rfl, ?_⟩
          obtain ⟨AY, cY, rfl, hleY, _⟩ := own_C (n := N) hnY_ hmY_.out hoY
          replace hoY := own_weaken hoY (hHeld.2.2).size
          replace RX := below_blk hb5 RX
          replace hoX := own_below hoX hb5
          replace RY := below_blk hb5 RY
          refine hK.out _ _ ⟨(below_of hb5 hHeld.1), (below_of hb5 hHeld.2.1), (below_step hHeld.2.2 hb5)⟩ (fun hHeld => ?_)
          clear hK K
          refine norm_ (a' := ?_) ?_ ?_
          rotate_left
          · show Act.put _ (some 47) _ = _
            simp only [Act.put, sa_, sz_, ss_, i64_w, i32_w]
            rfl
          exact norm_ (by simp only [putAll, Act.put, sa_, sz_, ss_]) (hCont (w3.heap.size, X2.heap.size, (AX, cX), (AY, cY)) _ ⟨RX, RY, leX, leY, neX_Y, hoX, hoY, hleX, hleY, hHeld⟩)
      · skip
        refine value_ (w1 := ?_) (v := ?_) (by rfl) rfl ?_ ?_
        rotate_left 2
        · go_simp
          constructor
          · rfl
          · rfl
        refine letter_ ?_
        intro X7 hW
        have hb7 : Below X6.heap.size X6 X7 := by rw [hW]; exact below1 _ _
        have RY : X7.heap[X6.heap.size]? = some (.cells #[.slice none 0 0] 24 (0, 0)) := by rw [hW]; exact heap_alloc_new _ _
        have leY := (hHeld.2.2).size
        have neX_Y := Nat.ne_of_lt (lt_of_blk RX)
        clear hW
        replace RX := below_blk hb7 RX
        refine hK.out _ _ ⟨(below_of hb7 hHeld.1), (below_of hb7 hHeld.2.1), (below_step hHeld.2.2 hb7)⟩ (fun hHeld => ?_)
        clear hK K
        refine norm_ (a' := ?_) ?_ ?_
        rotate_left
        · show Act.put _ (some 6) _ = _
          simp only [Act.put, sa_, sz_, ss_, i64_w, i32_w]
          rfl
        refine one_ (i := 2) (N := some 44) #[t_, t_, t_, t_, t_, f_, t_, t_, f_, f_] rfl rfl (by kernel_rfl) (by decide) (fun K hK => ?_)
        refine goes_ Try.func22 (by kernel_rfl) rfl #[.agg #[.slice Aa k ca], .agg #[.slice Ab q cb], .int .i64 8] (by rfl) rfl rfl (by simp only [List.map_toArray, List.map_cons, List.map_nil]; rfl) ?_
        with_reducible refine (join_own Aa ca La Lb LX k q N hna.out Ab cb hnb.out hnm.out hN.out 8 hLX.out _ (HCa.out _ (below_step HB_3.out hHeld.2.2)) (HCb.out _ (below_step HB_3.out hHeld.2.2))).mono ?_
        rintro e X2 ⟨⟨v_, rfl, hoX⟩, hb2⟩
        refine ⟨_, rfl, ?_⟩
        obtain ⟨AX, cX, rfl, hleX, _⟩ := own_C (n := N) hnX_ hmX_.out hoX
        replace hoX := own_weaken hoX (hHeld.2.2).size
        replace RX := below_blk hb2 RX
        replace RY := below_blk hb2 RY
        refine hK.out _ _ ⟨(below_of hb2 hHeld.1), (below_of hb2 hHeld.2.1), (below_step hHeld.2.2 hb2)⟩ (fun hHeld => ?_)
        clear hK K
        refine norm_ (a' := ?_) ?_ ?_
        rotate_left
        · show Act.put _ (some 44) _ = _
          simp only [Act.put, sa_, sz_, ss_, i64_w, i32_w]
          rfl
        refine one_ (i := 5) (N := some 47) #[t_, t_, t_, t_, t_, t_, t_, t_, f_, f_] rfl rfl (by kernel_rfl) (by decide) (fun K hK => ?_)
        refine goes_ Try.func22 (by kernel_rfl) rfl #[.agg #[.slice Ab q cb], .agg #[.slice Aa k ca], .int .i64 8] (by rfl) rfl rfl (by simp only [List.map_toArray, List.map_cons, List.map_nil]; rfl) ?_
        with_reducible refine (join_own Ab cb Lb La LY q k N hnb.out Aa ca hna.out hnm2.out hN2.out 8 hLY.out _ (HCb.out _ (below_step HB_3.out hHeld.2.2)) (HCa.out _ (below_step HB_3.out hHeld.2.2))).mono ?_
        rintro e X5 ⟨⟨v_, rfl, hoY⟩, hb5⟩
        refine ⟨_, rfl, ?_⟩
        obtain ⟨AY, cY, rfl, hleY, _⟩ := own_C (n := N) hnY_ hmY_.out hoY
        replace hoY := own_weaken hoY (hHeld.2.2).size
        replace RX := below_blk hb5 RX
        replace RY := below_blk hb5 RY
        replace hoX := own_below hoX hb5
        refine hK.out _ _ ⟨(below_of hb5 hHeld.1), (below_of hb5 hHeld.2.1), (below_step hHeld.2.2 hb5)⟩ (fun hHeld => ?_)
        clear hK K
        refine norm_ (a' := ?_) ?_ ?_
        rotate_left
        · show Act.put _ (some 47) _ = _
          simp only [Act.put, sa_, sz_, ss_, i64_w, i32_w]
          rfl
        exact norm_ (by simp only [putAll, Act.put, sa_, sz_, ss_]) (hCont (w3.heap.size, X6.heap.size, (AX, cX), (AY, cY)) _ ⟨RX, RY, leX, leY, neX_Y, hoX, hoY, hleX, hleY, hHeld⟩)
    · skip
      refine value_ (w1 := ?_) (v := ?_) (by rfl) rfl ?_ ?_
      rotate_left 2
      · go_simp
        constructor
        · rfl
        · rfl
      refine letter_ ?_
      intro X7 hW
      have hb7 : Below w3.drew.heap.size w3.drew X7 := by rw [hW]; exact below1 _ _
      have RY : X7.heap[w3.drew.heap.size]? = some (.cells #[.slice none 0 0] 24 (0, 0)) := by rw [hW]; exact heap_alloc_new _ _
      have leY := (hHeld.2.2).size
      clear hW
      refine hK.out _ _ ⟨(below_of hb7 hHeld.1), (below_of hb7 hHeld.2.1), (below_step hHeld.2.2 hb7)⟩ (fun hHeld => ?_)
      clear hK K
      refine norm_ (a' := ?_) ?_ ?_
      rotate_left
      · show Act.put _ (some 6) _ = _
        simp only [Act.put, sa_, sz_, ss_, i64_w, i32_w]
        rfl
      refine two_ (i := 2) (j := 6) (Ni := some 44) (Nj := some 5) #[t_, t_, t_, t_, t_, f_, f_, t_, f_, f_] #[t_, t_, f_, t_, t_, f_, t_, t_, f_, f_] rfl rfl rfl rfl (by kernel_rfl) (by decide) (by decide) (fun K hK => ?_) (fun K hK => ?_)
      · skip
        refine goes_ Try.func22 (by kernel_rfl) rfl #[.agg #[.slice Aa k ca], .agg #[.slice Ab q cb], .int .i64 8] (by rfl) rfl rfl (by simp only [List.map_toArray, List.map_cons, List.map_nil]; rfl) ?_
        with_reducible refine (join_own Aa ca La Lb LX k q N hna.out Ab cb hnb.out hnm.out hN.out 8 hLX.out _ (HCa.out _ (below_step HB_3.out hHeld.2.2)) (HCb.out _ (below_step HB_3.out hHeld.2.2))).mono ?_
        rintro e X2 ⟨⟨v_, rfl, hoX⟩, hb2⟩
        refine ⟨_, rfl, ?_⟩
        obtain ⟨AX, cX, rfl, hleX, _⟩ := own_C (n := N) hnX_ hmX_.out hoX
        replace hoX := own_weaken hoX (hHeld.2.2).size
        replace RY := below_blk hb2 RY
        refine hK.out _ _ ⟨(below_of hb2 hHeld.1), (below_of hb2 hHeld.2.1), (below_step hHeld.2.2 hb2)⟩ (fun hHeld => ?_)
        clear hK K
        refine norm_ (a' := ?_) ?_ ?_
        rotate_left
        · show Act.put _ (some 44) _ = _
          simp only [Act.put, sa_, sz_, ss_, i64_w, i32_w]
          rfl
        refine two_ (i := 5) (j := 6) (Ni := some 47) (Nj := some 5) #[t_, t_, t_, t_, t_, t_, f_, t_, f_, f_] #[t_, t_, t_, t_, t_, f_, t_, t_, f_, f_] rfl rfl rfl rfl (by kernel_rfl) (by decide) (by decide) (fun K hK => ?_) (fun K hK => ?_)
        · skip
          refine goes_ Try.func22 (by kernel_rfl) rfl #[.agg #[.slice Ab q cb], .agg #[.slice Aa k ca], .int .i64 8] (by rfl) rfl rfl (by simp only [List.map_toArray, List.map_cons, List.map_nil]; rfl) ?_
          with_reducible refine (join_own Ab cb Lb La LY q k N hnb.out Aa ca hna.out hnm2.out hN2.out 8 hLY.out _ (HCb.out _ (below_step HB_3.out hHeld.2.2)) (HCa.out _ (below_step HB_3.out hHeld.2.2))).mono ?_
          rintro e X5 ⟨⟨v_, rfl, hoY⟩, hb5⟩
          refine ⟨_, rfl, ?_⟩
          obtain ⟨AY, cY, rfl, hleY, _⟩ := own_C (n := N) hnY_ hmY_.out hoY
          replace hoY := own_weaken hoY (hHeld.2.2).size
          replace RY := below_blk hb5 RY
          replace hoX := own_below hoX hb5
          refine hK.out _ _ ⟨(below_of hb5 hHeld.1), (below_of hb5 hHeld.2.1), (below_step hHeld.2.2 hb5)⟩ (fun hHeld => ?_)
          clear hK K
          refine norm_ (a' := ?_) ?_ ?_
          rotate_left
          · show Act.put _ (some 47) _ = _
            simp only [Act.put, sa_, sz_, ss_, i64_w, i32_w]
            rfl
          refine one_ (i := 6) (N := some 5) #[t_, t_, t_, t_, t_, t_, t_, t_, f_, f_] rfl rfl (by kernel_rfl) (by decide) (fun K hK => ?_)
          refine value_ (w1 := ?_) (v := ?_) (by rfl) rfl ?_ ?_
          rotate_left 2
          · go_simp
            constructor
            · rfl
            · rfl
          refine letter_ ?_
          intro X6 hW
          have hb6 : Below X5.heap.size X5 X6 := by rw [hW]; exact below1 _ _
          have RX : X6.heap[X5.heap.size]? = some (.cells #[.slice none 0 0] 24 (0, 0)) := by rw [hW]; exact heap_alloc_new _ _
          have leX := (hHeld.2.2).size
          have neY_X := Nat.ne_of_lt (lt_of_blk RY)
          clear hW
          replace RY := below_blk hb6 RY
          replace hoX := own_below hoX hb6
          replace hoY := own_below hoY hb6
          refine hK.out _ _ ⟨(below_of hb6 hHeld.1), (below_of hb6 hHeld.2.1), (below_step hHeld.2.2 hb6)⟩ (fun hHeld => ?_)
          clear hK K
          refine norm_ (a' := ?_) ?_ ?_
          rotate_left
          · show Act.put _ (some 5) _ = _
            simp only [Act.put, sa_, sz_, ss_, i64_w, i32_w]
            rfl
          exact norm_ (by simp only [putAll, Act.put, sa_, sz_, ss_]) (hCont (X5.heap.size, w3.heap.size, (AX, cX), (AY, cY)) _ ⟨RX, RY, leX, leY, neY_X.symm, hoX, hoY, hleX, hleY, hHeld⟩)
        · skip
          refine value_ (w1 := ?_) (v := ?_) (by rfl) rfl ?_ ?_
          rotate_left 2
          · go_simp
            constructor
            · rfl
            · rfl
          refine letter_ ?_
          intro X6 hW
          have hb6 : Below X2.heap.size X2 X6 := by rw [hW]; exact below1 _ _
          have RX : X6.heap[X2.heap.size]? = some (.cells #[.slice none 0 0] 24 (0, 0)) := by rw [hW]; exact heap_alloc_new _ _
          have leX := (hHeld.2.2).size
          have neY_X := Nat.ne_of_lt (lt_of_blk RY)
          clear hW
          replace RY := below_blk hb6 RY
          replace hoX := own_below hoX hb6
          refine hK.out _ _ ⟨(below_of hb6 hHeld.1), (below_of hb6 hHeld.2.1), (below_step hHeld.2.2 hb6)⟩ (fun hHeld => ?_)
          clear hK K
          refine norm_ (a' := ?_) ?_ ?_
          rotate_left
          · show Act.put _ (some 5) _ = _
            simp only [Act.put, sa_, sz_, ss_, i64_w, i32_w]
            rfl
          refine one_ (i := 5) (N := some 47) #[t_, t_, t_, t_, t_, t_, t_, t_, f_, f_] rfl rfl (by kernel_rfl) (by decide) (fun K hK => ?_)
          refine goes_ Try.func22 (by kernel_rfl) rfl #[.agg #[.slice Ab q cb], .agg #[.slice Aa k ca], .int .i64 8] (by rfl) rfl rfl (by simp only [List.map_toArray, List.map_cons, List.map_nil]; rfl) ?_
          with_reducible refine (join_own Ab cb Lb La LY q k N hnb.out Aa ca hna.out hnm2.out hN2.out 8 hLY.out _ (HCb.out _ (below_step HB_3.out hHeld.2.2)) (HCa.out _ (below_step HB_3.out hHeld.2.2))).mono ?_
          rintro e X5 ⟨⟨v_, rfl, hoY⟩, hb5⟩
          refine ⟨_, rfl, ?_⟩
          obtain ⟨AY, cY, rfl, hleY, _⟩ := own_C (n := N) hnY_ hmY_.out hoY
          replace hoY := own_weaken hoY (hHeld.2.2).size
          replace RY := below_blk hb5 RY
          replace hoX := own_below hoX hb5
          replace RX := below_blk hb5 RX
          refine hK.out _ _ ⟨(below_of hb5 hHeld.1), (below_of hb5 hHeld.2.1), (below_step hHeld.2.2 hb5)⟩ (fun hHeld => ?_)
          clear hK K
          refine norm_ (a' := ?_) ?_ ?_
          rotate_left
          · show Act.put _ (some 47) _ = _
            simp only [Act.put, sa_, sz_, ss_, i64_w, i32_w]
            rfl
          exact norm_ (by simp only [putAll, Act.put, sa_, sz_, ss_]) (hCont (X2.heap.size, w3.heap.size, (AX, cX), (AY, cY)) _ ⟨RX, RY, leX, leY, neY_X.symm, hoX, hoY, hleX, hleY, hHeld⟩)
      · skip
        refine value_ (w1 := ?_) (v := ?_) (by rfl) rfl ?_ ?_
        rotate_left 2
        · go_simp
          constructor
          · rfl
          · rfl
        refine letter_ ?_
        intro X6 hW
        have hb6 : Below X7.heap.size X7 X6 := by rw [hW]; exact below1 _ _
        have RX : X6.heap[X7.heap.size]? = some (.cells #[.slice none 0 0] 24 (0, 0)) := by rw [hW]; exact heap_alloc_new _ _
        have leX := (hHeld.2.2).size
        have neY_X := Nat.ne_of_lt (lt_of_blk RY)
        clear hW
        replace RY := below_blk hb6 RY
        refine hK.out _ _ ⟨(below_of hb6 hHeld.1), (below_of hb6 hHeld.2.1), (below_step hHeld.2.2 hb6)⟩ (fun hHeld => ?_)
        clear hK K
        refine norm_ (a' := ?_) ?_ ?_
        rotate_left
        · show Act.put _ (some 5) _ = _
          simp only [Act.put, sa_, sz_, ss_, i64_w, i32_w]
          rfl
        refine one_ (i := 2) (N := some 44) #[t_, t_, t_, t_, t_, f_, t_, t_, f_, f_] rfl rfl (by kernel_rfl) (by decide) (fun K hK => ?_)
        refine goes_ Try.func22 (by kernel_rfl) rfl #[.agg #[.slice Aa k ca], .agg #[.slice Ab q cb], .int .i64 8] (by rfl) rfl rfl (by simp only [List.map_toArray, List.map_cons, List.map_nil]; rfl) ?_
        with_reducible refine (join_own Aa ca La Lb LX k q N hna.out Ab cb hnb.out hnm.out hN.out 8 hLX.out _ (HCa.out _ (below_step HB_3.out hHeld.2.2)) (HCb.out _ (below_step HB_3.out hHeld.2.2))).mono ?_
        rintro e X2 ⟨⟨v_, rfl, hoX⟩, hb2⟩
        refine ⟨_, rfl, ?_⟩
        obtain ⟨AX, cX, rfl, hleX, _⟩ := own_C (n := N) hnX_ hmX_.out hoX
        replace hoX := own_weaken hoX (hHeld.2.2).size
        replace RY := below_blk hb2 RY
        replace RX := below_blk hb2 RX
        refine hK.out _ _ ⟨(below_of hb2 hHeld.1), (below_of hb2 hHeld.2.1), (below_step hHeld.2.2 hb2)⟩ (fun hHeld => ?_)
        clear hK K
        refine norm_ (a' := ?_) ?_ ?_
        rotate_left
        · show Act.put _ (some 44) _ = _
          simp only [Act.put, sa_, sz_, ss_, i64_w, i32_w]
          rfl
        refine one_ (i := 5) (N := some 47) #[t_, t_, t_, t_, t_, t_, t_, t_, f_, f_] rfl rfl (by kernel_rfl) (by decide) (fun K hK => ?_)
        refine goes_ Try.func22 (by kernel_rfl) rfl #[.agg #[.slice Ab q cb], .agg #[.slice Aa k ca], .int .i64 8] (by rfl) rfl rfl (by simp only [List.map_toArray, List.map_cons, List.map_nil]; rfl) ?_
        with_reducible refine (join_own Ab cb Lb La LY q k N hnb.out Aa ca hna.out hnm2.out hN2.out 8 hLY.out _ (HCb.out _ (below_step HB_3.out hHeld.2.2)) (HCa.out _ (below_step HB_3.out hHeld.2.2))).mono ?_
        rintro e X5 ⟨⟨v_, rfl, hoY⟩, hb5⟩
        refine ⟨_, rfl, ?_⟩
        obtain ⟨AY, cY, rfl, hleY, _⟩ := own_C (n := N) hnY_ hmY_.out hoY
        replace hoY := own_weaken hoY (hHeld.2.2).size
        replace RY := below_blk hb5 RY
        replace RX := below_blk hb5 RX
        replace hoX := own_below hoX hb5
        refine hK.out _ _ ⟨(below_of hb5 hHeld.1), (below_of hb5 hHeld.2.1), (below_step hHeld.2.2 hb5)⟩ (fun hHeld => ?_)
        clear hK K
        refine norm_ (a' := ?_) ?_ ?_
        rotate_left
        · show Act.put _ (some 47) _ = _
          simp only [Act.put, sa_, sz_, ss_, i64_w, i32_w]
          rfl
        exact norm_ (by simp only [putAll, Act.put, sa_, sz_, ss_]) (hCont (X7.heap.size, w3.heap.size, (AX, cX), (AY, cY)) _ ⟨RX, RY, leX, leY, neY_X.symm, hoX, hoY, hleX, hleY, hHeld⟩)
  rintro ⟨PX, PY, ⟨AX, cX⟩, ⟨AY, cY⟩⟩ W4 ⟨RX, RY, leX, leY, neX_Y, hoX, hoY, hleX, hleY, hHeld⟩
  simp only [] at RX RY leX leY hoX hoY hleX hleY
  refine norm_ (a' := ?_) ?_ ?_
  rotate_left
  · simp only [putAll, Act.put, sa_, sz_, ss_]
    rfl
  refine last_ (i := 8) (N := none) #[t_, t_, t_, t_, t_, t_, t_, t_, t_, f_] rfl rfl (by kernel_rfl) (by decide) (fun K hK => ?_)
  have c8 := blk_cell RX 0 (.slice none 0 0) rfl
  have f8 := blk_free RX 0
  refine skip_ (w1 := ?_) (by rfl) rfl ?_ ?_
  rotate_left
  · go_simp
    rfl
  refine hK.out _ _ ?_
  clear hK K
  refine last_ (i := 9) (N := none) #[t_, t_, t_, t_, t_, t_, t_, t_, t_, t_] rfl rfl (by kernel_rfl) (by decide) (fun K hK => ?_)
  have RY2 := set_other (c := PX) (i := 0) (v := .slice AX N cX) RY neX_Y.symm
  have c9 := blk_cell RY2 0 (.slice none 0 0) rfl
  have f9 := blk_free RY2 0
  refine skip_ (w1 := ?_) (by rfl) rfl ?_ ?_
  rotate_left
  · go_simp
    rfl
  refine hK.out _ _ ?_
  clear hK K
  refine done_ (by kernel_rfl) ?_
  obtain ⟨_, _, hbz⟩ := hHeld
  have hb := CMem.below_set (b := PY) (i := 0) (CMem.below_set (b := PX) (i := 0) hbz leX (.slice AX N cX)) leY (.slice AY N cY)
  have BX_4 := Lib.hid (set_other (c := PY) (i := 0) (v := .slice AY N cY) (set_blk (i := 0) RX (.slice AX N cX)) neX_Y)
  have BY_4 := Lib.hid (set_blk (i := 0) RY2 (.slice AY N cY))
  have CX_4 := Lib.hid (own_Cs hnX_.out hmX_.out (own_set (val := .slice AY N cY) (own_set (val := .slice AX N cX) hoX RX) RY2))
  have CY_4 := Lib.hid (own_Cs hnY_.out hmY_.out (own_set (val := .slice AY N cY) (own_set (val := .slice AX N cX) hoY RX) RY2))
  have LX_4 := blk_cell BX_4.out 0 (.slice AX N cX) rfl
  have LY_4 := blk_cell BY_4.out 0 (.slice AY N cY) rfl
  have HHX := Lib.hid hleX
  have HHY := Lib.hid hleY
  clear c8 f8 c9 f9 RX RY RY2 hoX hoY leX leY neX_Y hleX hleY hbz hZ
  have Ba_4 := Lib.hid (below_blk hb Ba_3.out)
  have La_4 := blk_cell Ba_4.out 0 (.slice Aa k ca) rfl
  have Bb_4 := Lib.hid (below_blk hb Bb_3.out)
  have Lb_4 := blk_cell Bb_4.out 0 (.slice Ab q cb) rfl
  have HB_4 := Lib.hid (below_step HB_3.out hb)
  clear hb HB_3 Ba_3 La_3 Bb_3 Lb_3
  generalize hW : (W4.setCell ⟨PX, 0, none⟩ (.slice AX N cX)).setCell ⟨PY, 0, none⟩ (.slice AY N cY) = v4 at *
  clear hW
  obtain ⟨I, u, v, sb, hI, p1, p2, p3, p4, p5, p6⟩ := plain La Lb LX LY k q N x y hna.out hnb.out HK.out.1 HK.out.2 hRA.out hRB.out hg8.out HX.out HY.out hz8.out hN.out hLX.out hLY.out
  replace p1 := Lib.hid p1
  replace p2 := Lib.hid p2
  replace p3 := Lib.hid p3
  replace p4 := Lib.hid p4
  replace p5 := Lib.hid p5
  replace p6 := Lib.hid p6
  go_wp2_with fail
  refine (len_tree AX cX LX N I u v 0 hnX_.out hN5.out p3.out _ CX_4.out).mono ?_
  rintro e w5 ⟨rfl, hb⟩
  have CX_5 := Lib.hid (Kd.C_below CX_4.out hb)
  have CY_5 := Lib.hid (Kd.C_below CY_4.out hb)
  have Ba_5 := Lib.hid (below_blk hb Ba_4.out)
  have La_5 := blk_cell Ba_5.out 0 (.slice Aa k ca) rfl
  have Bb_5 := Lib.hid (below_blk hb Bb_4.out)
  have Lb_5 := blk_cell Bb_5.out 0 (.slice Ab q cb) rfl
  have BX_5 := Lib.hid (below_blk hb BX_4.out)
  have LX_5 := blk_cell BX_5.out 0 (.slice AX N cX) rfl
  have BY_5 := Lib.hid (below_blk hb BY_4.out)
  have LY_5 := blk_cell BY_5.out 0 (.slice AY N cY) rfl
  have HB_5 := Lib.hid (below_step HB_4.out hb)
  clear hb HB_4 CX_4 CY_4 Ba_4 La_4 Bb_4 Lb_4 BX_4 LX_4 BY_4 LY_4
  go_wp2_with fail
  refine (len_tree AY cY LY N I u v 0 hnY_.out hN5.out p4.out _ CY_5.out).mono ?_
  rintro e w6 ⟨rfl, hb⟩
  have CX_6 := Lib.hid (Kd.C_below CX_5.out hb)
  have CY_6 := Lib.hid (Kd.C_below CY_5.out hb)
  have Ba_6 := Lib.hid (below_blk hb Ba_5.out)
  have La_6 := blk_cell Ba_6.out 0 (.slice Aa k ca) rfl
  have Bb_6 := Lib.hid (below_blk hb Bb_5.out)
  have Lb_6 := blk_cell Bb_6.out 0 (.slice Ab q cb) rfl
  have BX_6 := Lib.hid (below_blk hb BX_5.out)
  have LX_6 := blk_cell BX_6.out 0 (.slice AX N cX) rfl
  have BY_6 := Lib.hid (below_blk hb BY_5.out)
  have LY_6 := blk_cell BY_6.out 0 (.slice AY N cY) rfl
  have HB_6 := Lib.hid (below_step HB_5.out hb)
  clear hb HB_5 CX_5 CY_5 Ba_5 La_5 Bb_5 Lb_5 BX_5 LX_5 BY_5 LY_5
  go_wp2_with fail
  have hZ := Lib.hid (Below.refl w6.heap.size w6)
  refine start_ (n := 39) (S := fun w' => w'.cell? ⟨w.heap.size, 0, none⟩ = some (.slice Aa k ca) ∧ w'.cell? ⟨w.heap.size + 1, 0, none⟩ = some (.slice Ab q cb) ∧ w'.cell? ⟨PX, 0, none⟩ = some (.slice AX N cX) ∧ w'.cell? ⟨PY, 0, none⟩ = some (.slice AY N cY) ∧ Below w6.heap.size w6 w') (ds := []) #[f_, f_, f_, f_, f_, f_, f_, f_, f_, f_, f_, f_, f_, f_, f_, f_, f_, f_, f_, f_, f_, f_, f_, f_, f_, f_, f_, f_, f_, f_, f_, f_, f_, f_, f_, f_, f_, f_, f_] (by kernel_rfl) rfl rfl ⟨La_6, Lb_6, LX_6, LY_6, hZ.out.drew⟩ (fun hHeld => ?_)
  refine take_ (i := 0) (N := some 68) (v := ?_) (a' := ?_) #[t_, f_, f_, f_, f_, f_, f_, f_, f_, f_, f_, f_, f_, f_, f_, f_, f_, f_, f_, f_, f_, f_, f_, f_, f_, f_, f_, f_, f_, f_, f_, f_, f_, f_, f_, f_, f_, f_, f_] rfl rfl (by kernel_rfl) (fun _ _ _ h => h) (Or.inl ⟨by rfl, ?_⟩) hHeld ?_ ?_
  rotate_left
  · rintro w' ⟨s0, s1, s2, s3, s4⟩
    go_simp
    with_reducible rfl
  rotate_left
  · simp only [Act.put, sa_, sz_, ss_, i64_w, i32_w]
    rfl
  refine one_ (i := 1) (N := some 69) #[t_, t_, f_, f_, f_, f_, f_, f_, f_, f_, f_, f_, f_, f_, f_, f_, f_, f_, f_, f_, f_, f_, f_, f_, f_, f_, f_, f_, f_, f_, f_, f_, f_, f_, f_, f_, f_, f_, f_] rfl rfl (by kernel_rfl) (by decide) (fun K hK => ?_)
  refine goes_ Try.func14 (by kernel_rfl) rfl #[.agg #[.slice AX N cX]] (by rfl) rfl rfl (by simp only [List.map_toArray, List.map_cons, List.map_nil]; rfl) ?_
  with_reducible refine (right_tree AX cX LX N 0 hnX_.out hN5.out p1.out _ (Kd.C_below CX_6.out hHeld.2.2.2.2)).mono ?_
  rintro e x0 ⟨rfl, hbq0⟩
  refine ⟨_, rfl, ?_⟩
  refine hK.out _ _ ⟨(below_of hbq0 hHeld.1), (below_of hbq0 hHeld.2.1), (below_of hbq0 hHeld.2.2.1), (below_of hbq0 hHeld.2.2.2.1), (below_step hHeld.2.2.2.2 hbq0)⟩ (fun hHeld => ?_)
  clear hK K
  refine norm_ (a' := ?_) ?_ ?_
  rotate_left
  · show Act.put _ (some 69) _ = _
    simp only [Act.put, sa_, sz_, ss_, i64_w, i32_w]
    rfl
  refine pure_ (i := 2) (N := some 70) (v := ?_) (a' := ?_) #[t_, t_, t_, f_, f_, f_, f_, f_, f_, f_, f_, f_, f_, f_, f_, f_, f_, f_, f_, f_, f_, f_, f_, f_, f_, f_, f_, f_, f_, f_, f_, f_, f_, f_, f_, f_, f_, f_, f_] rfl rfl (by kernel_rfl) (fun _ _ _ h => h) (Or.inl ⟨by rfl, ?_⟩) ?_ ?_
  rotate_left
  · intro w'
    go_simp
    with_reducible rfl
  rotate_left
  · simp only [Act.put, sa_, sz_, ss_, i64_w, i32_w]
    rfl
  refine pure_ (i := 3) (N := some 71) (v := ?_) (a' := ?_) #[t_, t_, t_, t_, f_, f_, f_, f_, f_, f_, f_, f_, f_, f_, f_, f_, f_, f_, f_, f_, f_, f_, f_, f_, f_, f_, f_, f_, f_, f_, f_, f_, f_, f_, f_, f_, f_, f_, f_] rfl rfl (by kernel_rfl) (fun _ _ _ h => h) (Or.inl ⟨by rfl, ?_⟩) ?_ ?_
  rotate_left
  · intro w'
    go_simp
    with_reducible rfl
  rotate_left
  · simp only [Act.put, sa_, sz_, ss_, i64_w, i32_w]
    rfl
  refine take_ (i := 4) (N := some 72) (v := ?_) (a' := ?_) #[t_, t_, t_, t_, t_, f_, f_, f_, f_, f_, f_, f_, f_, f_, f_, f_, f_, f_, f_, f_, f_, f_, f_, f_, f_, f_, f_, f_, f_, f_, f_, f_, f_, f_, f_, f_, f_, f_, f_] rfl rfl (by kernel_rfl) (fun _ _ _ h => h) (Or.inl ⟨by rfl, ?_⟩) hHeld ?_ ?_
  rotate_left
  · rintro w' ⟨s0, s1, s2, s3, s4⟩
    go_simp
    with_reducible rfl
  rotate_left
  · simp only [Act.put, sa_, sz_, ss_, i64_w, i32_w]
    rfl
  refine one_ (i := 5) (N := some 73) #[t_, t_, t_, t_, t_, t_, f_, f_, f_, f_, f_, f_, f_, f_, f_, f_, f_, f_, f_, f_, f_, f_, f_, f_, f_, f_, f_, f_, f_, f_, f_, f_, f_, f_, f_, f_, f_, f_, f_] rfl rfl (by kernel_rfl) (by decide) (fun K hK => ?_)
  refine goes_ Try.func14 (by kernel_rfl) rfl #[.agg #[.slice AY N cY]] (by rfl) rfl rfl (by simp only [List.map_toArray, List.map_cons, List.map_nil]; rfl) ?_
  with_reducible refine (right_tree AY cY LY N 0 hnY_.out hN5.out p2.out _ (Kd.C_below CY_6.out hHeld.2.2.2.2)).mono ?_
  rintro e x1 ⟨rfl, hbq1⟩
  refine ⟨_, rfl, ?_⟩
  refine hK.out _ _ ⟨(below_of hbq1 hHeld.1), (below_of hbq1 hHeld.2.1), (below_of hbq1 hHeld.2.2.1), (below_of hbq1 hHeld.2.2.2.1), (below_step hHeld.2.2.2.2 hbq1)⟩ (fun hHeld => ?_)
  clear hK K
  refine norm_ (a' := ?_) ?_ ?_
  rotate_left
  · show Act.put _ (some 73) _ = _
    simp only [Act.put, sa_, sz_, ss_, i64_w, i32_w]
    rfl
  refine pure_ (i := 6) (N := some 74) (v := ?_) (a' := ?_) #[t_, t_, t_, t_, t_, t_, t_, f_, f_, f_, f_, f_, f_, f_, f_, f_, f_, f_, f_, f_, f_, f_, f_, f_, f_, f_, f_, f_, f_, f_, f_, f_, f_, f_, f_, f_, f_, f_, f_] rfl rfl (by kernel_rfl) (fun _ _ _ h => h) (Or.inl ⟨by rfl, ?_⟩) ?_ ?_
  rotate_left
  · intro w'
    go_simp
    with_reducible rfl
  rotate_left
  · simp only [Act.put, sa_, sz_, ss_, i64_w, i32_w]
    rfl
  refine pure_ (i := 7) (N := some 75) (v := ?_) (a' := ?_) #[t_, t_, t_, t_, t_, t_, t_, t_, f_, f_, f_, f_, f_, f_, f_, f_, f_, f_, f_, f_, f_, f_, f_, f_, f_, f_, f_, f_, f_, f_, f_, f_, f_, f_, f_, f_, f_, f_, f_] rfl rfl (by kernel_rfl) (fun _ _ _ h => h) (Or.inl ⟨by rfl, ?_⟩) ?_ ?_
  rotate_left
  · intro w'
    go_simp
    with_reducible rfl
  rotate_left
  · simp only [Act.put, sa_, sz_, ss_, i64_w, i32_w]
    rfl
  refine pure_ (i := 8) (N := some 76) (v := ?_) (a' := ?_) #[t_, t_, t_, t_, t_, t_, t_, t_, t_, f_, f_, f_, f_, f_, f_, f_, f_, f_, f_, f_, f_, f_, f_, f_, f_, f_, f_, f_, f_, f_, f_, f_, f_, f_, f_, f_, f_, f_, f_] rfl rfl (by kernel_rfl) (fun _ _ _ h => h) (Or.inl ⟨by rfl, ?_⟩) ?_ ?_
  rotate_left
  · intro w'
    go_simp
    with_reducible rfl
  rotate_left
  · simp only [Act.put, sa_, sz_, ss_, i64_w, i32_w]
    rfl
  refine pure_ (i := 9) (N := some 77) (v := ?_) (a' := ?_) #[t_, t_, t_, t_, t_, t_, t_, t_, t_, t_, f_, f_, f_, f_, f_, f_, f_, f_, f_, f_, f_, f_, f_, f_, f_, f_, f_, f_, f_, f_, f_, f_, f_, f_, f_, f_, f_, f_, f_] rfl rfl (by kernel_rfl) (fun _ _ _ h => h) (Or.inl ⟨by rfl, ?_⟩) ?_ ?_
  rotate_left
  · intro w'
    go_simp
    with_reducible rfl
  rotate_left
  · simp only [Act.put, sa_, sz_, ss_, i64_w, i32_w]
    rfl
  refine pure_ (i := 10) (N := some 78) (v := ?_) (a' := ?_) #[t_, t_, t_, t_, t_, t_, t_, t_, t_, t_, t_, f_, f_, f_, f_, f_, f_, f_, f_, f_, f_, f_, f_, f_, f_, f_, f_, f_, f_, f_, f_, f_, f_, f_, f_, f_, f_, f_, f_] rfl rfl (by kernel_rfl) (fun _ _ _ h => h) (Or.inl ⟨by rfl, ?_⟩) ?_ ?_
  rotate_left
  · intro w'
    go_simp
    with_reducible rfl
  rotate_left
  · simp only [Act.put, sa_, sz_, ss_, i64_w, i32_w]
    rfl
  refine pure_ (i := 11) (N := some 79) (v := ?_) (a' := ?_) #[t_, t_, t_, t_, t_, t_, t_, t_, t_, t_, t_, t_, f_, f_, f_, f_, f_, f_, f_, f_, f_, f_, f_, f_, f_, f_, f_, f_, f_, f_, f_, f_, f_, f_, f_, f_, f_, f_, f_] rfl rfl (by kernel_rfl) (fun _ _ _ h => h) (Or.inl ⟨by rfl, ?_⟩) ?_ ?_
  rotate_left
  · intro w'
    go_simp
    with_reducible rfl
  rotate_left
  · simp only [Act.put, sa_, sz_, ss_, i64_w, i32_w]
    rfl
  refine pure_ (i := 12) (N := some 80) (v := ?_) (a' := ?_) #[t_, t_, t_, t_, t_, t_, t_, t_, t_, t_, t_, t_, t_, f_, f_, f_, f_, f_, f_, f_, f_, f_, f_, f_, f_, f_, f_, f_, f_, f_, f_, f_, f_, f_, f_, f_, f_, f_, f_] rfl rfl (by kernel_rfl) (fun _ _ _ h => h) (Or.inl ⟨by rfl, ?_⟩) ?_ ?_
  rotate_left
  · intro w'
    go_simp
    with_reducible rfl
  rotate_left
  · simp only [Act.put, sa_, sz_, ss_, i64_w, i32_w]
    rfl
  refine pure_ (i := 13) (N := some 81) (v := ?_) (a' := ?_) #[t_, t_, t_, t_, t_, t_, t_, t_, t_, t_, t_, t_, t_, t_, f_, f_, f_, f_, f_, f_, f_, f_, f_, f_, f_, f_, f_, f_, f_, f_, f_, f_, f_, f_, f_, f_, f_, f_, f_] rfl rfl (by kernel_rfl) (fun _ _ _ h => h) (Or.inl ⟨by rfl, ?_⟩) ?_ ?_
  rotate_left
  · intro w'
    go_simp
    with_reducible rfl
  rotate_left
  · simp only [Act.put, sa_, sz_, ss_, i64_w, i32_w]
    rfl
  refine pure_ (i := 14) (N := some 82) (v := ?_) (a' := ?_) #[t_, t_, t_, t_, t_, t_, t_, t_, t_, t_, t_, t_, t_, t_, t_, f_, f_, f_, f_, f_, f_, f_, f_, f_, f_, f_, f_, f_, f_, f_, f_, f_, f_, f_, f_, f_, f_, f_, f_] rfl rfl (by kernel_rfl) (fun _ _ _ h => h) (Or.inl ⟨by rfl, ?_⟩) ?_ ?_
  rotate_left
  · intro w'
    go_simp
    with_reducible rfl
  rotate_left
  · simp only [Act.put, sa_, sz_, ss_, i64_w, i32_w]
    rfl
  refine pure_ (i := 15) (N := some 83) (v := ?_) (a' := ?_) #[t_, t_, t_, t_, t_, t_, t_, t_, t_, t_, t_, t_, t_, t_, t_, t_, f_, f_, f_, f_, f_, f_, f_, f_, f_, f_, f_, f_, f_, f_, f_, f_, f_, f_, f_, f_, f_, f_, f_] rfl rfl (by kernel_rfl) (fun _ _ _ h => h) (Or.inl ⟨by rfl, ?_⟩) ?_ ?_
  rotate_left
  · intro w'
    go_simp
    with_reducible rfl
  rotate_left
  · simp only [Act.put, sa_, sz_, ss_, i64_w, i32_w]
    rfl
  refine pure_ (i := 16) (N := some 84) (v := ?_) (a' := ?_) #[t_, t_, t_, t_, t_, t_, t_, t_, t_, t_, t_, t_, t_, t_, t_, t_, t_, f_, f_, f_, f_, f_, f_, f_, f_, f_, f_, f_, f_, f_, f_, f_, f_, f_, f_, f_, f_, f_, f_] rfl rfl (by kernel_rfl) (fun _ _ _ h => h) (Or.inl ⟨by rfl, ?_⟩) ?_ ?_
  rotate_left
  · intro w'
    go_simp
    with_reducible rfl
  rotate_left
  · simp only [Act.put, sa_, sz_, ss_, i64_w, i32_w]
    rfl
  refine pure_ (i := 17) (N := some 85) (v := ?_) (a' := ?_) #[t_, t_, t_, t_, t_, t_, t_, t_, t_, t_, t_, t_, t_, t_, t_, t_, t_, t_, f_, f_, f_, f_, f_, f_, f_, f_, f_, f_, f_, f_, f_, f_, f_, f_, f_, f_, f_, f_, f_] rfl rfl (by kernel_rfl) (fun _ _ _ h => h) (Or.inl ⟨by rfl, ?_⟩) ?_ ?_
  rotate_left
  · intro w'
    go_simp
    with_reducible rfl
  rotate_left
  · simp only [Act.put, sa_, sz_, ss_, i64_w, i32_w]
    rfl
  refine pure_ (i := 18) (N := some 86) (v := ?_) (a' := ?_) #[t_, t_, t_, t_, t_, t_, t_, t_, t_, t_, t_, t_, t_, t_, t_, t_, t_, t_, t_, f_, f_, f_, f_, f_, f_, f_, f_, f_, f_, f_, f_, f_, f_, f_, f_, f_, f_, f_, f_] rfl rfl (by kernel_rfl) (fun _ _ _ h => h) (Or.inl ⟨by rfl, ?_⟩) ?_ ?_
  rotate_left
  · intro w'
    go_simp
    with_reducible rfl
  rotate_left
  · simp only [Act.put, sa_, sz_, ss_, i64_w, i32_w]
    rfl
  refine pure_ (i := 19) (N := some 87) (v := ?_) (a' := ?_) #[t_, t_, t_, t_, t_, t_, t_, t_, t_, t_, t_, t_, t_, t_, t_, t_, t_, t_, t_, t_, f_, f_, f_, f_, f_, f_, f_, f_, f_, f_, f_, f_, f_, f_, f_, f_, f_, f_, f_] rfl rfl (by kernel_rfl) (fun _ _ _ h => h) (Or.inl ⟨by rfl, ?_⟩) ?_ ?_
  rotate_left
  · intro w'
    go_simp
    with_reducible rfl
  rotate_left
  · simp only [Act.put, sa_, sz_, ss_, i64_w, i32_w]
    rfl
  refine pure_ (i := 20) (N := some 88) (v := ?_) (a' := ?_) #[t_, t_, t_, t_, t_, t_, t_, t_, t_, t_, t_, t_, t_, t_, t_, t_, t_, t_, t_, t_, t_, f_, f_, f_, f_, f_, f_, f_, f_, f_, f_, f_, f_, f_, f_, f_, f_, f_, f_] rfl rfl (by kernel_rfl) (fun _ _ _ h => h) (Or.inl ⟨by rfl, ?_⟩) ?_ ?_
  rotate_left
  · intro w'
    go_simp
    with_reducible rfl
  rotate_left
  · simp only [Act.put, sa_, sz_, ss_, i64_w, i32_w]
    rfl
  refine pure_ (i := 21) (N := some 89) (v := ?_) (a' := ?_) #[t_, t_, t_, t_, t_, t_, t_, t_, t_, t_, t_, t_, t_, t_, t_, t_, t_, t_, t_, t_, t_, t_, f_, f_, f_, f_, f_, f_, f_, f_, f_, f_, f_, f_, f_, f_, f_, f_, f_] rfl rfl (by kernel_rfl) (fun _ _ _ h => h) (Or.inl ⟨by rfl, ?_⟩) ?_ ?_
  rotate_left
  · intro w'
    go_simp
    with_reducible rfl
  rotate_left
  · simp only [Act.put, sa_, sz_, ss_, i64_w, i32_w]
    rfl
  refine pure_ (i := 22) (N := some 90) (v := ?_) (a' := ?_) #[t_, t_, t_, t_, t_, t_, t_, t_, t_, t_, t_, t_, t_, t_, t_, t_, t_, t_, t_, t_, t_, t_, t_, f_, f_, f_, f_, f_, f_, f_, f_, f_, f_, f_, f_, f_, f_, f_, f_] rfl rfl (by kernel_rfl) (fun _ _ _ h => h) (Or.inl ⟨by rfl, ?_⟩) ?_ ?_
  rotate_left
  · intro w'
    go_simp
    with_reducible rfl
  rotate_left
  · simp only [Act.put, sa_, sz_, ss_, i64_w, i32_w]
    rfl
  refine pure_ (i := 23) (N := some 91) (v := ?_) (a' := ?_) #[t_, t_, t_, t_, t_, t_, t_, t_, t_, t_, t_, t_, t_, t_, t_, t_, t_, t_, t_, t_, t_, t_, t_, t_, f_, f_, f_, f_, f_, f_, f_, f_, f_, f_, f_, f_, f_, f_, f_] rfl rfl (by kernel_rfl) (fun _ _ _ h => h) (Or.inl ⟨by rfl, ?_⟩) ?_ ?_
  rotate_left
  · intro w'
    go_simp
    with_reducible rfl
  rotate_left
  · simp only [Act.put, sa_, sz_, ss_, i64_w, i32_w]
    rfl
  refine pure_ (i := 24) (N := some 92) (v := ?_) (a' := ?_) #[t_, t_, t_, t_, t_, t_, t_, t_, t_, t_, t_, t_, t_, t_, t_, t_, t_, t_, t_, t_, t_, t_, t_, t_, t_, f_, f_, f_, f_, f_, f_, f_, f_, f_, f_, f_, f_, f_, f_] rfl rfl (by kernel_rfl) (fun _ _ _ h => h) (Or.inl ⟨by rfl, ?_⟩) ?_ ?_
  rotate_left
  · intro w'
    go_simp
    with_reducible rfl
  rotate_left
  · simp only [Act.put, sa_, sz_, ss_, i64_w, i32_w]
    rfl
  refine pure_ (i := 25) (N := some 93) (v := ?_) (a' := ?_) #[t_, t_, t_, t_, t_, t_, t_, t_, t_, t_, t_, t_, t_, t_, t_, t_, t_, t_, t_, t_, t_, t_, t_, t_, t_, t_, f_, f_, f_, f_, f_, f_, f_, f_, f_, f_, f_, f_, f_] rfl rfl (by kernel_rfl) (fun _ _ _ h => h) (Or.inl ⟨by rfl, ?_⟩) ?_ ?_
  rotate_left
  · intro w'
    go_simp
    with_reducible rfl
  rotate_left
  · simp only [Act.put, sa_, sz_, ss_, i64_w, i32_w]
    rfl
  refine pure_ (i := 26) (N := some 94) (v := ?_) (a' := ?_) #[t_, t_, t_, t_, t_, t_, t_, t_, t_, t_, t_, t_, t_, t_, t_, t_, t_, t_, t_, t_, t_, t_, t_, t_, t_, t_, t_, f_, f_, f_, f_, f_, f_, f_, f_, f_, f_, f_, f_] rfl rfl (by kernel_rfl) (fun _ _ _ h => h) (Or.inl ⟨by rfl, ?_⟩) ?_ ?_
  rotate_left
  · intro w'
    go_simp
    with_reducible rfl
  rotate_left
  · simp only [Act.put, sa_, sz_, ss_, i64_w, i32_w]
    rfl
  refine take_ (i := 27) (N := some 95) (v := ?_) (a' := ?_) #[t_, t_, t_, t_, t_, t_, t_, t_, t_, t_, t_, t_, t_, t_, t_, t_, t_, t_, t_, t_, t_, t_, t_, t_, t_, t_, t_, t_, f_, f_, f_, f_, f_, f_, f_, f_, f_, f_, f_] rfl rfl (by kernel_rfl) (fun _ _ _ h => h) (Or.inl ⟨by rfl, ?_⟩) hHeld ?_ ?_
  rotate_left
  · rintro w' ⟨s0, s1, s2, s3, s4⟩
    go_simp
    with_reducible rfl
  rotate_left
  · simp only [Act.put, sa_, sz_, ss_, i64_w, i32_w]
    rfl
  refine take_ (i := 28) (N := some 96) (v := ?_) (a' := ?_) #[t_, t_, t_, t_, t_, t_, t_, t_, t_, t_, t_, t_, t_, t_, t_, t_, t_, t_, t_, t_, t_, t_, t_, t_, t_, t_, t_, t_, t_, f_, f_, f_, f_, f_, f_, f_, f_, f_, f_] rfl rfl (by kernel_rfl) (fun _ _ _ h => h) (Or.inl ⟨by rfl, ?_⟩) hHeld ?_ ?_
  rotate_left
  · rintro w' ⟨s0, s1, s2, s3, s4⟩
    go_simp
    with_reducible rfl
  rotate_left
  · simp only [Act.put, sa_, sz_, ss_, i64_w, i32_w]
    rfl
  refine take_ (i := 30) (N := some 98) (v := ?_) (a' := ?_) #[t_, t_, t_, t_, t_, t_, t_, t_, t_, t_, t_, t_, t_, t_, t_, t_, t_, t_, t_, t_, t_, t_, t_, t_, t_, t_, t_, t_, t_, f_, t_, f_, f_, f_, f_, f_, f_, f_, f_] rfl rfl (by kernel_rfl) (fun _ _ _ h => h) (Or.inl ⟨by rfl, ?_⟩) hHeld ?_ ?_
  rotate_left
  · rintro w' ⟨s0, s1, s2, s3, s4⟩
    go_simp
    with_reducible rfl
  rotate_left
  · simp only [Act.put, sa_, sz_, ss_, i64_w, i32_w]
    rfl
  refine take_ (i := 31) (N := some 99) (v := ?_) (a' := ?_) #[t_, t_, t_, t_, t_, t_, t_, t_, t_, t_, t_, t_, t_, t_, t_, t_, t_, t_, t_, t_, t_, t_, t_, t_, t_, t_, t_, t_, t_, f_, t_, t_, f_, f_, f_, f_, f_, f_, f_] rfl rfl (by kernel_rfl) (fun _ _ _ h => h) (Or.inl ⟨by rfl, ?_⟩) hHeld ?_ ?_
  rotate_left
  · rintro w' ⟨s0, s1, s2, s3, s4⟩
    go_simp
    with_reducible rfl
  rotate_left
  · simp only [Act.put, sa_, sz_, ss_, i64_w, i32_w]
    rfl
  refine one_ (i := 29) (N := some 97) #[t_, t_, t_, t_, t_, t_, t_, t_, t_, t_, t_, t_, t_, t_, t_, t_, t_, t_, t_, t_, t_, t_, t_, t_, t_, t_, t_, t_, t_, t_, t_, t_, f_, f_, f_, f_, f_, f_, f_] rfl rfl (by kernel_rfl) (by decide) (fun K hK => ?_)
  refine goes_ Try.func28 (by kernel_rfl) rfl #[.agg #[.slice AX N cX], .agg #[.slice AY N cY]] (by rfl) rfl rfl (by simp only [List.map_toArray, List.map_cons, List.map_nil]; rfl) ?_
  with_reducible refine (same_tree AX cX LX N AY cY LY N sb hnX_.out hnY_.out hN5.out HHX.out HHY.out p6.out _ (Kd.C_below CX_6.out hHeld.2.2.2.2) (Kd.C_below CY_6.out hHeld.2.2.2.2)).mono ?_
  rintro e x2 ⟨rfl, hbq2⟩
  refine ⟨_, rfl, ?_⟩
  refine hK.out _ _ ⟨(below_of hbq2 hHeld.1), (below_of hbq2 hHeld.2.1), (below_of hbq2 hHeld.2.2.1), (below_of hbq2 hHeld.2.2.2.1), (below_step hHeld.2.2.2.2 hbq2)⟩ (fun hHeld => ?_)
  clear hK K
  refine norm_ (a' := ?_) ?_ ?_
  rotate_left
  · show Act.put _ (some 97) _ = _
    simp only [Act.put, sa_, sz_, ss_, i64_w, i32_w]
    rfl
  refine one_ (i := 32) (N := some 100) #[t_, t_, t_, t_, t_, t_, t_, t_, t_, t_, t_, t_, t_, t_, t_, t_, t_, t_, t_, t_, t_, t_, t_, t_, t_, t_, t_, t_, t_, t_, t_, t_, t_, f_, f_, f_, f_, f_, f_] rfl rfl (by kernel_rfl) (by decide) (fun K hK => ?_)
  refine goes_ Try.func28 (by kernel_rfl) rfl #[.agg #[.slice Aa k ca], .agg #[.slice Ab q cb]] (by rfl) rfl rfl (by simp only [List.map_toArray, List.map_cons, List.map_nil]; rfl) ?_
  with_reducible refine (same_tree Aa ca La k Ab cb Lb q sb hna.out hnb.out hk6.out HHa.out HHb.out p5.out _ (HCa.out _ (below_step HB_6.out hHeld.2.2.2.2)) (HCb.out _ (below_step HB_6.out hHeld.2.2.2.2))).mono ?_
  rintro e x3 ⟨rfl, hbq3⟩
  refine ⟨_, rfl, ?_⟩
  refine hK.out _ _ ⟨(below_of hbq3 hHeld.1), (below_of hbq3 hHeld.2.1), (below_of hbq3 hHeld.2.2.1), (below_of hbq3 hHeld.2.2.2.1), (below_step hHeld.2.2.2.2 hbq3)⟩ (fun hHeld => ?_)
  clear hK K
  refine norm_ (a' := ?_) ?_ ?_
  rotate_left
  · show Act.put _ (some 100) _ = _
    simp only [Act.put, sa_, sz_, ss_, i64_w, i32_w]
    rfl
  refine pure_ (i := 33) (N := some 101) (v := ?_) (a' := ?_) #[t_, t_, t_, t_, t_, t_, t_, t_, t_, t_, t_, t_, t_, t_, t_, t_, t_, t_, t_, t_, t_, t_, t_, t_, t_, t_, t_, t_, t_, t_, t_, t_, t_, t_, f_, f_, f_, f_, f_] rfl rfl (by kernel_rfl) (fun _ _ _ h => h) (Or.inl ⟨by rfl, ?_⟩) ?_ ?_
  rotate_left
  · intro w'
    go_simp
    with_reducible rfl
  rotate_left
  · simp only [Act.put, sa_, sz_, ss_, i64_w, i32_w]
    rfl
  refine pure_ (i := 34) (N := some 102) (v := ?_) (a' := ?_) #[t_, t_, t_, t_, t_, t_, t_, t_, t_, t_, t_, t_, t_, t_, t_, t_, t_, t_, t_, t_, t_, t_, t_, t_, t_, t_, t_, t_, t_, t_, t_, t_, t_, t_, t_, f_, f_, f_, f_] rfl rfl (by kernel_rfl) (fun _ _ _ h => h) (Or.inl ⟨by rfl, ?_⟩) ?_ ?_
  rotate_left
  · intro w'
    go_simp
    with_reducible rfl
  rotate_left
  · simp only [Act.put, sa_, sz_, ss_, i64_w, i32_w]
    rfl
  refine pure_ (i := 35) (N := some 103) (v := ?_) (a' := ?_) #[t_, t_, t_, t_, t_, t_, t_, t_, t_, t_, t_, t_, t_, t_, t_, t_, t_, t_, t_, t_, t_, t_, t_, t_, t_, t_, t_, t_, t_, t_, t_, t_, t_, t_, t_, t_, f_, f_, f_] rfl rfl (by kernel_rfl) (fun _ _ _ h => h) (Or.inl ⟨by rfl, ?_⟩) ?_ ?_
  rotate_left
  · intro w'
    go_simp
    with_reducible rfl
  rotate_left
  · simp only [Act.put, sa_, sz_, ss_, i64_w, i32_w]
    rfl
  refine one_ (i := 36) (N := some 104) #[t_, t_, t_, t_, t_, t_, t_, t_, t_, t_, t_, t_, t_, t_, t_, t_, t_, t_, t_, t_, t_, t_, t_, t_, t_, t_, t_, t_, t_, t_, t_, t_, t_, t_, t_, t_, t_, f_, f_] rfl rfl (by kernel_rfl) (by decide) (fun K hK => ?_)
  refine goes_ Try.func20 (by kernel_rfl) rfl #[] (by rfl) rfl rfl (by simp) ?_
  with_reducible refine (fixed_calls _).mono ?_
  rintro e w7 ⟨rfl, hbq4⟩
  refine ⟨_, rfl, ?_⟩
  refine hK.out _ _ ⟨(below_of hbq4 hHeld.1), (below_of hbq4 hHeld.2.1), (below_of hbq4 hHeld.2.2.1), (below_of hbq4 hHeld.2.2.2.1), (below_step hHeld.2.2.2.2 hbq4)⟩ (fun hHeld => ?_)
  clear hK K
  refine norm_ (a' := ?_) ?_ ?_
  rotate_left
  · show Act.put _ (some 104) _ = _
    simp only [Act.put, sa_, sz_, ss_, i64_w, i32_w]
    rfl
  refine pure_ (i := 37) (N := some 105) (v := ?_) (a' := ?_) #[t_, t_, t_, t_, t_, t_, t_, t_, t_, t_, t_, t_, t_, t_, t_, t_, t_, t_, t_, t_, t_, t_, t_, t_, t_, t_, t_, t_, t_, t_, t_, t_, t_, t_, t_, t_, t_, t_, f_] rfl rfl (by kernel_rfl) (fun _ _ _ h => h) (Or.inl ⟨by rfl, ?_⟩) ?_ ?_
  rotate_left
  · intro w'
    go_simp
    with_reducible rfl
  rotate_left
  · simp only [Act.put, sa_, sz_, ss_, i64_w, i32_w]
    rfl
  refine pure_ (i := 38) (N := some 4) (v := ?_) (a' := ?_) #[t_, t_, t_, t_, t_, t_, t_, t_, t_, t_, t_, t_, t_, t_, t_, t_, t_, t_, t_, t_, t_, t_, t_, t_, t_, t_, t_, t_, t_, t_, t_, t_, t_, t_, t_, t_, t_, t_, t_] rfl rfl (by kernel_rfl) (fun _ _ _ h => h) (Or.inl ⟨by rfl, ?_⟩) ?_ ?_
  rotate_left
  · intro w'
    go_simp
    with_reducible rfl
  rotate_left
  · simp only [Act.put, sa_, sz_, ss_, i64_w, i32_w]
    rfl
  refine done_ (by kernel_rfl) ?_
  have hb := below_step (below_step (below_step (below_step (below_step (below_step HB_6.out hZ.out.drew) hbq0) hbq1) hbq2) hbq3) hbq4
  clear hHeld hZ hbq0 hbq1 hbq2 hbq3 hbq4
  go_wp2
  go_ret
  exact ⟨rfl, hb⟩
theorem astOrder_row (za zb : TreeArg) (w : World) (hza : TreeIn w za) (hzb : TreeIn w zb) :
    Calls Try.prog 9 #[.agg #[.slice za.A za.n za.c], .agg #[.slice zb.A zb.n zb.c]] w fun e w' => e = .returned (.bool true) ∧ Below w.heap.size w w' :=
  walk za zb w hza hzb
end Go.Proofs.Ytjeoiebdchlilaa.LAstOrder
