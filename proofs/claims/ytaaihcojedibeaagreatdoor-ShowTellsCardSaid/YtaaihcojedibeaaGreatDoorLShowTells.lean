/- ShowTells: any tree's pattern, and any set's, is as the document says; of at most 60 nodes. -/
import Derived.Test.YtaaihcojedibeaaGreatDoorZ3
import Derived.Test.YtaaihcojedibeaaGreatDoorZ1
import Derived.Test.YtaaihcojedibeaaGreatDoorZ2
namespace Go.Proofs.YtaaihcojedibeaaGreatDoor.LShowTells
open Go.RowKit CMem CBits CSet DRow DDeep DSizes DFits DLens DSpec DGrp DCon DOdd DRowN DWrap DJoin DGrouped DRight DRFits DCut DKit DArgS SText SSpec SKinds SSet SSize SShow STree SFix SFixed ROd DTreeS RShow RAll Q Go.Proofs.YtaaihcojedibeaaGreatDoorW.PrintWords Go.Proofs.YtaaihcojedibeaaGreatDoorW.PrintLast Go.Proofs.YtaaihcojedibeaaGreatDoorW.PrintMore
set_option linter.unusedVariables false
set_option linter.unusedSimpArgs false
set_option maxRecDepth 100000
abbrev t_ : Bool := true
abbrev f_ : Bool := false
theorem sa_ {α : Type} (l : List α) (i : Nat) (a : α) : l.toArray.setIfInBounds i a = (l.set i a).toArray := List.setIfInBounds_toArray _ _ _
theorem sz_ {α : Type} (x : α) (l : List α) (a : α) : (x :: l).set 0 a = a :: l := rfl
theorem ss_ {α : Type} (x : α) (l : List α) (i : Nat) (a : α) : (x :: l).set (i + 1) a = x :: l.set i a := rfl
theorem set_ok (N : Nat) : CSet.sc N = #[.int .u64 (wd N 0 : Nat), .int .u64 (wd N 1 : Nat), .int .u64 (wd N 2 : Nat), .int .u64 (wd N 3 : Nat)] := rfl
set_option maxHeartbeats 25600000 in
theorem walk (z : TreeArg) (N : Nat) (w : World) (T : Tab w) (hz : TreeIn w z) (hN : N < 2 ^ 256) :
    Calls Tryz.prog 3 #[.agg #[.slice z.A z.n z.c], .agg (CSet.sc N)] w fun e w' => e = .returned (.bool true) ∧ Below w.heap.size w w' := by
  obtain ⟨At, n, cA, LT⟩ := z
  obtain ⟨h1t, hlet, hcapt, hCt, hOkt⟩ := hz
  simp only [] at h1t hlet hcapt hCt hOkt ⊢
  obtain ⟨k, hkt⟩ : ∃ k, k = min n 60 := ⟨_, rfl⟩
  obtain ⟨Lt, hLt⟩ : ∃ l, LT.take k = l := ⟨_, rfl⟩
  have hnt : Lt.length = k := by rw [← hLt, List.length_take]; omega
  have hk5 : k ≤ 60 := by omega
  have HCt := Lib.hid (fun W (hb : Below w.heap.size w W) => (hLt ▸ C_take (Kd.C_below (w1 := W) hCt hb) (show k ≤ n by omega) : Kd.C k49 W At k Lt))
  have hokt : ∀ i, i < k → OkN (rd_T49 Lt (i : Nat)) := fun i hi => okl (L := Lt) (fun x hx => hOkt x (by rw [← hLt] at hx; exact List.mem_of_mem_take hx)) i (by omega)
  have HT := Lib.hid (fun W (h : Below w.heap.size w W) => T.below h)
  obtain ⟨s, hs⟩ : ∃ s, shows Lt = s := ⟨_, rfl⟩
  have HS := Lib.hid hs
  have HO := Lib.hid hokt
  have KS := Lib.hid (fun W => set_calls N W)
  have KR := Lib.hid (fun W => rset_calls N hN W)
  rw [set_ok] at KS KR ⊢
  generalize ((wd N 0 : Nat) : Int) = x0 at *
  generalize ((wd N 1 : Nat) : Int) = x1 at *
  generalize ((wd N 2 : Nat) : Int) = x2 at *
  generalize ((wd N 3 : Nat) : Int) = x3 at *
  obtain ⟨u, hu⟩ : ∃ u, setB N = u := ⟨_, rfl⟩
  rw [hu] at KS KR
  have hk6 := Lib.hid (show k ≤ 500 by omega)
  have hm6 := Lib.hid (show k ≤ 1000 by omega)
  clear hs hu hokt hOkt hCt hLt hk5 h1t T hN
  replace hkt := Lib.hid hkt
  replace hlet := Lib.hid hlet
  replace hcapt := Lib.hid hcapt
  replace hnt := Lib.hid hnt
  have Q0_0 := Lib.hid (blk_alloc (heap_alloc_new w (.cells #[.slice At n cA] 24)) (.cells #[.int .u64 x0, .int .u64 x1, .int .u64 x2, .int .u64 x3] 28))
  have Q1_0 := Lib.hid (blk2 w (.cells #[.slice At n cA] 24) #[.int .u64 x0, .int .u64 x1, .int .u64 x2, .int .u64 x3] 28)
  have HB_0 := Lib.hid (below2 w (.cells #[.slice At n cA] 24) (.cells #[.int .u64 x0, .int .u64 x1, .int .u64 x2, .int .u64 x3] 28))
  have M0_0 := blk_cell Q0_0.out 0 (.slice At n cA) rfl
  go_enter Tryz.func3, Tryz.ntmps3
  go_wp2_with fail
  generalize hW : (w.alloc (.cells #[.slice At n cA] 24)).alloc (.cells #[.int .u64 x0, .int .u64 x1, .int .u64 x2, .int .u64 x3] 28) = v0 at *
  clear hW
  refine (cut_calls At cA n k 60 hkt.out hlet.out hcapt.out (by decide) _).mono ?_
  -- cut
  rintro e w1 ⟨⟨ct, rfl, hct⟩, hb⟩
  have R_ := below_blk hb Q0_0.out
  have q_ := blk_cell R_ 0 (.slice At n cA) rfl
  have f_ := blk_free R_ 0
  have Q0_1 := Lib.hid (set_blk (i := 0) R_ (.slice At k ct))
  have Q1_1 := Lib.hid (set_other (c := w.heap.size) (i := 0) (v := (.slice At k ct)) (below_blk hb Q1_0.out) (by omega))
  have HB_1 := Lib.hid (CMem.below_set (b := w.heap.size) (i := 0) (below_step HB_0.out hb) (by omega) (.slice At k ct))
  have HHt := Lib.hid hct
  clear hb R_ hct HB_0 Q0_0 Q1_0 M0_0
  have M0_1 := blk_cell Q0_1.out 0 (.slice At k ct) rfl
  go_wp2_with fail
  generalize hW : w1.setCell ⟨w.heap.size, 0, none⟩ (.slice At k ct) = v1 at *
  clear hW q_ f_
  have QS := Q1_1
  have Bt_1 := Q0_1
  have Lt_1 := M0_1
  clear Q0_1 M0_1
  have y0 := blk_cell QS.out 0 (.int .u64 x0) rfl
  have y1 := blk_cell QS.out 1 (.int .u64 x1) rfl
  have y2 := blk_cell QS.out 2 (.int .u64 x2) rfl
  have y3 := blk_cell QS.out 3 (.int .u64 x3) rfl
  have hZ := Lib.hid (Below.refl v1.heap.size v1)
  have hss : (s.toList == s.toList) = true := beq_self_eq_true _
  have huu : (u.toList == u.toList) = true := beq_self_eq_true _
  refine start_ (n := 18) (S := fun w' => w'.cell? ⟨w.heap.size, 0, none⟩ = some (.slice At k ct) ∧ w'.cell? ⟨w.heap.size + 1, 0, none⟩ = some (.int .u64 x0) ∧ w'.cell? ⟨w.heap.size + 1, 1, none⟩ = some (.int .u64 x1) ∧ w'.cell? ⟨w.heap.size + 1, 2, none⟩ = some (.int .u64 x2) ∧ w'.cell? ⟨w.heap.size + 1, 3, none⟩ = some (.int .u64 x3) ∧ Below v1.heap.size v1 w') (ds := []) #[f_, f_, f_, f_, f_, f_, f_, f_, f_, f_, f_, f_, f_, f_, f_, f_, f_, f_] (by kernel_rfl) rfl rfl ⟨Lt_1, y0, y1, y2, y3, hZ.out.drew⟩ (fun hHeld => ?_)
  refine take_ (i := 0) (N := some 7) (v := ?_) (a' := ?_) #[t_, f_, f_, f_, f_, f_, f_, f_, f_, f_, f_, f_, f_, f_, f_, f_, f_, f_] rfl rfl (by kernel_rfl) (fun _ _ _ h => h) (Or.inl ⟨by rfl, ?_⟩) hHeld ?_ ?_
  rotate_left
  · rintro w' ⟨s0, s1, s2, s3, s4, s5⟩
    go_simp
    with_reducible rfl
  rotate_left
  · simp only [Act.put, sa_, sz_, ss_, i64_w, i32_w]
    rfl
  refine take_ (i := 2) (N := some 9) (v := ?_) (a' := ?_) #[t_, f_, t_, f_, f_, f_, f_, f_, f_, f_, f_, f_, f_, f_, f_, f_, f_, f_] rfl rfl (by kernel_rfl) (fun _ _ _ h => h) (Or.inl ⟨by rfl, ?_⟩) hHeld ?_ ?_
  rotate_left
  · rintro w' ⟨s0, s1, s2, s3, s4, s5⟩
    go_simp
    with_reducible rfl
  rotate_left
  · simp only [Act.put, sa_, sz_, ss_, i64_w, i32_w]
    rfl
  refine one_ (i := 1) (N := some 8) #[t_, t_, t_, f_, f_, f_, f_, f_, f_, f_, f_, f_, f_, f_, f_, f_, f_, f_] rfl rfl (by kernel_rfl) (by decide) (fun K hK => ?_)
  refine goes_ Tryz.func5 (by kernel_rfl) rfl #[.agg #[.slice At k ct]] (by rfl) rfl rfl (by simp only [List.map_toArray, List.map_cons, List.map_nil]; rfl) ?_
  with_reducible refine (tree_calls Lt k At ct hnt.out hk6.out HO.out s HS.out _ (HCt.out _ (below_step HB_1.out hHeld.2.2.2.2.2)) (HT.out _ (below_step HB_1.out hHeld.2.2.2.2.2))).mono ?_
  rintro e X0 ⟨rfl, hb0⟩
  refine ⟨_, rfl, ?_⟩
  refine hK.out _ _ ⟨(below_of hb0 hHeld.1), (below_of hb0 hHeld.2.1), (below_of hb0 hHeld.2.2.1), (below_of hb0 hHeld.2.2.2.1), (below_of hb0 hHeld.2.2.2.2.1), (below_step hHeld.2.2.2.2.2 hb0)⟩ (fun hHeld => ?_)
  clear hK K
  refine norm_ (a' := ?_) ?_ ?_
  rotate_left
  · show Act.put _ (some 8) _ = _
    simp only [Act.put, sa_, sz_, ss_, i64_w, i32_w]
    rfl
  refine one_ (i := 3) (N := some 10) #[t_, t_, t_, t_, f_, f_, f_, f_, f_, f_, f_, f_, f_, f_, f_, f_, f_, f_] rfl rfl (by kernel_rfl) (by decide) (fun K hK => ?_)
  refine goes_ Tryz.func7 (by kernel_rfl) rfl #[.agg #[.slice At k ct]] (by rfl) rfl rfl (by simp only [List.map_toArray, List.map_cons, List.map_nil]; rfl) ?_
  with_reducible refine (ref_calls At ct Lt k hnt.out hm6.out HHt.out _ (HCt.out _ (below_step HB_1.out hHeld.2.2.2.2.2))).mono ?_
  rintro e X1 ⟨⟨Al, cl, rfl, hle, CC⟩, hb1⟩
  refine ⟨_, rfl, ?_⟩
  refine hK.out _ _ ⟨(below_of hb1 hHeld.1), (below_of hb1 hHeld.2.1), (below_of hb1 hHeld.2.2.1), (below_of hb1 hHeld.2.2.2.1), (below_of hb1 hHeld.2.2.2.2.1), (below_step hHeld.2.2.2.2.2 hb1)⟩ (fun hHeld => ?_)
  clear hK K
  refine norm_ (a' := ?_) ?_ ?_
  rotate_left
  · show Act.put _ (some 10) _ = _
    simp only [Act.put, sa_, sz_, ss_, i64_w, i32_w]
    rfl
  refine one_ (i := 4) (N := some 11) #[t_, t_, t_, t_, t_, f_, f_, f_, f_, f_, f_, f_, f_, f_, f_, f_, f_, f_] rfl rfl (by kernel_rfl) (by decide) (fun K hK => ?_)
  refine goes_ Tryz.func6 (by kernel_rfl) rfl #[.slice Al k cl] (by rfl) rfl rfl (by simp only [List.map_toArray, List.map_cons, List.map_nil]; rfl) ?_
  with_reducible refine (rtree_calls Lt k Al cl hnt.out hk6.out hle HO.out s HS.out _ CC).mono ?_
  rintro e X2 ⟨rfl, hb2⟩
  refine ⟨_, rfl, ?_⟩
  refine hK.out _ _ ⟨(below_of hb2 hHeld.1), (below_of hb2 hHeld.2.1), (below_of hb2 hHeld.2.2.1), (below_of hb2 hHeld.2.2.2.1), (below_of hb2 hHeld.2.2.2.2.1), (below_step hHeld.2.2.2.2.2 hb2)⟩ (fun hHeld => ?_)
  clear hK K
  refine norm_ (a' := ?_) ?_ ?_
  rotate_left
  · show Act.put _ (some 11) _ = _
    simp only [Act.put, sa_, sz_, ss_, i64_w, i32_w]
    rfl
  refine pure_ (i := 5) (N := some 12) (v := ?_) (a' := ?_) #[t_, t_, t_, t_, t_, t_, f_, f_, f_, f_, f_, f_, f_, f_, f_, f_, f_, f_] rfl rfl (by kernel_rfl) (fun _ _ _ h => h) (Or.inl ⟨by rfl, ?_⟩) ?_ ?_
  rotate_left
  · intro w'
    go_simp
    with_reducible rfl
  rotate_left
  · simp only [Act.put, sa_, sz_, ss_, i64_w, i32_w]
    rfl
  refine pure_ (i := 6) (N := some 13) (v := ?_) (a' := ?_) #[t_, t_, t_, t_, t_, t_, t_, f_, f_, f_, f_, f_, f_, f_, f_, f_, f_, f_] rfl rfl (by kernel_rfl) (fun _ _ _ h => h) (Or.inl ⟨by rfl, ?_⟩) ?_ ?_
  rotate_left
  · intro w'
    go_simp
    with_reducible rfl
  rotate_left
  · simp only [Act.put, sa_, sz_, ss_, i64_w, i32_w]
    rfl
  refine pure_ (i := 9) (N := some 16) (v := ?_) (a' := ?_) #[t_, t_, t_, t_, t_, t_, t_, f_, f_, t_, f_, f_, f_, f_, f_, f_, f_, f_] rfl rfl (by kernel_rfl) (fun _ _ _ h => h) (Or.inl ⟨by rfl, ?_⟩) ?_ ?_
  rotate_left
  · intro w'
    go_simp
    with_reducible rfl
  rotate_left
  · simp only [Act.put, sa_, sz_, ss_, i64_w, i32_w]
    rfl
  refine take_ (i := 7) (N := some 14) (v := ?_) (a' := ?_) #[t_, t_, t_, t_, t_, t_, t_, t_, f_, t_, f_, f_, f_, f_, f_, f_, f_, f_] rfl rfl (by kernel_rfl) (fun _ _ _ h => h) (Or.inl ⟨by rfl, ?_⟩) hHeld ?_ ?_
  rotate_left
  · rintro w' ⟨s0, s1, s2, s3, s4, s5⟩
    go_simp
    with_reducible rfl
  rotate_left
  · simp only [Act.put, sa_, sz_, ss_, i64_w, i32_w]
    rfl
  refine take_ (i := 10) (N := some 17) (v := ?_) (a' := ?_) #[t_, t_, t_, t_, t_, t_, t_, t_, f_, t_, t_, f_, f_, f_, f_, f_, f_, f_] rfl rfl (by kernel_rfl) (fun _ _ _ h => h) (Or.inl ⟨by rfl, ?_⟩) hHeld ?_ ?_
  rotate_left
  · rintro w' ⟨s0, s1, s2, s3, s4, s5⟩
    go_simp
    with_reducible rfl
  rotate_left
  · simp only [Act.put, sa_, sz_, ss_, i64_w, i32_w]
    rfl
  refine one_ (i := 8) (N := some 15) #[t_, t_, t_, t_, t_, t_, t_, t_, t_, t_, t_, f_, f_, f_, f_, f_, f_, f_] rfl rfl (by kernel_rfl) (by decide) (fun K hK => ?_)
  refine goes_ Tryz.func8 (by kernel_rfl) rfl #[.agg #[.int .u64 x0, .int .u64 x1, .int .u64 x2, .int .u64 x3]] (by rfl) rfl rfl (by simp only [List.map_toArray, List.map_cons, List.map_nil]; rfl) ?_
  with_reducible refine (KS.out _).mono ?_
  rintro e X3 ⟨rfl, hb3⟩
  refine ⟨_, rfl, ?_⟩
  refine hK.out _ _ ⟨(below_of hb3 hHeld.1), (below_of hb3 hHeld.2.1), (below_of hb3 hHeld.2.2.1), (below_of hb3 hHeld.2.2.2.1), (below_of hb3 hHeld.2.2.2.2.1), (below_step hHeld.2.2.2.2.2 hb3)⟩ (fun hHeld => ?_)
  clear hK K
  refine norm_ (a' := ?_) ?_ ?_
  rotate_left
  · show Act.put _ (some 15) _ = _
    simp only [Act.put, sa_, sz_, ss_, i64_w, i32_w]
    rfl
  refine one_ (i := 11) (N := some 18) #[t_, t_, t_, t_, t_, t_, t_, t_, t_, t_, t_, t_, f_, f_, f_, f_, f_, f_] rfl rfl (by kernel_rfl) (by decide) (fun K hK => ?_)
  refine goes_ Tryz.func9 (by kernel_rfl) rfl #[.agg #[.int .u64 x0, .int .u64 x1, .int .u64 x2, .int .u64 x3]] (by rfl) rfl rfl (by simp only [List.map_toArray, List.map_cons, List.map_nil]; rfl) ?_
  with_reducible refine (KR.out _).mono ?_
  rintro e X4 ⟨rfl, hb4⟩
  refine ⟨_, rfl, ?_⟩
  refine hK.out _ _ ⟨(below_of hb4 hHeld.1), (below_of hb4 hHeld.2.1), (below_of hb4 hHeld.2.2.1), (below_of hb4 hHeld.2.2.2.1), (below_of hb4 hHeld.2.2.2.2.1), (below_step hHeld.2.2.2.2.2 hb4)⟩ (fun hHeld => ?_)
  clear hK K
  refine norm_ (a' := ?_) ?_ ?_
  rotate_left
  · show Act.put _ (some 18) _ = _
    simp only [Act.put, sa_, sz_, ss_, i64_w, i32_w]
    rfl
  refine pure_ (i := 12) (N := some 19) (v := ?_) (a' := ?_) #[t_, t_, t_, t_, t_, t_, t_, t_, t_, t_, t_, t_, t_, f_, f_, f_, f_, f_] rfl rfl (by kernel_rfl) (fun _ _ _ h => h) (Or.inl ⟨by rfl, ?_⟩) ?_ ?_
  rotate_left
  · intro w'
    go_simp
    with_reducible rfl
  rotate_left
  · simp only [Act.put, sa_, sz_, ss_, i64_w, i32_w]
    rfl
  refine pure_ (i := 13) (N := some 20) (v := ?_) (a' := ?_) #[t_, t_, t_, t_, t_, t_, t_, t_, t_, t_, t_, t_, t_, t_, f_, f_, f_, f_] rfl rfl (by kernel_rfl) (fun _ _ _ h => h) (Or.inl ⟨by rfl, ?_⟩) ?_ ?_
  rotate_left
  · intro w'
    go_simp
    with_reducible rfl
  rotate_left
  · simp only [Act.put, sa_, sz_, ss_, i64_w, i32_w]
    rfl
  refine pure_ (i := 14) (N := some 21) (v := ?_) (a' := ?_) #[t_, t_, t_, t_, t_, t_, t_, t_, t_, t_, t_, t_, t_, t_, t_, f_, f_, f_] rfl rfl (by kernel_rfl) (fun _ _ _ h => h) (Or.inl ⟨by rfl, ?_⟩) ?_ ?_
  rotate_left
  · intro w'
    go_simp
    with_reducible rfl
  rotate_left
  · simp only [Act.put, sa_, sz_, ss_, i64_w, i32_w]
    rfl
  refine one_ (i := 15) (N := some 22) #[t_, t_, t_, t_, t_, t_, t_, t_, t_, t_, t_, t_, t_, t_, t_, t_, f_, f_] rfl rfl (by kernel_rfl) (by decide) (fun K hK => ?_)
  refine goes_ Tryz.func10 (by kernel_rfl) rfl #[] (by rfl) rfl rfl (by simp) ?_
  with_reducible refine (fixed_calls _ (HT.out _ (below_step HB_1.out hHeld.2.2.2.2.2))).mono ?_
  rintro e X5 ⟨rfl, hb5⟩
  refine ⟨_, rfl, ?_⟩
  refine hK.out _ _ ⟨(below_of hb5 hHeld.1), (below_of hb5 hHeld.2.1), (below_of hb5 hHeld.2.2.1), (below_of hb5 hHeld.2.2.2.1), (below_of hb5 hHeld.2.2.2.2.1), (below_step hHeld.2.2.2.2.2 hb5)⟩ (fun hHeld => ?_)
  clear hK K
  refine norm_ (a' := ?_) ?_ ?_
  rotate_left
  · show Act.put _ (some 22) _ = _
    simp only [Act.put, sa_, sz_, ss_, i64_w, i32_w]
    rfl
  refine pure_ (i := 16) (N := some 23) (v := ?_) (a' := ?_) #[t_, t_, t_, t_, t_, t_, t_, t_, t_, t_, t_, t_, t_, t_, t_, t_, t_, f_] rfl rfl (by kernel_rfl) (fun _ _ _ h => h) (Or.inl ⟨by rfl, ?_⟩) ?_ ?_
  rotate_left
  · intro w'
    go_simp
    with_reducible rfl
  rotate_left
  · simp only [Act.put, sa_, sz_, ss_, i64_w, i32_w]
    rfl
  refine pure_ (i := 17) (N := some 4) (v := ?_) (a' := ?_) #[t_, t_, t_, t_, t_, t_, t_, t_, t_, t_, t_, t_, t_, t_, t_, t_, t_, t_] rfl rfl (by kernel_rfl) (fun _ _ _ h => h) (Or.inl ⟨by rfl, ?_⟩) ?_ ?_
  rotate_left
  · intro w'
    go_simp
    with_reducible rfl
  rotate_left
  · simp only [Act.put, sa_, sz_, ss_, i64_w, i32_w]
    rfl
  refine done_ (by kernel_rfl) ?_
  have hbf := Lib.hid (below_step HB_1.out hHeld.2.2.2.2.2)
  clear hHeld
  go_wp2
  go_ret
  exact ⟨rfl, hbf.out⟩
theorem showTells_row (z : TreeArg) (N : Nat) (w : World) (hT : Tab w) (hz : TreeIn w z) (hN : N < 2 ^ 256) :
    Calls Tryz.prog 3 #[.agg #[.slice z.A z.n z.c], .agg (CSet.sc N)] w fun e w' => e = .returned (.bool true) ∧ Below w.heap.size w w' :=
  walk z N w hT hz hN
end Go.Proofs.YtaaihcojedibeaaGreatDoor.LShowTells
