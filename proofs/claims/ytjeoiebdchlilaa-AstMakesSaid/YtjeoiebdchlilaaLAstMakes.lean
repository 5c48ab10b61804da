/- AstMakes: a leaf, a tree around another one, and two joined, are as the document says. -/
import Derived.Test.YtjeoiebdchlilaaZ2
import Derived.Test.YtjeoiebdchlilaaZ1
import Derived.Test.YtjeoiebdchlilaaDMakeK
namespace Go.Proofs.Ytjeoiebdchlilaa.LAstMakes
open Go.RowKit CMem DRow DDeep DSizes DFits DLens DSpec DGrp DCon DOdd DRowN DWrap DJoin DGrouped DRight DRJoin DRFits DRef DRefB DCut DTree DKit DFix DFixed DArg DRSame DMakeK Q Go.Proofs.YtjeoiebdchlilaaW.PrintWords Go.Proofs.YtjeoiebdchlilaaW.PrintLast Go.Proofs.YtjeoiebdchlilaaW.PrintMore
set_option linter.unusedVariables false
set_option linter.unusedSimpArgs false
set_option maxRecDepth 100000
set_option maxHeartbeats 12800000 in
theorem walk (za zb : TreeArg) (z : S43) (w : World) (hza : TreeIn w za) (hzb : TreeIn w zb) :
    Calls Try.prog 4 #[.agg #[.slice za.A za.n za.c], .agg #[.slice zb.A zb.n zb.c], .agg (nc z)] w fun e w' => e = .returned (.bool true) ∧ Below w.heap.size w w' := by
  obtain ⟨Aa, n, cA, LA⟩ := za
  obtain ⟨Ab, m, cB, LB⟩ := zb
  obtain ⟨h1a, hlea, hcapa, hCa⟩ := hza
  obtain ⟨h1b, hleb, hcapb, hCb⟩ := hzb
  simp only [] at h1a hlea hcapa hCa h1b hleb hcapb hCb ⊢
  obtain ⟨k, hka⟩ : ∃ k, k = min n 40 := ⟨_, rfl⟩
  obtain ⟨q, hkb⟩ : ∃ k, k = min m 40 := ⟨_, rfl⟩
  obtain ⟨La, hLa⟩ : ∃ l, LA.take k = l := ⟨_, rfl⟩
  obtain ⟨Lb, hLb⟩ : ∃ l, LB.take q = l := ⟨_, rfl⟩
  have hna : La.length = k := by rw [← hLa, List.length_take]; omega
  have hnb : Lb.length = q := by rw [← hLb, List.length_take]; omega
  have hk5 : k ≤ 40 := by omega
  have hq5 : q ≤ 40 := by omega
  have hk6 := Lib.hid (show k ≤ 500 by omega)
  have hq6 := Lib.hid (show q ≤ 500 by omega)
  have hk9 := Lib.hid (show k ≤ 1000 by omega)
  have hma := hk9
  have hq9 := Lib.hid (show q ≤ 1000 by omega)
  have hmb := hq9
  have HCa := Lib.hid (fun W (hb : Below w.heap.size w W) => (hLa ▸ C_take (Kd.C_below (w1 := W) hCa hb) (show k ≤ n by omega) : Kd.C k43 W Aa k La))
  have HCb := Lib.hid (fun W (hb : Below w.heap.size w W) => (hLb ▸ C_take (Kd.C_below (w1 := W) hCb hb) (show q ≤ m by omega) : Kd.C k43 W Ab q Lb))
  have HK := Lib.hid (And.intro hk5 hq5)
  clear hCa hCb hLa hLb hk5 hq5 h1a h1b
  replace hka := Lib.hid hka
  replace hkb := Lib.hid hkb
  replace hlea := Lib.hid hlea
  replace hleb := Lib.hid hleb
  replace hcapa := Lib.hid hcapa
  replace hcapb := Lib.hid hcapb
  replace hna := Lib.hid hna
  replace hnb := Lib.hid hnb
  have Q0_0 := Lib.hid (blk_alloc (blk_alloc (heap_alloc_new w (.cells #[.slice Aa n cA] 24)) (.cells #[.slice Ab m cB] 24)) (.cells (nc z) 43))
  have Q1_0 := Lib.hid (blk_alloc (blk2 w (.cells #[.slice Aa n cA] 24) #[.slice Ab m cB] 24) (.cells (nc z) 43))
  have Q2_0 := Lib.hid (new3 w (.cells #[.slice Aa n cA] 24) (.cells #[.slice Ab m cB] 24) (.cells (nc z) 43))
  have HB_0 := Lib.hid (below3 w (.cells #[.slice Aa n cA] 24) (.cells #[.slice Ab m cB] 24) (.cells (nc z) 43))
  have M0_0 := blk_cell Q0_0.out 0 (.slice Aa n cA) rfl
  have M1_0 := blk_cell Q1_0.out 0 (.slice Ab m cB) rfl
  go_enter Try.func4, Try.ntmps4
  go_wp2_with fail
  generalize hW : ((w.alloc (.cells #[.slice Aa n cA] 24)).alloc (.cells #[.slice Ab m cB] 24)).alloc (.cells (nc z) 43) = v0 at *
  clear hW
  refine (cut_calls Aa cA n k 40 hka.out hlea.out hcapa.out (by decide) _).mono ?_
  -- cut
  rintro e w1 ⟨⟨ca, rfl, hca⟩, hb⟩
  have R_ := below_blk hb Q0_0.out
  have q_ := blk_cell R_ 0 (.slice Aa n cA) rfl
  have f_ := blk_free R_ 0
  have Q0_1 := Lib.hid (set_blk (i := 0) R_ (.slice Aa k ca))
  have Q1_1 := Lib.hid (set_other (c := w.heap.size) (i := 0) (v := (.slice Aa k ca)) (below_blk hb Q1_0.out) (by omega))
  have Q2_1 := Lib.hid (set_other (c := w.heap.size) (i := 0) (v := (.slice Aa k ca)) (below_blk hb Q2_0.out) (by omega))
  have HB_1 := Lib.hid (CMem.below_set (b := w.heap.size) (i := 0) (below_step HB_0.out hb) (by omega) (.slice Aa k ca))
  have HHa := Lib.hid hca
  clear hb R_ hca HB_0 Q0_0 Q1_0 Q2_0 M0_0 M1_0
  have M0_1 := blk_cell Q0_1.out 0 (.slice Aa k ca) rfl
  have M1_1 := blk_cell Q1_1.out 0 (.slice Ab m cB) rfl
  go_wp2_with fail
  generalize hW : w1.setCell ⟨w.heap.size, 0, none⟩ (.slice Aa k ca) = v1 at *
  clear hW q_ f_
  refine (cut_calls Ab cB m q 40 hkb.out hleb.out hcapb.out (by decide) _).mono ?_
  -- cut
  rintro e w2 ⟨⟨cb, rfl, hcb⟩, hb⟩
  have Q0_2 := Lib.hid (set_other (c := w.heap.size + 1) (i := 0) (v := (.slice Ab q cb)) (below_blk hb Q0_1.out) (by omega))
  have R_ := below_blk hb Q1_1.out
  have q_ := blk_cell R_ 0 (.slice Ab m cB) rfl
  have f_ := blk_free R_ 0
  have Q1_2 := Lib.hid (set_blk (i := 0) R_ (.slice Ab q cb))
  have Q2_2 := Lib.hid (set_other (c := w.heap.size + 1) (i := 0) (v := (.slice Ab q cb)) (below_blk hb Q2_1.out) (by omega))
  have HB_2 := Lib.hid (CMem.below_set (b := w.heap.size + 1) (i := 0) (below_step HB_1.out hb) (by omega) (.slice Ab q cb))
  have HHb := Lib.hid hcb
  clear hb R_ hcb HB_1 Q0_1 Q1_1 Q2_1 M0_1 M1_1
  have M1_2 := blk_cell Q1_2.out 0 (.slice Ab q cb) rfl
  have M0_2 := blk_cell Q0_2.out 0 (.slice Aa k ca) rfl
  go_wp2_with fail
  generalize hW : w2.setCell ⟨w.heap.size + 1, 0, none⟩ (.slice Ab q cb) = v2 at *
  clear hW q_ f_
  have Ba_2 := Q0_2
  have La_2 := M0_2
  clear Q0_2 M0_2
  have Bb_2 := Q1_2
  have Lb_2 := M1_2
  clear Q1_2 M1_2
  have BN_2 := Q2_2
  clear Q2_2
  obtain ⟨N, hN⟩ : ∃ r, k + q + 1 = r := ⟨_, rfl⟩
  obtain ⟨N2, hN2⟩ : ∃ r, k + 1 = r := ⟨_, rfl⟩
  obtain ⟨LJ, hLJ⟩ : ∃ r, La ++ Lb.map (shift k) ++ [⟨z.f0, (k : Int) - 1, (k : Int) + q - 1, z41, 0, 0, 0, 0, false⟩] = r := ⟨_, rfl⟩
  obtain ⟨LW, hLW⟩ : ∃ r, La ++ [⟨z.f0, (k : Int) - 1, 0, ⟨⟨z.f3.f0.f0, z.f3.f0.f1, z.f3.f0.f2, z.f3.f0.f3⟩⟩, z.f4, z.f5, z.f6, z.f7, z.f8⟩] = r := ⟨_, rfl⟩
  have hnJ_ : LJ.length = N := by rw [← hLJ, ← hN]; simp [hna.out, hnb.out]; omega
  have hnW_ : LW.length = N2 := by rw [← hLW, ← hN2]; simp [hna.out]
  have hnL_ : Hid ([z].length = 1) := Lib.hid rfl
  have hmJ_ : Hid (N ≤ 1001) := Lib.hid (by have := HK.out; omega)
  have hmW_ : Hid (N2 ≤ 1001) := Lib.hid (by have := HK.out; omega)
  have hmL_ : Hid (1 ≤ 1001) := Lib.hid (by decide)
  have hnm : Hid (k + q ≤ 999) := Lib.hid (by have := HK.out; omega)
  have hn9 : Hid (k ≤ 999) := Lib.hid (by have := HK.out; omega)
  have hN5 : Hid (N ≤ 500) := Lib.hid (by have := HK.out; omega)
  have hN25 : Hid (N2 ≤ 500) := Lib.hid (by have := HK.out; omega)
  have hN9 : Hid (N ≤ 1000) := Lib.hid (by have := HK.out; omega)
  have hN29 : Hid (N2 ≤ 1000) := Lib.hid (by have := HK.out; omega)
  replace hN := Lib.hid hN
  replace hN2 := Lib.hid hN2
  replace hLJ := Lib.hid hLJ
  replace hLW := Lib.hid hLW
  replace hnJ_ := Lib.hid hnJ_
  replace hnW_ := Lib.hid hnW_
  have KW : Hid (∀ W, Below v2.heap.size v2 W → Calls Try.prog 21 #[.agg #[.slice Aa k ca], .agg (nc z)] W fun e w' => (∃ v, e = .returned (.agg #[v]) ∧ w'.ownsRow W.heap.size 43 12 v N2 (ra LW)) ∧ Below W.heap.size W w') := Lib.hid (fun W hb => wrap_own Aa ca La LW k N2 hna.out hn9.out hN2.out z.f0 z.f1 z.f2 z.f3.f0.f0 z.f3.f0.f1 z.f3.f0.f2 z.f3.f0.f3 z.f4 z.f5 z.f6 z.f7 z.f8 hLW.out W (HCa.out _ (below_step HB_2.out hb)))
  have KJ := Lib.hid (fun W (hb : Below v2.heap.size v2 W) => join_own Aa ca La Lb LJ k q N hna.out Ab cb hnb.out hnm.out hN.out z.f0 hLJ.out W (HCa.out _ (below_step HB_2.out hb)) (HCb.out _ (below_step HB_2.out hb)))
  have KL : Hid (∀ W, Calls Try.prog 23 #[.agg (nc z)] W fun e w' => (∃ v, e = .returned (.agg #[v]) ∧ w'.ownsRow W.heap.size 43 12 v 1 (ra [z])) ∧ Below W.heap.size W w') := Lib.hid (fun W => leaf_own z.f0 z.f1 z.f2 z.f3.f0.f0 z.f3.f0.f1 z.f3.f0.f2 z.f3.f0.f3 z.f4 z.f5 z.f6 z.f7 z.f8 [z] rfl W)
  have hZ := Lib.hid (Below.refl v2.heap.size v2)
  have hNod := nod_of BN_2.out
  refine start_ (n := 16) (S := fun w' => Sm v2 w.heap.size Aa k ca Ab q cb z w') (ds := [13, 14, 15]) #[f_, f_, f_, f_, f_, f_, f_, f_, f_, f_, f_, f_, f_, f_, f_, f_] (by kernel_rfl) rfl rfl (⟨La_2, Lb_2, hNod, hZ.out.drew⟩) (fun hHeld => ?_)
  refine pure_ (i := 5) (N := some 19) (v := ?_) (a' := ?_) #[f_, f_, f_, f_, f_, t_, f_, f_, f_, f_, f_, f_, f_, f_, f_, f_] rfl rfl (by kernel_rfl) (fun _ _ _ h => h) (Or.inl ⟨by rfl, ?_⟩) ?_ ?_
  rotate_left
  ·intro w'
   go_simp
   with_reducible rfl
  rotate_left
  ·simp only [Act.put, sa_, sz_, ss_, i64_w, i32_w]
   rfl
  refine take_ (i := 0) (N := some 14) (v := ?_) (a' := ?_) #[t_, f_, f_, f_, f_, t_, f_, f_, f_, f_, f_, f_, f_, f_, f_, f_] rfl rfl (by kernel_rfl) (fun _ _ _ h => h) (Or.inl ⟨by rfl, ?_⟩) hHeld ?_ ?_
  rotate_left
  ·intro w' s0
   go_simp
   with_reducible rfl
  rotate_left
  ·simp only [Act.put, sa_, sz_, ss_, i64_w, i32_w]
   rfl
  refine take_ (i := 1) (N := some 15) (v := ?_) (a' := ?_) #[t_, t_, f_, f_, f_, t_, f_, f_, f_, f_, f_, f_, f_, f_, f_, f_] rfl rfl (by kernel_rfl) (fun _ _ _ h => h) (Or.inl ⟨by rfl, ?_⟩) hHeld ?_ ?_
  rotate_left
  ·intro w' s0
   go_simp
   with_reducible rfl
  rotate_left
  ·simp only [Act.put, sa_, sz_, ss_, i64_w, i32_w]
   rfl
  refine take_ (i := 3) (N := some 17) (v := ?_) (a' := ?_) #[t_, t_, f_, t_, f_, t_, f_, f_, f_, f_, f_, f_, f_, f_, f_, f_] rfl rfl (by kernel_rfl) (fun _ _ _ h => h) (Or.inl ⟨by rfl, ?_⟩) hHeld ?_ ?_
  rotate_left
  ·intro w' s0
   go_simp
   with_reducible rfl
  rotate_left
  ·simp only [Act.put, sa_, sz_, ss_, i64_w, i32_w]
   rfl
  refine take_ (i := 4) (N := some 18) (v := ?_) (a' := ?_) #[t_, t_, f_, t_, t_, t_, f_, f_, f_, f_, f_, f_, f_, f_, f_, f_] rfl rfl (by kernel_rfl) (fun _ _ _ h => h) (Or.inl ⟨by rfl, ?_⟩) hHeld ?_ ?_
  rotate_left
  ·intro w' s0
   go_simp
   with_reducible rfl
  rotate_left
  ·simp only [Act.put, sa_, sz_, ss_, i64_w, i32_w]
   rfl
  refine take_ (i := 6) (N := some 20) (v := ?_) (a' := ?_) #[t_, t_, f_, t_, t_, t_, t_, f_, f_, f_, f_, f_, f_, f_, f_, f_] rfl rfl (by kernel_rfl) (fun _ _ _ h => h) (Or.inl ⟨by rfl, ?_⟩) hHeld ?_ ?_
  rotate_left
  ·intro w' s0
   go_simp
   with_reducible rfl
  rotate_left
  ·simp only [Act.put, sa_, sz_, ss_, i64_w, i32_w]
   rfl
  refine take_ (i := 8) (N := some 22) (v := ?_) (a' := ?_) #[t_, t_, f_, t_, t_, t_, t_, f_, t_, f_, f_, f_, f_, f_, f_, f_] rfl rfl (by kernel_rfl) (fun _ _ _ h => h) (Or.inl ⟨by rfl, ?_⟩) hHeld ?_ ?_
  rotate_left
  ·intro w' s0
   go_simp
   with_reducible rfl
  rotate_left
  ·simp only [Act.put, sa_, sz_, ss_, i64_w, i32_w]
   rfl
  refine join_ (σ := Nat × Nat × Nat × (Option Addr × Nat) × (Option Addr × Nat) × (Option Addr × Nat)) 3 #[t_, t_, t_, t_, t_, t_, t_, t_, t_, t_, t_, t_, t_, f_, f_, f_] (fun s => [(16, .agg #[.slice s.2.2.2.1.1 N2 s.2.2.2.1.2]), (21, .agg #[.slice s.2.2.2.2.1.1 N s.2.2.2.2.1.2]), (23, .agg #[.slice s.2.2.2.2.2.1 1 s.2.2.2.2.2.2]), (7, .pointer (some ⟨s.1, 0, none⟩)), (8, .pointer (some ⟨s.2.1, 0, none⟩)), (9, .pointer (some ⟨s.2.2.1, 0, none⟩))]) (fun s w' => Z0 w' (s.1) ∧ Z0 w' (s.2.1) ∧ Z0 w' (s.2.2.1) ∧ v2.heap.size ≤ s.1 ∧ v2.heap.size ≤ s.2.1 ∧ v2.heap.size ≤ s.2.2.1 ∧ s.1 ≠ s.2.1 ∧ s.1 ≠ s.2.2.1 ∧ s.2.1 ≠ s.2.2.1 ∧ Ow v2 w' s.2.2.2.1.1 N2 s.2.2.2.1.2 LW ∧ Ow v2 w' s.2.2.2.2.1.1 N s.2.2.2.2.1.2 LJ ∧ Ow v2 w' s.2.2.2.2.2.1 1 s.2.2.2.2.2.2 [z] ∧ N2 ≤ s.2.2.2.1.2 ∧ N ≤ s.2.2.2.2.1.2 ∧ 1 ≤ s.2.2.2.2.2.2 ∧ Sm v2 w.heap.size Aa k ca Ab q cb z w') ?_ ?_
  rotate_left
  ·intro hJ2_7_9_10_11_12
   refine join_ (σ := Nat × Nat × (Option Addr × Nat) × (Option Addr × Nat) × (Option Addr × Nat)) 4 #[t_, t_, t_, t_, t_, t_, t_, t_, t_, t_, t_, t_, f_, f_, f_, f_] (fun s => [(16, .agg #[.slice s.2.2.1.1 N2 s.2.2.1.2]), (21, .agg #[.slice s.2.2.2.1.1 N s.2.2.2.1.2]), (23, .agg #[.slice s.2.2.2.2.1 1 s.2.2.2.2.2]), (7, .pointer (some ⟨s.1, 0, none⟩)), (8, .pointer (some ⟨s.2.1, 0, none⟩))]) (fun s w' => Z0 w' (s.1) ∧ Z0 w' (s.2.1) ∧ v2.heap.size ≤ s.1 ∧ v2.heap.size ≤ s.2.1 ∧ s.1 ≠ s.2.1 ∧ Ow v2 w' s.2.2.1.1 N2 s.2.2.1.2 LW ∧ Ow v2 w' s.2.2.2.1.1 N s.2.2.2.1.2 LJ ∧ Ow v2 w' s.2.2.2.2.1 1 s.2.2.2.2.2 [z] ∧ N2 ≤ s.2.2.1.2 ∧ N ≤ s.2.2.2.1.2 ∧ 1 ≤ s.2.2.2.2.2 ∧ Sm v2 w.heap.size Aa k ca Ab q cb z w') ?_ ?_
   rotate_left
   ·intro hJ2_7_9_10_11
    refine join_ (σ := Nat × Nat × (Option Addr × Nat) × (Option Addr × Nat) × (Option Addr × Nat)) 4 #[t_, t_, t_, t_, t_, t_, t_, t_, t_, t_, t_, f_, t_, f_, f_, f_] (fun s => [(16, .agg #[.slice s.2.2.1.1 N2 s.2.2.1.2]), (21, .agg #[.slice s.2.2.2.1.1 N s.2.2.2.1.2]), (23, .agg #[.slice s.2.2.2.2.1 1 s.2.2.2.2.2]), (7, .pointer (some ⟨s.1, 0, none⟩)), (9, .pointer (some ⟨s.2.1, 0, none⟩))]) (fun s w' => Z0 w' (s.1) ∧ Z0 w' (s.2.1) ∧ v2.heap.size ≤ s.1 ∧ v2.heap.size ≤ s.2.1 ∧ s.1 ≠ s.2.1 ∧ Ow v2 w' s.2.2.1.1 N2 s.2.2.1.2 LW ∧ Ow v2 w' s.2.2.2.1.1 N s.2.2.2.1.2 LJ ∧ Ow v2 w' s.2.2.2.2.1 1 s.2.2.2.2.2 [z] ∧ N2 ≤ s.2.2.1.2 ∧ N ≤ s.2.2.2.1.2 ∧ 1 ≤ s.2.2.2.2.2 ∧ Sm v2 w.heap.size Aa k ca Ab q cb z w') ?_ ?_
    rotate_left
    ·intro hJ2_7_9_10_12
     refine join_ (σ := Nat × Nat × (Option Addr × Nat) × (Option Addr × Nat) × (Option Addr × Nat)) 4 #[t_, t_, t_, t_, t_, t_, t_, t_, t_, t_, f_, t_, t_, f_, f_, f_] (fun s => [(16, .agg #[.slice s.2.2.1.1 N2 s.2.2.1.2]), (21, .agg #[.slice s.2.2.2.1.1 N s.2.2.2.1.2]), (23, .agg #[.slice s.2.2.2.2.1 1 s.2.2.2.2.2]), (8, .pointer (some ⟨s.1, 0, none⟩)), (9, .pointer (some ⟨s.2.1, 0, none⟩))]) (fun s w' => Z0 w' (s.1) ∧ Z0 w' (s.2.1) ∧ v2.heap.size ≤ s.1 ∧ v2.heap.size ≤ s.2.1 ∧ s.1 ≠ s.2.1 ∧ Ow v2 w' s.2.2.1.1 N2 s.2.2.1.2 LW ∧ Ow v2 w' s.2.2.2.1.1 N s.2.2.2.1.2 LJ ∧ Ow v2 w' s.2.2.2.2.1 1 s.2.2.2.2.2 [z] ∧ N2 ≤ s.2.2.1.2 ∧ N ≤ s.2.2.2.1.2 ∧ 1 ≤ s.2.2.2.2.2 ∧ Sm v2 w.heap.size Aa k ca Ab q cb z w') ?_ ?_
     rotate_left
     ·intro hJ2_7_9_11_12
      refine join_ (σ := Nat × Nat × Nat × (Option Addr × Nat) × (Option Addr × Nat)) 4 #[t_, t_, t_, t_, t_, t_, t_, t_, t_, f_, t_, t_, t_, f_, f_, f_] (fun s => [(16, .agg #[.slice s.2.2.2.1.1 N2 s.2.2.2.1.2]), (21, .agg #[.slice s.2.2.2.2.1 N s.2.2.2.2.2]), (7, .pointer (some ⟨s.1, 0, none⟩)), (8, .pointer (some ⟨s.2.1, 0, none⟩)), (9, .pointer (some ⟨s.2.2.1, 0, none⟩))]) (fun s w' => Z0 w' (s.1) ∧ Z0 w' (s.2.1) ∧ Z0 w' (s.2.2.1) ∧ v2.heap.size ≤ s.1 ∧ v2.heap.size ≤ s.2.1 ∧ v2.heap.size ≤ s.2.2.1 ∧ s.1 ≠ s.2.1 ∧ s.1 ≠ s.2.2.1 ∧ s.2.1 ≠ s.2.2.1 ∧ Ow v2 w' s.2.2.2.1.1 N2 s.2.2.2.1.2 LW ∧ Ow v2 w' s.2.2.2.2.1 N s.2.2.2.2.2 LJ ∧ N2 ≤ s.2.2.2.1.2 ∧ N ≤ s.2.2.2.2.2 ∧ Sm v2 w.heap.size Aa k ca Ab q cb z w') ?_ ?_
      rotate_left
      ·intro hJ2_7_10_11_12
       refine join_ (σ := Nat × (Option Addr × Nat) × (Option Addr × Nat) × (Option Addr × Nat)) 5 #[t_, t_, t_, t_, t_, t_, t_, t_, t_, t_, t_, f_, f_, f_, f_, f_] (fun s => [(16, .agg #[.slice s.2.1.1 N2 s.2.1.2]), (21, .agg #[.slice s.2.2.1.1 N s.2.2.1.2]), (23, .agg #[.slice s.2.2.2.1 1 s.2.2.2.2]), (7, .pointer (some ⟨s.1, 0, none⟩))]) (fun s w' => Z0 w' (s.1) ∧ v2.heap.size ≤ s.1 ∧ Ow v2 w' s.2.1.1 N2 s.2.1.2 LW ∧ Ow v2 w' s.2.2.1.1 N s.2.2.1.2 LJ ∧ Ow v2 w' s.2.2.2.1 1 s.2.2.2.2 [z] ∧ N2 ≤ s.2.1.2 ∧ N ≤ s.2.2.1.2 ∧ 1 ≤ s.2.2.2.2 ∧ Sm v2 w.heap.size Aa k ca Ab q cb z w') ?_ ?_
       rotate_left
       ·intro hJ2_7_9_10
        refine join_ (σ := Nat × (Option Addr × Nat) × (Option Addr × Nat) × (Option Addr × Nat)) 5 #[t_, t_, t_, t_, t_, t_, t_, t_, t_, t_, f_, t_, f_, f_, f_, f_] (fun s => [(16, .agg #[.slice s.2.1.1 N2 s.2.1.2]), (21, .agg #[.slice s.2.2.1.1 N s.2.2.1.2]), (23, .agg #[.slice s.2.2.2.1 1 s.2.2.2.2]), (8, .pointer (some ⟨s.1, 0, none⟩))]) (fun s w' => Z0 w' (s.1) ∧ v2.heap.size ≤ s.1 ∧ Ow v2 w' s.2.1.1 N2 s.2.1.2 LW ∧ Ow v2 w' s.2.2.1.1 N s.2.2.1.2 LJ ∧ Ow v2 w' s.2.2.2.1 1 s.2.2.2.2 [z] ∧ N2 ≤ s.2.1.2 ∧ N ≤ s.2.2.1.2 ∧ 1 ≤ s.2.2.2.2 ∧ Sm v2 w.heap.size Aa k ca Ab q cb z w') ?_ ?_
        rotate_left
        ·intro hJ2_7_9_11
         refine join_ (σ := Nat × (Option Addr × Nat) × (Option Addr × Nat) × (Option Addr × Nat)) 5 #[t_, t_, t_, t_, t_, t_, t_, t_, t_, t_, f_, f_, t_, f_, f_, f_] (fun s => [(16, .agg #[.slice s.2.1.1 N2 s.2.1.2]), (21, .agg #[.slice s.2.2.1.1 N s.2.2.1.2]), (23, .agg #[.slice s.2.2.2.1 1 s.2.2.2.2]), (9, .pointer (some ⟨s.1, 0, none⟩))]) (fun s w' => Z0 w' (s.1) ∧ v2.heap.size ≤ s.1 ∧ Ow v2 w' s.2.1.1 N2 s.2.1.2 LW ∧ Ow v2 w' s.2.2.1.1 N s.2.2.1.2 LJ ∧ Ow v2 w' s.2.2.2.1 1 s.2.2.2.2 [z] ∧ N2 ≤ s.2.1.2 ∧ N ≤ s.2.2.1.2 ∧ 1 ≤ s.2.2.2.2 ∧ Sm v2 w.heap.size Aa k ca Ab q cb z w') ?_ ?_
         rotate_left
         ·intro hJ2_7_9_12
          refine join_ (σ := Nat × Nat × (Option Addr × Nat) × (Option Addr × Nat)) 5 #[t_, t_, t_, t_, t_, t_, t_, t_, t_, f_, t_, t_, f_, f_, f_, f_] (fun s => [(16, .agg #[.slice s.2.2.1.1 N2 s.2.2.1.2]), (21, .agg #[.slice s.2.2.2.1 N s.2.2.2.2]), (7, .pointer (some ⟨s.1, 0, none⟩)), (8, .pointer (some ⟨s.2.1, 0, none⟩))]) (fun s w' => Z0 w' (s.1) ∧ Z0 w' (s.2.1) ∧ v2.heap.size ≤ s.1 ∧ v2.heap.size ≤ s.2.1 ∧ s.1 ≠ s.2.1 ∧ Ow v2 w' s.2.2.1.1 N2 s.2.2.1.2 LW ∧ Ow v2 w' s.2.2.2.1 N s.2.2.2.2 LJ ∧ N2 ≤ s.2.2.1.2 ∧ N ≤ s.2.2.2.2 ∧ Sm v2 w.heap.size Aa k ca Ab q cb z w') ?_ ?_
          rotate_left
          ·intro hJ2_7_10_11
           refine join_ (σ := Nat × Nat × (Option Addr × Nat) × (Option Addr × Nat)) 5 #[t_, t_, t_, t_, t_, t_, t_, t_, t_, f_, t_, f_, t_, f_, f_, f_] (fun s => [(16, .agg #[.slice s.2.2.1.1 N2 s.2.2.1.2]), (21, .agg #[.slice s.2.2.2.1 N s.2.2.2.2]), (7, .pointer (some ⟨s.1, 0, none⟩)), (9, .pointer (some ⟨s.2.1, 0, none⟩))]) (fun s w' => Z0 w' (s.1) ∧ Z0 w' (s.2.1) ∧ v2.heap.size ≤ s.1 ∧ v2.heap.size ≤ s.2.1 ∧ s.1 ≠ s.2.1 ∧ Ow v2 w' s.2.2.1.1 N2 s.2.2.1.2 LW ∧ Ow v2 w' s.2.2.2.1 N s.2.2.2.2 LJ ∧ N2 ≤ s.2.2.1.2 ∧ N ≤ s.2.2.2.2 ∧ Sm v2 w.heap.size Aa k ca Ab q cb z w') ?_ ?_
           rotate_left
           ·intro hJ2_7_10_12
            refine join_ (σ := Nat × Nat × (Option Addr × Nat) × (Option Addr × Nat)) 5 #[t_, t_, t_, t_, t_, t_, t_, t_, t_, f_, f_, t_, t_, f_, f_, f_] (fun s => [(16, .agg #[.slice s.2.2.1.1 N2 s.2.2.1.2]), (21, .agg #[.slice s.2.2.2.1 N s.2.2.2.2]), (8, .pointer (some ⟨s.1, 0, none⟩)), (9, .pointer (some ⟨s.2.1, 0, none⟩))]) (fun s w' => Z0 w' (s.1) ∧ Z0 w' (s.2.1) ∧ v2.heap.size ≤ s.1 ∧ v2.heap.size ≤ s.2.1 ∧ s.1 ≠ s.2.1 ∧ Ow v2 w' s.2.2.1.1 N2 s.2.2.1.2 LW ∧ Ow v2 w' s.2.2.2.1 N s.2.2.2.2 LJ ∧ N2 ≤ s.2.2.1.2 ∧ N ≤ s.2.2.2.2 ∧ Sm v2 w.heap.size Aa k ca Ab q cb z w') ?_ ?_
            rotate_left
            ·intro hJ2_7_11_12
             refine join_ (σ := Nat × Nat × Nat × (Option Addr × Nat)) 5 #[t_, t_, t_, t_, t_, t_, t_, f_, t_, f_, t_, t_, t_, f_, f_, f_] (fun s => [(16, .agg #[.slice s.2.2.2.1 N2 s.2.2.2.2]), (7, .pointer (some ⟨s.1, 0, none⟩)), (8, .pointer (some ⟨s.2.1, 0, none⟩)), (9, .pointer (some ⟨s.2.2.1, 0, none⟩))]) (fun s w' => Z0 w' (s.1) ∧ Z0 w' (s.2.1) ∧ Z0 w' (s.2.2.1) ∧ v2.heap.size ≤ s.1 ∧ v2.heap.size ≤ s.2.1 ∧ v2.heap.size ≤ s.2.2.1 ∧ s.1 ≠ s.2.1 ∧ s.1 ≠ s.2.2.1 ∧ s.2.1 ≠ s.2.2.1 ∧ Ow v2 w' s.2.2.2.1 N2 s.2.2.2.2 LW ∧ N2 ≤ s.2.2.2.2 ∧ Sm v2 w.heap.size Aa k ca Ab q cb z w') ?_ ?_
             rotate_left
             ·intro hJ2_10_11_12
              refine join_ (σ := (Option Addr × Nat) × (Option Addr × Nat) × (Option Addr × Nat)) 6 #[t_, t_, t_, t_, t_, t_, t_, t_, t_, t_, f_, f_, f_, f_, f_, f_] (fun s => [(16, .agg #[.slice s.1.1 N2 s.1.2]), (21, .agg #[.slice s.2.1.1 N s.2.1.2]), (23, .agg #[.slice s.2.2.1 1 s.2.2.2])]) (fun s w' => Ow v2 w' s.1.1 N2 s.1.2 LW ∧ Ow v2 w' s.2.1.1 N s.2.1.2 LJ ∧ Ow v2 w' s.2.2.1 1 s.2.2.2 [z] ∧ N2 ≤ s.1.2 ∧ N ≤ s.2.1.2 ∧ 1 ≤ s.2.2.2 ∧ Sm v2 w.heap.size Aa k ca Ab q cb z w') ?_ ?_
              rotate_left
              ·intro hJ2_7_9
               refine join_ (σ := Nat × (Option Addr × Nat) × (Option Addr × Nat)) 6 #[t_, t_, t_, t_, t_, t_, t_, t_, t_, f_, t_, f_, f_, f_, f_, f_] (fun s => [(16, .agg #[.slice s.2.1.1 N2 s.2.1.2]), (21, .agg #[.slice s.2.2.1 N s.2.2.2]), (7, .pointer (some ⟨s.1, 0, none⟩))]) (fun s w' => Z0 w' (s.1) ∧ v2.heap.size ≤ s.1 ∧ Ow v2 w' s.2.1.1 N2 s.2.1.2 LW ∧ Ow v2 w' s.2.2.1 N s.2.2.2 LJ ∧ N2 ≤ s.2.1.2 ∧ N ≤ s.2.2.2 ∧ Sm v2 w.heap.size Aa k ca Ab q cb z w') ?_ ?_
               rotate_left
               ·intro hJ2_7_10
                refine join_ (σ := Nat × (Option Addr × Nat) × (Option Addr × Nat)) 6 #[t_, t_, t_, t_, t_, t_, t_, t_, t_, f_, f_, t_, f_, f_, f_, f_] (fun s => [(16, .agg #[.slice s.2.1.1 N2 s.2.1.2]), (21, .agg #[.slice s.2.2.1 N s.2.2.2]), (8, .pointer (some ⟨s.1, 0, none⟩))]) (fun s w' => Z0 w' (s.1) ∧ v2.heap.size ≤ s.1 ∧ Ow v2 w' s.2.1.1 N2 s.2.1.2 LW ∧ Ow v2 w' s.2.2.1 N s.2.2.2 LJ ∧ N2 ≤ s.2.1.2 ∧ N ≤ s.2.2.2 ∧ Sm v2 w.heap.size Aa k ca Ab q cb z w') ?_ ?_
                rotate_left
                ·intro hJ2_7_11
                 refine join_ (σ := Nat × (Option Addr × Nat) × (Option Addr × Nat)) 6 #[t_, t_, t_, t_, t_, t_, t_, t_, t_, f_, f_, f_, t_, f_, f_, f_] (fun s => [(16, .agg #[.slice s.2.1.1 N2 s.2.1.2]), (21, .agg #[.slice s.2.2.1 N s.2.2.2]), (9, .pointer (some ⟨s.1, 0, none⟩))]) (fun s w' => Z0 w' (s.1) ∧ v2.heap.size ≤ s.1 ∧ Ow v2 w' s.2.1.1 N2 s.2.1.2 LW ∧ Ow v2 w' s.2.2.1 N s.2.2.2 LJ ∧ N2 ≤ s.2.1.2 ∧ N ≤ s.2.2.2 ∧ Sm v2 w.heap.size Aa k ca Ab q cb z w') ?_ ?_
                 rotate_left
                 ·intro hJ2_7_12
                  refine join_ (σ := Nat × Nat × (Option Addr × Nat)) 6 #[t_, t_, t_, t_, t_, t_, t_, f_, t_, f_, t_, t_, f_, f_, f_, f_] (fun s => [(16, .agg #[.slice s.2.2.1 N2 s.2.2.2]), (7, .pointer (some ⟨s.1, 0, none⟩)), (8, .pointer (some ⟨s.2.1, 0, none⟩))]) (fun s w' => Z0 w' (s.1) ∧ Z0 w' (s.2.1) ∧ v2.heap.size ≤ s.1 ∧ v2.heap.size ≤ s.2.1 ∧ s.1 ≠ s.2.1 ∧ Ow v2 w' s.2.2.1 N2 s.2.2.2 LW ∧ N2 ≤ s.2.2.2 ∧ Sm v2 w.heap.size Aa k ca Ab q cb z w') ?_ ?_
                  rotate_left
                  ·intro hJ2_10_11
                   refine join_ (σ := Nat × Nat × (Option Addr × Nat)) 6 #[t_, t_, t_, t_, t_, t_, t_, f_, t_, f_, t_, f_, t_, f_, f_, f_] (fun s => [(16, .agg #[.slice s.2.2.1 N2 s.2.2.2]), (7, .pointer (some ⟨s.1, 0, none⟩)), (9, .pointer (some ⟨s.2.1, 0, none⟩))]) (fun s w' => Z0 w' (s.1) ∧ Z0 w' (s.2.1) ∧ v2.heap.size ≤ s.1 ∧ v2.heap.size ≤ s.2.1 ∧ s.1 ≠ s.2.1 ∧ Ow v2 w' s.2.2.1 N2 s.2.2.2 LW ∧ N2 ≤ s.2.2.2 ∧ Sm v2 w.heap.size Aa k ca Ab q cb z w') ?_ ?_
                   rotate_left
                   ·intro hJ2_10_12
                    refine join_ (σ := Nat × Nat × (Option Addr × Nat)) 6 #[t_, t_, t_, t_, t_, t_, t_, f_, t_, f_, f_, t_, t_, f_, f_, f_] (fun s => [(16, .agg #[.slice s.2.2.1 N2 s.2.2.2]), (8, .pointer (some ⟨s.1, 0, none⟩)), (9, .pointer (some ⟨s.2.1, 0, none⟩))]) (fun s w' => Z0 w' (s.1) ∧ Z0 w' (s.2.1) ∧ v2.heap.size ≤ s.1 ∧ v2.heap.size ≤ s.2.1 ∧ s.1 ≠ s.2.1 ∧ Ow v2 w' s.2.2.1 N2 s.2.2.2 LW ∧ N2 ≤ s.2.2.2 ∧ Sm v2 w.heap.size Aa k ca Ab q cb z w') ?_ ?_
                    rotate_left
                    ·intro hJ2_11_12
                     refine join_ (σ := Nat × Nat × Nat) 6 #[t_, t_, f_, t_, t_, t_, t_, f_, t_, f_, t_, t_, t_, f_, f_, f_] (fun s => [(7, .pointer (some ⟨s.1, 0, none⟩)), (8, .pointer (some ⟨s.2.1, 0, none⟩)), (9, .pointer (some ⟨s.2.2, 0, none⟩))]) (fun s w' => Z0 w' (s.1) ∧ Z0 w' (s.2.1) ∧ Z0 w' (s.2.2) ∧ v2.heap.size ≤ s.1 ∧ v2.heap.size ≤ s.2.1 ∧ v2.heap.size ≤ s.2.2 ∧ s.1 ≠ s.2.1 ∧ s.1 ≠ s.2.2 ∧ s.2.1 ≠ s.2.2 ∧ Sm v2 w.heap.size Aa k ca Ab q cb z w') ?_ ?_
                     rotate_left
                     ·intro hJ10_11_12
                      refine join_ (σ := (Option Addr × Nat) × (Option Addr × Nat)) 7 #[t_, t_, t_, t_, t_, t_, t_, t_, t_, f_, f_, f_, f_, f_, f_, f_] (fun s => [(16, .agg #[.slice s.1.1 N2 s.1.2]), (21, .agg #[.slice s.2.1 N s.2.2])]) (fun s w' => Ow v2 w' s.1.1 N2 s.1.2 LW ∧ Ow v2 w' s.2.1 N s.2.2 LJ ∧ N2 ≤ s.1.2 ∧ N ≤ s.2.2 ∧ Sm v2 w.heap.size Aa k ca Ab q cb z w') ?_ ?_
                      rotate_left
                      ·intro hJ2_7
                       refine join_ (σ := Nat × (Option Addr × Nat)) 7 #[t_, t_, t_, t_, t_, t_, t_, f_, t_, f_, t_, f_, f_, f_, f_, f_] (fun s => [(16, .agg #[.slice s.2.1 N2 s.2.2]), (7, .pointer (some ⟨s.1, 0, none⟩))]) (fun s w' => Z0 w' (s.1) ∧ v2.heap.size ≤ s.1 ∧ Ow v2 w' s.2.1 N2 s.2.2 LW ∧ N2 ≤ s.2.2 ∧ Sm v2 w.heap.size Aa k ca Ab q cb z w') ?_ ?_
                       rotate_left
                       ·intro hJ2_10
                        refine join_ (σ := Nat × (Option Addr × Nat)) 7 #[t_, t_, t_, t_, t_, t_, t_, f_, t_, f_, f_, t_, f_, f_, f_, f_] (fun s => [(16, .agg #[.slice s.2.1 N2 s.2.2]), (8, .pointer (some ⟨s.1, 0, none⟩))]) (fun s w' => Z0 w' (s.1) ∧ v2.heap.size ≤ s.1 ∧ Ow v2 w' s.2.1 N2 s.2.2 LW ∧ N2 ≤ s.2.2 ∧ Sm v2 w.heap.size Aa k ca Ab q cb z w') ?_ ?_
                        rotate_left
                        ·intro hJ2_11
                         refine join_ (σ := Nat × (Option Addr × Nat)) 7 #[t_, t_, t_, t_, t_, t_, t_, f_, t_, f_, f_, f_, t_, f_, f_, f_] (fun s => [(16, .agg #[.slice s.2.1 N2 s.2.2]), (9, .pointer (some ⟨s.1, 0, none⟩))]) (fun s w' => Z0 w' (s.1) ∧ v2.heap.size ≤ s.1 ∧ Ow v2 w' s.2.1 N2 s.2.2 LW ∧ N2 ≤ s.2.2 ∧ Sm v2 w.heap.size Aa k ca Ab q cb z w') ?_ ?_
                         rotate_left
                         ·intro hJ2_12
                          refine join_ (σ := Nat × Nat) 7 #[t_, t_, f_, t_, t_, t_, t_, f_, t_, f_, t_, t_, f_, f_, f_, f_] (fun s => [(7, .pointer (some ⟨s.1, 0, none⟩)), (8, .pointer (some ⟨s.2, 0, none⟩))]) (fun s w' => Z0 w' (s.1) ∧ Z0 w' (s.2) ∧ v2.heap.size ≤ s.1 ∧ v2.heap.size ≤ s.2 ∧ s.1 ≠ s.2 ∧ Sm v2 w.heap.size Aa k ca Ab q cb z w') ?_ ?_
                          rotate_left
                          ·intro hJ10_11
                           refine join_ (σ := Nat × Nat) 7 #[t_, t_, f_, t_, t_, t_, t_, f_, t_, f_, t_, f_, t_, f_, f_, f_] (fun s => [(7, .pointer (some ⟨s.1, 0, none⟩)), (9, .pointer (some ⟨s.2, 0, none⟩))]) (fun s w' => Z0 w' (s.1) ∧ Z0 w' (s.2) ∧ v2.heap.size ≤ s.1 ∧ v2.heap.size ≤ s.2 ∧ s.1 ≠ s.2 ∧ Sm v2 w.heap.size Aa k ca Ab q cb z w') ?_ ?_
                           rotate_left
                           ·intro hJ10_12
                            refine join_ (σ := Nat × Nat) 7 #[t_, t_, f_, t_, t_, t_, t_, f_, t_, f_, f_, t_, t_, f_, f_, f_] (fun s => [(8, .pointer (some ⟨s.1, 0, none⟩)), (9, .pointer (some ⟨s.2, 0, none⟩))]) (fun s w' => Z0 w' (s.1) ∧ Z0 w' (s.2) ∧ v2.heap.size ≤ s.1 ∧ v2.heap.size ≤ s.2 ∧ s.1 ≠ s.2 ∧ Sm v2 w.heap.size Aa k ca Ab q cb z w') ?_ ?_
                            rotate_left
                            ·intro hJ11_12
                             refine join_ (σ := (Option Addr × Nat)) 8 #[t_, t_, t_, t_, t_, t_, t_, f_, t_, f_, f_, f_, f_, f_, f_, f_] (fun s => [(16, .agg #[.slice s.1 N2 s.2])]) (fun s w' => Ow v2 w' s.1 N2 s.2 LW ∧ N2 ≤ s.2 ∧ Sm v2 w.heap.size Aa k ca Ab q cb z w') ?_ ?_
                             rotate_left
                             ·intro hJ2
                              refine join_ (σ := Nat) 8 #[t_, t_, f_, t_, t_, t_, t_, f_, t_, f_, t_, f_, f_, f_, f_, f_] (fun s => [(7, .pointer (some ⟨s, 0, none⟩))]) (fun s w' => Z0 w' (s) ∧ v2.heap.size ≤ s ∧ Sm v2 w.heap.size Aa k ca Ab q cb z w') ?_ ?_
                              rotate_left
                              ·intro hJ10
                               refine join_ (σ := Nat) 8 #[t_, t_, f_, t_, t_, t_, t_, f_, t_, f_, f_, t_, f_, f_, f_, f_] (fun s => [(8, .pointer (some ⟨s, 0, none⟩))]) (fun s w' => Z0 w' (s) ∧ v2.heap.size ≤ s ∧ Sm v2 w.heap.size Aa k ca Ab q cb z w') ?_ ?_
                               rotate_left
                               ·intro hJ11
                                refine join_ (σ := Nat) 8 #[t_, t_, f_, t_, t_, t_, t_, f_, t_, f_, f_, f_, t_, f_, f_, f_] (fun s => [(9, .pointer (some ⟨s, 0, none⟩))]) (fun s w' => Z0 w' (s) ∧ v2.heap.size ≤ s ∧ Sm v2 w.heap.size Aa k ca Ab q cb z w') ?_ ?_
                                rotate_left
                                ·intro hJ12
                                 refine four_ (i := 2) (j := 10) (k := 11) (m := 12) (Ni := some 16) (Nj := some 7) (Nk := some 8) (Nm := some 9) #[t_, t_, t_, t_, t_, t_, t_, f_, t_, f_, f_, f_, f_, f_, f_, f_] #[t_, t_, f_, t_, t_, t_, t_, f_, t_, f_, t_, f_, f_, f_, f_, f_] #[t_, t_, f_, t_, t_, t_, t_, f_, t_, f_, f_, t_, f_, f_, f_, f_] #[t_, t_, f_, t_, t_, t_, t_, f_, t_, f_, f_, f_, t_, f_, f_, f_] rfl rfl rfl rfl rfl rfl rfl rfl (by kernel_rfl) (by decide) (by decide) (by decide) (by decide) (fun K hK => ?_) (fun K hK => ?_) (fun K hK => ?_) (fun K hK => ?_)
                                 ·refine goes_ Try.func21 (by kernel_rfl) rfl #[.agg #[.slice Aa k ca], .agg (nc z)] (by rfl) rfl rfl (by simp only [List.map_toArray, List.map_cons, List.map_nil]; rfl) ?_
                                  with_reducible refine (KW.out _ hHeld.2.2.2).mono ?_
                                  rintro e X2 ⟨⟨v_, rfl, hoW⟩, hb2⟩
                                  refine ⟨_, rfl, ?_⟩
                                  obtain ⟨AW, cW, rfl, hleW, _⟩ := own_C (n := N2) hnW_ hmW_.out hoW
                                  replace hoW := own_weaken hoW (hHeld.2.2.2).size
                                  refine hK.out _ _ ((sm_ hb2 hHeld)) (fun hHeld => ?_)
                                  exact norm_ (by simp only [putAll, Act.put, sa_, sz_, ss_]; try rfl) (hJ2 ((AW, cW)) _ ⟨hoW, hleW, hHeld⟩)
                                 ·refine value_ (w1 := ?_) (v := ?_) (by rfl) rfl ?_ ?_
                                  rotate_left 2
                                  ·go_simp
                                   constructor <;> rfl
                                  refine fresh0_ fun X10 hb10 RW => ?_
                                  have leW := (hHeld.2.2.2).size
                                  refine hK.out _ _ ((sm_ hb10 hHeld)) (fun hHeld => ?_)
                                  exact norm_ (by simp only [putAll, Act.put, sa_, sz_, ss_]; try rfl) (hJ10 (v2.heap.size) _ ⟨RW, leW, hHeld⟩)
                                 ·refine value_ (w1 := ?_) (v := ?_) (by rfl) rfl ?_ ?_
                                  rotate_left 2
                                  ·go_simp
                                   constructor <;> rfl
                                  refine fresh0_ fun X11 hb11 RJ => ?_
                                  have leJ := (hHeld.2.2.2).size
                                  refine hK.out _ _ ((sm_ hb11 hHeld)) (fun hHeld => ?_)
                                  exact norm_ (by simp only [putAll, Act.put, sa_, sz_, ss_]; try rfl) (hJ11 (v2.heap.size) _ ⟨RJ, leJ, hHeld⟩)
                                 ·refine value_ (w1 := ?_) (v := ?_) (by rfl) rfl ?_ ?_
                                  rotate_left 2
                                  ·go_simp
                                   constructor <;> rfl
                                  refine fresh0_ fun X12 hb12 RL => ?_
                                  have leL := (hHeld.2.2.2).size
                                  refine hK.out _ _ ((sm_ hb12 hHeld)) (fun hHeld => ?_)
                                  exact norm_ (by simp only [putAll, Act.put, sa_, sz_, ss_]; try rfl) (hJ12 (v2.heap.size) _ ⟨RL, leL, hHeld⟩)
                                ·rintro PL Y12 ⟨RL, leL, hHeld⟩
                                 try simp only [] at RL leL
                                 refine norm_ (a' := ?_) ?_ ?_
                                 rotate_left
                                 ·simp only [putAll, Act.put, sa_, sz_, ss_]
                                  rfl
                                 refine three_ (i := 2) (j := 10) (k := 11) (Ni := some 16) (Nj := some 7) (Nk := some 8) #[t_, t_, t_, t_, t_, t_, t_, f_, t_, f_, f_, f_, t_, f_, f_, f_] #[t_, t_, f_, t_, t_, t_, t_, f_, t_, f_, t_, f_, t_, f_, f_, f_] #[t_, t_, f_, t_, t_, t_, t_, f_, t_, f_, f_, t_, t_, f_, f_, f_] rfl rfl rfl rfl rfl rfl (by kernel_rfl) (by decide) (by decide) (by decide) (fun K hK => ?_) (fun K hK => ?_) (fun K hK => ?_)
                                 ·refine goes_ Try.func21 (by kernel_rfl) rfl #[.agg #[.slice Aa k ca], .agg (nc z)] (by rfl) rfl rfl (by simp only [List.map_toArray, List.map_cons, List.map_nil]; rfl) ?_
                                  with_reducible refine (KW.out _ hHeld.2.2.2).mono ?_
                                  rintro e X2 ⟨⟨v_, rfl, hoW⟩, hb2⟩
                                  refine ⟨_, rfl, ?_⟩
                                  obtain ⟨AW, cW, rfl, hleW, _⟩ := own_C (n := N2) hnW_ hmW_.out hoW
                                  replace hoW := own_weaken hoW (hHeld.2.2.2).size
                                  replace RL := below_blk hb2 RL
                                  refine hK.out _ _ ((sm_ hb2 hHeld)) (fun hHeld => ?_)
                                  exact norm_ (by simp only [putAll, Act.put, sa_, sz_, ss_]; try rfl) (hJ2_12 (PL, (AW, cW)) _ ⟨RL, leL, hoW, hleW, hHeld⟩)
                                 ·refine value_ (w1 := ?_) (v := ?_) (by rfl) rfl ?_ ?_
                                  rotate_left 2
                                  ·go_simp
                                   constructor <;> rfl
                                  refine fresh_ fun X10 hb10 RW => ?_
                                  have leW := (hHeld.2.2.2).size
                                  have neL_W := Nat.ne_of_lt (lt_of_blk RL)
                                  replace RL := below_blk hb10 RL
                                  refine hK.out _ _ ((sm_ hb10 hHeld)) (fun hHeld => ?_)
                                  exact norm_ (by simp only [putAll, Act.put, sa_, sz_, ss_]; try rfl) (hJ10_12 (Y12.heap.size, PL) _ ⟨RW, RL, leW, leL, neL_W.symm, hHeld⟩)
                                 ·refine value_ (w1 := ?_) (v := ?_) (by rfl) rfl ?_ ?_
                                  rotate_left 2
                                  ·go_simp
                                   constructor <;> rfl
                                  refine fresh_ fun X11 hb11 RJ => ?_
                                  have leJ := (hHeld.2.2.2).size
                                  have neL_J := Nat.ne_of_lt (lt_of_blk RL)
                                  replace RL := below_blk hb11 RL
                                  refine hK.out _ _ ((sm_ hb11 hHeld)) (fun hHeld => ?_)
                                  exact norm_ (by simp only [putAll, Act.put, sa_, sz_, ss_]; try rfl) (hJ11_12 (Y12.heap.size, PL) _ ⟨RJ, RL, leJ, leL, neL_J.symm, hHeld⟩)
                               ·rintro PJ Y11 ⟨RJ, leJ, hHeld⟩
                                try simp only [] at RJ leJ
                                refine norm_ (a' := ?_) ?_ ?_
                                rotate_left
                                ·simp only [putAll, Act.put, sa_, sz_, ss_]
                                 rfl
                                refine three_ (i := 2) (j := 10) (k := 12) (Ni := some 16) (Nj := some 7) (Nk := some 9) #[t_, t_, t_, t_, t_, t_, t_, f_, t_, f_, f_, t_, f_, f_, f_, f_] #[t_, t_, f_, t_, t_, t_, t_, f_, t_, f_, t_, t_, f_, f_, f_, f_] #[t_, t_, f_, t_, t_, t_, t_, f_, t_, f_, f_, t_, t_, f_, f_, f_] rfl rfl rfl rfl rfl rfl (by kernel_rfl) (by decide) (by decide) (by decide) (fun K hK => ?_) (fun K hK => ?_) (fun K hK => ?_)
                                ·refine goes_ Try.func21 (by kernel_rfl) rfl #[.agg #[.slice Aa k ca], .agg (nc z)] (by rfl) rfl rfl (by simp only [List.map_toArray, List.map_cons, List.map_nil]; rfl) ?_
                                 with_reducible refine (KW.out _ hHeld.2.2.2).mono ?_
                                 rintro e X2 ⟨⟨v_, rfl, hoW⟩, hb2⟩
                                 refine ⟨_, rfl, ?_⟩
                                 obtain ⟨AW, cW, rfl, hleW, _⟩ := own_C (n := N2) hnW_ hmW_.out hoW
                                 replace hoW := own_weaken hoW (hHeld.2.2.2).size
                                 replace RJ := below_blk hb2 RJ
                                 refine hK.out _ _ ((sm_ hb2 hHeld)) (fun hHeld => ?_)
                                 exact norm_ (by simp only [putAll, Act.put, sa_, sz_, ss_]; try rfl) (hJ2_11 (PJ, (AW, cW)) _ ⟨RJ, leJ, hoW, hleW, hHeld⟩)
                                ·refine value_ (w1 := ?_) (v := ?_) (by rfl) rfl ?_ ?_
                                 rotate_left 2
                                 ·go_simp
                                  constructor <;> rfl
                                 refine fresh_ fun X10 hb10 RW => ?_
                                 have leW := (hHeld.2.2.2).size
                                 have neJ_W := Nat.ne_of_lt (lt_of_blk RJ)
                                 replace RJ := below_blk hb10 RJ
                                 refine hK.out _ _ ((sm_ hb10 hHeld)) (fun hHeld => ?_)
                                 exact norm_ (by simp only [putAll, Act.put, sa_, sz_, ss_]; try rfl) (hJ10_11 (Y11.heap.size, PJ) _ ⟨RW, RJ, leW, leJ, neJ_W.symm, hHeld⟩)
                                ·refine value_ (w1 := ?_) (v := ?_) (by rfl) rfl ?_ ?_
                                 rotate_left 2
                                 ·go_simp
                                  constructor <;> rfl
                                 refine fresh_ fun X12 hb12 RL => ?_
                                 have leL := (hHeld.2.2.2).size
                                 have neJ_L := Nat.ne_of_lt (lt_of_blk RJ)
                                 replace RJ := below_blk hb12 RJ
                                 refine hK.out _ _ ((sm_ hb12 hHeld)) (fun hHeld => ?_)
                                 exact norm_ (by simp only [putAll, Act.put, sa_, sz_, ss_]; try rfl) (hJ11_12 (PJ, Y11.heap.size) _ ⟨RJ, RL, leJ, leL, neJ_L, hHeld⟩)
                              ·rintro PW Y10 ⟨RW, leW, hHeld⟩
                               try simp only [] at RW leW
                               refine norm_ (a' := ?_) ?_ ?_
                               rotate_left
                               ·simp only [putAll, Act.put, sa_, sz_, ss_]
                                rfl
                               refine three_ (i := 2) (j := 11) (k := 12) (Ni := some 16) (Nj := some 8) (Nk := some 9) #[t_, t_, t_, t_, t_, t_, t_, f_, t_, f_, t_, f_, f_, f_, f_, f_] #[t_, t_, f_, t_, t_, t_, t_, f_, t_, f_, t_, t_, f_, f_, f_, f_] #[t_, t_, f_, t_, t_, t_, t_, f_, t_, f_, t_, f_, t_, f_, f_, f_] rfl rfl rfl rfl rfl rfl (by kernel_rfl) (by decide) (by decide) (by decide) (fun K hK => ?_) (fun K hK => ?_) (fun K hK => ?_)
                               ·refine goes_ Try.func21 (by kernel_rfl) rfl #[.agg #[.slice Aa k ca], .agg (nc z)] (by rfl) rfl rfl (by simp only [List.map_toArray, List.map_cons, List.map_nil]; rfl) ?_
                                with_reducible refine (KW.out _ hHeld.2.2.2).mono ?_
                                rintro e X2 ⟨⟨v_, rfl, hoW⟩, hb2⟩
                                refine ⟨_, rfl, ?_⟩
                                obtain ⟨AW, cW, rfl, hleW, _⟩ := own_C (n := N2) hnW_ hmW_.out hoW
                                replace hoW := own_weaken hoW (hHeld.2.2.2).size
                                replace RW := below_blk hb2 RW
                                refine hK.out _ _ ((sm_ hb2 hHeld)) (fun hHeld => ?_)
                                exact norm_ (by simp only [putAll, Act.put, sa_, sz_, ss_]; try rfl) (hJ2_10 (PW, (AW, cW)) _ ⟨RW, leW, hoW, hleW, hHeld⟩)
                               ·refine value_ (w1 := ?_) (v := ?_) (by rfl) rfl ?_ ?_
                                rotate_left 2
                                ·go_simp
                                 constructor <;> rfl
                                refine fresh_ fun X11 hb11 RJ => ?_
                                have leJ := (hHeld.2.2.2).size
                                have neW_J := Nat.ne_of_lt (lt_of_blk RW)
                                replace RW := below_blk hb11 RW
                                refine hK.out _ _ ((sm_ hb11 hHeld)) (fun hHeld => ?_)
                                exact norm_ (by simp only [putAll, Act.put, sa_, sz_, ss_]; try rfl) (hJ10_11 (PW, Y10.heap.size) _ ⟨RW, RJ, leW, leJ, neW_J, hHeld⟩)
                               ·refine value_ (w1 := ?_) (v := ?_) (by rfl) rfl ?_ ?_
                                rotate_left 2
                                ·go_simp
                                 constructor <;> rfl
                                refine fresh_ fun X12 hb12 RL => ?_
                                have leL := (hHeld.2.2.2).size
                                have neW_L := Nat.ne_of_lt (lt_of_blk RW)
                                replace RW := below_blk hb12 RW
                                refine hK.out _ _ ((sm_ hb12 hHeld)) (fun hHeld => ?_)
                                exact norm_ (by simp only [putAll, Act.put, sa_, sz_, ss_]; try rfl) (hJ10_12 (PW, Y10.heap.size) _ ⟨RW, RL, leW, leL, neW_L, hHeld⟩)
                             ·rintro ⟨AW, cW⟩ Y2 ⟨hoW, hleW, hHeld⟩
                              try simp only [] at hoW hleW
                              refine norm_ (a' := ?_) ?_ ?_
                              rotate_left
                              ·simp only [putAll, Act.put, sa_, sz_, ss_]
                               rfl
                              refine four_ (i := 7) (j := 10) (k := 11) (m := 12) (Ni := some 21) (Nj := some 7) (Nk := some 8) (Nm := some 9) #[t_, t_, t_, t_, t_, t_, t_, t_, t_, f_, f_, f_, f_, f_, f_, f_] #[t_, t_, t_, t_, t_, t_, t_, f_, t_, f_, t_, f_, f_, f_, f_, f_] #[t_, t_, t_, t_, t_, t_, t_, f_, t_, f_, f_, t_, f_, f_, f_, f_] #[t_, t_, t_, t_, t_, t_, t_, f_, t_, f_, f_, f_, t_, f_, f_, f_] rfl rfl rfl rfl rfl rfl rfl rfl (by kernel_rfl) (by decide) (by decide) (by decide) (by decide) (fun K hK => ?_) (fun K hK => ?_) (fun K hK => ?_) (fun K hK => ?_)
                              ·refine goes_ Try.func22 (by kernel_rfl) rfl #[.agg #[.slice Aa k ca], .agg #[.slice Ab q cb], .int .i64 z.f0] (by rfl) rfl rfl (by simp only [List.map_toArray, List.map_cons, List.map_nil]; rfl) ?_
                               with_reducible refine (KJ.out _ hHeld.2.2.2).mono ?_
                               rintro e X7 ⟨⟨v_, rfl, hoJ⟩, hb7⟩
                               refine ⟨_, rfl, ?_⟩
                               obtain ⟨AJ, cJ, rfl, hleJ, _⟩ := own_C (n := N) hnJ_ hmJ_.out hoJ
                               replace hoJ := own_weaken hoJ (hHeld.2.2.2).size
                               replace hoW := own_below hoW hb7
                               refine hK.out _ _ ((sm_ hb7 hHeld)) (fun hHeld => ?_)
                               exact norm_ (by simp only [putAll, Act.put, sa_, sz_, ss_]; try rfl) (hJ2_7 ((AW, cW), (AJ, cJ)) _ ⟨hoW, hoJ, hleW, hleJ, hHeld⟩)
                              ·refine value_ (w1 := ?_) (v := ?_) (by rfl) rfl ?_ ?_
                               rotate_left 2
                               ·go_simp
                                constructor <;> rfl
                               refine fresh_ fun X10 hb10 RW => ?_
                               have leW := (hHeld.2.2.2).size
                               replace hoW := own_below hoW hb10
                               refine hK.out _ _ ((sm_ hb10 hHeld)) (fun hHeld => ?_)
                               exact norm_ (by simp only [putAll, Act.put, sa_, sz_, ss_]; try rfl) (hJ2_10 (Y2.heap.size, (AW, cW)) _ ⟨RW, leW, hoW, hleW, hHeld⟩)
                              ·refine value_ (w1 := ?_) (v := ?_) (by rfl) rfl ?_ ?_
                               rotate_left 2
                               ·go_simp
                                constructor <;> rfl
                               refine fresh_ fun X11 hb11 RJ => ?_
                               have leJ := (hHeld.2.2.2).size
                               replace hoW := own_below hoW hb11
                               refine hK.out _ _ ((sm_ hb11 hHeld)) (fun hHeld => ?_)
                               exact norm_ (by simp only [putAll, Act.put, sa_, sz_, ss_]; try rfl) (hJ2_11 (Y2.heap.size, (AW, cW)) _ ⟨RJ, leJ, hoW, hleW, hHeld⟩)
                              ·refine value_ (w1 := ?_) (v := ?_) (by rfl) rfl ?_ ?_
                               rotate_left 2
                               ·go_simp
                                constructor <;> rfl
                               refine fresh_ fun X12 hb12 RL => ?_
                               have leL := (hHeld.2.2.2).size
                               replace hoW := own_below hoW hb12
                               refine hK.out _ _ ((sm_ hb12 hHeld)) (fun hHeld => ?_)
                               exact norm_ (by simp only [putAll, Act.put, sa_, sz_, ss_]; try rfl) (hJ2_12 (Y2.heap.size, (AW, cW)) _ ⟨RL, leL, hoW, hleW, hHeld⟩)
                            ·rintro ⟨PJ, PL⟩ Y11_12 ⟨RJ, RL, leJ, leL, neJ_L, hHeld⟩
                             try simp only [] at RJ RL leJ leL
                             refine norm_ (a' := ?_) ?_ ?_
                             rotate_left
                             ·simp only [putAll, Act.put, sa_, sz_, ss_]
                              rfl
                             refine two_ (i := 2) (j := 10) (Ni := some 16) (Nj := some 7) #[t_, t_, t_, t_, t_, t_, t_, f_, t_, f_, f_, t_, t_, f_, f_, f_] #[t_, t_, f_, t_, t_, t_, t_, f_, t_, f_, t_, t_, t_, f_, f_, f_] rfl rfl rfl rfl (by kernel_rfl) (by decide) (by decide) (fun K hK => ?_) (fun K hK => ?_)
                             ·refine goes_ Try.func21 (by kernel_rfl) rfl #[.agg #[.slice Aa k ca], .agg (nc z)] (by rfl) rfl rfl (by simp only [List.map_toArray, List.map_cons, List.map_nil]; rfl) ?_
                              with_reducible refine (KW.out _ hHeld.2.2.2).mono ?_
                              rintro e X2 ⟨⟨v_, rfl, hoW⟩, hb2⟩
                              refine ⟨_, rfl, ?_⟩
                              obtain ⟨AW, cW, rfl, hleW, _⟩ := own_C (n := N2) hnW_ hmW_.out hoW
                              replace hoW := own_weaken hoW (hHeld.2.2.2).size
                              replace RJ := below_blk hb2 RJ
                              replace RL := below_blk hb2 RL
                              refine hK.out _ _ ((sm_ hb2 hHeld)) (fun hHeld => ?_)
                              exact norm_ (by simp only [putAll, Act.put, sa_, sz_, ss_]; try rfl) (hJ2_11_12 (PJ, PL, (AW, cW)) _ ⟨RJ, RL, leJ, leL, neJ_L, hoW, hleW, hHeld⟩)
                             ·refine value_ (w1 := ?_) (v := ?_) (by rfl) rfl ?_ ?_
                              rotate_left 2
                              ·go_simp
                               constructor <;> rfl
                              refine fresh_ fun X10 hb10 RW => ?_
                              have leW := (hHeld.2.2.2).size
                              have neJ_W := Nat.ne_of_lt (lt_of_blk RJ)
                              have neL_W := Nat.ne_of_lt (lt_of_blk RL)
                              replace RJ := below_blk hb10 RJ
                              replace RL := below_blk hb10 RL
                              refine hK.out _ _ ((sm_ hb10 hHeld)) (fun hHeld => ?_)
                              exact norm_ (by simp only [putAll, Act.put, sa_, sz_, ss_]; try rfl) (hJ10_11_12 (Y11_12.heap.size, PJ, PL) _ ⟨RW, RJ, RL, leW, leJ, leL, neJ_W.symm, neL_W.symm, neJ_L, hHeld⟩)
                           ·rintro ⟨PW, PL⟩ Y10_12 ⟨RW, RL, leW, leL, neW_L, hHeld⟩
                            try simp only [] at RW RL leW leL
                            refine norm_ (a' := ?_) ?_ ?_
                            rotate_left
                            ·simp only [putAll, Act.put, sa_, sz_, ss_]
                             rfl
                            refine two_ (i := 2) (j := 11) (Ni := some 16) (Nj := some 8) #[t_, t_, t_, t_, t_, t_, t_, f_, t_, f_, t_, f_, t_, f_, f_, f_] #[t_, t_, f_, t_, t_, t_, t_, f_, t_, f_, t_, t_, t_, f_, f_, f_] rfl rfl rfl rfl (by kernel_rfl) (by decide) (by decide) (fun K hK => ?_) (fun K hK => ?_)
                            ·refine goes_ Try.func21 (by kernel_rfl) rfl #[.agg #[.slice Aa k ca], .agg (nc z)] (by rfl) rfl rfl (by simp only [List.map_toArray, List.map_cons, List.map_nil]; rfl) ?_
                             with_reducible refine (KW.out _ hHeld.2.2.2).mono ?_
                             rintro e X2 ⟨⟨v_, rfl, hoW⟩, hb2⟩
                             refine ⟨_, rfl, ?_⟩
                             obtain ⟨AW, cW, rfl, hleW, _⟩ := own_C (n := N2) hnW_ hmW_.out hoW
                             replace hoW := own_weaken hoW (hHeld.2.2.2).size
                             replace RW := below_blk hb2 RW
                             replace RL := below_blk hb2 RL
                             refine hK.out _ _ ((sm_ hb2 hHeld)) (fun hHeld => ?_)
                             exact norm_ (by simp only [putAll, Act.put, sa_, sz_, ss_]; try rfl) (hJ2_10_12 (PW, PL, (AW, cW)) _ ⟨RW, RL, leW, leL, neW_L, hoW, hleW, hHeld⟩)
                            ·refine value_ (w1 := ?_) (v := ?_) (by rfl) rfl ?_ ?_
                             rotate_left 2
                             ·go_simp
                              constructor <;> rfl
                             refine fresh_ fun X11 hb11 RJ => ?_
                             have leJ := (hHeld.2.2.2).size
                             have neW_J := Nat.ne_of_lt (lt_of_blk RW)
                             have neL_J := Nat.ne_of_lt (lt_of_blk RL)
                             replace RW := below_blk hb11 RW
                             replace RL := below_blk hb11 RL
                             refine hK.out _ _ ((sm_ hb11 hHeld)) (fun hHeld => ?_)
                             exact norm_ (by simp only [putAll, Act.put, sa_, sz_, ss_]; try rfl) (hJ10_11_12 (PW, Y10_12.heap.size, PL) _ ⟨RW, RJ, RL, leW, leJ, leL, neW_J, neW_L, neL_J.symm, hHeld⟩)
                          ·rintro ⟨PW, PJ⟩ Y10_11 ⟨RW, RJ, leW, leJ, neW_J, hHeld⟩
                           try simp only [] at RW RJ leW leJ
                           refine norm_ (a' := ?_) ?_ ?_
                           rotate_left
                           ·simp only [putAll, Act.put, sa_, sz_, ss_]
                            rfl
                           refine two_ (i := 2) (j := 12) (Ni := some 16) (Nj := some 9) #[t_, t_, t_, t_, t_, t_, t_, f_, t_, f_, t_, t_, f_, f_, f_, f_] #[t_, t_, f_, t_, t_, t_, t_, f_, t_, f_, t_, t_, t_, f_, f_, f_] rfl rfl rfl rfl (by kernel_rfl) (by decide) (by decide) (fun K hK => ?_) (fun K hK => ?_)
                           ·refine goes_ Try.func21 (by kernel_rfl) rfl #[.agg #[.slice Aa k ca], .agg (nc z)] (by rfl) rfl rfl (by simp only [List.map_toArray, List.map_cons, List.map_nil]; rfl) ?_
                            with_reducible refine (KW.out _ hHeld.2.2.2).mono ?_
                            rintro e X2 ⟨⟨v_, rfl, hoW⟩, hb2⟩
                            refine ⟨_, rfl, ?_⟩
                            obtain ⟨AW, cW, rfl, hleW, _⟩ := own_C (n := N2) hnW_ hmW_.out hoW
                            replace hoW := own_weaken hoW (hHeld.2.2.2).size
                            replace RW := below_blk hb2 RW
                            replace RJ := below_blk hb2 RJ
                            refine hK.out _ _ ((sm_ hb2 hHeld)) (fun hHeld => ?_)
                            exact norm_ (by simp only [putAll, Act.put, sa_, sz_, ss_]; try rfl) (hJ2_10_11 (PW, PJ, (AW, cW)) _ ⟨RW, RJ, leW, leJ, neW_J, hoW, hleW, hHeld⟩)
                           ·refine value_ (w1 := ?_) (v := ?_) (by rfl) rfl ?_ ?_
                            rotate_left 2
                            ·go_simp
                             constructor <;> rfl
                            refine fresh_ fun X12 hb12 RL => ?_
                            have leL := (hHeld.2.2.2).size
                            have neW_L := Nat.ne_of_lt (lt_of_blk RW)
                            have neJ_L := Nat.ne_of_lt (lt_of_blk RJ)
                            replace RW := below_blk hb12 RW
                            replace RJ := below_blk hb12 RJ
                            refine hK.out _ _ ((sm_ hb12 hHeld)) (fun hHeld => ?_)
                            exact norm_ (by simp only [putAll, Act.put, sa_, sz_, ss_]; try rfl) (hJ10_11_12 (PW, PJ, Y10_11.heap.size) _ ⟨RW, RJ, RL, leW, leJ, leL, neW_J, neW_L, neJ_L, hHeld⟩)
                         ·rintro ⟨PL, ⟨AW, cW⟩⟩ Y2_12 ⟨RL, leL, hoW, hleW, hHeld⟩
                          try simp only [] at RL leL hoW hleW
                          refine norm_ (a' := ?_) ?_ ?_
                          rotate_left
                          ·simp only [putAll, Act.put, sa_, sz_, ss_]
                           rfl
                          refine three_ (i := 7) (j := 10) (k := 11) (Ni := some 21) (Nj := some 7) (Nk := some 8) #[t_, t_, t_, t_, t_, t_, t_, t_, t_, f_, f_, f_, t_, f_, f_, f_] #[t_, t_, t_, t_, t_, t_, t_, f_, t_, f_, t_, f_, t_, f_, f_, f_] #[t_, t_, t_, t_, t_, t_, t_, f_, t_, f_, f_, t_, t_, f_, f_, f_] rfl rfl rfl rfl rfl rfl (by kernel_rfl) (by decide) (by decide) (by decide) (fun K hK => ?_) (fun K hK => ?_) (fun K hK => ?_)
                          ·refine goes_ Try.func22 (by kernel_rfl) rfl #[.agg #[.slice Aa k ca], .agg #[.slice Ab q cb], .int .i64 z.f0] (by rfl) rfl rfl (by simp only [List.map_toArray, List.map_cons, List.map_nil]; rfl) ?_
                           with_reducible refine (KJ.out _ hHeld.2.2.2).mono ?_
                           rintro e X7 ⟨⟨v_, rfl, hoJ⟩, hb7⟩
                           refine ⟨_, rfl, ?_⟩
                           obtain ⟨AJ, cJ, rfl, hleJ, _⟩ := own_C (n := N) hnJ_ hmJ_.out hoJ
                           replace hoJ := own_weaken hoJ (hHeld.2.2.2).size
                           replace hoW := own_below hoW hb7
                           replace RL := below_blk hb7 RL
                           refine hK.out _ _ ((sm_ hb7 hHeld)) (fun hHeld => ?_)
                           exact norm_ (by simp only [putAll, Act.put, sa_, sz_, ss_]; try rfl) (hJ2_7_12 (PL, (AW, cW), (AJ, cJ)) _ ⟨RL, leL, hoW, hoJ, hleW, hleJ, hHeld⟩)
                          ·refine value_ (w1 := ?_) (v := ?_) (by rfl) rfl ?_ ?_
                           rotate_left 2
                           ·go_simp
                            constructor <;> rfl
                           refine fresh_ fun X10 hb10 RW => ?_
                           have leW := (hHeld.2.2.2).size
                           have neL_W := Nat.ne_of_lt (lt_of_blk RL)
                           replace hoW := own_below hoW hb10
                           replace RL := below_blk hb10 RL
                           refine hK.out _ _ ((sm_ hb10 hHeld)) (fun hHeld => ?_)
                           exact norm_ (by simp only [putAll, Act.put, sa_, sz_, ss_]; try rfl) (hJ2_10_12 (Y2_12.heap.size, PL, (AW, cW)) _ ⟨RW, RL, leW, leL, neL_W.symm, hoW, hleW, hHeld⟩)
                          ·refine value_ (w1 := ?_) (v := ?_) (by rfl) rfl ?_ ?_
                           rotate_left 2
                           ·go_simp
                            constructor <;> rfl
                           refine fresh_ fun X11 hb11 RJ => ?_
                           have leJ := (hHeld.2.2.2).size
                           have neL_J := Nat.ne_of_lt (lt_of_blk RL)
                           replace hoW := own_below hoW hb11
                           replace RL := below_blk hb11 RL
                           refine hK.out _ _ ((sm_ hb11 hHeld)) (fun hHeld => ?_)
                           exact norm_ (by simp only [putAll, Act.put, sa_, sz_, ss_]; try rfl) (hJ2_11_12 (Y2_12.heap.size, PL, (AW, cW)) _ ⟨RJ, RL, leJ, leL, neL_J.symm, hoW, hleW, hHeld⟩)
                        ·rintro ⟨PJ, ⟨AW, cW⟩⟩ Y2_11 ⟨RJ, leJ, hoW, hleW, hHeld⟩
                         try simp only [] at RJ leJ hoW hleW
                         refine norm_ (a' := ?_) ?_ ?_
                         rotate_left
                         ·simp only [putAll, Act.put, sa_, sz_, ss_]
                          rfl
                         refine three_ (i := 7) (j := 10) (k := 12) (Ni := some 21) (Nj := some 7) (Nk := some 9) #[t_, t_, t_, t_, t_, t_, t_, t_, t_, f_, f_, t_, f_, f_, f_, f_] #[t_, t_, t_, t_, t_, t_, t_, f_, t_, f_, t_, t_, f_, f_, f_, f_] #[t_, t_, t_, t_, t_, t_, t_, f_, t_, f_, f_, t_, t_, f_, f_, f_] rfl rfl rfl rfl rfl rfl (by kernel_rfl) (by decide) (by decide) (by decide) (fun K hK => ?_) (fun K hK => ?_) (fun K hK => ?_)
                         ·refine goes_ Try.func22 (by kernel_rfl) rfl #[.agg #[.slice Aa k ca], .agg #[.slice Ab q cb], .int .i64 z.f0] (by rfl) rfl rfl (by simp only [List.map_toArray, List.map_cons, List.map_nil]; rfl) ?_
                          with_reducible refine (KJ.out _ hHeld.2.2.2).mono ?_
                          rintro e X7 ⟨⟨v_, rfl, hoJ⟩, hb7⟩
                          refine ⟨_, rfl, ?_⟩
                          obtain ⟨AJ, cJ, rfl, hleJ, _⟩ := own_C (n := N) hnJ_ hmJ_.out hoJ
                          replace hoJ := own_weaken hoJ (hHeld.2.2.2).size
                          replace hoW := own_below hoW hb7
                          replace RJ := below_blk hb7 RJ
                          refine hK.out _ _ ((sm_ hb7 hHeld)) (fun hHeld => ?_)
                          exact norm_ (by simp only [putAll, Act.put, sa_, sz_, ss_]; try rfl) (hJ2_7_11 (PJ, (AW, cW), (AJ, cJ)) _ ⟨RJ, leJ, hoW, hoJ, hleW, hleJ, hHeld⟩)
                         ·refine value_ (w1 := ?_) (v := ?_) (by rfl) rfl ?_ ?_
                          rotate_left 2
                          ·go_simp
                           constructor <;> rfl
                          refine fresh_ fun X10 hb10 RW => ?_
                          have leW := (hHeld.2.2.2).size
                          have neJ_W := Nat.ne_of_lt (lt_of_blk RJ)
                          replace hoW := own_below hoW hb10
                          replace RJ := below_blk hb10 RJ
                          refine hK.out _ _ ((sm_ hb10 hHeld)) (fun hHeld => ?_)
                          exact norm_ (by simp only [putAll, Act.put, sa_, sz_, ss_]; try rfl) (hJ2_10_11 (Y2_11.heap.size, PJ, (AW, cW)) _ ⟨RW, RJ, leW, leJ, neJ_W.symm, hoW, hleW, hHeld⟩)
                         ·refine value_ (w1 := ?_) (v := ?_) (by rfl) rfl ?_ ?_
                          rotate_left 2
                          ·go_simp
                           constructor <;> rfl
                          refine fresh_ fun X12 hb12 RL => ?_
                          have leL := (hHeld.2.2.2).size
                          have neJ_L := Nat.ne_of_lt (lt_of_blk RJ)
                          replace hoW := own_below hoW hb12
                          replace RJ := below_blk hb12 RJ
                          refine hK.out _ _ ((sm_ hb12 hHeld)) (fun hHeld => ?_)
                          exact norm_ (by simp only [putAll, Act.put, sa_, sz_, ss_]; try rfl) (hJ2_11_12 (PJ, Y2_11.heap.size, (AW, cW)) _ ⟨RJ, RL, leJ, leL, neJ_L, hoW, hleW, hHeld⟩)
                       ·rintro ⟨PW, ⟨AW, cW⟩⟩ Y2_10 ⟨RW, leW, hoW, hleW, hHeld⟩
                        try simp only [] at RW leW hoW hleW
                        refine norm_ (a' := ?_) ?_ ?_
                        rotate_left
                        ·simp only [putAll, Act.put, sa_, sz_, ss_]
                         rfl
                        refine three_ (i := 7) (j := 11) (k := 12) (Ni := some 21) (Nj := some 8) (Nk := some 9) #[t_, t_, t_, t_, t_, t_, t_, t_, t_, f_, t_, f_, f_, f_, f_, f_] #[t_, t_, t_, t_, t_, t_, t_, f_, t_, f_, t_, t_, f_, f_, f_, f_] #[t_, t_, t_, t_, t_, t_, t_, f_, t_, f_, t_, f_, t_, f_, f_, f_] rfl rfl rfl rfl rfl rfl (by kernel_rfl) (by decide) (by decide) (by decide) (fun K hK => ?_) (fun K hK => ?_) (fun K hK => ?_)
                        ·refine goes_ Try.func22 (by kernel_rfl) rfl #[.agg #[.slice Aa k ca], .agg #[.slice Ab q cb], .int .i64 z.f0] (by rfl) rfl rfl (by simp only [List.map_toArray, List.map_cons, List.map_nil]; rfl) ?_
                         with_reducible refine (KJ.out _ hHeld.2.2.2).mono ?_
                         rintro e X7 ⟨⟨v_, rfl, hoJ⟩, hb7⟩
                         refine ⟨_, rfl, ?_⟩
                         obtain ⟨AJ, cJ, rfl, hleJ, _⟩ := own_C (n := N) hnJ_ hmJ_.out hoJ
                         replace hoJ := own_weaken hoJ (hHeld.2.2.2).size
                         replace hoW := own_below hoW hb7
                         replace RW := below_blk hb7 RW
                         refine hK.out _ _ ((sm_ hb7 hHeld)) (fun hHeld => ?_)
                         exact norm_ (by simp only [putAll, Act.put, sa_, sz_, ss_]; try rfl) (hJ2_7_10 (PW, (AW, cW), (AJ, cJ)) _ ⟨RW, leW, hoW, hoJ, hleW, hleJ, hHeld⟩)
                        ·refine value_ (w1 := ?_) (v := ?_) (by rfl) rfl ?_ ?_
                         rotate_left 2
                         ·go_simp
                          constructor <;> rfl
                         refine fresh_ fun X11 hb11 RJ => ?_
                         have leJ := (hHeld.2.2.2).size
                         have neW_J := Nat.ne_of_lt (lt_of_blk RW)
                         replace hoW := own_below hoW hb11
                         replace RW := below_blk hb11 RW
                         refine hK.out _ _ ((sm_ hb11 hHeld)) (fun hHeld => ?_)
                         exact norm_ (by simp only [putAll, Act.put, sa_, sz_, ss_]; try rfl) (hJ2_10_11 (PW, Y2_10.heap.size, (AW, cW)) _ ⟨RW, RJ, leW, leJ, neW_J, hoW, hleW, hHeld⟩)
                        ·refine value_ (w1 := ?_) (v := ?_) (by rfl) rfl ?_ ?_
                         rotate_left 2
                         ·go_simp
                          constructor <;> rfl
                         refine fresh_ fun X12 hb12 RL => ?_
                         have leL := (hHeld.2.2.2).size
                         have neW_L := Nat.ne_of_lt (lt_of_blk RW)
                         replace hoW := own_below hoW hb12
                         replace RW := below_blk hb12 RW
                         refine hK.out _ _ ((sm_ hb12 hHeld)) (fun hHeld => ?_)
                         exact norm_ (by simp only [putAll, Act.put, sa_, sz_, ss_]; try rfl) (hJ2_10_12 (PW, Y2_10.heap.size, (AW, cW)) _ ⟨RW, RL, leW, leL, neW_L, hoW, hleW, hHeld⟩)
                      ·rintro ⟨⟨AW, cW⟩, ⟨AJ, cJ⟩⟩ Y2_7 ⟨hoW, hoJ, hleW, hleJ, hHeld⟩
                       try simp only [] at hoW hoJ hleW hleJ
                       refine norm_ (a' := ?_) ?_ ?_
                       rotate_left
                       ·simp only [putAll, Act.put, sa_, sz_, ss_]
                        rfl
                       refine four_ (i := 9) (j := 10) (k := 11) (m := 12) (Ni := some 23) (Nj := some 7) (Nk := some 8) (Nm := some 9) #[t_, t_, t_, t_, t_, t_, t_, t_, t_, t_, f_, f_, f_, f_, f_, f_] #[t_, t_, t_, t_, t_, t_, t_, t_, t_, f_, t_, f_, f_, f_, f_, f_] #[t_, t_, t_, t_, t_, t_, t_, t_, t_, f_, f_, t_, f_, f_, f_, f_] #[t_, t_, t_, t_, t_, t_, t_, t_, t_, f_, f_, f_, t_, f_, f_, f_] rfl rfl rfl rfl rfl rfl rfl rfl (by kernel_rfl) (by decide) (by decide) (by decide) (by decide) (fun K hK => ?_) (fun K hK => ?_) (fun K hK => ?_) (fun K hK => ?_)
                       ·refine goes_ Try.func23 (by kernel_rfl) rfl #[.agg (nc z)] (by rfl) rfl rfl (by simp only [List.map_toArray, List.map_cons, List.map_nil]; rfl) ?_
                        with_reducible refine (KL.out _).mono ?_
                        rintro e X9 ⟨⟨v_, rfl, hoL⟩, hb9⟩
                        refine ⟨_, rfl, ?_⟩
                        obtain ⟨AL, cL, rfl, hleL, _⟩ := own_C (n := 1) hnL_ hmL_.out hoL
                        replace hoL := own_weaken hoL (hHeld.2.2.2).size
                        replace hoW := own_below hoW hb9
                        replace hoJ := own_below hoJ hb9
                        refine hK.out _ _ ((sm_ hb9 hHeld)) (fun hHeld => ?_)
                        exact norm_ (by simp only [putAll, Act.put, sa_, sz_, ss_]; try rfl) (hJ2_7_9 ((AW, cW), (AJ, cJ), (AL, cL)) _ ⟨hoW, hoJ, hoL, hleW, hleJ, hleL, hHeld⟩)
                       ·refine value_ (w1 := ?_) (v := ?_) (by rfl) rfl ?_ ?_
                        rotate_left 2
                        ·go_simp
                         constructor <;> rfl
                        refine fresh_ fun X10 hb10 RW => ?_
                        have leW := (hHeld.2.2.2).size
                        replace hoW := own_below hoW hb10
                        replace hoJ := own_below hoJ hb10
                        refine hK.out _ _ ((sm_ hb10 hHeld)) (fun hHeld => ?_)
                        exact norm_ (by simp only [putAll, Act.put, sa_, sz_, ss_]; try rfl) (hJ2_7_10 (Y2_7.heap.size, (AW, cW), (AJ, cJ)) _ ⟨RW, leW, hoW, hoJ, hleW, hleJ, hHeld⟩)
                       ·refine value_ (w1 := ?_) (v := ?_) (by rfl) rfl ?_ ?_
                        rotate_left 2
                        ·go_simp
                         constructor <;> rfl
                        refine fresh_ fun X11 hb11 RJ => ?_
                        have leJ := (hHeld.2.2.2).size
                        replace hoW := own_below hoW hb11
                        replace hoJ := own_below hoJ hb11
                        refine hK.out _ _ ((sm_ hb11 hHeld)) (fun hHeld => ?_)
                        exact norm_ (by simp only [putAll, Act.put, sa_, sz_, ss_]; try rfl) (hJ2_7_11 (Y2_7.heap.size, (AW, cW), (AJ, cJ)) _ ⟨RJ, leJ, hoW, hoJ, hleW, hleJ, hHeld⟩)
                       ·refine value_ (w1 := ?_) (v := ?_) (by rfl) rfl ?_ ?_
                        rotate_left 2
                        ·go_simp
                         constructor <;> rfl
                        refine fresh_ fun X12 hb12 RL => ?_
                        have leL := (hHeld.2.2.2).size
                        replace hoW := own_below hoW hb12
                        replace hoJ := own_below hoJ hb12
                        refine hK.out _ _ ((sm_ hb12 hHeld)) (fun hHeld => ?_)
                        exact norm_ (by simp only [putAll, Act.put, sa_, sz_, ss_]; try rfl) (hJ2_7_12 (Y2_7.heap.size, (AW, cW), (AJ, cJ)) _ ⟨RL, leL, hoW, hoJ, hleW, hleJ, hHeld⟩)
                     ·rintro ⟨PW, PJ, PL⟩ Y10_11_12 ⟨RW, RJ, RL, leW, leJ, leL, neW_J, neW_L, neJ_L, hHeld⟩
                      try simp only [] at RW RJ RL leW leJ leL
                      refine norm_ (a' := ?_) ?_ ?_
                      rotate_left
                      ·simp only [putAll, Act.put, sa_, sz_, ss_]
                       rfl
                      refine one_ (i := 2) (N := some 16) #[t_, t_, t_, t_, t_, t_, t_, f_, t_, f_, t_, t_, t_, f_, f_, f_] rfl rfl (by kernel_rfl) (by decide) (fun K hK => ?_)
                      refine goes_ Try.func21 (by kernel_rfl) rfl #[.agg #[.slice Aa k ca], .agg (nc z)] (by rfl) rfl rfl (by simp only [List.map_toArray, List.map_cons, List.map_nil]; rfl) ?_
                      with_reducible refine (KW.out _ hHeld.2.2.2).mono ?_
                      rintro e X2 ⟨⟨v_, rfl, hoW⟩, hb2⟩
                      refine ⟨_, rfl, ?_⟩
                      obtain ⟨AW, cW, rfl, hleW, _⟩ := own_C (n := N2) hnW_ hmW_.out hoW
                      replace hoW := own_weaken hoW (hHeld.2.2.2).size
                      replace RW := below_blk hb2 RW
                      replace RJ := below_blk hb2 RJ
                      replace RL := below_blk hb2 RL
                      refine hK.out _ _ ((sm_ hb2 hHeld)) (fun hHeld => ?_)
                      exact norm_ (by simp only [putAll, Act.put, sa_, sz_, ss_]; try rfl) (hJ2_10_11_12 (PW, PJ, PL, (AW, cW)) _ ⟨RW, RJ, RL, leW, leJ, leL, neW_J, neW_L, neJ_L, hoW, hleW, hHeld⟩)
                    ·rintro ⟨PJ, PL, ⟨AW, cW⟩⟩ Y2_11_12 ⟨RJ, RL, leJ, leL, neJ_L, hoW, hleW, hHeld⟩
                     try simp only [] at RJ RL leJ leL hoW hleW
                     refine norm_ (a' := ?_) ?_ ?_
                     rotate_left
                     ·simp only [putAll, Act.put, sa_, sz_, ss_]
                      rfl
                     refine two_ (i := 7) (j := 10) (Ni := some 21) (Nj := some 7) #[t_, t_, t_, t_, t_, t_, t_, t_, t_, f_, f_, t_, t_, f_, f_, f_] #[t_, t_, t_, t_, t_, t_, t_, f_, t_, f_, t_, t_, t_, f_, f_, f_] rfl rfl rfl rfl (by kernel_rfl) (by decide) (by decide) (fun K hK => ?_) (fun K hK => ?_)
                     ·refine goes_ Try.func22 (by kernel_rfl) rfl #[.agg #[.slice Aa k ca], .agg #[.slice Ab q cb], .int .i64 z.f0] (by rfl) rfl rfl (by simp only [List.map_toArray, List.map_cons, List.map_nil]; rfl) ?_
                      with_reducible refine (KJ.out _ hHeld.2.2.2).mono ?_
                      rintro e X7 ⟨⟨v_, rfl, hoJ⟩, hb7⟩
                      refine ⟨_, rfl, ?_⟩
                      obtain ⟨AJ, cJ, rfl, hleJ, _⟩ := own_C (n := N) hnJ_ hmJ_.out hoJ
                      replace hoJ := own_weaken hoJ (hHeld.2.2.2).size
                      replace hoW := own_below hoW hb7
                      replace RJ := below_blk hb7 RJ
                      replace RL := below_blk hb7 RL
                      refine hK.out _ _ ((sm_ hb7 hHeld)) (fun hHeld => ?_)
                      exact norm_ (by simp only [putAll, Act.put, sa_, sz_, ss_]; try rfl) (hJ2_7_11_12 (PJ, PL, (AW, cW), (AJ, cJ)) _ ⟨RJ, RL, leJ, leL, neJ_L, hoW, hoJ, hleW, hleJ, hHeld⟩)
                     ·refine value_ (w1 := ?_) (v := ?_) (by rfl) rfl ?_ ?_
                      rotate_left 2
                      ·go_simp
                       constructor <;> rfl
                      refine fresh_ fun X10 hb10 RW => ?_
                      have leW := (hHeld.2.2.2).size
                      have neJ_W := Nat.ne_of_lt (lt_of_blk RJ)
                      have neL_W := Nat.ne_of_lt (lt_of_blk RL)
                      replace hoW := own_below hoW hb10
                      replace RJ := below_blk hb10 RJ
                      replace RL := below_blk hb10 RL
                      refine hK.out _ _ ((sm_ hb10 hHeld)) (fun hHeld => ?_)
                      exact norm_ (by simp only [putAll, Act.put, sa_, sz_, ss_]; try rfl) (hJ2_10_11_12 (Y2_11_12.heap.size, PJ, PL, (AW, cW)) _ ⟨RW, RJ, RL, leW, leJ, leL, neJ_W.symm, neL_W.symm, neJ_L, hoW, hleW, hHeld⟩)
                   ·rintro ⟨PW, PL, ⟨AW, cW⟩⟩ Y2_10_12 ⟨RW, RL, leW, leL, neW_L, hoW, hleW, hHeld⟩
                    try simp only [] at RW RL leW leL hoW hleW
                    refine norm_ (a' := ?_) ?_ ?_
                    rotate_left
                    ·simp only [putAll, Act.put, sa_, sz_, ss_]
                     rfl
                    refine two_ (i := 7) (j := 11) (Ni := some 21) (Nj := some 8) #[t_, t_, t_, t_, t_, t_, t_, t_, t_, f_, t_, f_, t_, f_, f_, f_] #[t_, t_, t_, t_, t_, t_, t_, f_, t_, f_, t_, t_, t_, f_, f_, f_] rfl rfl rfl rfl (by kernel_rfl) (by decide) (by decide) (fun K hK => ?_) (fun K hK => ?_)
                    ·refine goes_ Try.func22 (by kernel_rfl) rfl #[.agg #[.slice Aa k ca], .agg #[.slice Ab q cb], .int .i64 z.f0] (by rfl) rfl rfl (by simp only [List.map_toArray, List.map_cons, List.map_nil]; rfl) ?_
                     with_reducible refine (KJ.out _ hHeld.2.2.2).mono ?_
                     rintro e X7 ⟨⟨v_, rfl, hoJ⟩, hb7⟩
                     refine ⟨_, rfl, ?_⟩
                     obtain ⟨AJ, cJ, rfl, hleJ, _⟩ := own_C (n := N) hnJ_ hmJ_.out hoJ
                     replace hoJ := own_weaken hoJ (hHeld.2.2.2).size
                     replace hoW := own_below hoW hb7
                     replace RW := below_blk hb7 RW
                     replace RL := below_blk hb7 RL
                     refine hK.out _ _ ((sm_ hb7 hHeld)) (fun hHeld => ?_)
                     exact norm_ (by simp only [putAll, Act.put, sa_, sz_, ss_]; try rfl) (hJ2_7_10_12 (PW, PL, (AW, cW), (AJ, cJ)) _ ⟨RW, RL, leW, leL, neW_L, hoW, hoJ, hleW, hleJ, hHeld⟩)
                    ·refine value_ (w1 := ?_) (v := ?_) (by rfl) rfl ?_ ?_
                     rotate_left 2
                     ·go_simp
                      constructor <;> rfl
                     refine fresh_ fun X11 hb11 RJ => ?_
                     have leJ := (hHeld.2.2.2).size
                     have neW_J := Nat.ne_of_lt (lt_of_blk RW)
                     have neL_J := Nat.ne_of_lt (lt_of_blk RL)
                     replace hoW := own_below hoW hb11
                     replace RW := below_blk hb11 RW
                     replace RL := below_blk hb11 RL
                     refine hK.out _ _ ((sm_ hb11 hHeld)) (fun hHeld => ?_)
                     exact norm_ (by simp only [putAll, Act.put, sa_, sz_, ss_]; try rfl) (hJ2_10_11_12 (PW, Y2_10_12.heap.size, PL, (AW, cW)) _ ⟨RW, RJ, RL, leW, leJ, leL, neW_J, neW_L, neL_J.symm, hoW, hleW, hHeld⟩)
                  ·rintro ⟨PW, PJ, ⟨AW, cW⟩⟩ Y2_10_11 ⟨RW, RJ, leW, leJ, neW_J, hoW, hleW, hHeld⟩
                   try simp only [] at RW RJ leW leJ hoW hleW
                   refine norm_ (a' := ?_) ?_ ?_
                   rotate_left
                   ·simp only [putAll, Act.put, sa_, sz_, ss_]
                    rfl
                   refine two_ (i := 7) (j := 12) (Ni := some 21) (Nj := some 9) #[t_, t_, t_, t_, t_, t_, t_, t_, t_, f_, t_, t_, f_, f_, f_, f_] #[t_, t_, t_, t_, t_, t_, t_, f_, t_, f_, t_, t_, t_, f_, f_, f_] rfl rfl rfl rfl (by kernel_rfl) (by decide) (by decide) (fun K hK => ?_) (fun K hK => ?_)
                   ·refine goes_ Try.func22 (by kernel_rfl) rfl #[.agg #[.slice Aa k ca], .agg #[.slice Ab q cb], .int .i64 z.f0] (by rfl) rfl rfl (by simp only [List.map_toArray, List.map_cons, List.map_nil]; rfl) ?_
                    with_reducible refine (KJ.out _ hHeld.2.2.2).mono ?_
                    rintro e X7 ⟨⟨v_, rfl, hoJ⟩, hb7⟩
                    refine ⟨_, rfl, ?_⟩
                    obtain ⟨AJ, cJ, rfl, hleJ, _⟩ := own_C (n := N) hnJ_ hmJ_.out hoJ
                    replace hoJ := own_weaken hoJ (hHeld.2.2.2).size
                    replace hoW := own_below hoW hb7
                    replace RW := below_blk hb7 RW
                    replace RJ := below_blk hb7 RJ
                    refine hK.out _ _ ((sm_ hb7 hHeld)) (fun hHeld => ?_)
                    exact norm_ (by simp only [putAll, Act.put, sa_, sz_, ss_]; try rfl) (hJ2_7_10_11 (PW, PJ, (AW, cW), (AJ, cJ)) _ ⟨RW, RJ, leW, leJ, neW_J, hoW, hoJ, hleW, hleJ, hHeld⟩)
                   ·refine value_ (w1 := ?_) (v := ?_) (by rfl) rfl ?_ ?_
                    rotate_left 2
                    ·go_simp
                     constructor <;> rfl
                    refine fresh_ fun X12 hb12 RL => ?_
                    have leL := (hHeld.2.2.2).size
                    have neW_L := Nat.ne_of_lt (lt_of_blk RW)
                    have neJ_L := Nat.ne_of_lt (lt_of_blk RJ)
                    replace hoW := own_below hoW hb12
                    replace RW := below_blk hb12 RW
                    replace RJ := below_blk hb12 RJ
                    refine hK.out _ _ ((sm_ hb12 hHeld)) (fun hHeld => ?_)
                    exact norm_ (by simp only [putAll, Act.put, sa_, sz_, ss_]; try rfl) (hJ2_10_11_12 (PW, PJ, Y2_10_11.heap.size, (AW, cW)) _ ⟨RW, RJ, RL, leW, leJ, leL, neW_J, neW_L, neJ_L, hoW, hleW, hHeld⟩)
                 ·rintro ⟨PL, ⟨AW, cW⟩, ⟨AJ, cJ⟩⟩ Y2_7_12 ⟨RL, leL, hoW, hoJ, hleW, hleJ, hHeld⟩
                  try simp only [] at RL leL hoW hoJ hleW hleJ
                  refine norm_ (a' := ?_) ?_ ?_
                  rotate_left
                  ·simp only [putAll, Act.put, sa_, sz_, ss_]
                   rfl
                  refine three_ (i := 9) (j := 10) (k := 11) (Ni := some 23) (Nj := some 7) (Nk := some 8) #[t_, t_, t_, t_, t_, t_, t_, t_, t_, t_, f_, f_, t_, f_, f_, f_] #[t_, t_, t_, t_, t_, t_, t_, t_, t_, f_, t_, f_, t_, f_, f_, f_] #[t_, t_, t_, t_, t_, t_, t_, t_, t_, f_, f_, t_, t_, f_, f_, f_] rfl rfl rfl rfl rfl rfl (by kernel_rfl) (by decide) (by decide) (by decide) (fun K hK => ?_) (fun K hK => ?_) (fun K hK => ?_)
                  ·refine goes_ Try.func23 (by kernel_rfl) rfl #[.agg (nc z)] (by rfl) rfl rfl (by simp only [List.map_toArray, List.map_cons, List.map_nil]; rfl) ?_
                   with_reducible refine (KL.out _).mono ?_
                   rintro e X9 ⟨⟨v_, rfl, hoL⟩, hb9⟩
                   refine ⟨_, rfl, ?_⟩
                   obtain ⟨AL, cL, rfl, hleL, _⟩ := own_C (n := 1) hnL_ hmL_.out hoL
                   replace hoL := own_weaken hoL (hHeld.2.2.2).size
                   replace hoW := own_below hoW hb9
                   replace hoJ := own_below hoJ hb9
                   replace RL := below_blk hb9 RL
                   refine hK.out _ _ ((sm_ hb9 hHeld)) (fun hHeld => ?_)
                   exact norm_ (by simp only [putAll, Act.put, sa_, sz_, ss_]; try rfl) (hJ2_7_9_12 (PL, (AW, cW), (AJ, cJ), (AL, cL)) _ ⟨RL, leL, hoW, hoJ, hoL, hleW, hleJ, hleL, hHeld⟩)
                  ·refine value_ (w1 := ?_) (v := ?_) (by rfl) rfl ?_ ?_
                   rotate_left 2
                   ·go_simp
                    constructor <;> rfl
                   refine fresh_ fun X10 hb10 RW => ?_
                   have leW := (hHeld.2.2.2).size
                   have neL_W := Nat.ne_of_lt (lt_of_blk RL)
                   replace hoW := own_below hoW hb10
                   replace hoJ := own_below hoJ hb10
                   replace RL := below_blk hb10 RL
                   refine hK.out _ _ ((sm_ hb10 hHeld)) (fun hHeld => ?_)
                   exact norm_ (by simp only [putAll, Act.put, sa_, sz_, ss_]; try rfl) (hJ2_7_10_12 (Y2_7_12.heap.size, PL, (AW, cW), (AJ, cJ)) _ ⟨RW, RL, leW, leL, neL_W.symm, hoW, hoJ, hleW, hleJ, hHeld⟩)
                  ·refine value_ (w1 := ?_) (v := ?_) (by rfl) rfl ?_ ?_
                   rotate_left 2
                   ·go_simp
                    constructor <;> rfl
                   refine fresh_ fun X11 hb11 RJ => ?_
                   have leJ := (hHeld.2.2.2).size
                   have neL_J := Nat.ne_of_lt (lt_of_blk RL)
                   replace hoW := own_below hoW hb11
                   replace hoJ := own_below hoJ hb11
                   replace RL := below_blk hb11 RL
                   refine hK.out _ _ ((sm_ hb11 hHeld)) (fun hHeld => ?_)
                   exact norm_ (by simp only [putAll, Act.put, sa_, sz_, ss_]; try rfl) (hJ2_7_11_12 (Y2_7_12.heap.size, PL, (AW, cW), (AJ, cJ)) _ ⟨RJ, RL, leJ, leL, neL_J.symm, hoW, hoJ, hleW, hleJ, hHeld⟩)
                ·rintro ⟨PJ, ⟨AW, cW⟩, ⟨AJ, cJ⟩⟩ Y2_7_11 ⟨RJ, leJ, hoW, hoJ, hleW, hleJ, hHeld⟩
                 try simp only [] at RJ leJ hoW hoJ hleW hleJ
                 refine norm_ (a' := ?_) ?_ ?_
                 rotate_left
                 ·simp only [putAll, Act.put, sa_, sz_, ss_]
                  rfl
                 refine three_ (i := 9) (j := 10) (k := 12) (Ni := some 23) (Nj := some 7) (Nk := some 9) #[t_, t_, t_, t_, t_, t_, t_, t_, t_, t_, f_, t_, f_, f_, f_, f_] #[t_, t_, t_, t_, t_, t_, t_, t_, t_, f_, t_, t_, f_, f_, f_, f_] #[t_, t_, t_, t_, t_, t_, t_, t_, t_, f_, f_, t_, t_, f_, f_, f_] rfl rfl rfl rfl rfl rfl (by kernel_rfl) (by decide) (by decide) (by decide) (fun K hK => ?_) (fun K hK => ?_) (fun K hK => ?_)
                 ·refine goes_ Try.func23 (by kernel_rfl) rfl #[.agg (nc z)] (by rfl) rfl rfl (by simp only [List.map_toArray, List.map_cons, List.map_nil]; rfl) ?_
                  with_reducible refine (KL.out _).mono ?_
                  rintro e X9 ⟨⟨v_, rfl, hoL⟩, hb9⟩
                  refine ⟨_, rfl, ?_⟩
                  obtain ⟨AL, cL, rfl, hleL, _⟩ := own_C (n := 1) hnL_ hmL_.out hoL
                  replace hoL := own_weaken hoL (hHeld.2.2.2).size
                  replace hoW := own_below hoW hb9
                  replace hoJ := own_below hoJ hb9
                  replace RJ := below_blk hb9 RJ
                  refine hK.out _ _ ((sm_ hb9 hHeld)) (fun hHeld => ?_)
                  exact norm_ (by simp only [putAll, Act.put, sa_, sz_, ss_]; try rfl) (hJ2_7_9_11 (PJ, (AW, cW), (AJ, cJ), (AL, cL)) _ ⟨RJ, leJ, hoW, hoJ, hoL, hleW, hleJ, hleL, hHeld⟩)
                 ·refine value_ (w1 := ?_) (v := ?_) (by rfl) rfl ?_ ?_
                  rotate_left 2
                  ·go_simp
                   constructor <;> rfl
                  refine fresh_ fun X10 hb10 RW => ?_
                  have leW := (hHeld.2.2.2).size
                  have neJ_W := Nat.ne_of_lt (lt_of_blk RJ)
                  replace hoW := own_below hoW hb10
                  replace hoJ := own_below hoJ hb10
                  replace RJ := below_blk hb10 RJ
                  refine hK.out _ _ ((sm_ hb10 hHeld)) (fun hHeld => ?_)
                  exact norm_ (by simp only [putAll, Act.put, sa_, sz_, ss_]; try rfl) (hJ2_7_10_11 (Y2_7_11.heap.size, PJ, (AW, cW), (AJ, cJ)) _ ⟨RW, RJ, leW, leJ, neJ_W.symm, hoW, hoJ, hleW, hleJ, hHeld⟩)
                 ·refine value_ (w1 := ?_) (v := ?_) (by rfl) rfl ?_ ?_
                  rotate_left 2
                  ·go_simp
                   constructor <;> rfl
                  refine fresh_ fun X12 hb12 RL => ?_
                  have leL := (hHeld.2.2.2).size
                  have neJ_L := Nat.ne_of_lt (lt_of_blk RJ)
                  replace hoW := own_below hoW hb12
                  replace hoJ := own_below hoJ hb12
                  replace RJ := below_blk hb12 RJ
                  refine hK.out _ _ ((sm_ hb12 hHeld)) (fun hHeld => ?_)
                  exact norm_ (by simp only [putAll, Act.put, sa_, sz_, ss_]; try rfl) (hJ2_7_11_12 (PJ, Y2_7_11.heap.size, (AW, cW), (AJ, cJ)) _ ⟨RJ, RL, leJ, leL, neJ_L, hoW, hoJ, hleW, hleJ, hHeld⟩)
               ·rintro ⟨PW, ⟨AW, cW⟩, ⟨AJ, cJ⟩⟩ Y2_7_10 ⟨RW, leW, hoW, hoJ, hleW, hleJ, hHeld⟩
                try simp only [] at RW leW hoW hoJ hleW hleJ
                refine norm_ (a' := ?_) ?_ ?_
                rotate_left
                ·simp only [putAll, Act.put, sa_, sz_, ss_]
                 rfl
                refine three_ (i := 9) (j := 11) (k := 12) (Ni := some 23) (Nj := some 8) (Nk := some 9) #[t_, t_, t_, t_, t_, t_, t_, t_, t_, t_, t_, f_, f_, f_, f_, f_] #[t_, t_, t_, t_, t_, t_, t_, t_, t_, f_, t_, t_, f_, f_, f_, f_] #[t_, t_, t_, t_, t_, t_, t_, t_, t_, f_, t_, f_, t_, f_, f_, f_] rfl rfl rfl rfl rfl rfl (by kernel_rfl) (by decide) (by decide) (by decide) (fun K hK => ?_) (fun K hK => ?_) (fun K hK => ?_)
                ·refine goes_ Try.func23 (by kernel_rfl) rfl #[.agg (nc z)] (by rfl) rfl rfl (by simp only [List.map_toArray, List.map_cons, List.map_nil]; rfl) ?_
                 with_reducible refine (KL.out _).mono ?_
                 rintro e X9 ⟨⟨v_, rfl, hoL⟩, hb9⟩
                 refine ⟨_, rfl, ?_⟩
                 obtain ⟨AL, cL, rfl, hleL, _⟩ := own_C (n := 1) hnL_ hmL_.out hoL
                 replace hoL := own_weaken hoL (hHeld.2.2.2).size
                 replace hoW := own_below hoW hb9
                 replace hoJ := own_below hoJ hb9
                 replace RW := below_blk hb9 RW
                 refine hK.out _ _ ((sm_ hb9 hHeld)) (fun hHeld => ?_)
                 exact norm_ (by simp only [putAll, Act.put, sa_, sz_, ss_]; try rfl) (hJ2_7_9_10 (PW, (AW, cW), (AJ, cJ), (AL, cL)) _ ⟨RW, leW, hoW, hoJ, hoL, hleW, hleJ, hleL, hHeld⟩)
                ·refine value_ (w1 := ?_) (v := ?_) (by rfl) rfl ?_ ?_
                 rotate_left 2
                 ·go_simp
                  constructor <;> rfl
                 refine fresh_ fun X11 hb11 RJ => ?_
                 have leJ := (hHeld.2.2.2).size
                 have neW_J := Nat.ne_of_lt (lt_of_blk RW)
                 replace hoW := own_below hoW hb11
                 replace hoJ := own_below hoJ hb11
                 replace RW := below_blk hb11 RW
                 refine hK.out _ _ ((sm_ hb11 hHeld)) (fun hHeld => ?_)
                 exact norm_ (by simp only [putAll, Act.put, sa_, sz_, ss_]; try rfl) (hJ2_7_10_11 (PW, Y2_7_10.heap.size, (AW, cW), (AJ, cJ)) _ ⟨RW, RJ, leW, leJ, neW_J, hoW, hoJ, hleW, hleJ, hHeld⟩)
                ·refine value_ (w1 := ?_) (v := ?_) (by rfl) rfl ?_ ?_
                 rotate_left 2
                 ·go_simp
                  constructor <;> rfl
                 refine fresh_ fun X12 hb12 RL => ?_
                 have leL := (hHeld.2.2.2).size
                 have neW_L := Nat.ne_of_lt (lt_of_blk RW)
                 replace hoW := own_below hoW hb12
                 replace hoJ := own_below hoJ hb12
                 replace RW := below_blk hb12 RW
                 refine hK.out _ _ ((sm_ hb12 hHeld)) (fun hHeld => ?_)
                 exact norm_ (by simp only [putAll, Act.put, sa_, sz_, ss_]; try rfl) (hJ2_7_10_12 (PW, Y2_7_10.heap.size, (AW, cW), (AJ, cJ)) _ ⟨RW, RL, leW, leL, neW_L, hoW, hoJ, hleW, hleJ, hHeld⟩)
              ·rintro ⟨⟨AW, cW⟩, ⟨AJ, cJ⟩, ⟨AL, cL⟩⟩ Y2_7_9 ⟨hoW, hoJ, hoL, hleW, hleJ, hleL, hHeld⟩
               try simp only [] at hoW hoJ hoL hleW hleJ hleL
               refine norm_ (a' := ?_) ?_ ?_
               rotate_left
               ·simp only [putAll, Act.put, sa_, sz_, ss_]
                rfl
               refine three_ (i := 10) (j := 11) (k := 12) (Ni := some 7) (Nj := some 8) (Nk := some 9) #[t_, t_, t_, t_, t_, t_, t_, t_, t_, t_, t_, f_, f_, f_, f_, f_] #[t_, t_, t_, t_, t_, t_, t_, t_, t_, t_, f_, t_, f_, f_, f_, f_] #[t_, t_, t_, t_, t_, t_, t_, t_, t_, t_, f_, f_, t_, f_, f_, f_] rfl rfl rfl rfl rfl rfl (by kernel_rfl) (by decide) (by decide) (by decide) (fun K hK => ?_) (fun K hK => ?_) (fun K hK => ?_)
               ·refine value_ (w1 := ?_) (v := ?_) (by rfl) rfl ?_ ?_
                rotate_left 2
                ·go_simp
                 constructor <;> rfl
                refine fresh_ fun X10 hb10 RW => ?_
                have leW := (hHeld.2.2.2).size
                replace hoW := own_below hoW hb10
                replace hoJ := own_below hoJ hb10
                replace hoL := own_below hoL hb10
                refine hK.out _ _ ((sm_ hb10 hHeld)) (fun hHeld => ?_)
                exact norm_ (by simp only [putAll, Act.put, sa_, sz_, ss_]; try rfl) (hJ2_7_9_10 (Y2_7_9.heap.size, (AW, cW), (AJ, cJ), (AL, cL)) _ ⟨RW, leW, hoW, hoJ, hoL, hleW, hleJ, hleL, hHeld⟩)
               ·refine value_ (w1 := ?_) (v := ?_) (by rfl) rfl ?_ ?_
                rotate_left 2
                ·go_simp
                 constructor <;> rfl
                refine fresh_ fun X11 hb11 RJ => ?_
                have leJ := (hHeld.2.2.2).size
                replace hoW := own_below hoW hb11
                replace hoJ := own_below hoJ hb11
                replace hoL := own_below hoL hb11
                refine hK.out _ _ ((sm_ hb11 hHeld)) (fun hHeld => ?_)
                exact norm_ (by simp only [putAll, Act.put, sa_, sz_, ss_]; try rfl) (hJ2_7_9_11 (Y2_7_9.heap.size, (AW, cW), (AJ, cJ), (AL, cL)) _ ⟨RJ, leJ, hoW, hoJ, hoL, hleW, hleJ, hleL, hHeld⟩)
               ·refine value_ (w1 := ?_) (v := ?_) (by rfl) rfl ?_ ?_
                rotate_left 2
                ·go_simp
                 constructor <;> rfl
                refine fresh_ fun X12 hb12 RL => ?_
                have leL := (hHeld.2.2.2).size
                replace hoW := own_below hoW hb12
                replace hoJ := own_below hoJ hb12
                replace hoL := own_below hoL hb12
                refine hK.out _ _ ((sm_ hb12 hHeld)) (fun hHeld => ?_)
                exact norm_ (by simp only [putAll, Act.put, sa_, sz_, ss_]; try rfl) (hJ2_7_9_12 (Y2_7_9.heap.size, (AW, cW), (AJ, cJ), (AL, cL)) _ ⟨RL, leL, hoW, hoJ, hoL, hleW, hleJ, hleL, hHeld⟩)
             ·rintro ⟨PW, PJ, PL, ⟨AW, cW⟩⟩ Y2_10_11_12 ⟨RW, RJ, RL, leW, leJ, leL, neW_J, neW_L, neJ_L, hoW, hleW, hHeld⟩
              try simp only [] at RW RJ RL leW leJ leL hoW hleW
              refine norm_ (a' := ?_) ?_ ?_
              rotate_left
              ·simp only [putAll, Act.put, sa_, sz_, ss_]
               rfl
              refine one_ (i := 7) (N := some 21) #[t_, t_, t_, t_, t_, t_, t_, t_, t_, f_, t_, t_, t_, f_, f_, f_] rfl rfl (by kernel_rfl) (by decide) (fun K hK => ?_)
              refine goes_ Try.func22 (by kernel_rfl) rfl #[.agg #[.slice Aa k ca], .agg #[.slice Ab q cb], .int .i64 z.f0] (by rfl) rfl rfl (by simp only [List.map_toArray, List.map_cons, List.map_nil]; rfl) ?_
              with_reducible refine (KJ.out _ hHeld.2.2.2).mono ?_
              rintro e X7 ⟨⟨v_, rfl, hoJ⟩, hb7⟩
              refine ⟨_, rfl, ?_⟩
              obtain ⟨AJ, cJ, rfl, hleJ, _⟩ := own_C (n := N) hnJ_ hmJ_.out hoJ
              replace hoJ := own_weaken hoJ (hHeld.2.2.2).size
              replace hoW := own_below hoW hb7
              replace RW := below_blk hb7 RW
              replace RJ := below_blk hb7 RJ
              replace RL := below_blk hb7 RL
              refine hK.out _ _ ((sm_ hb7 hHeld)) (fun hHeld => ?_)
              exact norm_ (by simp only [putAll, Act.put, sa_, sz_, ss_]; try rfl) (hJ2_7_10_11_12 (PW, PJ, PL, (AW, cW), (AJ, cJ)) _ ⟨RW, RJ, RL, leW, leJ, leL, neW_J, neW_L, neJ_L, hoW, hoJ, hleW, hleJ, hHeld⟩)
            ·rintro ⟨PJ, PL, ⟨AW, cW⟩, ⟨AJ, cJ⟩⟩ Y2_7_11_12 ⟨RJ, RL, leJ, leL, neJ_L, hoW, hoJ, hleW, hleJ, hHeld⟩
             try simp only [] at RJ RL leJ leL hoW hoJ hleW hleJ
             refine norm_ (a' := ?_) ?_ ?_
             rotate_left
             ·simp only [putAll, Act.put, sa_, sz_, ss_]
              rfl
             refine two_ (i := 9) (j := 10) (Ni := some 23) (Nj := some 7) #[t_, t_, t_, t_, t_, t_, t_, t_, t_, t_, f_, t_, t_, f_, f_, f_] #[t_, t_, t_, t_, t_, t_, t_, t_, t_, f_, t_, t_, t_, f_, f_, f_] rfl rfl rfl rfl (by kernel_rfl) (by decide) (by decide) (fun K hK => ?_) (fun K hK => ?_)
             ·refine goes_ Try.func23 (by kernel_rfl) rfl #[.agg (nc z)] (by rfl) rfl rfl (by simp only [List.map_toArray, List.map_cons, List.map_nil]; rfl) ?_
              with_reducible refine (KL.out _).mono ?_
              rintro e X9 ⟨⟨v_, rfl, hoL⟩, hb9⟩
              refine ⟨_, rfl, ?_⟩
              obtain ⟨AL, cL, rfl, hleL, _⟩ := own_C (n := 1) hnL_ hmL_.out hoL
              replace hoL := own_weaken hoL (hHeld.2.2.2).size
              replace hoW := own_below hoW hb9
              replace hoJ := own_below hoJ hb9
              replace RJ := below_blk hb9 RJ
              replace RL := below_blk hb9 RL
              refine hK.out _ _ ((sm_ hb9 hHeld)) (fun hHeld => ?_)
              exact norm_ (by simp only [putAll, Act.put, sa_, sz_, ss_]; try rfl) (hJ2_7_9_11_12 (PJ, PL, (AW, cW), (AJ, cJ), (AL, cL)) _ ⟨RJ, RL, leJ, leL, neJ_L, hoW, hoJ, hoL, hleW, hleJ, hleL, hHeld⟩)
             ·refine value_ (w1 := ?_) (v := ?_) (by rfl) rfl ?_ ?_
              rotate_left 2
              ·go_simp
               constructor <;> rfl
              refine fresh_ fun X10 hb10 RW => ?_
              have leW := (hHeld.2.2.2).size
              have neJ_W := Nat.ne_of_lt (lt_of_blk RJ)
              have neL_W := Nat.ne_of_lt (lt_of_blk RL)
              replace hoW := own_below hoW hb10
              replace hoJ := own_below hoJ hb10
              replace RJ := below_blk hb10 RJ
              replace RL := below_blk hb10 RL
              refine hK.out _ _ ((sm_ hb10 hHeld)) (fun hHeld => ?_)
              exact norm_ (by simp only [putAll, Act.put, sa_, sz_, ss_]; try rfl) (hJ2_7_10_11_12 (Y2_7_11_12.heap.size, PJ, PL, (AW, cW), (AJ, cJ)) _ ⟨RW, RJ, RL, leW, leJ, leL, neJ_W.symm, neL_W.symm, neJ_L, hoW, hoJ, hleW, hleJ, hHeld⟩)
           ·rintro ⟨PW, PL, ⟨AW, cW⟩, ⟨AJ, cJ⟩⟩ Y2_7_10_12 ⟨RW, RL, leW, leL, neW_L, hoW, hoJ, hleW, hleJ, hHeld⟩
            try simp only [] at RW RL leW leL hoW hoJ hleW hleJ
            refine norm_ (a' := ?_) ?_ ?_
            rotate_left
            ·simp only [putAll, Act.put, sa_, sz_, ss_]
             rfl
            refine two_ (i := 9) (j := 11) (Ni := some 23) (Nj := some 8) #[t_, t_, t_, t_, t_, t_, t_, t_, t_, t_, t_, f_, t_, f_, f_, f_] #[t_, t_, t_, t_, t_, t_, t_, t_, t_, f_, t_, t_, t_, f_, f_, f_] rfl rfl rfl rfl (by kernel_rfl) (by decide) (by decide) (fun K hK => ?_) (fun K hK => ?_)
            ·refine goes_ Try.func23 (by kernel_rfl) rfl #[.agg (nc z)] (by rfl) rfl rfl (by simp only [List.map_toArray, List.map_cons, List.map_nil]; rfl) ?_
             with_reducible refine (KL.out _).mono ?_
             rintro e X9 ⟨⟨v_, rfl, hoL⟩, hb9⟩
             refine ⟨_, rfl, ?_⟩
             obtain ⟨AL, cL, rfl, hleL, _⟩ := own_C (n := 1) hnL_ hmL_.out hoL
             replace hoL := own_weaken hoL (hHeld.2.2.2).size
             replace hoW := own_below hoW hb9
             replace hoJ := own_below hoJ hb9
             replace RW := below_blk hb9 RW
             replace RL := below_blk hb9 RL
             refine hK.out _ _ ((sm_ hb9 hHeld)) (fun hHeld => ?_)
             exact norm_ (by simp only [putAll, Act.put, sa_, sz_, ss_]; try rfl) (hJ2_7_9_10_12 (PW, PL, (AW, cW), (AJ, cJ), (AL, cL)) _ ⟨RW, RL, leW, leL, neW_L, hoW, hoJ, hoL, hleW, hleJ, hleL, hHeld⟩)
            ·refine value_ (w1 := ?_) (v := ?_) (by rfl) rfl ?_ ?_
             rotate_left 2
             ·go_simp
              constructor <;> rfl
             refine fresh_ fun X11 hb11 RJ => ?_
             have leJ := (hHeld.2.2.2).size
             have neW_J := Nat.ne_of_lt (lt_of_blk RW)
             have neL_J := Nat.ne_of_lt (lt_of_blk RL)
             replace hoW := own_below hoW hb11
             replace hoJ := own_below hoJ hb11
             replace RW := below_blk hb11 RW
             replace RL := below_blk hb11 RL
             refine hK.out _ _ ((sm_ hb11 hHeld)) (fun hHeld => ?_)
             exact norm_ (by simp only [putAll, Act.put, sa_, sz_, ss_]; try rfl) (hJ2_7_10_11_12 (PW, Y2_7_10_12.heap.size, PL, (AW, cW), (AJ, cJ)) _ ⟨RW, RJ, RL, leW, leJ, leL, neW_J, neW_L, neL_J.symm, hoW, hoJ, hleW, hleJ, hHeld⟩)
          ·rintro ⟨PW, PJ, ⟨AW, cW⟩, ⟨AJ, cJ⟩⟩ Y2_7_10_11 ⟨RW, RJ, leW, leJ, neW_J, hoW, hoJ, hleW, hleJ, hHeld⟩
           try simp only [] at RW RJ leW leJ hoW hoJ hleW hleJ
           refine norm_ (a' := ?_) ?_ ?_
           rotate_left
           ·simp only [putAll, Act.put, sa_, sz_, ss_]
            rfl
           refine two_ (i := 9) (j := 12) (Ni := some 23) (Nj := some 9) #[t_, t_, t_, t_, t_, t_, t_, t_, t_, t_, t_, t_, f_, f_, f_, f_] #[t_, t_, t_, t_, t_, t_, t_, t_, t_, f_, t_, t_, t_, f_, f_, f_] rfl rfl rfl rfl (by kernel_rfl) (by decide) (by decide) (fun K hK => ?_) (fun K hK => ?_)
           ·refine goes_ Try.func23 (by kernel_rfl) rfl #[.agg (nc z)] (by rfl) rfl rfl (by simp only [List.map_toArray, List.map_cons, List.map_nil]; rfl) ?_
            with_reducible refine (KL.out _).mono ?_
            rintro e X9 ⟨⟨v_, rfl, hoL⟩, hb9⟩
            refine ⟨_, rfl, ?_⟩
            obtain ⟨AL, cL, rfl, hleL, _⟩ := own_C (n := 1) hnL_ hmL_.out hoL
            replace hoL := own_weaken hoL (hHeld.2.2.2).size
            replace hoW := own_below hoW hb9
            replace hoJ := own_below hoJ hb9
            replace RW := below_blk hb9 RW
            replace RJ := below_blk hb9 RJ
            refine hK.out _ _ ((sm_ hb9 hHeld)) (fun hHeld => ?_)
            exact norm_ (by simp only [putAll, Act.put, sa_, sz_, ss_]; try rfl) (hJ2_7_9_10_11 (PW, PJ, (AW, cW), (AJ, cJ), (AL, cL)) _ ⟨RW, RJ, leW, leJ, neW_J, hoW, hoJ, hoL, hleW, hleJ, hleL, hHeld⟩)
           ·refine value_ (w1 := ?_) (v := ?_) (by rfl) rfl ?_ ?_
            rotate_left 2
            ·go_simp
             constructor <;> rfl
            refine fresh_ fun X12 hb12 RL => ?_
            have leL := (hHeld.2.2.2).size
            have neW_L := Nat.ne_of_lt (lt_of_blk RW)
            have neJ_L := Nat.ne_of_lt (lt_of_blk RJ)
            replace hoW := own_below hoW hb12
            replace hoJ := own_below hoJ hb12
            replace RW := below_blk hb12 RW
            replace RJ := below_blk hb12 RJ
            refine hK.out _ _ ((sm_ hb12 hHeld)) (fun hHeld => ?_)
            exact norm_ (by simp only [putAll, Act.put, sa_, sz_, ss_]; try rfl) (hJ2_7_10_11_12 (PW, PJ, Y2_7_10_11.heap.size, (AW, cW), (AJ, cJ)) _ ⟨RW, RJ, RL, leW, leJ, leL, neW_J, neW_L, neJ_L, hoW, hoJ, hleW, hleJ, hHeld⟩)
         ·rintro ⟨PL, ⟨AW, cW⟩, ⟨AJ, cJ⟩, ⟨AL, cL⟩⟩ Y2_7_9_12 ⟨RL, leL, hoW, hoJ, hoL, hleW, hleJ, hleL, hHeld⟩
          try simp only [] at RL leL hoW hoJ hoL hleW hleJ hleL
          refine norm_ (a' := ?_) ?_ ?_
          rotate_left
          ·simp only [putAll, Act.put, sa_, sz_, ss_]
           rfl
          refine two_ (i := 10) (j := 11) (Ni := some 7) (Nj := some 8) #[t_, t_, t_, t_, t_, t_, t_, t_, t_, t_, t_, f_, t_, f_, f_, f_] #[t_, t_, t_, t_, t_, t_, t_, t_, t_, t_, f_, t_, t_, f_, f_, f_] rfl rfl rfl rfl (by kernel_rfl) (by decide) (by decide) (fun K hK => ?_) (fun K hK => ?_)
          ·refine value_ (w1 := ?_) (v := ?_) (by rfl) rfl ?_ ?_
           rotate_left 2
           ·go_simp
            constructor <;> rfl
           refine fresh_ fun X10 hb10 RW => ?_
           have leW := (hHeld.2.2.2).size
           have neL_W := Nat.ne_of_lt (lt_of_blk RL)
           replace hoW := own_below hoW hb10
           replace hoJ := own_below hoJ hb10
           replace hoL := own_below hoL hb10
           replace RL := below_blk hb10 RL
           refine hK.out _ _ ((sm_ hb10 hHeld)) (fun hHeld => ?_)
           exact norm_ (by simp only [putAll, Act.put, sa_, sz_, ss_]; try rfl) (hJ2_7_9_10_12 (Y2_7_9_12.heap.size, PL, (AW, cW), (AJ, cJ), (AL, cL)) _ ⟨RW, RL, leW, leL, neL_W.symm, hoW, hoJ, hoL, hleW, hleJ, hleL, hHeld⟩)
          ·refine value_ (w1 := ?_) (v := ?_) (by rfl) rfl ?_ ?_
           rotate_left 2
           ·go_simp
            constructor <;> rfl
           refine fresh_ fun X11 hb11 RJ => ?_
           have leJ := (hHeld.2.2.2).size
           have neL_J := Nat.ne_of_lt (lt_of_blk RL)
           replace hoW := own_below hoW hb11
           replace hoJ := own_below hoJ hb11
           replace hoL := own_below hoL hb11
           replace RL := below_blk hb11 RL
           refine hK.out _ _ ((sm_ hb11 hHeld)) (fun hHeld => ?_)
           exact norm_ (by simp only [putAll, Act.put, sa_, sz_, ss_]; try rfl) (hJ2_7_9_11_12 (Y2_7_9_12.heap.size, PL, (AW, cW), (AJ, cJ), (AL, cL)) _ ⟨RJ, RL, leJ, leL, neL_J.symm, hoW, hoJ, hoL, hleW, hleJ, hleL, hHeld⟩)
        ·rintro ⟨PJ, ⟨AW, cW⟩, ⟨AJ, cJ⟩, ⟨AL, cL⟩⟩ Y2_7_9_11 ⟨RJ, leJ, hoW, hoJ, hoL, hleW, hleJ, hleL, hHeld⟩
         try simp only [] at RJ leJ hoW hoJ hoL hleW hleJ hleL
         refine norm_ (a' := ?_) ?_ ?_
         rotate_left
         ·simp only [putAll, Act.put, sa_, sz_, ss_]
          rfl
         refine two_ (i := 10) (j := 12) (Ni := some 7) (Nj := some 9) #[t_, t_, t_, t_, t_, t_, t_, t_, t_, t_, t_, t_, f_, f_, f_, f_] #[t_, t_, t_, t_, t_, t_, t_, t_, t_, t_, f_, t_, t_, f_, f_, f_] rfl rfl rfl rfl (by kernel_rfl) (by decide) (by decide) (fun K hK => ?_) (fun K hK => ?_)
         ·refine value_ (w1 := ?_) (v := ?_) (by rfl) rfl ?_ ?_
          rotate_left 2
          ·go_simp
           constructor <;> rfl
          refine fresh_ fun X10 hb10 RW => ?_
          have leW := (hHeld.2.2.2).size
          have neJ_W := Nat.ne_of_lt (lt_of_blk RJ)
          replace hoW := own_below hoW hb10
          replace hoJ := own_below hoJ hb10
          replace hoL := own_below hoL hb10
          replace RJ := below_blk hb10 RJ
          refine hK.out _ _ ((sm_ hb10 hHeld)) (fun hHeld => ?_)
          exact norm_ (by simp only [putAll, Act.put, sa_, sz_, ss_]; try rfl) (hJ2_7_9_10_11 (Y2_7_9_11.heap.size, PJ, (AW, cW), (AJ, cJ), (AL, cL)) _ ⟨RW, RJ, leW, leJ, neJ_W.symm, hoW, hoJ, hoL, hleW, hleJ, hleL, hHeld⟩)
         ·refine value_ (w1 := ?_) (v := ?_) (by rfl) rfl ?_ ?_
          rotate_left 2
          ·go_simp
           constructor <;> rfl
          refine fresh_ fun X12 hb12 RL => ?_
          have leL := (hHeld.2.2.2).size
          have neJ_L := Nat.ne_of_lt (lt_of_blk RJ)
          replace hoW := own_below hoW hb12
          replace hoJ := own_below hoJ hb12
          replace hoL := own_below hoL hb12
          replace RJ := below_blk hb12 RJ
          refine hK.out _ _ ((sm_ hb12 hHeld)) (fun hHeld => ?_)
          exact norm_ (by simp only [putAll, Act.put, sa_, sz_, ss_]; try rfl) (hJ2_7_9_11_12 (PJ, Y2_7_9_11.heap.size, (AW, cW), (AJ, cJ), (AL, cL)) _ ⟨RJ, RL, leJ, leL, neJ_L, hoW, hoJ, hoL, hleW, hleJ, hleL, hHeld⟩)
       ·rintro ⟨PW, ⟨AW, cW⟩, ⟨AJ, cJ⟩, ⟨AL, cL⟩⟩ Y2_7_9_10 ⟨RW, leW, hoW, hoJ, hoL, hleW, hleJ, hleL, hHeld⟩
        try simp only [] at RW leW hoW hoJ hoL hleW hleJ hleL
        refine norm_ (a' := ?_) ?_ ?_
        rotate_left
        ·simp only [putAll, Act.put, sa_, sz_, ss_]
         rfl
        refine two_ (i := 11) (j := 12) (Ni := some 8) (Nj := some 9) #[t_, t_, t_, t_, t_, t_, t_, t_, t_, t_, t_, t_, f_, f_, f_, f_] #[t_, t_, t_, t_, t_, t_, t_, t_, t_, t_, t_, f_, t_, f_, f_, f_] rfl rfl rfl rfl (by kernel_rfl) (by decide) (by decide) (fun K hK => ?_) (fun K hK => ?_)
        ·refine value_ (w1 := ?_) (v := ?_) (by rfl) rfl ?_ ?_
         rotate_left 2
         ·go_simp
          constructor <;> rfl
         refine fresh_ fun X11 hb11 RJ => ?_
         have leJ := (hHeld.2.2.2).size
         have neW_J := Nat.ne_of_lt (lt_of_blk RW)
         replace hoW := own_below hoW hb11
         replace hoJ := own_below hoJ hb11
         replace hoL := own_below hoL hb11
         replace RW := below_blk hb11 RW
         refine hK.out _ _ ((sm_ hb11 hHeld)) (fun hHeld => ?_)
         exact norm_ (by simp only [putAll, Act.put, sa_, sz_, ss_]; try rfl) (hJ2_7_9_10_11 (PW, Y2_7_9_10.heap.size, (AW, cW), (AJ, cJ), (AL, cL)) _ ⟨RW, RJ, leW, leJ, neW_J, hoW, hoJ, hoL, hleW, hleJ, hleL, hHeld⟩)
        ·refine value_ (w1 := ?_) (v := ?_) (by rfl) rfl ?_ ?_
         rotate_left 2
         ·go_simp
          constructor <;> rfl
         refine fresh_ fun X12 hb12 RL => ?_
         have leL := (hHeld.2.2.2).size
         have neW_L := Nat.ne_of_lt (lt_of_blk RW)
         replace hoW := own_below hoW hb12
         replace hoJ := own_below hoJ hb12
         replace hoL := own_below hoL hb12
         replace RW := below_blk hb12 RW
         refine hK.out _ _ ((sm_ hb12 hHeld)) (fun hHeld => ?_)
         exact norm_ (by simp only [putAll, Act.put, sa_, sz_, ss_]; try rfl) (hJ2_7_9_10_12 (PW, Y2_7_9_10.heap.size, (AW, cW), (AJ, cJ), (AL, cL)) _ ⟨RW, RL, leW, leL, neW_L, hoW, hoJ, hoL, hleW, hleJ, hleL, hHeld⟩)
      ·rintro ⟨PW, PJ, PL, ⟨AW, cW⟩, ⟨AJ, cJ⟩⟩ Y2_7_10_11_12 ⟨RW, RJ, RL, leW, leJ, leL, neW_J, neW_L, neJ_L, hoW, hoJ, hleW, hleJ, hHeld⟩
       try simp only [] at RW RJ RL leW leJ leL hoW hoJ hleW hleJ
       refine norm_ (a' := ?_) ?_ ?_
       rotate_left
       ·simp only [putAll, Act.put, sa_, sz_, ss_]
        rfl
       refine one_ (i := 9) (N := some 23) #[t_, t_, t_, t_, t_, t_, t_, t_, t_, t_, t_, t_, t_, f_, f_, f_] rfl rfl (by kernel_rfl) (by decide) (fun K hK => ?_)
       refine goes_ Try.func23 (by kernel_rfl) rfl #[.agg (nc z)] (by rfl) rfl rfl (by simp only [List.map_toArray, List.map_cons, List.map_nil]; rfl) ?_
       with_reducible refine (KL.out _).mono ?_
       rintro e X9 ⟨⟨v_, rfl, hoL⟩, hb9⟩
       refine ⟨_, rfl, ?_⟩
       obtain ⟨AL, cL, rfl, hleL, _⟩ := own_C (n := 1) hnL_ hmL_.out hoL
       replace hoL := own_weaken hoL (hHeld.2.2.2).size
       replace hoW := own_below hoW hb9
       replace hoJ := own_below hoJ hb9
       replace RW := below_blk hb9 RW
       replace RJ := below_blk hb9 RJ
       replace RL := below_blk hb9 RL
       refine hK.out _ _ ((sm_ hb9 hHeld)) (fun hHeld => ?_)
       exact norm_ (by simp only [putAll, Act.put, sa_, sz_, ss_]; try rfl) (hJ2_7_9_10_11_12 (PW, PJ, PL, (AW, cW), (AJ, cJ), (AL, cL)) _ ⟨RW, RJ, RL, leW, leJ, leL, neW_J, neW_L, neJ_L, hoW, hoJ, hoL, hleW, hleJ, hleL, hHeld⟩)
     ·rintro ⟨PJ, PL, ⟨AW, cW⟩, ⟨AJ, cJ⟩, ⟨AL, cL⟩⟩ Y2_7_9_11_12 ⟨RJ, RL, leJ, leL, neJ_L, hoW, hoJ, hoL, hleW, hleJ, hleL, hHeld⟩
      try simp only [] at RJ RL leJ leL hoW hoJ hoL hleW hleJ hleL
      refine norm_ (a' := ?_) ?_ ?_
      rotate_left
      ·simp only [putAll, Act.put, sa_, sz_, ss_]
       rfl
      refine one_ (i := 10) (N := some 7) #[t_, t_, t_, t_, t_, t_, t_, t_, t_, t_, t_, t_, t_, f_, f_, f_] rfl rfl (by kernel_rfl) (by decide) (fun K hK => ?_)
      refine value_ (w1 := ?_) (v := ?_) (by rfl) rfl ?_ ?_
      rotate_left 2
      ·go_simp
       constructor <;> rfl
      refine fresh_ fun X10 hb10 RW => ?_
      have leW := (hHeld.2.2.2).size
      have neJ_W := Nat.ne_of_lt (lt_of_blk RJ)
      have neL_W := Nat.ne_of_lt (lt_of_blk RL)
      replace hoW := own_below hoW hb10
      replace hoJ := own_below hoJ hb10
      replace hoL := own_below hoL hb10
      replace RJ := below_blk hb10 RJ
      replace RL := below_blk hb10 RL
      refine hK.out _ _ ((sm_ hb10 hHeld)) (fun hHeld => ?_)
      exact norm_ (by simp only [putAll, Act.put, sa_, sz_, ss_]; try rfl) (hJ2_7_9_10_11_12 (Y2_7_9_11_12.heap.size, PJ, PL, (AW, cW), (AJ, cJ), (AL, cL)) _ ⟨RW, RJ, RL, leW, leJ, leL, neJ_W.symm, neL_W.symm, neJ_L, hoW, hoJ, hoL, hleW, hleJ, hleL, hHeld⟩)
    ·rintro ⟨PW, PL, ⟨AW, cW⟩, ⟨AJ, cJ⟩, ⟨AL, cL⟩⟩ Y2_7_9_10_12 ⟨RW, RL, leW, leL, neW_L, hoW, hoJ, hoL, hleW, hleJ, hleL, hHeld⟩
     try simp only [] at RW RL leW leL hoW hoJ hoL hleW hleJ hleL
     refine norm_ (a' := ?_) ?_ ?_
     rotate_left
     ·simp only [putAll, Act.put, sa_, sz_, ss_]
      rfl
     refine one_ (i := 11) (N := some 8) #[t_, t_, t_, t_, t_, t_, t_, t_, t_, t_, t_, t_, t_, f_, f_, f_] rfl rfl (by kernel_rfl) (by decide) (fun K hK => ?_)
     refine value_ (w1 := ?_) (v := ?_) (by rfl) rfl ?_ ?_
     rotate_left 2
     ·go_simp
      constructor <;> rfl
     refine fresh_ fun X11 hb11 RJ => ?_
     have leJ := (hHeld.2.2.2).size
     have neW_J := Nat.ne_of_lt (lt_of_blk RW)
     have neL_J := Nat.ne_of_lt (lt_of_blk RL)
     replace hoW := own_below hoW hb11
     replace hoJ := own_below hoJ hb11
     replace hoL := own_below hoL hb11
     replace RW := below_blk hb11 RW
     replace RL := below_blk hb11 RL
     refine hK.out _ _ ((sm_ hb11 hHeld)) (fun hHeld => ?_)
     exact norm_ (by simp only [putAll, Act.put, sa_, sz_, ss_]; try rfl) (hJ2_7_9_10_11_12 (PW, Y2_7_9_10_12.heap.size, PL, (AW, cW), (AJ, cJ), (AL, cL)) _ ⟨RW, RJ, RL, leW, leJ, leL, neW_J, neW_L, neL_J.symm, hoW, hoJ, hoL, hleW, hleJ, hleL, hHeld⟩)
   ·rintro ⟨PW, PJ, ⟨AW, cW⟩, ⟨AJ, cJ⟩, ⟨AL, cL⟩⟩ Y2_7_9_10_11 ⟨RW, RJ, leW, leJ, neW_J, hoW, hoJ, hoL, hleW, hleJ, hleL, hHeld⟩
    try simp only [] at RW RJ leW leJ hoW hoJ hoL hleW hleJ hleL
    refine norm_ (a' := ?_) ?_ ?_
    rotate_left
    ·simp only [putAll, Act.put, sa_, sz_, ss_]
     rfl
    refine one_ (i := 12) (N := some 9) #[t_, t_, t_, t_, t_, t_, t_, t_, t_, t_, t_, t_, t_, f_, f_, f_] rfl rfl (by kernel_rfl) (by decide) (fun K hK => ?_)
    refine value_ (w1 := ?_) (v := ?_) (by rfl) rfl ?_ ?_
    rotate_left 2
    ·go_simp
     constructor <;> rfl
    refine fresh_ fun X12 hb12 RL => ?_
    have leL := (hHeld.2.2.2).size
    have neW_L := Nat.ne_of_lt (lt_of_blk RW)
    have neJ_L := Nat.ne_of_lt (lt_of_blk RJ)
    replace hoW := own_below hoW hb12
    replace hoJ := own_below hoJ hb12
    replace hoL := own_below hoL hb12
    replace RW := below_blk hb12 RW
    replace RJ := below_blk hb12 RJ
    refine hK.out _ _ ((sm_ hb12 hHeld)) (fun hHeld => ?_)
    exact norm_ (by simp only [putAll, Act.put, sa_, sz_, ss_]; try rfl) (hJ2_7_9_10_11_12 (PW, PJ, Y2_7_9_10_11.heap.size, (AW, cW), (AJ, cJ), (AL, cL)) _ ⟨RW, RJ, RL, leW, leJ, leL, neW_J, neW_L, neJ_L, hoW, hoJ, hoL, hleW, hleJ, hleL, hHeld⟩)
  rintro ⟨PW, PJ, PL, ⟨AW, cW⟩, ⟨AJ, cJ⟩, ⟨AL, cL⟩⟩ Y2_7_9_10_11_12 ⟨RW, RJ, RL, leW, leJ, leL, neW_J, neW_L, neJ_L, hoW, hoJ, hoL, hleW, hleJ, hleL, hHeld⟩
  try simp only [] at RW RJ RL leW leJ leL hoW hoJ hoL hleW hleJ hleL
  refine norm_ (a' := ?_) ?_ ?_
  rotate_left
  ·simp only [putAll, Act.put, sa_, sz_, ss_]
   rfl
  refine last_ (i := 13) (N := none) #[t_, t_, t_, t_, t_, t_, t_, t_, t_, t_, t_, t_, t_, t_, f_, f_] rfl rfl (by kernel_rfl) (by decide) (fun K hK => ?_)
  have c8 := blk_cell RW 0 (.slice none 0 0) rfl
  have f8 := blk_free RW 0
  refine skip_ (w1 := ?_) (by rfl) rfl ?_ ?_
  rotate_left
  ·go_simp
   rfl
  refine hK.out _ _ ?_
  clear hK K
  refine last_ (i := 14) (N := none) #[t_, t_, t_, t_, t_, t_, t_, t_, t_, t_, t_, t_, t_, t_, t_, f_] rfl rfl (by kernel_rfl) (by decide) (fun K hK => ?_)
  have RJ2 := set_other (c := PW) (i := 0) (v := .slice AW N2 cW) RJ neW_J.symm
  have c9 := blk_cell RJ2 0 (.slice none 0 0) rfl
  have f9 := blk_free RJ2 0
  refine skip_ (w1 := ?_) (by rfl) rfl ?_ ?_
  rotate_left
  ·go_simp
   rfl
  refine hK.out _ _ ?_
  clear hK K
  refine last_ (i := 15) (N := none) #[t_, t_, t_, t_, t_, t_, t_, t_, t_, t_, t_, t_, t_, t_, t_, t_] rfl rfl (by kernel_rfl) (by decide) (fun K hK => ?_)
  have RL2 := set_other (c := PW) (i := 0) (v := .slice AW N2 cW) RL neW_L.symm
  have RL3 := set_other (c := PJ) (i := 0) (v := .slice AJ N cJ) RL2 neJ_L.symm
  have c10 := blk_cell RL3 0 (.slice none 0 0) rfl
  have f10 := blk_free RL3 0
  refine skip_ (w1 := ?_) (by rfl) rfl ?_ ?_
  rotate_left
  ·go_simp
   rfl
  refine hK.out _ _ ?_
  clear hK K
  refine done_ (by kernel_rfl) ?_
  have hbz := hHeld.2.2.2
  have hb := CMem.below_set (b := PL) (i := 0) (CMem.below_set (b := PJ) (i := 0) (CMem.below_set (b := PW) (i := 0) hbz leW (.slice AW N2 cW)) leJ (.slice AJ N cJ)) leL (.slice AL 1 cL)
  have BW_3 := Lib.hid (set_other (c := PL) (i := 0) (v := .slice AL 1 cL) (set_other (c := PJ) (i := 0) (v := .slice AJ N cJ) (set_blk (i := 0) RW (.slice AW N2 cW)) neW_J) neW_L)
  have BJ_3 := Lib.hid (set_other (c := PL) (i := 0) (v := .slice AL 1 cL) (set_blk (i := 0) RJ2 (.slice AJ N cJ)) neJ_L)
  have BL_3 := Lib.hid (set_blk (i := 0) RL3 (.slice AL 1 cL))
  have CW_3 := Lib.hid (own_Cs hnW_.out hmW_.out (own_set (val := .slice AL 1 cL) (own_set (val := .slice AJ N cJ) (own_set (val := .slice AW N2 cW) hoW RW) RJ2) RL3))
  have CJ_3 := Lib.hid (own_Cs hnJ_.out hmJ_.out (own_set (val := .slice AL 1 cL) (own_set (val := .slice AJ N cJ) (own_set (val := .slice AW N2 cW) hoJ RW) RJ2) RL3))
  have CL_3 := Lib.hid (own_Cs hnL_.out hmL_.out (own_set (val := .slice AL 1 cL) (own_set (val := .slice AJ N cJ) (own_set (val := .slice AW N2 cW) hoL RW) RJ2) RL3))
  have BN_3 := Lib.hid (below_blk hb BN_2.out)
  have HHW := Lib.hid hleW
  have HHJ := Lib.hid hleJ
  have HHL := Lib.hid hleL
  clear c8 f8 c9 f9 c10 f10 RW RJ RJ2 RL RL2 RL3 hoW hoJ hoL leW leJ leL neW_J neW_L neJ_L hleW hleJ hleL hbz hZ hNod hHeld BN_2 KW KJ KL
  have Ba_3 := Lib.hid (below_blk hb Ba_2.out)
  have La_3 := blk_cell Ba_3.out 0 (.slice Aa k ca) rfl
  have Bb_3 := Lib.hid (below_blk hb Bb_2.out)
  have Lb_3 := blk_cell Bb_3.out 0 (.slice Ab q cb) rfl
  have HB_3 := Lib.hid (below_step HB_2.out hb)
  clear hb HB_2 Ba_2 La_2 Bb_2 Lb_2
  generalize hW : ((Y2_7_9_10_11_12.setCell ⟨PW, 0, none⟩ (.slice AW N2 cW)).setCell ⟨PJ, 0, none⟩ (.slice AJ N cJ)).setCell ⟨PL, 0, none⟩ (.slice AL 1 cL) = v3 at *
  clear hW
  go_wp2_with fail
  obtain ⟨sb, hsb⟩ : ∃ r, sameb La Lb = r := ⟨_, rfl⟩
  have HSB := Lib.hid hsb
  clear hsb
  have KB := Lib.hid (fun W L n A c (hn : L.length = n) (h5 : n ≤ 500) (hc : n ≤ c) (hC : Kd.C k43 W A n L) => ref_calls A c L n hn (Nat.le_trans h5 (by decide)) hc W hC)
  have KO : Hid (∀ W, Calls Try.prog 26 #[.agg (nc z)] W fun e w' => e = .returned (.agg (nc z)) ∧ Below W.heap.size W w') := Lib.hid (fun W => one_tree z.f0 z.f1 z.f2 z.f3.f0.f0 z.f3.f0.f1 z.f3.f0.f2 z.f3.f0.f3 z.f4 z.f5 z.f6 z.f7 z.f8 W)
  have KO2 : Hid (∀ W, Calls Try.prog 26 #[.agg (nc z)] W fun e w' => e = .returned (.agg #[.int .i64 z.f0, .int .i64 z.f1, .int .i64 z.f2, .int .u64 z.f3.f0.f0, .int .u64 z.f3.f0.f1, .int .u64 z.f3.f0.f2, .int .u64 z.f3.f0.f3, .int .i64 z.f4, .int .i64 z.f5, .int .i64 z.f6, .int .i64 z.f7, .bool z.f8]) ∧ Below W.heap.size W w') := KO
  have KX : Hid (∀ W A2 c2, k ≤ c2 → Kd.C k50 W A2 k (La.map od) → Calls Try.prog 25 #[.slice A2 k c2, .agg (nc z)] W fun e w' => (∃ A c, e = .returned (.slice A N2 c) ∧ N2 ≤ c ∧ Kd.C k50 w' A N2 (LW.map od)) ∧ Below W.heap.size W w') := Lib.hid (fun W A2 c2 h hC => rwrap_tree A2 c2 La LW k N2 hna.out hn9.out h hN2.out z.f0 z.f1 z.f2 z.f3.f0.f0 z.f3.f0.f1 z.f3.f0.f2 z.f3.f0.f3 z.f4 z.f5 z.f6 z.f7 z.f8 hLW.out W hC)
  have hZ := Lib.hid (Below.refl v3.heap.size v3)
  have hSq : Sq v3 w.heap.size Aa k ca Ab q cb z PW AW N2 cW PJ AJ N cJ PL AL 1 cL v3.drew := ⟨⟨La_3, Lb_3, nod_of BN_3.out, hZ.out.drew⟩, blk_cell BW_3.out 0 (.slice AW N2 cW) rfl, blk_cell BJ_3.out 0 (.slice AJ N cJ) rfl, blk_cell BL_3.out 0 (.slice AL 1 cL) rfl⟩
  refine start_ (n := 43) (S := fun w' => Sq v3 w.heap.size Aa k ca Ab q cb z PW AW N2 cW PJ AJ N cJ PL AL 1 cL w') (ds := []) #[f_, f_, f_, f_, f_, f_, f_, f_, f_, f_, f_, f_, f_, f_, f_, f_, f_, f_, f_, f_, f_, f_, f_, f_, f_, f_, f_, f_, f_, f_, f_, f_, f_, f_, f_, f_, f_, f_, f_, f_, f_, f_, f_] (by kernel_rfl) rfl rfl (hSq) (fun hHeld => ?_)
  refine take_ (i := 0) (N := some 24) (v := ?_) (a' := ?_) #[t_, f_, f_, f_, f_, f_, f_, f_, f_, f_, f_, f_, f_, f_, f_, f_, f_, f_, f_, f_, f_, f_, f_, f_, f_, f_, f_, f_, f_, f_, f_, f_, f_, f_, f_, f_, f_, f_, f_, f_, f_, f_, f_] rfl rfl (by kernel_rfl) (fun _ _ _ h => h) (Or.inl ⟨by rfl, ?_⟩) hHeld ?_ ?_
  rotate_left
  ·intro w' s0
   go_simp
   with_reducible rfl
  rotate_left
  ·simp only [Act.put, sa_, sz_, ss_, i64_w, i32_w]
   rfl
  refine take_ (i := 2) (N := some 26) (v := ?_) (a' := ?_) #[t_, f_, t_, f_, f_, f_, f_, f_, f_, f_, f_, f_, f_, f_, f_, f_, f_, f_, f_, f_, f_, f_, f_, f_, f_, f_, f_, f_, f_, f_, f_, f_, f_, f_, f_, f_, f_, f_, f_, f_, f_, f_, f_] rfl rfl (by kernel_rfl) (fun _ _ _ h => h) (Or.inl ⟨by rfl, ?_⟩) hHeld ?_ ?_
  rotate_left
  ·intro w' s0
   go_simp
   with_reducible rfl
  rotate_left
  ·simp only [Act.put, sa_, sz_, ss_, i64_w, i32_w]
   rfl
  refine take_ (i := 4) (N := some 28) (v := ?_) (a' := ?_) #[t_, f_, t_, f_, t_, f_, f_, f_, f_, f_, f_, f_, f_, f_, f_, f_, f_, f_, f_, f_, f_, f_, f_, f_, f_, f_, f_, f_, f_, f_, f_, f_, f_, f_, f_, f_, f_, f_, f_, f_, f_, f_, f_] rfl rfl (by kernel_rfl) (fun _ _ _ h => h) (Or.inl ⟨by rfl, ?_⟩) hHeld ?_ ?_
  rotate_left
  ·intro w' s0
   go_simp
   with_reducible rfl
  rotate_left
  ·simp only [Act.put, sa_, sz_, ss_, i64_w, i32_w]
   rfl
  refine one_ (i := 1) (N := some 25) #[t_, t_, t_, f_, t_, f_, f_, f_, f_, f_, f_, f_, f_, f_, f_, f_, f_, f_, f_, f_, f_, f_, f_, f_, f_, f_, f_, f_, f_, f_, f_, f_, f_, f_, f_, f_, f_, f_, f_, f_, f_, f_, f_] rfl rfl (by kernel_rfl) (by decide) (fun K hK => ?_)
  refine goes_ Try.func11 (by kernel_rfl) rfl #[.agg #[.slice AW N2 cW]] (by rfl) rfl rfl (by simp only [List.map_toArray, List.map_cons, List.map_nil]; rfl) ?_
  with_reducible refine (KB.out _ LW N2 AW cW hnW_.out hN25.out HHW.out (Kd.C_below CW_3.out hHeld.1.2.2.2)).mono ?_
  rintro e x1 ⟨⟨A1, c1, rfl, hl1, C1⟩, hb1⟩
  refine ⟨_, rfl, ?_⟩
  refine hK.out _ _ ((sq_ hb1 hHeld)) (fun hHeld => ?_)
  clear hK K
  refine norm_ (a' := ?_) ?_ ?_
  rotate_left
  ·show Act.put _ (some 25) _ = _
   simp only [Act.put, sa_, sz_, ss_, i64_w, i32_w]
   rfl
  refine one_ (i := 3) (N := some 27) #[t_, t_, t_, t_, t_, f_, f_, f_, f_, f_, f_, f_, f_, f_, f_, f_, f_, f_, f_, f_, f_, f_, f_, f_, f_, f_, f_, f_, f_, f_, f_, f_, f_, f_, f_, f_, f_, f_, f_, f_, f_, f_, f_] rfl rfl (by kernel_rfl) (by decide) (fun K hK => ?_)
  refine goes_ Try.func11 (by kernel_rfl) rfl #[.agg #[.slice Aa k ca]] (by rfl) rfl rfl (by simp only [List.map_toArray, List.map_cons, List.map_nil]; rfl) ?_
  with_reducible refine (KB.out _ La k Aa ca hna.out hk6.out HHa.out (HCa.out _ (below_step HB_3.out hHeld.1.2.2.2))).mono ?_
  rintro e x3 ⟨⟨A2, c2, rfl, hl2, C2⟩, hb3⟩
  refine ⟨_, rfl, ?_⟩
  replace C1 := Kd.C_below C1 hb3
  refine hK.out _ _ ((sq_ hb3 hHeld)) (fun hHeld => ?_)
  clear hK K
  refine norm_ (a' := ?_) ?_ ?_
  rotate_left
  ·show Act.put _ (some 27) _ = _
   simp only [Act.put, sa_, sz_, ss_, i64_w, i32_w]
   rfl
  refine one_ (i := 5) (N := some 29) #[t_, t_, t_, t_, t_, t_, f_, f_, f_, f_, f_, f_, f_, f_, f_, f_, f_, f_, f_, f_, f_, f_, f_, f_, f_, f_, f_, f_, f_, f_, f_, f_, f_, f_, f_, f_, f_, f_, f_, f_, f_, f_, f_] rfl rfl (by kernel_rfl) (by decide) (fun K hK => ?_)
  refine goes_ Try.func26 (by kernel_rfl) rfl #[.agg (nc z)] (by rfl) rfl rfl (by simp only [List.map_toArray, List.map_cons, List.map_nil]; rfl) ?_
  with_reducible refine (KO.out _).mono ?_
  rintro e x5 ⟨rfl, hb5⟩
  refine ⟨_, rfl, ?_⟩
  replace C1 := Kd.C_below C1 hb5
  replace C2 := Kd.C_below C2 hb5
  refine hK.out _ _ ((sq_ hb5 hHeld)) (fun hHeld => ?_)
  clear hK K
  refine norm_ (a' := ?_) ?_ ?_
  rotate_left
  ·show Act.put _ (some 29) _ = _
   simp only [Act.put, sa_, sz_, ss_, i64_w, i32_w]
   rfl
  refine one_ (i := 6) (N := some 30) #[t_, t_, t_, t_, t_, t_, t_, f_, f_, f_, f_, f_, f_, f_, f_, f_, f_, f_, f_, f_, f_, f_, f_, f_, f_, f_, f_, f_, f_, f_, f_, f_, f_, f_, f_, f_, f_, f_, f_, f_, f_, f_, f_] rfl rfl (by kernel_rfl) (by decide) (fun K hK => ?_)
  refine goes_ Try.func25 (by kernel_rfl) rfl #[.slice A2 k c2, .agg (nc z)] (by rfl) rfl rfl (by simp only [List.map_toArray, List.map_cons, List.map_nil]; rfl) ?_
  with_reducible refine (KX.out _ A2 c2 hl2 C2).mono ?_
  rintro e x6 ⟨⟨A3, c3, rfl, hl3, C3⟩, hb6⟩
  refine ⟨_, rfl, ?_⟩
  replace C1 := Kd.C_below C1 hb6
  clear C2
  refine hK.out _ _ ((sq_ hb6 hHeld)) (fun hHeld => ?_)
  clear hK K
  refine norm_ (a' := ?_) ?_ ?_
  rotate_left
  ·show Act.put _ (some 30) _ = _
   simp only [Act.put, sa_, sz_, ss_, i64_w, i32_w]
   rfl
  refine one_ (i := 7) (N := some 31) #[t_, t_, t_, t_, t_, t_, t_, t_, f_, f_, f_, f_, f_, f_, f_, f_, f_, f_, f_, f_, f_, f_, f_, f_, f_, f_, f_, f_, f_, f_, f_, f_, f_, f_, f_, f_, f_, f_, f_, f_, f_, f_, f_] rfl rfl (by kernel_rfl) (by decide) (fun K hK => ?_)
  refine goes_ Try.func24 (by kernel_rfl) rfl #[.slice A1 N2 c1, .slice A3 N2 c3] (by rfl) rfl rfl (by simp only [List.map_toArray, List.map_cons, List.map_nil]; rfl) ?_
  with_reducible refine (rsame_tree A1 c1 LW N2 A3 c3 LW N2 true hnW_.out hnW_.out hN25.out hl1 hl3 (sameb_refl _) _ C1 C3).mono ?_
  rintro e x7 ⟨rfl, hb7⟩
  refine ⟨_, rfl, ?_⟩
  clear C1 C3
  refine hK.out _ _ ((sq_ hb7 hHeld)) (fun hHeld => ?_)
  clear hK K
  refine norm_ (a' := ?_) ?_ ?_
  rotate_left
  ·show Act.put _ (some 31) _ = _
   simp only [Act.put, sa_, sz_, ss_, i64_w, i32_w]
   rfl
  refine pure_ (i := 8) (N := some 32) (v := ?_) (a' := ?_) #[t_, t_, t_, t_, t_, t_, t_, t_, t_, f_, f_, f_, f_, f_, f_, f_, f_, f_, f_, f_, f_, f_, f_, f_, f_, f_, f_, f_, f_, f_, f_, f_, f_, f_, f_, f_, f_, f_, f_, f_, f_, f_, f_] rfl rfl (by kernel_rfl) (fun _ _ _ h => h) (Or.inl ⟨by rfl, ?_⟩) ?_ ?_
  rotate_left
  ·intro w'
   go_simp
   with_reducible rfl
  rotate_left
  ·simp only [Act.put, sa_, sz_, ss_, i64_w, i32_w]
   rfl
  refine pure_ (i := 15) (N := some 39) (v := ?_) (a' := ?_) #[t_, t_, t_, t_, t_, t_, t_, t_, t_, f_, f_, f_, f_, f_, f_, t_, f_, f_, f_, f_, f_, f_, f_, f_, f_, f_, f_, f_, f_, f_, f_, f_, f_, f_, f_, f_, f_, f_, f_, f_, f_, f_, f_] rfl rfl (by kernel_rfl) (fun _ _ _ h => h) (Or.inl ⟨by rfl, ?_⟩) ?_ ?_
  rotate_left
  ·intro w'
   go_simp
   with_reducible rfl
  rotate_left
  ·simp only [Act.put, sa_, sz_, ss_, i64_w, i32_w]
   rfl
  refine take_ (i := 9) (N := some 33) (v := ?_) (a' := ?_) #[t_, t_, t_, t_, t_, t_, t_, t_, t_, t_, f_, f_, f_, f_, f_, t_, f_, f_, f_, f_, f_, f_, f_, f_, f_, f_, f_, f_, f_, f_, f_, f_, f_, f_, f_, f_, f_, f_, f_, f_, f_, f_, f_] rfl rfl (by kernel_rfl) (fun _ _ _ h => h) (Or.inl ⟨by rfl, ?_⟩) hHeld ?_ ?_
  rotate_left
  ·intro w' s0
   go_simp
   with_reducible rfl
  rotate_left
  ·simp only [Act.put, sa_, sz_, ss_, i64_w, i32_w]
   rfl
  refine take_ (i := 11) (N := some 35) (v := ?_) (a' := ?_) #[t_, t_, t_, t_, t_, t_, t_, t_, t_, t_, f_, t_, f_, f_, f_, t_, f_, f_, f_, f_, f_, f_, f_, f_, f_, f_, f_, f_, f_, f_, f_, f_, f_, f_, f_, f_, f_, f_, f_, f_, f_, f_, f_] rfl rfl (by kernel_rfl) (fun _ _ _ h => h) (Or.inl ⟨by rfl, ?_⟩) hHeld ?_ ?_
  rotate_left
  ·intro w' s0
   go_simp
   with_reducible rfl
  rotate_left
  ·simp only [Act.put, sa_, sz_, ss_, i64_w, i32_w]
   rfl
  refine take_ (i := 13) (N := some 37) (v := ?_) (a' := ?_) #[t_, t_, t_, t_, t_, t_, t_, t_, t_, t_, f_, t_, f_, t_, f_, t_, f_, f_, f_, f_, f_, f_, f_, f_, f_, f_, f_, f_, f_, f_, f_, f_, f_, f_, f_, f_, f_, f_, f_, f_, f_, f_, f_] rfl rfl (by kernel_rfl) (fun _ _ _ h => h) (Or.inl ⟨by rfl, ?_⟩) hHeld ?_ ?_
  rotate_left
  ·intro w' s0
   go_simp
   with_reducible rfl
  rotate_left
  ·simp only [Act.put, sa_, sz_, ss_, i64_w, i32_w]
   rfl
  refine take_ (i := 16) (N := some 40) (v := ?_) (a' := ?_) #[t_, t_, t_, t_, t_, t_, t_, t_, t_, t_, f_, t_, f_, t_, f_, t_, t_, f_, f_, f_, f_, f_, f_, f_, f_, f_, f_, f_, f_, f_, f_, f_, f_, f_, f_, f_, f_, f_, f_, f_, f_, f_, f_] rfl rfl (by kernel_rfl) (fun _ _ _ h => h) (Or.inl ⟨by rfl, ?_⟩) hHeld ?_ ?_
  rotate_left
  ·intro w' s0
   go_simp
   with_reducible rfl
  rotate_left
  ·simp only [Act.put, sa_, sz_, ss_, i64_w, i32_w]
   rfl
  refine one_ (i := 10) (N := some 34) #[t_, t_, t_, t_, t_, t_, t_, t_, t_, t_, t_, t_, f_, t_, f_, t_, t_, f_, f_, f_, f_, f_, f_, f_, f_, f_, f_, f_, f_, f_, f_, f_, f_, f_, f_, f_, f_, f_, f_, f_, f_, f_, f_] rfl rfl (by kernel_rfl) (by decide) (fun K hK => ?_)
  refine goes_ Try.func11 (by kernel_rfl) rfl #[.agg #[.slice AJ N cJ]] (by rfl) rfl rfl (by simp only [List.map_toArray, List.map_cons, List.map_nil]; rfl) ?_
  with_reducible refine (KB.out _ LJ N AJ cJ hnJ_.out hN5.out HHJ.out (Kd.C_below CJ_3.out hHeld.1.2.2.2)).mono ?_
  rintro e x10 ⟨⟨A4, c4, rfl, hl4, C4⟩, hb10⟩
  refine ⟨_, rfl, ?_⟩
  refine hK.out _ _ ((sq_ hb10 hHeld)) (fun hHeld => ?_)
  clear hK K
  refine norm_ (a' := ?_) ?_ ?_
  rotate_left
  ·show Act.put _ (some 34) _ = _
   simp only [Act.put, sa_, sz_, ss_, i64_w, i32_w]
   rfl
  refine one_ (i := 12) (N := some 36) #[t_, t_, t_, t_, t_, t_, t_, t_, t_, t_, t_, t_, t_, t_, f_, t_, t_, f_, f_, f_, f_, f_, f_, f_, f_, f_, f_, f_, f_, f_, f_, f_, f_, f_, f_, f_, f_, f_, f_, f_, f_, f_, f_] rfl rfl (by kernel_rfl) (by decide) (fun K hK => ?_)
  refine goes_ Try.func11 (by kernel_rfl) rfl #[.agg #[.slice Aa k ca]] (by rfl) rfl rfl (by simp only [List.map_toArray, List.map_cons, List.map_nil]; rfl) ?_
  with_reducible refine (KB.out _ La k Aa ca hna.out hk6.out HHa.out (HCa.out _ (below_step HB_3.out hHeld.1.2.2.2))).mono ?_
  rintro e x12 ⟨⟨A5, c5, rfl, hl5, C5⟩, hb12⟩
  refine ⟨_, rfl, ?_⟩
  replace C4 := Kd.C_below C4 hb12
  refine hK.out _ _ ((sq_ hb12 hHeld)) (fun hHeld => ?_)
  clear hK K
  refine norm_ (a' := ?_) ?_ ?_
  rotate_left
  ·show Act.put _ (some 36) _ = _
   simp only [Act.put, sa_, sz_, ss_, i64_w, i32_w]
   rfl
  refine one_ (i := 14) (N := some 38) #[t_, t_, t_, t_, t_, t_, t_, t_, t_, t_, t_, t_, t_, t_, t_, t_, t_, f_, f_, f_, f_, f_, f_, f_, f_, f_, f_, f_, f_, f_, f_, f_, f_, f_, f_, f_, f_, f_, f_, f_, f_, f_, f_] rfl rfl (by kernel_rfl) (by decide) (fun K hK => ?_)
  refine goes_ Try.func11 (by kernel_rfl) rfl #[.agg #[.slice Ab q cb]] (by rfl) rfl rfl (by simp only [List.map_toArray, List.map_cons, List.map_nil]; rfl) ?_
  with_reducible refine (KB.out _ Lb q Ab cb hnb.out hq6.out HHb.out (HCb.out _ (below_step HB_3.out hHeld.1.2.2.2))).mono ?_
  rintro e x14 ⟨⟨A6, c6, rfl, hl6, C6⟩, hb14⟩
  refine ⟨_, rfl, ?_⟩
  replace C4 := Kd.C_below C4 hb14
  replace C5 := Kd.C_below C5 hb14
  refine hK.out _ _ ((sq_ hb14 hHeld)) (fun hHeld => ?_)
  clear hK K
  refine norm_ (a' := ?_) ?_ ?_
  rotate_left
  ·show Act.put _ (some 38) _ = _
   simp only [Act.put, sa_, sz_, ss_, i64_w, i32_w]
   rfl
  refine one_ (i := 17) (N := some 41) #[t_, t_, t_, t_, t_, t_, t_, t_, t_, t_, t_, t_, t_, t_, t_, t_, t_, t_, f_, f_, f_, f_, f_, f_, f_, f_, f_, f_, f_, f_, f_, f_, f_, f_, f_, f_, f_, f_, f_, f_, f_, f_, f_] rfl rfl (by kernel_rfl) (by decide) (fun K hK => ?_)
  refine goes_ Try.func27 (by kernel_rfl) rfl #[.slice A5 k c5, .slice A6 q c6, .int .i64 z.f0] (by rfl) rfl rfl (by simp only [List.map_toArray, List.map_cons, List.map_nil]; rfl) ?_
  with_reducible refine (rjoin_tree A5 c5 La Lb LJ k q N hna.out A6 c6 hnb.out hnm.out hN.out z.f0 hLJ.out _ C5 C6).mono ?_
  rintro e x17 ⟨⟨A7, c7, rfl, hl7, C7⟩, hb17⟩
  refine ⟨_, rfl, ?_⟩
  replace C4 := Kd.C_below C4 hb17
  clear C5 C6
  refine hK.out _ _ ((sq_ hb17 hHeld)) (fun hHeld => ?_)
  clear hK K
  refine norm_ (a' := ?_) ?_ ?_
  rotate_left
  ·show Act.put _ (some 41) _ = _
   simp only [Act.put, sa_, sz_, ss_, i64_w, i32_w]
   rfl
  refine one_ (i := 18) (N := some 42) #[t_, t_, t_, t_, t_, t_, t_, t_, t_, t_, t_, t_, t_, t_, t_, t_, t_, t_, t_, f_, f_, f_, f_, f_, f_, f_, f_, f_, f_, f_, f_, f_, f_, f_, f_, f_, f_, f_, f_, f_, f_, f_, f_] rfl rfl (by kernel_rfl) (by decide) (fun K hK => ?_)
  refine goes_ Try.func24 (by kernel_rfl) rfl #[.slice A4 N c4, .slice A7 N c7] (by rfl) rfl rfl (by simp only [List.map_toArray, List.map_cons, List.map_nil]; rfl) ?_
  with_reducible refine (rsame_tree A4 c4 LJ N A7 c7 LJ N true hnJ_.out hnJ_.out hN5.out hl4 hl7 (sameb_refl _) _ C4 C7).mono ?_
  rintro e x18 ⟨rfl, hb18⟩
  refine ⟨_, rfl, ?_⟩
  clear C4 C7
  refine hK.out _ _ ((sq_ hb18 hHeld)) (fun hHeld => ?_)
  clear hK K
  refine norm_ (a' := ?_) ?_ ?_
  rotate_left
  ·show Act.put _ (some 42) _ = _
   simp only [Act.put, sa_, sz_, ss_, i64_w, i32_w]
   rfl
  refine pure_ (i := 19) (N := some 43) (v := ?_) (a' := ?_) #[t_, t_, t_, t_, t_, t_, t_, t_, t_, t_, t_, t_, t_, t_, t_, t_, t_, t_, t_, t_, f_, f_, f_, f_, f_, f_, f_, f_, f_, f_, f_, f_, f_, f_, f_, f_, f_, f_, f_, f_, f_, f_, f_] rfl rfl (by kernel_rfl) (fun _ _ _ h => h) (Or.inl ⟨by rfl, ?_⟩) ?_ ?_
  rotate_left
  ·intro w'
   go_simp
   with_reducible rfl
  rotate_left
  ·simp only [Act.put, sa_, sz_, ss_, i64_w, i32_w]
   rfl
  refine pure_ (i := 20) (N := some 44) (v := ?_) (a' := ?_) #[t_, t_, t_, t_, t_, t_, t_, t_, t_, t_, t_, t_, t_, t_, t_, t_, t_, t_, t_, t_, t_, f_, f_, f_, f_, f_, f_, f_, f_, f_, f_, f_, f_, f_, f_, f_, f_, f_, f_, f_, f_, f_, f_] rfl rfl (by kernel_rfl) (fun _ _ _ h => h) (Or.inl ⟨by rfl, ?_⟩) ?_ ?_
  rotate_left
  ·intro w'
   go_simp
   with_reducible rfl
  rotate_left
  ·simp only [Act.put, sa_, sz_, ss_, i64_w, i32_w]
   rfl
  refine take_ (i := 21) (N := some 45) (v := ?_) (a' := ?_) #[t_, t_, t_, t_, t_, t_, t_, t_, t_, t_, t_, t_, t_, t_, t_, t_, t_, t_, t_, t_, t_, t_, f_, f_, f_, f_, f_, f_, f_, f_, f_, f_, f_, f_, f_, f_, f_, f_, f_, f_, f_, f_, f_] rfl rfl (by kernel_rfl) (fun _ _ _ h => h) (Or.inl ⟨by rfl, ?_⟩) hHeld ?_ ?_
  rotate_left
  ·intro w' s0
   go_simp
   with_reducible rfl
  rotate_left
  ·simp only [Act.put, sa_, sz_, ss_, i64_w, i32_w]
   rfl
  refine take_ (i := 23) (N := some 47) (v := ?_) (a' := ?_) #[t_, t_, t_, t_, t_, t_, t_, t_, t_, t_, t_, t_, t_, t_, t_, t_, t_, t_, t_, t_, t_, t_, f_, t_, f_, f_, f_, f_, f_, f_, f_, f_, f_, f_, f_, f_, f_, f_, f_, f_, f_, f_, f_] rfl rfl (by kernel_rfl) (fun _ _ _ h => h) (Or.inl ⟨by rfl, ?_⟩) hHeld ?_ ?_
  rotate_left
  ·intro w' s0
   go_simp
   with_reducible rfl
  rotate_left
  ·simp only [Act.put, sa_, sz_, ss_, i64_w, i32_w]
   rfl
  refine one_ (i := 22) (N := some 46) #[t_, t_, t_, t_, t_, t_, t_, t_, t_, t_, t_, t_, t_, t_, t_, t_, t_, t_, t_, t_, t_, t_, t_, t_, f_, f_, f_, f_, f_, f_, f_, f_, f_, f_, f_, f_, f_, f_, f_, f_, f_, f_, f_] rfl rfl (by kernel_rfl) (by decide) (fun K hK => ?_)
  refine goes_ Try.func11 (by kernel_rfl) rfl #[.agg #[.slice AL 1 cL]] (by rfl) rfl rfl (by simp only [List.map_toArray, List.map_cons, List.map_nil]; rfl) ?_
  with_reducible refine (KB.out _ [z] 1 AL cL rfl (by decide) HHL.out (Kd.C_below CL_3.out hHeld.1.2.2.2)).mono ?_
  rintro e x22 ⟨⟨A8, c8, rfl, hl8, C8⟩, hb22⟩
  refine ⟨_, rfl, ?_⟩
  refine hK.out _ _ ((sq_ hb22 hHeld)) (fun hHeld => ?_)
  clear hK K
  refine norm_ (a' := ?_) ?_ ?_
  rotate_left
  ·show Act.put _ (some 46) _ = _
   simp only [Act.put, sa_, sz_, ss_, i64_w, i32_w]
   rfl
  refine one_ (i := 24) (N := some 48) #[t_, t_, t_, t_, t_, t_, t_, t_, t_, t_, t_, t_, t_, t_, t_, t_, t_, t_, t_, t_, t_, t_, t_, t_, t_, f_, f_, f_, f_, f_, f_, f_, f_, f_, f_, f_, f_, f_, f_, f_, f_, f_, f_] rfl rfl (by kernel_rfl) (by decide) (fun K hK => ?_)
  refine goes_ Try.func26 (by kernel_rfl) rfl #[.agg (nc z)] (by rfl) rfl rfl (by simp only [List.map_toArray, List.map_cons, List.map_nil]; rfl) ?_
  with_reducible refine (KO2.out _).mono ?_
  rintro e x24 ⟨rfl, hb24⟩
  refine ⟨_, rfl, ?_⟩
  replace C8 := Kd.C_below C8 hb24
  refine hK.out _ _ ((sq_ hb24 hHeld)) (fun hHeld => ?_)
  clear hK K
  refine norm_ (a' := ?_) ?_ ?_
  rotate_left
  ·show Act.put _ (some 48) _ = _
   simp only [Act.put, sa_, sz_, ss_, i64_w, i32_w]
   rfl
  refine one_ (i := 25) (N := some 49) #[t_, t_, t_, t_, t_, t_, t_, t_, t_, t_, t_, t_, t_, t_, t_, t_, t_, t_, t_, t_, t_, t_, t_, t_, t_, t_, f_, f_, f_, f_, f_, f_, f_, f_, f_, f_, f_, f_, f_, f_, f_, f_, f_] rfl rfl (by kernel_rfl) (by decide) (fun K hK => ?_)
  refine value_ (w1 := ?_) (v := ?_) (by rfl) rfl ?_ ?_
  rotate_left 2
  ·go_simp
   constructor
   ·rfl
   ·rfl
  refine letter_ ?_
  intro x25 hW
  have hb25 : Below x24.heap.size x24 x25 := by rw [hW]; exact below1 _ _
  have C9 : Kd.C k50 x25 (some ⟨x24.heap.size, 0, none⟩) 1 ([z].map od) := by rw [hW]; exact lit_C z _ (heap_alloc_new _ _)
  clear hW
  replace C8 := Kd.C_below C8 hb25
  refine hK.out _ _ ((sq_ hb25 hHeld)) (fun hHeld => ?_)
  clear hK K
  refine norm_ (a' := ?_) ?_ ?_
  rotate_left
  ·show Act.put _ (some 49) _ = _
   simp only [Act.put, sa_, sz_, ss_, i64_w, i32_w]
   rfl
  refine one_ (i := 26) (N := some 50) #[t_, t_, t_, t_, t_, t_, t_, t_, t_, t_, t_, t_, t_, t_, t_, t_, t_, t_, t_, t_, t_, t_, t_, t_, t_, t_, t_, f_, f_, f_, f_, f_, f_, f_, f_, f_, f_, f_, f_, f_, f_, f_, f_] rfl rfl (by kernel_rfl) (by decide) (fun K hK => ?_)
  refine goes_ Try.func24 (by kernel_rfl) rfl #[.slice A8 1 c8, .slice (some ⟨x24.heap.size, 0, none⟩) 1 1] (by rfl) rfl rfl (by simp only [List.map_toArray, List.map_cons, List.map_nil]; rfl) ?_
  with_reducible refine (rsame_tree A8 c8 [z] 1 (some ⟨x24.heap.size, 0, none⟩) 1 [z] 1 true rfl rfl (by decide) hl8 (Nat.le_refl _) (sameb_refl _) _ C8 C9).mono ?_
  rintro e x26 ⟨rfl, hb26⟩
  refine ⟨_, rfl, ?_⟩
  clear C8 C9
  refine hK.out _ _ ((sq_ hb26 hHeld)) (fun hHeld => ?_)
  clear hK K
  refine norm_ (a' := ?_) ?_ ?_
  rotate_left
  ·show Act.put _ (some 50) _ = _
   simp only [Act.put, sa_, sz_, ss_, i64_w, i32_w]
   rfl
  refine pure_ (i := 27) (N := some 51) (v := ?_) (a' := ?_) #[t_, t_, t_, t_, t_, t_, t_, t_, t_, t_, t_, t_, t_, t_, t_, t_, t_, t_, t_, t_, t_, t_, t_, t_, t_, t_, t_, t_, f_, f_, f_, f_, f_, f_, f_, f_, f_, f_, f_, f_, f_, f_, f_] rfl rfl (by kernel_rfl) (fun _ _ _ h => h) (Or.inl ⟨by rfl, ?_⟩) ?_ ?_
  rotate_left
  ·intro w'
   go_simp
   with_reducible rfl
  rotate_left
  ·simp only [Act.put, sa_, sz_, ss_, i64_w, i32_w]
   rfl
  refine pure_ (i := 28) (N := some 52) (v := ?_) (a' := ?_) #[t_, t_, t_, t_, t_, t_, t_, t_, t_, t_, t_, t_, t_, t_, t_, t_, t_, t_, t_, t_, t_, t_, t_, t_, t_, t_, t_, t_, t_, f_, f_, f_, f_, f_, f_, f_, f_, f_, f_, f_, f_, f_, f_] rfl rfl (by kernel_rfl) (fun _ _ _ h => h) (Or.inl ⟨by rfl, ?_⟩) ?_ ?_
  rotate_left
  ·intro w'
   go_simp
   with_reducible rfl
  rotate_left
  ·simp only [Act.put, sa_, sz_, ss_, i64_w, i32_w]
   rfl
  refine take_ (i := 29) (N := some 53) (v := ?_) (a' := ?_) #[t_, t_, t_, t_, t_, t_, t_, t_, t_, t_, t_, t_, t_, t_, t_, t_, t_, t_, t_, t_, t_, t_, t_, t_, t_, t_, t_, t_, t_, t_, f_, f_, f_, f_, f_, f_, f_, f_, f_, f_, f_, f_, f_] rfl rfl (by kernel_rfl) (fun _ _ _ h => h) (Or.inl ⟨by rfl, ?_⟩) hHeld ?_ ?_
  rotate_left
  ·intro w' s0
   go_simp
   with_reducible rfl
  rotate_left
  ·simp only [Act.put, sa_, sz_, ss_, i64_w, i32_w]
   rfl
  refine take_ (i := 30) (N := some 54) (v := ?_) (a' := ?_) #[t_, t_, t_, t_, t_, t_, t_, t_, t_, t_, t_, t_, t_, t_, t_, t_, t_, t_, t_, t_, t_, t_, t_, t_, t_, t_, t_, t_, t_, t_, t_, f_, f_, f_, f_, f_, f_, f_, f_, f_, f_, f_, f_] rfl rfl (by kernel_rfl) (fun _ _ _ h => h) (Or.inl ⟨by rfl, ?_⟩) hHeld ?_ ?_
  rotate_left
  ·intro w' s0
   go_simp
   with_reducible rfl
  rotate_left
  ·simp only [Act.put, sa_, sz_, ss_, i64_w, i32_w]
   rfl
  refine take_ (i := 32) (N := some 56) (v := ?_) (a' := ?_) #[t_, t_, t_, t_, t_, t_, t_, t_, t_, t_, t_, t_, t_, t_, t_, t_, t_, t_, t_, t_, t_, t_, t_, t_, t_, t_, t_, t_, t_, t_, t_, f_, t_, f_, f_, f_, f_, f_, f_, f_, f_, f_, f_] rfl rfl (by kernel_rfl) (fun _ _ _ h => h) (Or.inl ⟨by rfl, ?_⟩) hHeld ?_ ?_
  rotate_left
  ·intro w' s0
   go_simp
   with_reducible rfl
  rotate_left
  ·simp only [Act.put, sa_, sz_, ss_, i64_w, i32_w]
   rfl
  refine take_ (i := 34) (N := some 58) (v := ?_) (a' := ?_) #[t_, t_, t_, t_, t_, t_, t_, t_, t_, t_, t_, t_, t_, t_, t_, t_, t_, t_, t_, t_, t_, t_, t_, t_, t_, t_, t_, t_, t_, t_, t_, f_, t_, f_, t_, f_, f_, f_, f_, f_, f_, f_, f_] rfl rfl (by kernel_rfl) (fun _ _ _ h => h) (Or.inl ⟨by rfl, ?_⟩) hHeld ?_ ?_
  rotate_left
  ·intro w' s0
   go_simp
   with_reducible rfl
  rotate_left
  ·simp only [Act.put, sa_, sz_, ss_, i64_w, i32_w]
   rfl
  refine one_ (i := 31) (N := some 55) #[t_, t_, t_, t_, t_, t_, t_, t_, t_, t_, t_, t_, t_, t_, t_, t_, t_, t_, t_, t_, t_, t_, t_, t_, t_, t_, t_, t_, t_, t_, t_, t_, t_, f_, t_, f_, f_, f_, f_, f_, f_, f_, f_] rfl rfl (by kernel_rfl) (by decide) (fun K hK => ?_)
  refine goes_ Try.func28 (by kernel_rfl) rfl #[.agg #[.slice Aa k ca], .agg #[.slice Ab q cb]] (by rfl) rfl rfl (by simp only [List.map_toArray, List.map_cons, List.map_nil]; rfl) ?_
  with_reducible refine (same_tree Aa ca La k Ab cb Lb q sb hna.out hnb.out hk6.out HHa.out HHb.out HSB.out _ (HCa.out _ (below_step HB_3.out hHeld.1.2.2.2)) (HCb.out _ (below_step HB_3.out hHeld.1.2.2.2))).mono ?_
  rintro e x31 ⟨rfl, hb31⟩
  refine ⟨_, rfl, ?_⟩
  refine hK.out _ _ ((sq_ hb31 hHeld)) (fun hHeld => ?_)
  clear hK K
  refine norm_ (a' := ?_) ?_ ?_
  rotate_left
  ·show Act.put _ (some 55) _ = _
   simp only [Act.put, sa_, sz_, ss_, i64_w, i32_w]
   rfl
  refine one_ (i := 33) (N := some 57) #[t_, t_, t_, t_, t_, t_, t_, t_, t_, t_, t_, t_, t_, t_, t_, t_, t_, t_, t_, t_, t_, t_, t_, t_, t_, t_, t_, t_, t_, t_, t_, t_, t_, t_, t_, f_, f_, f_, f_, f_, f_, f_, f_] rfl rfl (by kernel_rfl) (by decide) (fun K hK => ?_)
  refine goes_ Try.func11 (by kernel_rfl) rfl #[.agg #[.slice Aa k ca]] (by rfl) rfl rfl (by simp only [List.map_toArray, List.map_cons, List.map_nil]; rfl) ?_
  with_reducible refine (KB.out _ La k Aa ca hna.out hk6.out HHa.out (HCa.out _ (below_step HB_3.out hHeld.1.2.2.2))).mono ?_
  rintro e x33 ⟨⟨A10, c10, rfl, hl10, C10⟩, hb33⟩
  refine ⟨_, rfl, ?_⟩
  refine hK.out _ _ ((sq_ hb33 hHeld)) (fun hHeld => ?_)
  clear hK K
  refine norm_ (a' := ?_) ?_ ?_
  rotate_left
  ·show Act.put _ (some 57) _ = _
   simp only [Act.put, sa_, sz_, ss_, i64_w, i32_w]
   rfl
  refine one_ (i := 35) (N := some 59) #[t_, t_, t_, t_, t_, t_, t_, t_, t_, t_, t_, t_, t_, t_, t_, t_, t_, t_, t_, t_, t_, t_, t_, t_, t_, t_, t_, t_, t_, t_, t_, t_, t_, t_, t_, t_, f_, f_, f_, f_, f_, f_, f_] rfl rfl (by kernel_rfl) (by decide) (fun K hK => ?_)
  refine goes_ Try.func11 (by kernel_rfl) rfl #[.agg #[.slice Ab q cb]] (by rfl) rfl rfl (by simp only [List.map_toArray, List.map_cons, List.map_nil]; rfl) ?_
  with_reducible refine (KB.out _ Lb q Ab cb hnb.out hq6.out HHb.out (HCb.out _ (below_step HB_3.out hHeld.1.2.2.2))).mono ?_
  rintro e x35 ⟨⟨A11, c11, rfl, hl11, C11⟩, hb35⟩
  refine ⟨_, rfl, ?_⟩
  replace C10 := Kd.C_below C10 hb35
  refine hK.out _ _ ((sq_ hb35 hHeld)) (fun hHeld => ?_)
  clear hK K
  refine norm_ (a' := ?_) ?_ ?_
  rotate_left
  ·show Act.put _ (some 59) _ = _
   simp only [Act.put, sa_, sz_, ss_, i64_w, i32_w]
   rfl
  refine one_ (i := 36) (N := some 60) #[t_, t_, t_, t_, t_, t_, t_, t_, t_, t_, t_, t_, t_, t_, t_, t_, t_, t_, t_, t_, t_, t_, t_, t_, t_, t_, t_, t_, t_, t_, t_, t_, t_, t_, t_, t_, t_, f_, f_, f_, f_, f_, f_] rfl rfl (by kernel_rfl) (by decide) (fun K hK => ?_)
  refine goes_ Try.func24 (by kernel_rfl) rfl #[.slice A10 k c10, .slice A11 q c11] (by rfl) rfl rfl (by simp only [List.map_toArray, List.map_cons, List.map_nil]; rfl) ?_
  with_reducible refine (rsame_tree A10 c10 La k A11 c11 Lb q sb hna.out hnb.out hk6.out hl10 hl11 HSB.out _ C10 C11).mono ?_
  rintro e x36 ⟨rfl, hb36⟩
  refine ⟨_, rfl, ?_⟩
  clear C10 C11
  refine hK.out _ _ ((sq_ hb36 hHeld)) (fun hHeld => ?_)
  clear hK K
  refine norm_ (a' := ?_) ?_ ?_
  rotate_left
  ·show Act.put _ (some 60) _ = _
   simp only [Act.put, sa_, sz_, ss_, i64_w, i32_w]
   rfl
  refine pure_ (i := 37) (N := some 61) (v := ?_) (a' := ?_) #[t_, t_, t_, t_, t_, t_, t_, t_, t_, t_, t_, t_, t_, t_, t_, t_, t_, t_, t_, t_, t_, t_, t_, t_, t_, t_, t_, t_, t_, t_, t_, t_, t_, t_, t_, t_, t_, t_, f_, f_, f_, f_, f_] rfl rfl (by kernel_rfl) (fun _ _ _ h => h) (Or.inl ⟨by rfl, ?_⟩) ?_ ?_
  rotate_left
  ·intro w'
   go_simp
   with_reducible rfl
  rotate_left
  ·simp only [Act.put, sa_, sz_, ss_, i64_w, i32_w]
   rfl
  refine pure_ (i := 38) (N := some 62) (v := ?_) (a' := ?_) #[t_, t_, t_, t_, t_, t_, t_, t_, t_, t_, t_, t_, t_, t_, t_, t_, t_, t_, t_, t_, t_, t_, t_, t_, t_, t_, t_, t_, t_, t_, t_, t_, t_, t_, t_, t_, t_, t_, t_, f_, f_, f_, f_] rfl rfl (by kernel_rfl) (fun _ _ _ h => h) (Or.inl ⟨by rfl, ?_⟩) ?_ ?_
  rotate_left
  ·intro w'
   go_simp
   with_reducible rfl
  rotate_left
  ·simp only [Act.put, sa_, sz_, ss_, i64_w, i32_w]
   rfl
  refine pure_ (i := 39) (N := some 63) (v := ?_) (a' := ?_) #[t_, t_, t_, t_, t_, t_, t_, t_, t_, t_, t_, t_, t_, t_, t_, t_, t_, t_, t_, t_, t_, t_, t_, t_, t_, t_, t_, t_, t_, t_, t_, t_, t_, t_, t_, t_, t_, t_, t_, t_, f_, f_, f_] rfl rfl (by kernel_rfl) (fun _ _ _ h => h) (Or.inl ⟨by rfl, ?_⟩) ?_ ?_
  rotate_left
  ·intro w'
   go_simp
   with_reducible rfl
  rotate_left
  ·simp only [Act.put, sa_, sz_, ss_, i64_w, i32_w]
   rfl
  refine one_ (i := 40) (N := some 64) #[t_, t_, t_, t_, t_, t_, t_, t_, t_, t_, t_, t_, t_, t_, t_, t_, t_, t_, t_, t_, t_, t_, t_, t_, t_, t_, t_, t_, t_, t_, t_, t_, t_, t_, t_, t_, t_, t_, t_, t_, t_, f_, f_] rfl rfl (by kernel_rfl) (by decide) (fun K hK => ?_)
  refine goes_ Try.func20 (by kernel_rfl) rfl #[] (by rfl) rfl rfl (by simp) ?_
  with_reducible refine (fixed_calls _).mono ?_
  rintro e x40 ⟨rfl, hb40⟩
  refine ⟨_, rfl, ?_⟩
  refine hK.out _ _ ((sq_ hb40 hHeld)) (fun hHeld => ?_)
  clear hK K
  refine norm_ (a' := ?_) ?_ ?_
  rotate_left
  ·show Act.put _ (some 64) _ = _
   simp only [Act.put, sa_, sz_, ss_, i64_w, i32_w]
   rfl
  refine pure_ (i := 41) (N := some 65) (v := ?_) (a' := ?_) #[t_, t_, t_, t_, t_, t_, t_, t_, t_, t_, t_, t_, t_, t_, t_, t_, t_, t_, t_, t_, t_, t_, t_, t_, t_, t_, t_, t_, t_, t_, t_, t_, t_, t_, t_, t_, t_, t_, t_, t_, t_, t_, f_] rfl rfl (by kernel_rfl) (fun _ _ _ h => h) (Or.inl ⟨by rfl, ?_⟩) ?_ ?_
  rotate_left
  ·intro w'
   go_simp
   with_reducible rfl
  rotate_left
  ·simp only [Act.put, sa_, sz_, ss_, i64_w, i32_w]
   rfl
  refine pure_ (i := 42) (N := some 6) (v := ?_) (a' := ?_) #[t_, t_, t_, t_, t_, t_, t_, t_, t_, t_, t_, t_, t_, t_, t_, t_, t_, t_, t_, t_, t_, t_, t_, t_, t_, t_, t_, t_, t_, t_, t_, t_, t_, t_, t_, t_, t_, t_, t_, t_, t_, t_, t_] rfl rfl (by kernel_rfl) (fun _ _ _ h => h) (Or.inl ⟨by rfl, ?_⟩) ?_ ?_
  rotate_left
  ·intro w'
   go_simp
   with_reducible rfl
  rotate_left
  ·simp only [Act.put, sa_, sz_, ss_, i64_w, i32_w]
   rfl
  refine done_ (by kernel_rfl) ?_
  have hbf := Lib.hid (below_step HB_3.out hHeld.1.2.2.2)
  go_wp2
  go_ret
  exact ⟨rfl, hbf.out⟩
theorem astMakes_row (za zb : TreeArg) (z : S43) (w : World) (hza : TreeIn w za) (hzb : TreeIn w zb) (_ : True) :
    Calls Try.prog 4 #[.agg #[.slice za.A za.n za.c], .agg #[.slice zb.A zb.n zb.c], .agg (nc z)] w fun e w' => e = .returned (.bool true) ∧ Below w.heap.size w w' :=
  walk za zb z w hza hzb
end Go.Proofs.Ytjeoiebdchlilaa.LAstMakes
