/- ShowParts: what stands around a tree is shown around it; of two with Alt the first one, and the second one, in parentheses, if it is an Alt. -/
import Derived.Test.YtaaihcojedibeaaDoorZ3
import Derived.Test.YtaaihcojedibeaaDoorZ5
import Derived.Test.YtaaihcojedibeaaDoorZ1
namespace Go.Proofs.YtaaihcojedibeaaDoor.LShowParts
open Go.RowKit CMem DRow DDeep DSizes DFits DLens DSpec DGrp DCon DOdd DRowN DWrap DJoin DGrouped DRight DRFits DCut DKit DArgS SText SSpec SKinds SSize SShow STree SFix SFixed SAlg SParts Q Go.Proofs.YtaaihcojedibeaaDoorW.PrintWords Go.Proofs.YtaaihcojedibeaaDoorW.PrintLast Go.Proofs.YtaaihcojedibeaaDoorW.PrintMore
set_option linter.unusedVariables false
set_option linter.unusedSimpArgs false
set_option maxRecDepth 100000
abbrev t_ : Bool := true
abbrev f_ : Bool := false
theorem sa_ {α : Type} (l : List α) (i : Nat) (a : α) : l.toArray.setIfInBounds i a = (l.set i a).toArray := List.setIfInBounds_toArray _ _ _
theorem sz_ {α : Type} (x : α) (l : List α) (a : α) : (x :: l).set 0 a = a :: l := rfl
theorem ss_ {α : Type} (x : α) (l : List α) (i : Nat) (a : α) : (x :: l).set (i + 1) a = x :: l.set i a := rfl
theorem shows_size (L : List S37) (hn : L.length ≤ 1000) (hok : ∀ i, i < L.length → OkN (rd_T37 L (i : Nat))) : (shows L).size ≤ 1000000000 := by
  unfold shows
  by_cases h : rgt L = 0
  · have ho := rgt_ord h
    have hp := ord_pos ho
    have hw := fun i (hi : i < L.length) => ord_wf ho i hi
    rw [if_pos h]
    exact shw_big L L.length hn hw hok _ _ (by omega)
  · rw [if_neg h]
    decide
set_option maxHeartbeats 12800000 in
theorem walk (za zb : TreeArg) (w : World) (T : Tab w) (hza : TreeIn w za) (hzb : TreeIn w zb) :
    Calls Tryd.prog 4 #[.agg #[.slice za.A za.n za.c], .agg #[.slice zb.A zb.n zb.c]] w fun e w' => e = .returned (.bool true) ∧ Below w.heap.size w w' := by
  obtain ⟨Aa, n, cA, LA⟩ := za
  obtain ⟨Ab, m, cB, LB⟩ := zb
  obtain ⟨h1a, hlea, hcapa, hCa, hOka⟩ := hza
  obtain ⟨h1b, hleb, hcapb, hCb, hOkb⟩ := hzb
  simp only [] at h1a hlea hcapa hCa hOka h1b hleb hcapb hCb hOkb ⊢
  obtain ⟨k, hka⟩ : ∃ k, k = min n 60 := ⟨_, rfl⟩
  obtain ⟨q, hkb⟩ : ∃ k, k = min m 60 := ⟨_, rfl⟩
  obtain ⟨La, hLa⟩ : ∃ l, LA.take k = l := ⟨_, rfl⟩
  obtain ⟨Lb, hLb⟩ : ∃ l, LB.take q = l := ⟨_, rfl⟩
  have hna : La.length = k := by rw [← hLa, List.length_take]; omega
  have hnb : Lb.length = q := by rw [← hLb, List.length_take]; omega
  have hk5 : k ≤ 60 := by omega
  have hq5 : q ≤ 60 := by omega
  have hk6 := Lib.hid (show k ≤ 500 by omega)
  have hq6 := Lib.hid (show q ≤ 500 by omega)
  have HCa := Lib.hid (fun W (hb : Below w.heap.size w W) => (hLa ▸ C_take (Kd.C_below (w1 := W) hCa hb) (show k ≤ n by omega) : Kd.C k37 W Aa k La))
  have HCb := Lib.hid (fun W (hb : Below w.heap.size w W) => (hLb ▸ C_take (Kd.C_below (w1 := W) hCb hb) (show q ≤ m by omega) : Kd.C k37 W Ab q Lb))
  have hoka : ∀ i, i < k → OkN (rd_T37 La (i : Nat)) := fun i hi => okl (L := La) (fun x hx => hOka x (by rw [← hLa] at hx; exact List.mem_of_mem_take hx)) i (by omega)
  have hokb : ∀ i, i < q → OkN (rd_T37 Lb (i : Nat)) := fun i hi => okl (L := Lb) (fun x hx => hOkb x (by rw [← hLb] at hx; exact List.mem_of_mem_take hx)) i (by omega)
  have HT := Lib.hid (fun W (h : Below w.heap.size w W) => T.below h)
  obtain ⟨sa, hsa⟩ : ∃ s, shows La = s := ⟨_, rfl⟩
  obtain ⟨sb, hsb⟩ : ∃ s, shows Lb = s := ⟨_, rfl⟩
  have hza := Lib.hid (shows_size La (by omega) (fun i hi => hoka i (by omega)))
  have hzb := Lib.hid (shows_size Lb (by omega) (fun i hi => hokb i (by omega)))
  rw [hsa] at hza
  rw [hsb] at hzb
  have HSA := Lib.hid hsa
  have HSB := Lib.hid hsb
  have HOA := Lib.hid hoka
  have HOB := Lib.hid hokb
  obtain ⟨x, hx⟩ : ∃ r, dep La = r := ⟨_, rfl⟩
  obtain ⟨y, hy⟩ : ∃ r, dep Lb = r := ⟨_, rfl⟩
  have HX := Lib.hid hx
  have HY := Lib.hid hy
  have HK := Lib.hid (And.intro hk5 hq5)
  clear hx hy hCa hCb hLa hLb hk5 hq5 h1a h1b hsa hsb hoka hokb hOka hOkb T
  replace hka := Lib.hid hka
  replace hkb := Lib.hid hkb
  replace hlea := Lib.hid hlea
  replace hleb := Lib.hid hleb
  replace hcapa := Lib.hid hcapa
  replace hcapb := Lib.hid hcapb
  replace hna := Lib.hid hna
  replace hnb := Lib.hid hnb
  have Q0_0 := Lib.hid (blk_alloc (heap_alloc_new w (.cells #[.slice Aa n cA] 24)) (.cells #[.slice Ab m cB] 24))
  have Q1_0 := Lib.hid (blk2 w (.cells #[.slice Aa n cA] 24) #[.slice Ab m cB] 24)
  have HB_0 := Lib.hid (below2 w (.cells #[.slice Aa n cA] 24) (.cells #[.slice Ab m cB] 24))
  have M0_0 := blk_cell Q0_0.out 0 (.slice Aa n cA) rfl
  have M1_0 := blk_cell Q1_0.out 0 (.slice Ab m cB) rfl
  go_enter Tryd.func4, Tryd.ntmps4
  go_wp2_with fail
  generalize hW : (w.alloc (.cells #[.slice Aa n cA] 24)).alloc (.cells #[.slice Ab m cB] 24) = v0 at *
  clear hW
  refine (cut_calls Aa cA n k 60 hka.out hlea.out hcapa.out (by decide) _).mono ?_
  -- cut
  rintro e w1 ⟨⟨ca, rfl, hca⟩, hb⟩
  have R_ := below_blk hb Q0_0.out
  have q_ := blk_cell R_ 0 (.slice Aa n cA) rfl
  have f_ := blk_free R_ 0
  have Q0_1 := Lib.hid (set_blk (i := 0) R_ (.slice Aa k ca))
  have Q1_1 := Lib.hid (set_other (c := w.heap.size) (i := 0) (v := (.slice Aa k ca)) (below_blk hb Q1_0.out) (by omega))
  have HB_1 := Lib.hid (CMem.below_set (b := w.heap.size) (i := 0) (below_step HB_0.out hb) (by omega) (.slice Aa k ca))
  have HHa := Lib.hid hca
  clear hb R_ hca HB_0 Q0_0 Q1_0 M0_0 M1_0
  have M0_1 := blk_cell Q0_1.out 0 (.slice Aa k ca) rfl
  have M1_1 := blk_cell Q1_1.out 0 (.slice Ab m cB) rfl
  go_wp2_with fail
  generalize hW : w1.setCell ⟨w.heap.size, 0, none⟩ (.slice Aa k ca) = v1 at *
  clear hW q_ f_
  refine (cut_calls Ab cB m q 60 hkb.out hleb.out hcapb.out (by decide) _).mono ?_
  -- cut
  rintro e w2 ⟨⟨cb, rfl, hcb⟩, hb⟩
  have Q0_2 := Lib.hid (set_other (c := w.heap.size + 1) (i := 0) (v := (.slice Ab q cb)) (below_blk hb Q0_1.out) (by omega))
  have R_ := below_blk hb Q1_1.out
  have q_ := blk_cell R_ 0 (.slice Ab m cB) rfl
  have f_ := blk_free R_ 0
  have Q1_2 := Lib.hid (set_blk (i := 0) R_ (.slice Ab q cb))
  have HB_2 := Lib.hid (CMem.below_set (b := w.heap.size + 1) (i := 0) (below_step HB_1.out hb) (by omega) (.slice Ab q cb))
  have HHb := Lib.hid hcb
  clear hb R_ hcb HB_1 Q0_1 Q1_1 M0_1 M1_1
  have M1_2 := blk_cell Q1_2.out 0 (.slice Ab q cb) rfl
  have M0_2 := blk_cell Q0_2.out 0 (.slice Aa k ca) rfl
  go_wp2_with fail
  generalize hW : w2.setCell ⟨w.heap.size + 1, 0, none⟩ (.slice Ab q cb) = v2 at *
  clear hW q_ f_
  have Ba_2 := Q0_2
  have La_2 := M0_2
  clear Q0_2 M0_2
  have Bb_2 := Q1_2
  have Lb_2 := M1_2
  clear Q1_2 M1_2
  obtain ⟨RA, hRA⟩ : ∃ r, rgt La = r := ⟨_, rfl⟩
  obtain ⟨RB, hRB⟩ : ∃ r, rgt Lb = r := ⟨_, rfl⟩
  obtain ⟨ga, hga⟩ : ∃ r, grn La = r := ⟨_, rfl⟩
  obtain ⟨gb, hgb⟩ : ∃ r, grn Lb = r := ⟨_, rfl⟩
  obtain ⟨z, hz1⟩ : ∃ z, max x y = z := ⟨_, rfl⟩
  have hz2 : (if x < y then y else x) = z := by rw [← hz1]; split <;> omega
  have hg9 : wrap64 (ga + gb) = ga + gb := by
    have hgA := grn_rng La
    have hgB := grn_rng Lb
    have := HK.out
    have := hna.out
    have := hnb.out
    unfold wrap64
    omega
  obtain ⟨gs, hgs⟩ : ∃ r, ga + gb = r := ⟨_, rfl⟩
  have hg1 : wrap64 (ga + gb) = gs := by rw [hg9, hgs]
  clear hg9
  replace hgs := Lib.hid hgs
  replace hga := Lib.hid hga
  replace hgb := Lib.hid hgb
  replace hRA := Lib.hid hRA
  replace hRB := Lib.hid hRB
  have hZ := Lib.hid (Below.refl v2.heap.size v2)
  rcases Decidable.em (¬ RA = 0) with hr0 | hr0
  · have hrA : (RA != 0) = true := by simpa using hr0
    refine start_ (n := 24) (S := fun w' => w'.cell? ⟨w.heap.size, 0, none⟩ = some (.slice Aa k ca) ∧ w'.cell? ⟨w.heap.size + 1, 0, none⟩ = some (.slice Ab q cb) ∧ Below v2.heap.size v2 w') (ds := []) #[f_, f_, f_, f_, f_, f_, f_, f_, f_, f_, f_, f_, f_, f_, f_, f_, f_, f_, f_, f_, f_, f_, f_, f_] (by kernel_rfl) rfl rfl ⟨La_2, Lb_2, hZ.out.drew⟩ (fun hHeld => ?_)
    refine take_ (i := 0) (N := some 11) (v := ?_) (a' := ?_) #[t_, f_, f_, f_, f_, f_, f_, f_, f_, f_, f_, f_, f_, f_, f_, f_, f_, f_, f_, f_, f_, f_, f_, f_] rfl rfl (by kernel_rfl) (fun _ _ _ h => h) (Or.inl ⟨by rfl, ?_⟩) hHeld ?_ ?_
    rotate_left
    · rintro w' ⟨s0, s1, s2⟩
      go_simp
      with_reducible rfl
    rotate_left
    · simp only [Act.put, sa_, sz_, ss_, i64_w, i32_w]
      rfl
    refine one_ (i := 1) (N := some 12) #[t_, t_, f_, f_, f_, f_, f_, f_, f_, f_, f_, f_, f_, f_, f_, f_, f_, f_, f_, f_, f_, f_, f_, f_] rfl rfl (by kernel_rfl) (by decide) (fun K hK => ?_)
    refine goes_ Tryd.func7 (by kernel_rfl) rfl #[.agg #[.slice Aa k ca]] (by rfl) rfl rfl (by simp only [List.map_toArray, List.map_cons, List.map_nil]; rfl) ?_
    with_reducible refine (right_tree Aa ca La k RA hna.out hk6.out hRA.out _ (HCa.out _ (below_step HB_2.out hHeld.2.2))).mono ?_
    rintro e w3 ⟨rfl, hbq0⟩
    refine ⟨_, rfl, ?_⟩
    refine hK.out _ _ ⟨(below_of hbq0 hHeld.1), (below_of hbq0 hHeld.2.1), (below_step hHeld.2.2 hbq0)⟩ (fun hHeld => ?_)
    clear hK K
    refine norm_ (a' := ?_) ?_ ?_
    rotate_left
    · show Act.put _ (some 12) _ = _
      simp only [Act.put, sa_, sz_, ss_, i64_w, i32_w]
      rfl
    refine pure_ (i := 2) (N := some 13) (v := ?_) (a' := ?_) #[t_, t_, t_, f_, f_, f_, f_, f_, f_, f_, f_, f_, f_, f_, f_, f_, f_, f_, f_, f_, f_, f_, f_, f_] rfl rfl (by kernel_rfl) (fun _ _ _ h => h) (Or.inl ⟨by rfl, ?_⟩) ?_ ?_
    rotate_left
    · intro w'
      go_simp
      with_reducible rfl
    rotate_left
    · simp only [Act.put, sa_, sz_, ss_, i64_w, i32_w]
      rfl
    refine pure_ (i := 3) (N := some 14) (v := ?_) (a' := ?_) #[t_, t_, t_, t_, f_, f_, f_, f_, f_, f_, f_, f_, f_, f_, f_, f_, f_, f_, f_, f_, f_, f_, f_, f_] rfl rfl (by kernel_rfl) (fun _ _ _ h => h) (Or.inl ⟨by rfl, ?_⟩) ?_ ?_
    rotate_left
    · intro w'
      go_simp
      with_reducible rfl
    rotate_left
    · simp only [Act.put, sa_, sz_, ss_, i64_w, i32_w]
      rfl
    refine pure_ (i := 4) (N := some 15) (v := undef) (a' := ?_) #[t_, t_, t_, t_, t_, f_, f_, f_, f_, f_, f_, f_, f_, f_, f_, f_, f_, f_, f_, f_, f_, f_, f_, f_] rfl rfl (by kernel_rfl) (fun _ _ _ h => h) (Or.inr ⟨by rfl, rfl⟩) ?_ ?_
    rotate_left
    · simp only [Act.put, sa_, sz_, ss_, i64_w, i32_w]
      rfl
    refine pure_ (i := 5) (N := some 16) (v := undef) (a' := ?_) #[t_, t_, t_, t_, t_, t_, f_, f_, f_, f_, f_, f_, f_, f_, f_, f_, f_, f_, f_, f_, f_, f_, f_, f_] rfl rfl (by kernel_rfl) (fun _ _ _ h => h) (Or.inr ⟨by rfl, rfl⟩) ?_ ?_
    rotate_left
    · simp only [Act.put, sa_, sz_, ss_, i64_w, i32_w]
      rfl
    refine pure_ (i := 6) (N := some 17) (v := undef) (a' := ?_) #[t_, t_, t_, t_, t_, t_, t_, f_, f_, f_, f_, f_, f_, f_, f_, f_, f_, f_, f_, f_, f_, f_, f_, f_] rfl rfl (by kernel_rfl) (fun _ _ _ h => h) (Or.inr ⟨by rfl, rfl⟩) ?_ ?_
    rotate_left
    · simp only [Act.put, sa_, sz_, ss_, i64_w, i32_w]
      rfl
    refine pure_ (i := 7) (N := some 18) (v := ?_) (a' := ?_) #[t_, t_, t_, t_, t_, t_, t_, t_, f_, f_, f_, f_, f_, f_, f_, f_, f_, f_, f_, f_, f_, f_, f_, f_] rfl rfl (by kernel_rfl) (fun _ _ _ h => h) (Or.inl ⟨by rfl, ?_⟩) ?_ ?_
    rotate_left
    · intro w'
      go_simp
      with_reducible rfl
    rotate_left
    · simp only [Act.put, sa_, sz_, ss_, i64_w, i32_w]
      rfl
    refine pure_ (i := 8) (N := some 19) (v := ?_) (a' := ?_) #[t_, t_, t_, t_, t_, t_, t_, t_, t_, f_, f_, f_, f_, f_, f_, f_, f_, f_, f_, f_, f_, f_, f_, f_] rfl rfl (by kernel_rfl) (fun _ _ _ h => h) (Or.inl ⟨by rfl, ?_⟩) ?_ ?_
    rotate_left
    · intro w'
      go_simp
      with_reducible rfl
    rotate_left
    · simp only [Act.put, sa_, sz_, ss_, i64_w, i32_w]
      rfl
    refine pure_ (i := 9) (N := some 20) (v := undef) (a' := ?_) #[t_, t_, t_, t_, t_, t_, t_, t_, t_, t_, f_, f_, f_, f_, f_, f_, f_, f_, f_, f_, f_, f_, f_, f_] rfl rfl (by kernel_rfl) (fun _ _ _ h => h) (Or.inr ⟨by rfl, rfl⟩) ?_ ?_
    rotate_left
    · simp only [Act.put, sa_, sz_, ss_, i64_w, i32_w]
      rfl
    refine pure_ (i := 10) (N := some 21) (v := undef) (a' := ?_) #[t_, t_, t_, t_, t_, t_, t_, t_, t_, t_, t_, f_, f_, f_, f_, f_, f_, f_, f_, f_, f_, f_, f_, f_] rfl rfl (by kernel_rfl) (fun _ _ _ h => h) (Or.inr ⟨by rfl, rfl⟩) ?_ ?_
    rotate_left
    · simp only [Act.put, sa_, sz_, ss_, i64_w, i32_w]
      rfl
    refine pure_ (i := 11) (N := some 22) (v := undef) (a' := ?_) #[t_, t_, t_, t_, t_, t_, t_, t_, t_, t_, t_, t_, f_, f_, f_, f_, f_, f_, f_, f_, f_, f_, f_, f_] rfl rfl (by kernel_rfl) (fun _ _ _ h => h) (Or.inr ⟨by rfl, rfl⟩) ?_ ?_
    rotate_left
    · simp only [Act.put, sa_, sz_, ss_, i64_w, i32_w]
      rfl
    refine pure_ (i := 12) (N := some 23) (v := undef) (a' := ?_) #[t_, t_, t_, t_, t_, t_, t_, t_, t_, t_, t_, t_, t_, f_, f_, f_, f_, f_, f_, f_, f_, f_, f_, f_] rfl rfl (by kernel_rfl) (fun _ _ _ h => h) (Or.inr ⟨by rfl, rfl⟩) ?_ ?_
    rotate_left
    · simp only [Act.put, sa_, sz_, ss_, i64_w, i32_w]
      rfl
    refine pure_ (i := 13) (N := some 24) (v := undef) (a' := ?_) #[t_, t_, t_, t_, t_, t_, t_, t_, t_, t_, t_, t_, t_, t_, f_, f_, f_, f_, f_, f_, f_, f_, f_, f_] rfl rfl (by kernel_rfl) (fun _ _ _ h => h) (Or.inr ⟨by rfl, rfl⟩) ?_ ?_
    rotate_left
    · simp only [Act.put, sa_, sz_, ss_, i64_w, i32_w]
      rfl
    refine pure_ (i := 14) (N := some 25) (v := undef) (a' := ?_) #[t_, t_, t_, t_, t_, t_, t_, t_, t_, t_, t_, t_, t_, t_, t_, f_, f_, f_, f_, f_, f_, f_, f_, f_] rfl rfl (by kernel_rfl) (fun _ _ _ h => h) (Or.inr ⟨by rfl, rfl⟩) ?_ ?_
    rotate_left
    · simp only [Act.put, sa_, sz_, ss_, i64_w, i32_w]
      rfl
    refine pure_ (i := 15) (N := some 26) (v := ?_) (a' := ?_) #[t_, t_, t_, t_, t_, t_, t_, t_, t_, t_, t_, t_, t_, t_, t_, t_, f_, f_, f_, f_, f_, f_, f_, f_] rfl rfl (by kernel_rfl) (fun _ _ _ h => h) (Or.inl ⟨by rfl, ?_⟩) ?_ ?_
    rotate_left
    · intro w'
      go_simp
      with_reducible rfl
    rotate_left
    · simp only [Act.put, sa_, sz_, ss_, i64_w, i32_w]
      rfl
    refine pure_ (i := 16) (N := some 27) (v := ?_) (a' := ?_) #[t_, t_, t_, t_, t_, t_, t_, t_, t_, t_, t_, t_, t_, t_, t_, t_, t_, f_, f_, f_, f_, f_, f_, f_] rfl rfl (by kernel_rfl) (fun _ _ _ h => h) (Or.inl ⟨by rfl, ?_⟩) ?_ ?_
    rotate_left
    · intro w'
      go_simp
      with_reducible rfl
    rotate_left
    · simp only [Act.put, sa_, sz_, ss_, i64_w, i32_w]
      rfl
    refine pure_ (i := 17) (N := some 28) (v := undef) (a' := ?_) #[t_, t_, t_, t_, t_, t_, t_, t_, t_, t_, t_, t_, t_, t_, t_, t_, t_, t_, f_, f_, f_, f_, f_, f_] rfl rfl (by kernel_rfl) (fun _ _ _ h => h) (Or.inr ⟨by rfl, rfl⟩) ?_ ?_
    rotate_left
    · simp only [Act.put, sa_, sz_, ss_, i64_w, i32_w]
      rfl
    refine pure_ (i := 18) (N := some 29) (v := undef) (a' := ?_) #[t_, t_, t_, t_, t_, t_, t_, t_, t_, t_, t_, t_, t_, t_, t_, t_, t_, t_, t_, f_, f_, f_, f_, f_] rfl rfl (by kernel_rfl) (fun _ _ _ h => h) (Or.inr ⟨by rfl, rfl⟩) ?_ ?_
    rotate_left
    · simp only [Act.put, sa_, sz_, ss_, i64_w, i32_w]
      rfl
    refine pure_ (i := 19) (N := some 30) (v := undef) (a' := ?_) #[t_, t_, t_, t_, t_, t_, t_, t_, t_, t_, t_, t_, t_, t_, t_, t_, t_, t_, t_, t_, f_, f_, f_, f_] rfl rfl (by kernel_rfl) (fun _ _ _ h => h) (Or.inr ⟨by rfl, rfl⟩) ?_ ?_
    rotate_left
    · simp only [Act.put, sa_, sz_, ss_, i64_w, i32_w]
      rfl
    refine pure_ (i := 20) (N := some 31) (v := undef) (a' := ?_) #[t_, t_, t_, t_, t_, t_, t_, t_, t_, t_, t_, t_, t_, t_, t_, t_, t_, t_, t_, t_, t_, f_, f_, f_] rfl rfl (by kernel_rfl) (fun _ _ _ h => h) (Or.inr ⟨by rfl, rfl⟩) ?_ ?_
    rotate_left
    · simp only [Act.put, sa_, sz_, ss_, i64_w, i32_w]
      rfl
    refine pure_ (i := 21) (N := some 32) (v := undef) (a' := ?_) #[t_, t_, t_, t_, t_, t_, t_, t_, t_, t_, t_, t_, t_, t_, t_, t_, t_, t_, t_, t_, t_, t_, f_, f_] rfl rfl (by kernel_rfl) (fun _ _ _ h => h) (Or.inr ⟨by rfl, rfl⟩) ?_ ?_
    rotate_left
    · simp only [Act.put, sa_, sz_, ss_, i64_w, i32_w]
      rfl
    refine pure_ (i := 22) (N := some 33) (v := undef) (a' := ?_) #[t_, t_, t_, t_, t_, t_, t_, t_, t_, t_, t_, t_, t_, t_, t_, t_, t_, t_, t_, t_, t_, t_, t_, f_] rfl rfl (by kernel_rfl) (fun _ _ _ h => h) (Or.inr ⟨by rfl, rfl⟩) ?_ ?_
    rotate_left
    · simp only [Act.put, sa_, sz_, ss_, i64_w, i32_w]
      rfl
    refine pure_ (i := 23) (N := some 34) (v := ?_) (a' := ?_) #[t_, t_, t_, t_, t_, t_, t_, t_, t_, t_, t_, t_, t_, t_, t_, t_, t_, t_, t_, t_, t_, t_, t_, t_] rfl rfl (by kernel_rfl) (fun _ _ _ h => h) (Or.inl ⟨by rfl, ?_⟩) ?_ ?_
    rotate_left
    · intro w'
      go_simp
      with_reducible rfl
    rotate_left
    · simp only [Act.put, sa_, sz_, ss_, i64_w, i32_w]
      rfl
    refine done_ (by kernel_rfl) ?_
    have hb := below_step HB_2.out (below_step hZ.out.drew hbq0)
    clear hHeld hbq0
    go_wp2_with fail
    refine (fixed_calls _ (HT.out _ hb)).mono ?_
    rintro e w4 ⟨rfl, hb4⟩
    go_wp2
    go_ret
    exact ⟨rfl, below_step hb hb4⟩
  replace hr0 := Decidable.not_not.1 hr0
  subst hr0
  rcases Decidable.em (¬ RB = 0) with hr0 | hr0
  · have hrB : (RB != 0) = true := by simpa using hr0
    refine start_ (n := 24) (S := fun w' => w'.cell? ⟨w.heap.size, 0, none⟩ = some (.slice Aa k ca) ∧ w'.cell? ⟨w.heap.size + 1, 0, none⟩ = some (.slice Ab q cb) ∧ Below v2.heap.size v2 w') (ds := []) #[f_, f_, f_, f_, f_, f_, f_, f_, f_, f_, f_, f_, f_, f_, f_, f_, f_, f_, f_, f_, f_, f_, f_, f_] (by kernel_rfl) rfl rfl ⟨La_2, Lb_2, hZ.out.drew⟩ (fun hHeld => ?_)
    refine take_ (i := 0) (N := some 11) (v := ?_) (a' := ?_) #[t_, f_, f_, f_, f_, f_, f_, f_, f_, f_, f_, f_, f_, f_, f_, f_, f_, f_, f_, f_, f_, f_, f_, f_] rfl rfl (by kernel_rfl) (fun _ _ _ h => h) (Or.inl ⟨by rfl, ?_⟩) hHeld ?_ ?_
    rotate_left
    · rintro w' ⟨s0, s1, s2⟩
      go_simp
      with_reducible rfl
    rotate_left
    · simp only [Act.put, sa_, sz_, ss_, i64_w, i32_w]
      rfl
    refine one_ (i := 1) (N := some 12) #[t_, t_, f_, f_, f_, f_, f_, f_, f_, f_, f_, f_, f_, f_, f_, f_, f_, f_, f_, f_, f_, f_, f_, f_] rfl rfl (by kernel_rfl) (by decide) (fun K hK => ?_)
    refine goes_ Tryd.func7 (by kernel_rfl) rfl #[.agg #[.slice Aa k ca]] (by rfl) rfl rfl (by simp only [List.map_toArray, List.map_cons, List.map_nil]; rfl) ?_
    with_reducible refine (right_tree Aa ca La k 0 hna.out hk6.out hRA.out _ (HCa.out _ (below_step HB_2.out hHeld.2.2))).mono ?_
    rintro e x0 ⟨rfl, hbq0⟩
    refine ⟨_, rfl, ?_⟩
    refine hK.out _ _ ⟨(below_of hbq0 hHeld.1), (below_of hbq0 hHeld.2.1), (below_step hHeld.2.2 hbq0)⟩ (fun hHeld => ?_)
    clear hK K
    refine norm_ (a' := ?_) ?_ ?_
    rotate_left
    · show Act.put _ (some 12) _ = _
      simp only [Act.put, sa_, sz_, ss_, i64_w, i32_w]
      rfl
    refine pure_ (i := 2) (N := some 13) (v := ?_) (a' := ?_) #[t_, t_, t_, f_, f_, f_, f_, f_, f_, f_, f_, f_, f_, f_, f_, f_, f_, f_, f_, f_, f_, f_, f_, f_] rfl rfl (by kernel_rfl) (fun _ _ _ h => h) (Or.inl ⟨by rfl, ?_⟩) ?_ ?_
    rotate_left
    · intro w'
      go_simp
      with_reducible rfl
    rotate_left
    · simp only [Act.put, sa_, sz_, ss_, i64_w, i32_w]
      rfl
    refine pure_ (i := 3) (N := some 14) (v := ?_) (a' := ?_) #[t_, t_, t_, t_, f_, f_, f_, f_, f_, f_, f_, f_, f_, f_, f_, f_, f_, f_, f_, f_, f_, f_, f_, f_] rfl rfl (by kernel_rfl) (fun _ _ _ h => h) (Or.inl ⟨by rfl, ?_⟩) ?_ ?_
    rotate_left
    · intro w'
      go_simp
      with_reducible rfl
    rotate_left
    · simp only [Act.put, sa_, sz_, ss_, i64_w, i32_w]
      rfl
    refine take_ (i := 4) (N := some 15) (v := ?_) (a' := ?_) #[t_, t_, t_, t_, t_, f_, f_, f_, f_, f_, f_, f_, f_, f_, f_, f_, f_, f_, f_, f_, f_, f_, f_, f_] rfl rfl (by kernel_rfl) (fun _ _ _ h => h) (Or.inl ⟨by rfl, ?_⟩) hHeld ?_ ?_
    rotate_left
    · rintro w' ⟨s0, s1, s2⟩
      go_simp
      with_reducible rfl
    rotate_left
    · simp only [Act.put, sa_, sz_, ss_, i64_w, i32_w]
      rfl
    refine one_ (i := 5) (N := some 16) #[t_, t_, t_, t_, t_, t_, f_, f_, f_, f_, f_, f_, f_, f_, f_, f_, f_, f_, f_, f_, f_, f_, f_, f_] rfl rfl (by kernel_rfl) (by decide) (fun K hK => ?_)
    refine goes_ Tryd.func7 (by kernel_rfl) rfl #[.agg #[.slice Ab q cb]] (by rfl) rfl rfl (by simp only [List.map_toArray, List.map_cons, List.map_nil]; rfl) ?_
    with_reducible refine (right_tree Ab cb Lb q RB hnb.out hq6.out hRB.out _ (HCb.out _ (below_step HB_2.out hHeld.2.2))).mono ?_
    rintro e w3 ⟨rfl, hbq1⟩
    refine ⟨_, rfl, ?_⟩
    refine hK.out _ _ ⟨(below_of hbq1 hHeld.1), (below_of hbq1 hHeld.2.1), (below_step hHeld.2.2 hbq1)⟩ (fun hHeld => ?_)
    clear hK K
    refine norm_ (a' := ?_) ?_ ?_
    rotate_left
    · show Act.put _ (some 16) _ = _
      simp only [Act.put, sa_, sz_, ss_, i64_w, i32_w]
      rfl
    refine pure_ (i := 6) (N := some 17) (v := ?_) (a' := ?_) #[t_, t_, t_, t_, t_, t_, t_, f_, f_, f_, f_, f_, f_, f_, f_, f_, f_, f_, f_, f_, f_, f_, f_, f_] rfl rfl (by kernel_rfl) (fun _ _ _ h => h) (Or.inl ⟨by rfl, ?_⟩) ?_ ?_
    rotate_left
    · intro w'
      go_simp
      with_reducible rfl
    rotate_left
    · simp only [Act.put, sa_, sz_, ss_, i64_w, i32_w]
      rfl
    refine pure_ (i := 7) (N := some 18) (v := ?_) (a' := ?_) #[t_, t_, t_, t_, t_, t_, t_, t_, f_, f_, f_, f_, f_, f_, f_, f_, f_, f_, f_, f_, f_, f_, f_, f_] rfl rfl (by kernel_rfl) (fun _ _ _ h => h) (Or.inl ⟨by rfl, ?_⟩) ?_ ?_
    rotate_left
    · intro w'
      go_simp
      with_reducible rfl
    rotate_left
    · simp only [Act.put, sa_, sz_, ss_, i64_w, i32_w]
      rfl
    refine pure_ (i := 8) (N := some 19) (v := ?_) (a' := ?_) #[t_, t_, t_, t_, t_, t_, t_, t_, t_, f_, f_, f_, f_, f_, f_, f_, f_, f_, f_, f_, f_, f_, f_, f_] rfl rfl (by kernel_rfl) (fun _ _ _ h => h) (Or.inl ⟨by rfl, ?_⟩) ?_ ?_
    rotate_left
    · intro w'
      go_simp
      with_reducible rfl
    rotate_left
    · simp only [Act.put, sa_, sz_, ss_, i64_w, i32_w]
      rfl
    refine pure_ (i := 9) (N := some 20) (v := undef) (a' := ?_) #[t_, t_, t_, t_, t_, t_, t_, t_, t_, t_, f_, f_, f_, f_, f_, f_, f_, f_, f_, f_, f_, f_, f_, f_] rfl rfl (by kernel_rfl) (fun _ _ _ h => h) (Or.inr ⟨by rfl, rfl⟩) ?_ ?_
    rotate_left
    · simp only [Act.put, sa_, sz_, ss_, i64_w, i32_w]
      rfl
    refine pure_ (i := 10) (N := some 21) (v := undef) (a' := ?_) #[t_, t_, t_, t_, t_, t_, t_, t_, t_, t_, t_, f_, f_, f_, f_, f_, f_, f_, f_, f_, f_, f_, f_, f_] rfl rfl (by kernel_rfl) (fun _ _ _ h => h) (Or.inr ⟨by rfl, rfl⟩) ?_ ?_
    rotate_left
    · simp only [Act.put, sa_, sz_, ss_, i64_w, i32_w]
      rfl
    refine pure_ (i := 11) (N := some 22) (v := undef) (a' := ?_) #[t_, t_, t_, t_, t_, t_, t_, t_, t_, t_, t_, t_, f_, f_, f_, f_, f_, f_, f_, f_, f_, f_, f_, f_] rfl rfl (by kernel_rfl) (fun _ _ _ h => h) (Or.inr ⟨by rfl, rfl⟩) ?_ ?_
    rotate_left
    · simp only [Act.put, sa_, sz_, ss_, i64_w, i32_w]
      rfl
    refine pure_ (i := 12) (N := some 23) (v := undef) (a' := ?_) #[t_, t_, t_, t_, t_, t_, t_, t_, t_, t_, t_, t_, t_, f_, f_, f_, f_, f_, f_, f_, f_, f_, f_, f_] rfl rfl (by kernel_rfl) (fun _ _ _ h => h) (Or.inr ⟨by rfl, rfl⟩) ?_ ?_
    rotate_left
    · simp only [Act.put, sa_, sz_, ss_, i64_w, i32_w]
      rfl
    refine pure_ (i := 13) (N := some 24) (v := undef) (a' := ?_) #[t_, t_, t_, t_, t_, t_, t_, t_, t_, t_, t_, t_, t_, t_, f_, f_, f_, f_, f_, f_, f_, f_, f_, f_] rfl rfl (by kernel_rfl) (fun _ _ _ h => h) (Or.inr ⟨by rfl, rfl⟩) ?_ ?_
    rotate_left
    · simp only [Act.put, sa_, sz_, ss_, i64_w, i32_w]
      rfl
    refine pure_ (i := 14) (N := some 25) (v := undef) (a' := ?_) #[t_, t_, t_, t_, t_, t_, t_, t_, t_, t_, t_, t_, t_, t_, t_, f_, f_, f_, f_, f_, f_, f_, f_, f_] rfl rfl (by kernel_rfl) (fun _ _ _ h => h) (Or.inr ⟨by rfl, rfl⟩) ?_ ?_
    rotate_left
    · simp only [Act.put, sa_, sz_, ss_, i64_w, i32_w]
      rfl
    refine pure_ (i := 15) (N := some 26) (v := ?_) (a' := ?_) #[t_, t_, t_, t_, t_, t_, t_, t_, t_, t_, t_, t_, t_, t_, t_, t_, f_, f_, f_, f_, f_, f_, f_, f_] rfl rfl (by kernel_rfl) (fun _ _ _ h => h) (Or.inl ⟨by rfl, ?_⟩) ?_ ?_
    rotate_left
    · intro w'
      go_simp
      with_reducible rfl
    rotate_left
    · simp only [Act.put, sa_, sz_, ss_, i64_w, i32_w]
      rfl
    refine pure_ (i := 16) (N := some 27) (v := ?_) (a' := ?_) #[t_, t_, t_, t_, t_, t_, t_, t_, t_, t_, t_, t_, t_, t_, t_, t_, t_, f_, f_, f_, f_, f_, f_, f_] rfl rfl (by kernel_rfl) (fun _ _ _ h => h) (Or.inl ⟨by rfl, ?_⟩) ?_ ?_
    rotate_left
    · intro w'
      go_simp
      with_reducible rfl
    rotate_left
    · simp only [Act.put, sa_, sz_, ss_, i64_w, i32_w]
      rfl
    refine pure_ (i := 17) (N := some 28) (v := undef) (a' := ?_) #[t_, t_, t_, t_, t_, t_, t_, t_, t_, t_, t_, t_, t_, t_, t_, t_, t_, t_, f_, f_, f_, f_, f_, f_] rfl rfl (by kernel_rfl) (fun _ _ _ h => h) (Or.inr ⟨by rfl, rfl⟩) ?_ ?_
    rotate_left
    · simp only [Act.put, sa_, sz_, ss_, i64_w, i32_w]
      rfl
    refine pure_ (i := 18) (N := some 29) (v := undef) (a' := ?_) #[t_, t_, t_, t_, t_, t_, t_, t_, t_, t_, t_, t_, t_, t_, t_, t_, t_, t_, t_, f_, f_, f_, f_, f_] rfl rfl (by kernel_rfl) (fun _ _ _ h => h) (Or.inr ⟨by rfl, rfl⟩) ?_ ?_
    rotate_left
    · simp only [Act.put, sa_, sz_, ss_, i64_w, i32_w]
      rfl
    refine pure_ (i := 19) (N := some 30) (v := undef) (a' := ?_) #[t_, t_, t_, t_, t_, t_, t_, t_, t_, t_, t_, t_, t_, t_, t_, t_, t_, t_, t_, t_, f_, f_, f_, f_] rfl rfl (by kernel_rfl) (fun _ _ _ h => h) (Or.inr ⟨by rfl, rfl⟩) ?_ ?_
    rotate_left
    · simp only [Act.put, sa_, sz_, ss_, i64_w, i32_w]
      rfl
    refine pure_ (i := 20) (N := some 31) (v := undef) (a' := ?_) #[t_, t_, t_, t_, t_, t_, t_, t_, t_, t_, t_, t_, t_, t_, t_, t_, t_, t_, t_, t_, t_, f_, f_, f_] rfl rfl (by kernel_rfl) (fun _ _ _ h => h) (Or.inr ⟨by rfl, rfl⟩) ?_ ?_
    rotate_left
    · simp only [Act.put, sa_, sz_, ss_, i64_w, i32_w]
      rfl
    refine pure_ (i := 21) (N := some 32) (v := undef) (a' := ?_) #[t_, t_, t_, t_, t_, t_, t_, t_, t_, t_, t_, t_, t_, t_, t_, t_, t_, t_, t_, t_, t_, t_, f_, f_] rfl rfl (by kernel_rfl) (fun _ _ _ h => h) (Or.inr ⟨by rfl, rfl⟩) ?_ ?_
    rotate_left
    · simp only [Act.put, sa_, sz_, ss_, i64_w, i32_w]
      rfl
    refine pure_ (i := 22) (N := some 33) (v := undef) (a' := ?_) #[t_, t_, t_, t_, t_, t_, t_, t_, t_, t_, t_, t_, t_, t_, t_, t_, t_, t_, t_, t_, t_, t_, t_, f_] rfl rfl (by kernel_rfl) (fun _ _ _ h => h) (Or.inr ⟨by rfl, rfl⟩) ?_ ?_
    rotate_left
    · simp only [Act.put, sa_, sz_, ss_, i64_w, i32_w]
      rfl
    refine pure_ (i := 23) (N := some 34) (v := ?_) (a' := ?_) #[t_, t_, t_, t_, t_, t_, t_, t_, t_, t_, t_, t_, t_, t_, t_, t_, t_, t_, t_, t_, t_, t_, t_, t_] rfl rfl (by kernel_rfl) (fun _ _ _ h => h) (Or.inl ⟨by rfl, ?_⟩) ?_ ?_
    rotate_left
    · intro w'
      go_simp
      with_reducible rfl
    rotate_left
    · simp only [Act.put, sa_, sz_, ss_, i64_w, i32_w]
      rfl
    refine done_ (by kernel_rfl) ?_
    have hb := below_step HB_2.out (below_step (below_step hZ.out.drew hbq0) hbq1)
    clear hHeld hbq0 hbq1
    go_wp2_with fail
    refine (fixed_calls _ (HT.out _ hb)).mono ?_
    rintro e w4 ⟨rfl, hb4⟩
    go_wp2
    go_ret
    exact ⟨rfl, below_step hb hb4⟩
  replace hr0 := Decidable.not_not.1 hr0
  subst hr0
  rcases Decidable.em (0 < gs) with hg0 | hg0
  · have hgt : decide (0 < gs) = true := by simpa using hg0
    refine start_ (n := 24) (S := fun w' => w'.cell? ⟨w.heap.size, 0, none⟩ = some (.slice Aa k ca) ∧ w'.cell? ⟨w.heap.size + 1, 0, none⟩ = some (.slice Ab q cb) ∧ Below v2.heap.size v2 w') (ds := []) #[f_, f_, f_, f_, f_, f_, f_, f_, f_, f_, f_, f_, f_, f_, f_, f_, f_, f_, f_, f_, f_, f_, f_, f_] (by kernel_rfl) rfl rfl ⟨La_2, Lb_2, hZ.out.drew⟩ (fun hHeld => ?_)
    refine take_ (i := 0) (N := some 11) (v := ?_) (a' := ?_) #[t_, f_, f_, f_, f_, f_, f_, f_, f_, f_, f_, f_, f_, f_, f_, f_, f_, f_, f_, f_, f_, f_, f_, f_] rfl rfl (by kernel_rfl) (fun _ _ _ h => h) (Or.inl ⟨by rfl, ?_⟩) hHeld ?_ ?_
    rotate_left
    · rintro w' ⟨s0, s1, s2⟩
      go_simp
      with_reducible rfl
    rotate_left
    · simp only [Act.put, sa_, sz_, ss_, i64_w, i32_w]
      rfl
    refine one_ (i := 1) (N := some 12) #[t_, t_, f_, f_, f_, f_, f_, f_, f_, f_, f_, f_, f_, f_, f_, f_, f_, f_, f_, f_, f_, f_, f_, f_] rfl rfl (by kernel_rfl) (by decide) (fun K hK => ?_)
    refine goes_ Tryd.func7 (by kernel_rfl) rfl #[.agg #[.slice Aa k ca]] (by rfl) rfl rfl (by simp only [List.map_toArray, List.map_cons, List.map_nil]; rfl) ?_
    with_reducible refine (right_tree Aa ca La k 0 hna.out hk6.out hRA.out _ (HCa.out _ (below_step HB_2.out hHeld.2.2))).mono ?_
    rintro e x0 ⟨rfl, hbq0⟩
    refine ⟨_, rfl, ?_⟩
    refine hK.out _ _ ⟨(below_of hbq0 hHeld.1), (below_of hbq0 hHeld.2.1), (below_step hHeld.2.2 hbq0)⟩ (fun hHeld => ?_)
    clear hK K
    refine norm_ (a' := ?_) ?_ ?_
    rotate_left
    · show Act.put _ (some 12) _ = _
      simp only [Act.put, sa_, sz_, ss_, i64_w, i32_w]
      rfl
    refine pure_ (i := 2) (N := some 13) (v := ?_) (a' := ?_) #[t_, t_, t_, f_, f_, f_, f_, f_, f_, f_, f_, f_, f_, f_, f_, f_, f_, f_, f_, f_, f_, f_, f_, f_] rfl rfl (by kernel_rfl) (fun _ _ _ h => h) (Or.inl ⟨by rfl, ?_⟩) ?_ ?_
    rotate_left
    · intro w'
      go_simp
      with_reducible rfl
    rotate_left
    · simp only [Act.put, sa_, sz_, ss_, i64_w, i32_w]
      rfl
    refine pure_ (i := 3) (N := some 14) (v := ?_) (a' := ?_) #[t_, t_, t_, t_, f_, f_, f_, f_, f_, f_, f_, f_, f_, f_, f_, f_, f_, f_, f_, f_, f_, f_, f_, f_] rfl rfl (by kernel_rfl) (fun _ _ _ h => h) (Or.inl ⟨by rfl, ?_⟩) ?_ ?_
    rotate_left
    · intro w'
      go_simp
      with_reducible rfl
    rotate_left
    · simp only [Act.put, sa_, sz_, ss_, i64_w, i32_w]
      rfl
    refine take_ (i := 4) (N := some 15) (v := ?_) (a' := ?_) #[t_, t_, t_, t_, t_, f_, f_, f_, f_, f_, f_, f_, f_, f_, f_, f_, f_, f_, f_, f_, f_, f_, f_, f_] rfl rfl (by kernel_rfl) (fun _ _ _ h => h) (Or.inl ⟨by rfl, ?_⟩) hHeld ?_ ?_
    rotate_left
    · rintro w' ⟨s0, s1, s2⟩
      go_simp
      with_reducible rfl
    rotate_left
    · simp only [Act.put, sa_, sz_, ss_, i64_w, i32_w]
      rfl
    refine one_ (i := 5) (N := some 16) #[t_, t_, t_, t_, t_, t_, f_, f_, f_, f_, f_, f_, f_, f_, f_, f_, f_, f_, f_, f_, f_, f_, f_, f_] rfl rfl (by kernel_rfl) (by decide) (fun K hK => ?_)
    refine goes_ Tryd.func7 (by kernel_rfl) rfl #[.agg #[.slice Ab q cb]] (by rfl) rfl rfl (by simp only [List.map_toArray, List.map_cons, List.map_nil]; rfl) ?_
    with_reducible refine (right_tree Ab cb Lb q 0 hnb.out hq6.out hRB.out _ (HCb.out _ (below_step HB_2.out hHeld.2.2))).mono ?_
    rintro e x1 ⟨rfl, hbq1⟩
    refine ⟨_, rfl, ?_⟩
    refine hK.out _ _ ⟨(below_of hbq1 hHeld.1), (below_of hbq1 hHeld.2.1), (below_step hHeld.2.2 hbq1)⟩ (fun hHeld => ?_)
    clear hK K
    refine norm_ (a' := ?_) ?_ ?_
    rotate_left
    · show Act.put _ (some 16) _ = _
      simp only [Act.put, sa_, sz_, ss_, i64_w, i32_w]
      rfl
    refine pure_ (i := 6) (N := some 17) (v := ?_) (a' := ?_) #[t_, t_, t_, t_, t_, t_, t_, f_, f_, f_, f_, f_, f_, f_, f_, f_, f_, f_, f_, f_, f_, f_, f_, f_] rfl rfl (by kernel_rfl) (fun _ _ _ h => h) (Or.inl ⟨by rfl, ?_⟩) ?_ ?_
    rotate_left
    · intro w'
      go_simp
      with_reducible rfl
    rotate_left
    · simp only [Act.put, sa_, sz_, ss_, i64_w, i32_w]
      rfl
    refine pure_ (i := 7) (N := some 18) (v := ?_) (a' := ?_) #[t_, t_, t_, t_, t_, t_, t_, t_, f_, f_, f_, f_, f_, f_, f_, f_, f_, f_, f_, f_, f_, f_, f_, f_] rfl rfl (by kernel_rfl) (fun _ _ _ h => h) (Or.inl ⟨by rfl, ?_⟩) ?_ ?_
    rotate_left
    · intro w'
      go_simp
      with_reducible rfl
    rotate_left
    · simp only [Act.put, sa_, sz_, ss_, i64_w, i32_w]
      rfl
    refine pure_ (i := 8) (N := some 19) (v := ?_) (a' := ?_) #[t_, t_, t_, t_, t_, t_, t_, t_, t_, f_, f_, f_, f_, f_, f_, f_, f_, f_, f_, f_, f_, f_, f_, f_] rfl rfl (by kernel_rfl) (fun _ _ _ h => h) (Or.inl ⟨by rfl, ?_⟩) ?_ ?_
    rotate_left
    · intro w'
      go_simp
      with_reducible rfl
    rotate_left
    · simp only [Act.put, sa_, sz_, ss_, i64_w, i32_w]
      rfl
    refine take_ (i := 9) (N := some 20) (v := ?_) (a' := ?_) #[t_, t_, t_, t_, t_, t_, t_, t_, t_, t_, f_, f_, f_, f_, f_, f_, f_, f_, f_, f_, f_, f_, f_, f_] rfl rfl (by kernel_rfl) (fun _ _ _ h => h) (Or.inl ⟨by rfl, ?_⟩) hHeld ?_ ?_
    rotate_left
    · rintro w' ⟨s0, s1, s2⟩
      go_simp
      with_reducible rfl
    rotate_left
    · simp only [Act.put, sa_, sz_, ss_, i64_w, i32_w]
      rfl
    refine take_ (i := 11) (N := some 22) (v := ?_) (a' := ?_) #[t_, t_, t_, t_, t_, t_, t_, t_, t_, t_, f_, t_, f_, f_, f_, f_, f_, f_, f_, f_, f_, f_, f_, f_] rfl rfl (by kernel_rfl) (fun _ _ _ h => h) (Or.inl ⟨by rfl, ?_⟩) hHeld ?_ ?_
    rotate_left
    · rintro w' ⟨s0, s1, s2⟩
      go_simp
      with_reducible rfl
    rotate_left
    · simp only [Act.put, sa_, sz_, ss_, i64_w, i32_w]
      rfl
    refine one_ (i := 10) (N := some 21) #[t_, t_, t_, t_, t_, t_, t_, t_, t_, t_, t_, t_, f_, f_, f_, f_, f_, f_, f_, f_, f_, f_, f_, f_] rfl rfl (by kernel_rfl) (by decide) (fun K hK => ?_)
    refine goes_ Tryd.func9 (by kernel_rfl) rfl #[.agg #[.slice Aa k ca]] (by rfl) rfl rfl (by simp only [List.map_toArray, List.map_cons, List.map_nil]; rfl) ?_
    with_reducible refine (groups_tree Aa ca La k ga hna.out hk6.out HHa.out hga.out _ (HCa.out _ (below_step HB_2.out hHeld.2.2))).mono ?_
    rintro e x2 ⟨rfl, hbq2⟩
    refine ⟨_, rfl, ?_⟩
    refine hK.out _ _ ⟨(below_of hbq2 hHeld.1), (below_of hbq2 hHeld.2.1), (below_step hHeld.2.2 hbq2)⟩ (fun hHeld => ?_)
    clear hK K
    refine norm_ (a' := ?_) ?_ ?_
    rotate_left
    · show Act.put _ (some 21) _ = _
      simp only [Act.put, sa_, sz_, ss_, i64_w, i32_w]
      rfl
    refine one_ (i := 12) (N := some 23) #[t_, t_, t_, t_, t_, t_, t_, t_, t_, t_, t_, t_, t_, f_, f_, f_, f_, f_, f_, f_, f_, f_, f_, f_] rfl rfl (by kernel_rfl) (by decide) (fun K hK => ?_)
    refine goes_ Tryd.func9 (by kernel_rfl) rfl #[.agg #[.slice Ab q cb]] (by rfl) rfl rfl (by simp only [List.map_toArray, List.map_cons, List.map_nil]; rfl) ?_
    with_reducible refine (groups_tree Ab cb Lb q gb hnb.out hq6.out HHb.out hgb.out _ (HCb.out _ (below_step HB_2.out hHeld.2.2))).mono ?_
    rintro e w3 ⟨rfl, hbq3⟩
    refine ⟨_, rfl, ?_⟩
    refine hK.out _ _ ⟨(below_of hbq3 hHeld.1), (below_of hbq3 hHeld.2.1), (below_step hHeld.2.2 hbq3)⟩ (fun hHeld => ?_)
    clear hK K
    refine norm_ (a' := ?_) ?_ ?_
    rotate_left
    · show Act.put _ (some 23) _ = _
      simp only [Act.put, sa_, sz_, ss_, i64_w, i32_w]
      rfl
    refine pure_ (i := 13) (N := some 24) (v := ?_) (a' := ?_) #[t_, t_, t_, t_, t_, t_, t_, t_, t_, t_, t_, t_, t_, t_, f_, f_, f_, f_, f_, f_, f_, f_, f_, f_] rfl rfl (by kernel_rfl) (fun _ _ _ h => h) (Or.inl ⟨by rfl, ?_⟩) ?_ ?_
    rotate_left
    · intro w'
      go_simp
      with_reducible rfl
    rotate_left
    · simp only [Act.put, sa_, sz_, ss_, i64_w, i32_w]
      rfl
    refine pure_ (i := 14) (N := some 25) (v := ?_) (a' := ?_) #[t_, t_, t_, t_, t_, t_, t_, t_, t_, t_, t_, t_, t_, t_, t_, f_, f_, f_, f_, f_, f_, f_, f_, f_] rfl rfl (by kernel_rfl) (fun _ _ _ h => h) (Or.inl ⟨by rfl, ?_⟩) ?_ ?_
    rotate_left
    · intro w'
      go_simp
      with_reducible rfl
    rotate_left
    · simp only [Act.put, sa_, sz_, ss_, i64_w, i32_w]
      rfl
    refine pure_ (i := 15) (N := some 26) (v := ?_) (a' := ?_) #[t_, t_, t_, t_, t_, t_, t_, t_, t_, t_, t_, t_, t_, t_, t_, t_, f_, f_, f_, f_, f_, f_, f_, f_] rfl rfl (by kernel_rfl) (fun _ _ _ h => h) (Or.inl ⟨by rfl, ?_⟩) ?_ ?_
    rotate_left
    · intro w'
      go_simp
      with_reducible rfl
    rotate_left
    · simp only [Act.put, sa_, sz_, ss_, i64_w, i32_w]
      rfl
    refine pure_ (i := 16) (N := some 27) (v := ?_) (a' := ?_) #[t_, t_, t_, t_, t_, t_, t_, t_, t_, t_, t_, t_, t_, t_, t_, t_, t_, f_, f_, f_, f_, f_, f_, f_] rfl rfl (by kernel_rfl) (fun _ _ _ h => h) (Or.inl ⟨by rfl, ?_⟩) ?_ ?_
    rotate_left
    · intro w'
      go_simp
      with_reducible rfl
    rotate_left
    · simp only [Act.put, sa_, sz_, ss_, i64_w, i32_w]
      rfl
    refine pure_ (i := 17) (N := some 28) (v := undef) (a' := ?_) #[t_, t_, t_, t_, t_, t_, t_, t_, t_, t_, t_, t_, t_, t_, t_, t_, t_, t_, f_, f_, f_, f_, f_, f_] rfl rfl (by kernel_rfl) (fun _ _ _ h => h) (Or.inr ⟨by rfl, rfl⟩) ?_ ?_
    rotate_left
    · simp only [Act.put, sa_, sz_, ss_, i64_w, i32_w]
      rfl
    refine pure_ (i := 18) (N := some 29) (v := undef) (a' := ?_) #[t_, t_, t_, t_, t_, t_, t_, t_, t_, t_, t_, t_, t_, t_, t_, t_, t_, t_, t_, f_, f_, f_, f_, f_] rfl rfl (by kernel_rfl) (fun _ _ _ h => h) (Or.inr ⟨by rfl, rfl⟩) ?_ ?_
    rotate_left
    · simp only [Act.put, sa_, sz_, ss_, i64_w, i32_w]
      rfl
    refine pure_ (i := 19) (N := some 30) (v := undef) (a' := ?_) #[t_, t_, t_, t_, t_, t_, t_, t_, t_, t_, t_, t_, t_, t_, t_, t_, t_, t_, t_, t_, f_, f_, f_, f_] rfl rfl (by kernel_rfl) (fun _ _ _ h => h) (Or.inr ⟨by rfl, rfl⟩) ?_ ?_
    rotate_left
    · simp only [Act.put, sa_, sz_, ss_, i64_w, i32_w]
      rfl
    refine pure_ (i := 20) (N := some 31) (v := undef) (a' := ?_) #[t_, t_, t_, t_, t_, t_, t_, t_, t_, t_, t_, t_, t_, t_, t_, t_, t_, t_, t_, t_, t_, f_, f_, f_] rfl rfl (by kernel_rfl) (fun _ _ _ h => h) (Or.inr ⟨by rfl, rfl⟩) ?_ ?_
    rotate_left
    · simp only [Act.put, sa_, sz_, ss_, i64_w, i32_w]
      rfl
    refine pure_ (i := 21) (N := some 32) (v := undef) (a' := ?_) #[t_, t_, t_, t_, t_, t_, t_, t_, t_, t_, t_, t_, t_, t_, t_, t_, t_, t_, t_, t_, t_, t_, f_, f_] rfl rfl (by kernel_rfl) (fun _ _ _ h => h) (Or.inr ⟨by rfl, rfl⟩) ?_ ?_
    rotate_left
    · simp only [Act.put, sa_, sz_, ss_, i64_w, i32_w]
      rfl
    refine pure_ (i := 22) (N := some 33) (v := undef) (a' := ?_) #[t_, t_, t_, t_, t_, t_, t_, t_, t_, t_, t_, t_, t_, t_, t_, t_, t_, t_, t_, t_, t_, t_, t_, f_] rfl rfl (by kernel_rfl) (fun _ _ _ h => h) (Or.inr ⟨by rfl, rfl⟩) ?_ ?_
    rotate_left
    · simp only [Act.put, sa_, sz_, ss_, i64_w, i32_w]
      rfl
    refine pure_ (i := 23) (N := some 34) (v := ?_) (a' := ?_) #[t_, t_, t_, t_, t_, t_, t_, t_, t_, t_, t_, t_, t_, t_, t_, t_, t_, t_, t_, t_, t_, t_, t_, t_] rfl rfl (by kernel_rfl) (fun _ _ _ h => h) (Or.inl ⟨by rfl, ?_⟩) ?_ ?_
    rotate_left
    · intro w'
      go_simp
      with_reducible rfl
    rotate_left
    · simp only [Act.put, sa_, sz_, ss_, i64_w, i32_w]
      rfl
    refine done_ (by kernel_rfl) ?_
    have hb := below_step HB_2.out (below_step (below_step (below_step (below_step hZ.out.drew hbq0) hbq1) hbq2) hbq3)
    clear hHeld hbq0 hbq1 hbq2 hbq3
    go_wp2_with fail
    refine (fixed_calls _ (HT.out _ hb)).mono ?_
    rintro e w4 ⟨rfl, hb4⟩
    go_wp2
    go_ret
    exact ⟨rfl, below_step hb hb4⟩
  have hgt : decide (0 < gs) = false := by simpa using hg0
  rcases Decidable.em (40 ≤ z) with hz4 | hz4
  · have hzt : decide (40 ≤ z) = true := by simpa using hz4
    refine start_ (n := 24) (S := fun w' => w'.cell? ⟨w.heap.size, 0, none⟩ = some (.slice Aa k ca) ∧ w'.cell? ⟨w.heap.size + 1, 0, none⟩ = some (.slice Ab q cb) ∧ Below v2.heap.size v2 w') (ds := []) #[f_, f_, f_, f_, f_, f_, f_, f_, f_, f_, f_, f_, f_, f_, f_, f_, f_, f_, f_, f_, f_, f_, f_, f_] (by kernel_rfl) rfl rfl ⟨La_2, Lb_2, hZ.out.drew⟩ (fun hHeld => ?_)
    refine take_ (i := 0) (N := some 11) (v := ?_) (a' := ?_) #[t_, f_, f_, f_, f_, f_, f_, f_, f_, f_, f_, f_, f_, f_, f_, f_, f_, f_, f_, f_, f_, f_, f_, f_] rfl rfl (by kernel_rfl) (fun _ _ _ h => h) (Or.inl ⟨by rfl, ?_⟩) hHeld ?_ ?_
    rotate_left
    · rintro w' ⟨s0, s1, s2⟩
      go_simp
      with_reducible rfl
    rotate_left
    · simp only [Act.put, sa_, sz_, ss_, i64_w, i32_w]
      rfl
    refine one_ (i := 1) (N := some 12) #[t_, t_, f_, f_, f_, f_, f_, f_, f_, f_, f_, f_, f_, f_, f_, f_, f_, f_, f_, f_, f_, f_, f_, f_] rfl rfl (by kernel_rfl) (by decide) (fun K hK => ?_)
    refine goes_ Tryd.func7 (by kernel_rfl) rfl #[.agg #[.slice Aa k ca]] (by rfl) rfl rfl (by simp only [List.map_toArray, List.map_cons, List.map_nil]; rfl) ?_
    with_reducible refine (right_tree Aa ca La k 0 hna.out hk6.out hRA.out _ (HCa.out _ (below_step HB_2.out hHeld.2.2))).mono ?_
    rintro e x0 ⟨rfl, hbq0⟩
    refine ⟨_, rfl, ?_⟩
    refine hK.out _ _ ⟨(below_of hbq0 hHeld.1), (below_of hbq0 hHeld.2.1), (below_step hHeld.2.2 hbq0)⟩ (fun hHeld => ?_)
    clear hK K
    refine norm_ (a' := ?_) ?_ ?_
    rotate_left
    · show Act.put _ (some 12) _ = _
      simp only [Act.put, sa_, sz_, ss_, i64_w, i32_w]
      rfl
    refine pure_ (i := 2) (N := some 13) (v := ?_) (a' := ?_) #[t_, t_, t_, f_, f_, f_, f_, f_, f_, f_, f_, f_, f_, f_, f_, f_, f_, f_, f_, f_, f_, f_, f_, f_] rfl rfl (by kernel_rfl) (fun _ _ _ h => h) (Or.inl ⟨by rfl, ?_⟩) ?_ ?_
    rotate_left
    · intro w'
      go_simp
      with_reducible rfl
    rotate_left
    · simp only [Act.put, sa_, sz_, ss_, i64_w, i32_w]
      rfl
    refine pure_ (i := 3) (N := some 14) (v := ?_) (a' := ?_) #[t_, t_, t_, t_, f_, f_, f_, f_, f_, f_, f_, f_, f_, f_, f_, f_, f_, f_, f_, f_, f_, f_, f_, f_] rfl rfl (by kernel_rfl) (fun _ _ _ h => h) (Or.inl ⟨by rfl, ?_⟩) ?_ ?_
    rotate_left
    · intro w'
      go_simp
      with_reducible rfl
    rotate_left
    · simp only [Act.put, sa_, sz_, ss_, i64_w, i32_w]
      rfl
    refine take_ (i := 4) (N := some 15) (v := ?_) (a' := ?_) #[t_, t_, t_, t_, t_, f_, f_, f_, f_, f_, f_, f_, f_, f_, f_, f_, f_, f_, f_, f_, f_, f_, f_, f_] rfl rfl (by kernel_rfl) (fun _ _ _ h => h) (Or.inl ⟨by rfl, ?_⟩) hHeld ?_ ?_
    rotate_left
    · rintro w' ⟨s0, s1, s2⟩
      go_simp
      with_reducible rfl
    rotate_left
    · simp only [Act.put, sa_, sz_, ss_, i64_w, i32_w]
      rfl
    refine one_ (i := 5) (N := some 16) #[t_, t_, t_, t_, t_, t_, f_, f_, f_, f_, f_, f_, f_, f_, f_, f_, f_, f_, f_, f_, f_, f_, f_, f_] rfl rfl (by kernel_rfl) (by decide) (fun K hK => ?_)
    refine goes_ Tryd.func7 (by kernel_rfl) rfl #[.agg #[.slice Ab q cb]] (by rfl) rfl rfl (by simp only [List.map_toArray, List.map_cons, List.map_nil]; rfl) ?_
    with_reducible refine (right_tree Ab cb Lb q 0 hnb.out hq6.out hRB.out _ (HCb.out _ (below_step HB_2.out hHeld.2.2))).mono ?_
    rintro e x1 ⟨rfl, hbq1⟩
    refine ⟨_, rfl, ?_⟩
    refine hK.out _ _ ⟨(below_of hbq1 hHeld.1), (below_of hbq1 hHeld.2.1), (below_step hHeld.2.2 hbq1)⟩ (fun hHeld => ?_)
    clear hK K
    refine norm_ (a' := ?_) ?_ ?_
    rotate_left
    · show Act.put _ (some 16) _ = _
      simp only [Act.put, sa_, sz_, ss_, i64_w, i32_w]
      rfl
    refine pure_ (i := 6) (N := some 17) (v := ?_) (a' := ?_) #[t_, t_, t_, t_, t_, t_, t_, f_, f_, f_, f_, f_, f_, f_, f_, f_, f_, f_, f_, f_, f_, f_, f_, f_] rfl rfl (by kernel_rfl) (fun _ _ _ h => h) (Or.inl ⟨by rfl, ?_⟩) ?_ ?_
    rotate_left
    · intro w'
      go_simp
      with_reducible rfl
    rotate_left
    · simp only [Act.put, sa_, sz_, ss_, i64_w, i32_w]
      rfl
    refine pure_ (i := 7) (N := some 18) (v := ?_) (a' := ?_) #[t_, t_, t_, t_, t_, t_, t_, t_, f_, f_, f_, f_, f_, f_, f_, f_, f_, f_, f_, f_, f_, f_, f_, f_] rfl rfl (by kernel_rfl) (fun _ _ _ h => h) (Or.inl ⟨by rfl, ?_⟩) ?_ ?_
    rotate_left
    · intro w'
      go_simp
      with_reducible rfl
    rotate_left
    · simp only [Act.put, sa_, sz_, ss_, i64_w, i32_w]
      rfl
    refine pure_ (i := 8) (N := some 19) (v := ?_) (a' := ?_) #[t_, t_, t_, t_, t_, t_, t_, t_, t_, f_, f_, f_, f_, f_, f_, f_, f_, f_, f_, f_, f_, f_, f_, f_] rfl rfl (by kernel_rfl) (fun _ _ _ h => h) (Or.inl ⟨by rfl, ?_⟩) ?_ ?_
    rotate_left
    · intro w'
      go_simp
      with_reducible rfl
    rotate_left
    · simp only [Act.put, sa_, sz_, ss_, i64_w, i32_w]
      rfl
    refine take_ (i := 9) (N := some 20) (v := ?_) (a' := ?_) #[t_, t_, t_, t_, t_, t_, t_, t_, t_, t_, f_, f_, f_, f_, f_, f_, f_, f_, f_, f_, f_, f_, f_, f_] rfl rfl (by kernel_rfl) (fun _ _ _ h => h) (Or.inl ⟨by rfl, ?_⟩) hHeld ?_ ?_
    rotate_left
    · rintro w' ⟨s0, s1, s2⟩
      go_simp
      with_reducible rfl
    rotate_left
    · simp only [Act.put, sa_, sz_, ss_, i64_w, i32_w]
      rfl
    refine take_ (i := 11) (N := some 22) (v := ?_) (a' := ?_) #[t_, t_, t_, t_, t_, t_, t_, t_, t_, t_, f_, t_, f_, f_, f_, f_, f_, f_, f_, f_, f_, f_, f_, f_] rfl rfl (by kernel_rfl) (fun _ _ _ h => h) (Or.inl ⟨by rfl, ?_⟩) hHeld ?_ ?_
    rotate_left
    · rintro w' ⟨s0, s1, s2⟩
      go_simp
      with_reducible rfl
    rotate_left
    · simp only [Act.put, sa_, sz_, ss_, i64_w, i32_w]
      rfl
    refine one_ (i := 10) (N := some 21) #[t_, t_, t_, t_, t_, t_, t_, t_, t_, t_, t_, t_, f_, f_, f_, f_, f_, f_, f_, f_, f_, f_, f_, f_] rfl rfl (by kernel_rfl) (by decide) (fun K hK => ?_)
    refine goes_ Tryd.func9 (by kernel_rfl) rfl #[.agg #[.slice Aa k ca]] (by rfl) rfl rfl (by simp only [List.map_toArray, List.map_cons, List.map_nil]; rfl) ?_
    with_reducible refine (groups_tree Aa ca La k ga hna.out hk6.out HHa.out hga.out _ (HCa.out _ (below_step HB_2.out hHeld.2.2))).mono ?_
    rintro e x2 ⟨rfl, hbq2⟩
    refine ⟨_, rfl, ?_⟩
    refine hK.out _ _ ⟨(below_of hbq2 hHeld.1), (below_of hbq2 hHeld.2.1), (below_step hHeld.2.2 hbq2)⟩ (fun hHeld => ?_)
    clear hK K
    refine norm_ (a' := ?_) ?_ ?_
    rotate_left
    · show Act.put _ (some 21) _ = _
      simp only [Act.put, sa_, sz_, ss_, i64_w, i32_w]
      rfl
    refine one_ (i := 12) (N := some 23) #[t_, t_, t_, t_, t_, t_, t_, t_, t_, t_, t_, t_, t_, f_, f_, f_, f_, f_, f_, f_, f_, f_, f_, f_] rfl rfl (by kernel_rfl) (by decide) (fun K hK => ?_)
    refine goes_ Tryd.func9 (by kernel_rfl) rfl #[.agg #[.slice Ab q cb]] (by rfl) rfl rfl (by simp only [List.map_toArray, List.map_cons, List.map_nil]; rfl) ?_
    with_reducible refine (groups_tree Ab cb Lb q gb hnb.out hq6.out HHb.out hgb.out _ (HCb.out _ (below_step HB_2.out hHeld.2.2))).mono ?_
    rintro e x3 ⟨rfl, hbq3⟩
    refine ⟨_, rfl, ?_⟩
    refine hK.out _ _ ⟨(below_of hbq3 hHeld.1), (below_of hbq3 hHeld.2.1), (below_step hHeld.2.2 hbq3)⟩ (fun hHeld => ?_)
    clear hK K
    refine norm_ (a' := ?_) ?_ ?_
    rotate_left
    · show Act.put _ (some 23) _ = _
      simp only [Act.put, sa_, sz_, ss_, i64_w, i32_w]
      rfl
    refine pure_ (i := 13) (N := some 24) (v := ?_) (a' := ?_) #[t_, t_, t_, t_, t_, t_, t_, t_, t_, t_, t_, t_, t_, t_, f_, f_, f_, f_, f_, f_, f_, f_, f_, f_] rfl rfl (by kernel_rfl) (fun _ _ _ h => h) (Or.inl ⟨by rfl, ?_⟩) ?_ ?_
    rotate_left
    · intro w'
      go_simp
      with_reducible rfl
    rotate_left
    · simp only [Act.put, sa_, sz_, ss_, i64_w, i32_w]
      rfl
    refine pure_ (i := 14) (N := some 25) (v := ?_) (a' := ?_) #[t_, t_, t_, t_, t_, t_, t_, t_, t_, t_, t_, t_, t_, t_, t_, f_, f_, f_, f_, f_, f_, f_, f_, f_] rfl rfl (by kernel_rfl) (fun _ _ _ h => h) (Or.inl ⟨by rfl, ?_⟩) ?_ ?_
    rotate_left
    · intro w'
      go_simp
      with_reducible rfl
    rotate_left
    · simp only [Act.put, sa_, sz_, ss_, i64_w, i32_w]
      rfl
    refine pure_ (i := 15) (N := some 26) (v := ?_) (a' := ?_) #[t_, t_, t_, t_, t_, t_, t_, t_, t_, t_, t_, t_, t_, t_, t_, t_, f_, f_, f_, f_, f_, f_, f_, f_] rfl rfl (by kernel_rfl) (fun _ _ _ h => h) (Or.inl ⟨by rfl, ?_⟩) ?_ ?_
    rotate_left
    · intro w'
      go_simp
      with_reducible rfl
    rotate_left
    · simp only [Act.put, sa_, sz_, ss_, i64_w, i32_w]
      rfl
    refine pure_ (i := 16) (N := some 27) (v := ?_) (a' := ?_) #[t_, t_, t_, t_, t_, t_, t_, t_, t_, t_, t_, t_, t_, t_, t_, t_, t_, f_, f_, f_, f_, f_, f_, f_] rfl rfl (by kernel_rfl) (fun _ _ _ h => h) (Or.inl ⟨by rfl, ?_⟩) ?_ ?_
    rotate_left
    · intro w'
      go_simp
      with_reducible rfl
    rotate_left
    · simp only [Act.put, sa_, sz_, ss_, i64_w, i32_w]
      rfl
    refine take_ (i := 17) (N := some 28) (v := ?_) (a' := ?_) #[t_, t_, t_, t_, t_, t_, t_, t_, t_, t_, t_, t_, t_, t_, t_, t_, t_, t_, f_, f_, f_, f_, f_, f_] rfl rfl (by kernel_rfl) (fun _ _ _ h => h) (Or.inl ⟨by rfl, ?_⟩) hHeld ?_ ?_
    rotate_left
    · rintro w' ⟨s0, s1, s2⟩
      go_simp
      with_reducible rfl
    rotate_left
    · simp only [Act.put, sa_, sz_, ss_, i64_w, i32_w]
      rfl
    refine take_ (i := 19) (N := some 30) (v := ?_) (a' := ?_) #[t_, t_, t_, t_, t_, t_, t_, t_, t_, t_, t_, t_, t_, t_, t_, t_, t_, t_, f_, t_, f_, f_, f_, f_] rfl rfl (by kernel_rfl) (fun _ _ _ h => h) (Or.inl ⟨by rfl, ?_⟩) hHeld ?_ ?_
    rotate_left
    · rintro w' ⟨s0, s1, s2⟩
      go_simp
      with_reducible rfl
    rotate_left
    · simp only [Act.put, sa_, sz_, ss_, i64_w, i32_w]
      rfl
    refine one_ (i := 18) (N := some 29) #[t_, t_, t_, t_, t_, t_, t_, t_, t_, t_, t_, t_, t_, t_, t_, t_, t_, t_, t_, t_, f_, f_, f_, f_] rfl rfl (by kernel_rfl) (by decide) (fun K hK => ?_)
    refine goes_ Tryd.func10 (by kernel_rfl) rfl #[.agg #[.slice Aa k ca]] (by rfl) rfl rfl (by simp only [List.map_toArray, List.map_cons, List.map_nil]; rfl) ?_
    with_reducible refine (deep_tree Aa ca La k x hna.out hk6.out HX.out _ (HCa.out _ (below_step HB_2.out hHeld.2.2))).mono ?_
    rintro e x4 ⟨rfl, hbq4⟩
    refine ⟨_, rfl, ?_⟩
    refine hK.out _ _ ⟨(below_of hbq4 hHeld.1), (below_of hbq4 hHeld.2.1), (below_step hHeld.2.2 hbq4)⟩ (fun hHeld => ?_)
    clear hK K
    refine norm_ (a' := ?_) ?_ ?_
    rotate_left
    · show Act.put _ (some 29) _ = _
      simp only [Act.put, sa_, sz_, ss_, i64_w, i32_w]
      rfl
    refine one_ (i := 20) (N := some 31) #[t_, t_, t_, t_, t_, t_, t_, t_, t_, t_, t_, t_, t_, t_, t_, t_, t_, t_, t_, t_, t_, f_, f_, f_] rfl rfl (by kernel_rfl) (by decide) (fun K hK => ?_)
    refine goes_ Tryd.func10 (by kernel_rfl) rfl #[.agg #[.slice Ab q cb]] (by rfl) rfl rfl (by simp only [List.map_toArray, List.map_cons, List.map_nil]; rfl) ?_
    with_reducible refine (deep_tree Ab cb Lb q y hnb.out hq6.out HY.out _ (HCb.out _ (below_step HB_2.out hHeld.2.2))).mono ?_
    rintro e w3 ⟨rfl, hbq5⟩
    refine ⟨_, rfl, ?_⟩
    refine hK.out _ _ ⟨(below_of hbq5 hHeld.1), (below_of hbq5 hHeld.2.1), (below_step hHeld.2.2 hbq5)⟩ (fun hHeld => ?_)
    clear hK K
    refine norm_ (a' := ?_) ?_ ?_
    rotate_left
    · show Act.put _ (some 31) _ = _
      simp only [Act.put, sa_, sz_, ss_, i64_w, i32_w]
      rfl
    refine pure_ (i := 21) (N := some 32) (v := ?_) (a' := ?_) #[t_, t_, t_, t_, t_, t_, t_, t_, t_, t_, t_, t_, t_, t_, t_, t_, t_, t_, t_, t_, t_, t_, f_, f_] rfl rfl (by kernel_rfl) (fun _ _ _ h => h) (Or.inl ⟨by rfl, ?_⟩) ?_ ?_
    rotate_left
    · intro w'
      go_simp
      with_reducible rfl
    rotate_left
    · simp only [Act.put, sa_, sz_, ss_, i64_w, i32_w]
      rfl
    refine pure_ (i := 22) (N := some 33) (v := ?_) (a' := ?_) #[t_, t_, t_, t_, t_, t_, t_, t_, t_, t_, t_, t_, t_, t_, t_, t_, t_, t_, t_, t_, t_, t_, t_, f_] rfl rfl (by kernel_rfl) (fun _ _ _ h => h) (Or.inl ⟨by rfl, ?_⟩) ?_ ?_
    rotate_left
    · intro w'
      go_simp
      with_reducible rfl
    rotate_left
    · simp only [Act.put, sa_, sz_, ss_, i64_w, i32_w]
      rfl
    refine pure_ (i := 23) (N := some 34) (v := ?_) (a' := ?_) #[t_, t_, t_, t_, t_, t_, t_, t_, t_, t_, t_, t_, t_, t_, t_, t_, t_, t_, t_, t_, t_, t_, t_, t_] rfl rfl (by kernel_rfl) (fun _ _ _ h => h) (Or.inl ⟨by rfl, ?_⟩) ?_ ?_
    rotate_left
    · intro w'
      go_simp
      with_reducible rfl
    rotate_left
    · simp only [Act.put, sa_, sz_, ss_, i64_w, i32_w]
      rfl
    refine done_ (by kernel_rfl) ?_
    have hb := below_step HB_2.out (below_step (below_step (below_step (below_step (below_step (below_step hZ.out.drew hbq0) hbq1) hbq2) hbq3) hbq4) hbq5)
    clear hHeld hbq0 hbq1 hbq2 hbq3 hbq4 hbq5
    go_wp2_with fail
    refine (fixed_calls _ (HT.out _ hb)).mono ?_
    rintro e w4 ⟨rfl, hb4⟩
    go_wp2
    go_ret
    exact ⟨rfl, below_step hb hb4⟩
  have hzt : decide (40 ≤ z) = false := by simpa using hz4
  refine start_ (n := 24) (S := fun w' => w'.cell? ⟨w.heap.size, 0, none⟩ = some (.slice Aa k ca) ∧ w'.cell? ⟨w.heap.size + 1, 0, none⟩ = some (.slice Ab q cb) ∧ Below v2.heap.size v2 w') (ds := []) #[f_, f_, f_, f_, f_, f_, f_, f_, f_, f_, f_, f_, f_, f_, f_, f_, f_, f_, f_, f_, f_, f_, f_, f_] (by kernel_rfl) rfl rfl ⟨La_2, Lb_2, hZ.out.drew⟩ (fun hHeld => ?_)
  refine take_ (i := 0) (N := some 11) (v := ?_) (a' := ?_) #[t_, f_, f_, f_, f_, f_, f_, f_, f_, f_, f_, f_, f_, f_, f_, f_, f_, f_, f_, f_, f_, f_, f_, f_] rfl rfl (by kernel_rfl) (fun _ _ _ h => h) (Or.inl ⟨by rfl, ?_⟩) hHeld ?_ ?_
  rotate_left
  · rintro w' ⟨s0, s1, s2⟩
    go_simp
    with_reducible rfl
  rotate_left
  · simp only [Act.put, sa_, sz_, ss_, i64_w, i32_w]
    rfl
  refine one_ (i := 1) (N := some 12) #[t_, t_, f_, f_, f_, f_, f_, f_, f_, f_, f_, f_, f_, f_, f_, f_, f_, f_, f_, f_, f_, f_, f_, f_] rfl rfl (by kernel_rfl) (by decide) (fun K hK => ?_)
  refine goes_ Tryd.func7 (by kernel_rfl) rfl #[.agg #[.slice Aa k ca]] (by rfl) rfl rfl (by simp only [List.map_toArray, List.map_cons, List.map_nil]; rfl) ?_
  with_reducible refine (right_tree Aa ca La k 0 hna.out hk6.out hRA.out _ (HCa.out _ (below_step HB_2.out hHeld.2.2))).mono ?_
  rintro e x0 ⟨rfl, hbq0⟩
  refine ⟨_, rfl, ?_⟩
  refine hK.out _ _ ⟨(below_of hbq0 hHeld.1), (below_of hbq0 hHeld.2.1), (below_step hHeld.2.2 hbq0)⟩ (fun hHeld => ?_)
  clear hK K
  refine norm_ (a' := ?_) ?_ ?_
  rotate_left
  · show Act.put _ (some 12) _ = _
    simp only [Act.put, sa_, sz_, ss_, i64_w, i32_w]
    rfl
  refine pure_ (i := 2) (N := some 13) (v := ?_) (a' := ?_) #[t_, t_, t_, f_, f_, f_, f_, f_, f_, f_, f_, f_, f_, f_, f_, f_, f_, f_, f_, f_, f_, f_, f_, f_] rfl rfl (by kernel_rfl) (fun _ _ _ h => h) (Or.inl ⟨by rfl, ?_⟩) ?_ ?_
  rotate_left
  · intro w'
    go_simp
    with_reducible rfl
  rotate_left
  · simp only [Act.put, sa_, sz_, ss_, i64_w, i32_w]
    rfl
  refine pure_ (i := 3) (N := some 14) (v := ?_) (a' := ?_) #[t_, t_, t_, t_, f_, f_, f_, f_, f_, f_, f_, f_, f_, f_, f_, f_, f_, f_, f_, f_, f_, f_, f_, f_] rfl rfl (by kernel_rfl) (fun _ _ _ h => h) (Or.inl ⟨by rfl, ?_⟩) ?_ ?_
  rotate_left
  · intro w'
    go_simp
    with_reducible rfl
  rotate_left
  · simp only [Act.put, sa_, sz_, ss_, i64_w, i32_w]
    rfl
  refine take_ (i := 4) (N := some 15) (v := ?_) (a' := ?_) #[t_, t_, t_, t_, t_, f_, f_, f_, f_, f_, f_, f_, f_, f_, f_, f_, f_, f_, f_, f_, f_, f_, f_, f_] rfl rfl (by kernel_rfl) (fun _ _ _ h => h) (Or.inl ⟨by rfl, ?_⟩) hHeld ?_ ?_
  rotate_left
  · rintro w' ⟨s0, s1, s2⟩
    go_simp
    with_reducible rfl
  rotate_left
  · simp only [Act.put, sa_, sz_, ss_, i64_w, i32_w]
    rfl
  refine one_ (i := 5) (N := some 16) #[t_, t_, t_, t_, t_, t_, f_, f_, f_, f_, f_, f_, f_, f_, f_, f_, f_, f_, f_, f_, f_, f_, f_, f_] rfl rfl (by kernel_rfl) (by decide) (fun K hK => ?_)
  refine goes_ Tryd.func7 (by kernel_rfl) rfl #[.agg #[.slice Ab q cb]] (by rfl) rfl rfl (by simp only [List.map_toArray, List.map_cons, List.map_nil]; rfl) ?_
  with_reducible refine (right_tree Ab cb Lb q 0 hnb.out hq6.out hRB.out _ (HCb.out _ (below_step HB_2.out hHeld.2.2))).mono ?_
  rintro e x1 ⟨rfl, hbq1⟩
  refine ⟨_, rfl, ?_⟩
  refine hK.out _ _ ⟨(below_of hbq1 hHeld.1), (below_of hbq1 hHeld.2.1), (below_step hHeld.2.2 hbq1)⟩ (fun hHeld => ?_)
  clear hK K
  refine norm_ (a' := ?_) ?_ ?_
  rotate_left
  · show Act.put _ (some 16) _ = _
    simp only [Act.put, sa_, sz_, ss_, i64_w, i32_w]
    rfl
  refine pure_ (i := 6) (N := some 17) (v := ?_) (a' := ?_) #[t_, t_, t_, t_, t_, t_, t_, f_, f_, f_, f_, f_, f_, f_, f_, f_, f_, f_, f_, f_, f_, f_, f_, f_] rfl rfl (by kernel_rfl) (fun _ _ _ h => h) (Or.inl ⟨by rfl, ?_⟩) ?_ ?_
  rotate_left
  · intro w'
    go_simp
    with_reducible rfl
  rotate_left
  · simp only [Act.put, sa_, sz_, ss_, i64_w, i32_w]
    rfl
  refine pure_ (i := 7) (N := some 18) (v := ?_) (a' := ?_) #[t_, t_, t_, t_, t_, t_, t_, t_, f_, f_, f_, f_, f_, f_, f_, f_, f_, f_, f_, f_, f_, f_, f_, f_] rfl rfl (by kernel_rfl) (fun _ _ _ h => h) (Or.inl ⟨by rfl, ?_⟩) ?_ ?_
  rotate_left
  · intro w'
    go_simp
    with_reducible rfl
  rotate_left
  · simp only [Act.put, sa_, sz_, ss_, i64_w, i32_w]
    rfl
  refine pure_ (i := 8) (N := some 19) (v := ?_) (a' := ?_) #[t_, t_, t_, t_, t_, t_, t_, t_, t_, f_, f_, f_, f_, f_, f_, f_, f_, f_, f_, f_, f_, f_, f_, f_] rfl rfl (by kernel_rfl) (fun _ _ _ h => h) (Or.inl ⟨by rfl, ?_⟩) ?_ ?_
  rotate_left
  · intro w'
    go_simp
    with_reducible rfl
  rotate_left
  · simp only [Act.put, sa_, sz_, ss_, i64_w, i32_w]
    rfl
  refine take_ (i := 9) (N := some 20) (v := ?_) (a' := ?_) #[t_, t_, t_, t_, t_, t_, t_, t_, t_, t_, f_, f_, f_, f_, f_, f_, f_, f_, f_, f_, f_, f_, f_, f_] rfl rfl (by kernel_rfl) (fun _ _ _ h => h) (Or.inl ⟨by rfl, ?_⟩) hHeld ?_ ?_
  rotate_left
  · rintro w' ⟨s0, s1, s2⟩
    go_simp
    with_reducible rfl
  rotate_left
  · simp only [Act.put, sa_, sz_, ss_, i64_w, i32_w]
    rfl
  refine take_ (i := 11) (N := some 22) (v := ?_) (a' := ?_) #[t_, t_, t_, t_, t_, t_, t_, t_, t_, t_, f_, t_, f_, f_, f_, f_, f_, f_, f_, f_, f_, f_, f_, f_] rfl rfl (by kernel_rfl) (fun _ _ _ h => h) (Or.inl ⟨by rfl, ?_⟩) hHeld ?_ ?_
  rotate_left
  · rintro w' ⟨s0, s1, s2⟩
    go_simp
    with_reducible rfl
  rotate_left
  · simp only [Act.put, sa_, sz_, ss_, i64_w, i32_w]
    rfl
  refine one_ (i := 10) (N := some 21) #[t_, t_, t_, t_, t_, t_, t_, t_, t_, t_, t_, t_, f_, f_, f_, f_, f_, f_, f_, f_, f_, f_, f_, f_] rfl rfl (by kernel_rfl) (by decide) (fun K hK => ?_)
  refine goes_ Tryd.func9 (by kernel_rfl) rfl #[.agg #[.slice Aa k ca]] (by rfl) rfl rfl (by simp only [List.map_toArray, List.map_cons, List.map_nil]; rfl) ?_
  with_reducible refine (groups_tree Aa ca La k ga hna.out hk6.out HHa.out hga.out _ (HCa.out _ (below_step HB_2.out hHeld.2.2))).mono ?_
  rintro e x2 ⟨rfl, hbq2⟩
  refine ⟨_, rfl, ?_⟩
  refine hK.out _ _ ⟨(below_of hbq2 hHeld.1), (below_of hbq2 hHeld.2.1), (below_step hHeld.2.2 hbq2)⟩ (fun hHeld => ?_)
  clear hK K
  refine norm_ (a' := ?_) ?_ ?_
  rotate_left
  · show Act.put _ (some 21) _ = _
    simp only [Act.put, sa_, sz_, ss_, i64_w, i32_w]
    rfl
  refine one_ (i := 12) (N := some 23) #[t_, t_, t_, t_, t_, t_, t_, t_, t_, t_, t_, t_, t_, f_, f_, f_, f_, f_, f_, f_, f_, f_, f_, f_] rfl rfl (by kernel_rfl) (by decide) (fun K hK => ?_)
  refine goes_ Tryd.func9 (by kernel_rfl) rfl #[.agg #[.slice Ab q cb]] (by rfl) rfl rfl (by simp only [List.map_toArray, List.map_cons, List.map_nil]; rfl) ?_
  with_reducible refine (groups_tree Ab cb Lb q gb hnb.out hq6.out HHb.out hgb.out _ (HCb.out _ (below_step HB_2.out hHeld.2.2))).mono ?_
  rintro e x3 ⟨rfl, hbq3⟩
  refine ⟨_, rfl, ?_⟩
  refine hK.out _ _ ⟨(below_of hbq3 hHeld.1), (below_of hbq3 hHeld.2.1), (below_step hHeld.2.2 hbq3)⟩ (fun hHeld => ?_)
  clear hK K
  refine norm_ (a' := ?_) ?_ ?_
  rotate_left
  · show Act.put _ (some 23) _ = _
    simp only [Act.put, sa_, sz_, ss_, i64_w, i32_w]
    rfl
  refine pure_ (i := 13) (N := some 24) (v := ?_) (a' := ?_) #[t_, t_, t_, t_, t_, t_, t_, t_, t_, t_, t_, t_, t_, t_, f_, f_, f_, f_, f_, f_, f_, f_, f_, f_] rfl rfl (by kernel_rfl) (fun _ _ _ h => h) (Or.inl ⟨by rfl, ?_⟩) ?_ ?_
  rotate_left
  · intro w'
    go_simp
    with_reducible rfl
  rotate_left
  · simp only [Act.put, sa_, sz_, ss_, i64_w, i32_w]
    rfl
  refine pure_ (i := 14) (N := some 25) (v := ?_) (a' := ?_) #[t_, t_, t_, t_, t_, t_, t_, t_, t_, t_, t_, t_, t_, t_, t_, f_, f_, f_, f_, f_, f_, f_, f_, f_] rfl rfl (by kernel_rfl) (fun _ _ _ h => h) (Or.inl ⟨by rfl, ?_⟩) ?_ ?_
  rotate_left
  · intro w'
    go_simp
    with_reducible rfl
  rotate_left
  · simp only [Act.put, sa_, sz_, ss_, i64_w, i32_w]
    rfl
  refine pure_ (i := 15) (N := some 26) (v := ?_) (a' := ?_) #[t_, t_, t_, t_, t_, t_, t_, t_, t_, t_, t_, t_, t_, t_, t_, t_, f_, f_, f_, f_, f_, f_, f_, f_] rfl rfl (by kernel_rfl) (fun _ _ _ h => h) (Or.inl ⟨by rfl, ?_⟩) ?_ ?_
  rotate_left
  · intro w'
    go_simp
    with_reducible rfl
  rotate_left
  · simp only [Act.put, sa_, sz_, ss_, i64_w, i32_w]
    rfl
  refine pure_ (i := 16) (N := some 27) (v := ?_) (a' := ?_) #[t_, t_, t_, t_, t_, t_, t_, t_, t_, t_, t_, t_, t_, t_, t_, t_, t_, f_, f_, f_, f_, f_, f_, f_] rfl rfl (by kernel_rfl) (fun _ _ _ h => h) (Or.inl ⟨by rfl, ?_⟩) ?_ ?_
  rotate_left
  · intro w'
    go_simp
    with_reducible rfl
  rotate_left
  · simp only [Act.put, sa_, sz_, ss_, i64_w, i32_w]
    rfl
  refine take_ (i := 17) (N := some 28) (v := ?_) (a' := ?_) #[t_, t_, t_, t_, t_, t_, t_, t_, t_, t_, t_, t_, t_, t_, t_, t_, t_, t_, f_, f_, f_, f_, f_, f_] rfl rfl (by kernel_rfl) (fun _ _ _ h => h) (Or.inl ⟨by rfl, ?_⟩) hHeld ?_ ?_
  rotate_left
  · rintro w' ⟨s0, s1, s2⟩
    go_simp
    with_reducible rfl
  rotate_left
  · simp only [Act.put, sa_, sz_, ss_, i64_w, i32_w]
    rfl
  refine take_ (i := 19) (N := some 30) (v := ?_) (a' := ?_) #[t_, t_, t_, t_, t_, t_, t_, t_, t_, t_, t_, t_, t_, t_, t_, t_, t_, t_, f_, t_, f_, f_, f_, f_] rfl rfl (by kernel_rfl) (fun _ _ _ h => h) (Or.inl ⟨by rfl, ?_⟩) hHeld ?_ ?_
  rotate_left
  · rintro w' ⟨s0, s1, s2⟩
    go_simp
    with_reducible rfl
  rotate_left
  · simp only [Act.put, sa_, sz_, ss_, i64_w, i32_w]
    rfl
  refine one_ (i := 18) (N := some 29) #[t_, t_, t_, t_, t_, t_, t_, t_, t_, t_, t_, t_, t_, t_, t_, t_, t_, t_, t_, t_, f_, f_, f_, f_] rfl rfl (by kernel_rfl) (by decide) (fun K hK => ?_)
  refine goes_ Tryd.func10 (by kernel_rfl) rfl #[.agg #[.slice Aa k ca]] (by rfl) rfl rfl (by simp only [List.map_toArray, List.map_cons, List.map_nil]; rfl) ?_
  with_reducible refine (deep_tree Aa ca La k x hna.out hk6.out HX.out _ (HCa.out _ (below_step HB_2.out hHeld.2.2))).mono ?_
  rintro e x4 ⟨rfl, hbq4⟩
  refine ⟨_, rfl, ?_⟩
  refine hK.out _ _ ⟨(below_of hbq4 hHeld.1), (below_of hbq4 hHeld.2.1), (below_step hHeld.2.2 hbq4)⟩ (fun hHeld => ?_)
  clear hK K
  refine norm_ (a' := ?_) ?_ ?_
  rotate_left
  · show Act.put _ (some 29) _ = _
    simp only [Act.put, sa_, sz_, ss_, i64_w, i32_w]
    rfl
  refine one_ (i := 20) (N := some 31) #[t_, t_, t_, t_, t_, t_, t_, t_, t_, t_, t_, t_, t_, t_, t_, t_, t_, t_, t_, t_, t_, f_, f_, f_] rfl rfl (by kernel_rfl) (by decide) (fun K hK => ?_)
  refine goes_ Tryd.func10 (by kernel_rfl) rfl #[.agg #[.slice Ab q cb]] (by rfl) rfl rfl (by simp only [List.map_toArray, List.map_cons, List.map_nil]; rfl) ?_
  with_reducible refine (deep_tree Ab cb Lb q y hnb.out hq6.out HY.out _ (HCb.out _ (below_step HB_2.out hHeld.2.2))).mono ?_
  rintro e w3 ⟨rfl, hbq5⟩
  refine ⟨_, rfl, ?_⟩
  refine hK.out _ _ ⟨(below_of hbq5 hHeld.1), (below_of hbq5 hHeld.2.1), (below_step hHeld.2.2 hbq5)⟩ (fun hHeld => ?_)
  clear hK K
  refine norm_ (a' := ?_) ?_ ?_
  rotate_left
  · show Act.put _ (some 31) _ = _
    simp only [Act.put, sa_, sz_, ss_, i64_w, i32_w]
    rfl
  refine pure_ (i := 21) (N := some 32) (v := ?_) (a' := ?_) #[t_, t_, t_, t_, t_, t_, t_, t_, t_, t_, t_, t_, t_, t_, t_, t_, t_, t_, t_, t_, t_, t_, f_, f_] rfl rfl (by kernel_rfl) (fun _ _ _ h => h) (Or.inl ⟨by rfl, ?_⟩) ?_ ?_
  rotate_left
  · intro w'
    go_simp
    with_reducible rfl
  rotate_left
  · simp only [Act.put, sa_, sz_, ss_, i64_w, i32_w]
    rfl
  refine pure_ (i := 22) (N := some 33) (v := ?_) (a' := ?_) #[t_, t_, t_, t_, t_, t_, t_, t_, t_, t_, t_, t_, t_, t_, t_, t_, t_, t_, t_, t_, t_, t_, t_, f_] rfl rfl (by kernel_rfl) (fun _ _ _ h => h) (Or.inl ⟨by rfl, ?_⟩) ?_ ?_
  rotate_left
  · intro w'
    go_simp
    with_reducible rfl
  rotate_left
  · simp only [Act.put, sa_, sz_, ss_, i64_w, i32_w]
    rfl
  refine pure_ (i := 23) (N := some 34) (v := ?_) (a' := ?_) #[t_, t_, t_, t_, t_, t_, t_, t_, t_, t_, t_, t_, t_, t_, t_, t_, t_, t_, t_, t_, t_, t_, t_, t_] rfl rfl (by kernel_rfl) (fun _ _ _ h => h) (Or.inl ⟨by rfl, ?_⟩) ?_ ?_
  rotate_left
  · intro w'
    go_simp
    with_reducible rfl
  rotate_left
  · simp only [Act.put, sa_, sz_, ss_, i64_w, i32_w]
    rfl
  refine done_ (by kernel_rfl) ?_
  have hb := (below_step (below_step (below_step (below_step (below_step (below_step hZ.out.drew hbq0) hbq1) hbq2) hbq3) hbq4) hbq5)
  clear hHeld hZ hbq0 hbq1 hbq2 hbq3 hbq4 hbq5
  have Ba_3 := Lib.hid (below_blk hb Ba_2.out)
  have La_3 := blk_cell Ba_3.out 0 (.slice Aa k ca) rfl
  have Bb_3 := Lib.hid (below_blk hb Bb_2.out)
  have Lb_3 := blk_cell Bb_3.out 0 (.slice Ab q cb) rfl
  have HB_3 := Lib.hid (below_step HB_2.out hb)
  clear hb HB_2 Ba_2 La_2 Bb_2 Lb_2
  go_wp2_with fail
  have hg8 : Hid (¬ 0 < grn La + grn Lb) := Lib.hid (by rw [hga.out, hgb.out, hgs.out]; omega)
  have hz8 : Hid (¬ 40 ≤ max x y) := Lib.hid (by omega)
  clear hg0 hz4 hgt hzt hz1 hz2 hg1
  have hZ := Lib.hid (Below.refl w3.heap.size w3)
  refine start_ (n := 6) (S := fun w' => w'.cell? ⟨w.heap.size, 0, none⟩ = some (.slice Aa k ca) ∧ w'.cell? ⟨w.heap.size + 1, 0, none⟩ = some (.slice Ab q cb) ∧ Below w3.heap.size w3 w') (ds := []) #[f_, f_, f_, f_, f_, f_] (by kernel_rfl) rfl rfl ⟨La_3, Lb_3, hZ.out.drew⟩ (fun hHeld => ?_)
  refine take_ (i := 0) (N := some 36) (v := ?_) (a' := ?_) #[t_, f_, f_, f_, f_, f_] rfl rfl (by kernel_rfl) (fun _ _ _ h => h) (Or.inl ⟨by rfl, ?_⟩) hHeld ?_ ?_
  rotate_left
  · rintro w' ⟨s0, s1, s2⟩
    go_simp
    with_reducible rfl
  rotate_left
  · simp only [Act.put, sa_, sz_, ss_, i64_w, i32_w]
    rfl
  refine take_ (i := 2) (N := some 38) (v := ?_) (a' := ?_) #[t_, f_, t_, f_, f_, f_] rfl rfl (by kernel_rfl) (fun _ _ _ h => h) (Or.inl ⟨by rfl, ?_⟩) hHeld ?_ ?_
  rotate_left
  · rintro w' ⟨s0, s1, s2⟩
    go_simp
    with_reducible rfl
  rotate_left
  · simp only [Act.put, sa_, sz_, ss_, i64_w, i32_w]
    rfl
  refine one_ (i := 1) (N := some 37) #[t_, t_, t_, f_, f_, f_] rfl rfl (by kernel_rfl) (by decide) (fun K hK => ?_)
  refine goes_ Tryd.func6 (by kernel_rfl) rfl #[.agg #[.slice Aa k ca]] (by rfl) rfl rfl (by simp only [List.map_toArray, List.map_cons, List.map_nil]; rfl) ?_
  with_reducible refine (tree_calls La k Aa ca hna.out hk6.out HOA.out sa HSA.out _ (HCa.out _ (below_step HB_3.out hHeld.2.2)) (HT.out _ (below_step HB_3.out hHeld.2.2))).mono ?_
  rintro e x0 ⟨rfl, hbq0⟩
  refine ⟨_, rfl, ?_⟩
  refine hK.out _ _ ⟨(below_of hbq0 hHeld.1), (below_of hbq0 hHeld.2.1), (below_step hHeld.2.2 hbq0)⟩ (fun hHeld => ?_)
  clear hK K
  refine norm_ (a' := ?_) ?_ ?_
  rotate_left
  · show Act.put _ (some 37) _ = _
    simp only [Act.put, sa_, sz_, ss_, i64_w, i32_w]
    rfl
  refine one_ (i := 3) (N := some 39) #[t_, t_, t_, t_, f_, f_] rfl rfl (by kernel_rfl) (by decide) (fun K hK => ?_)
  refine goes_ Tryd.func6 (by kernel_rfl) rfl #[.agg #[.slice Ab q cb]] (by rfl) rfl rfl (by simp only [List.map_toArray, List.map_cons, List.map_nil]; rfl) ?_
  with_reducible refine (tree_calls Lb q Ab cb hnb.out hq6.out HOB.out sb HSB.out _ (HCb.out _ (below_step HB_3.out hHeld.2.2)) (HT.out _ (below_step HB_3.out hHeld.2.2))).mono ?_
  rintro e w4 ⟨rfl, hbq1⟩
  refine ⟨_, rfl, ?_⟩
  refine hK.out _ _ ⟨(below_of hbq1 hHeld.1), (below_of hbq1 hHeld.2.1), (below_step hHeld.2.2 hbq1)⟩ (fun hHeld => ?_)
  clear hK K
  refine norm_ (a' := ?_) ?_ ?_
  rotate_left
  · show Act.put _ (some 39) _ = _
    simp only [Act.put, sa_, sz_, ss_, i64_w, i32_w]
    rfl
  refine pure_ (i := 4) (N := some 5) (v := ?_) (a' := ?_) #[t_, t_, t_, t_, t_, f_] rfl rfl (by kernel_rfl) (fun _ _ _ h => h) (Or.inl ⟨by rfl, ?_⟩) ?_ ?_
  rotate_left
  · intro w'
    go_simp
    with_reducible rfl
  rotate_left
  · simp only [Act.put, sa_, sz_, ss_, i64_w, i32_w]
    rfl
  refine pure_ (i := 5) (N := some 6) (v := ?_) (a' := ?_) #[t_, t_, t_, t_, t_, t_] rfl rfl (by kernel_rfl) (fun _ _ _ h => h) (Or.inl ⟨by rfl, ?_⟩) ?_ ?_
  rotate_left
  · intro w'
    go_simp
    with_reducible rfl
  rotate_left
  · simp only [Act.put, sa_, sz_, ss_, i64_w, i32_w]
    rfl
  refine done_ (by kernel_rfl) ?_
  have hb := below_step (below_step hZ.out.drew hbq0) hbq1
  clear hHeld hZ hbq0 hbq1
  have Ba_4 := Lib.hid (below_blk hb Ba_3.out)
  have La_4 := blk_cell Ba_4.out 0 (.slice Aa k ca) rfl
  have Bb_4 := Lib.hid (below_blk hb Bb_3.out)
  have Lb_4 := blk_cell Bb_4.out 0 (.slice Ab q cb) rfl
  have HB_4 := Lib.hid (below_step HB_3.out hb)
  clear hb HB_3 Ba_3 La_3 Bb_3 Lb_3
  obtain ⟨LX, hLX⟩ : ∃ r, La ++ Lb.map (shift k) ++ [⟨9, (k : Int) - 1, (k : Int) + q - 1, z35, 0, 0, 0, 0, false⟩] = r := ⟨_, rfl⟩
  obtain ⟨LG, hLG⟩ : ∃ r, La ++ [⟨11, (k : Int) - 1, 0, ⟨⟨0, 0, 0, 0⟩⟩, 0, 0, 0, 1, false⟩] = r := ⟨_, rfl⟩
  obtain ⟨LN, hLN⟩ : ∃ r, La ++ [⟨14, (k : Int) - 1, 0, ⟨⟨0, 0, 0, 0⟩⟩, 0, 0, 0, 0, false⟩] = r := ⟨_, rfl⟩
  obtain ⟨N, hN⟩ : ∃ r, k + q + 1 = r := ⟨_, rfl⟩
  obtain ⟨M, hM⟩ : ∃ r, k + 1 = r := ⟨_, rfl⟩
  obtain ⟨hq0, p1, p2, p3, o1, o2, o3⟩ := plain La Lb LX LG LN k q sa sb x y hna.out hnb.out HK.out.1 HK.out.2 hRA.out hRB.out hg8.out HX.out HY.out hz8.out HOA.out HOB.out HSA.out HSB.out hLX hLG hLN
  have hnX_ : LX.length = N := by rw [← hLX, ← hN]; simp [hna.out, hnb.out]; omega
  have hnG_ : LG.length = M := by rw [← hLG, ← hM]; simp [hna.out]
  have hnN_ : LN.length = M := by rw [← hLN, ← hM]; simp [hna.out]
  rw [hN] at o1
  rw [hM] at o2 o3
  have hnm : Hid (k + q ≤ 999) := Lib.hid (by have := HK.out; omega)
  have hk9 : Hid (k ≤ 999) := Lib.hid (by have := HK.out; omega)
  have hN5 : Hid (N ≤ 500) := Lib.hid (by have := HK.out; omega)
  have hM5 : Hid (M ≤ 500) := Lib.hid (by have := HK.out; omega)
  obtain ⟨I, hI⟩ : ∃ I : Int, (q : Int) - 1 = I := ⟨_, rfl⟩
  have hw1 : wrap64 ((q : Int) - 1) = I := by have := HK.out; unfold wrap64; omega
  have hI0 : 0 ≤ I := by omega
  have hI1 : I < (q : Int) := by omega
  have hIq : ((q - 1 : Nat) : Int) = I := by omega
  rw [hIq] at p1
  obtain ⟨ad, hA, z0, _⟩ := at_T37 (HCb.out _ HB_4.out) I hI0 hI1
  subst hA
  generalize (rd_T37 Lb I).f0 = K at *
  have ha9 := hza.out
  have hb9 := hzb.out
  have l3 : (⟨#[40, 63, 58]⟩ : ByteArray).size = 3 := rfl
  have l1 : (⟨#[41]⟩ : ByteArray).size = 1 := rfl
  have l4 : (⟨#[40]⟩ : ByteArray).size = 1 := rfl
  have l5 : (⟨#[124]⟩ : ByteArray).size = 1 := rfl
  have l6 : (⟨#[40, 63, 33]⟩ : ByteArray).size = 3 := rfl
  replace hN := Lib.hid hN
  replace hM := Lib.hid hM
  replace hLX := Lib.hid hLX
  replace hLG := Lib.hid hLG
  replace hLN := Lib.hid hLN
  replace hnX_ := Lib.hid hnX_
  replace hnG_ := Lib.hid hnG_
  replace hnN_ := Lib.hid hnN_
  replace p1 := Lib.hid p1
  replace p2 := Lib.hid p2
  replace p3 := Lib.hid p3
  replace o1 := Lib.hid o1
  replace o2 := Lib.hid o2
  replace o3 := Lib.hid o3
  clear hI hIq hq0
  rcases Decidable.em (K = 9) with hK | hK
  · subst hK
    have q1 : Hid (shows LX = sa ++ ⟨#[124]⟩ ++ (⟨#[40, 63, 58]⟩ ++ sb ++ ⟨#[41]⟩)) := Lib.hid (by rw [p1.out, if_pos rfl])
    clear p1
    go_wp2_with fail
    clear z0
    refine (join_tree Aa ca La Lb LX k q N hna.out (some ad) cb hnb.out hnm.out hN.out 9 hLX.out _ (HCa.out _ HB_4.out) (HCb.out _ HB_4.out)).mono ?_
    rintro e w5 ⟨⟨AX, cX, rfl, hle, C⟩, hb⟩
    have CX_5 := Lib.hid C
    have HX := Lib.hid hle
    clear C hle
    have Ba_5 := Lib.hid (below_blk hb Ba_4.out)
    have La_5 := blk_cell Ba_5.out 0 (.slice Aa k ca) rfl
    have Bb_5 := Lib.hid (below_blk hb Bb_4.out)
    have Lb_5 := blk_cell Bb_5.out 0 (.slice (some ad) q cb) rfl
    have HB_5 := Lib.hid (below_step HB_4.out hb)
    clear hb HB_4 Ba_4 La_4 Bb_4 Lb_4
    go_wp2_with fail
    refine (tree_calls LX N AX cX hnX_.out hN5.out o1.out _ q1.out _ CX_5.out (HT.out _ HB_5.out)).mono ?_
    rintro e w6 ⟨rfl, hb⟩
    have CX_6 := Lib.hid (Kd.C_below CX_5.out hb)
    have Ba_6 := Lib.hid (below_blk hb Ba_5.out)
    have La_6 := blk_cell Ba_6.out 0 (.slice Aa k ca) rfl
    have Bb_6 := Lib.hid (below_blk hb Bb_5.out)
    have Lb_6 := blk_cell Bb_6.out 0 (.slice (some ad) q cb) rfl
    have HB_6 := Lib.hid (below_step HB_5.out hb)
    clear hb HB_5 CX_5 Ba_5 La_5 Bb_5 Lb_5
    go_wp2_with fail
    clear CX_6 HX
    refine (wrap_tree Aa ca La LG k M hna.out hk9.out hM.out 11 0 0 0 0 0 0 0 0 0 1 false hLG.out _ (HCa.out _ HB_6.out)).mono ?_
    rintro e w7 ⟨⟨AG, cG, rfl, hle, C⟩, hb⟩
    have CG_7 := Lib.hid C
    have HG := Lib.hid hle
    clear C hle
    have Ba_7 := Lib.hid (below_blk hb Ba_6.out)
    have La_7 := blk_cell Ba_7.out 0 (.slice Aa k ca) rfl
    have Bb_7 := Lib.hid (below_blk hb Bb_6.out)
    have Lb_7 := blk_cell Bb_7.out 0 (.slice (some ad) q cb) rfl
    have HB_7 := Lib.hid (below_step HB_6.out hb)
    clear hb HB_6 Ba_6 La_6 Bb_6 Lb_6
    go_wp2_with fail
    refine (tree_calls LG M AG cG hnG_.out hM5.out o2.out _ p2.out _ CG_7.out (HT.out _ HB_7.out)).mono ?_
    rintro e w8 ⟨rfl, hb⟩
    have CG_8 := Lib.hid (Kd.C_below CG_7.out hb)
    have Ba_8 := Lib.hid (below_blk hb Ba_7.out)
    have La_8 := blk_cell Ba_8.out 0 (.slice Aa k ca) rfl
    have Bb_8 := Lib.hid (below_blk hb Bb_7.out)
    have Lb_8 := blk_cell Bb_8.out 0 (.slice (some ad) q cb) rfl
    have HB_8 := Lib.hid (below_step HB_7.out hb)
    clear hb HB_7 CG_7 Ba_7 La_7 Bb_7 Lb_7
    go_wp2_with fail
    clear CG_8 HG
    refine (wrap_tree Aa ca La LN k M hna.out hk9.out hM.out 14 0 0 0 0 0 0 0 0 0 0 false hLN.out _ (HCa.out _ HB_8.out)).mono ?_
    rintro e w9 ⟨⟨AN, cN, rfl, hle, C⟩, hb⟩
    have CN_9 := Lib.hid C
    have HN := Lib.hid hle
    clear C hle
    have Ba_9 := Lib.hid (below_blk hb Ba_8.out)
    have La_9 := blk_cell Ba_9.out 0 (.slice Aa k ca) rfl
    have Bb_9 := Lib.hid (below_blk hb Bb_8.out)
    have Lb_9 := blk_cell Bb_9.out 0 (.slice (some ad) q cb) rfl
    have HB_9 := Lib.hid (below_step HB_8.out hb)
    clear hb HB_8 Ba_8 La_8 Bb_8 Lb_8
    go_wp2_with fail
    refine (tree_calls LN M AN cN hnN_.out hM5.out o3.out _ p3.out _ CN_9.out (HT.out _ HB_9.out)).mono ?_
    rintro e w10 ⟨rfl, hb⟩
    have CN_10 := Lib.hid (Kd.C_below CN_9.out hb)
    have Ba_10 := Lib.hid (below_blk hb Ba_9.out)
    have La_10 := blk_cell Ba_10.out 0 (.slice Aa k ca) rfl
    have Bb_10 := Lib.hid (below_blk hb Bb_9.out)
    have Lb_10 := blk_cell Bb_10.out 0 (.slice (some ad) q cb) rfl
    have HB_10 := Lib.hid (below_step HB_9.out hb)
    clear hb HB_9 CN_9 Ba_9 La_9 Bb_9 Lb_9
    go_wp2_with fail
    clear CN_10 HN
    refine (fixed_calls _ (HT.out _ HB_10.out)).mono ?_
    rintro e w11 ⟨rfl, hb⟩
    have Ba_11 := Lib.hid (below_blk hb Ba_10.out)
    have La_11 := blk_cell Ba_11.out 0 (.slice Aa k ca) rfl
    have Bb_11 := Lib.hid (below_blk hb Bb_10.out)
    have Lb_11 := blk_cell Bb_11.out 0 (.slice (some ad) q cb) rfl
    have HB_11 := Lib.hid (below_step HB_10.out hb)
    clear hb HB_10 Ba_10 La_10 Bb_10 Lb_10
    go_wp2
    go_ret
    exact ⟨rfl, HB_11.out⟩
  · have hK2 : (K == 9) = false := by simpa using hK
    have q1 : Hid (shows LX = sa ++ ⟨#[124]⟩ ++ sb) := Lib.hid (by rw [p1.out, if_neg hK])
    clear p1
    go_wp2_with fail
    clear z0
    refine (join_tree Aa ca La Lb LX k q N hna.out (some ad) cb hnb.out hnm.out hN.out 9 hLX.out _ (HCa.out _ HB_4.out) (HCb.out _ HB_4.out)).mono ?_
    rintro e w5 ⟨⟨AX, cX, rfl, hle, C⟩, hb⟩
    have CX_5 := Lib.hid C
    have HX := Lib.hid hle
    clear C hle
    have Ba_5 := Lib.hid (below_blk hb Ba_4.out)
    have La_5 := blk_cell Ba_5.out 0 (.slice Aa k ca) rfl
    have Bb_5 := Lib.hid (below_blk hb Bb_4.out)
    have Lb_5 := blk_cell Bb_5.out 0 (.slice (some ad) q cb) rfl
    have HB_5 := Lib.hid (below_step HB_4.out hb)
    clear hb HB_4 Ba_4 La_4 Bb_4 Lb_4
    go_wp2_with fail
    refine (tree_calls LX N AX cX hnX_.out hN5.out o1.out _ q1.out _ CX_5.out (HT.out _ HB_5.out)).mono ?_
    rintro e w6 ⟨rfl, hb⟩
    have CX_6 := Lib.hid (Kd.C_below CX_5.out hb)
    have Ba_6 := Lib.hid (below_blk hb Ba_5.out)
    have La_6 := blk_cell Ba_6.out 0 (.slice Aa k ca) rfl
    have Bb_6 := Lib.hid (below_blk hb Bb_5.out)
    have Lb_6 := blk_cell Bb_6.out 0 (.slice (some ad) q cb) rfl
    have HB_6 := Lib.hid (below_step HB_5.out hb)
    clear hb HB_5 CX_5 Ba_5 La_5 Bb_5 Lb_5
    go_wp2_with fail
    clear CX_6 HX
    refine (wrap_tree Aa ca La LG k M hna.out hk9.out hM.out 11 0 0 0 0 0 0 0 0 0 1 false hLG.out _ (HCa.out _ HB_6.out)).mono ?_
    rintro e w7 ⟨⟨AG, cG, rfl, hle, C⟩, hb⟩
    have CG_7 := Lib.hid C
    have HG := Lib.hid hle
    clear C hle
    have Ba_7 := Lib.hid (below_blk hb Ba_6.out)
    have La_7 := blk_cell Ba_7.out 0 (.slice Aa k ca) rfl
    have Bb_7 := Lib.hid (below_blk hb Bb_6.out)
    have Lb_7 := blk_cell Bb_7.out 0 (.slice (some ad) q cb) rfl
    have HB_7 := Lib.hid (below_step HB_6.out hb)
    clear hb HB_6 Ba_6 La_6 Bb_6 Lb_6
    go_wp2_with fail
    refine (tree_calls LG M AG cG hnG_.out hM5.out o2.out _ p2.out _ CG_7.out (HT.out _ HB_7.out)).mono ?_
    rintro e w8 ⟨rfl, hb⟩
    have CG_8 := Lib.hid (Kd.C_below CG_7.out hb)
    have Ba_8 := Lib.hid (below_blk hb Ba_7.out)
    have La_8 := blk_cell Ba_8.out 0 (.slice Aa k ca) rfl
    have Bb_8 := Lib.hid (below_blk hb Bb_7.out)
    have Lb_8 := blk_cell Bb_8.out 0 (.slice (some ad) q cb) rfl
    have HB_8 := Lib.hid (below_step HB_7.out hb)
    clear hb HB_7 CG_7 Ba_7 La_7 Bb_7 Lb_7
    go_wp2_with fail
    clear CG_8 HG
    refine (wrap_tree Aa ca La LN k M hna.out hk9.out hM.out 14 0 0 0 0 0 0 0 0 0 0 false hLN.out _ (HCa.out _ HB_8.out)).mono ?_
    rintro e w9 ⟨⟨AN, cN, rfl, hle, C⟩, hb⟩
    have CN_9 := Lib.hid C
    have HN := Lib.hid hle
    clear C hle
    have Ba_9 := Lib.hid (below_blk hb Ba_8.out)
    have La_9 := blk_cell Ba_9.out 0 (.slice Aa k ca) rfl
    have Bb_9 := Lib.hid (below_blk hb Bb_8.out)
    have Lb_9 := blk_cell Bb_9.out 0 (.slice (some ad) q cb) rfl
    have HB_9 := Lib.hid (below_step HB_8.out hb)
    clear hb HB_8 Ba_8 La_8 Bb_8 Lb_8
    go_wp2_with fail
    refine (tree_calls LN M AN cN hnN_.out hM5.out o3.out _ p3.out _ CN_9.out (HT.out _ HB_9.out)).mono ?_
    rintro e w10 ⟨rfl, hb⟩
    have CN_10 := Lib.hid (Kd.C_below CN_9.out hb)
    have Ba_10 := Lib.hid (below_blk hb Ba_9.out)
    have La_10 := blk_cell Ba_10.out 0 (.slice Aa k ca) rfl
    have Bb_10 := Lib.hid (below_blk hb Bb_9.out)
    have Lb_10 := blk_cell Bb_10.out 0 (.slice (some ad) q cb) rfl
    have HB_10 := Lib.hid (below_step HB_9.out hb)
    clear hb HB_9 CN_9 Ba_9 La_9 Bb_9 Lb_9
    go_wp2_with fail
    clear CN_10 HN
    refine (fixed_calls _ (HT.out _ HB_10.out)).mono ?_
    rintro e w11 ⟨rfl, hb⟩
    have Ba_11 := Lib.hid (below_blk hb Ba_10.out)
    have La_11 := blk_cell Ba_11.out 0 (.slice Aa k ca) rfl
    have Bb_11 := Lib.hid (below_blk hb Bb_10.out)
    have Lb_11 := blk_cell Bb_11.out 0 (.slice (some ad) q cb) rfl
    have HB_11 := Lib.hid (below_step HB_10.out hb)
    clear hb HB_10 Ba_10 La_10 Bb_10 Lb_10
    go_wp2
    go_ret
    exact ⟨rfl, HB_11.out⟩
theorem showParts_row (za zb : TreeArg) (w : World) (hT : Tab w) (hza : TreeIn w za) (hzb : TreeIn w zb) :
    Calls Tryd.prog 4 #[.agg #[.slice za.A za.n za.c], .agg #[.slice zb.A zb.n zb.c]] w fun e w' => e = .returned (.bool true) ∧ Below w.heap.size w w' :=
  walk za zb w hT hza hzb
end Go.Proofs.YtaaihcojedibeaaDoor.LShowParts
