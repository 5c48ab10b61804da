/- Go functions as Lean functions, each with the proof that its call answers just so; written by wip/tools/myprint.py. -/
import Derived.Test.YtdlgceepanegdaaDoorQ0
import Derived.Test.YtdlgceepanegdaaDoorQ4
import Derived.Test.YtdlgceepanegdaaDoorQ5
import Derived.Test.YtdlgceepanegdaaDoorQ8
import Derived.Test.YtdlgceepanegdaaDoorQ9
import Derived.Test.YtdlgceepanegdaaDoorQ11
namespace Go.Proofs.YtdlgceepanegdaaDoor.Q
open Go.RowKit Go.Proofs.YtdlgceepanegdaaDoorW.PrintWords Go.Proofs.YtdlgceepanegdaaDoorW.PrintLast Go.Proofs.YtdlgceepanegdaaDoorW.PrintMore
attribute [local go_sem] max2_int min2_int max_two min_two max_three min_three max_four min_four   -- for this text's walks alone
set_option linter.unusedVariables false
set_option linter.unusedSimpArgs false


/-! ### clewlaw15_fixed: function 20 -/
theorem C_blk {W : World} {g : Nat} {cs : Array Value} {t : TypeId} (hb : W.heap[g]? = some (.cells cs t (0, 0))) (o : Nat) (L : List S24) (hl : L.length ≤ 100)
    (hx : (cs.toList.drop o).take (L.length * 2) = HAppd.cl (L.map fun x => (x.f0, x.f1))) : Kd.C k24 W (some ⟨g, o, none⟩) L.length L := by
  refine ⟨rfl, by omega, fun _ => ⟨_, rfl, fun j p hj => ⟨[.int .i64 p.f0, .int .i64 p.f1], rfl, k24.K_of_M (k24_mkM W 0 (fun _ => True) p), fun i u hi => ?_⟩⟩⟩
  have hjl : j < L.length := (List.getElem?_eq_some_iff.1 hj).1
  have hq : (L.map fun x => (x.f0, x.f1))[j]? = some (p.f0, p.f1) := by rw [List.getElem?_map, hj]; rfl
  obtain ⟨c0, c1⟩ := HAppC.cl_cells _ j _ hq
  rw [← hx] at c0 c1
  have key : ∀ m, m < L.length * 2 → ∀ v, ((cs.toList.drop o).take (L.length * 2))[m]? = some v → W.cell? ((⟨g, o, none⟩ : Addr).add m) = some v := fun m hm v hv => by
    rw [show (⟨g, o, none⟩ : Addr).add m = ⟨g, o + m, none⟩ by simp [Addr.add]]
    rw [List.getElem?_take, if_pos hm, List.getElem?_drop] at hv
    exact CMem.blk_cell (p := (0, 0)) hb (o + m) v (by simpa using hv)
  match i, hi with
  | 0, hi => simp at hi; subst hi; exact key (j * 2) (by omega) _ c0
  | 1, hi => simp at hi; subst hi; exact key (j * 2 + 1) (by omega) _ c1
  | i + 2, hi => simp at hi
theorem f_right {W : World} {g : Nat} {cs : Array Value} {t : TypeId} (hb : W.heap[g]? = some (.cells cs t (0, 0))) (o c : Nat) (L : List S24) (b : Bool) (hl : L.length ≤ 100)
    (hx : (cs.toList.drop o).take (L.length * 2) = HAppd.cl (L.map fun x => (x.f0, x.f1))) (hc : L.length ≤ c) (hr : cert_Right.f 20 L = some b) :
    Calls Tryd.prog 10 #[.slice (some ⟨g, o, none⟩) L.length c] W fun e w' => e = .returned (.bool b) ∧ Below W.heap.size W w' :=
  cert_Right.calls 20 _ c L b W (C_blk hb o L hl hx) hc hr
theorem f_r1 {W : World} {g : Nat} (hb : W.heap[g]? = some (.cells #[.int .i64 0, .int .i64 3, .int .i64 1, .int .i64 0, .int .i64 3, .int .i64 0, .int .i64 4, .int .i64 0, .int .i64 2, .int .i64 0, .int .i64 5, .int .i64 0] 24 (0, 0))) : Calls Tryd.prog 10 #[.slice (some ⟨g, 0, none⟩) 6 6] W fun e w' => e = .returned (.bool true) ∧ Below W.heap.size W w' :=
  f_right hb 0 6 [(⟨0, 3⟩ : S24), (⟨1, 0⟩ : S24), (⟨3, 0⟩ : S24), (⟨4, 0⟩ : S24), (⟨2, 0⟩ : S24), (⟨5, 0⟩ : S24)] true (by decide) rfl (by decide) (by kernel_rfl)
theorem f_r3 {W : World} {g : Nat} (hb : W.heap[g]? = some (.cells #[.int .i64 0, .int .i64 3, .int .i64 1, .int .i64 0, .int .i64 3, .int .i64 0, .int .i64 4, .int .i64 0, .int .i64 2, .int .i64 0, .int .i64 5, .int .i64 0] 24 (0, 0))) : Calls Tryd.prog 10 #[.slice (some ⟨g, 2, none⟩) 3 5] W fun e w' => e = .returned (.bool false) ∧ Below W.heap.size W w' :=
  f_right hb 2 5 [(⟨1, 0⟩ : S24), (⟨3, 0⟩ : S24), (⟨4, 0⟩ : S24)] false (by decide) rfl (by decide) (by kernel_rfl)
theorem f_r4 {W : World} {g : Nat} (hb : W.heap[g]? = some (.cells #[.int .i64 0, .int .i64 3, .int .i64 1, .int .i64 0, .int .i64 3, .int .i64 0, .int .i64 4, .int .i64 0, .int .i64 2, .int .i64 0, .int .i64 5, .int .i64 0] 24 (0, 0))) : Calls Tryd.prog 10 #[.slice (some ⟨g, 4, none⟩) 4 4] W fun e w' => e = .returned (.bool false) ∧ Below W.heap.size W w' :=
  f_right hb 4 4 [(⟨3, 0⟩ : S24), (⟨4, 0⟩ : S24), (⟨2, 0⟩ : S24), (⟨5, 0⟩ : S24)] false (by decide) rfl (by decide) (by kernel_rfl)
theorem f_r5 {W : World} {g : Nat} (hb : W.heap[g]? = some (.cells #[.int .i64 0, .int .i64 0] 24 (0, 0))) : Calls Tryd.prog 10 #[.slice (some ⟨g, 0, none⟩) 1 1] W fun e w' => e = .returned (.bool false) ∧ Below W.heap.size W w' :=
  f_right hb 0 1 [(⟨0, 0⟩ : S24)] false (by decide) rfl (by decide) (by kernel_rfl)
theorem f_r6 {W : World} {g : Nat} (hb : W.heap[g]? = some (.cells #[.int .i64 1, .int .i64 0, .int .i64 5, .int .i64 0] 24 (0, 0))) : Calls Tryd.prog 10 #[.slice (some ⟨g, 0, none⟩) 2 2] W fun e w' => e = .returned (.bool false) ∧ Below W.heap.size W w' :=
  f_right hb 0 2 [(⟨1, 0⟩ : S24), (⟨5, 0⟩ : S24)] false (by decide) rfl (by decide) (by kernel_rfl)
theorem f_r2 (W : World) : Calls Tryd.prog 10 #[.slice none 0 0] W fun e w' => e = .returned (.bool true) ∧ Below W.heap.size W w' :=
  cert_Right.calls 20 none 0 [] true W ⟨rfl, by decide, fun h => absurd h (by decide)⟩ (by decide) (by kernel_rfl)
theorem f_m {W : World} {g : Nat} (hb : W.heap[g]? = some (.cells #[.int .i64 0, .int .i64 3, .int .i64 1, .int .i64 0, .int .i64 3, .int .i64 0, .int .i64 4, .int .i64 0, .int .i64 2, .int .i64 0, .int .i64 5, .int .i64 0] 24 (0, 0))) : Calls Tryd.prog 12 #[.slice (some ⟨g, 0, none⟩) 6 6] W fun e w' => e = .returned (.int .i64 1) ∧ Below W.heap.size W w' :=
  cert_Marks.calls 20 _ 6 [(⟨0, 3⟩ : S24), (⟨1, 0⟩ : S24), (⟨3, 0⟩ : S24), (⟨4, 0⟩ : S24), (⟨2, 0⟩ : S24), (⟨5, 0⟩ : S24)] 1 W (C_blk hb 0 _ (by decide) rfl) (by decide) (by kernel_rfl)
theorem f_p {W : World} {g : Nat} (hb : W.heap[g]? = some (.cells #[.int .i64 0, .int .i64 3, .int .i64 1, .int .i64 0, .int .i64 3, .int .i64 0, .int .i64 4, .int .i64 0, .int .i64 2, .int .i64 0, .int .i64 5, .int .i64 0] 24 (0, 0))) : Calls Tryd.prog 14 #[.slice (some ⟨g, 0, none⟩) 6 6] W fun e w' => e = .returned (.int .i64 4) ∧ Below W.heap.size W w' :=
  cert_Places.calls 20 _ 6 [(⟨0, 3⟩ : S24), (⟨1, 0⟩ : S24), (⟨3, 0⟩ : S24), (⟨4, 0⟩ : S24), (⟨2, 0⟩ : S24), (⟨5, 0⟩ : S24)] 4 W (C_blk hb 0 _ (by decide) rfl) (by decide) (by kernel_rfl)
theorem f_s {W : World} {g : Nat} (hT : HShow.Tab W) (hb : W.heap[g]? = some (.cells #[.int .i64 0, .int .i64 3, .int .i64 1, .int .i64 0, .int .i64 3, .int .i64 0, .int .i64 4, .int .i64 0, .int .i64 2, .int .i64 0, .int .i64 5, .int .i64 0] 24 (0, 0))) : Calls Tryd.prog 16 #[.slice (some ⟨g, 0, none⟩) 6 6] W fun e w' => e = .returned (.string { data := #[115, 51, 32, 116, 32, 50, 32, 109, 32, 49, 32, 114, 48] }) ∧ Below W.heap.size W w' :=
  cert_Show.calls _ 6 [(⟨0, 3⟩ : S24), (⟨1, 0⟩ : S24), (⟨3, 0⟩ : S24), (⟨4, 0⟩ : S24), (⟨2, 0⟩ : S24), (⟨5, 0⟩ : S24)] _ W hT (C_blk hb 0 _ (by decide) rfl) (by decide) (by kernel_rfl)
theorem f_a {W : World} {g : Nat} (hb : W.heap[g]? = some (.cells #[.int .i64 0, .int .i64 3, .int .i64 1, .int .i64 0, .int .i64 3, .int .i64 0, .int .i64 4, .int .i64 0, .int .i64 2, .int .i64 0, .int .i64 5, .int .i64 0] 24 (0, 0))) : Calls Tryd.prog 9 #[.slice (some ⟨g, 0, none⟩) 1 6, .agg #[.int .i64 0, .int .i64 2]] W fun e w' => (∃ p c, e = .returned (.slice (some ⟨p, 0, none⟩) 1 c) ∧ W.heap.size ≤ p ∧ 1 ≤ c ∧ w'.cell? ⟨p, 1, none⟩ = some (.int .i64 5)) ∧ Below W.heap.size W w' := by
  have h := cert_Add.calls _ 6 [(⟨0, 3⟩ : S24)] 0 2 [(⟨0, 5⟩ : S24)] W (C_blk hb 0 _ (by decide) rfl) (by decide) (by kernel_rfl)
  refine h.mono ?_
  rintro e w' ⟨v, rfl, ⟨h1, inner, ho, hr⟩, hb2⟩
  refine ⟨?_, hb2⟩
  have hk := hr.2 0 _ rfl
  have hk2 := k24_openM hk
  have hi : inner[1]? = some (.int .i64 5) := by
    have := congrArg (fun l : List Value => l[1]?) hk2
    rw [List.getElem?_take, if_pos (by decide), List.getElem?_drop] at this
    exact this
  rcases ho.2 with ⟨q2, q3⟩ | ⟨g2, cap, cur, q2, q3, q4, q5, q6, q7, q8⟩
  · cases q3
  · subst q2
    exact ⟨g2, cap, rfl, q3, q5, by rw [ho.cellAt 1 (by decide)]; exact hi⟩
set_option maxHeartbeats 6400000 in
set_option maxRecDepth 100000 in
theorem fixed_walk (w : World) (hT : HShow.Tab w) : Calls Tryd.prog 20 #[] w fun e w' => e = .returned (.bool true) ∧ Below w.heap.size w w' := by
  have HT := Lib.hid hT
  clear hT
  go_enter Tryd.func20, Tryd.ntmps20
  go_wp2_with fail
  have BB := heap_alloc_new w (.cells #[.int .i64 0, .int .i64 3, .int .i64 1, .int .i64 0, .int .i64 3, .int .i64 0, .int .i64 4, .int .i64 0, .int .i64 2, .int .i64 0, .int .i64 5, .int .i64 0] 24)
  have hB := CMem.below1 w (.cells #[.int .i64 0, .int .i64 3, .int .i64 1, .int .i64 0, .int .i64 3, .int .i64 0, .int .i64 4, .int .i64 0, .int .i64 2, .int .i64 0, .int .i64 5, .int .i64 0] 24)
  have HT2 := Lib.hid (HT.out.below hB)
  have HB := Lib.hid hB
  have hz : (w.alloc (.cells #[.int .i64 0, .int .i64 3, .int .i64 1, .int .i64 0, .int .i64 3, .int .i64 0, .int .i64 4, .int .i64 0, .int .i64 2, .int .i64 0, .int .i64 5, .int .i64 0] 24)).heap.size = w.heap.size + 1 := by simp
  have HZ := Lib.hid hz
  clear hz hB
  generalize hW : w.alloc (.cells #[.int .i64 0, .int .i64 3, .int .i64 1, .int .i64 0, .int .i64 3, .int .i64 0, .int .i64 4, .int .i64 0, .int .i64 2, .int .i64 0, .int .i64 5, .int .i64 0] 24) = w1 at *
  clear hW
  generalize hqa : w.heap.size = qa at *
  refine (f_a BB).mono ?_
  rintro e w2 ⟨⟨p, c, rfl, hp, hc, hcell⟩, hb⟩
  have BB2 := (hb.block qa (by have := HZ.out; omega)).trans BB
  have HB0 := HB.out
  rw [← hqa] at HB0
  have HB2 := Lib.hid (below_step HB0 hb)
  clear HB0
  have HT3 := Lib.hid (HT2.out.below hb)
  clear BB hb HT2 HB HT
  go_wp2_with fail
  refine (f_r1 BB2).mono ?_
  rintro e w3 ⟨rfl, hb⟩
  have BB3 := (hb.block _ (CMem.lt_of_blk BB2)).trans BB2
  have hc3 := CMem.below_of hb hcell
  have HB3 := Lib.hid (below_step HB2.out hb)
  have HT4 := Lib.hid (HT3.out.below hb)
  clear hb BB2 hcell HB2 HT3
  go_wp2_with fail
  refine (f_r2 _).mono ?_
  rintro e w4 ⟨rfl, hb⟩
  have BB4 := (hb.block _ (CMem.lt_of_blk BB3)).trans BB3
  have hc4 := CMem.below_of hb hc3
  have HB4 := Lib.hid (below_step HB3.out hb)
  have HT5 := Lib.hid (HT4.out.below hb)
  clear hb BB3 hc3 HB3 HT4
  go_wp2_with fail
  refine (f_r3 BB4).mono ?_
  rintro e w5 ⟨rfl, hb⟩
  have BB5 := (hb.block _ (CMem.lt_of_blk BB4)).trans BB4
  have hc5 := CMem.below_of hb hc4
  have HB5 := Lib.hid (below_step HB4.out hb)
  have HT6 := Lib.hid (HT5.out.below hb)
  clear hb BB4 hc4 HB4 HT5
  go_wp2_with fail
  refine (f_r4 BB5).mono ?_
  rintro e w6 ⟨rfl, hb⟩
  have BB6 := (hb.block _ (CMem.lt_of_blk BB5)).trans BB5
  have hc6 := CMem.below_of hb hc5
  have HB6 := Lib.hid (below_step HB5.out hb)
  have HT7 := Lib.hid (HT6.out.below hb)
  clear hb BB5 hc5 HB5 HT6
  have hb := CMem.below1 w6 (.cells #[.int .i64 0, .int .i64 0] 24)
  have NB := heap_alloc_new w6 (.cells #[.int .i64 0, .int .i64 0] 24)
  have BB7 := (hb.block _ (CMem.lt_of_blk BB6)).trans BB6
  have hc7 := CMem.below_of hb hc6
  have HB7 := Lib.hid (below_step HB6.out hb)
  have HT8 := Lib.hid (HT7.out.below hb)
  clear hb BB6 hc6 HB6 HT7
  go_wp2_with fail
  generalize hW : w6.alloc (.cells #[.int .i64 0, .int .i64 0] 24) = w7 at *
  clear hW
  generalize hqb : w6.heap.size = qb at *
  clear hqb
  refine (f_r5 NB).mono ?_
  rintro e w8 ⟨rfl, hb⟩
  have BB8 := (hb.block _ (CMem.lt_of_blk BB7)).trans BB7
  have hc8 := CMem.below_of hb hc7
  have HB8 := Lib.hid (below_step HB7.out hb)
  have HT9 := Lib.hid (HT8.out.below hb)
  clear hb BB7 hc7 HB7 HT8 NB
  have hb := CMem.below1 w8 (.cells #[.int .i64 1, .int .i64 0, .int .i64 5, .int .i64 0] 24)
  have NB := heap_alloc_new w8 (.cells #[.int .i64 1, .int .i64 0, .int .i64 5, .int .i64 0] 24)
  have BB9 := (hb.block _ (CMem.lt_of_blk BB8)).trans BB8
  have hc9 := CMem.below_of hb hc8
  have HB9 := Lib.hid (below_step HB8.out hb)
  have HT10 := Lib.hid (HT9.out.below hb)
  clear hb BB8 hc8 HB8 HT9
  go_wp2_with fail
  generalize hW : w8.alloc (.cells #[.int .i64 1, .int .i64 0, .int .i64 5, .int .i64 0] 24) = w9 at *
  clear hW
  generalize hqb : w8.heap.size = qb at *
  clear hqb
  refine (f_r6 NB).mono ?_
  rintro e w10 ⟨rfl, hb⟩
  have BB10 := (hb.block _ (CMem.lt_of_blk BB9)).trans BB9
  have hc10 := CMem.below_of hb hc9
  have HB10 := Lib.hid (below_step HB9.out hb)
  have HT11 := Lib.hid (HT10.out.below hb)
  clear hb BB9 hc9 HB9 HT10 NB
  go_wp2_with fail
  refine (f_s HT11.out BB10).mono ?_
  rintro e w11 ⟨rfl, hb⟩
  have BB11 := (hb.block _ (CMem.lt_of_blk BB10)).trans BB10
  have hc11 := CMem.below_of hb hc10
  have HB11 := Lib.hid (below_step HB10.out hb)
  have HT12 := Lib.hid (HT11.out.below hb)
  clear hb BB10 hc10 HB10 HT11
  go_wp2_with fail
  refine (f_m BB11).mono ?_
  rintro e w12 ⟨rfl, hb⟩
  have BB12 := (hb.block _ (CMem.lt_of_blk BB11)).trans BB11
  have hc12 := CMem.below_of hb hc11
  have HB12 := Lib.hid (below_step HB11.out hb)
  have HT13 := Lib.hid (HT12.out.below hb)
  clear hb BB11 hc11 HB11 HT12
  go_wp2_with fail
  refine (f_p BB12).mono ?_
  rintro e w13 ⟨rfl, hb⟩
  have BB13 := (hb.block _ (CMem.lt_of_blk BB12)).trans BB12
  have hc13 := CMem.below_of hb hc12
  have HB13 := Lib.hid (below_step HB12.out hb)
  have HT14 := Lib.hid (HT13.out.below hb)
  clear hb BB12 hc12 HB12 HT13
  have e0 := CMem.blk_cell (p := (0, 0)) BB13 1 _ rfl
  clear BB13
  go_wp2
  go_ret
  exact ⟨rfl, HB13.out⟩

def clewlaw15_fixed.f : Option (Bool) := some true
theorem clewlaw15_fixed.calls (r : Bool) (w : World) (hT : HShow.Tab w) (h : clewlaw15_fixed.f = some r) :
    Calls Tryd.prog 20 #[] w fun e w' => e = .returned (.bool r) ∧ Below w.heap.size w w' := by
  obtain rfl := Option.some.inj h
  exact fixed_walk w hT

end Go.Proofs.YtdlgceepanegdaaDoor.Q
