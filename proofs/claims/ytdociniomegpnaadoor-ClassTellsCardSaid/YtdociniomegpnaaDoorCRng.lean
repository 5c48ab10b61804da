/- Sets: the runs. -/
import Derived.Test.YtdociniomegpnaaDoorCFold
namespace Go.Proofs.YtdociniomegpnaaDoor.CRng
open Go.RowKit CMem CBits CSet CMake COps Go.Proofs.YtdociniomegpnaaDoorW.PrintWords Go.Proofs.YtdociniomegpnaaDoorW.PrintLast Go.Proofs.YtdociniomegpnaaDoorW.PrintMore
set_option linter.unusedVariables false
set_option linter.unusedSimpArgs false

/-- the cells of runs -/
def prs (L : List (Nat × Nat)) : List Value := L.flatMap fun p => [.int .u8 (p.1 : Nat), .int .u8 (p.2 : Nat)]
theorem prs_snoc (L : List (Nat × Nat)) (a b : Nat) : prs (L ++ [(a, b)]) = prs L ++ [.int .u8 (a : Nat), .int .u8 (b : Nat)] := by simp [prs]
structure RS (B : Nat) (w : World) (qs qf qo : Nat) (N : Nat) (f : Int) (L : List (Nat × Nat)) : Prop where
  box : w.heap[qs]? = some (.cells (sc N) 25 (0, 0))
  fr : w.heap[qf]? = some (.cells #[.int .i64 f] 3 (0, 0))
  own : ∃ v, w.heap[qo]? = some (.cells #[v] 37 (0, 0)) ∧ w.ownsRow B 53 2 v L.length (prs L) ∧ v.ownBlock ≠ some qs ∧ v.ownBlock ≠ some qf ∧ v.ownBlock ≠ some qo
  sf : qs ≠ qf
  so : qs ≠ qo
  fo : qf ≠ qo
  b0 : B ≤ qs
  b1 : B ≤ qf
  b2 : B ≤ qo
theorem RS.below {B : Nat} {w w' : World} {qs qf qo N : Nat} {f : Int} {L : List (Nat × Nat)} (h : RS B w qs qf qo N f L) (hb : Below w.heap.size w w') : RS B w' qs qf qo N f L := by
  obtain ⟨v, h1, h2, h3⟩ := h.own
  refine ⟨below_blk hb h.box, below_blk hb h.fr, ⟨v, below_blk hb h1, ?_, h3⟩, h.sf, h.so, h.fo, h.b0, h.b1, h.b2⟩
  obtain ⟨q1, q2⟩ := h2
  refine ⟨q1, ?_⟩
  rcases q2 with ⟨q2, q3⟩ | ⟨g, cap, cur, q2, q3, q4, q5⟩
  · exact .inl ⟨q2, q3⟩
  · exact .inr ⟨g, cap, cur, q2, q3, below_blk hb q4, q5⟩
theorem own_set {B : Nat} {w : World} {e : TypeId} {size n : Nat} {v x : Value} {xs : List Value} {q i : Nat} (h : w.ownsRow B e size v n xs) (hn : v.ownBlock ≠ some q) : (w.setCell ⟨q, i, none⟩ x).ownsRow B e size v n xs := by
  obtain ⟨q1, q2⟩ := h
  refine ⟨q1, ?_⟩
  rcases q2 with ⟨q2, q3⟩ | ⟨g, cap, cur, q2, q3, q4, q5⟩
  · exact .inl ⟨q2, q3⟩
  · refine .inr ⟨g, cap, cur, q2, q3, set_other q4 (fun e => hn ?_), q5⟩
    rw [q2]
    simp [Value.ownBlock, e]
/-- from is set -/
theorem RS.setF {B : Nat} {w : World} {qs qf qo N : Nat} {f : Int} {L : List (Nat × Nat)} (h : RS B w qs qf qo N f L) (f' : Int) : RS B (w.setCell ⟨qf, 0, none⟩ (.int .i64 f')) qs qf qo N f' L := by
  obtain ⟨v, h1, h2, h3, h4, h5⟩ := h.own
  exact ⟨set_other h.box h.sf, set_blk h.fr _, ⟨v, set_other h1 (Ne.symm h.fo), own_set h2 h4, h3, h4, h5⟩, h.sf, h.so, h.fo, h.b0, h.b1, h.b2⟩
theorem info_pair : (Tryd.prog.info? 53).map (fun i => (i.zero, i.size, i.bytes)) = some (some (.agg #[.int .u8 0, .int .u8 0]), 2, 2) := by kernel_rfl
set_option maxHeartbeats 3200000 in
theorem end_no (B : Nat) (w : World) (qs qf qo N : Nat) (f c : Int) (L : List (Nat × Nat)) (H : RS B w qs qf qo N f L) (hf : f < 0) (hB : B ≤ w.heap.size) :
    Calls Tryd.prog 37 #[.int .i64 c, .pointer (some ⟨qf, 0, none⟩), .pointer (some ⟨qo, 0, none⟩)] w fun e w' => e = .returned (.tuple #[]) ∧ RS B w' qs qf qo N (-1) L ∧ Below B w w' := by
  have y0 := blk_cell H.fr 0 (.int .i64 f) rfl
  have y1 := blk_free H.fr 0
  have HN := Lib.hid (H.setF (-1))
  have HB := Lib.hid (below_set (Below.refl B w) (i := 0) H.b1 (.int .i64 (-1)))
  clear H
  go_enter Tryd.func37, Tryd.ntmps37
  go_wp2
  go_end0
  exact ⟨rfl, HN.out, HB.out⟩
set_option maxHeartbeats 3200000 in
theorem end_yes (B : Nat) (w : World) (qs qf qo N : Nat) (a c : Nat) (L : List (Nat × Nat)) (H : RS B w qs qf qo N (a : Nat) L) (ha : a < 256) (hc : 1 ≤ c) (hc1 : c ≤ 256) (hL : L.length ≤ 300) (hB : B ≤ w.heap.size) :
    Calls Tryd.prog 37 #[.int .i64 (c : Nat), .pointer (some ⟨qf, 0, none⟩), .pointer (some ⟨qo, 0, none⟩)] w fun e w' => e = .returned (.tuple #[]) ∧ RS B w' qs qf qo N (-1) (L ++ [(a, c - 1)]) ∧ Below B w w' := by
  obtain ⟨i0, hi, hz0, hz1, hz2⟩ := info_parts info_pair
  have I0 := Lib.hid hi
  have Z0 := Lib.hid hz0
  have Z1 := Lib.hid hz1
  have Z2 := Lib.hid hz2
  clear hi hz0 hz1 hz2
  obtain ⟨v, h1, h2, h3, h4, h5⟩ := H.own
  obtain ⟨d, rfl⟩ : ∃ d, c = d + 1 := ⟨c - 1, by omega⟩
  have hcd : ((d + 1 : Nat) : Int) - 1 = (d : Int) := by omega
  obtain ⟨cc, hcc⟩ : ∃ cc : Int, ((d + 1 : Nat) : Int) = cc := ⟨_, rfl⟩
  rw [hcc] at hcd ⊢
  have g0 : (0 : Int) ≤ (a : Int) := by omega
  have g1 : (a : Int) < 256 := by omega
  have g2 : (0 : Int) ≤ (d : Int) := by omega
  have g3 : (d : Int) < 256 := by omega
  have y0 := blk_cell H.fr 0 (.int .i64 (a : Nat)) rfl
  have u0 := blk_cell h1 0 v rfl
  have OW := Lib.hid h2
  have HH := Lib.hid (show _ ∧ _ ∧ _ from ⟨h3, h4, h5⟩)
  have HO := Lib.hid h1
  have HS := Lib.hid H
  have HL := Lib.hid hL
  have lo := lt_of_blk h1
  have HC := Lib.hid hcc
  clear H h1 h2 h3 h4 h5 hcc hL
  go_enter Tryd.func37, Tryd.ntmps37
  go_wp2_with (at_builtin; refine wpList_append_lies _ rfl (.tmp 6) (.tmp 13) 37 rfl B 53 i0 (.agg #[.int .u8 0, .int .u8 0]) 2 2 Tryd.underlying37 I0.out Z0.out Z1.out Z2.out rfl (by decide) v L.length (prs L) rfl (OW.out.alloc _) ⟨w.heap.size, 0, none⟩ 1 1 [.int .u8 (a : Nat), .int .u8 (d : Nat)] rfl rfl ?c1 (by simp [Value.oneCell']) (by omega) (by have := HL.out; unfold maxLen; omega) (by have := HL.out; omega) (by simp; omega) _ rfl ?_)
  case c1 =>
    intro j u hj
    match j, hj with
    | 0, hj => simp at hj; subst hj; simp [Addr.add]
    | 1, hj => simp at hj; subst hj; simp [Addr.add]
  intro g1 cp1 w5 ho hgr hat hlt
  have ls := HS.out
  have lqs : qs < w.heap.size := lt_of_blk ls.box
  have lqf : qf < w.heap.size := lt_of_blk ls.fr
  obtain ⟨n1, n2, n3⟩ := HH.out
  have m1 : g1 ≠ qs := by
    rcases hat with h | h
    · exact fun e => n1 (by rw [h, e])
    · omega
  have m2 : g1 ≠ qf := by
    rcases hat with h | h
    · exact fun e => n2 (by rw [h, e])
    · omega
  have m3 : g1 ≠ qo := by
    rcases hat with h | h
    · exact fun e => n3 (by rw [h, e])
    · omega
  have kb : ∀ b o, w.heap[b]? = some o → v.ownBlock ≠ some b → w5.heap[b]? = some o := fun b o hb hn => (hgr.block b (by have := lt_of_blk hb; simp; omega) (fun e => hn e.symm)).trans (blk_alloc hb _)
  have kB := OW.out.2
  have h0 : Below B w w5 := ⟨hgr.os, hgr.tape, hgr.output, by have := hgr.size; simp at this; omega, fun k hk => by
    have hne : some k ≠ v.ownBlock := fun e => by
      rcases kB with ⟨q, _⟩ | ⟨g, cap, cur, q, q3, _⟩
      · rw [q] at e; simp [Value.ownBlock] at e
      · rw [q] at e; simp [Value.ownBlock] at e; omega
    rw [hgr.block k (by simp; omega) hne]
    exact Below.heap_alloc w _ k (by omega)⟩
  have q1 := kb qs _ ls.box n1
  have q2 := kb qf _ ls.fr n2
  have q3 := kb qo _ HO.out n3
  have u1 := blk_cell q3 0 v rfl
  have u2 := blk_free q3 0
  have u3 := blk_cell q2 0 (.int .i64 (a : Nat)) rfl
  have u4 := blk_free q2 0
  have R1 : RS B ((w5.setCell ⟨qo, 0, none⟩ (.slice (some ⟨g1, 0, none⟩) (L.length + 1) cp1)).setCell ⟨qf, 0, none⟩ (.int .i64 (-1))) qs qf qo N (-1) (L ++ [(a, d)]) := by
    refine RS.setF (f := (a : Nat)) ⟨set_other q1 ls.so, set_other q2 ls.fo, ⟨_, set_blk q3 _, ?_, ?_, ?_, ?_⟩, ls.sf, ls.so, ls.fo, ls.b0, ls.b1, ls.b2⟩ (-1)
    · rw [prs_snoc, show (L ++ [(a, d)]).length = L.length + 1 by simp]
      exact own_set ho (by simp [Value.ownBlock]; exact m3)
    · simp [Value.ownBlock]; exact m1
    · simp [Value.ownBlock]; exact m2
    · simp [Value.ownBlock]; exact m3
  have R2 := Lib.hid R1
  have R3 := Lib.hid (below_set (below_set h0 (i := 0) ls.b2 (.slice (some ⟨g1, 0, none⟩) (L.length + 1) cp1)) (i := 0) ls.b1 (.int .i64 (-1)))
  have NE := ls.fo
  clear ho hgr hat hlt ls n1 n2 n3 m1 m2 m3 kb kB h0 q1 q2 q3 R1 y0 u0
  go_wp2
  go_end0
  exact ⟨rfl, by simpa using R2.out, R3.out⟩
end Go.Proofs.YtdociniomegpnaaDoor.CRng
