/- Frames' stores in memory. -/
import Derived.Test.YtajflmpdpggcgaaFKey
import Derived.Below
import Derived.OneCell
import Derived.Laws.AppendOwn
import Derived.Laws.OwnMore
import Derived.Deep.AppendLies
import Derived.Lib.Hide
import Derived.Test.YtajflmpdpggcgaaWMore
namespace Go.Proofs.Ytajflmpdpggcgaa.FRep
open Go.RowKit FMath FKey

/-- but for the blocks of F, and new ones, the world is as it was -/
structure Turned (F : List Nat) (w w' : World) : Prop where
  os : w'.os = w.os
  tape : w'.tape = w.tape
  output : w'.output = w.output
  size : w.heap.size ≤ w'.heap.size
  block : ∀ k, k < w.heap.size → k ∉ F → w'.heap[k]? = w.heap[k]?
theorem Turned.refl (F : List Nat) (w : World) : Turned F w w := ⟨rfl, rfl, rfl, Nat.le_refl _, fun _ _ _ => rfl⟩
/-- a second turn, of the same blocks or of new ones -/
theorem Turned.trans {F G : List Nat} {a b c : World} (h : Turned F a b) (k : Turned G b c) (hG : ∀ x ∈ G, x ∈ F ∨ a.heap.size ≤ x) : Turned F a c :=
  ⟨k.os.trans h.os, k.tape.trans h.tape, k.output.trans h.output, Nat.le_trans h.size k.size, fun i hi hn => (k.block i (Nat.lt_of_lt_of_le hi h.size) (fun hg => by
    rcases hG i hg with h1 | h1
    · exact hn h1
    · omega)).trans (h.block i hi hn)⟩
theorem Turned.below {F : List Nat} {B : Nat} {a b c : World} (h0 : Below B a b) (h : Turned F b c) (hF : ∀ x ∈ F, B ≤ x) (hB : B ≤ b.heap.size) : Below B a c :=
  h0.trans ⟨h.os, h.tape, h.output, h.size, fun k hk => h.block k (by omega) (fun hx => by have := hF k hx; omega)⟩
theorem Turned.of_below {F : List Nat} {w w' : World} (h : Below w.heap.size w w') : Turned F w w' := ⟨h.os, h.tape, h.output, h.size, fun k hk _ => h.block k hk⟩
theorem Turned.nil {w w' : World} (h : Turned [] w w') : Below w.heap.size w w' := ⟨h.os, h.tape, h.output, h.size, fun k hk => h.block k hk (by simp)⟩
theorem lt_of_blk {w : World} {b : Nat} {o : Obj} (h : w.heap[b]? = some o) : b < w.heap.size := by
  rcases Nat.lt_or_ge b w.heap.size with hl | hl
  · exact hl
  · rw [Array.getElem?_eq_none hl] at h; cases h
theorem Turned.keeps {F : List Nat} {w w' : World} (h : Turned F w w') {b : Nat} {o : Obj} (hb : w.heap[b]? = some o) (hn : b ∉ F) : w'.heap[b]? = some o := (h.block b (lt_of_blk hb) hn).trans hb
theorem ownsRow_turned {F : List Nat} {w w' : World} (h : Turned F w w') {base : Nat} {e : TypeId} {size g n cap : Nat} {xs : List Value} (ho : w.ownsRow base e size (.slice (some ⟨g, 0, none⟩) n cap) n xs) (hn : g ∉ F) :
    w'.ownsRow base e size (.slice (some ⟨g, 0, none⟩) n cap) n xs := by
  obtain ⟨h1, h2⟩ := ho
  refine ⟨h1, ?_⟩
  rcases h2 with ⟨h2, h3⟩ | ⟨g', cap', cur, h2, h3, h4, h5⟩
  · exact .inl ⟨h2, h3⟩
  · injection h2 with h2a h2b h2c
    injection h2a with h2a
    injection h2a with h2a
    subst h2a
    subst h2c
    exact .inr ⟨g, cap, cur, rfl, h3, h.keeps h4 hn, h5⟩
theorem Turned.block_set {w : World} {m : Nat} {o o' : Obj} (_h : w.heap[m]? = some o) : Turned [m] w (ChangeMaps.setBlock w m o') :=
  ⟨rfl, rfl, rfl, by simp [ChangeMaps.setBlock], fun k _ hn => by
    have : m ≠ k := fun e => hn (by simp [e])
    simp [ChangeMaps.setBlock, this]⟩
theorem block_set_at {w : World} {m : Nat} {o o' : Obj} (h : w.heap[m]? = some o) : (ChangeMaps.setBlock w m o').heap[m]? = some o' := by
  have := lt_of_blk h
  simp [ChangeMaps.setBlock, this]
theorem set_blk {w : World} {b i : Nat} {cs : Array Value} {t : TypeId} {p : Nat × Nat} (h : w.heap[b]? = some (.cells cs t p)) (v : Value) : (w.setCell ⟨b, i, none⟩ v).heap[b]? = some (.cells (cs.setIfInBounds i v) t p) := by
  have hl := lt_of_blk h
  have h' : w.heap[b] = .cells cs t p := by simpa [Array.getElem?_eq_getElem hl] using h
  show (w.heap.modify b _)[b]? = _
  rw [Array.getElem?_eq_getElem (by simpa using hl), Array.getElem_modify_self, h']
  simp
/-- the frames' cells -/
def flat (T : List Fr) : List Value := (zero :: T).flatMap Fr.cells
theorem flat_snoc (T : List Fr) (a : Fr) : flat (T ++ [a]) = flat T ++ a.cells := by simp [flat]
theorem cells_length (L : List Fr) : (L.flatMap Fr.cells).length = L.length * 5 := by
  induction L with
  | nil => rfl
  | cons a L ih => simp only [List.flatMap_cons, List.length_append, ih, List.length_cons]; simp [Fr.cells]; omega
theorem flat_length (T : List Fr) : (flat T).length = (T.length + 1) * 5 := cells_length (zero :: T)
theorem cells_at (L : List Fr) (i j : Nat) (h : i < L.length) (hj : j < 5) : (L.flatMap Fr.cells)[i * 5 + j]? = (L[i].cells)[j]? := by
  induction L generalizing i with
  | nil => simp at h
  | cons a L ih =>
    rw [List.flatMap_cons]
    have hl : a.cells.length = 5 := rfl
    rcases i with _ | i
    · rw [List.getElem?_append_left (by omega)]
      simp
    · rw [List.getElem?_append_right (by omega), hl, show (i + 1) * 5 + j - 5 = i * 5 + j by omega]
      exact ih i (by simpa using h)
/-- the store at block s -/
structure SHas (w : World) (s bl bd m cl cd : Nat) (T : List Fr) (most : Int) : Prop where
  blk : w.heap[s]? = some (.cells #[.slice (some ⟨bl, 0, none⟩) (T.length + 1) cl, .slice (some ⟨bd, 0, none⟩) (T.length + 1) cd, .map (some m), .int .i64 most] 56 (0, 0))
  rl : w.ownsRow 0 33 5 (.slice (some ⟨bl, 0, none⟩) (T.length + 1) cl) (T.length + 1) (flat T)
  rd : w.ownsRow 0 3 1 (.slice (some ⟨bd, 0, none⟩) (T.length + 1) cd) (T.length + 1) ((deps T).map (Value.int .i64))
  mp : ∃ es clock, w.heap[m]? = some (.map es clock) ∧ es.toList.map (fun e => (e.key, e.val)) = ents 0 T
  sbl : s ≠ bl
  sbd : s ≠ bd
  sm : s ≠ m
  bld : bl ≠ bd
  blm : bl ≠ m
  bdm : bd ≠ m
  good : FMath.Good T
  room : (T.length : Int) ≤ most
  most_le : most ≤ 1048576
theorem SHas.turned {F : List Nat} {w w' : World} (h : Turned F w w') {s bl bd m cl cd : Nat} {T : List Fr} {most : Int} (H : SHas w s bl bd m cl cd T most) (h0 : s ∉ F) (h1 : bl ∉ F) (h2 : bd ∉ F) (h3 : m ∉ F) : SHas w' s bl bd m cl cd T most := by
  obtain ⟨es, clock, hm, he⟩ := H.mp
  exact ⟨h.keeps H.blk h0, ownsRow_turned h H.rl h1, ownsRow_turned h H.rd h2, ⟨es, clock, h.keeps hm h3, he⟩, H.sbl, H.sbd, H.sm, H.bld, H.blm, H.bdm, H.good, H.room, H.most_le⟩
theorem SHas.lts {w : World} {s bl bd m cl cd : Nat} {T : List Fr} {most : Int} (H : SHas w s bl bd m cl cd T most) : s < w.heap.size ∧ bl < w.heap.size ∧ bd < w.heap.size ∧ m < w.heap.size := by
  obtain ⟨es, clock, hm, he⟩ := H.mp
  exact ⟨lt_of_blk H.blk, (H.rl.lt bl rfl).2, (H.rd.lt bd rfl).2, lt_of_blk hm⟩
theorem SHas.below {w w' : World} (h : Below w.heap.size w w') {s bl bd m cl cd : Nat} {T : List Fr} {most : Int} (H : SHas w s bl bd m cl cd T most) : SHas w' s bl bd m cl cd T most :=
  SHas.turned (F := []) (Turned.of_below h) H (by simp) (by simp) (by simp) (by simp)
theorem SHas.alloc {w : World} {s bl bd m cl cd : Nat} {T : List Fr} {most : Int} (H : SHas w s bl bd m cl cd T most) (o : Obj) : SHas (w.alloc o) s bl bd m cl cd T most :=
  H.below ((Below.refl _ _).alloc (Nat.le_refl _) o)
theorem Turned.cell {F : List Nat} {w w' : World} (h : Turned F w w') (a : Addr) (hl : a.block < w.heap.size) (hn : a.block ∉ F) {v : Value} (hc : w.cell? a = some v) : w'.cell? a = some v :=
  (World.cell?_of_block (h.block a.block hl hn)).trans hc
theorem Turned.of_grown {w w' : World} {g n cap : Nat} (h : w.grownBy w' (Value.slice (some ⟨g, 0, none⟩) n cap).ownBlock) : Turned [g] w w' :=
  ⟨h.os, h.tape, h.output, h.size, fun k hk hn => h.block k hk (by simpa [Value.ownBlock] using hn)⟩
theorem Turned.wider {F G : List Nat} {w w' : World} (h : Turned F w w') (hs : ∀ x ∈ F, x ∈ G) : Turned G w w' := ⟨h.os, h.tape, h.output, h.size, fun k hk hn => h.block k hk (fun hx => hn (hs k hx))⟩
theorem letter_ {K : Act → World → Prop} {a : Act} {w1 : World} (h : ∀ W, W = w1 → K a W) : K a w1 := h _ rfl
theorem Turned.set (w : World) (a : Addr) (v : Value) : Turned [a.block] w (w.setCell a v) :=
  ⟨rfl, rfl, rfl, by simp [World.setCell], fun k _ hn => Below.heap_setCell _ _ _ _ (by simpa using hn)⟩
/-- a row's frame -/
theorem row_cells {w : World} {e : TypeId} {g n cap : Nat} {L : List Fr} (ho : w.ownsRow 0 e 5 (.slice (some ⟨g, 0, none⟩) n cap) n (L.flatMap Fr.cells)) (i : Nat) (h : i < L.length) :
    w.cell? ⟨g, i * 5, none⟩ = some (.int .i64 L[i].k) ∧ w.cell? ⟨g, i * 5 + 1, none⟩ = some (.int .i64 L[i].n) ∧ w.cell? ⟨g, i * 5 + 2, none⟩ = some (.int .i64 L[i].t) ∧ w.cell? ⟨g, i * 5 + 3, none⟩ = some (.int .i64 L[i].f) ∧ w.cell? ⟨g, i * 5 + 4, none⟩ = some (.int .i64 L[i].x) := by
  have hl : n = L.length := by
    have := ho.1
    rw [cells_length] at this
    omega
  have key : ∀ j, j < 5 → w.cell? ⟨g, i * 5 + j, none⟩ = (L[i].cells)[j]? := fun j hj => by
    rw [ho.cellAt (i * 5 + j) (by omega)]
    exact cells_at L i j h hj
  exact ⟨key 0 (by omega), key 1 (by omega), key 2 (by omega), key 3 (by omega), key 4 (by omega)⟩
theorem row_ints {w : World} {e : TypeId} {g n cap : Nat} {D : List Int} (ho : w.ownsRow 0 e 1 (.slice (some ⟨g, 0, none⟩) n cap) n (D.map (Value.int .i64))) (i : Nat) (h : i < D.length) :
    w.cell? ⟨g, i, none⟩ = some (.int .i64 (D.getD i 0)) := by
  have hl : n = D.length := by
    have := ho.1
    rw [List.length_map] at this
    omega
  rw [ho.cellAt i (by omega), List.getElem?_map, List.getElem?_eq_getElem h]
  simp [List.getD_eq_getElem?_getD, List.getElem?_eq_getElem h]
theorem blk_cell {w : World} {b : Nat} {cs : Array Value} {t : TypeId} {p : Nat × Nat} (h : w.heap[b]? = some (.cells cs t p)) (i : Nat) (v : Value) (hv : cs[i]? = some v) : w.cell? ⟨b, i, none⟩ = some v := by
  simp [World.cell?, h, hv]
theorem blk_free {w : World} {b : Nat} {cs : Array Value} {t : TypeId} (h : w.heap[b]? = some (.cells cs t (0, 0))) (i : Nat) : w.frozen? ⟨b, i, none⟩ = false := by
  simp [World.frozen?, h]
end Go.Proofs.Ytajflmpdpggcgaa.FRep
