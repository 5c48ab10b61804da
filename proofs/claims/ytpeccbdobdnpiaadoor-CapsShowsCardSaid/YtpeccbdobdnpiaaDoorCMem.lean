/- Memory: what a call keeps. -/
import Derived.Test.YtpeccbdobdnpiaaDoorProg
import Derived.Below
import Derived.WalkKit
import Derived.Tactics2
import Derived.StillTactics
import Derived.Deep.RegionHeld3
import Derived.Deep.AppendLies
import Derived.Lib.Hide
import Derived.KernelRfl
import Derived.Test.YtpeccbdobdnpiaaDoorWMore
namespace Go.Proofs.YtpeccbdobdnpiaaDoor.CMem
open Go.RowKit Go.Proofs.YtpeccbdobdnpiaaDoorW.PrintWords

theorem letter_ {K : Act → World → Prop} {a : Act} {w1 : World} (h : ∀ W, W = w1 → K a W) : K a w1 := h _ rfl
theorem lt_of_blk {w : World} {b : Nat} {o : Obj} (h : w.heap[b]? = some o) : b < w.heap.size := by
  rcases Nat.lt_or_ge b w.heap.size with hl | hl
  · exact hl
  · rw [Array.getElem?_eq_none hl] at h; cases h
theorem set_other {w : World} {b c i : Nat} {o : Obj} {v : Value} (h : w.heap[b]? = some o) (hn : b ≠ c) : (w.setCell ⟨c, i, none⟩ v).heap[b]? = some o := (Below.heap_setCell _ _ _ _ (by simpa using hn)).trans h
theorem cell_below {w w' : World} {B : Nat} (h : Below B w w') {a : Addr} (hl : a.block < B) {v : Value} (hc : w.cell? a = some v) : w'.cell? a = some v := (World.cell?_of_block (h.block a.block hl)).trans hc
theorem below_of {w w' : World} (h : Below w.heap.size w w') {a : Addr} {v : Value} (hc : w.cell? a = some v) : w'.cell? a = some v := cell_below h (World.block_lt_of_cell? w _ hc) hc
theorem blk_cell {w : World} {b : Nat} {cs : Array Value} {t : TypeId} {p : Nat × Nat} (h : w.heap[b]? = some (.cells cs t p)) (i : Nat) (v : Value) (hv : cs[i]? = some v) : w.cell? ⟨b, i, none⟩ = some v := by
  simp [World.cell?, h, hv]
theorem blk_free {w : World} {b : Nat} {cs : Array Value} {t : TypeId} (h : w.heap[b]? = some (.cells cs t (0, 0))) (i : Nat) : w.frozen? ⟨b, i, none⟩ = false := by
  simp [World.frozen?, h]
theorem set_blk {w : World} {b i : Nat} {cs : Array Value} {t : TypeId} {p : Nat × Nat} (h : w.heap[b]? = some (.cells cs t p)) (v : Value) : (w.setCell ⟨b, i, none⟩ v).heap[b]? = some (.cells (cs.setIfInBounds i v) t p) := by
  have hl := lt_of_blk h
  have h' : w.heap[b] = .cells cs t p := by simpa [Array.getElem?_eq_getElem hl] using h
  show (w.heap.modify b _)[b]? = _
  rw [Array.getElem?_eq_getElem (by simpa using hl), Array.getElem_modify_self, h']
  simp
theorem blk2 (w : World) (a : Obj) (cs : Array Value) (t : TypeId) : ((w.alloc a).alloc (.cells cs t)).heap[w.heap.size + 1]? = some (.cells cs t (0, 0)) := by
  have h := heap_alloc_new (w.alloc a) (.cells cs t)
  rwa [show (w.alloc a).heap.size = w.heap.size + 1 by simp] at h
theorem blk3 (w : World) (a b : Obj) (cs : Array Value) (t : TypeId) : (((w.alloc a).alloc b).alloc (.cells cs t)).heap[w.heap.size + 2]? = some (.cells cs t (0, 0)) := by
  have h := blk2 (w.alloc a) b cs t
  rwa [show (w.alloc a).heap.size + 1 = w.heap.size + 2 by simp] at h
theorem below1 (w : World) (a : Obj) : Below w.heap.size w (w.alloc a) := (Below.refl w.heap.size w).alloc (Nat.le_refl _) _
theorem below2 (w : World) (a b : Obj) : Below w.heap.size w ((w.alloc a).alloc b) := (below1 w a).alloc (by simp) _
theorem below3 (w : World) (a b c : Obj) : Below w.heap.size w (((w.alloc a).alloc b).alloc c) := (below2 w a b).alloc (by simp; omega) _
theorem below_set {B : Nat} {w w' : World} (h : Below B w w') {b i : Nat} (hb : B ≤ b) (v : Value) : Below B w (w'.setCell ⟨b, i, none⟩ v) :=
  h.trans ⟨rfl, rfl, rfl, by simp [World.setCell], fun k hk => Below.heap_setCell _ _ _ _ (by simp; omega)⟩
/-- but for the block m, and new ones, the world is as it was -/
structure Only (m : Nat) (w w' : World) : Prop where
  os : w'.os = w.os
  tape : w'.tape = w.tape
  output : w'.output = w.output
  size : w.heap.size ≤ w'.heap.size
  block : ∀ k, k < w.heap.size → k ≠ m → w'.heap[k]? = w.heap[k]?
theorem Only.refl (m : Nat) (w : World) : Only m w w := ⟨rfl, rfl, rfl, Nat.le_refl _, fun _ _ _ => rfl⟩
theorem Only.trans {m : Nat} {a b c : World} (h : Only m a b) (k : Only m b c) : Only m a c :=
  ⟨k.os.trans h.os, k.tape.trans h.tape, k.output.trans h.output, Nat.le_trans h.size k.size, fun i hi hn => (k.block i (Nat.lt_of_lt_of_le hi h.size) hn).trans (h.block i hi hn)⟩
theorem Only.drew {m : Nat} {a b : World} (h : Only m a b) : Only m a b.drew := ⟨h.os, h.tape, h.output, h.size, h.block⟩
theorem Only.of_below {m : Nat} {w w' : World} (h : Below w.heap.size w w') : Only m w w' := ⟨h.os, h.tape, h.output, h.size, fun k hk _ => h.block k hk⟩
theorem Only.set (w : World) (m i : Nat) (v : Value) : Only m w (w.setCell ⟨m, i, none⟩ v) :=
  ⟨rfl, rfl, rfl, by simp [World.setCell], fun k _ hn => Below.heap_setCell _ _ _ _ (by simpa using hn)⟩
theorem Only.below {m B : Nat} {a b c : World} (h0 : Below B a b) (h : Only m b c) (hm : B ≤ m) (hB : B ≤ b.heap.size) : Below B a c :=
  h0.trans ⟨h.os, h.tape, h.output, h.size, fun k hk => h.block k (by omega) (by omega)⟩
theorem Only.blk {m : Nat} {w w' : World} (h : Only m w w') {b : Nat} {o : Obj} (hb : w.heap[b]? = some o) (hn : b ≠ m) : w'.heap[b]? = some o := (h.block b (lt_of_blk hb) hn).trans hb
theorem below_blk {w w' : World} (h : Below w.heap.size w w') {b : Nat} {o : Obj} (hb : w.heap[b]? = some o) : w'.heap[b]? = some o := (h.block b (lt_of_blk hb)).trans hb
end Go.Proofs.YtpeccbdobdnpiaaDoor.CMem
