import Derived.Test.YtaaihcojedibeaaDoorProg
import Derived.Below
import Derived.WalkKit
import Derived.Tactics2
import Derived.StillTactics
import Derived.Deep.RegionHeld3
import Derived.Deep.AppendLies
import Derived.Lib.Hide
import Derived.KernelRfl
import Derived.Test.YtaaihcojedibeaaDoorWMore
import Derived.Laws.IdiomStrings
import Derived.Laws.Rows
import Derived.Laws.Tables
import Derived.Test.YtaaihcojedibeaaDoorQAll
import Derived.Carry
import Derived.MapKept
import Derived.WideLaws
import Derived.Laws.CopyOwn
import Derived.Test.YtaaihcojedibeaaDoorRows
import Derived.LaidMore
import Derived.Lib.LaidTab
section
/- Memory: what a call keeps. -/
namespace Go.Proofs.YtaaihcojedibeaaDoor.CMem
set_option maxRecDepth 100000
open Go.RowKit Go.Proofs.YtaaihcojedibeaaDoorW.PrintWords

theorem letter_ {K : Act → World → Prop} {a : Act} {w1 : World} (h : ∀ W, W = w1 → K a W) : K a w1 := h _ rfl
theorem lt_of_blk {w : World} {b : Nat} {o : Obj} (h : w.heap[b]? = some o) : b < w.heap.size := by
  rcases Nat.lt_or_ge b w.heap.size with hl | hl
  · exact hl
  · rw [Array.getElem?_eq_none hl] at h; cases h
theorem set_other {w : World} {b c i : Nat} {o : Obj} {v : Value} (h : w.heap[b]? = some o) (hn : b ≠ c) : (w.setCell ⟨c, i, none⟩ v).heap[b]? = some o := (Below.heap_setCell _ _ _ _ (by simpa using hn)).trans h
theorem cell_below {w w' : World} {B : Nat} (h : Below B w w') {a : Addr} (hl : a.block < B) {v : Value} (hc : w.cell? a = some v) : w'.cell? a = some v := (World.cell?_of_block (h.block a.block hl)).trans hc
theorem below_of {w w' : World} (h : Below w.heap.size w w') {a : Addr} {v : Value} (hc : w.cell? a = some v) : w'.cell? a = some v := cell_below h (World.block_lt_of_cell? w _ hc) hc
theorem blk_cell {w : World} {b : Nat} {cs : Array Value} {t : TypeId} {p : Nat × Nat} (h : w.heap[b]? = some (.cells cs t p)) (i : Nat) (v : Value) (hv : cs[i]? = some v) : w.cell? ⟨b, i, none⟩ = some v := by
  simp [World.cell?, h, hv]
theorem blk_free {w : World} {b : Nat} {cs : Array Value} {t : TypeId} (h : w.heap[b]? = some (.cells cs t (0, 0))) (i : Nat) : w.frozen? ⟨b, i, none⟩ = false := by
  simp [World.frozen?, h]
theorem set_blk {w : World} {b i : Nat} {cs : Array Value} {t : TypeId} {p : Nat × Nat} (h : w.heap[b]? = some (.cells cs t p)) (v : Value) : (w.setCell ⟨b, i, none⟩ v).heap[b]? = some (.cells (cs.setIfInBounds i v) t p) := by
  have hl := lt_of_blk h
  have h' : w.heap[b] = .cells cs t p := by simpa [Array.getElem?_eq_getElem hl] using h
  show (w.heap.modify b _)[b]? = _
  rw [Array.getElem?_eq_getElem (by simpa using hl), Array.getElem_modify_self, h']
  simp
theorem blk2 (w : World) (a : Obj) (cs : Array Value) (t : TypeId) : ((w.alloc a).alloc (.cells cs t)).heap[w.heap.size + 1]? = some (.cells cs t (0, 0)) := by
  have h := heap_alloc_new (w.alloc a) (.cells cs t)
  rwa [show (w.alloc a).heap.size = w.heap.size + 1 by simp] at h
theorem blk3 (w : World) (a b : Obj) (cs : Array Value) (t : TypeId) : (((w.alloc a).alloc b).alloc (.cells cs t)).heap[w.heap.size + 2]? = some (.cells cs t (0, 0)) := by
  have h := blk2 (w.alloc a) b cs t
  rwa [show (w.alloc a).heap.size + 1 = w.heap.size + 2 by simp] at h
theorem below1 (w : World) (a : Obj) : Below w.heap.size w (w.alloc a) := (Below.refl w.heap.size w).alloc (Nat.le_refl _) _
theorem below2 (w : World) (a b : Obj) : Below w.heap.size w ((w.alloc a).alloc b) := (below1 w a).alloc (by simp) _
theorem below3 (w : World) (a b c : Obj) : Below w.heap.size w (((w.alloc a).alloc b).alloc c) := (below2 w a b).alloc (by simp; omega) _
theorem below_set {B : Nat} {w w' : World} (h : Below B w w') {b i : Nat} (hb : B ≤ b) (v : Value) : Below B w (w'.setCell ⟨b, i, none⟩ v) :=
  h.trans ⟨rfl, rfl, rfl, by simp [World.setCell], fun k hk => Below.heap_setCell _ _ _ _ (by simp; omega)⟩
/-- but for the block m, and new ones, the world is as it was -/
structure Only (m : Nat) (w w' : World) : Prop where
  os : w'.os = w.os
  tape : w'.tape = w.tape
  output : w'.output = w.output
  size : w.heap.size ≤ w'.heap.size
  block : ∀ k, k < w.heap.size → k ≠ m → w'.heap[k]? = w.heap[k]?
theorem Only.refl (m : Nat) (w : World) : Only m w w := ⟨rfl, rfl, rfl, Nat.le_refl _, fun _ _ _ => rfl⟩
theorem Only.trans {m : Nat} {a b c : World} (h : Only m a b) (k : Only m b c) : Only m a c :=
  ⟨k.os.trans h.os, k.tape.trans h.tape, k.output.trans h.output, Nat.le_trans h.size k.size, fun i hi hn => (k.block i (Nat.lt_of_lt_of_le hi h.size) hn).trans (h.block i hi hn)⟩
theorem Only.drew {m : Nat} {a b : World} (h : Only m a b) : Only m a b.drew := ⟨h.os, h.tape, h.output, h.size, h.block⟩
theorem Only.of_below {m : Nat} {w w' : World} (h : Below w.heap.size w w') : Only m w w' := ⟨h.os, h.tape, h.output, h.size, fun k hk _ => h.block k hk⟩
theorem Only.set (w : World) (m i : Nat) (v : Value) : Only m w (w.setCell ⟨m, i, none⟩ v) :=
  ⟨rfl, rfl, rfl, by simp [World.setCell], fun k _ hn => Below.heap_setCell _ _ _ _ (by simpa using hn)⟩
theorem Only.below {m B : Nat} {a b c : World} (h0 : Below B a b) (h : Only m b c) (hm : B ≤ m) (hB : B ≤ b.heap.size) : Below B a c :=
  h0.trans ⟨h.os, h.tape, h.output, h.size, fun k hk => h.block k (by omega) (by omega)⟩
theorem Only.blk {m : Nat} {w w' : World} (h : Only m w w') {b : Nat} {o : Obj} (hb : w.heap[b]? = some o) (hn : b ≠ m) : w'.heap[b]? = some o := (h.block b (lt_of_blk hb) hn).trans hb
theorem below_blk {w w' : World} (h : Below w.heap.size w w') {b : Nat} {o : Obj} (hb : w.heap[b]? = some o) : w'.heap[b]? = some o := (h.block b (lt_of_blk hb)).trans hb
end Go.Proofs.YtaaihcojedibeaaDoor.CMem
end
section
/- show.text: a byte's. -/
namespace Go.Proofs.YtaaihcojedibeaaDoor.SText
open Go.RowKit CMem
set_option linter.unusedVariables false
set_option linter.unusedSimpArgs false
set_option maxRecDepth 100000
def hx (d : Nat) : UInt8 := UInt8.ofNat (if d < 10 then 48 + d else 87 + d)
/-- is a byte shown as it is -/
def pc (c : Nat) : Bool := (decide (97 ≤ c) && decide (c ≤ 122)) || (decide (65 ≤ c) && decide (c ≤ 90)) || (decide (48 ≤ c) && decide (c ≤ 57)) || c == 95 || c == 32
def txt (c : Nat) : ByteArray := if pc c = true then ⟨#[UInt8.ofNat c]⟩ else ⟨#[92, 120]⟩ ++ ⟨#[hx (c / 16)]⟩ ++ ⟨#[hx (c % 16)]⟩
def dgs : ByteArray := { data := #[48, 49, 50, 51, 52, 53, 54, 55, 56, 57, 97, 98, 99, 100, 101, 102] }
theorem dig_at (q : Nat) (hq : q < 16) (W : World) : (Instr.slice 9 (.string { data := #[48, 49, 50, 51, 52, 53, 54, 55, 56, 57, 97, 98, 99, 100, 101, 102] }) (some (.int .u8 (q : Nat))) (some (.int .u8 ((q + 1 : Nat) : Int))) none).run Tryd.prog W = .ok (.string ⟨#[hx q]⟩) W := by
  match q, hq with
  | 0, _ | 1, _ | 2, _ | 3, _ | 4, _ | 5, _ | 6, _ | 7, _ | 8, _ | 9, _ | 10, _ | 11, _ | 12, _ | 13, _ | 14, _ | 15, _ => rfl
  | k + 16, h => exact absurd h (by omega)
theorem one_byte (c : Nat) (hc : c < 256) (w : World) : (convert 65 9 (.slice (some ⟨w.heap.size, 0, none⟩) 1 1)).run Tryd.prog (w.alloc (.cells #[.int .u8 (c : Nat)] 5)) = .ok (.string ⟨#[UInt8.ofNat c]⟩) (w.alloc (.cells #[.int .u8 (c : Nat)] 5)) := by
  have h := run_convert_bytes_back (P := Tryd.prog) (w.alloc (.cells #[.int .u8 (c : Nat)] 5)) 65 9 5 ⟨w.heap.size, 0, none⟩ 1 [UInt8.ofNat c] Tryd.underlying65 Tryd.underlying5 Tryd.underlying9
  have e1 : (UInt8.ofNat c).toNat = c := by rw [UInt8.toNat_ofNat']; omega
  exact h (fun j hj => by
    obtain rfl : j = 0 := by simpa using hj
    show (w.alloc _).cell? ((⟨w.heap.size, 0, none⟩ : Addr).add 0) = some (.int .u8 ((UInt8.ofNat c).toNat : Int))
    rw [e1]
    exact blk_cell (heap_alloc_new w _) 0 _ rfl)
set_option maxHeartbeats 6400000 in
theorem text_plain (c : Nat) (hc : c < 256) (h : pc c = true) (w : World) : Calls Tryd.prog 36 #[.int .u8 (c : Nat)] w fun e w' => e = .returned (.string ⟨#[UInt8.ofNat c]⟩) ∧ Below w.heap.size w w' := by
  have hcase : (97 ≤ c ∧ c ≤ 122) ∨ (65 ≤ c ∧ c ≤ 90) ∨ (48 ≤ c ∧ c ≤ 57) ∨ c = 95 ∨ c = 32 := by
    unfold pc at h
    simp only [Bool.or_eq_true, Bool.and_eq_true, decide_eq_true_eq, beq_iff_eq] at h
    omega
  have hk := one_byte c hc w
  have hB := Lib.hid (below1 w (.cells #[.int .u8 (c : Nat)] 5))
  clear h
  rcases hcase with h | h | h | h | h
  · have f1 : (97 : Int) ≤ c := by omega
    have f2 : (c : Int) ≤ 122 := by omega
    go_enter Tryd.func36, Tryd.ntmps36
    go_wp2
    go_ret
    exact ⟨rfl, hB.out⟩
  · have f1 : ¬ (97 : Int) ≤ c := by omega
    have f2 : (65 : Int) ≤ c := by omega
    have f3 : (c : Int) ≤ 90 := by omega
    go_enter Tryd.func36, Tryd.ntmps36
    go_wp2
    go_ret
    exact ⟨rfl, hB.out⟩
  · have f1 : ¬ (97 : Int) ≤ c := by omega
    have f2 : ¬ (65 : Int) ≤ c := by omega
    have f3 : (48 : Int) ≤ c := by omega
    have f4 : (c : Int) ≤ 57 := by omega
    go_enter Tryd.func36, Tryd.ntmps36
    go_wp2
    go_ret
    exact ⟨rfl, hB.out⟩
  · have f1 : ¬ (97 : Int) ≤ c := by omega
    have f2 : (65 : Int) ≤ c := by omega
    have f3 : ¬ (c : Int) ≤ 90 := by omega
    have f4 : (48 : Int) ≤ c := by omega
    have f5 : ¬ (c : Int) ≤ 57 := by omega
    have f6 : ((c : Int) == 95) = true := by simp; omega
    clear h
    go_enter Tryd.func36, Tryd.ntmps36
    go_wp2
    go_ret
    exact ⟨rfl, hB.out⟩
  · have f1 : ¬ (97 : Int) ≤ c := by omega
    have f2 : ¬ (65 : Int) ≤ c := by omega
    have f4 : ¬ (48 : Int) ≤ c := by omega
    have f6 : ((c : Int) == 95) = false := by simp; omega
    have f7 : ((c : Int) == 32) = true := by simp; omega
    clear h
    go_enter Tryd.func36, Tryd.ntmps36
    go_wp2
    go_ret
    exact ⟨rfl, hB.out⟩
set_option maxHeartbeats 6400000 in
theorem text_hex (c : Nat) (hc : c < 256) (h : ¬ pc c = true) (w : World) : Calls Tryd.prog 36 #[.int .u8 (c : Nat)] w fun e w' => e = .returned (.string (⟨#[92, 120]⟩ ++ ⟨#[hx (c / 16)]⟩ ++ ⟨#[hx (c % 16)]⟩)) ∧ Below w.heap.size w w' := by
  have hcase : c < 32 ∨ (32 < c ∧ c < 48) ∨ (57 < c ∧ c < 65) ∨ (90 < c ∧ c < 95) ∨ c = 96 ∨ 122 < c := by
    unfold pc at h
    simp only [Bool.or_eq_true, Bool.and_eq_true, decide_eq_true_eq, beq_iff_eq] at h
    omega
  have n1 : ((c : Int) == 95) = false := by simp; intro e; apply h; rw [show c = 95 by omega]; rfl
  have n2 : ((c : Int) == 32) = false := by simp; intro e; apply h; rw [show c = 32 by omega]; rfl
  have k1 := dig_at (c / 16) (by omega)
  have k2 := dig_at (c % 16) (by omega)
  obtain ⟨d1, hd1⟩ : ∃ d, hx (c / 16) = d := ⟨_, rfl⟩
  obtain ⟨d2, hd2⟩ : ∃ d, hx (c % 16) = d := ⟨_, rfl⟩
  obtain ⟨q, hq⟩ : ∃ q : Int, ((c / 16 : Nat) : Int) = q := ⟨_, rfl⟩
  obtain ⟨r, hr⟩ : ∃ q : Int, ((c % 16 : Nat) : Int) = q := ⟨_, rfl⟩
  obtain ⟨q1, hq1⟩ : ∃ q : Int, ((c / 16 + 1 : Nat) : Int) = q := ⟨_, rfl⟩
  obtain ⟨r1, hr1⟩ : ∃ q : Int, ((c % 16 + 1 : Nat) : Int) = q := ⟨_, rfl⟩
  have u (x : Int) (h0 : 0 ≤ x) (h1 : x < 256) : IntKind.u8.wrap x = x := by rw [show IntKind.u8.wrap x = x % 256 from rfl]; omega
  have w1 : IntKind.u8.wrap ((c : Int) / 16) = q := by rw [u _ (by omega) (by omega)]; omega
  have w2 : IntKind.u8.wrap (q + 1) = q1 := by rw [u _ (by omega) (by omega)]; omega
  have w3 : (c : Int) % 16 = r := by omega
  have w4 : IntKind.u8.wrap (r + 1) = r1 := by rw [u _ (by omega) (by omega)]; omega
  rw [hd1, hq, hq1] at k1
  rw [hd2, hr, hr1] at k2
  rw [hd1, hd2]
  have hB := Lib.hid (Below.refl w.heap.size w)
  clear hq hr hq1 hr1 hd1 hd2 h u
  have hfour : ((c : Int) < 97 ∧ (c : Int) < 65 ∧ (c : Int) < 48) ∨ ((c : Int) < 97 ∧ (c : Int) < 65 ∧ 48 ≤ (c : Int) ∧ 57 < (c : Int)) ∨ ((c : Int) < 97 ∧ 65 ≤ (c : Int) ∧ 90 < (c : Int) ∧ 48 ≤ (c : Int) ∧ 57 < (c : Int)) ∨ (97 ≤ (c : Int) ∧ 122 < (c : Int) ∧ 65 ≤ (c : Int) ∧ 90 < (c : Int) ∧ 48 ≤ (c : Int) ∧ 57 < (c : Int)) := by omega
  clear hcase
  rcases hfour with ⟨f1, f2, f3⟩ | ⟨f1, f2, f3, f4⟩ | ⟨f1, f2, f3, f4, f5⟩ | ⟨f1, f2, f3, f4, f5, f6⟩
  all_goals
    go_enter Tryd.func36, Tryd.ntmps36
    go_wp2
    go_region
    all_goals try go_wp2
    all_goals go_ret
    all_goals exact ⟨rfl, hB.out.drew⟩
theorem text_calls (c : Nat) (hc : c < 256) (w : World) : Calls Tryd.prog 36 #[.int .u8 (c : Nat)] w fun e w' => e = .returned (.string (txt c)) ∧ Below w.heap.size w w' := by
  unfold txt
  by_cases h : pc c = true
  · rw [if_pos h]; exact text_plain c hc h w
  · rw [if_neg h]; exact text_hex c hc h w
end Go.Proofs.YtaaihcojedibeaaDoor.SText
end
section
/- Rows of numbers that a call makes. -/
namespace Go.Proofs.YtaaihcojedibeaaDoor.DRow
set_option maxRecDepth 100000
open Go.RowKit CMem Go.Proofs.YtaaihcojedibeaaDoorW.PrintWords Go.Proofs.YtaaihcojedibeaaDoorW.PrintLast Go.Proofs.YtaaihcojedibeaaDoorW.PrintMore
set_option linter.unusedVariables false
set_option linter.unusedSimpArgs false
theorem below_drewN {B : Nat} {a w : World} (h : Below B a w) (n : Nat) : Below B a (w.drewN n) := h.trans ⟨rfl, rfl, rfl, Nat.le_refl _, fun _ _ => rfl⟩
/-- n numbers -/
def ic (f : Nat → Int) (n : Nat) : Array Value := Array.ofFn (n := n) fun i => .int .i64 (f i)
theorem ic_size (f : Nat → Int) (n : Nat) : (ic f n).size = n := by unfold ic; exact Array.size_ofFn
theorem ic_at (f : Nat → Int) (n i : Nat) (h : i < n) : (ic f n)[i]? = some (.int .i64 (f i)) := by
  unfold ic
  rw [Array.getElem?_ofFn, dif_pos h]
theorem ic_ext {f g : Nat → Int} {n : Nat} (h : ∀ i, i < n → f i = g i) : ic f n = ic g n := by
  apply Array.ext_getElem?
  intro i
  by_cases hi : i < n
  · rw [ic_at _ _ _ hi, ic_at _ _ _ hi, h i hi]
  · rw [Array.getElem?_eq_none (by rw [ic_size]; omega), Array.getElem?_eq_none (by rw [ic_size]; omega)]
theorem ic_set (f : Nat → Int) (n i : Nat) (v : Int) (h : i < n) : (ic f n).setIfInBounds i (.int .i64 v) = ic (fun j => if j = i then v else f j) n := by
  apply Array.ext_getElem?
  intro j
  rw [Array.getElem?_setIfInBounds]
  by_cases hj : j < n
  · rw [ic_at _ _ _ hj, ic_at _ _ _ hj, ic_size]
    by_cases e : i = j
    · subst e; rw [if_pos rfl, if_pos h, if_pos rfl]
    · rw [if_neg e, if_neg (fun h => e h.symm)]
  · rw [Array.getElem?_eq_none (show (ic _ n).size ≤ j by rw [ic_size]; omega), Array.getElem?_eq_none (show (ic _ n).size ≤ j by rw [ic_size]; omega), if_neg (by omega)]
theorem ic_zero (n : Nat) : Array.replicate n (Value.int .i64 0) = ic (fun _ => 0) n := by
  apply Array.ext_getElem?
  intro i
  by_cases hi : i < n
  · rw [ic_at _ _ _ hi, Array.getElem?_replicate, if_pos hi]
  · rw [Array.getElem?_eq_none (show (ic _ n).size ≤ i by rw [ic_size]; omega), Array.getElem?_replicate, if_neg hi]
theorem info_int : (Tryd.prog.info? 3).map (fun i => (i.zero, i.size, i.bytes)) = some (some (.int .i64 0), 1, 8) := by kernel_rfl
theorem make_ints (n : Nat) (hn : n ≤ 1000) (W : World) :
    (Instr.makeSlice 44 (.int .i64 (n : Int)) (.int .i64 (n : Int))).run Tryd.prog W = .ok (.slice (some ⟨W.heap.size, 0, none⟩) n n) (W.alloc (.cells (ic (fun _ => 0) n) 3)) := by
  obtain ⟨i0, hi, hz0, hz1, hz2⟩ := info_parts info_int
  have hr := run_make (P := Tryd.prog) W 44 3 i0 (.int .i64 0) Tryd.underlying44 hi hz0 .i64 .i64 (n : Int) (n : Int) (by omega) (by omega) (by rw [hz2]; omega) (by omega)
  rw [hr, hz1, Int.toNat_natCast, Nat.mul_one]
  congr 2
  rw [← ic_zero]
  congr 1
  unfold madeCells
  apply Array.ext
  · simp
  · intro i h1 h2
    simp [Value.cells, Nat.mod_one]
/-- a row that a call has made holds so many numbers -/
theorem row_R {w : World} {base p n : Nat} {f : Nat → Int} (hb : base ≤ p) (h : w.heap[p]? = some (.cells (ic f n) 3 (0, 0))) (hn : n ≤ 1000) :
    Kd.R (Kd.int .i64) 3 w base (fun _ => True) (.slice (some ⟨p, 0, none⟩) n n) ((List.range n).map f) := by
  have hl : (ic f n).toList = (List.range n).map fun i => Value.int .i64 (f i) := by
    apply List.ext_getElem?
    intro i
    rw [Array.getElem?_toList]
    by_cases hi : i < n
    · rw [ic_at _ _ _ hi]; simp [hi]
    · rw [Array.getElem?_eq_none (by rw [ic_size]; omega), List.getElem?_eq_none (by simp; omega)]
  refine ⟨fun _ _ => trivial, (List.range n).map (fun i => Value.int .i64 (f i)), ?_, by simp; exact (Nat.mul_one n).symm, fun j p hp => ?_⟩
  · rw [show ((List.range n).map f).length = n by simp]
    refine ⟨by simp; exact (Nat.mul_one n).symm, .inr ⟨p, n, ic f n, rfl, hb, h, Nat.le_refl _, by unfold maxLen; omega, by rw [ic_size]; exact (Nat.mul_one n).symm, ?_⟩⟩
    rw [hl]
    exact List.take_of_length_le (by simp; exact Nat.le_of_eq (Nat.mul_one n).symm)
  · rw [List.getElem?_map, Option.map_eq_some_iff] at hp
    obtain ⟨i, hi, rfl⟩ := hp
    have hj := List.getElem?_eq_some_iff.1 hi
    obtain ⟨hj1, hj2⟩ := hj
    have hjn : j < n := by simpa using hj1
    have hji : j = i := by simpa using hj2
    subst hji
    show (Kd.int .i64).M _ _ _ _ ((((List.range n).map fun i => Value.int .i64 (f i)).drop (j * 1)).take 1)
    rw [Nat.mul_one]
    have e : ((((List.range n).map fun i => Value.int .i64 (f i)).drop j).take 1) = [.int .i64 (f j)] := by
      rw [List.drop_eq_getElem_cons (by simpa using hjn)]
      simp
    rw [e]
    exact rfl
end Go.Proofs.YtaaihcojedibeaaDoor.DRow
end
section
/- ast.depths: its walk. -/
namespace Go.Proofs.YtaaihcojedibeaaDoor.DDeep
open Go.RowKit CMem DRow Q Go.Proofs.YtaaihcojedibeaaDoorW.PrintWords Go.Proofs.YtaaihcojedibeaaDoorW.PrintLast Go.Proofs.YtaaihcojedibeaaDoorW.PrintMore
set_option linter.unusedVariables false
set_option linter.unusedSimpArgs false
set_option maxRecDepth 100000
/-- how many children a kind has -/
def kd (k : Int) : Int := if k = 8 ∨ k = 9 then 2 else if k = 10 ∨ k = 11 ∨ k = 13 ∨ k = 14 ∨ k = 15 ∨ k = 16 ∨ k = 17 then 1 else 0
theorem kids_f (k : Int) : ast_kids.f 2 k = some (kd k) := by
  unfold kd
  simp only [ast_kids.f, ast_kids.j0, beq_iff_eq]
  by_cases h8 : k = 8
  · simp [h8]
  by_cases h9 : k = 9
  · simp [h9]
  rw [if_neg h8, if_neg h9, if_neg (show ¬ (k = 8 ∨ k = 9) by omega)]
  by_cases h : k = 10 ∨ k = 11 ∨ k = 13 ∨ k = 14 ∨ k = 15 ∨ k = 16 ∨ k = 17
  · rw [if_pos h]
    rcases h with h | h | h | h | h | h | h <;> subst h <;> simp
  · rw [if_neg h, if_neg (by omega), if_neg (by omega), if_neg (by omega), if_neg (by omega), if_neg (by omega), if_neg (by omega), if_neg (by omega)]
theorem kids_calls (k : Int) (w : World) : Calls Tryd.prog 23 #[.int .i64 k] w fun e w' => e = .returned (.int .i64 (kd k)) ∧ Below w.heap.size w w' :=
  (ast_kids.calls 2 k (kd k) w (kids_f k)).mono fun e w' h => ⟨h.1, h.2.below⟩
theorem kd_cases (k : Int) : kd k = 0 ∨ kd k = 1 ∨ kd k = 2 := by
  unfold kd
  by_cases h : k = 8 ∨ k = 9
  · rw [if_pos h]; exact .inr (.inr rfl)
  · rw [if_neg h]
    split
    · exact .inr (.inl rfl)
    · exact .inl rfl
/-- the rows of depths: as each node's children have them -/
def dOk (L : List S37) (D : Nat → Int) (i : Nat) : Prop :=
  (kd (rd_T37 L i).f0 = 0 ∧ D i = 1) ∨
  (kd (rd_T37 L i).f0 = 1 ∧ D i = 1 + D (rd_T37 L i).f1.toNat ∧ 0 ≤ (rd_T37 L i).f1 ∧ (rd_T37 L i).f1 < i) ∨
  (kd (rd_T37 L i).f0 = 2 ∧ D i = 1 + max (D (rd_T37 L i).f1.toNat) (D (rd_T37 L i).f2.toNat) ∧ 0 ≤ (rd_T37 L i).f1 ∧ (rd_T37 L i).f1 < i ∧ 0 ≤ (rd_T37 L i).f2 ∧ (rd_T37 L i).f2 < i)
def upto (D : Nat → Int) (i : Nat) : Nat → Int := fun j => if j < i then D j else 0
theorem upto_set {D : Nat → Int} {n i : Nat} (h : i < n) {v : Int} (hv : D i = v) : (ic (upto D i) n).setIfInBounds i (.int .i64 v) = ic (upto D (i + 1)) n := by
  rw [ic_set _ _ _ _ h]
  refine ic_ext fun j hj => ?_
  unfold upto
  by_cases e : j = i
  · subst e; rw [if_pos rfl, if_pos (by omega), hv]
  · rw [if_neg e]
    by_cases h2 : j < i
    · rw [if_pos h2, if_pos (by omega)]
    · rw [if_neg h2, if_neg (by omega)]
theorem upto_at {D : Nat → Int} {n i m : Nat} (h : i < n) (hm : m < i) : (ic (upto D i) n)[m]? = some (.int .i64 (D m)) := by
  rw [ic_at _ _ _ (by omega)]
  unfold upto
  rw [if_pos hm]
theorem upto_here {D : Nat → Int} {n i : Nat} (h : i < n) : (ic (upto D i) n)[i]? = some (.int .i64 0) := by
  rw [ic_at _ _ _ h]
  unfold upto
  rw [if_neg (Nat.lt_irrefl i)]
theorem upto_all (D : Nat → Int) (n : Nat) : ic (upto D n) n = ic D n := ic_ext fun i hi => by unfold upto; rw [if_pos hi]
set_option maxHeartbeats 6400000 in
theorem depths_walk (A : Option Addr) (c : Nat) (L : List S37) (n : Nat) (hn : L.length = n) (hn2 : n ≤ 1000) (D : Nat → Int) (hD : ∀ i, i < n → dOk L D i) (hB : ∀ i, i < n → 0 ≤ D i ∧ D i ≤ 1000) (w : World) (hr : Kd.C k37 w A n L) :
    Calls Tryd.prog 22 #[.agg #[.slice A n c]] w fun e w' => (∃ p, w.heap.size ≤ p ∧ e = .returned (.slice (some ⟨p, 0, none⟩) n n) ∧ w'.heap[p]? = some (.cells (ic D n) 3 (0, 0))) ∧ Below w.heap.size w w' := by
  have mk := make_ints n hn2
  have PO := Lib.hid (blk2 w (.cells #[.slice A n c] 24) (ic (fun _ => 0) n) 3)
  have HB := Lib.hid (below2 w (.cells #[.slice A n c] 24) (.cells (ic (fun _ => 0) n) 3))
  have HD := Lib.hid hD
  have HBD := Lib.hid hB
  have HR := Lib.hid hr
  clear hD hr hB
  go_enter Tryd.func22, Tryd.ntmps22
  go_wp2
  generalize hW : (w.alloc (.cells #[.slice A n c] 24)).alloc (.cells (ic (fun _ => 0) n) 3) = v0 at *
  clear hW mk
  go_loopw [13] (fun t wr => ∃ i : Nat, i ≤ n ∧ t = .int .i64 (i : Nat) ∧ Hid (wr.heap[w.heap.size + 1]? = some (.cells (ic (upto D i) n) 3 (0, 0))) ∧ Hid (Below w.heap.size w wr)) (fun t _ => n - (intOf t).toNat)
  case atStart => exact ⟨0, Nat.zero_le _, rfl, PO, HB⟩
  case round =>
    clear PO HB
    obtain ⟨i, hi, rfl, PO, HB⟩ := hrel
    by_cases h : i < n
    · obtain ⟨ad, hA, a0, a1, a2, a3, a4, a5, a6, a7, a8, a9, a10, a11⟩ := at_T37 HR.out (i : Int) (by omega) (by omega)
      subst hA
      rw [Int.toNat_natCast] at a0 a1 a2 a3 a4 a5 a6 a7 a8 a9 a10 a11
      have hd := HD.out i h
      unfold dOk at hd
      have hi2 : (i : Int) < (n : Int) := by omega
      generalize rd_T37 L i = x at *
      obtain ⟨xk, xa, xb, ⟨⟨s0, s1, s2, s3⟩⟩, x4, x5, x6, x7, x8⟩ := x
      simp only [] at hd a0 a1 a2 a3 a4 a5 a6 a7 a8 a9 a10 a11
      replace a0 := below_of HB.out a0
      replace a1 := below_of HB.out a1
      replace a2 := below_of HB.out a2
      replace a3 := below_of HB.out a3
      replace a4 := below_of HB.out a4
      replace a5 := below_of HB.out a5
      replace a6 := below_of HB.out a6
      replace a7 := below_of HB.out a7
      replace a8 := below_of HB.out a8
      replace a9 := below_of HB.out a9
      replace a10 := below_of HB.out a10
      replace a11 := below_of HB.out a11
      have KK := Lib.hid (kids_calls xk)
      have BN := Lib.hid (heap_alloc_new wr (.cells #[.int .i64 xk, .int .i64 xa, .int .i64 xb, .int .u64 s0, .int .u64 s1, .int .u64 s2, .int .u64 s3, .int .i64 x4, .int .i64 x5, .int .i64 x6, .int .i64 x7, .bool x8] 37))
      have BO := Lib.hid (blk_alloc PO.out (.cells #[.int .i64 xk, .int .i64 xa, .int .i64 xb, .int .u64 s0, .int .u64 s1, .int .u64 s2, .int .u64 s3, .int .i64 x4, .int .i64 x5, .int .i64 x6, .int .i64 x7, .bool x8] 37))
      have HB1 := Lib.hid (HB.out.alloc HB.out.size (.cells #[.int .i64 xk, .int .i64 xa, .int .i64 xb, .int .u64 s0, .int .u64 s1, .int .u64 s2, .int .u64 s3, .int .i64 x4, .int .i64 x5, .int .i64 x6, .int .i64 x7, .bool x8] 37))
      have hd0 := Lib.hid hd
      clear hd HB
      go_wp2_with fail
      refine (KK.out _).mono ?_
      rintro e w2 ⟨rfl, hb⟩
      have BN2 := Lib.hid (below_blk hb BN.out)
      have BO2 := Lib.hid (below_blk hb BO.out)
      have HB2 := Lib.hid (below_step HB1.out hb)
      have hw2 := HB2.out.size
      have hlt := Nat.lt_of_le_of_lt (Nat.le_refl _) (lt_of_blk PO.out)
      clear hb BN BO HB1 KK a0 a1 a2 a3 a4 a5 a6 a7 a8 a9 a10 a11
      generalize wr.heap.size = QN at *
      have n0 := blk_cell BN2.out 0 (.int .i64 xk) rfl
      have n1 := blk_cell BN2.out 1 (.int .i64 xa) rfl
      have n2 := blk_cell BN2.out 2 (.int .i64 xb) rfl
      have v1 := blk_cell BO2.out i _ (upto_here h)
      have v2 := blk_free BO2.out i
      have hbd := HBD.out i h
      rcases hd0.out with ⟨k0, e0⟩ | ⟨k0, e0, l1, l2⟩ | ⟨k0, e0, l1, l2, l3, l4⟩
      · rw [k0]
        have BO3 := set_blk (i := i) BO2.out (.int .i64 1)
        rw [upto_set h e0] at BO3
        have BO3 := Lib.hid BO3
        have HB3 := Lib.hid (below_set (i := i) HB2.out (show w.heap.size ≤ w.heap.size + 1 by omega) (.int .i64 1))
        clear hd0 BO2 HB2 e0 k0 BN2 n0 n1 n2
        go_wp2
        go_roundw
        case rel => exact ⟨i + 1, by omega, by simp, BO3, HB3⟩
        case measure => simp [intOf]; omega
      · rw [k0]
        obtain ⟨m, rfl⟩ := Int.eq_ofNat_of_zero_le l1
        rw [Int.toNat_natCast] at e0
        have hm : m < i := by omega
        have v3 := blk_cell BO2.out m _ (upto_at h hm)
        have hbm := HBD.out m (by omega)
        have BO3 := set_blk (i := i) BO2.out (.int .i64 (1 + D m))
        rw [upto_set h e0] at BO3
        have BO3 := Lib.hid BO3
        have HB3 := Lib.hid (below_set (i := i) HB2.out (show w.heap.size ≤ w.heap.size + 1 by omega) (.int .i64 (1 + D m)))
        have hmn : (m : Int) < (n : Int) := by omega
        clear hd0 BO2 HB2 e0 k0 BN2 hbd
        generalize D m = dm at *
        go_wp2
        go_roundw
        case rel => exact ⟨i + 1, by omega, by simp, BO3, HB3⟩
        case measure => simp [intOf]; omega
      · rw [k0]
        obtain ⟨m, rfl⟩ := Int.eq_ofNat_of_zero_le l1
        obtain ⟨p, rfl⟩ := Int.eq_ofNat_of_zero_le l3
        rw [Int.toNat_natCast, Int.toNat_natCast] at e0
        have hm : m < i := by omega
        have hp : p < i := by omega
        have v3 := blk_cell BO2.out m _ (upto_at h hm)
        have v4 := blk_cell BO2.out p _ (upto_at h hp)
        have hbm := HBD.out m (by omega)
        have hbp := HBD.out p (by omega)
        have e1 : D i = wrap64 (1 + if D m < D p then D p else D m) := by
          rw [e0]
          unfold wrap64
          split <;> omega
        have BO3 := set_blk (i := i) BO2.out (.int .i64 (wrap64 (1 + if D m < D p then D p else D m)))
        rw [upto_set h e1] at BO3
        have BO3 := Lib.hid BO3
        have HB3 := Lib.hid (below_set (i := i) HB2.out (show w.heap.size ≤ w.heap.size + 1 by omega) (.int .i64 (wrap64 (1 + if D m < D p then D p else D m))))
        have hmn : (m : Int) < (n : Int) := by omega
        have hpn : (p : Int) < (n : Int) := by omega
        clear hd0 BO2 HB2 e0 e1 k0 BN2 hbd
        generalize D m = dm at *
        generalize D p = dp at *
        go_wp2
        refine start_ (n := 16) (S := fun w' => w'.cell? ⟨QN, 1, none⟩ = some (.int .i64 (m : Nat)) ∧ w'.cell? ⟨QN, 2, none⟩ = some (.int .i64 (p : Nat)) ∧ w'.cell? ⟨w.heap.size + 1, m, none⟩ = some (.int .i64 dm) ∧ w'.cell? ⟨w.heap.size + 1, p, none⟩ = some (.int .i64 dp)) (ds := [15]) #[false, false, false, false, false, false, false, false, false, false, false, false, false, false, false, false] (by kernel_rfl) rfl rfl ⟨n1, n2, v3, v4⟩ (fun hHeld => ?_)
        refine pure_ (i := 0) (N := some 21) (v := ?_) (a' := ?_) #[true, false, false, false, false, false, false, false, false, false, false, false, false, false, false, false] rfl rfl (by kernel_rfl) (fun _ _ _ h => h) (Or.inl ⟨by rfl, ?_⟩) ?_ ?_
        rotate_left
        · intro w'
          go_simp
          with_reducible rfl
        rotate_left
        · simp only [Act.put, List.setIfInBounds_toArray, List.set_cons_zero, List.set_cons_succ, i64_w, i32_w]
          rfl
        refine pure_ (i := 1) (N := some 22) (v := ?_) (a' := ?_) #[true, true, false, false, false, false, false, false, false, false, false, false, false, false, false, false] rfl rfl (by kernel_rfl) (fun _ _ _ h => h) (Or.inl ⟨by rfl, ?_⟩) ?_ ?_
        rotate_left
        · intro w'
          go_simp
          with_reducible rfl
        rotate_left
        · simp only [Act.put, List.setIfInBounds_toArray, List.set_cons_zero, List.set_cons_succ, i64_w, i32_w]
          rfl
        refine pure_ (i := 2) (N := some 23) (v := ?_) (a' := ?_) #[true, true, true, false, false, false, false, false, false, false, false, false, false, false, false, false] rfl rfl (by kernel_rfl) (fun _ _ _ h => h) (Or.inl ⟨by rfl, ?_⟩) ?_ ?_
        rotate_left
        · intro w'
          go_simp
          with_reducible rfl
        rotate_left
        · simp only [Act.put, List.setIfInBounds_toArray, List.set_cons_zero, List.set_cons_succ, i64_w, i32_w]
          rfl
        refine pure_ (i := 3) (N := some 24) (v := ?_) (a' := ?_) #[true, true, true, true, false, false, false, false, false, false, false, false, false, false, false, false] rfl rfl (by kernel_rfl) (fun _ _ _ h => h) (Or.inl ⟨by rfl, ?_⟩) ?_ ?_
        rotate_left
        · intro w'
          go_simp
          with_reducible rfl
        rotate_left
        · simp only [Act.put, List.setIfInBounds_toArray, List.set_cons_zero, List.set_cons_succ, i64_w, i32_w]
          rfl
        refine pure_ (i := 7) (N := some 28) (v := ?_) (a' := ?_) #[true, true, true, true, false, false, false, true, false, false, false, false, false, false, false, false] rfl rfl (by kernel_rfl) (fun _ _ _ h => h) (Or.inl ⟨by rfl, ?_⟩) ?_ ?_
        rotate_left
        · intro w'
          go_simp
          with_reducible rfl
        rotate_left
        · simp only [Act.put, List.setIfInBounds_toArray, List.set_cons_zero, List.set_cons_succ, i64_w, i32_w]
          rfl
        refine pure_ (i := 8) (N := some 29) (v := ?_) (a' := ?_) #[true, true, true, true, false, false, false, true, true, false, false, false, false, false, false, false] rfl rfl (by kernel_rfl) (fun _ _ _ h => h) (Or.inl ⟨by rfl, ?_⟩) ?_ ?_
        rotate_left
        · intro w'
          go_simp
          with_reducible rfl
        rotate_left
        · simp only [Act.put, List.setIfInBounds_toArray, List.set_cons_zero, List.set_cons_succ, i64_w, i32_w]
          rfl
        refine take_ (i := 4) (N := some 25) (v := ?_) (a' := ?_) #[true, true, true, true, true, false, false, true, true, false, false, false, false, false, false, false] rfl rfl (by kernel_rfl) (fun _ _ _ h => h) (Or.inl ⟨by rfl, ?_⟩) hHeld ?_ ?_
        rotate_left
        · rintro w' ⟨s0, s1, s2, s3⟩
          go_simp
          with_reducible rfl
        rotate_left
        · simp only [Act.put, List.setIfInBounds_toArray, List.set_cons_zero, List.set_cons_succ, i64_w, i32_w]
          rfl
        refine pure_ (i := 5) (N := some 26) (v := ?_) (a' := ?_) #[true, true, true, true, true, true, false, true, true, false, false, false, false, false, false, false] rfl rfl (by kernel_rfl) (fun _ _ _ h => h) (Or.inl ⟨by rfl, ?_⟩) ?_ ?_
        rotate_left
        · intro w'
          go_simp
          with_reducible rfl
        rotate_left
        · simp only [Act.put, List.setIfInBounds_toArray, List.set_cons_zero, List.set_cons_succ, i64_w, i32_w]
          rfl
        refine take_ (i := 6) (N := some 27) (v := ?_) (a' := ?_) #[true, true, true, true, true, true, true, true, true, false, false, false, false, false, false, false] rfl rfl (by kernel_rfl) (fun _ _ _ h => h) (Or.inl ⟨by rfl, ?_⟩) hHeld ?_ ?_
        rotate_left
        · rintro w' ⟨s0, s1, s2, s3⟩
          go_simp
          with_reducible rfl
        rotate_left
        · simp only [Act.put, List.setIfInBounds_toArray, List.set_cons_zero, List.set_cons_succ, i64_w, i32_w]
          rfl
        refine take_ (i := 9) (N := some 30) (v := ?_) (a' := ?_) #[true, true, true, true, true, true, true, true, true, true, false, false, false, false, false, false] rfl rfl (by kernel_rfl) (fun _ _ _ h => h) (Or.inl ⟨by rfl, ?_⟩) hHeld ?_ ?_
        rotate_left
        · rintro w' ⟨s0, s1, s2, s3⟩
          go_simp
          with_reducible rfl
        rotate_left
        · simp only [Act.put, List.setIfInBounds_toArray, List.set_cons_zero, List.set_cons_succ, i64_w, i32_w]
          rfl
        refine pure_ (i := 10) (N := some 31) (v := ?_) (a' := ?_) #[true, true, true, true, true, true, true, true, true, true, true, false, false, false, false, false] rfl rfl (by kernel_rfl) (fun _ _ _ h => h) (Or.inl ⟨by rfl, ?_⟩) ?_ ?_
        rotate_left
        · intro w'
          go_simp
          with_reducible rfl
        rotate_left
        · simp only [Act.put, List.setIfInBounds_toArray, List.set_cons_zero, List.set_cons_succ, i64_w, i32_w]
          rfl
        refine take_ (i := 11) (N := some 32) (v := ?_) (a' := ?_) #[true, true, true, true, true, true, true, true, true, true, true, true, false, false, false, false] rfl rfl (by kernel_rfl) (fun _ _ _ h => h) (Or.inl ⟨by rfl, ?_⟩) hHeld ?_ ?_
        rotate_left
        · rintro w' ⟨s0, s1, s2, s3⟩
          go_simp
          with_reducible rfl
        rotate_left
        · simp only [Act.put, List.setIfInBounds_toArray, List.set_cons_zero, List.set_cons_succ, i64_w, i32_w]
          rfl
        refine pure_ (i := 12) (N := some 33) (v := ?_) (a' := ?_) #[true, true, true, true, true, true, true, true, true, true, true, true, true, false, false, false] rfl rfl (by kernel_rfl) (fun _ _ _ h => h) (Or.inl ⟨by rfl, ?_⟩) ?_ ?_
        rotate_left
        · intro w'
          go_simp
          with_reducible rfl
        rotate_left
        · simp only [Act.put, List.setIfInBounds_toArray, List.set_cons_zero, List.set_cons_succ, i64_w, i32_w]
          rfl
        refine pure_ (i := 13) (N := some 34) (v := ?_) (a' := ?_) #[true, true, true, true, true, true, true, true, true, true, true, true, true, true, false, false] rfl rfl (by kernel_rfl) (fun _ _ _ h => h) (Or.inl ⟨by rfl, ?_⟩) ?_ ?_
        rotate_left
        · intro w'
          go_simp
          with_reducible rfl
        rotate_left
        · simp only [Act.put, List.setIfInBounds_toArray, List.set_cons_zero, List.set_cons_succ, i64_w, i32_w]
          rfl
        refine pure_ (i := 14) (N := some 35) (v := ?_) (a' := ?_) #[true, true, true, true, true, true, true, true, true, true, true, true, true, true, true, false] rfl rfl (by kernel_rfl) (fun _ _ _ h => h) (Or.inl ⟨by rfl, ?_⟩) ?_ ?_
        rotate_left
        · intro w'
          go_simp
          with_reducible rfl
        rotate_left
        · simp only [Act.put, List.setIfInBounds_toArray, List.set_cons_zero, List.set_cons_succ, i64_w, i32_w]
          rfl
        refine last_ (i := 15) (N := none) #[true, true, true, true, true, true, true, true, true, true, true, true, true, true, true, true] rfl rfl (by kernel_rfl) (by decide) (fun K hK => ?_)
        refine skip_ (w1 := ?_) (by rfl) rfl ?_ ?_
        rotate_left
        · go_simp
          rfl
        refine hK.out _ _ ?_
        clear hK K
        refine done_ (by kernel_rfl) ?_
        go_wp2
        go_roundw
        case rel => exact ⟨i + 1, by omega, by simp, BO3, Lib.hid HB3.out.drew⟩
        case measure => simp [intOf]; omega
    · obtain rfl : i = n := by omega
      rw [upto_all] at PO
      have hi2 : ¬ ((i : Int) < (i : Int)) := by omega
      go_wp2
      go_ret
      exact ⟨⟨w.heap.size + 1, Nat.le_succ _, rfl, PO.out⟩, HB.out⟩
end Go.Proofs.YtaaihcojedibeaaDoor.DDeep
end
section
/- ast.sizes: its walk. -/
namespace Go.Proofs.YtaaihcojedibeaaDoor.DSizes
open Go.RowKit CMem DRow DDeep Q Go.Proofs.YtaaihcojedibeaaDoorW.PrintWords Go.Proofs.YtaaihcojedibeaaDoorW.PrintLast Go.Proofs.YtaaihcojedibeaaDoorW.PrintMore
set_option linter.unusedVariables false
set_option linter.unusedSimpArgs false
set_option maxRecDepth 100000
/-- a node's cells -/
def nc (x : S37) : Array Value := #[.int .i64 x.f0, .int .i64 x.f1, .int .i64 x.f2, .int .u64 x.f3.f0.f0, .int .u64 x.f3.f0.f1, .int .u64 x.f3.f0.f2, .int .u64 x.f3.f0.f3, .int .i64 x.f4, .int .i64 x.f5, .int .i64 x.f6, .int .i64 x.f7, .bool x.f8]
/-- where a node's children are to be, and how many nodes its tree has: as those ahead of it have them; none: there is no room -/
def stp (k : Int) (S : Nat → Int) (i : Nat) : Option (Int × Int × Int) :=
  if kd k = 0 then some (0, 0, 1)
  else if kd k = 1 then (if i = 0 then none else some ((i : Int) - 1, 0, 1 + S (i - 1)))
  else if i = 0 then none else if (i : Int) - 1 - S (i - 1) < 0 then none else some ((i : Int) - 1 - S (i - 1), (i : Int) - 1, 1 + (S ((i : Int) - 1 - S (i - 1)).toNat + S (i - 1)))
/-- a node stands in order -/
def good (fit : S37 → Bool) (S : Nat → Int) (i : Nat) (x : S37) : Prop := ∃ s, stp x.f0 S i = some (x.f1, x.f2, s) ∧ fit x = true
def HCx (st : Option (Int × Int × Int)) (fb : Bool) (xa xb : Int) (Si : Int) (i j : Nat) : Prop := (i < j ∧ fb = true ∧ ∃ s, st = some (xa, xb, s) ∧ Si = s) ∨ (i = j ∧ ¬ (fb = true ∧ ∃ s, st = some (xa, xb, s)))
theorem hc_good {st : Option (Int × Int × Int)} {fb : Bool} {xa xb Si a b s : Int} {i j : Nat} (h : HCx st fb xa xb Si i j) (E : st = some (a, b, s)) (hf : fb = true) (ha : xa = a) (hb : xb = b) : i < j ∧ Si = s := by
  rcases h with ⟨h1, _, s', h2, h3⟩ | ⟨_, h2⟩
  · rw [E] at h2
    have := Option.some.inj h2
    simp only [Prod.mk.injEq] at this
    exact ⟨h1, by rw [h3, this.2.2]⟩
  · exact absurd ⟨hf, s, by rw [E, ha, hb]⟩ h2
theorem hc_bad {st : Option (Int × Int × Int)} {fb : Bool} {xa xb Si a b s : Int} {i j : Nat} (h : HCx st fb xa xb Si i j) (E : st = some (a, b, s)) (hn : ¬ (fb = true ∧ xa = a ∧ xb = b)) : i = j := by
  rcases h with ⟨_, h0, s', h2, _⟩ | ⟨h1, _⟩
  · rw [E] at h2
    have := Option.some.inj h2
    simp only [Prod.mk.injEq] at this
    exact absurd ⟨h0, this.1.symm, this.2.1.symm⟩ hn
  · exact h1
theorem hc_none {st : Option (Int × Int × Int)} {fb : Bool} {xa xb Si : Int} {i j : Nat} (h : HCx st fb xa xb Si i j) (E : st = none) : i = j := by
  rcases h with ⟨_, _, s', h2, _⟩ | ⟨h1, _⟩
  · rw [E] at h2; cases h2
  · exact h1
set_option maxHeartbeats 12800000 in
theorem sizes_walk (fit : S37 → Bool) (hfit : ∀ x w, Calls Tryd.prog 37 #[.agg (nc x)] w fun e w' => e = .returned (.bool (fit x)) ∧ Below w.heap.size w w')
    (A : Option Addr) (c : Nat) (L : List S37) (n : Nat) (hn : L.length = n) (hn2 : n ≤ 1000) (S : Nat → Int) (j : Nat) (hj : j ≤ n)
    (hok : ∀ i, i < j → ∃ s, stp (rd_T37 L i).f0 S i = some ((rd_T37 L i).f1, (rd_T37 L i).f2, s) ∧ fit (rd_T37 L i) = true ∧ S i = s ∧ 1 ≤ S i ∧ S i ≤ (i : Int) + 1)
    (hbad : j < n → ¬ good fit S j (rd_T37 L j)) (w : World) (hr : Kd.C k37 w A n L) :
    Calls Tryd.prog 21 #[.agg #[.slice A n c]] w fun e w' => (if j < n then e = .returned (.tuple #[.slice none 0 0, .bool false]) else ∃ p, w.heap.size ≤ p ∧ e = .returned (.tuple #[.slice (some ⟨p, 0, none⟩) n n, .bool (decide (0 < n) && S (n - 1) == (n : Int))]) ∧ w'.heap[p]? = some (.cells (ic S n) 3 (0, 0))) ∧ Below w.heap.size w w' := by
  have mk := make_ints n hn2
  have PO := Lib.hid (blk2 w (.cells #[.slice A n c] 24) (ic (fun _ => 0) n) 3)
  have TO := Lib.hid (blk_alloc (heap_alloc_new w (.cells #[.slice A n c] 24)) (.cells (ic (fun _ => 0) n) 3))
  have HB := Lib.hid (below2 w (.cells #[.slice A n c] 24) (.cells (ic (fun _ => 0) n) 3))
  have HOK := Lib.hid hok
  have HBAD := Lib.hid hbad
  have HR := Lib.hid hr
  have HJ := Lib.hid hj
  have HF := Lib.hid hfit
  clear hok hbad hr hj hfit
  go_enter Tryd.func21, Tryd.ntmps21
  go_wp2
  generalize hW : (w.alloc (.cells #[.slice A n c] 24)).alloc (.cells (ic (fun _ => 0) n) 3) = v0 at *
  clear hW mk
  go_loopw [18] (fun t wr => ∃ i : Nat, i ≤ j ∧ t = .int .i64 (i : Nat) ∧ Hid (wr.heap[w.heap.size + 1]? = some (.cells (ic (upto S i) n) 3 (0, 0))) ∧ Hid (wr.heap[w.heap.size]? = some (.cells #[.slice A n c] 24 (0, 0))) ∧ Hid (Below w.heap.size w wr)) (fun t _ => n - (intOf t).toNat)
  case atStart => exact ⟨0, Nat.zero_le _, rfl, PO, TO, HB⟩
  case round =>
    clear PO TO HB
    obtain ⟨i, hi, rfl, PO, TO, HB⟩ := hrel
    have hjn := HJ.out
    by_cases h : i < n
    · obtain ⟨ad, hA, a0, a1, a2, a3, a4, a5, a6, a7, a8, a9, a10, a11⟩ := at_T37 HR.out (i : Int) (by omega) (by omega)
      subst hA
      rw [Int.toNat_natCast] at a0 a1 a2 a3 a4 a5 a6 a7 a8 a9 a10 a11
      have hi2 : (i : Int) < (n : Int) := by omega
      have KF := Lib.hid (HF.out (rd_T37 L i))
      have hcase : HCx (stp (rd_T37 L i).f0 S i) (fit (rd_T37 L i)) (rd_T37 L i).f1 (rd_T37 L i).f2 (S i) i j := by
        rcases Nat.lt_or_ge i j with hl | hl
        · obtain ⟨s, h1, h2, h3, _⟩ := HOK.out i hl
          exact .inl ⟨hl, h2, s, h1, h3⟩
        · obtain rfl : i = j := by omega
          exact .inr ⟨rfl, fun hh => HBAD.out h (by obtain ⟨h1, s, h2⟩ := hh; exact ⟨s, h2, h1⟩)⟩
      have HC := Lib.hid hcase
      clear hcase
      have HBS : Hid (∀ m, m < i → 1 ≤ S m ∧ S m ≤ (m : Int) + 1) := Lib.hid (fun m hm => by obtain ⟨s, _, _, _, h4, h5⟩ := HOK.out m (by omega); exact ⟨h4, h5⟩)
      generalize rd_T37 L i = x at *
      obtain ⟨xk, xa, xb, ⟨⟨s0, s1, s2, s3⟩⟩, x4, x5, x6, x7, x8⟩ := x
      simp only [nc] at a0 a1 a2 a3 a4 a5 a6 a7 a8 a9 a10 a11 KF
      replace a0 := below_of HB.out a0
      replace a1 := below_of HB.out a1
      replace a2 := below_of HB.out a2
      replace a3 := below_of HB.out a3
      replace a4 := below_of HB.out a4
      replace a5 := below_of HB.out a5
      replace a6 := below_of HB.out a6
      replace a7 := below_of HB.out a7
      replace a8 := below_of HB.out a8
      replace a9 := below_of HB.out a9
      replace a10 := below_of HB.out a10
      replace a11 := below_of HB.out a11
      have KK := Lib.hid (kids_calls xk)
      have BN := Lib.hid (heap_alloc_new wr (.cells #[.int .i64 xk, .int .i64 xa, .int .i64 xb, .int .u64 s0, .int .u64 s1, .int .u64 s2, .int .u64 s3, .int .i64 x4, .int .i64 x5, .int .i64 x6, .int .i64 x7, .bool x8] 37))
      have BO := Lib.hid (blk_alloc PO.out (.cells #[.int .i64 xk, .int .i64 xa, .int .i64 xb, .int .u64 s0, .int .u64 s1, .int .u64 s2, .int .u64 s3, .int .i64 x4, .int .i64 x5, .int .i64 x6, .int .i64 x7, .bool x8] 37))
      have BT := Lib.hid (blk_alloc TO.out (.cells #[.int .i64 xk, .int .i64 xa, .int .i64 xb, .int .u64 s0, .int .u64 s1, .int .u64 s2, .int .u64 s3, .int .i64 x4, .int .i64 x5, .int .i64 x6, .int .i64 x7, .bool x8] 37))
      have HB1 := Lib.hid (HB.out.alloc HB.out.size (.cells #[.int .i64 xk, .int .i64 xa, .int .i64 xb, .int .u64 s0, .int .u64 s1, .int .u64 s2, .int .u64 s3, .int .i64 x4, .int .i64 x5, .int .i64 x6, .int .i64 x7, .bool x8] 37))
      generalize hfx : fit ⟨xk, xa, xb, ⟨⟨s0, s1, s2, s3⟩⟩, x4, x5, x6, x7, x8⟩ = fb at *
      clear HB
      go_wp2_with fail
      refine (KK.out _).mono ?_
      rintro e w2 ⟨rfl, hb⟩
      have BN2 := Lib.hid (below_blk hb BN.out)
      have BO2 := Lib.hid (below_blk hb BO.out)
      have BT2 := Lib.hid (below_blk hb BT.out)
      have HB2 := Lib.hid (below_step HB1.out hb)
      clear hb BN BO BT HB1 KK a0 a1 a2 a3 a4 a5 a6 a7 a8 a9 a10 a11 PO TO
      generalize wr.heap.size = QN at *
      have n0 := blk_cell BN2.out 0 (.int .i64 xk) rfl
      have n1 := blk_cell BN2.out 1 (.int .i64 xa) rfl
      have n2 := blk_cell BN2.out 2 (.int .i64 xb) rfl
      have n3 := blk_cell BN2.out 3 (.int .u64 s0) rfl
      have n4 := blk_cell BN2.out 4 (.int .u64 s1) rfl
      have n5 := blk_cell BN2.out 5 (.int .u64 s2) rfl
      have n6 := blk_cell BN2.out 6 (.int .u64 s3) rfl
      have n7 := blk_cell BN2.out 7 (.int .i64 x4) rfl
      have n8 := blk_cell BN2.out 8 (.int .i64 x5) rfl
      have n9 := blk_cell BN2.out 9 (.int .i64 x6) rfl
      have n10 := blk_cell BN2.out 10 (.int .i64 x7) rfl
      have n11 := blk_cell BN2.out 11 (.bool x8) rfl
      rcases kd_cases xk with hk | hk | hk
      · have E : stp xk S i = some (0, 0, 1) := by unfold stp; rw [if_pos hk]
        rw [hk]
        go_wp2_with fail
        refine (KF.out _).mono ?_
        rintro e w3 ⟨rfl, hb⟩
        have m1 := below_of hb n1
        have m2 := below_of hb n2
        have BO3 := Lib.hid (below_blk hb BO2.out)
        have BT3 := Lib.hid (below_blk hb BT2.out)
        have HB3 := Lib.hid (below_step HB2.out hb)
        clear hb n0 n1 n2 n3 n4 n5 n6 n7 n8 n9 n10 n11 BO2 BT2 HB2 BN2 KF
        by_cases hg : fb = true ∧ xa = 0 ∧ xb = 0
        · obtain ⟨g0, g1, g2⟩ := hg
          obtain ⟨hij, hS⟩ := hc_good HC.out E g0 g1 g2
          have d1 : (xa != 0) = false := by simp [g1]
          have d2 : (xb != 0) = false := by simp [g2]
          have c0 := blk_cell BO3.out i _ (upto_here h)
          have f0 := blk_free BO3.out i
          have BO4 := set_blk (i := i) BO3.out (.int .i64 (1))
          rw [upto_set h hS] at BO4
          have BO4 := Lib.hid BO4
          have BT4 := Lib.hid (set_other (c := w.heap.size + 1) (i := i) (v := .int .i64 (1)) BT3.out (by omega))
          have HB4 := Lib.hid (below_set (i := i) HB3.out (show w.heap.size ≤ w.heap.size + 1 by omega) (.int .i64 (1)))
          clear HC E BO3 BT3 HB3 hS hfx g1 g2
          subst g0
          go_wp2
          go_roundw
          case rel => exact ⟨i + 1, by omega, by simp, BO4, BT4, HB4⟩
          case measure => simp [intOf]; omega
        · obtain rfl := hc_bad HC.out E hg
          have hjn := h
          clear HC E hfx
          cases fb
          · go_wp2
            go_ret2
            exact ⟨by first | rfl | exact (if_pos h).mpr rfl, HB3.out⟩
          · by_cases g1 : xa = 0
            · have g2 : ¬ xb = 0 := fun e => hg ⟨rfl, g1, e⟩
              have d1 : (xa != 0) = false := by simp [g1]
              have d2 : (xb != 0) = true := by simp [g2]
              clear hg g1 g2
              go_wp2
              go_ret2
              exact ⟨by first | rfl | exact (if_pos h).mpr rfl, HB3.out⟩
            · have d1 : (xa != 0) = true := by simp [g1]
              clear hg g1
              go_wp2
              go_ret2
              exact ⟨by first | rfl | exact (if_pos h).mpr rfl, HB3.out⟩
      · by_cases hi0 : i = 0
        · have E : stp xk S i = none := by unfold stp; rw [if_neg (by omega), if_pos hk, if_pos hi0]
          rw [hk]
          have hi1 : ((i : Nat) : Int) - 1 < 0 := by omega
          obtain rfl := hc_none HC.out E
          clear HC E hfx
          go_wp2
          go_ret2
          exact ⟨by first | rfl | exact (if_pos h).mpr rfl, HB2.out⟩
        · obtain ⟨m, hm⟩ : ∃ m, i = m + 1 := ⟨i - 1, by omega⟩
          have hmi : (i : Int) - 1 = (m : Int) := by omega
          have hm2 : i - 1 = m := by omega
          have hml : m < i := by omega
          have E : stp xk S i = some ((m : Int), 0, 1 + S m) := by unfold stp; rw [if_neg (by omega), if_pos hk, if_neg hi0, hmi, hm2]
          have hbm := HBS.out m hml
          have q1 := blk_cell BO2.out m _ (upto_at h hml)
          have hmn : (m : Int) < (n : Int) := by omega
          clear hm hm2 hi0
          rw [hk]
          generalize S m = sm at *
          go_wp2_with fail
          refine (KF.out _).mono ?_
          rintro e w3 ⟨rfl, hb⟩
          have m1 := below_of hb n1
          have m2 := below_of hb n2
          have BO3 := Lib.hid (below_blk hb BO2.out)
          have BT3 := Lib.hid (below_blk hb BT2.out)
          have HB3 := Lib.hid (below_step HB2.out hb)
          clear hb n0 n1 n2 n3 n4 n5 n6 n7 n8 n9 n10 n11 BO2 BT2 HB2 BN2 KF
          by_cases hg : fb = true ∧ xa = (m : Int) ∧ xb = 0
          · obtain ⟨g0, g1, g2⟩ := hg
            obtain ⟨hij, hS⟩ := hc_good HC.out E g0 g1 g2
            have d1 : (xa != (m : Int)) = false := by simp [g1]
            have d2 : (xb != 0) = false := by simp [g2]
            have c0 := blk_cell BO3.out i _ (upto_here h)
            have f0 := blk_free BO3.out i
            have BO4 := set_blk (i := i) BO3.out (.int .i64 (1 + sm))
            rw [upto_set h hS] at BO4
            have BO4 := Lib.hid BO4
            have BT4 := Lib.hid (set_other (c := w.heap.size + 1) (i := i) (v := .int .i64 (1 + sm)) BT3.out (by omega))
            have HB4 := Lib.hid (below_set (i := i) HB3.out (show w.heap.size ≤ w.heap.size + 1 by omega) (.int .i64 (1 + sm)))
            clear HC E BO3 BT3 HB3 hS hfx g1 g2
            subst g0
            go_wp2
            go_roundw
            case rel => exact ⟨i + 1, by omega, by simp, BO4, BT4, HB4⟩
            case measure => simp [intOf]; omega
          · obtain rfl := hc_bad HC.out E hg
            have hjn := h
            clear HC E hfx
            cases fb
            · go_wp2
              go_ret2
              exact ⟨by first | rfl | exact (if_pos h).mpr rfl, HB3.out⟩
            · by_cases g1 : xa = (m : Int)
              · have g2 : ¬ xb = 0 := fun e => hg ⟨rfl, g1, e⟩
                have d1 : (xa != (m : Int)) = false := by simp [g1]
                have d2 : (xb != 0) = true := by simp [g2]
                clear hg g1 g2
                go_wp2
                go_ret2
                exact ⟨by first | rfl | exact (if_pos h).mpr rfl, HB3.out⟩
              · have d1 : (xa != (m : Int)) = true := by simp [g1]
                clear hg g1
                go_wp2
                go_ret2
                exact ⟨by first | rfl | exact (if_pos h).mpr rfl, HB3.out⟩
      · by_cases hi0 : i = 0
        · have E : stp xk S i = none := by unfold stp; rw [if_neg (by omega), if_neg (by omega), if_pos hi0]
          rw [hk]
          have hi1 : ((i : Nat) : Int) - 1 < 0 := by omega
          obtain rfl := hc_none HC.out E
          clear HC E hfx
          go_wp2
          go_ret2
          exact ⟨by first | rfl | exact (if_pos h).mpr rfl, HB2.out⟩
        · obtain ⟨m, hm⟩ : ∃ m, i = m + 1 := ⟨i - 1, by omega⟩
          have hmi : (i : Int) - 1 = (m : Int) := by omega
          have hm2 : i - 1 = m := by omega
          have hml : m < i := by omega
          have hbm := HBS.out m hml
          have q1 := blk_cell BO2.out m _ (upto_at h hml)
          have hmn : (m : Int) < (n : Int) := by omega
          by_cases hneg : (m : Int) - S m < 0
          · have E : stp xk S i = none := by unfold stp; rw [if_neg (by omega), if_neg (by omega), if_neg hi0, hmi, hm2, if_pos hneg]
            clear hm hm2 hi0
            rw [hk]
            generalize S m = sm at *
            obtain rfl := hc_none HC.out E
            clear HC E hfx
            go_wp2
            go_ret2
            exact ⟨by first | rfl | exact (if_pos h).mpr rfl, HB2.out⟩
          · obtain ⟨p, hp⟩ : ∃ p : Nat, (m : Int) - S m = (p : Int) := ⟨((m : Int) - S m).toNat, by omega⟩
            have hpl : p < i := by omega
            have E : stp xk S i = some ((p : Int), (m : Int), 1 + (S p + S m)) := by unfold stp; rw [if_neg (by omega), if_neg (by omega), if_neg hi0, hmi, hm2, if_neg hneg, hp, Int.toNat_natCast]
            have hbp := HBS.out p hpl
            have q2 := blk_cell BO2.out p _ (upto_at h hpl)
            have hpn : (p : Int) < (n : Int) := by omega
            clear hm hm2 hi0 hneg
            rw [hk]
            generalize S m = sm at *
            generalize S p = sp at *
            go_wp2
            go_quiet (fail)
            have n1 := below_of (below_drewN (Below.refl _ _) nq) n1
            have n2 := below_of (below_drewN (Below.refl _ _) nq) n2
            have n0 := below_of (below_drewN (Below.refl _ _) nq) n0
            have n3 := below_of (below_drewN (Below.refl _ _) nq) n3
            have n4 := below_of (below_drewN (Below.refl _ _) nq) n4
            have n5 := below_of (below_drewN (Below.refl _ _) nq) n5
            have n6 := below_of (below_drewN (Below.refl _ _) nq) n6
            have n7 := below_of (below_drewN (Below.refl _ _) nq) n7
            have n8 := below_of (below_drewN (Below.refl _ _) nq) n8
            have n9 := below_of (below_drewN (Below.refl _ _) nq) n9
            have n10 := below_of (below_drewN (Below.refl _ _) nq) n10
            have n11 := below_of (below_drewN (Below.refl _ _) nq) n11
            have BO2 := Lib.hid (below_blk (below_drewN (Below.refl _ _) nq) BO2.out)
            have BT2 := Lib.hid (below_blk (below_drewN (Below.refl _ _) nq) BT2.out)
            have HB2 := Lib.hid (below_drewN HB2.out nq)
            generalize hW : w2.drewN nq = v2 at *
            clear hW
            go_wp2_with fail
            refine (KF.out _).mono ?_
            rintro e w3 ⟨rfl, hb⟩
            have m1 := below_of hb n1
            have m2 := below_of hb n2
            have BO3 := Lib.hid (below_blk hb BO2.out)
            have BT3 := Lib.hid (below_blk hb BT2.out)
            have HB3 := Lib.hid (below_step HB2.out hb)
            clear hb n0 n1 n2 n3 n4 n5 n6 n7 n8 n9 n10 n11 BO2 BT2 HB2 BN2 KF
            by_cases hg : fb = true ∧ xa = (p : Int) ∧ xb = (m : Int)
            · obtain ⟨g0, g1, g2⟩ := hg
              obtain ⟨hij, hS⟩ := hc_good HC.out E g0 g1 g2
              have d1 : (xa != (p : Int)) = false := by simp [g1]
              have d2 : (xb != (m : Int)) = false := by simp [g2]
              have c0 := blk_cell BO3.out i _ (upto_here h)
              have f0 := blk_free BO3.out i
              have BO4 := set_blk (i := i) BO3.out (.int .i64 (1 + (sp + sm)))
              rw [upto_set h hS] at BO4
              have BO4 := Lib.hid BO4
              have BT4 := Lib.hid (set_other (c := w.heap.size + 1) (i := i) (v := .int .i64 (1 + (sp + sm))) BT3.out (by omega))
              have HB4 := Lib.hid (below_set (i := i) HB3.out (show w.heap.size ≤ w.heap.size + 1 by omega) (.int .i64 (1 + (sp + sm))))
              clear HC E BO3 BT3 HB3 hS hfx g1 g2
              subst g0
              go_wp2
              go_roundw
              case rel => exact ⟨i + 1, by omega, by simp, BO4, BT4, HB4⟩
              case measure => simp [intOf]; omega
            · obtain rfl := hc_bad HC.out E hg
              have hjn := h
              clear HC E hfx
              cases fb
              · go_wp2
                go_ret2
                exact ⟨by first | rfl | exact (if_pos h).mpr rfl, HB3.out⟩
              · by_cases g1 : xa = (p : Int)
                · have g2 : ¬ xb = (m : Int) := fun e => hg ⟨rfl, g1, e⟩
                  have d1 : (xa != (p : Int)) = false := by simp [g1]
                  have d2 : (xb != (m : Int)) = true := by simp [g2]
                  clear hg g1 g2
                  go_wp2
                  go_ret2
                  exact ⟨by first | rfl | exact (if_pos h).mpr rfl, HB3.out⟩
                · have d1 : (xa != (p : Int)) = true := by simp [g1]
                  clear hg g1
                  go_wp2
                  go_ret2
                  exact ⟨by first | rfl | exact (if_pos h).mpr rfl, HB3.out⟩
    · obtain rfl : i = n := by omega
      obtain rfl : i = j := by omega
      rw [upto_all] at PO
      have hi2 : ¬ ((i : Int) < (i : Int)) := by omega
      have hlt : ¬ (i < i) := Nat.lt_irrefl i
      have tb := blk_cell TO.out 0 (.slice A i c) rfl
      have HPO := Lib.hid PO.out
      clear PO TO HOK HBAD HJ HF
      rcases Nat.eq_zero_or_pos i with h0 | h0
      · subst h0
        go_wp2
        go_quiet (fail)
        go_wp2
        go_ret2
        exact ⟨⟨w.heap.size + 1, Nat.le_succ _, rfl, below_blk (below_drewN (Below.refl _ _) nq) HPO.out⟩, below_drewN HB.out nq⟩
      · obtain ⟨m, hm⟩ : ∃ m, i = m + 1 := ⟨i - 1, by omega⟩
        have hmi : (i : Int) - 1 = (m : Int) := by omega
        have hm2 : i - 1 = m := by omega
        have q1 := blk_cell HPO.out m _ (ic_at S i m (by omega))
        have hmn : (m : Int) < (i : Int) := by omega
        have gm : decide ((m : Int) ≥ 0) = true := by simp
        clear hm
        generalize hsm : S m = sm at *
        go_wp2
        go_quiet (fail)
        go_wp2
        go_ret2
        exact ⟨⟨w.heap.size + 1, Nat.le_succ _, rfl, below_blk (below_drewN (Below.refl _ _) nq) HPO.out⟩, below_drewN HB.out nq⟩
end Go.Proofs.YtaaihcojedibeaaDoor.DSizes
end
section
/- show.ways: the table of kinds, as a map; and how a kind is looked up in it. -/
namespace Go.Proofs.YtaaihcojedibeaaDoor.SWays
open Go.RowKit
set_option linter.unusedVariables false
set_option maxRecDepth 100000
def way (s : Array UInt8) (f : Nat) : Value := .agg #[.string ⟨s⟩, .func (.func f) #[] #[]]
def ents : List MapEntry := [⟨.int .i64 0, .agg #[.string ⟨#[40, 63, 58, 41]⟩, .func (.func 38) #[] #[]], 0⟩,
  ⟨.int .i64 2, .agg #[.string ⟨#[94]⟩, .func (.func 38) #[] #[]], 1⟩,
  ⟨.int .i64 3, .agg #[.string ⟨#[36]⟩, .func (.func 38) #[] #[]], 2⟩,
  ⟨.int .i64 4, .agg #[.string ⟨#[40, 63, 109, 58, 94, 41]⟩, .func (.func 38) #[] #[]], 3⟩,
  ⟨.int .i64 5, .agg #[.string ⟨#[40, 63, 109, 58, 36, 41]⟩, .func (.func 38) #[] #[]], 4⟩,
  ⟨.int .i64 6, .agg #[.string ⟨#[92, 98]⟩, .func (.func 38) #[] #[]], 5⟩,
  ⟨.int .i64 7, .agg #[.string ⟨#[92, 66]⟩, .func (.func 38) #[] #[]], 6⟩,
  ⟨.int .i64 11, .agg #[.string ⟨#[40]⟩, .func (.func 39) #[] #[]], 7⟩,
  ⟨.int .i64 13, .agg #[.string ⟨#[40, 63, 61]⟩, .func (.func 39) #[] #[]], 8⟩,
  ⟨.int .i64 14, .agg #[.string ⟨#[40, 63, 33]⟩, .func (.func 39) #[] #[]], 9⟩,
  ⟨.int .i64 15, .agg #[.string ⟨#[40, 63, 60, 61]⟩, .func (.func 39) #[] #[]], 10⟩,
  ⟨.int .i64 16, .agg #[.string ⟨#[40, 63, 60, 33]⟩, .func (.func 39) #[] #[]], 11⟩,
  ⟨.int .i64 17, .agg #[.string ⟨#[40, 63, 62]⟩, .func (.func 39) #[] #[]], 12⟩,
  ⟨.int .i64 1, .agg #[.string ⟨#[]⟩, .func (.func 40) #[] #[]], 13⟩,
  ⟨.int .i64 12, .agg #[.string ⟨#[]⟩, .func (.func 41) #[] #[]], 14⟩,
  ⟨.int .i64 8, .agg #[.string ⟨#[]⟩, .func (.func 43) #[] #[]], 15⟩,
  ⟨.int .i64 9, .agg #[.string ⟨#[]⟩, .func (.func 45) #[] #[]], 16⟩,
  ⟨.int .i64 10, .agg #[.string ⟨#[]⟩, .func (.func 46) #[] #[]], 17⟩]
/-- the world in which so many entries are in the map -/
def MW (w : World) (j : Nat) : World := w.alloc (.map (ents.take j).toArray j)
theorem ins_at (w : World) (j : Nat) (e : MapEntry) (k : Int) (hk : e.key = .int .i64 k) (hb : e.born = j) (he : ents.take (j + 1) = ents.take j ++ [e]) (hf : Instr.findNow (.int .i64) (.int .i64 k) (ents.take j) 0 = some none) :
    (Instr.mapUpdate 58 (.map (some w.heap.size)) (.int .i64 k) e.val).run Tryd.prog (MW w j) = .ok () (MW w (j + 1)) := by
  have hg : (MW w j).heap[w.heap.size]? = some (.map (ents.take j).toArray j) := by unfold MW; exact heap_alloc_new _ _
  have hm : Tryd.prog.underlying 58 = some (.map 3 57) := Tryd.underlying58
  have hi : Tryd.prog.underlying 3 = some (.int .i64) := Tryd.underlying3
  have hc : ∀ W, (Instr.checkKey false 10000 3 (.int .i64 k)).run Tryd.prog W = .ok () W := fun W => MapKept.run_checkKey (k := .int .i64 k) hi (by simp [MapKept.IsKey]) false 9999
  simp only [Instr.mapUpdate, Sem.run_bind, run_underlying hm, Result.andThen, MapKept.run_getObj_map hg, hc, MapKept.run_findKey hi (show Instr.findNow (.int .i64) (.int .i64 k) (ents.take j).toArray.toList 0 = some none from hf), MapKept.run_setObj_map _ hg]
  congr 1
  unfold MW
  rw [he]
  generalize ents.take j = xs
  obtain ⟨key, val, born⟩ := e
  simp only [] at hk hb
  subst hk hb
  unfold World.alloc
  simp only [World.mk.injEq, and_true]
  apply Array.ext_getElem?
  intro i
  rw [Array.getElem?_setIfInBounds, Array.getElem?_push, Array.getElem?_push]
  by_cases h : w.heap.size = i
  · subst h; simp
  · rw [if_neg h, if_neg (fun e => h e.symm), if_neg (fun e => h e.symm)]
set_option maxHeartbeats 6400000 in
theorem ways_calls (w : World) : Calls Tryd.prog 24 #[] w fun e w' => e = .returned (.map (some w.heap.size)) ∧ w'.heap[w.heap.size]? = some (.map ents.toArray 18) ∧ Below w.heap.size w w' := by
  have hmm : (Instr.makeMap 58 none).run Tryd.prog w = .ok (.map (some w.heap.size)) (MW w 0) := run_makeMap _ _
  have ke0 : (Instr.mapUpdate 58 (.map (some w.heap.size)) (.int .i64 0) (.agg #[.string ⟨#[40, 63, 58, 41]⟩, .func (.func 38) #[] #[]])).run Tryd.prog (MW w 0) = .ok () (MW w 1) := ins_at w 0 (⟨.int .i64 0, .agg #[.string ⟨#[40, 63, 58, 41]⟩, .func (.func 38) #[] #[]], 0⟩) 0 rfl rfl rfl rfl
  have ke1 : (Instr.mapUpdate 58 (.map (some w.heap.size)) (.int .i64 2) (.agg #[.string ⟨#[94]⟩, .func (.func 38) #[] #[]])).run Tryd.prog (MW w 1) = .ok () (MW w 2) := ins_at w 1 (⟨.int .i64 2, .agg #[.string ⟨#[94]⟩, .func (.func 38) #[] #[]], 1⟩) 2 rfl rfl rfl rfl
  have ke2 : (Instr.mapUpdate 58 (.map (some w.heap.size)) (.int .i64 3) (.agg #[.string ⟨#[36]⟩, .func (.func 38) #[] #[]])).run Tryd.prog (MW w 2) = .ok () (MW w 3) := ins_at w 2 (⟨.int .i64 3, .agg #[.string ⟨#[36]⟩, .func (.func 38) #[] #[]], 2⟩) 3 rfl rfl rfl rfl
  have ke3 : (Instr.mapUpdate 58 (.map (some w.heap.size)) (.int .i64 4) (.agg #[.string ⟨#[40, 63, 109, 58, 94, 41]⟩, .func (.func 38) #[] #[]])).run Tryd.prog (MW w 3) = .ok () (MW w 4) := ins_at w 3 (⟨.int .i64 4, .agg #[.string ⟨#[40, 63, 109, 58, 94, 41]⟩, .func (.func 38) #[] #[]], 3⟩) 4 rfl rfl rfl rfl
  have ke4 : (Instr.mapUpdate 58 (.map (some w.heap.size)) (.int .i64 5) (.agg #[.string ⟨#[40, 63, 109, 58, 36, 41]⟩, .func (.func 38) #[] #[]])).run Tryd.prog (MW w 4) = .ok () (MW w 5) := ins_at w 4 (⟨.int .i64 5, .agg #[.string ⟨#[40, 63, 109, 58, 36, 41]⟩, .func (.func 38) #[] #[]], 4⟩) 5 rfl rfl rfl rfl
  have ke5 : (Instr.mapUpdate 58 (.map (some w.heap.size)) (.int .i64 6) (.agg #[.string ⟨#[92, 98]⟩, .func (.func 38) #[] #[]])).run Tryd.prog (MW w 5) = .ok () (MW w 6) := ins_at w 5 (⟨.int .i64 6, .agg #[.string ⟨#[92, 98]⟩, .func (.func 38) #[] #[]], 5⟩) 6 rfl rfl rfl rfl
  have ke6 : (Instr.mapUpdate 58 (.map (some w.heap.size)) (.int .i64 7) (.agg #[.string ⟨#[92, 66]⟩, .func (.func 38) #[] #[]])).run Tryd.prog (MW w 6) = .ok () (MW w 7) := ins_at w 6 (⟨.int .i64 7, .agg #[.string ⟨#[92, 66]⟩, .func (.func 38) #[] #[]], 6⟩) 7 rfl rfl rfl rfl
  have ke7 : (Instr.mapUpdate 58 (.map (some w.heap.size)) (.int .i64 11) (.agg #[.string ⟨#[40]⟩, .func (.func 39) #[] #[]])).run Tryd.prog (MW w 7) = .ok () (MW w 8) := ins_at w 7 (⟨.int .i64 11, .agg #[.string ⟨#[40]⟩, .func (.func 39) #[] #[]], 7⟩) 11 rfl rfl rfl rfl
  have ke8 : (Instr.mapUpdate 58 (.map (some w.heap.size)) (.int .i64 13) (.agg #[.string ⟨#[40, 63, 61]⟩, .func (.func 39) #[] #[]])).run Tryd.prog (MW w 8) = .ok () (MW w 9) := ins_at w 8 (⟨.int .i64 13, .agg #[.string ⟨#[40, 63, 61]⟩, .func (.func 39) #[] #[]], 8⟩) 13 rfl rfl rfl rfl
  have ke9 : (Instr.mapUpdate 58 (.map (some w.heap.size)) (.int .i64 14) (.agg #[.string ⟨#[40, 63, 33]⟩, .func (.func 39) #[] #[]])).run Tryd.prog (MW w 9) = .ok () (MW w 10) := ins_at w 9 (⟨.int .i64 14, .agg #[.string ⟨#[40, 63, 33]⟩, .func (.func 39) #[] #[]], 9⟩) 14 rfl rfl rfl rfl
  have ke10 : (Instr.mapUpdate 58 (.map (some w.heap.size)) (.int .i64 15) (.agg #[.string ⟨#[40, 63, 60, 61]⟩, .func (.func 39) #[] #[]])).run Tryd.prog (MW w 10) = .ok () (MW w 11) := ins_at w 10 (⟨.int .i64 15, .agg #[.string ⟨#[40, 63, 60, 61]⟩, .func (.func 39) #[] #[]], 10⟩) 15 rfl rfl rfl rfl
  have ke11 : (Instr.mapUpdate 58 (.map (some w.heap.size)) (.int .i64 16) (.agg #[.string ⟨#[40, 63, 60, 33]⟩, .func (.func 39) #[] #[]])).run Tryd.prog (MW w 11) = .ok () (MW w 12) := ins_at w 11 (⟨.int .i64 16, .agg #[.string ⟨#[40, 63, 60, 33]⟩, .func (.func 39) #[] #[]], 11⟩) 16 rfl rfl rfl rfl
  have ke12 : (Instr.mapUpdate 58 (.map (some w.heap.size)) (.int .i64 17) (.agg #[.string ⟨#[40, 63, 62]⟩, .func (.func 39) #[] #[]])).run Tryd.prog (MW w 12) = .ok () (MW w 13) := ins_at w 12 (⟨.int .i64 17, .agg #[.string ⟨#[40, 63, 62]⟩, .func (.func 39) #[] #[]], 12⟩) 17 rfl rfl rfl rfl
  have ke13 : (Instr.mapUpdate 58 (.map (some w.heap.size)) (.int .i64 1) (.agg #[.string ⟨#[]⟩, .func (.func 40) #[] #[]])).run Tryd.prog (MW w 13) = .ok () (MW w 14) := ins_at w 13 (⟨.int .i64 1, .agg #[.string ⟨#[]⟩, .func (.func 40) #[] #[]], 13⟩) 1 rfl rfl rfl rfl
  have ke14 : (Instr.mapUpdate 58 (.map (some w.heap.size)) (.int .i64 12) (.agg #[.string ⟨#[]⟩, .func (.func 41) #[] #[]])).run Tryd.prog (MW w 14) = .ok () (MW w 15) := ins_at w 14 (⟨.int .i64 12, .agg #[.string ⟨#[]⟩, .func (.func 41) #[] #[]], 14⟩) 12 rfl rfl rfl rfl
  have ke15 : (Instr.mapUpdate 58 (.map (some w.heap.size)) (.int .i64 8) (.agg #[.string ⟨#[]⟩, .func (.func 43) #[] #[]])).run Tryd.prog (MW w 15) = .ok () (MW w 16) := ins_at w 15 (⟨.int .i64 8, .agg #[.string ⟨#[]⟩, .func (.func 43) #[] #[]], 15⟩) 8 rfl rfl rfl rfl
  have ke16 : (Instr.mapUpdate 58 (.map (some w.heap.size)) (.int .i64 9) (.agg #[.string ⟨#[]⟩, .func (.func 45) #[] #[]])).run Tryd.prog (MW w 16) = .ok () (MW w 17) := ins_at w 16 (⟨.int .i64 9, .agg #[.string ⟨#[]⟩, .func (.func 45) #[] #[]], 16⟩) 9 rfl rfl rfl rfl
  have ke17 : (Instr.mapUpdate 58 (.map (some w.heap.size)) (.int .i64 10) (.agg #[.string ⟨#[]⟩, .func (.func 46) #[] #[]])).run Tryd.prog (MW w 17) = .ok () (MW w 18) := ins_at w 17 (⟨.int .i64 10, .agg #[.string ⟨#[]⟩, .func (.func 46) #[] #[]], 17⟩) 10 rfl rfl rfl rfl
  have h18 : (MW w 18).heap[w.heap.size]? = some (.map ents.toArray 18) := by unfold MW; exact heap_alloc_new _ _
  have hb18 : Below w.heap.size w (MW w 18) := by unfold MW; exact (Below.refl w.heap.size w).alloc (Nat.le_refl _) _
  have H18 := Lib.hid h18
  have HB18 := Lib.hid hb18
  clear h18 hb18
  go_enter Tryd.func24, Tryd.ntmps24
  go_wp2
  go_ret
  exact ⟨rfl, H18.out, HB18.out⟩
theorem look_at {W : World} {g i : Nat} {k : Int} {v : Value} (hg : W.heap[g]? = some (.map ents.toArray 18)) (hf : Instr.findNow (.int .i64) (.int .i64 k) ents 0 = some (some (i, v))) :
    (Instr.lookup 58 (.map (some g)) (.int .i64 k) false).run Tryd.prog W = .ok v W := by
  have hm : Tryd.prog.underlying 58 = some (.map 3 57) := Tryd.underlying58
  have hi : Tryd.prog.underlying 3 = some (.int .i64) := Tryd.underlying3
  have hc : ∀ b W, (Instr.checkKey b 10000 3 (.int .i64 k)).run Tryd.prog W = .ok () W := fun b W => MapKept.run_checkKey (k := .int .i64 k) hi (by simp [MapKept.IsKey]) b 9999
  simp [Instr.lookup, Sem.run_bind, run_underlying hm, Result.andThen, MapKept.run_getObj_map hg, hc, MapKept.run_findKey hi hf]
theorem look_0 {W : World} {g : Nat} (hg : W.heap[g]? = some (.map ents.toArray 18)) : (Instr.lookup 58 (.map (some g)) (.int .i64 0) false).run Tryd.prog W = .ok (.agg #[.string ⟨#[40, 63, 58, 41]⟩, .func (.func 38) #[] #[]]) W := look_at (i := 0) hg rfl
theorem look_2 {W : World} {g : Nat} (hg : W.heap[g]? = some (.map ents.toArray 18)) : (Instr.lookup 58 (.map (some g)) (.int .i64 2) false).run Tryd.prog W = .ok (.agg #[.string ⟨#[94]⟩, .func (.func 38) #[] #[]]) W := look_at (i := 1) hg rfl
theorem look_3 {W : World} {g : Nat} (hg : W.heap[g]? = some (.map ents.toArray 18)) : (Instr.lookup 58 (.map (some g)) (.int .i64 3) false).run Tryd.prog W = .ok (.agg #[.string ⟨#[36]⟩, .func (.func 38) #[] #[]]) W := look_at (i := 2) hg rfl
theorem look_4 {W : World} {g : Nat} (hg : W.heap[g]? = some (.map ents.toArray 18)) : (Instr.lookup 58 (.map (some g)) (.int .i64 4) false).run Tryd.prog W = .ok (.agg #[.string ⟨#[40, 63, 109, 58, 94, 41]⟩, .func (.func 38) #[] #[]]) W := look_at (i := 3) hg rfl
theorem look_5 {W : World} {g : Nat} (hg : W.heap[g]? = some (.map ents.toArray 18)) : (Instr.lookup 58 (.map (some g)) (.int .i64 5) false).run Tryd.prog W = .ok (.agg #[.string ⟨#[40, 63, 109, 58, 36, 41]⟩, .func (.func 38) #[] #[]]) W := look_at (i := 4) hg rfl
theorem look_6 {W : World} {g : Nat} (hg : W.heap[g]? = some (.map ents.toArray 18)) : (Instr.lookup 58 (.map (some g)) (.int .i64 6) false).run Tryd.prog W = .ok (.agg #[.string ⟨#[92, 98]⟩, .func (.func 38) #[] #[]]) W := look_at (i := 5) hg rfl
theorem look_7 {W : World} {g : Nat} (hg : W.heap[g]? = some (.map ents.toArray 18)) : (Instr.lookup 58 (.map (some g)) (.int .i64 7) false).run Tryd.prog W = .ok (.agg #[.string ⟨#[92, 66]⟩, .func (.func 38) #[] #[]]) W := look_at (i := 6) hg rfl
theorem look_11 {W : World} {g : Nat} (hg : W.heap[g]? = some (.map ents.toArray 18)) : (Instr.lookup 58 (.map (some g)) (.int .i64 11) false).run Tryd.prog W = .ok (.agg #[.string ⟨#[40]⟩, .func (.func 39) #[] #[]]) W := look_at (i := 7) hg rfl
theorem look_13 {W : World} {g : Nat} (hg : W.heap[g]? = some (.map ents.toArray 18)) : (Instr.lookup 58 (.map (some g)) (.int .i64 13) false).run Tryd.prog W = .ok (.agg #[.string ⟨#[40, 63, 61]⟩, .func (.func 39) #[] #[]]) W := look_at (i := 8) hg rfl
theorem look_14 {W : World} {g : Nat} (hg : W.heap[g]? = some (.map ents.toArray 18)) : (Instr.lookup 58 (.map (some g)) (.int .i64 14) false).run Tryd.prog W = .ok (.agg #[.string ⟨#[40, 63, 33]⟩, .func (.func 39) #[] #[]]) W := look_at (i := 9) hg rfl
theorem look_15 {W : World} {g : Nat} (hg : W.heap[g]? = some (.map ents.toArray 18)) : (Instr.lookup 58 (.map (some g)) (.int .i64 15) false).run Tryd.prog W = .ok (.agg #[.string ⟨#[40, 63, 60, 61]⟩, .func (.func 39) #[] #[]]) W := look_at (i := 10) hg rfl
theorem look_16 {W : World} {g : Nat} (hg : W.heap[g]? = some (.map ents.toArray 18)) : (Instr.lookup 58 (.map (some g)) (.int .i64 16) false).run Tryd.prog W = .ok (.agg #[.string ⟨#[40, 63, 60, 33]⟩, .func (.func 39) #[] #[]]) W := look_at (i := 11) hg rfl
theorem look_17 {W : World} {g : Nat} (hg : W.heap[g]? = some (.map ents.toArray 18)) : (Instr.lookup 58 (.map (some g)) (.int .i64 17) false).run Tryd.prog W = .ok (.agg #[.string ⟨#[40, 63, 62]⟩, .func (.func 39) #[] #[]]) W := look_at (i := 12) hg rfl
theorem look_1 {W : World} {g : Nat} (hg : W.heap[g]? = some (.map ents.toArray 18)) : (Instr.lookup 58 (.map (some g)) (.int .i64 1) false).run Tryd.prog W = .ok (.agg #[.string ⟨#[]⟩, .func (.func 40) #[] #[]]) W := look_at (i := 13) hg rfl
theorem look_12 {W : World} {g : Nat} (hg : W.heap[g]? = some (.map ents.toArray 18)) : (Instr.lookup 58 (.map (some g)) (.int .i64 12) false).run Tryd.prog W = .ok (.agg #[.string ⟨#[]⟩, .func (.func 41) #[] #[]]) W := look_at (i := 14) hg rfl
theorem look_8 {W : World} {g : Nat} (hg : W.heap[g]? = some (.map ents.toArray 18)) : (Instr.lookup 58 (.map (some g)) (.int .i64 8) false).run Tryd.prog W = .ok (.agg #[.string ⟨#[]⟩, .func (.func 43) #[] #[]]) W := look_at (i := 15) hg rfl
theorem look_9 {W : World} {g : Nat} (hg : W.heap[g]? = some (.map ents.toArray 18)) : (Instr.lookup 58 (.map (some g)) (.int .i64 9) false).run Tryd.prog W = .ok (.agg #[.string ⟨#[]⟩, .func (.func 45) #[] #[]]) W := look_at (i := 16) hg rfl
theorem look_10 {W : World} {g : Nat} (hg : W.heap[g]? = some (.map ents.toArray 18)) : (Instr.lookup 58 (.map (some g)) (.int .i64 10) false).run Tryd.prog W = .ok (.agg #[.string ⟨#[]⟩, .func (.func 46) #[] #[]]) W := look_at (i := 17) hg rfl
end Go.Proofs.YtaaihcojedibeaaDoor.SWays
end
section
/- May a node be, but for its children? -/
namespace Go.Proofs.YtaaihcojedibeaaDoor.DRFits
set_option maxRecDepth 100000
set_option linter.unusedVariables false
/-- may a node be, but for its children? -/
def rfit (k : Int) (s0 s1 s2 s3 mi ma mo n : Int) (fo : Bool) : Bool :=
  decide (0 ≤ k) && decide (k ≤ 17) && (k == 1 || (s0 == 0 && (s1 == 0 && (s2 == 0 && s3 == 0)))) && (k == 10 || (mi == 0 && ma == 0 && mo == 0)) && (k == 11 || k == 12 || n == 0) && (k == 12 || !fo) &&
  (k != 10 || (decide (0 ≤ mi) && decide (mi ≤ 100) && decide (ma ≤ 100) && (ma == -1 || decide (mi ≤ ma)) && decide (0 ≤ mo) && decide (mo ≤ 2)))
end Go.Proofs.YtaaihcojedibeaaDoor.DRFits
end
section
/- ast.Node.own: its walk. -/
namespace Go.Proofs.YtaaihcojedibeaaDoor.DOwn
open Go.RowKit CMem DRow Q Go.Proofs.YtaaihcojedibeaaDoorW.PrintWords Go.Proofs.YtaaihcojedibeaaDoorW.PrintLast Go.Proofs.YtaaihcojedibeaaDoorW.PrintMore
set_option linter.unusedVariables false
set_option linter.unusedSimpArgs false
set_option maxRecDepth 100000
/-- what of a node its kind has -/
def owna (k s0 s1 s2 s3 mi ma mo n : Int) (fo : Bool) : Array Value :=
  if k = 1 then #[.int .i64 k, .int .i64 0, .int .i64 0, .int .u64 s0, .int .u64 s1, .int .u64 s2, .int .u64 s3, .int .i64 0, .int .i64 0, .int .i64 0, .int .i64 0, .bool false]
  else if k = 10 then #[.int .i64 k, .int .i64 0, .int .i64 0, .int .u64 0, .int .u64 0, .int .u64 0, .int .u64 0, .int .i64 mi, .int .i64 ma, .int .i64 mo, .int .i64 0, .bool false]
  else if k = 11 then #[.int .i64 k, .int .i64 0, .int .i64 0, .int .u64 0, .int .u64 0, .int .u64 0, .int .u64 0, .int .i64 0, .int .i64 0, .int .i64 0, .int .i64 n, .bool false]
  else if k = 12 then #[.int .i64 k, .int .i64 0, .int .i64 0, .int .u64 0, .int .u64 0, .int .u64 0, .int .u64 0, .int .i64 0, .int .i64 0, .int .i64 0, .int .i64 n, .bool fo]
  else #[.int .i64 k, .int .i64 0, .int .i64 0, .int .u64 0, .int .u64 0, .int .u64 0, .int .u64 0, .int .i64 0, .int .i64 0, .int .i64 0, .int .i64 0, .bool false]
set_option maxHeartbeats 12800000 in
theorem own_walk (k xa xb s0 s1 s2 s3 mi ma mo n : Int) (fo : Bool) (w : World) :
    Calls Tryd.prog 55 #[.agg #[.int .i64 k, .int .i64 xa, .int .i64 xb, .int .u64 s0, .int .u64 s1, .int .u64 s2, .int .u64 s3, .int .i64 mi, .int .i64 ma, .int .i64 mo, .int .i64 n, .bool fo]] w fun e w' => e = .returned (.agg (owna k s0 s1 s2 s3 mi ma mo n fo)) ∧ Below w.heap.size w w' := by
  go_enter Tryd.func55, Tryd.ntmps55
  by_cases h1 : k = 1
  · subst h1
    go_wp2
    refine bodyPost_ret (results_cell_row rfl _ _ (w.heap.size + 1) 37 #[.int .i64 1, .int .i64 0, .int .i64 0, .int .u64 s0, .int .u64 s1, .int .u64 s2, .int .u64 s3, .int .i64 0, .int .i64 0, .int .i64 0, .int .i64 0, .bool false] (0, 0) _ rfl (blk_alloc (blk2 w _ _ _) _) Tryd.underlying37 rfl (by kernel_rfl)) rfl ?_
    exact ⟨by simp [owna], below3 _ _ _ _⟩
  by_cases h11 : k = 11
  · subst h11
    go_wp2
    refine bodyPost_ret (results_cell_row rfl _ _ (w.heap.size + 1) 37 #[.int .i64 11, .int .i64 0, .int .i64 0, .int .u64 0, .int .u64 0, .int .u64 0, .int .u64 0, .int .i64 0, .int .i64 0, .int .i64 0, .int .i64 n, .bool false] (0, 0) _ rfl (blk_alloc (blk2 w _ _ _) _) Tryd.underlying37 rfl (by kernel_rfl)) rfl ?_
    exact ⟨by simp [owna], below3 _ _ _ _⟩
  by_cases h10 : k = 10
  · subst h10
    go_wp2
    go_region
    all_goals try go_wp2
    refine bodyPost_ret (results_cell_row rfl _ _ (w.heap.size + 1) 37 #[.int .i64 10, .int .i64 0, .int .i64 0, .int .u64 0, .int .u64 0, .int .u64 0, .int .u64 0, .int .i64 mi, .int .i64 ma, .int .i64 mo, .int .i64 0, .bool false] (0, 0) _ rfl (by with_reducible repeat (first | exact blk2 w _ _ _ | refine blk_drewN ?_ _ | refine blk_drew ?_ | refine blk_alloc ?_ _)) Tryd.underlying37 rfl (by kernel_rfl)) rfl ?_
    exact ⟨by simp [owna], by first | exact below3 _ _ _ _ | exact (below3 _ _ _ _).drew | exact below_drewN (below3 _ _ _ _) _⟩
  by_cases h12 : k = 12
  · subst h12
    go_wp2
    go_region
    all_goals try go_wp2
    refine bodyPost_ret (results_cell_row rfl _ _ (w.heap.size + 1) 37 #[.int .i64 12, .int .i64 0, .int .i64 0, .int .u64 0, .int .u64 0, .int .u64 0, .int .u64 0, .int .i64 0, .int .i64 0, .int .i64 0, .int .i64 n, .bool fo] (0, 0) _ rfl (by with_reducible repeat (first | exact blk2 w _ _ _ | refine blk_drewN ?_ _ | refine blk_drew ?_ | refine blk_alloc ?_ _)) Tryd.underlying37 rfl (by kernel_rfl)) rfl ?_
    exact ⟨by simp [owna], by first | exact below3 _ _ _ _ | exact (below3 _ _ _ _).drew | exact below_drewN (below3 _ _ _ _) _⟩
  go_wp2
  refine bodyPost_ret (results_cell_row rfl _ _ (w.heap.size + 1) 37 #[.int .i64 k, .int .i64 0, .int .i64 0, .int .u64 0, .int .u64 0, .int .u64 0, .int .u64 0, .int .i64 0, .int .i64 0, .int .i64 0, .int .i64 0, .bool false] (0, 0) _ rfl (blk_alloc (blk2 w _ _ _) _) Tryd.underlying37 rfl (by kernel_rfl)) rfl ?_
  exact ⟨by simp [owna, h1, h10, h11, h12], below3 _ _ _ _⟩
end Go.Proofs.YtaaihcojedibeaaDoor.DOwn
end
section
/- ast.Node.fits: its walk; it says what the document says. -/
namespace Go.Proofs.YtaaihcojedibeaaDoor.DFits
open Go.RowKit CMem DRow DRFits DSizes DOwn Q Go.Proofs.YtaaihcojedibeaaDoorW.PrintWords Go.Proofs.YtaaihcojedibeaaDoorW.PrintLast Go.Proofs.YtaaihcojedibeaaDoorW.PrintMore
set_option linter.unusedVariables false
set_option linter.unusedSimpArgs false
set_option maxRecDepth 100000
theorem owna_eq (k s0 s1 s2 s3 mi ma mo n : Int) (fo : Bool) : owna k s0 s1 s2 s3 mi ma mo n fo = #[.int .i64 k, .int .i64 0, .int .i64 0, .int .u64 (if k = 1 then s0 else 0), .int .u64 (if k = 1 then s1 else 0), .int .u64 (if k = 1 then s2 else 0), .int .u64 (if k = 1 then s3 else 0), .int .i64 (if k = 10 then mi else 0), .int .i64 (if k = 10 then ma else 0), .int .i64 (if k = 10 then mo else 0), .int .i64 (if k = 11 ∨ k = 12 then n else 0), .bool (k == 12 && fo)] := by
  unfold owna
  by_cases h1 : k = 1
  · subst h1; rfl
  · by_cases h10 : k = 10
    · subst h10; rfl
    · by_cases h11 : k = 11
      · subst h11; rfl
      · by_cases h12 : k = 12
        · subst h12; cases fo <;> rfl
        · have e : (k == 12) = false := by simp [h12]
          simp only [if_neg h1, if_neg h10, if_neg h11, if_neg h12, if_neg (show ¬ (k = 11 ∨ k = 12) by omega), e, Bool.false_and]
theorem own_calls (k xa xb s0 s1 s2 s3 mi ma mo n : Int) (fo : Bool) (w : World) :
    Calls Tryd.prog 55 #[.agg #[.int .i64 k, .int .i64 xa, .int .i64 xb, .int .u64 s0, .int .u64 s1, .int .u64 s2, .int .u64 s3, .int .i64 mi, .int .i64 ma, .int .i64 mo, .int .i64 n, .bool fo]] w fun e w' => e = .returned (.agg #[.int .i64 k, .int .i64 0, .int .i64 0, .int .u64 (if k = 1 then s0 else 0), .int .u64 (if k = 1 then s1 else 0), .int .u64 (if k = 1 then s2 else 0), .int .u64 (if k = 1 then s3 else 0), .int .i64 (if k = 10 then mi else 0), .int .i64 (if k = 10 then ma else 0), .int .i64 (if k = 10 then mo else 0), .int .i64 (if k = 11 ∨ k = 12 then n else 0), .bool (k == 12 && fo)]) ∧ Below w.heap.size w w' := by
  have h := own_walk k xa xb s0 s1 s2 s3 mi ma mo n fo w
  rw [owna_eq] at h
  exact h
theorem bare_calls (k xa xb s0 s1 s2 s3 mi ma mo n : Int) (fo : Bool) (w : World) :
    Calls Tryd.prog 54 #[.agg #[.int .i64 k, .int .i64 xa, .int .i64 xb, .int .u64 s0, .int .u64 s1, .int .u64 s2, .int .u64 s3, .int .i64 mi, .int .i64 ma, .int .i64 mo, .int .i64 n, .bool fo]] w fun e w' => e = .returned (.agg #[.int .i64 0, .int .i64 0, .int .i64 0, .int .u64 s0, .int .u64 s1, .int .u64 s2, .int .u64 s3, .int .i64 mi, .int .i64 ma, .int .i64 mo, .int .i64 n, .bool fo]) ∧ Below w.heap.size w w' :=
  ast_Node_bare.calls k xa xb s0 s1 s2 s3 mi ma mo n fo _ _ _ _ _ _ _ _ _ _ _ _ w rfl
def tail10 (k mi ma mo : Int) : Bool := k != 10 || (decide (0 ≤ mi) && decide (mi ≤ 100) && decide (ma ≤ 100) && (ma == -1 || decide (mi ≤ ma)) && decide (0 ≤ mo) && decide (mo ≤ 2))
attribute [local go_sem high] eqA33 eqA35 eqA37 in
theorem neq_nodes (s0 s1 s2 s3 mi ma mo n t0 t1 t2 t3 t4 t5 t6 t7 : Int) (fo t8 : Bool) (W : World) : (binOp .neq 37 (.agg #[.int .i64 0, .int .i64 0, .int .i64 0, .int .u64 s0, .int .u64 s1, .int .u64 s2, .int .u64 s3, .int .i64 mi, .int .i64 ma, .int .i64 mo, .int .i64 n, .bool fo]) (.agg #[.int .i64 0, .int .i64 0, .int .i64 0, .int .u64 t0, .int .u64 t1, .int .u64 t2, .int .u64 t3, .int .i64 t4, .int .i64 t5, .int .i64 t6, .int .i64 t7, .bool t8])).run Tryd.prog W = .ok (.bool (!(s0 == t0 && (s1 == t1 && (s2 == t2 && s3 == t3)) && (mi == t4 && (ma == t5 && (mo == t6 && (n == t7 && fo == t8))))))) W := by
  go_simp
theorem rfit_eq (k s0 s1 s2 s3 mi ma mo n : Int) (fo : Bool) (h0 : ¬ k < 0) (h1 : ¬ 17 < k) : rfit k s0 s1 s2 s3 mi ma mo n fo =
    ((s0 == (if k = 1 then s0 else 0) && (s1 == (if k = 1 then s1 else 0) && (s2 == (if k = 1 then s2 else 0) && s3 == (if k = 1 then s3 else 0))) && (mi == (if k = 10 then mi else 0) && (ma == (if k = 10 then ma else 0) && (mo == (if k = 10 then mo else 0) && (n == (if k = 11 ∨ k = 12 then n else 0) && fo == (k == 12 && fo)))))) && tail10 k mi ma mo) := by
  have k0 : decide (0 ≤ k) = true := by simp; omega
  have k1 : decide (k ≤ 17) = true := by simp; omega
  unfold rfit
  rw [k0, k1]
  by_cases e1 : k = 1
  · subst e1
    simp [tail10, Bool.and_assoc]
  by_cases e10 : k = 10
  · subst e10
    simp [tail10, Bool.and_assoc]
  by_cases e11 : k = 11
  · subst e11
    simp [tail10, Bool.and_assoc]
  by_cases e12 : k = 12
  · subst e12
    simp [tail10, Bool.and_assoc]
  have b1 : (k == 1) = false := by simp [e1]
  have b10 : (k == 10) = false := by simp [e10]
  have b11 : (k == 11) = false := by simp [e11]
  have b12 : (k == 12) = false := by simp [e12]
  have b13 : (k != 10) = true := by simp [e10]
  cases fo <;> simp [tail10, Bool.and_assoc, e1, e10, e11, e12, b1, b10, b11, b12, b13]
set_option maxHeartbeats 12800000 in
attribute [-go_sem] Go.run_eql_struct Go.run_neq_struct in
theorem fits_walk (k xa xb s0 s1 s2 s3 mi ma mo n : Int) (fo : Bool) (w : World) :
    Calls Tryd.prog 37 #[.agg #[.int .i64 k, .int .i64 xa, .int .i64 xb, .int .u64 s0, .int .u64 s1, .int .u64 s2, .int .u64 s3, .int .i64 mi, .int .i64 ma, .int .i64 mo, .int .i64 n, .bool fo]] w fun e w' => e = .returned (.bool (rfit k s0 s1 s2 s3 mi ma mo n fo)) ∧ Below w.heap.size w w' := by
  have KO := Lib.hid (own_calls k xa xb s0 s1 s2 s3 mi ma mo n fo)
  have KB := Lib.hid (bare_calls k xa xb s0 s1 s2 s3 mi ma mo n fo)
  have KC := Lib.hid (bare_calls k 0 0 (if k = 1 then s0 else 0) (if k = 1 then s1 else 0) (if k = 1 then s2 else 0) (if k = 1 then s3 else 0) (if k = 10 then mi else 0) (if k = 10 then ma else 0) (if k = 10 then mo else 0) (if k = 11 ∨ k = 12 then n else 0) (k == 12 && fo))
  have EQ := neq_nodes s0 s1 s2 s3 mi ma mo n (if k = 1 then s0 else 0) (if k = 1 then s1 else 0) (if k = 1 then s2 else 0) (if k = 1 then s3 else 0) (if k = 10 then mi else 0) (if k = 10 then ma else 0) (if k = 10 then mo else 0) (if k = 11 ∨ k = 12 then n else 0) fo (k == 12 && fo)
  have HR := Lib.hid (rfit_eq k s0 s1 s2 s3 mi ma mo n fo)
  have HR0 : Hid (k < 0 → rfit k s0 s1 s2 s3 mi ma mo n fo = false) := Lib.hid (fun h => by unfold rfit; simp [show ¬ 0 ≤ k by omega])
  have HR1 : Hid (17 < k → rfit k s0 s1 s2 s3 mi ma mo n fo = false) := Lib.hid (fun h => by unfold rfit; simp [show ¬ k ≤ 17 by omega])
  generalize rfit k s0 s1 s2 s3 mi ma mo n fo = R at *
  generalize (s0 == (if k = 1 then s0 else 0) && (s1 == (if k = 1 then s1 else 0) && (s2 == (if k = 1 then s2 else 0) && s3 == (if k = 1 then s3 else 0))) && (mi == (if k = 10 then mi else 0) && (ma == (if k = 10 then ma else 0) && (mo == (if k = 10 then mo else 0) && (n == (if k = 11 ∨ k = 12 then n else 0) && fo == (k == 12 && fo)))))) = z at *
  generalize (if k = 1 then s0 else 0) = t0 at *
  generalize (if k = 1 then s1 else 0) = t1 at *
  generalize (if k = 1 then s2 else 0) = t2 at *
  generalize (if k = 1 then s3 else 0) = t3 at *
  generalize (if k = 10 then mi else 0) = t4 at *
  generalize (if k = 10 then ma else 0) = t5 at *
  generalize (if k = 10 then mo else 0) = t6 at *
  generalize (if k = 11 ∨ k = 12 then n else 0) = t7 at *
  generalize (k == 12 && fo) = t8 at *
  have BN := Lib.hid (heap_alloc_new w (.cells #[.int .i64 k, .int .i64 xa, .int .i64 xb, .int .u64 s0, .int .u64 s1, .int .u64 s2, .int .u64 s3, .int .i64 mi, .int .i64 ma, .int .i64 mo, .int .i64 n, .bool fo] 37))
  have HB := Lib.hid (below1 w (.cells #[.int .i64 k, .int .i64 xa, .int .i64 xb, .int .u64 s0, .int .u64 s1, .int .u64 s2, .int .u64 s3, .int .i64 mi, .int .i64 ma, .int .i64 mo, .int .i64 n, .bool fo] 37))
  have n0 := blk_cell BN.out 0 (.int .i64 k) rfl
  have n1 := blk_cell BN.out 1 (.int .i64 xa) rfl
  have n2 := blk_cell BN.out 2 (.int .i64 xb) rfl
  have n3 := blk_cell BN.out 3 (.int .u64 s0) rfl
  have n4 := blk_cell BN.out 4 (.int .u64 s1) rfl
  have n5 := blk_cell BN.out 5 (.int .u64 s2) rfl
  have n6 := blk_cell BN.out 6 (.int .u64 s3) rfl
  have n7 := blk_cell BN.out 7 (.int .i64 mi) rfl
  have n8 := blk_cell BN.out 8 (.int .i64 ma) rfl
  have n9 := blk_cell BN.out 9 (.int .i64 mo) rfl
  have n10 := blk_cell BN.out 10 (.int .i64 n) rfl
  have n11 := blk_cell BN.out 11 (.bool fo) rfl
  go_enter Tryd.func37, Tryd.ntmps37
  go_wp2
  generalize hW : w.alloc (.cells #[.int .i64 k, .int .i64 xa, .int .i64 xb, .int .u64 s0, .int .u64 s1, .int .u64 s2, .int .u64 s3, .int .i64 mi, .int .i64 ma, .int .i64 mo, .int .i64 n, .bool fo] 37) = v0 at *
  clear hW BN
  by_cases h0 : k < 0
  · have hd : decide (k < 0) = true := by simp [h0]
    obtain rfl := HR0.out h0
    clear HR HR0 HR1 h0
    refine start_ (n := 16) (S := fun w' => w'.cell? ⟨w.heap.size, 0, none⟩ = some (.int .i64 k) ∧ w'.cell? ⟨w.heap.size, 1, none⟩ = some (.int .i64 xa) ∧ w'.cell? ⟨w.heap.size, 2, none⟩ = some (.int .i64 xb) ∧ w'.cell? ⟨w.heap.size, 3, none⟩ = some (.int .u64 s0) ∧ w'.cell? ⟨w.heap.size, 4, none⟩ = some (.int .u64 s1) ∧ w'.cell? ⟨w.heap.size, 5, none⟩ = some (.int .u64 s2) ∧ w'.cell? ⟨w.heap.size, 6, none⟩ = some (.int .u64 s3) ∧ w'.cell? ⟨w.heap.size, 7, none⟩ = some (.int .i64 mi) ∧ w'.cell? ⟨w.heap.size, 8, none⟩ = some (.int .i64 ma) ∧ w'.cell? ⟨w.heap.size, 9, none⟩ = some (.int .i64 mo) ∧ w'.cell? ⟨w.heap.size, 10, none⟩ = some (.int .i64 n) ∧ w'.cell? ⟨w.heap.size, 11, none⟩ = some (.bool fo) ∧ Below w.heap.size w w') (ds := []) #[false, false, false, false, false, false, false, false, false, false, false, false, false, false, false, false] (by kernel_rfl) rfl rfl ⟨n0, n1, n2, n3, n4, n5, n6, n7, n8, n9, n10, n11, HB.out.drew⟩ (fun hHeld => ?_)
    refine pure_ (i := 0) (N := some 3) (v := ?_) (a' := ?_) #[true, false, false, false, false, false, false, false, false, false, false, false, false, false, false, false] rfl rfl (by kernel_rfl) (fun _ _ _ h => h) (Or.inl ⟨by rfl, ?_⟩) ?_ ?_
    rotate_left
    · intro w'
      go_simp
      with_reducible rfl
    rotate_left
    · simp only [Act.put, List.setIfInBounds_toArray, List.set_cons_zero, List.set_cons_succ, i64_w, i32_w]
      rfl
    refine take_ (i := 1) (N := some 4) (v := ?_) (a' := ?_) #[true, true, false, false, false, false, false, false, false, false, false, false, false, false, false, false] rfl rfl (by kernel_rfl) (fun _ _ _ h => h) (Or.inl ⟨by rfl, ?_⟩) hHeld ?_ ?_
    rotate_left
    · rintro w' ⟨s0, s1, s2, s3, s4, s5, s6, s7, s8, s9, s10, s11, s12⟩
      go_simp
      with_reducible rfl
    rotate_left
    · simp only [Act.put, List.setIfInBounds_toArray, List.set_cons_zero, List.set_cons_succ, i64_w, i32_w]
      rfl
    refine pure_ (i := 2) (N := some 5) (v := ?_) (a' := ?_) #[true, true, true, false, false, false, false, false, false, false, false, false, false, false, false, false] rfl rfl (by kernel_rfl) (fun _ _ _ h => h) (Or.inl ⟨by rfl, ?_⟩) ?_ ?_
    rotate_left
    · intro w'
      go_simp
      with_reducible rfl
    rotate_left
    · simp only [Act.put, List.setIfInBounds_toArray, List.set_cons_zero, List.set_cons_succ, i64_w, i32_w]
      rfl
    refine pure_ (i := 3) (N := some 6) (v := ?_) (a' := ?_) #[true, true, true, true, false, false, false, false, false, false, false, false, false, false, false, false] rfl rfl (by kernel_rfl) (fun _ _ _ h => h) (Or.inl ⟨by rfl, ?_⟩) ?_ ?_
    rotate_left
    · intro w'
      go_simp
      with_reducible rfl
    rotate_left
    · simp only [Act.put, List.setIfInBounds_toArray, List.set_cons_zero, List.set_cons_succ, i64_w, i32_w]
      rfl
    refine pure_ (i := 4) (N := some 7) (v := undef) (a' := ?_) #[true, true, true, true, true, false, false, false, false, false, false, false, false, false, false, false] rfl rfl (by kernel_rfl) (fun _ _ _ h => h) (Or.inr ⟨by rfl, rfl⟩) ?_ ?_
    rotate_left
    · simp only [Act.put, List.setIfInBounds_toArray, List.set_cons_zero, List.set_cons_succ, i64_w, i32_w]
      rfl
    refine pure_ (i := 5) (N := some 8) (v := undef) (a' := ?_) #[true, true, true, true, true, true, false, false, false, false, false, false, false, false, false, false] rfl rfl (by kernel_rfl) (fun _ _ _ h => h) (Or.inr ⟨by rfl, rfl⟩) ?_ ?_
    rotate_left
    · simp only [Act.put, List.setIfInBounds_toArray, List.set_cons_zero, List.set_cons_succ, i64_w, i32_w]
      rfl
    refine pure_ (i := 6) (N := some 9) (v := undef) (a' := ?_) #[true, true, true, true, true, true, true, false, false, false, false, false, false, false, false, false] rfl rfl (by kernel_rfl) (fun _ _ _ h => h) (Or.inr ⟨by rfl, rfl⟩) ?_ ?_
    rotate_left
    · simp only [Act.put, List.setIfInBounds_toArray, List.set_cons_zero, List.set_cons_succ, i64_w, i32_w]
      rfl
    refine pure_ (i := 7) (N := some 10) (v := ?_) (a' := ?_) #[true, true, true, true, true, true, true, true, false, false, false, false, false, false, false, false] rfl rfl (by kernel_rfl) (fun _ _ _ h => h) (Or.inl ⟨by rfl, ?_⟩) ?_ ?_
    rotate_left
    · intro w'
      go_simp
      with_reducible rfl
    rotate_left
    · simp only [Act.put, List.setIfInBounds_toArray, List.set_cons_zero, List.set_cons_succ, i64_w, i32_w]
      rfl
    refine pure_ (i := 8) (N := some 11) (v := ?_) (a' := ?_) #[true, true, true, true, true, true, true, true, true, false, false, false, false, false, false, false] rfl rfl (by kernel_rfl) (fun _ _ _ h => h) (Or.inl ⟨by rfl, ?_⟩) ?_ ?_
    rotate_left
    · intro w'
      go_simp
      with_reducible rfl
    rotate_left
    · simp only [Act.put, List.setIfInBounds_toArray, List.set_cons_zero, List.set_cons_succ, i64_w, i32_w]
      rfl
    refine pure_ (i := 9) (N := some 12) (v := undef) (a' := ?_) #[true, true, true, true, true, true, true, true, true, true, false, false, false, false, false, false] rfl rfl (by kernel_rfl) (fun _ _ _ h => h) (Or.inr ⟨by rfl, rfl⟩) ?_ ?_
    rotate_left
    · simp only [Act.put, List.setIfInBounds_toArray, List.set_cons_zero, List.set_cons_succ, i64_w, i32_w]
      rfl
    refine pure_ (i := 10) (N := some 13) (v := undef) (a' := ?_) #[true, true, true, true, true, true, true, true, true, true, true, false, false, false, false, false] rfl rfl (by kernel_rfl) (fun _ _ _ h => h) (Or.inr ⟨by rfl, rfl⟩) ?_ ?_
    rotate_left
    · simp only [Act.put, List.setIfInBounds_toArray, List.set_cons_zero, List.set_cons_succ, i64_w, i32_w]
      rfl
    refine pure_ (i := 11) (N := some 14) (v := undef) (a' := ?_) #[true, true, true, true, true, true, true, true, true, true, true, true, false, false, false, false] rfl rfl (by kernel_rfl) (fun _ _ _ h => h) (Or.inr ⟨by rfl, rfl⟩) ?_ ?_
    rotate_left
    · simp only [Act.put, List.setIfInBounds_toArray, List.set_cons_zero, List.set_cons_succ, i64_w, i32_w]
      rfl
    refine pure_ (i := 12) (N := some 15) (v := undef) (a' := ?_) #[true, true, true, true, true, true, true, true, true, true, true, true, true, false, false, false] rfl rfl (by kernel_rfl) (fun _ _ _ h => h) (Or.inr ⟨by rfl, rfl⟩) ?_ ?_
    rotate_left
    · simp only [Act.put, List.setIfInBounds_toArray, List.set_cons_zero, List.set_cons_succ, i64_w, i32_w]
      rfl
    refine pure_ (i := 13) (N := some 16) (v := undef) (a' := ?_) #[true, true, true, true, true, true, true, true, true, true, true, true, true, true, false, false] rfl rfl (by kernel_rfl) (fun _ _ _ h => h) (Or.inr ⟨by rfl, rfl⟩) ?_ ?_
    rotate_left
    · simp only [Act.put, List.setIfInBounds_toArray, List.set_cons_zero, List.set_cons_succ, i64_w, i32_w]
      rfl
    refine pure_ (i := 14) (N := some 17) (v := undef) (a' := ?_) #[true, true, true, true, true, true, true, true, true, true, true, true, true, true, true, false] rfl rfl (by kernel_rfl) (fun _ _ _ h => h) (Or.inr ⟨by rfl, rfl⟩) ?_ ?_
    rotate_left
    · simp only [Act.put, List.setIfInBounds_toArray, List.set_cons_zero, List.set_cons_succ, i64_w, i32_w]
      rfl
    refine pure_ (i := 15) (N := some 18) (v := ?_) (a' := ?_) #[true, true, true, true, true, true, true, true, true, true, true, true, true, true, true, true] rfl rfl (by kernel_rfl) (fun _ _ _ h => h) (Or.inl ⟨by rfl, ?_⟩) ?_ ?_
    rotate_left
    · intro w'
      go_simp
      with_reducible rfl
    rotate_left
    · simp only [Act.put, List.setIfInBounds_toArray, List.set_cons_zero, List.set_cons_succ, i64_w, i32_w]
      rfl
    refine done_ (by kernel_rfl) ?_
    have hb := hHeld.2.2.2.2.2.2.2.2.2.2.2.2
    go_wp2
    go_ret
    exact ⟨rfl, hb⟩
  have hd : decide (k < 0) = false := by simp [h0]
  by_cases h1 : 17 < k
  · have hd2 : decide (k ≥ 18) = true := by simp; omega
    obtain rfl := HR1.out h1
    clear HR HR0 HR1 h0 h1
    refine start_ (n := 16) (S := fun w' => w'.cell? ⟨w.heap.size, 0, none⟩ = some (.int .i64 k) ∧ w'.cell? ⟨w.heap.size, 1, none⟩ = some (.int .i64 xa) ∧ w'.cell? ⟨w.heap.size, 2, none⟩ = some (.int .i64 xb) ∧ w'.cell? ⟨w.heap.size, 3, none⟩ = some (.int .u64 s0) ∧ w'.cell? ⟨w.heap.size, 4, none⟩ = some (.int .u64 s1) ∧ w'.cell? ⟨w.heap.size, 5, none⟩ = some (.int .u64 s2) ∧ w'.cell? ⟨w.heap.size, 6, none⟩ = some (.int .u64 s3) ∧ w'.cell? ⟨w.heap.size, 7, none⟩ = some (.int .i64 mi) ∧ w'.cell? ⟨w.heap.size, 8, none⟩ = some (.int .i64 ma) ∧ w'.cell? ⟨w.heap.size, 9, none⟩ = some (.int .i64 mo) ∧ w'.cell? ⟨w.heap.size, 10, none⟩ = some (.int .i64 n) ∧ w'.cell? ⟨w.heap.size, 11, none⟩ = some (.bool fo) ∧ Below w.heap.size w w') (ds := []) #[false, false, false, false, false, false, false, false, false, false, false, false, false, false, false, false] (by kernel_rfl) rfl rfl ⟨n0, n1, n2, n3, n4, n5, n6, n7, n8, n9, n10, n11, HB.out.drew⟩ (fun hHeld => ?_)
    refine pure_ (i := 0) (N := some 3) (v := ?_) (a' := ?_) #[true, false, false, false, false, false, false, false, false, false, false, false, false, false, false, false] rfl rfl (by kernel_rfl) (fun _ _ _ h => h) (Or.inl ⟨by rfl, ?_⟩) ?_ ?_
    rotate_left
    · intro w'
      go_simp
      with_reducible rfl
    rotate_left
    · simp only [Act.put, List.setIfInBounds_toArray, List.set_cons_zero, List.set_cons_succ, i64_w, i32_w]
      rfl
    refine take_ (i := 1) (N := some 4) (v := ?_) (a' := ?_) #[true, true, false, false, false, false, false, false, false, false, false, false, false, false, false, false] rfl rfl (by kernel_rfl) (fun _ _ _ h => h) (Or.inl ⟨by rfl, ?_⟩) hHeld ?_ ?_
    rotate_left
    · rintro w' ⟨s0, s1, s2, s3, s4, s5, s6, s7, s8, s9, s10, s11, s12⟩
      go_simp
      with_reducible rfl
    rotate_left
    · simp only [Act.put, List.setIfInBounds_toArray, List.set_cons_zero, List.set_cons_succ, i64_w, i32_w]
      rfl
    refine pure_ (i := 2) (N := some 5) (v := ?_) (a' := ?_) #[true, true, true, false, false, false, false, false, false, false, false, false, false, false, false, false] rfl rfl (by kernel_rfl) (fun _ _ _ h => h) (Or.inl ⟨by rfl, ?_⟩) ?_ ?_
    rotate_left
    · intro w'
      go_simp
      with_reducible rfl
    rotate_left
    · simp only [Act.put, List.setIfInBounds_toArray, List.set_cons_zero, List.set_cons_succ, i64_w, i32_w]
      rfl
    refine pure_ (i := 3) (N := some 6) (v := ?_) (a' := ?_) #[true, true, true, true, false, false, false, false, false, false, false, false, false, false, false, false] rfl rfl (by kernel_rfl) (fun _ _ _ h => h) (Or.inl ⟨by rfl, ?_⟩) ?_ ?_
    rotate_left
    · intro w'
      go_simp
      with_reducible rfl
    rotate_left
    · simp only [Act.put, List.setIfInBounds_toArray, List.set_cons_zero, List.set_cons_succ, i64_w, i32_w]
      rfl
    refine pure_ (i := 4) (N := some 7) (v := ?_) (a' := ?_) #[true, true, true, true, true, false, false, false, false, false, false, false, false, false, false, false] rfl rfl (by kernel_rfl) (fun _ _ _ h => h) (Or.inl ⟨by rfl, ?_⟩) ?_ ?_
    rotate_left
    · intro w'
      go_simp
      with_reducible rfl
    rotate_left
    · simp only [Act.put, List.setIfInBounds_toArray, List.set_cons_zero, List.set_cons_succ, i64_w, i32_w]
      rfl
    refine take_ (i := 5) (N := some 8) (v := ?_) (a' := ?_) #[true, true, true, true, true, true, false, false, false, false, false, false, false, false, false, false] rfl rfl (by kernel_rfl) (fun _ _ _ h => h) (Or.inl ⟨by rfl, ?_⟩) hHeld ?_ ?_
    rotate_left
    · rintro w' ⟨s0, s1, s2, s3, s4, s5, s6, s7, s8, s9, s10, s11, s12⟩
      go_simp
      with_reducible rfl
    rotate_left
    · simp only [Act.put, List.setIfInBounds_toArray, List.set_cons_zero, List.set_cons_succ, i64_w, i32_w]
      rfl
    refine pure_ (i := 6) (N := some 9) (v := ?_) (a' := ?_) #[true, true, true, true, true, true, true, false, false, false, false, false, false, false, false, false] rfl rfl (by kernel_rfl) (fun _ _ _ h => h) (Or.inl ⟨by rfl, ?_⟩) ?_ ?_
    rotate_left
    · intro w'
      go_simp
      with_reducible rfl
    rotate_left
    · simp only [Act.put, List.setIfInBounds_toArray, List.set_cons_zero, List.set_cons_succ, i64_w, i32_w]
      rfl
    refine pure_ (i := 7) (N := some 10) (v := ?_) (a' := ?_) #[true, true, true, true, true, true, true, true, false, false, false, false, false, false, false, false] rfl rfl (by kernel_rfl) (fun _ _ _ h => h) (Or.inl ⟨by rfl, ?_⟩) ?_ ?_
    rotate_left
    · intro w'
      go_simp
      with_reducible rfl
    rotate_left
    · simp only [Act.put, List.setIfInBounds_toArray, List.set_cons_zero, List.set_cons_succ, i64_w, i32_w]
      rfl
    refine pure_ (i := 8) (N := some 11) (v := ?_) (a' := ?_) #[true, true, true, true, true, true, true, true, true, false, false, false, false, false, false, false] rfl rfl (by kernel_rfl) (fun _ _ _ h => h) (Or.inl ⟨by rfl, ?_⟩) ?_ ?_
    rotate_left
    · intro w'
      go_simp
      with_reducible rfl
    rotate_left
    · simp only [Act.put, List.setIfInBounds_toArray, List.set_cons_zero, List.set_cons_succ, i64_w, i32_w]
      rfl
    refine pure_ (i := 9) (N := some 12) (v := undef) (a' := ?_) #[true, true, true, true, true, true, true, true, true, true, false, false, false, false, false, false] rfl rfl (by kernel_rfl) (fun _ _ _ h => h) (Or.inr ⟨by rfl, rfl⟩) ?_ ?_
    rotate_left
    · simp only [Act.put, List.setIfInBounds_toArray, List.set_cons_zero, List.set_cons_succ, i64_w, i32_w]
      rfl
    refine pure_ (i := 10) (N := some 13) (v := undef) (a' := ?_) #[true, true, true, true, true, true, true, true, true, true, true, false, false, false, false, false] rfl rfl (by kernel_rfl) (fun _ _ _ h => h) (Or.inr ⟨by rfl, rfl⟩) ?_ ?_
    rotate_left
    · simp only [Act.put, List.setIfInBounds_toArray, List.set_cons_zero, List.set_cons_succ, i64_w, i32_w]
      rfl
    refine pure_ (i := 11) (N := some 14) (v := undef) (a' := ?_) #[true, true, true, true, true, true, true, true, true, true, true, true, false, false, false, false] rfl rfl (by kernel_rfl) (fun _ _ _ h => h) (Or.inr ⟨by rfl, rfl⟩) ?_ ?_
    rotate_left
    · simp only [Act.put, List.setIfInBounds_toArray, List.set_cons_zero, List.set_cons_succ, i64_w, i32_w]
      rfl
    refine pure_ (i := 12) (N := some 15) (v := undef) (a' := ?_) #[true, true, true, true, true, true, true, true, true, true, true, true, true, false, false, false] rfl rfl (by kernel_rfl) (fun _ _ _ h => h) (Or.inr ⟨by rfl, rfl⟩) ?_ ?_
    rotate_left
    · simp only [Act.put, List.setIfInBounds_toArray, List.set_cons_zero, List.set_cons_succ, i64_w, i32_w]
      rfl
    refine pure_ (i := 13) (N := some 16) (v := undef) (a' := ?_) #[true, true, true, true, true, true, true, true, true, true, true, true, true, true, false, false] rfl rfl (by kernel_rfl) (fun _ _ _ h => h) (Or.inr ⟨by rfl, rfl⟩) ?_ ?_
    rotate_left
    · simp only [Act.put, List.setIfInBounds_toArray, List.set_cons_zero, List.set_cons_succ, i64_w, i32_w]
      rfl
    refine pure_ (i := 14) (N := some 17) (v := undef) (a' := ?_) #[true, true, true, true, true, true, true, true, true, true, true, true, true, true, true, false] rfl rfl (by kernel_rfl) (fun _ _ _ h => h) (Or.inr ⟨by rfl, rfl⟩) ?_ ?_
    rotate_left
    · simp only [Act.put, List.setIfInBounds_toArray, List.set_cons_zero, List.set_cons_succ, i64_w, i32_w]
      rfl
    refine pure_ (i := 15) (N := some 18) (v := ?_) (a' := ?_) #[true, true, true, true, true, true, true, true, true, true, true, true, true, true, true, true] rfl rfl (by kernel_rfl) (fun _ _ _ h => h) (Or.inl ⟨by rfl, ?_⟩) ?_ ?_
    rotate_left
    · intro w'
      go_simp
      with_reducible rfl
    rotate_left
    · simp only [Act.put, List.setIfInBounds_toArray, List.set_cons_zero, List.set_cons_succ, i64_w, i32_w]
      rfl
    refine done_ (by kernel_rfl) ?_
    have hb := hHeld.2.2.2.2.2.2.2.2.2.2.2.2
    go_wp2
    go_ret
    exact ⟨rfl, hb⟩
  have hd2 : decide (k ≥ 18) = false := by simp; omega
  obtain rfl := HR.out (by omega) (by omega)
  clear HR HR0 HR1 h0 h1
  refine start_ (n := 16) (S := fun w' => w'.cell? ⟨w.heap.size, 0, none⟩ = some (.int .i64 k) ∧ w'.cell? ⟨w.heap.size, 1, none⟩ = some (.int .i64 xa) ∧ w'.cell? ⟨w.heap.size, 2, none⟩ = some (.int .i64 xb) ∧ w'.cell? ⟨w.heap.size, 3, none⟩ = some (.int .u64 s0) ∧ w'.cell? ⟨w.heap.size, 4, none⟩ = some (.int .u64 s1) ∧ w'.cell? ⟨w.heap.size, 5, none⟩ = some (.int .u64 s2) ∧ w'.cell? ⟨w.heap.size, 6, none⟩ = some (.int .u64 s3) ∧ w'.cell? ⟨w.heap.size, 7, none⟩ = some (.int .i64 mi) ∧ w'.cell? ⟨w.heap.size, 8, none⟩ = some (.int .i64 ma) ∧ w'.cell? ⟨w.heap.size, 9, none⟩ = some (.int .i64 mo) ∧ w'.cell? ⟨w.heap.size, 10, none⟩ = some (.int .i64 n) ∧ w'.cell? ⟨w.heap.size, 11, none⟩ = some (.bool fo) ∧ Below w.heap.size w w') (ds := []) #[false, false, false, false, false, false, false, false, false, false, false, false, false, false, false, false] (by kernel_rfl) rfl rfl ⟨n0, n1, n2, n3, n4, n5, n6, n7, n8, n9, n10, n11, HB.out.drew⟩ (fun hHeld => ?_)
  refine pure_ (i := 0) (N := some 3) (v := ?_) (a' := ?_) #[true, false, false, false, false, false, false, false, false, false, false, false, false, false, false, false] rfl rfl (by kernel_rfl) (fun _ _ _ h => h) (Or.inl ⟨by rfl, ?_⟩) ?_ ?_
  rotate_left
  · intro w'
    go_simp
    with_reducible rfl
  rotate_left
  · simp only [Act.put, List.setIfInBounds_toArray, List.set_cons_zero, List.set_cons_succ, i64_w, i32_w]
    rfl
  refine take_ (i := 1) (N := some 4) (v := ?_) (a' := ?_) #[true, true, false, false, false, false, false, false, false, false, false, false, false, false, false, false] rfl rfl (by kernel_rfl) (fun _ _ _ h => h) (Or.inl ⟨by rfl, ?_⟩) hHeld ?_ ?_
  rotate_left
  · rintro w' ⟨s0, s1, s2, s3, s4, s5, s6, s7, s8, s9, s10, s11, s12⟩
    go_simp
    with_reducible rfl
  rotate_left
  · simp only [Act.put, List.setIfInBounds_toArray, List.set_cons_zero, List.set_cons_succ, i64_w, i32_w]
    rfl
  refine pure_ (i := 2) (N := some 5) (v := ?_) (a' := ?_) #[true, true, true, false, false, false, false, false, false, false, false, false, false, false, false, false] rfl rfl (by kernel_rfl) (fun _ _ _ h => h) (Or.inl ⟨by rfl, ?_⟩) ?_ ?_
  rotate_left
  · intro w'
    go_simp
    with_reducible rfl
  rotate_left
  · simp only [Act.put, List.setIfInBounds_toArray, List.set_cons_zero, List.set_cons_succ, i64_w, i32_w]
    rfl
  refine pure_ (i := 3) (N := some 6) (v := ?_) (a' := ?_) #[true, true, true, true, false, false, false, false, false, false, false, false, false, false, false, false] rfl rfl (by kernel_rfl) (fun _ _ _ h => h) (Or.inl ⟨by rfl, ?_⟩) ?_ ?_
  rotate_left
  · intro w'
    go_simp
    with_reducible rfl
  rotate_left
  · simp only [Act.put, List.setIfInBounds_toArray, List.set_cons_zero, List.set_cons_succ, i64_w, i32_w]
    rfl
  refine pure_ (i := 4) (N := some 7) (v := ?_) (a' := ?_) #[true, true, true, true, true, false, false, false, false, false, false, false, false, false, false, false] rfl rfl (by kernel_rfl) (fun _ _ _ h => h) (Or.inl ⟨by rfl, ?_⟩) ?_ ?_
  rotate_left
  · intro w'
    go_simp
    with_reducible rfl
  rotate_left
  · simp only [Act.put, List.setIfInBounds_toArray, List.set_cons_zero, List.set_cons_succ, i64_w, i32_w]
    rfl
  refine take_ (i := 5) (N := some 8) (v := ?_) (a' := ?_) #[true, true, true, true, true, true, false, false, false, false, false, false, false, false, false, false] rfl rfl (by kernel_rfl) (fun _ _ _ h => h) (Or.inl ⟨by rfl, ?_⟩) hHeld ?_ ?_
  rotate_left
  · rintro w' ⟨s0, s1, s2, s3, s4, s5, s6, s7, s8, s9, s10, s11, s12⟩
    go_simp
    with_reducible rfl
  rotate_left
  · simp only [Act.put, List.setIfInBounds_toArray, List.set_cons_zero, List.set_cons_succ, i64_w, i32_w]
    rfl
  refine pure_ (i := 6) (N := some 9) (v := ?_) (a' := ?_) #[true, true, true, true, true, true, true, false, false, false, false, false, false, false, false, false] rfl rfl (by kernel_rfl) (fun _ _ _ h => h) (Or.inl ⟨by rfl, ?_⟩) ?_ ?_
  rotate_left
  · intro w'
    go_simp
    with_reducible rfl
  rotate_left
  · simp only [Act.put, List.setIfInBounds_toArray, List.set_cons_zero, List.set_cons_succ, i64_w, i32_w]
    rfl
  refine pure_ (i := 7) (N := some 10) (v := ?_) (a' := ?_) #[true, true, true, true, true, true, true, true, false, false, false, false, false, false, false, false] rfl rfl (by kernel_rfl) (fun _ _ _ h => h) (Or.inl ⟨by rfl, ?_⟩) ?_ ?_
  rotate_left
  · intro w'
    go_simp
    with_reducible rfl
  rotate_left
  · simp only [Act.put, List.setIfInBounds_toArray, List.set_cons_zero, List.set_cons_succ, i64_w, i32_w]
    rfl
  refine pure_ (i := 8) (N := some 11) (v := ?_) (a' := ?_) #[true, true, true, true, true, true, true, true, true, false, false, false, false, false, false, false] rfl rfl (by kernel_rfl) (fun _ _ _ h => h) (Or.inl ⟨by rfl, ?_⟩) ?_ ?_
  rotate_left
  · intro w'
    go_simp
    with_reducible rfl
  rotate_left
  · simp only [Act.put, List.setIfInBounds_toArray, List.set_cons_zero, List.set_cons_succ, i64_w, i32_w]
    rfl
  refine take_ (i := 9) (N := some 12) (v := ?_) (a' := ?_) #[true, true, true, true, true, true, true, true, true, true, false, false, false, false, false, false] rfl rfl (by kernel_rfl) (fun _ _ _ h => h) (Or.inl ⟨by rfl, ?_⟩) hHeld ?_ ?_
  rotate_left
  · rintro w' ⟨s0, s1, s2, s3, s4, s5, s6, s7, s8, s9, s10, s11, s12⟩
    go_simp
    with_reducible rfl
  rotate_left
  · simp only [Act.put, List.setIfInBounds_toArray, List.set_cons_zero, List.set_cons_succ, i64_w, i32_w]
    rfl
  refine take_ (i := 11) (N := some 14) (v := ?_) (a' := ?_) #[true, true, true, true, true, true, true, true, true, true, false, true, false, false, false, false] rfl rfl (by kernel_rfl) (fun _ _ _ h => h) (Or.inl ⟨by rfl, ?_⟩) hHeld ?_ ?_
  rotate_left
  · rintro w' ⟨s0, s1, s2, s3, s4, s5, s6, s7, s8, s9, s10, s11, s12⟩
    go_simp
    with_reducible rfl
  rotate_left
  · simp only [Act.put, List.setIfInBounds_toArray, List.set_cons_zero, List.set_cons_succ, i64_w, i32_w]
    rfl
  refine one_ (i := 10) (N := some 13) #[true, true, true, true, true, true, true, true, true, true, true, true, false, false, false, false] rfl rfl (by kernel_rfl) (by decide) (fun K hK => ?_)
  refine goes_ Tryd.func54 (by kernel_rfl) rfl #[.agg #[.int .i64 k, .int .i64 xa, .int .i64 xb, .int .u64 s0, .int .u64 s1, .int .u64 s2, .int .u64 s3, .int .i64 mi, .int .i64 ma, .int .i64 mo, .int .i64 n, .bool fo]] (by rfl) rfl rfl (by simp only [List.map_toArray, List.map_cons, List.map_nil]; rfl) ?_
  with_reducible refine (KB.out _).mono ?_
  rintro e X1 ⟨rfl, hb⟩
  refine ⟨_, rfl, ?_⟩
  refine hK.out _ _ ⟨(below_of hb hHeld.1), (below_of hb hHeld.2.1), (below_of hb hHeld.2.2.1), (below_of hb hHeld.2.2.2.1), (below_of hb hHeld.2.2.2.2.1), (below_of hb hHeld.2.2.2.2.2.1), (below_of hb hHeld.2.2.2.2.2.2.1), (below_of hb hHeld.2.2.2.2.2.2.2.1), (below_of hb hHeld.2.2.2.2.2.2.2.2.1), (below_of hb hHeld.2.2.2.2.2.2.2.2.2.1), (below_of hb hHeld.2.2.2.2.2.2.2.2.2.2.1), (below_of hb hHeld.2.2.2.2.2.2.2.2.2.2.2.1), (below_step hHeld.2.2.2.2.2.2.2.2.2.2.2.2 hb)⟩ (fun hHeld => ?_)
  clear hK K
  refine norm_ (a' := ?_) ?_ ?_
  rotate_left
  · show Act.put _ (some 13) _ = _
    simp only [Act.put, List.setIfInBounds_toArray, List.set_cons_zero, List.set_cons_succ, i64_w, i32_w]
    rfl
  refine one_ (i := 12) (N := some 15) #[true, true, true, true, true, true, true, true, true, true, true, true, true, false, false, false] rfl rfl (by kernel_rfl) (by decide) (fun K hK => ?_)
  refine goes_ Tryd.func55 (by kernel_rfl) rfl #[.agg #[.int .i64 k, .int .i64 xa, .int .i64 xb, .int .u64 s0, .int .u64 s1, .int .u64 s2, .int .u64 s3, .int .i64 mi, .int .i64 ma, .int .i64 mo, .int .i64 n, .bool fo]] (by rfl) rfl rfl (by simp only [List.map_toArray, List.map_cons, List.map_nil]; rfl) ?_
  with_reducible refine (KO.out _).mono ?_
  rintro e X2 ⟨rfl, hb⟩
  refine ⟨_, rfl, ?_⟩
  refine hK.out _ _ ⟨(below_of hb hHeld.1), (below_of hb hHeld.2.1), (below_of hb hHeld.2.2.1), (below_of hb hHeld.2.2.2.1), (below_of hb hHeld.2.2.2.2.1), (below_of hb hHeld.2.2.2.2.2.1), (below_of hb hHeld.2.2.2.2.2.2.1), (below_of hb hHeld.2.2.2.2.2.2.2.1), (below_of hb hHeld.2.2.2.2.2.2.2.2.1), (below_of hb hHeld.2.2.2.2.2.2.2.2.2.1), (below_of hb hHeld.2.2.2.2.2.2.2.2.2.2.1), (below_of hb hHeld.2.2.2.2.2.2.2.2.2.2.2.1), (below_step hHeld.2.2.2.2.2.2.2.2.2.2.2.2 hb)⟩ (fun hHeld => ?_)
  clear hK K
  refine norm_ (a' := ?_) ?_ ?_
  rotate_left
  · show Act.put _ (some 15) _ = _
    simp only [Act.put, List.setIfInBounds_toArray, List.set_cons_zero, List.set_cons_succ, i64_w, i32_w]
    rfl
  refine one_ (i := 13) (N := some 16) #[true, true, true, true, true, true, true, true, true, true, true, true, true, true, false, false] rfl rfl (by kernel_rfl) (by decide) (fun K hK => ?_)
  refine goes_ Tryd.func54 (by kernel_rfl) rfl #[.agg #[.int .i64 k, .int .i64 0, .int .i64 0, .int .u64 t0, .int .u64 t1, .int .u64 t2, .int .u64 t3, .int .i64 t4, .int .i64 t5, .int .i64 t6, .int .i64 t7, .bool t8]] (by rfl) rfl rfl (by simp only [List.map_toArray, List.map_cons, List.map_nil]; rfl) ?_
  with_reducible refine (KC.out _).mono ?_
  rintro e X3 ⟨rfl, hb⟩
  refine ⟨_, rfl, ?_⟩
  refine hK.out _ _ ⟨(below_of hb hHeld.1), (below_of hb hHeld.2.1), (below_of hb hHeld.2.2.1), (below_of hb hHeld.2.2.2.1), (below_of hb hHeld.2.2.2.2.1), (below_of hb hHeld.2.2.2.2.2.1), (below_of hb hHeld.2.2.2.2.2.2.1), (below_of hb hHeld.2.2.2.2.2.2.2.1), (below_of hb hHeld.2.2.2.2.2.2.2.2.1), (below_of hb hHeld.2.2.2.2.2.2.2.2.2.1), (below_of hb hHeld.2.2.2.2.2.2.2.2.2.2.1), (below_of hb hHeld.2.2.2.2.2.2.2.2.2.2.2.1), (below_step hHeld.2.2.2.2.2.2.2.2.2.2.2.2 hb)⟩ (fun hHeld => ?_)
  clear hK K
  refine norm_ (a' := ?_) ?_ ?_
  rotate_left
  · show Act.put _ (some 16) _ = _
    simp only [Act.put, List.setIfInBounds_toArray, List.set_cons_zero, List.set_cons_succ, i64_w, i32_w]
    rfl
  refine pure_ (i := 14) (N := some 17) (v := ?_) (a' := ?_) #[true, true, true, true, true, true, true, true, true, true, true, true, true, true, true, false] rfl rfl (by kernel_rfl) (fun _ _ _ h => h) (Or.inl ⟨by rfl, ?_⟩) ?_ ?_
  rotate_left
  · intro w'
    go_simp
    with_reducible rfl
  rotate_left
  · simp only [Act.put, List.setIfInBounds_toArray, List.set_cons_zero, List.set_cons_succ, i64_w, i32_w]
    rfl
  refine pure_ (i := 15) (N := some 18) (v := ?_) (a' := ?_) #[true, true, true, true, true, true, true, true, true, true, true, true, true, true, true, true] rfl rfl (by kernel_rfl) (fun _ _ _ h => h) (Or.inl ⟨by rfl, ?_⟩) ?_ ?_
  rotate_left
  · intro w'
    go_simp
    with_reducible rfl
  rotate_left
  · simp only [Act.put, List.setIfInBounds_toArray, List.set_cons_zero, List.set_cons_succ, i64_w, i32_w]
    rfl
  refine done_ (by kernel_rfl) ?_
  obtain ⟨n0, n1, n2, n3, n4, n5, n6, n7, n8, n9, n10, n11, hb⟩ := hHeld
  have hb := Lib.hid hb
  clear EQ KO KB KC
  cases z
  · go_wp2
    go_ret
    exact ⟨rfl, hb.out⟩
  by_cases h10 : k = 10
  · subst h10
    go_wp2
    all_goals go_ret
    all_goals refine ⟨?_, by first | exact hb.out | exact hb.out.drew⟩
    all_goals first
      | rfl
      | (refine congrArg (fun b => Ending.returned (Value.bool b)) ?_; simp_all [tail10]; done)
      | (refine congrArg (fun b => Ending.returned (Value.bool b)) ?_; unfold tail10; simp_all; omega)
  · have hk : (k != 10) = true := by simp [h10]
    have ht : tail10 k mi ma mo = true := by unfold tail10; rw [hk]; rfl
    go_wp2
    go_ret
    exact ⟨by rw [ht]; rfl, hb.out⟩
/-- may a node be -/
def fit (x : S37) : Bool := rfit x.f0 x.f3.f0.f0 x.f3.f0.f1 x.f3.f0.f2 x.f3.f0.f3 x.f4 x.f5 x.f6 x.f7 x.f8
theorem fits_calls (x : S37) (w : World) : Calls Tryd.prog 37 #[.agg (nc x)] w fun e w' => e = .returned (.bool (fit x)) ∧ Below w.heap.size w w' :=
  fits_walk _ _ _ _ _ _ _ _ _ _ _ _ w
end Go.Proofs.YtaaihcojedibeaaDoor.DFits
end
section
/- ast.lens: its walk. -/
namespace Go.Proofs.YtaaihcojedibeaaDoor.DLens
open Go.RowKit CMem DRow DDeep Q Go.Proofs.YtaaihcojedibeaaDoorW.PrintWords Go.Proofs.YtaaihcojedibeaaDoorW.PrintLast Go.Proofs.YtaaihcojedibeaaDoorW.PrintMore
set_option linter.unusedVariables false
set_option linter.unusedSimpArgs false
set_option maxRecDepth 100000
/-- a sum, a product of numbers of bytes: -1 is without end -/
def pl (a b : Int) : Int := if a = -1 then -1 else if b = -1 then -1 else min (a + b) 1048576
def tm (a b : Int) : Int := if a = 0 ∨ b = 0 then 0 else if a = -1 then -1 else if b = -1 then -1 else min (a * b) 1048576
def bnd (a : Int) : Prop := -1 ≤ a ∧ a ≤ 1048576
theorem plus_calls (a b : Int) (ha : bnd a) (hb : bnd b) (w : World) : Calls Tryd.prog 31 #[.int .i64 a, .int .i64 b] w fun e w' => e = .returned (.int .i64 (pl a b)) ∧ Below w.heap.size w w' := by
  refine ast_plus.calls a b (pl a b) w ?_
  unfold ast_plus.f pl
  obtain ⟨h1, h2⟩ := ha
  obtain ⟨h3, h4⟩ := hb
  split
  · rfl
  · split
    · rfl
    · congr 1
      unfold mn wrap64
      omega
theorem tm_rng {a b : Int} (ha : bnd a) (hb : -1 ≤ b ∧ b ≤ 100) (h1 : a ≠ -1) (h2 : b ≠ -1) : 0 ≤ a * b ∧ a * b ≤ 104857600 := by
  obtain ⟨x1, x2⟩ := ha
  have ha0 : 0 ≤ a := by omega
  have hb0 : 0 ≤ b := by omega
  refine ⟨Int.mul_nonneg ha0 hb0, ?_⟩
  have := Int.mul_le_mul x2 hb.2 hb0 (by decide)
  omega
theorem times_calls (a b : Int) (ha : bnd a) (hb : -1 ≤ b ∧ b ≤ 100) (w : World) : Calls Tryd.prog 32 #[.int .i64 a, .int .i64 b] w fun e w' => e = .returned (.int .i64 (tm a b)) ∧ Below w.heap.size w w' := by
  refine ast_times.calls 2 a b (tm a b) w ?_
  unfold tm
  simp only [ast_times.f, ast_times.j0]
  by_cases h0 : a = 0
  · simp [h0]
  · by_cases h1 : b = 0
    · simp [h0, h1]
    · by_cases h2 : a = -1
      · simp [h1, h2]
      · by_cases h3 : b = -1
        · simp [h0, h2, h3]
        · simp only [h0, h1, h2, h3, if_false, or_self]
          have hr := tm_rng ha hb h2 h3
          have hE : mn (wrap64 (a * b)) 1048576 = min (a * b) 1048576 := by
            generalize a * b = q at *
            unfold mn wrap64
            omega
          simp [h1, hE]
theorem pl_bnd {a b : Int} (ha : bnd a) (hb : bnd b) : bnd (pl a b) := by unfold pl bnd at *; split <;> (try split) <;> omega
theorem tm_bnd {a b : Int} (ha : bnd a) (hb : -1 ≤ b ∧ b ≤ 100) : bnd (tm a b) := by
  unfold tm
  split
  · unfold bnd; omega
  · split
    · unfold bnd; omega
    · rename_i h2
      split
      · unfold bnd; omega
      · rename_i h3
        have hr := tm_rng ha hb h2 h3
        unfold bnd
        omega
/-- a child's place -/
def isKid (a : Int) (i : Nat) : Prop := 0 ≤ a ∧ a < i
/-- the rows of lengths: as each node's children have them -/
def lOk (L : List S37) (LO HI : Nat → Int) (i : Nat) : Prop :=
  ((rd_T37 L i).f0 = 1 ∧ LO i = 1 ∧ HI i = 1) ∨
  ((rd_T37 L i).f0 = 12 ∧ LO i = 0 ∧ HI i = -1) ∨
  ((rd_T37 L i).f0 = 8 ∧ isKid (rd_T37 L i).f1 i ∧ isKid (rd_T37 L i).f2 i ∧ LO i = pl (LO (rd_T37 L i).f1.toNat) (LO (rd_T37 L i).f2.toNat) ∧ HI i = pl (HI (rd_T37 L i).f1.toNat) (HI (rd_T37 L i).f2.toNat)) ∨
  ((rd_T37 L i).f0 = 9 ∧ isKid (rd_T37 L i).f1 i ∧ isKid (rd_T37 L i).f2 i ∧ LO i = min (LO (rd_T37 L i).f1.toNat) (LO (rd_T37 L i).f2.toNat) ∧ HI i = if min (HI (rd_T37 L i).f1.toNat) (HI (rd_T37 L i).f2.toNat) = -1 then -1 else max (HI (rd_T37 L i).f1.toNat) (HI (rd_T37 L i).f2.toNat)) ∨
  ((rd_T37 L i).f0 = 10 ∧ isKid (rd_T37 L i).f1 i ∧ (-1 ≤ (rd_T37 L i).f4 ∧ (rd_T37 L i).f4 ≤ 100) ∧ (-1 ≤ (rd_T37 L i).f5 ∧ (rd_T37 L i).f5 ≤ 100) ∧ LO i = tm (LO (rd_T37 L i).f1.toNat) (rd_T37 L i).f4 ∧ HI i = tm (HI (rd_T37 L i).f1.toNat) (rd_T37 L i).f5) ∨
  (((rd_T37 L i).f0 = 11 ∨ (rd_T37 L i).f0 = 17) ∧ isKid (rd_T37 L i).f1 i ∧ LO i = LO (rd_T37 L i).f1.toNat ∧ HI i = HI (rd_T37 L i).f1.toNat) ∨
  ((rd_T37 L i).f0 ≠ 1 ∧ (rd_T37 L i).f0 ≠ 12 ∧ (rd_T37 L i).f0 ≠ 8 ∧ (rd_T37 L i).f0 ≠ 9 ∧ (rd_T37 L i).f0 ≠ 10 ∧ (rd_T37 L i).f0 ≠ 11 ∧ (rd_T37 L i).f0 ≠ 17 ∧ LO i = 0 ∧ HI i = 0)
theorem upto_skip {D : Nat → Int} {n i : Nat} (h : D i = 0) : ic (upto D i) n = ic (upto D (i + 1)) n := by
  refine ic_ext fun j _ => ?_
  unfold upto
  by_cases h1 : j < i
  · rw [if_pos h1, if_pos (by omega)]
  · rw [if_neg h1]
    by_cases h2 : j = i
    · subst h2; rw [if_pos (by omega), h]
    · rw [if_neg (by omega)]
theorem two_sets {V : World} {p q i n : Nat} {LO HI : Nat → Int} (hp : V.heap[p]? = some (.cells (ic (upto LO i) n) 3 (0, 0))) (hq : V.heap[q]? = some (.cells (ic (upto HI i) n) 3 (0, 0))) (hne : p ≠ q) (h : i < n) {x y : Int} (ex : LO i = x) (ey : HI i = y) :
    V.cell? ⟨p, i, none⟩ = some (.int .i64 0) ∧ V.frozen? ⟨p, i, none⟩ = false ∧ (V.setCell ⟨p, i, none⟩ (.int .i64 x)).cell? ⟨q, i, none⟩ = some (.int .i64 0) ∧ (V.setCell ⟨p, i, none⟩ (.int .i64 x)).frozen? ⟨q, i, none⟩ = false ∧
    ((V.setCell ⟨p, i, none⟩ (.int .i64 x)).setCell ⟨q, i, none⟩ (.int .i64 y)).heap[p]? = some (.cells (ic (upto LO (i + 1)) n) 3 (0, 0)) ∧ ((V.setCell ⟨p, i, none⟩ (.int .i64 x)).setCell ⟨q, i, none⟩ (.int .i64 y)).heap[q]? = some (.cells (ic (upto HI (i + 1)) n) 3 (0, 0)) := by
  have P1 := set_blk (i := i) hp (.int .i64 x)
  rw [upto_set h ex] at P1
  have Q1 := set_other (i := i) (v := .int .i64 x) hq (fun e => hne e.symm)
  have Q2 := set_blk (i := i) Q1 (.int .i64 y)
  rw [upto_set h ey] at Q2
  exact ⟨blk_cell hp i _ (upto_here h), blk_free hp i, blk_cell Q1 i _ (upto_here h), blk_free Q1 i, set_other (i := i) (v := .int .i64 y) P1 hne, Q2⟩
set_option maxHeartbeats 12800000 in
theorem lens_walk (A : Option Addr) (c : Nat) (L : List S37) (n : Nat) (hn : L.length = n) (hn2 : n ≤ 1000) (LO HI : Nat → Int) (hD : ∀ i, i < n → lOk L LO HI i) (hB : ∀ i, i < n → bnd (LO i) ∧ bnd (HI i)) (w : World) (hr : Kd.C k37 w A n L) :
    Calls Tryd.prog 16 #[.agg #[.slice A n c]] w fun e w' => (∃ p q, p ≠ q ∧ e = .returned (.tuple #[.slice (some ⟨p, 0, none⟩) n n, .slice (some ⟨q, 0, none⟩) n n]) ∧ w.heap.size ≤ p ∧ w.heap.size ≤ q ∧ w'.heap[p]? = some (.cells (ic LO n) 3 (0, 0)) ∧ w'.heap[q]? = some (.cells (ic HI n) 3 (0, 0))) ∧ Below w.heap.size w w' := by
  have mk := make_ints n hn2
  have TB := blk_cell (heap_alloc_new w (.cells #[.slice A n c] 24)) 0 (.slice A n c) rfl
  have HB := below1 w (.cells #[.slice A n c] 24)
  have HD := Lib.hid hD
  have HBD := Lib.hid hB
  have HR := Lib.hid hr
  clear hD hr hB
  go_enter Tryd.func16, Tryd.ntmps16
  go_wp2
  generalize hW : w.alloc (.cells #[.slice A n c] 24) = v0 at *
  clear hW
  refine start_ (n := 10) (S := fun w' => w'.cell? ⟨w.heap.size, 0, none⟩ = some (.slice A n c) ∧ Below w.heap.size w w') (ds := []) #[false, false, false, false, false, false, false, false, false, false] (by kernel_rfl) rfl rfl ⟨TB, HB.drew⟩ (fun hHeld => ?_)
  refine pure_ (i := 0) (N := some 8) (v := ?_) (a' := ?_) #[true, false, false, false, false, false, false, false, false, false] rfl rfl (by kernel_rfl) (fun _ _ _ h => h) (Or.inl ⟨by rfl, ?_⟩) ?_ ?_
  rotate_left
  · intro w'
    go_simp
    with_reducible rfl
  rotate_left
  · simp only [Act.put, List.setIfInBounds_toArray, List.set_cons_zero, List.set_cons_succ, i64_w, i32_w]
    rfl
  refine pure_ (i := 4) (N := some 12) (v := ?_) (a' := ?_) #[true, false, false, false, true, false, false, false, false, false] rfl rfl (by kernel_rfl) (fun _ _ _ h => h) (Or.inl ⟨by rfl, ?_⟩) ?_ ?_
  rotate_left
  · intro w'
    go_simp
    with_reducible rfl
  rotate_left
  · simp only [Act.put, List.setIfInBounds_toArray, List.set_cons_zero, List.set_cons_succ, i64_w, i32_w]
    rfl
  refine take_ (i := 1) (N := some 9) (v := ?_) (a' := ?_) #[true, true, false, false, true, false, false, false, false, false] rfl rfl (by kernel_rfl) (fun _ _ _ h => h) (Or.inl ⟨by rfl, ?_⟩) hHeld ?_ ?_
  rotate_left
  · rintro w' ⟨s0, s1⟩
    go_simp
    with_reducible rfl
  rotate_left
  · simp only [Act.put, List.setIfInBounds_toArray, List.set_cons_zero, List.set_cons_succ, i64_w, i32_w]
    rfl
  refine pure_ (i := 2) (N := some 10) (v := ?_) (a' := ?_) #[true, true, true, false, true, false, false, false, false, false] rfl rfl (by kernel_rfl) (fun _ _ _ h => h) (Or.inl ⟨by rfl, ?_⟩) ?_ ?_
  rotate_left
  · intro w'
    go_simp
    with_reducible rfl
  rotate_left
  · simp only [Act.put, List.setIfInBounds_toArray, List.set_cons_zero, List.set_cons_succ, i64_w, i32_w]
    rfl
  refine take_ (i := 5) (N := some 13) (v := ?_) (a' := ?_) #[true, true, true, false, true, true, false, false, false, false] rfl rfl (by kernel_rfl) (fun _ _ _ h => h) (Or.inl ⟨by rfl, ?_⟩) hHeld ?_ ?_
  rotate_left
  · rintro w' ⟨s0, s1⟩
    go_simp
    with_reducible rfl
  rotate_left
  · simp only [Act.put, List.setIfInBounds_toArray, List.set_cons_zero, List.set_cons_succ, i64_w, i32_w]
    rfl
  refine pure_ (i := 6) (N := some 14) (v := ?_) (a' := ?_) #[true, true, true, false, true, true, true, false, false, false] rfl rfl (by kernel_rfl) (fun _ _ _ h => h) (Or.inl ⟨by rfl, ?_⟩) ?_ ?_
  rotate_left
  · intro w'
    go_simp
    with_reducible rfl
  rotate_left
  · simp only [Act.put, List.setIfInBounds_toArray, List.set_cons_zero, List.set_cons_succ, i64_w, i32_w]
    rfl
  refine join_ (σ := Nat × Nat) 1 #[true, true, true, true, true, true, true, true, true, false] (fun s => [(11, .slice (some ⟨s.1, 0, none⟩) n n), (15, .slice (some ⟨s.2, 0, none⟩) n n), (4, .slice (some ⟨s.1, 0, none⟩) n n)]) (fun s w' => w'.heap[s.1]? = some (.cells (ic (fun _ => 0) n) 3 (0, 0)) ∧ w'.heap[s.2]? = some (.cells (ic (fun _ => 0) n) 3 (0, 0)) ∧ s.1 ≠ s.2 ∧ w.heap.size ≤ s.1 ∧ w.heap.size ≤ s.2 ∧ w'.cell? ⟨w.heap.size, 0, none⟩ = some (.slice A n c) ∧ Below w.heap.size w w') ?_ ?_
  rotate_left
  · intro hCont
    refine two_ (i := 3) (j := 7) (Ni := some 11) (Nj := some 15) #[true, true, true, true, true, true, true, false, false, false] #[true, true, true, false, true, true, true, true, false, false] rfl rfl rfl rfl (by kernel_rfl) (by decide) (by decide) (fun K hK => ?_) (fun K hK => ?_)
    · skip
      have le3 := (hHeld.2).size
      refine value_ (w1 := ?_) (v := ?_) (by rfl) rfl ?_ ?_
      rotate_left 2
      · go_simp
        constructor
        · rfl
        · rfl
      refine letter_ ?_
      intro W3 hW
      have hb3 : Below v0.drew.heap.size v0.drew W3 := by rw [hW]; exact below1 _ _
      have R3 : W3.heap[v0.drew.heap.size]? = some (.cells (ic (fun _ => 0) n) 3 (0, 0)) := by rw [hW]; exact heap_alloc_new _ _
      clear hW
      refine hK.out _ _ ⟨(below_of hb3 hHeld.1), (below_step hHeld.2 hb3)⟩ (fun hHeld => ?_)
      clear hK K
      refine norm_ (a' := ?_) ?_ ?_
      rotate_left
      · show Act.put _ (some 11) _ = _
        simp only [Act.put, List.setIfInBounds_toArray, List.set_cons_zero, List.set_cons_succ, i64_w, i32_w]
        rfl
      refine pure_ (i := 8) (N := some 4) (v := ?_) (a' := ?_) #[true, true, true, true, true, true, true, false, true, false] rfl rfl (by kernel_rfl) (fun _ _ _ h => h) (Or.inl ⟨by rfl, ?_⟩) ?_ ?_
      rotate_left
      · intro w'
        go_simp
        with_reducible rfl
      rotate_left
      · simp only [Act.put, List.setIfInBounds_toArray, List.set_cons_zero, List.set_cons_succ, i64_w, i32_w]
        rfl
      refine one_ (i := 7) (N := some 15) #[true, true, true, true, true, true, true, true, true, false] rfl rfl (by kernel_rfl) (by decide) (fun K hK => ?_)
      have le7 := (hHeld.2).size
      have ne : v0.heap.size ≠ W3.heap.size := Nat.ne_of_lt (lt_of_blk R3)
      refine value_ (w1 := ?_) (v := ?_) (by rfl) rfl ?_ ?_
      rotate_left 2
      · go_simp
        constructor
        · rfl
        · rfl
      refine letter_ ?_
      intro W7 hW
      have hb7 : Below W3.heap.size W3 W7 := by rw [hW]; exact below1 _ _
      have R7 : W7.heap[W3.heap.size]? = some (.cells (ic (fun _ => 0) n) 3 (0, 0)) := by rw [hW]; exact heap_alloc_new _ _
      have R3 := below_blk hb7 R3
      clear hW
      refine hK.out _ _ ⟨(below_of hb7 hHeld.1), (below_step hHeld.2 hb7)⟩ (fun hHeld => ?_)
      clear hK K
      refine norm_ (a' := ?_) ?_ ?_
      rotate_left
      · show Act.put _ (some 15) _ = _
        simp only [Act.put, List.setIfInBounds_toArray, List.set_cons_zero, List.set_cons_succ, i64_w, i32_w]
        rfl
      exact norm_ (by simp only [putAll, Act.put, List.setIfInBounds_toArray, List.set_cons_zero, List.set_cons_succ]) (hCont (v0.heap.size, W3.heap.size) _ ⟨R3, R7, ne, le3, le7, hHeld⟩)
    · skip
      have le7 := (hHeld.2).size
      refine value_ (w1 := ?_) (v := ?_) (by rfl) rfl ?_ ?_
      rotate_left 2
      · go_simp
        constructor
        · rfl
        · rfl
      refine letter_ ?_
      intro W7 hW
      have hb7 : Below v0.drew.heap.size v0.drew W7 := by rw [hW]; exact below1 _ _
      have R7 : W7.heap[v0.drew.heap.size]? = some (.cells (ic (fun _ => 0) n) 3 (0, 0)) := by rw [hW]; exact heap_alloc_new _ _
      clear hW
      refine hK.out _ _ ⟨(below_of hb7 hHeld.1), (below_step hHeld.2 hb7)⟩ (fun hHeld => ?_)
      clear hK K
      refine norm_ (a' := ?_) ?_ ?_
      rotate_left
      · show Act.put _ (some 15) _ = _
        simp only [Act.put, List.setIfInBounds_toArray, List.set_cons_zero, List.set_cons_succ, i64_w, i32_w]
        rfl
      refine one_ (i := 3) (N := some 11) #[true, true, true, true, true, true, true, true, false, false] rfl rfl (by kernel_rfl) (by decide) (fun K hK => ?_)
      have le3 := (hHeld.2).size
      have ne : W7.heap.size ≠ v0.heap.size := Nat.ne_of_gt (lt_of_blk R7)
      refine value_ (w1 := ?_) (v := ?_) (by rfl) rfl ?_ ?_
      rotate_left 2
      · go_simp
        constructor
        · rfl
        · rfl
      refine letter_ ?_
      intro W3 hW
      have hb3 : Below W7.heap.size W7 W3 := by rw [hW]; exact below1 _ _
      have R3 : W3.heap[W7.heap.size]? = some (.cells (ic (fun _ => 0) n) 3 (0, 0)) := by rw [hW]; exact heap_alloc_new _ _
      have R7 := below_blk hb3 R7
      clear hW
      refine hK.out _ _ ⟨(below_of hb3 hHeld.1), (below_step hHeld.2 hb3)⟩ (fun hHeld => ?_)
      clear hK K
      refine norm_ (a' := ?_) ?_ ?_
      rotate_left
      · show Act.put _ (some 11) _ = _
        simp only [Act.put, List.setIfInBounds_toArray, List.set_cons_zero, List.set_cons_succ, i64_w, i32_w]
        rfl
      refine pure_ (i := 8) (N := some 4) (v := ?_) (a' := ?_) #[true, true, true, true, true, true, true, true, true, false] rfl rfl (by kernel_rfl) (fun _ _ _ h => h) (Or.inl ⟨by rfl, ?_⟩) ?_ ?_
      rotate_left
      · intro w'
        go_simp
        with_reducible rfl
      rotate_left
      · simp only [Act.put, List.setIfInBounds_toArray, List.set_cons_zero, List.set_cons_succ, i64_w, i32_w]
        rfl
      exact norm_ (by simp only [putAll, Act.put, List.setIfInBounds_toArray, List.set_cons_zero, List.set_cons_succ]) (hCont (W7.heap.size, v0.heap.size) _ ⟨R3, R7, ne, le3, le7, hHeld⟩)
  rintro ⟨p, q⟩ W ⟨RP, RQ, ne, lp, lq, hHeld⟩
  simp only [] at RP RQ ne lp lq
  refine norm_ (a' := ?_) ?_ ?_
  rotate_left
  · simp only [putAll, Act.put, List.setIfInBounds_toArray, List.set_cons_zero, List.set_cons_succ]
    rfl
  refine pure_ (i := 9) (N := some 5) (v := ?_) (a' := ?_) #[true, true, true, true, true, true, true, true, true, true] rfl rfl (by kernel_rfl) (fun _ _ _ h => h) (Or.inl ⟨by rfl, ?_⟩) ?_ ?_
  rotate_left
  · intro w'
    go_simp
    with_reducible rfl
  rotate_left
  · simp only [Act.put, List.setIfInBounds_toArray, List.set_cons_zero, List.set_cons_succ, i64_w, i32_w]
    rfl
  refine done_ (by kernel_rfl) ?_
  obtain ⟨tb, hbW⟩ := hHeld
  have z0 : (fun _ : Nat => (0 : Int)) = upto LO 0 := by funext j; unfold upto; rw [if_neg (by omega)]
  have z1 : (fun _ : Nat => (0 : Int)) = upto HI 0 := by funext j; unfold upto; rw [if_neg (by omega)]
  have RP := Lib.hid (z0 ▸ RP)
  have RQ := Lib.hid (z1 ▸ RQ)
  have HBW := Lib.hid hbW
  clear z0 z1 hbW TB HB mk
  go_wp2
  go_loopw [19] (fun t wr => ∃ i : Nat, i ≤ n ∧ t = .int .i64 (i : Nat) ∧ Hid (wr.heap[p]? = some (.cells (ic (upto LO i) n) 3 (0, 0))) ∧ Hid (wr.heap[q]? = some (.cells (ic (upto HI i) n) 3 (0, 0))) ∧ Hid (Below w.heap.size w wr)) (fun t _ => n - (intOf t).toNat)
  case atStart => exact ⟨0, Nat.zero_le _, rfl, RP, RQ, HBW⟩
  case round =>
    clear RP RQ HBW tb
    obtain ⟨i, hi, rfl, PO, QO, HB⟩ := hrel
    by_cases h : i < n
    · obtain ⟨ad, hA, a0, a1, a2, a3, a4, a5, a6, a7, a8, a9, a10, a11⟩ := at_T37 HR.out (i : Int) (by omega) (by omega)
      subst hA
      rw [Int.toNat_natCast] at a0 a1 a2 a3 a4 a5 a6 a7 a8 a9 a10 a11
      have hd := HD.out i h
      unfold lOk at hd
      have hi2 : (i : Int) < (n : Int) := by omega
      generalize rd_T37 L i = x at *
      obtain ⟨xk, xa, xb, ⟨⟨s0, s1, s2, s3⟩⟩, x4, x5, x6, x7, x8⟩ := x
      simp only [] at hd a0 a1 a2 a3 a4 a5 a6 a7 a8 a9 a10 a11
      replace a0 := below_of HB.out a0
      replace a1 := below_of HB.out a1
      replace a2 := below_of HB.out a2
      replace a3 := below_of HB.out a3
      replace a4 := below_of HB.out a4
      replace a5 := below_of HB.out a5
      replace a6 := below_of HB.out a6
      replace a7 := below_of HB.out a7
      replace a8 := below_of HB.out a8
      replace a9 := below_of HB.out a9
      replace a10 := below_of HB.out a10
      replace a11 := below_of HB.out a11
      have PN := Lib.hid (blk_alloc PO.out (.cells #[.int .i64 xk, .int .i64 xa, .int .i64 xb, .int .u64 s0, .int .u64 s1, .int .u64 s2, .int .u64 s3, .int .i64 x4, .int .i64 x5, .int .i64 x6, .int .i64 x7, .bool x8] 37))
      have QN := Lib.hid (blk_alloc QO.out (.cells #[.int .i64 xk, .int .i64 xa, .int .i64 xb, .int .u64 s0, .int .u64 s1, .int .u64 s2, .int .u64 s3, .int .i64 x4, .int .i64 x5, .int .i64 x6, .int .i64 x7, .bool x8] 37))
      have BN := Lib.hid (heap_alloc_new wr (.cells #[.int .i64 xk, .int .i64 xa, .int .i64 xb, .int .u64 s0, .int .u64 s1, .int .u64 s2, .int .u64 s3, .int .i64 x4, .int .i64 x5, .int .i64 x6, .int .i64 x7, .bool x8] 37))
      have HN := Lib.hid (HB.out.alloc HB.out.size (.cells #[.int .i64 xk, .int .i64 xa, .int .i64 xb, .int .u64 s0, .int .u64 s1, .int .u64 s2, .int .u64 s3, .int .i64 x4, .int .i64 x5, .int .i64 x6, .int .i64 x7, .bool x8] 37))
      have HPW := Lib.hid (lt_of_blk PO.out)
      have HQW := Lib.hid (lt_of_blk QO.out)
      clear HB PO QO
      have hd := Lib.hid hd
      rcases hd.out with ⟨k0, e0, e1⟩ | ⟨k0, e0, e1⟩ | ⟨k0, ka, kb, e0, e1⟩ | ⟨k0, ka, kb, e0, e1⟩ | ⟨k0, ka, r4, r5, e0, e1⟩ | ⟨k0, ka, e0, e1⟩ | ⟨k1, k2, k3, k4, k5, k6, k7, e0, e1⟩
      · as_aux_lemma =>
        subst k0
        obtain ⟨c1, f1, c2, f2, P3, Q3⟩ := two_sets PN.out QN.out ne h e0 e1
        have P3 := Lib.hid P3
        have Q3 := Lib.hid Q3
        have H3 := Lib.hid (below_set (i := i) (below_set (i := i) HN.out lp (.int .i64 1)) lq (.int .i64 1))
        clear hd e0 e1 PN QN BN HN
        go_wp2
        go_roundw
        case rel => exact ⟨i + 1, by omega, by simp, P3, Q3, H3⟩
        case measure => simp [intOf]; omega
      · as_aux_lemma =>
        subst k0
        have P3 := PN.out
        rw [upto_skip e0] at P3
        have c1 := blk_cell QN.out i _ (upto_here h)
        have f1 := blk_free QN.out i
        have Q3 := set_blk (i := i) QN.out (.int .i64 (-1))
        rw [upto_set h e1] at Q3
        have Q3 := Lib.hid Q3
        have P3 := Lib.hid (set_other (i := i) (v := .int .i64 (-1)) P3 ne)
        have H3 := Lib.hid (below_set (i := i) HN.out lq (.int .i64 (-1)))
        clear hd e0 e1 PN QN BN HN
        go_wp2
        go_roundw
        case rel => exact ⟨i + 1, by omega, by simp, P3, Q3, H3⟩
        case measure => simp [intOf]; omega
      · as_aux_lemma =>
        subst k0
        obtain ⟨ka1, ka2⟩ := ka
        obtain ⟨m, rfl⟩ := Int.eq_ofNat_of_zero_le ka1
        rw [Int.toNat_natCast] at e0 e1
        have hm : m < i := by omega
        have pm := blk_cell PN.out m _ (upto_at h hm)
        have qm := blk_cell QN.out m _ (upto_at h hm)
        have bm := HBD.out m (by omega)
        obtain ⟨kb1, kb2⟩ := kb
        obtain ⟨k, rfl⟩ := Int.eq_ofNat_of_zero_le kb1
        rw [Int.toNat_natCast] at e0 e1
        have hk : k < i := by omega
        have pk := blk_cell PN.out k _ (upto_at h hk)
        have qk := blk_cell QN.out k _ (upto_at h hk)
        have bk := HBD.out k (by omega)
        have n1 := blk_cell BN.out 1 _ rfl
        have n2 := blk_cell BN.out 2 _ rfl
        have n7 := blk_cell BN.out 7 _ rfl
        have n8 := blk_cell BN.out 8 _ rfl
        simp only [List.getElem_toArray, List.getElem_cons_zero, List.getElem_cons_succ] at n1 n2 n7 n8
        have np := Lib.hid (Nat.ne_of_gt HPW.out)
        have nq := Lib.hid (Nat.ne_of_gt HQW.out)
        have hmn : (m : Int) < (n : Int) := by omega
        have hkn : (k : Int) < (n : Int) := by omega
        have KL := Lib.hid (plus_calls (LO m) (LO k) bm.1 bk.1)
        have KH := Lib.hid (plus_calls (HI m) (HI k) bm.2 bk.2)
        clear hd bm bk
        generalize pl (LO m) (LO k) = u at *
        generalize pl (HI m) (HI k) = v at *
        generalize LO m = lm at *
        generalize LO k = lk at *
        generalize HI m = hm' at *
        generalize HI k = hk' at *
        go_wp2
        generalize hW : wr.alloc (.cells #[.int .i64 8, .int .i64 (m : Nat), .int .i64 (k : Nat), .int .u64 s0, .int .u64 s1, .int .u64 s2, .int .u64 s3, .int .i64 x4, .int .i64 x5, .int .i64 x6, .int .i64 x7, .bool x8] 37) = v1 at *
        clear hW
        generalize wr.heap.size = QQ at *
        have np := np.out
        have nq := nq.out
        refine start_ (n := 30) (S := fun w' => w'.cell? ⟨QQ, 1, none⟩ = some (.int .i64 (m : Nat)) ∧ w'.cell? ⟨QQ, 2, none⟩ = some (.int .i64 (k : Nat)) ∧ w'.cell? ⟨p, m, none⟩ = some (.int .i64 lm) ∧ w'.cell? ⟨p, k, none⟩ = some (.int .i64 lk) ∧ w'.cell? ⟨q, m, none⟩ = some (.int .i64 hm') ∧ w'.cell? ⟨q, k, none⟩ = some (.int .i64 hk') ∧ w'.heap[p]? = some (.cells (ic (upto LO i) n) 3 (0, 0)) ∧ w'.heap[q]? = some (.cells (ic (upto HI i) n) 3 (0, 0)) ∧ w'.heap[QQ]? = some (.cells #[.int .i64 8, .int .i64 (m : Nat), .int .i64 (k : Nat), .int .u64 s0, .int .u64 s1, .int .u64 s2, .int .u64 s3, .int .i64 x4, .int .i64 x5, .int .i64 x6, .int .i64 x7, .bool x8] 37 (0, 0)) ∧ Below w.heap.size w w') (ds := [27, 29]) #[false, false, false, false, false, false, false, false, false, false, false, false, false, false, false, false, false, false, false, false, false, false, false, false, false, false, false, false, false, false] (by kernel_rfl) rfl rfl ⟨n1, n2, pm, pk, qm, qk, PN.out, QN.out, BN.out, HN.out.drew⟩ (fun hHeld => ?_)
        refine pure_ (i := 0) (N := some 41) (v := ?_) (a' := ?_) #[true, false, false, false, false, false, false, false, false, false, false, false, false, false, false, false, false, false, false, false, false, false, false, false, false, false, false, false, false, false] rfl rfl (by kernel_rfl) (fun _ _ _ h => h) (Or.inl ⟨by rfl, ?_⟩) ?_ ?_
        rotate_left
        · intro w'
          go_simp
          with_reducible rfl
        rotate_left
        · simp only [Act.put, List.setIfInBounds_toArray, List.set_cons_zero, List.set_cons_succ, i64_w, i32_w]
          rfl
        refine pure_ (i := 1) (N := some 42) (v := ?_) (a' := ?_) #[true, true, false, false, false, false, false, false, false, false, false, false, false, false, false, false, false, false, false, false, false, false, false, false, false, false, false, false, false, false] rfl rfl (by kernel_rfl) (fun _ _ _ h => h) (Or.inl ⟨by rfl, ?_⟩) ?_ ?_
        rotate_left
        · intro w'
          go_simp
          with_reducible rfl
        rotate_left
        · simp only [Act.put, List.setIfInBounds_toArray, List.set_cons_zero, List.set_cons_succ, i64_w, i32_w]
          rfl
        refine pure_ (i := 2) (N := some 43) (v := ?_) (a' := ?_) #[true, true, true, false, false, false, false, false, false, false, false, false, false, false, false, false, false, false, false, false, false, false, false, false, false, false, false, false, false, false] rfl rfl (by kernel_rfl) (fun _ _ _ h => h) (Or.inl ⟨by rfl, ?_⟩) ?_ ?_
        rotate_left
        · intro w'
          go_simp
          with_reducible rfl
        rotate_left
        · simp only [Act.put, List.setIfInBounds_toArray, List.set_cons_zero, List.set_cons_succ, i64_w, i32_w]
          rfl
        refine pure_ (i := 3) (N := some 44) (v := ?_) (a' := ?_) #[true, true, true, true, false, false, false, false, false, false, false, false, false, false, false, false, false, false, false, false, false, false, false, false, false, false, false, false, false, false] rfl rfl (by kernel_rfl) (fun _ _ _ h => h) (Or.inl ⟨by rfl, ?_⟩) ?_ ?_
        rotate_left
        · intro w'
          go_simp
          with_reducible rfl
        rotate_left
        · simp only [Act.put, List.setIfInBounds_toArray, List.set_cons_zero, List.set_cons_succ, i64_w, i32_w]
          rfl
        refine pure_ (i := 4) (N := some 45) (v := ?_) (a' := ?_) #[true, true, true, true, true, false, false, false, false, false, false, false, false, false, false, false, false, false, false, false, false, false, false, false, false, false, false, false, false, false] rfl rfl (by kernel_rfl) (fun _ _ _ h => h) (Or.inl ⟨by rfl, ?_⟩) ?_ ?_
        rotate_left
        · intro w'
          go_simp
          with_reducible rfl
        rotate_left
        · simp only [Act.put, List.setIfInBounds_toArray, List.set_cons_zero, List.set_cons_succ, i64_w, i32_w]
          rfl
        refine pure_ (i := 5) (N := some 46) (v := ?_) (a' := ?_) #[true, true, true, true, true, true, false, false, false, false, false, false, false, false, false, false, false, false, false, false, false, false, false, false, false, false, false, false, false, false] rfl rfl (by kernel_rfl) (fun _ _ _ h => h) (Or.inl ⟨by rfl, ?_⟩) ?_ ?_
        rotate_left
        · intro w'
          go_simp
          with_reducible rfl
        rotate_left
        · simp only [Act.put, List.setIfInBounds_toArray, List.set_cons_zero, List.set_cons_succ, i64_w, i32_w]
          rfl
        refine pure_ (i := 9) (N := some 50) (v := ?_) (a' := ?_) #[true, true, true, true, true, true, false, false, false, true, false, false, false, false, false, false, false, false, false, false, false, false, false, false, false, false, false, false, false, false] rfl rfl (by kernel_rfl) (fun _ _ _ h => h) (Or.inl ⟨by rfl, ?_⟩) ?_ ?_
        rotate_left
        · intro w'
          go_simp
          with_reducible rfl
        rotate_left
        · simp only [Act.put, List.setIfInBounds_toArray, List.set_cons_zero, List.set_cons_succ, i64_w, i32_w]
          rfl
        refine pure_ (i := 10) (N := some 51) (v := ?_) (a' := ?_) #[true, true, true, true, true, true, false, false, false, true, true, false, false, false, false, false, false, false, false, false, false, false, false, false, false, false, false, false, false, false] rfl rfl (by kernel_rfl) (fun _ _ _ h => h) (Or.inl ⟨by rfl, ?_⟩) ?_ ?_
        rotate_left
        · intro w'
          go_simp
          with_reducible rfl
        rotate_left
        · simp only [Act.put, List.setIfInBounds_toArray, List.set_cons_zero, List.set_cons_succ, i64_w, i32_w]
          rfl
        refine pure_ (i := 15) (N := some 56) (v := ?_) (a' := ?_) #[true, true, true, true, true, true, false, false, false, true, true, false, false, false, false, true, false, false, false, false, false, false, false, false, false, false, false, false, false, false] rfl rfl (by kernel_rfl) (fun _ _ _ h => h) (Or.inl ⟨by rfl, ?_⟩) ?_ ?_
        rotate_left
        · intro w'
          go_simp
          with_reducible rfl
        rotate_left
        · simp only [Act.put, List.setIfInBounds_toArray, List.set_cons_zero, List.set_cons_succ, i64_w, i32_w]
          rfl
        refine pure_ (i := 16) (N := some 57) (v := ?_) (a' := ?_) #[true, true, true, true, true, true, false, false, false, true, true, false, false, false, false, true, true, false, false, false, false, false, false, false, false, false, false, false, false, false] rfl rfl (by kernel_rfl) (fun _ _ _ h => h) (Or.inl ⟨by rfl, ?_⟩) ?_ ?_
        rotate_left
        · intro w'
          go_simp
          with_reducible rfl
        rotate_left
        · simp only [Act.put, List.setIfInBounds_toArray, List.set_cons_zero, List.set_cons_succ, i64_w, i32_w]
          rfl
        refine pure_ (i := 20) (N := some 61) (v := ?_) (a' := ?_) #[true, true, true, true, true, true, false, false, false, true, true, false, false, false, false, true, true, false, false, false, true, false, false, false, false, false, false, false, false, false] rfl rfl (by kernel_rfl) (fun _ _ _ h => h) (Or.inl ⟨by rfl, ?_⟩) ?_ ?_
        rotate_left
        · intro w'
          go_simp
          with_reducible rfl
        rotate_left
        · simp only [Act.put, List.setIfInBounds_toArray, List.set_cons_zero, List.set_cons_succ, i64_w, i32_w]
          rfl
        refine pure_ (i := 21) (N := some 62) (v := ?_) (a' := ?_) #[true, true, true, true, true, true, false, false, false, true, true, false, false, false, false, true, true, false, false, false, true, true, false, false, false, false, false, false, false, false] rfl rfl (by kernel_rfl) (fun _ _ _ h => h) (Or.inl ⟨by rfl, ?_⟩) ?_ ?_
        rotate_left
        · intro w'
          go_simp
          with_reducible rfl
        rotate_left
        · simp only [Act.put, List.setIfInBounds_toArray, List.set_cons_zero, List.set_cons_succ, i64_w, i32_w]
          rfl
        refine take_ (i := 6) (N := some 47) (v := ?_) (a' := ?_) #[true, true, true, true, true, true, true, false, false, true, true, false, false, false, false, true, true, false, false, false, true, true, false, false, false, false, false, false, false, false] rfl rfl (by kernel_rfl) (fun _ _ _ h => h) (Or.inl ⟨by rfl, ?_⟩) hHeld ?_ ?_
        rotate_left
        · rintro w' ⟨s0, s1, s2, s3, s4, s5, s6, s7, s8, s9⟩
          go_simp
          with_reducible rfl
        rotate_left
        · simp only [Act.put, List.setIfInBounds_toArray, List.set_cons_zero, List.set_cons_succ, i64_w, i32_w]
          rfl
        refine pure_ (i := 7) (N := some 48) (v := ?_) (a' := ?_) #[true, true, true, true, true, true, true, true, false, true, true, false, false, false, false, true, true, false, false, false, true, true, false, false, false, false, false, false, false, false] rfl rfl (by kernel_rfl) (fun _ _ _ h => h) (Or.inl ⟨by rfl, ?_⟩) ?_ ?_
        rotate_left
        · intro w'
          go_simp
          with_reducible rfl
        rotate_left
        · simp only [Act.put, List.setIfInBounds_toArray, List.set_cons_zero, List.set_cons_succ, i64_w, i32_w]
          rfl
        refine take_ (i := 8) (N := some 49) (v := ?_) (a' := ?_) #[true, true, true, true, true, true, true, true, true, true, true, false, false, false, false, true, true, false, false, false, true, true, false, false, false, false, false, false, false, false] rfl rfl (by kernel_rfl) (fun _ _ _ h => h) (Or.inl ⟨by rfl, ?_⟩) hHeld ?_ ?_
        rotate_left
        · rintro w' ⟨s0, s1, s2, s3, s4, s5, s6, s7, s8, s9⟩
          go_simp
          with_reducible rfl
        rotate_left
        · simp only [Act.put, List.setIfInBounds_toArray, List.set_cons_zero, List.set_cons_succ, i64_w, i32_w]
          rfl
        refine take_ (i := 11) (N := some 52) (v := ?_) (a' := ?_) #[true, true, true, true, true, true, true, true, true, true, true, true, false, false, false, true, true, false, false, false, true, true, false, false, false, false, false, false, false, false] rfl rfl (by kernel_rfl) (fun _ _ _ h => h) (Or.inl ⟨by rfl, ?_⟩) hHeld ?_ ?_
        rotate_left
        · rintro w' ⟨s0, s1, s2, s3, s4, s5, s6, s7, s8, s9⟩
          go_simp
          with_reducible rfl
        rotate_left
        · simp only [Act.put, List.setIfInBounds_toArray, List.set_cons_zero, List.set_cons_succ, i64_w, i32_w]
          rfl
        refine pure_ (i := 12) (N := some 53) (v := ?_) (a' := ?_) #[true, true, true, true, true, true, true, true, true, true, true, true, true, false, false, true, true, false, false, false, true, true, false, false, false, false, false, false, false, false] rfl rfl (by kernel_rfl) (fun _ _ _ h => h) (Or.inl ⟨by rfl, ?_⟩) ?_ ?_
        rotate_left
        · intro w'
          go_simp
          with_reducible rfl
        rotate_left
        · simp only [Act.put, List.setIfInBounds_toArray, List.set_cons_zero, List.set_cons_succ, i64_w, i32_w]
          rfl
        refine take_ (i := 13) (N := some 54) (v := ?_) (a' := ?_) #[true, true, true, true, true, true, true, true, true, true, true, true, true, true, false, true, true, false, false, false, true, true, false, false, false, false, false, false, false, false] rfl rfl (by kernel_rfl) (fun _ _ _ h => h) (Or.inl ⟨by rfl, ?_⟩) hHeld ?_ ?_
        rotate_left
        · rintro w' ⟨s0, s1, s2, s3, s4, s5, s6, s7, s8, s9⟩
          go_simp
          with_reducible rfl
        rotate_left
        · simp only [Act.put, List.setIfInBounds_toArray, List.set_cons_zero, List.set_cons_succ, i64_w, i32_w]
          rfl
        refine take_ (i := 17) (N := some 58) (v := ?_) (a' := ?_) #[true, true, true, true, true, true, true, true, true, true, true, true, true, true, false, true, true, true, false, false, true, true, false, false, false, false, false, false, false, false] rfl rfl (by kernel_rfl) (fun _ _ _ h => h) (Or.inl ⟨by rfl, ?_⟩) hHeld ?_ ?_
        rotate_left
        · rintro w' ⟨s0, s1, s2, s3, s4, s5, s6, s7, s8, s9⟩
          go_simp
          with_reducible rfl
        rotate_left
        · simp only [Act.put, List.setIfInBounds_toArray, List.set_cons_zero, List.set_cons_succ, i64_w, i32_w]
          rfl
        refine pure_ (i := 18) (N := some 59) (v := ?_) (a' := ?_) #[true, true, true, true, true, true, true, true, true, true, true, true, true, true, false, true, true, true, true, false, true, true, false, false, false, false, false, false, false, false] rfl rfl (by kernel_rfl) (fun _ _ _ h => h) (Or.inl ⟨by rfl, ?_⟩) ?_ ?_
        rotate_left
        · intro w'
          go_simp
          with_reducible rfl
        rotate_left
        · simp only [Act.put, List.setIfInBounds_toArray, List.set_cons_zero, List.set_cons_succ, i64_w, i32_w]
          rfl
        refine take_ (i := 19) (N := some 60) (v := ?_) (a' := ?_) #[true, true, true, true, true, true, true, true, true, true, true, true, true, true, false, true, true, true, true, true, true, true, false, false, false, false, false, false, false, false] rfl rfl (by kernel_rfl) (fun _ _ _ h => h) (Or.inl ⟨by rfl, ?_⟩) hHeld ?_ ?_
        rotate_left
        · rintro w' ⟨s0, s1, s2, s3, s4, s5, s6, s7, s8, s9⟩
          go_simp
          with_reducible rfl
        rotate_left
        · simp only [Act.put, List.setIfInBounds_toArray, List.set_cons_zero, List.set_cons_succ, i64_w, i32_w]
          rfl
        refine take_ (i := 22) (N := some 63) (v := ?_) (a' := ?_) #[true, true, true, true, true, true, true, true, true, true, true, true, true, true, false, true, true, true, true, true, true, true, true, false, false, false, false, false, false, false] rfl rfl (by kernel_rfl) (fun _ _ _ h => h) (Or.inl ⟨by rfl, ?_⟩) hHeld ?_ ?_
        rotate_left
        · rintro w' ⟨s0, s1, s2, s3, s4, s5, s6, s7, s8, s9⟩
          go_simp
          with_reducible rfl
        rotate_left
        · simp only [Act.put, List.setIfInBounds_toArray, List.set_cons_zero, List.set_cons_succ, i64_w, i32_w]
          rfl
        refine pure_ (i := 23) (N := some 64) (v := ?_) (a' := ?_) #[true, true, true, true, true, true, true, true, true, true, true, true, true, true, false, true, true, true, true, true, true, true, true, true, false, false, false, false, false, false] rfl rfl (by kernel_rfl) (fun _ _ _ h => h) (Or.inl ⟨by rfl, ?_⟩) ?_ ?_
        rotate_left
        · intro w'
          go_simp
          with_reducible rfl
        rotate_left
        · simp only [Act.put, List.setIfInBounds_toArray, List.set_cons_zero, List.set_cons_succ, i64_w, i32_w]
          rfl
        refine take_ (i := 24) (N := some 65) (v := ?_) (a' := ?_) #[true, true, true, true, true, true, true, true, true, true, true, true, true, true, false, true, true, true, true, true, true, true, true, true, true, false, false, false, false, false] rfl rfl (by kernel_rfl) (fun _ _ _ h => h) (Or.inl ⟨by rfl, ?_⟩) hHeld ?_ ?_
        rotate_left
        · rintro w' ⟨s0, s1, s2, s3, s4, s5, s6, s7, s8, s9⟩
          go_simp
          with_reducible rfl
        rotate_left
        · simp only [Act.put, List.setIfInBounds_toArray, List.set_cons_zero, List.set_cons_succ, i64_w, i32_w]
          rfl
        refine one_ (i := 14) (N := some 55) #[true, true, true, true, true, true, true, true, true, true, true, true, true, true, true, true, true, true, true, true, true, true, true, true, true, false, false, false, false, false] rfl rfl (by kernel_rfl) (by decide) (fun K hK => ?_)
        refine goes_ Tryd.func31 (by kernel_rfl) rfl #[.int .i64 lm, .int .i64 lk] (by rfl) rfl rfl (by simp only [List.map_toArray, List.map_cons, List.map_nil]; rfl) ?_
        with_reducible refine (KL.out _).mono ?_
        rintro e X1 ⟨rfl, hb⟩
        refine ⟨_, rfl, ?_⟩
        refine hK.out _ _ ⟨(below_of hb hHeld.1), (below_of hb hHeld.2.1), (below_of hb hHeld.2.2.1), (below_of hb hHeld.2.2.2.1), (below_of hb hHeld.2.2.2.2.1), (below_of hb hHeld.2.2.2.2.2.1), (below_blk hb hHeld.2.2.2.2.2.2.1), (below_blk hb hHeld.2.2.2.2.2.2.2.1), (below_blk hb hHeld.2.2.2.2.2.2.2.2.1), (below_step hHeld.2.2.2.2.2.2.2.2.2 hb)⟩ (fun hHeld => ?_)
        clear hK K
        refine norm_ (a' := ?_) ?_ ?_
        rotate_left
        · show Act.put _ (some 55) _ = _
          simp only [Act.put, List.setIfInBounds_toArray, List.set_cons_zero, List.set_cons_succ, i64_w, i32_w]
          rfl
        refine one_ (i := 25) (N := some 66) #[true, true, true, true, true, true, true, true, true, true, true, true, true, true, true, true, true, true, true, true, true, true, true, true, true, true, false, false, false, false] rfl rfl (by kernel_rfl) (by decide) (fun K hK => ?_)
        refine goes_ Tryd.func31 (by kernel_rfl) rfl #[.int .i64 hm', .int .i64 hk'] (by rfl) rfl rfl (by simp only [List.map_toArray, List.map_cons, List.map_nil]; rfl) ?_
        with_reducible refine (KH.out _).mono ?_
        rintro e X2 ⟨rfl, hb⟩
        refine ⟨_, rfl, ?_⟩
        refine hK.out _ _ ⟨(below_of hb hHeld.1), (below_of hb hHeld.2.1), (below_of hb hHeld.2.2.1), (below_of hb hHeld.2.2.2.1), (below_of hb hHeld.2.2.2.2.1), (below_of hb hHeld.2.2.2.2.2.1), (below_blk hb hHeld.2.2.2.2.2.2.1), (below_blk hb hHeld.2.2.2.2.2.2.2.1), (below_blk hb hHeld.2.2.2.2.2.2.2.2.1), (below_step hHeld.2.2.2.2.2.2.2.2.2 hb)⟩ (fun hHeld => ?_)
        clear hK K
        refine norm_ (a' := ?_) ?_ ?_
        rotate_left
        · show Act.put _ (some 66) _ = _
          simp only [Act.put, List.setIfInBounds_toArray, List.set_cons_zero, List.set_cons_succ, i64_w, i32_w]
          rfl
        refine pure_ (i := 26) (N := some 67) (v := ?_) (a' := ?_) #[true, true, true, true, true, true, true, true, true, true, true, true, true, true, true, true, true, true, true, true, true, true, true, true, true, true, true, false, false, false] rfl rfl (by kernel_rfl) (fun _ _ _ h => h) (Or.inl ⟨by rfl, ?_⟩) ?_ ?_
        rotate_left
        · intro w'
          go_simp
          with_reducible rfl
        rotate_left
        · simp only [Act.put, List.setIfInBounds_toArray, List.set_cons_zero, List.set_cons_succ, i64_w, i32_w]
          rfl
        refine last_ (i := 27) (N := none) #[true, true, true, true, true, true, true, true, true, true, true, true, true, true, true, true, true, true, true, true, true, true, true, true, true, true, true, true, false, false] rfl rfl (by kernel_rfl) (by decide) (fun K hK => ?_)
        have c1 := blk_cell hHeld.2.2.2.2.2.2.1 i _ (upto_here h)
        have f1 := blk_free hHeld.2.2.2.2.2.2.1 i
        refine skip_ (w1 := ?_) (by rfl) rfl ?_ ?_
        rotate_left
        · go_simp
          rfl
        refine letter_ ?_
        intro W27 hW27
        have P27 : W27.heap[p]? = some (.cells (ic (upto LO (i + 1)) n) 3 (0, 0)) := by rw [hW27, ← upto_set h e0]; exact set_blk (i := i) hHeld.2.2.2.2.2.2.1 (.int .i64 (u))
        have Q27 : W27.heap[q]? = some (.cells (ic (upto HI i) n) 3 (0, 0)) := by rw [hW27]; exact set_other hHeld.2.2.2.2.2.2.2.1 (fun e => ne e.symm)
        have N27 : W27.heap[QQ]? = some (.cells #[.int .i64 8, .int .i64 (m : Nat), .int .i64 (k : Nat), .int .u64 s0, .int .u64 s1, .int .u64 s2, .int .u64 s3, .int .i64 x4, .int .i64 x5, .int .i64 x6, .int .i64 x7, .bool x8] 37 (0, 0)) := by rw [hW27]; exact set_other hHeld.2.2.2.2.2.2.2.2.1 np
        have B27 : Below w.heap.size w W27 := by rw [hW27]; exact below_set hHeld.2.2.2.2.2.2.2.2.2 lp _
        clear hW27 c1 f1
        refine hK.out _ _ ?_
        clear hK K
        refine pure_ (i := 28) (N := some 68) (v := ?_) (a' := ?_) #[true, true, true, true, true, true, true, true, true, true, true, true, true, true, true, true, true, true, true, true, true, true, true, true, true, true, true, true, true, false] rfl rfl (by kernel_rfl) (fun _ _ _ h => h) (Or.inl ⟨by rfl, ?_⟩) ?_ ?_
        rotate_left
        · intro w'
          go_simp
          with_reducible rfl
        rotate_left
        · simp only [Act.put, List.setIfInBounds_toArray, List.set_cons_zero, List.set_cons_succ, i64_w, i32_w]
          rfl
        refine last_ (i := 29) (N := none) #[true, true, true, true, true, true, true, true, true, true, true, true, true, true, true, true, true, true, true, true, true, true, true, true, true, true, true, true, true, true] rfl rfl (by kernel_rfl) (by decide) (fun K hK => ?_)
        have c2 := blk_cell Q27 i _ (upto_here h)
        have f2 := blk_free Q27 i
        refine skip_ (w1 := ?_) (by rfl) rfl ?_ ?_
        rotate_left
        · go_simp
          rfl
        refine letter_ ?_
        intro W29 hW29
        have P29 : W29.heap[p]? = some (.cells (ic (upto LO (i + 1)) n) 3 (0, 0)) := by rw [hW29]; exact set_other P27 ne
        have Q29 : W29.heap[q]? = some (.cells (ic (upto HI (i + 1)) n) 3 (0, 0)) := by rw [hW29, ← upto_set h e1]; exact set_blk (i := i) Q27 (.int .i64 (v))
        have N29 : W29.heap[QQ]? = some (.cells #[.int .i64 8, .int .i64 (m : Nat), .int .i64 (k : Nat), .int .u64 s0, .int .u64 s1, .int .u64 s2, .int .u64 s3, .int .i64 x4, .int .i64 x5, .int .i64 x6, .int .i64 x7, .bool x8] 37 (0, 0)) := by rw [hW29]; exact set_other N27 nq
        have B29 : Below w.heap.size w W29 := by rw [hW29]; exact below_set B27 lq _
        clear hW29 c2 f2
        refine hK.out _ _ ?_
        clear hK K
        refine done_ (by kernel_rfl) ?_
        go_wp2
        go_roundw
        case rel => exact ⟨i + 1, by omega, by simp, Lib.hid P29, Lib.hid Q29, Lib.hid B29⟩
        case measure => simp [intOf]; omega
      · as_aux_lemma =>
        subst k0
        obtain ⟨ka1, ka2⟩ := ka
        obtain ⟨m, rfl⟩ := Int.eq_ofNat_of_zero_le ka1
        rw [Int.toNat_natCast] at e0 e1
        have hm : m < i := by omega
        have pm := blk_cell PN.out m _ (upto_at h hm)
        have qm := blk_cell QN.out m _ (upto_at h hm)
        have bm := HBD.out m (by omega)
        obtain ⟨kb1, kb2⟩ := kb
        obtain ⟨k, rfl⟩ := Int.eq_ofNat_of_zero_le kb1
        rw [Int.toNat_natCast] at e0 e1
        have hk : k < i := by omega
        have pk := blk_cell PN.out k _ (upto_at h hk)
        have qk := blk_cell QN.out k _ (upto_at h hk)
        have bk := HBD.out k (by omega)
        have n1 := blk_cell BN.out 1 _ rfl
        have n2 := blk_cell BN.out 2 _ rfl
        have n7 := blk_cell BN.out 7 _ rfl
        have n8 := blk_cell BN.out 8 _ rfl
        simp only [List.getElem_toArray, List.getElem_cons_zero, List.getElem_cons_succ] at n1 n2 n7 n8
        have np := Lib.hid (Nat.ne_of_gt HPW.out)
        have nq := Lib.hid (Nat.ne_of_gt HQW.out)
        have hmn : (m : Int) < (n : Int) := by omega
        have hkn : (k : Int) < (n : Int) := by omega
        have hmx : ∀ x y : Int, (if x < y then y else x) = max x y := fun x y => by split <;> omega
        have hmi : ∀ x y : Int, (if y < x then y else x) = min x y := fun x y => by split <;> omega
        clear hd bm bk
        generalize LO m = lm at *
        generalize LO k = lk at *
        obtain ⟨hm', hhm⟩ : ∃ z, HI m = z := ⟨_, rfl⟩
        obtain ⟨hk', hhk⟩ : ∃ z, HI k = z := ⟨_, rfl⟩
        rw [hhm, hhk] at e1
        rw [hhm] at qm
        rw [hhk] at qk
        have EQM := Lib.hid hhm
        have EQK := Lib.hid hhk
        clear hhm hhk
        go_wp2
        generalize hW : wr.alloc (.cells #[.int .i64 9, .int .i64 (m : Nat), .int .i64 (k : Nat), .int .u64 s0, .int .u64 s1, .int .u64 s2, .int .u64 s3, .int .i64 x4, .int .i64 x5, .int .i64 x6, .int .i64 x7, .bool x8] 37) = v1 at *
        clear hW
        generalize wr.heap.size = QQ at *
        have np := np.out
        have nq := nq.out
        refine start_ (n := 30) (S := fun w' => w'.cell? ⟨QQ, 1, none⟩ = some (.int .i64 (m : Nat)) ∧ w'.cell? ⟨QQ, 2, none⟩ = some (.int .i64 (k : Nat)) ∧ w'.cell? ⟨p, m, none⟩ = some (.int .i64 lm) ∧ w'.cell? ⟨p, k, none⟩ = some (.int .i64 lk) ∧ w'.cell? ⟨q, m, none⟩ = some (.int .i64 hm') ∧ w'.cell? ⟨q, k, none⟩ = some (.int .i64 hk') ∧ w'.heap[p]? = some (.cells (ic (upto LO i) n) 3 (0, 0)) ∧ w'.heap[q]? = some (.cells (ic (upto HI i) n) 3 (0, 0)) ∧ w'.heap[QQ]? = some (.cells #[.int .i64 9, .int .i64 (m : Nat), .int .i64 (k : Nat), .int .u64 s0, .int .u64 s1, .int .u64 s2, .int .u64 s3, .int .i64 x4, .int .i64 x5, .int .i64 x6, .int .i64 x7, .bool x8] 37 (0, 0)) ∧ Below w.heap.size w w') (ds := [27, 29]) #[false, false, false, false, false, false, false, false, false, false, false, false, false, false, false, false, false, false, false, false, false, false, false, false, false, false, false, false, false, false] (by kernel_rfl) rfl rfl ⟨n1, n2, pm, pk, qm, qk, PN.out, QN.out, BN.out, HN.out.drew⟩ (fun hHeld => ?_)
        refine pure_ (i := 0) (N := some 71) (v := ?_) (a' := ?_) #[true, false, false, false, false, false, false, false, false, false, false, false, false, false, false, false, false, false, false, false, false, false, false, false, false, false, false, false, false, false] rfl rfl (by kernel_rfl) (fun _ _ _ h => h) (Or.inl ⟨by rfl, ?_⟩) ?_ ?_
        rotate_left
        · intro w'
          go_simp
          with_reducible rfl
        rotate_left
        · simp only [Act.put, List.setIfInBounds_toArray, List.set_cons_zero, List.set_cons_succ, i64_w, i32_w]
          rfl
        refine pure_ (i := 1) (N := some 72) (v := ?_) (a' := ?_) #[true, true, false, false, false, false, false, false, false, false, false, false, false, false, false, false, false, false, false, false, false, false, false, false, false, false, false, false, false, false] rfl rfl (by kernel_rfl) (fun _ _ _ h => h) (Or.inl ⟨by rfl, ?_⟩) ?_ ?_
        rotate_left
        · intro w'
          go_simp
          with_reducible rfl
        rotate_left
        · simp only [Act.put, List.setIfInBounds_toArray, List.set_cons_zero, List.set_cons_succ, i64_w, i32_w]
          rfl
        refine pure_ (i := 2) (N := some 73) (v := ?_) (a' := ?_) #[true, true, true, false, false, false, false, false, false, false, false, false, false, false, false, false, false, false, false, false, false, false, false, false, false, false, false, false, false, false] rfl rfl (by kernel_rfl) (fun _ _ _ h => h) (Or.inl ⟨by rfl, ?_⟩) ?_ ?_
        rotate_left
        · intro w'
          go_simp
          with_reducible rfl
        rotate_left
        · simp only [Act.put, List.setIfInBounds_toArray, List.set_cons_zero, List.set_cons_succ, i64_w, i32_w]
          rfl
        refine pure_ (i := 3) (N := some 74) (v := ?_) (a' := ?_) #[true, true, true, true, false, false, false, false, false, false, false, false, false, false, false, false, false, false, false, false, false, false, false, false, false, false, false, false, false, false] rfl rfl (by kernel_rfl) (fun _ _ _ h => h) (Or.inl ⟨by rfl, ?_⟩) ?_ ?_
        rotate_left
        · intro w'
          go_simp
          with_reducible rfl
        rotate_left
        · simp only [Act.put, List.setIfInBounds_toArray, List.set_cons_zero, List.set_cons_succ, i64_w, i32_w]
          rfl
        refine pure_ (i := 4) (N := some 75) (v := ?_) (a' := ?_) #[true, true, true, true, true, false, false, false, false, false, false, false, false, false, false, false, false, false, false, false, false, false, false, false, false, false, false, false, false, false] rfl rfl (by kernel_rfl) (fun _ _ _ h => h) (Or.inl ⟨by rfl, ?_⟩) ?_ ?_
        rotate_left
        · intro w'
          go_simp
          with_reducible rfl
        rotate_left
        · simp only [Act.put, List.setIfInBounds_toArray, List.set_cons_zero, List.set_cons_succ, i64_w, i32_w]
          rfl
        refine pure_ (i := 5) (N := some 76) (v := ?_) (a' := ?_) #[true, true, true, true, true, true, false, false, false, false, false, false, false, false, false, false, false, false, false, false, false, false, false, false, false, false, false, false, false, false] rfl rfl (by kernel_rfl) (fun _ _ _ h => h) (Or.inl ⟨by rfl, ?_⟩) ?_ ?_
        rotate_left
        · intro w'
          go_simp
          with_reducible rfl
        rotate_left
        · simp only [Act.put, List.setIfInBounds_toArray, List.set_cons_zero, List.set_cons_succ, i64_w, i32_w]
          rfl
        refine pure_ (i := 9) (N := some 80) (v := ?_) (a' := ?_) #[true, true, true, true, true, true, false, false, false, true, false, false, false, false, false, false, false, false, false, false, false, false, false, false, false, false, false, false, false, false] rfl rfl (by kernel_rfl) (fun _ _ _ h => h) (Or.inl ⟨by rfl, ?_⟩) ?_ ?_
        rotate_left
        · intro w'
          go_simp
          with_reducible rfl
        rotate_left
        · simp only [Act.put, List.setIfInBounds_toArray, List.set_cons_zero, List.set_cons_succ, i64_w, i32_w]
          rfl
        refine pure_ (i := 10) (N := some 81) (v := ?_) (a' := ?_) #[true, true, true, true, true, true, false, false, false, true, true, false, false, false, false, false, false, false, false, false, false, false, false, false, false, false, false, false, false, false] rfl rfl (by kernel_rfl) (fun _ _ _ h => h) (Or.inl ⟨by rfl, ?_⟩) ?_ ?_
        rotate_left
        · intro w'
          go_simp
          with_reducible rfl
        rotate_left
        · simp only [Act.put, List.setIfInBounds_toArray, List.set_cons_zero, List.set_cons_succ, i64_w, i32_w]
          rfl
        refine pure_ (i := 15) (N := some 86) (v := ?_) (a' := ?_) #[true, true, true, true, true, true, false, false, false, true, true, false, false, false, false, true, false, false, false, false, false, false, false, false, false, false, false, false, false, false] rfl rfl (by kernel_rfl) (fun _ _ _ h => h) (Or.inl ⟨by rfl, ?_⟩) ?_ ?_
        rotate_left
        · intro w'
          go_simp
          with_reducible rfl
        rotate_left
        · simp only [Act.put, List.setIfInBounds_toArray, List.set_cons_zero, List.set_cons_succ, i64_w, i32_w]
          rfl
        refine pure_ (i := 16) (N := some 87) (v := ?_) (a' := ?_) #[true, true, true, true, true, true, false, false, false, true, true, false, false, false, false, true, true, false, false, false, false, false, false, false, false, false, false, false, false, false] rfl rfl (by kernel_rfl) (fun _ _ _ h => h) (Or.inl ⟨by rfl, ?_⟩) ?_ ?_
        rotate_left
        · intro w'
          go_simp
          with_reducible rfl
        rotate_left
        · simp only [Act.put, List.setIfInBounds_toArray, List.set_cons_zero, List.set_cons_succ, i64_w, i32_w]
          rfl
        refine pure_ (i := 20) (N := some 91) (v := ?_) (a' := ?_) #[true, true, true, true, true, true, false, false, false, true, true, false, false, false, false, true, true, false, false, false, true, false, false, false, false, false, false, false, false, false] rfl rfl (by kernel_rfl) (fun _ _ _ h => h) (Or.inl ⟨by rfl, ?_⟩) ?_ ?_
        rotate_left
        · intro w'
          go_simp
          with_reducible rfl
        rotate_left
        · simp only [Act.put, List.setIfInBounds_toArray, List.set_cons_zero, List.set_cons_succ, i64_w, i32_w]
          rfl
        refine pure_ (i := 21) (N := some 92) (v := ?_) (a' := ?_) #[true, true, true, true, true, true, false, false, false, true, true, false, false, false, false, true, true, false, false, false, true, true, false, false, false, false, false, false, false, false] rfl rfl (by kernel_rfl) (fun _ _ _ h => h) (Or.inl ⟨by rfl, ?_⟩) ?_ ?_
        rotate_left
        · intro w'
          go_simp
          with_reducible rfl
        rotate_left
        · simp only [Act.put, List.setIfInBounds_toArray, List.set_cons_zero, List.set_cons_succ, i64_w, i32_w]
          rfl
        refine take_ (i := 6) (N := some 77) (v := ?_) (a' := ?_) #[true, true, true, true, true, true, true, false, false, true, true, false, false, false, false, true, true, false, false, false, true, true, false, false, false, false, false, false, false, false] rfl rfl (by kernel_rfl) (fun _ _ _ h => h) (Or.inl ⟨by rfl, ?_⟩) hHeld ?_ ?_
        rotate_left
        · rintro w' ⟨s0, s1, s2, s3, s4, s5, s6, s7, s8, s9⟩
          go_simp
          with_reducible rfl
        rotate_left
        · simp only [Act.put, List.setIfInBounds_toArray, List.set_cons_zero, List.set_cons_succ, i64_w, i32_w]
          rfl
        refine pure_ (i := 7) (N := some 78) (v := ?_) (a' := ?_) #[true, true, true, true, true, true, true, true, false, true, true, false, false, false, false, true, true, false, false, false, true, true, false, false, false, false, false, false, false, false] rfl rfl (by kernel_rfl) (fun _ _ _ h => h) (Or.inl ⟨by rfl, ?_⟩) ?_ ?_
        rotate_left
        · intro w'
          go_simp
          with_reducible rfl
        rotate_left
        · simp only [Act.put, List.setIfInBounds_toArray, List.set_cons_zero, List.set_cons_succ, i64_w, i32_w]
          rfl
        refine take_ (i := 8) (N := some 79) (v := ?_) (a' := ?_) #[true, true, true, true, true, true, true, true, true, true, true, false, false, false, false, true, true, false, false, false, true, true, false, false, false, false, false, false, false, false] rfl rfl (by kernel_rfl) (fun _ _ _ h => h) (Or.inl ⟨by rfl, ?_⟩) hHeld ?_ ?_
        rotate_left
        · rintro w' ⟨s0, s1, s2, s3, s4, s5, s6, s7, s8, s9⟩
          go_simp
          with_reducible rfl
        rotate_left
        · simp only [Act.put, List.setIfInBounds_toArray, List.set_cons_zero, List.set_cons_succ, i64_w, i32_w]
          rfl
        refine take_ (i := 11) (N := some 82) (v := ?_) (a' := ?_) #[true, true, true, true, true, true, true, true, true, true, true, true, false, false, false, true, true, false, false, false, true, true, false, false, false, false, false, false, false, false] rfl rfl (by kernel_rfl) (fun _ _ _ h => h) (Or.inl ⟨by rfl, ?_⟩) hHeld ?_ ?_
        rotate_left
        · rintro w' ⟨s0, s1, s2, s3, s4, s5, s6, s7, s8, s9⟩
          go_simp
          with_reducible rfl
        rotate_left
        · simp only [Act.put, List.setIfInBounds_toArray, List.set_cons_zero, List.set_cons_succ, i64_w, i32_w]
          rfl
        refine pure_ (i := 12) (N := some 83) (v := ?_) (a' := ?_) #[true, true, true, true, true, true, true, true, true, true, true, true, true, false, false, true, true, false, false, false, true, true, false, false, false, false, false, false, false, false] rfl rfl (by kernel_rfl) (fun _ _ _ h => h) (Or.inl ⟨by rfl, ?_⟩) ?_ ?_
        rotate_left
        · intro w'
          go_simp
          with_reducible rfl
        rotate_left
        · simp only [Act.put, List.setIfInBounds_toArray, List.set_cons_zero, List.set_cons_succ, i64_w, i32_w]
          rfl
        refine take_ (i := 13) (N := some 84) (v := ?_) (a' := ?_) #[true, true, true, true, true, true, true, true, true, true, true, true, true, true, false, true, true, false, false, false, true, true, false, false, false, false, false, false, false, false] rfl rfl (by kernel_rfl) (fun _ _ _ h => h) (Or.inl ⟨by rfl, ?_⟩) hHeld ?_ ?_
        rotate_left
        · rintro w' ⟨s0, s1, s2, s3, s4, s5, s6, s7, s8, s9⟩
          go_simp
          with_reducible rfl
        rotate_left
        · simp only [Act.put, List.setIfInBounds_toArray, List.set_cons_zero, List.set_cons_succ, i64_w, i32_w]
          rfl
        refine pure_ (i := 14) (N := some 85) (v := ?_) (a' := ?_) #[true, true, true, true, true, true, true, true, true, true, true, true, true, true, true, true, true, false, false, false, true, true, false, false, false, false, false, false, false, false] rfl rfl (by kernel_rfl) (fun _ _ _ h => h) (Or.inl ⟨by rfl, ?_⟩) ?_ ?_
        rotate_left
        · intro w'
          go_simp
          with_reducible rfl
        rotate_left
        · simp only [Act.put, List.setIfInBounds_toArray, List.set_cons_zero, List.set_cons_succ, i64_w, i32_w]
          rfl
        refine take_ (i := 17) (N := some 88) (v := ?_) (a' := ?_) #[true, true, true, true, true, true, true, true, true, true, true, true, true, true, true, true, true, true, false, false, true, true, false, false, false, false, false, false, false, false] rfl rfl (by kernel_rfl) (fun _ _ _ h => h) (Or.inl ⟨by rfl, ?_⟩) hHeld ?_ ?_
        rotate_left
        · rintro w' ⟨s0, s1, s2, s3, s4, s5, s6, s7, s8, s9⟩
          go_simp
          with_reducible rfl
        rotate_left
        · simp only [Act.put, List.setIfInBounds_toArray, List.set_cons_zero, List.set_cons_succ, i64_w, i32_w]
          rfl
        refine pure_ (i := 18) (N := some 89) (v := ?_) (a' := ?_) #[true, true, true, true, true, true, true, true, true, true, true, true, true, true, true, true, true, true, true, false, true, true, false, false, false, false, false, false, false, false] rfl rfl (by kernel_rfl) (fun _ _ _ h => h) (Or.inl ⟨by rfl, ?_⟩) ?_ ?_
        rotate_left
        · intro w'
          go_simp
          with_reducible rfl
        rotate_left
        · simp only [Act.put, List.setIfInBounds_toArray, List.set_cons_zero, List.set_cons_succ, i64_w, i32_w]
          rfl
        refine take_ (i := 19) (N := some 90) (v := ?_) (a' := ?_) #[true, true, true, true, true, true, true, true, true, true, true, true, true, true, true, true, true, true, true, true, true, true, false, false, false, false, false, false, false, false] rfl rfl (by kernel_rfl) (fun _ _ _ h => h) (Or.inl ⟨by rfl, ?_⟩) hHeld ?_ ?_
        rotate_left
        · rintro w' ⟨s0, s1, s2, s3, s4, s5, s6, s7, s8, s9⟩
          go_simp
          with_reducible rfl
        rotate_left
        · simp only [Act.put, List.setIfInBounds_toArray, List.set_cons_zero, List.set_cons_succ, i64_w, i32_w]
          rfl
        refine take_ (i := 22) (N := some 93) (v := ?_) (a' := ?_) #[true, true, true, true, true, true, true, true, true, true, true, true, true, true, true, true, true, true, true, true, true, true, true, false, false, false, false, false, false, false] rfl rfl (by kernel_rfl) (fun _ _ _ h => h) (Or.inl ⟨by rfl, ?_⟩) hHeld ?_ ?_
        rotate_left
        · rintro w' ⟨s0, s1, s2, s3, s4, s5, s6, s7, s8, s9⟩
          go_simp
          with_reducible rfl
        rotate_left
        · simp only [Act.put, List.setIfInBounds_toArray, List.set_cons_zero, List.set_cons_succ, i64_w, i32_w]
          rfl
        refine pure_ (i := 23) (N := some 94) (v := ?_) (a' := ?_) #[true, true, true, true, true, true, true, true, true, true, true, true, true, true, true, true, true, true, true, true, true, true, true, true, false, false, false, false, false, false] rfl rfl (by kernel_rfl) (fun _ _ _ h => h) (Or.inl ⟨by rfl, ?_⟩) ?_ ?_
        rotate_left
        · intro w'
          go_simp
          with_reducible rfl
        rotate_left
        · simp only [Act.put, List.setIfInBounds_toArray, List.set_cons_zero, List.set_cons_succ, i64_w, i32_w]
          rfl
        refine take_ (i := 24) (N := some 95) (v := ?_) (a' := ?_) #[true, true, true, true, true, true, true, true, true, true, true, true, true, true, true, true, true, true, true, true, true, true, true, true, true, false, false, false, false, false] rfl rfl (by kernel_rfl) (fun _ _ _ h => h) (Or.inl ⟨by rfl, ?_⟩) hHeld ?_ ?_
        rotate_left
        · rintro w' ⟨s0, s1, s2, s3, s4, s5, s6, s7, s8, s9⟩
          go_simp
          with_reducible rfl
        rotate_left
        · simp only [Act.put, List.setIfInBounds_toArray, List.set_cons_zero, List.set_cons_succ, i64_w, i32_w]
          rfl
        refine pure_ (i := 25) (N := some 96) (v := ?_) (a' := ?_) #[true, true, true, true, true, true, true, true, true, true, true, true, true, true, true, true, true, true, true, true, true, true, true, true, true, true, false, false, false, false] rfl rfl (by kernel_rfl) (fun _ _ _ h => h) (Or.inl ⟨by rfl, ?_⟩) ?_ ?_
        rotate_left
        · intro w'
          go_simp
          with_reducible rfl
        rotate_left
        · simp only [Act.put, List.setIfInBounds_toArray, List.set_cons_zero, List.set_cons_succ, i64_w, i32_w]
          rfl
        refine pure_ (i := 26) (N := some 97) (v := ?_) (a' := ?_) #[true, true, true, true, true, true, true, true, true, true, true, true, true, true, true, true, true, true, true, true, true, true, true, true, true, true, true, false, false, false] rfl rfl (by kernel_rfl) (fun _ _ _ h => h) (Or.inl ⟨by rfl, ?_⟩) ?_ ?_
        rotate_left
        · intro w'
          go_simp
          with_reducible rfl
        rotate_left
        · simp only [Act.put, List.setIfInBounds_toArray, List.set_cons_zero, List.set_cons_succ, i64_w, i32_w]
          rfl
        refine last_ (i := 27) (N := none) #[true, true, true, true, true, true, true, true, true, true, true, true, true, true, true, true, true, true, true, true, true, true, true, true, true, true, true, true, false, false] rfl rfl (by kernel_rfl) (by decide) (fun K hK => ?_)
        have c1 := blk_cell hHeld.2.2.2.2.2.2.1 i _ (upto_here h)
        have f1 := blk_free hHeld.2.2.2.2.2.2.1 i
        refine skip_ (w1 := ?_) (by rfl) rfl ?_ ?_
        rotate_left
        · go_simp
          rfl
        refine letter_ ?_
        intro W27 hW27
        have P27 : W27.heap[p]? = some (.cells (ic (upto LO (i + 1)) n) 3 (0, 0)) := by rw [hW27, ← upto_set h e0]; exact set_blk (i := i) hHeld.2.2.2.2.2.2.1 (.int .i64 (min lm lk))
        have Q27 : W27.heap[q]? = some (.cells (ic (upto HI i) n) 3 (0, 0)) := by rw [hW27]; exact set_other hHeld.2.2.2.2.2.2.2.1 (fun e => ne e.symm)
        have N27 : W27.heap[QQ]? = some (.cells #[.int .i64 9, .int .i64 (m : Nat), .int .i64 (k : Nat), .int .u64 s0, .int .u64 s1, .int .u64 s2, .int .u64 s3, .int .i64 x4, .int .i64 x5, .int .i64 x6, .int .i64 x7, .bool x8] 37 (0, 0)) := by rw [hW27]; exact set_other hHeld.2.2.2.2.2.2.2.2.1 np
        have B27 : Below w.heap.size w W27 := by rw [hW27]; exact below_set hHeld.2.2.2.2.2.2.2.2.2 lp _
        clear hW27 c1 f1
        refine hK.out _ _ ?_
        clear hK K
        refine pure_ (i := 28) (N := some 98) (v := ?_) (a' := ?_) #[true, true, true, true, true, true, true, true, true, true, true, true, true, true, true, true, true, true, true, true, true, true, true, true, true, true, true, true, true, false] rfl rfl (by kernel_rfl) (fun _ _ _ h => h) (Or.inl ⟨by rfl, ?_⟩) ?_ ?_
        rotate_left
        · intro w'
          go_simp
          with_reducible rfl
        rotate_left
        · simp only [Act.put, List.setIfInBounds_toArray, List.set_cons_zero, List.set_cons_succ, i64_w, i32_w]
          rfl
        refine last_ (i := 29) (N := none) #[true, true, true, true, true, true, true, true, true, true, true, true, true, true, true, true, true, true, true, true, true, true, true, true, true, true, true, true, true, true] rfl rfl (by kernel_rfl) (by decide) (fun K hK => ?_)
        have c2 := blk_cell Q27 i _ (upto_here h)
        have f2 := blk_free Q27 i
        refine skip_ (w1 := ?_) (by rfl) rfl ?_ ?_
        rotate_left
        · go_simp
          rfl
        refine letter_ ?_
        intro W29 hW29
        have P29 : W29.heap[p]? = some (.cells (ic (upto LO (i + 1)) n) 3 (0, 0)) := by rw [hW29]; exact set_other P27 ne
        have Q29 : W29.heap[q]? = some (.cells ((ic (upto HI i) n).setIfInBounds i (.int .i64 (max hm' hk'))) 3 (0, 0)) := by rw [hW29]; exact set_blk (i := i) Q27 (.int .i64 (max hm' hk'))
        have N29 : W29.heap[QQ]? = some (.cells #[.int .i64 9, .int .i64 (m : Nat), .int .i64 (k : Nat), .int .u64 s0, .int .u64 s1, .int .u64 s2, .int .u64 s3, .int .i64 x4, .int .i64 x5, .int .i64 x6, .int .i64 x7, .bool x8] 37 (0, 0)) := by rw [hW29]; exact set_other N27 nq
        have B29 : Below w.heap.size w W29 := by rw [hW29]; exact below_set B27 lq _
        clear hW29 c2 f2
        refine hK.out _ _ ?_
        clear hK K
        refine done_ (by kernel_rfl) ?_
        have n1 := blk_cell N29 1 (.int .i64 (m : Nat)) rfl
        have n2 := blk_cell N29 2 (.int .i64 (k : Nat)) rfl
        have q1 := blk_cell Q29 m (.int .i64 hm') (by rw [Array.getElem?_setIfInBounds_ne (by omega), upto_at h hm, EQM.out])
        have q2 := blk_cell Q29 k (.int .i64 hk') (by rw [Array.getElem?_setIfInBounds_ne (by omega), upto_at h hk, EQK.out])
        by_cases hmin : min hm' hk' = -1
        · rw [if_pos hmin] at e1
          have tA : (min hm' hk' == -1) = true := by simp [hmin]
          have tB : ((if hk' < hm' then hk' else hm') == -1) = true := by rw [hmi]; exact tA
          have c1 := blk_cell Q29 i _ (Array.getElem?_setIfInBounds_self_of_lt (by rw [ic_size]; exact h))
          have f1 := blk_free Q29 i
          have Q3 := set_blk (i := i) Q29 (.int .i64 (-1))
          rw [Array.setIfInBounds_setIfInBounds, upto_set h e1] at Q3
          have P3 := Lib.hid (set_other (i := i) (v := .int .i64 (-1)) P29 ne)
          have Q3 := Lib.hid Q3
          have H3 := fun N => Lib.hid (below_set (i := i) (below_drewN B29 N) lq (.int .i64 (-1)))
          clear e1 e0 P29 N29
          go_wp2
          go_quiet (fail)
          go_wp2
          go_roundw
          case rel => exact ⟨i + 1, by omega, by simp, P3, Q3, H3 _⟩
          case measure => simp [intOf]; omega
        · rw [if_neg hmin] at e1
          have tA : (min hm' hk' == -1) = false := by simp [hmin]
          have tB : ((if hk' < hm' then hk' else hm') == -1) = false := by rw [hmi]; exact tA
          have e2 := e1
          have Q3 := Q29
          rw [upto_set h e2] at Q3
          have P3 := Lib.hid P29
          have Q3 := Lib.hid Q3
          have H3 := fun N => Lib.hid (below_drewN B29 N)
          clear e1 e2 e0 P29 N29 Q29
          go_wp2
          go_quiet (fail)
          go_wp2
          go_roundw
          case rel => exact ⟨i + 1, by omega, by simp, P3, Q3, H3 _⟩
          case measure => simp [intOf]; omega
      · as_aux_lemma =>
        subst k0
        obtain ⟨ka1, ka2⟩ := ka
        obtain ⟨m, rfl⟩ := Int.eq_ofNat_of_zero_le ka1
        rw [Int.toNat_natCast] at e0 e1
        have hm : m < i := by omega
        have pm := blk_cell PN.out m _ (upto_at h hm)
        have qm := blk_cell QN.out m _ (upto_at h hm)
        have bm := HBD.out m (by omega)
        have n1 := blk_cell BN.out 1 _ rfl
        have n2 := blk_cell BN.out 2 _ rfl
        have n7 := blk_cell BN.out 7 _ rfl
        have n8 := blk_cell BN.out 8 _ rfl
        simp only [List.getElem_toArray, List.getElem_cons_zero, List.getElem_cons_succ] at n1 n2 n7 n8
        have np := Lib.hid (Nat.ne_of_gt HPW.out)
        have nq := Lib.hid (Nat.ne_of_gt HQW.out)
        have hmn : (m : Int) < (n : Int) := by omega
        have KL := Lib.hid (times_calls (LO m) x4 bm.1 r4)
        have KH := Lib.hid (times_calls (HI m) x5 bm.2 r5)
        clear hd bm
        generalize tm (LO m) x4 = u at *
        generalize tm (HI m) x5 = v at *
        generalize LO m = lm at *
        generalize HI m = hm' at *
        go_wp2
        generalize hW : wr.alloc (.cells #[.int .i64 10, .int .i64 (m : Nat), .int .i64 xb, .int .u64 s0, .int .u64 s1, .int .u64 s2, .int .u64 s3, .int .i64 x4, .int .i64 x5, .int .i64 x6, .int .i64 x7, .bool x8] 37) = v1 at *
        clear hW
        generalize wr.heap.size = QQ at *
        have np := np.out
        have nq := nq.out
        refine start_ (n := 24) (S := fun w' => w'.cell? ⟨QQ, 1, none⟩ = some (.int .i64 (m : Nat)) ∧ w'.cell? ⟨QQ, 7, none⟩ = some (.int .i64 x4) ∧ w'.cell? ⟨QQ, 8, none⟩ = some (.int .i64 x5) ∧ w'.cell? ⟨p, m, none⟩ = some (.int .i64 lm) ∧ w'.cell? ⟨q, m, none⟩ = some (.int .i64 hm') ∧ w'.heap[p]? = some (.cells (ic (upto LO i) n) 3 (0, 0)) ∧ w'.heap[q]? = some (.cells (ic (upto HI i) n) 3 (0, 0)) ∧ w'.heap[QQ]? = some (.cells #[.int .i64 10, .int .i64 (m : Nat), .int .i64 xb, .int .u64 s0, .int .u64 s1, .int .u64 s2, .int .u64 s3, .int .i64 x4, .int .i64 x5, .int .i64 x6, .int .i64 x7, .bool x8] 37 (0, 0)) ∧ Below w.heap.size w w') (ds := [21, 23]) #[false, false, false, false, false, false, false, false, false, false, false, false, false, false, false, false, false, false, false, false, false, false, false, false] (by kernel_rfl) rfl rfl ⟨n1, n7, n8, pm, qm, PN.out, QN.out, BN.out, HN.out.drew⟩ (fun hHeld => ?_)
        refine pure_ (i := 0) (N := some 116) (v := ?_) (a' := ?_) #[true, false, false, false, false, false, false, false, false, false, false, false, false, false, false, false, false, false, false, false, false, false, false, false] rfl rfl (by kernel_rfl) (fun _ _ _ h => h) (Or.inl ⟨by rfl, ?_⟩) ?_ ?_
        rotate_left
        · intro w'
          go_simp
          with_reducible rfl
        rotate_left
        · simp only [Act.put, List.setIfInBounds_toArray, List.set_cons_zero, List.set_cons_succ, i64_w, i32_w]
          rfl
        refine pure_ (i := 1) (N := some 117) (v := ?_) (a' := ?_) #[true, true, false, false, false, false, false, false, false, false, false, false, false, false, false, false, false, false, false, false, false, false, false, false] rfl rfl (by kernel_rfl) (fun _ _ _ h => h) (Or.inl ⟨by rfl, ?_⟩) ?_ ?_
        rotate_left
        · intro w'
          go_simp
          with_reducible rfl
        rotate_left
        · simp only [Act.put, List.setIfInBounds_toArray, List.set_cons_zero, List.set_cons_succ, i64_w, i32_w]
          rfl
        refine pure_ (i := 2) (N := some 118) (v := ?_) (a' := ?_) #[true, true, true, false, false, false, false, false, false, false, false, false, false, false, false, false, false, false, false, false, false, false, false, false] rfl rfl (by kernel_rfl) (fun _ _ _ h => h) (Or.inl ⟨by rfl, ?_⟩) ?_ ?_
        rotate_left
        · intro w'
          go_simp
          with_reducible rfl
        rotate_left
        · simp only [Act.put, List.setIfInBounds_toArray, List.set_cons_zero, List.set_cons_succ, i64_w, i32_w]
          rfl
        refine pure_ (i := 3) (N := some 119) (v := ?_) (a' := ?_) #[true, true, true, true, false, false, false, false, false, false, false, false, false, false, false, false, false, false, false, false, false, false, false, false] rfl rfl (by kernel_rfl) (fun _ _ _ h => h) (Or.inl ⟨by rfl, ?_⟩) ?_ ?_
        rotate_left
        · intro w'
          go_simp
          with_reducible rfl
        rotate_left
        · simp only [Act.put, List.setIfInBounds_toArray, List.set_cons_zero, List.set_cons_succ, i64_w, i32_w]
          rfl
        refine pure_ (i := 4) (N := some 120) (v := ?_) (a' := ?_) #[true, true, true, true, true, false, false, false, false, false, false, false, false, false, false, false, false, false, false, false, false, false, false, false] rfl rfl (by kernel_rfl) (fun _ _ _ h => h) (Or.inl ⟨by rfl, ?_⟩) ?_ ?_
        rotate_left
        · intro w'
          go_simp
          with_reducible rfl
        rotate_left
        · simp only [Act.put, List.setIfInBounds_toArray, List.set_cons_zero, List.set_cons_succ, i64_w, i32_w]
          rfl
        refine pure_ (i := 5) (N := some 121) (v := ?_) (a' := ?_) #[true, true, true, true, true, true, false, false, false, false, false, false, false, false, false, false, false, false, false, false, false, false, false, false] rfl rfl (by kernel_rfl) (fun _ _ _ h => h) (Or.inl ⟨by rfl, ?_⟩) ?_ ?_
        rotate_left
        · intro w'
          go_simp
          with_reducible rfl
        rotate_left
        · simp only [Act.put, List.setIfInBounds_toArray, List.set_cons_zero, List.set_cons_succ, i64_w, i32_w]
          rfl
        refine pure_ (i := 9) (N := some 125) (v := ?_) (a' := ?_) #[true, true, true, true, true, true, false, false, false, true, false, false, false, false, false, false, false, false, false, false, false, false, false, false] rfl rfl (by kernel_rfl) (fun _ _ _ h => h) (Or.inl ⟨by rfl, ?_⟩) ?_ ?_
        rotate_left
        · intro w'
          go_simp
          with_reducible rfl
        rotate_left
        · simp only [Act.put, List.setIfInBounds_toArray, List.set_cons_zero, List.set_cons_succ, i64_w, i32_w]
          rfl
        refine pure_ (i := 12) (N := some 128) (v := ?_) (a' := ?_) #[true, true, true, true, true, true, false, false, false, true, false, false, true, false, false, false, false, false, false, false, false, false, false, false] rfl rfl (by kernel_rfl) (fun _ _ _ h => h) (Or.inl ⟨by rfl, ?_⟩) ?_ ?_
        rotate_left
        · intro w'
          go_simp
          with_reducible rfl
        rotate_left
        · simp only [Act.put, List.setIfInBounds_toArray, List.set_cons_zero, List.set_cons_succ, i64_w, i32_w]
          rfl
        refine pure_ (i := 13) (N := some 129) (v := ?_) (a' := ?_) #[true, true, true, true, true, true, false, false, false, true, false, false, true, true, false, false, false, false, false, false, false, false, false, false] rfl rfl (by kernel_rfl) (fun _ _ _ h => h) (Or.inl ⟨by rfl, ?_⟩) ?_ ?_
        rotate_left
        · intro w'
          go_simp
          with_reducible rfl
        rotate_left
        · simp only [Act.put, List.setIfInBounds_toArray, List.set_cons_zero, List.set_cons_succ, i64_w, i32_w]
          rfl
        refine pure_ (i := 17) (N := some 133) (v := ?_) (a' := ?_) #[true, true, true, true, true, true, false, false, false, true, false, false, true, true, false, false, false, true, false, false, false, false, false, false] rfl rfl (by kernel_rfl) (fun _ _ _ h => h) (Or.inl ⟨by rfl, ?_⟩) ?_ ?_
        rotate_left
        · intro w'
          go_simp
          with_reducible rfl
        rotate_left
        · simp only [Act.put, List.setIfInBounds_toArray, List.set_cons_zero, List.set_cons_succ, i64_w, i32_w]
          rfl
        refine take_ (i := 6) (N := some 122) (v := ?_) (a' := ?_) #[true, true, true, true, true, true, true, false, false, true, false, false, true, true, false, false, false, true, false, false, false, false, false, false] rfl rfl (by kernel_rfl) (fun _ _ _ h => h) (Or.inl ⟨by rfl, ?_⟩) hHeld ?_ ?_
        rotate_left
        · rintro w' ⟨s0, s1, s2, s3, s4, s5, s6, s7, s8⟩
          go_simp
          with_reducible rfl
        rotate_left
        · simp only [Act.put, List.setIfInBounds_toArray, List.set_cons_zero, List.set_cons_succ, i64_w, i32_w]
          rfl
        refine pure_ (i := 7) (N := some 123) (v := ?_) (a' := ?_) #[true, true, true, true, true, true, true, true, false, true, false, false, true, true, false, false, false, true, false, false, false, false, false, false] rfl rfl (by kernel_rfl) (fun _ _ _ h => h) (Or.inl ⟨by rfl, ?_⟩) ?_ ?_
        rotate_left
        · intro w'
          go_simp
          with_reducible rfl
        rotate_left
        · simp only [Act.put, List.setIfInBounds_toArray, List.set_cons_zero, List.set_cons_succ, i64_w, i32_w]
          rfl
        refine take_ (i := 8) (N := some 124) (v := ?_) (a' := ?_) #[true, true, true, true, true, true, true, true, true, true, false, false, true, true, false, false, false, true, false, false, false, false, false, false] rfl rfl (by kernel_rfl) (fun _ _ _ h => h) (Or.inl ⟨by rfl, ?_⟩) hHeld ?_ ?_
        rotate_left
        · rintro w' ⟨s0, s1, s2, s3, s4, s5, s6, s7, s8⟩
          go_simp
          with_reducible rfl
        rotate_left
        · simp only [Act.put, List.setIfInBounds_toArray, List.set_cons_zero, List.set_cons_succ, i64_w, i32_w]
          rfl
        refine take_ (i := 10) (N := some 126) (v := ?_) (a' := ?_) #[true, true, true, true, true, true, true, true, true, true, true, false, true, true, false, false, false, true, false, false, false, false, false, false] rfl rfl (by kernel_rfl) (fun _ _ _ h => h) (Or.inl ⟨by rfl, ?_⟩) hHeld ?_ ?_
        rotate_left
        · rintro w' ⟨s0, s1, s2, s3, s4, s5, s6, s7, s8⟩
          go_simp
          with_reducible rfl
        rotate_left
        · simp only [Act.put, List.setIfInBounds_toArray, List.set_cons_zero, List.set_cons_succ, i64_w, i32_w]
          rfl
        refine take_ (i := 14) (N := some 130) (v := ?_) (a' := ?_) #[true, true, true, true, true, true, true, true, true, true, true, false, true, true, true, false, false, true, false, false, false, false, false, false] rfl rfl (by kernel_rfl) (fun _ _ _ h => h) (Or.inl ⟨by rfl, ?_⟩) hHeld ?_ ?_
        rotate_left
        · rintro w' ⟨s0, s1, s2, s3, s4, s5, s6, s7, s8⟩
          go_simp
          with_reducible rfl
        rotate_left
        · simp only [Act.put, List.setIfInBounds_toArray, List.set_cons_zero, List.set_cons_succ, i64_w, i32_w]
          rfl
        refine pure_ (i := 15) (N := some 131) (v := ?_) (a' := ?_) #[true, true, true, true, true, true, true, true, true, true, true, false, true, true, true, true, false, true, false, false, false, false, false, false] rfl rfl (by kernel_rfl) (fun _ _ _ h => h) (Or.inl ⟨by rfl, ?_⟩) ?_ ?_
        rotate_left
        · intro w'
          go_simp
          with_reducible rfl
        rotate_left
        · simp only [Act.put, List.setIfInBounds_toArray, List.set_cons_zero, List.set_cons_succ, i64_w, i32_w]
          rfl
        refine take_ (i := 16) (N := some 132) (v := ?_) (a' := ?_) #[true, true, true, true, true, true, true, true, true, true, true, false, true, true, true, true, true, true, false, false, false, false, false, false] rfl rfl (by kernel_rfl) (fun _ _ _ h => h) (Or.inl ⟨by rfl, ?_⟩) hHeld ?_ ?_
        rotate_left
        · rintro w' ⟨s0, s1, s2, s3, s4, s5, s6, s7, s8⟩
          go_simp
          with_reducible rfl
        rotate_left
        · simp only [Act.put, List.setIfInBounds_toArray, List.set_cons_zero, List.set_cons_succ, i64_w, i32_w]
          rfl
        refine take_ (i := 18) (N := some 134) (v := ?_) (a' := ?_) #[true, true, true, true, true, true, true, true, true, true, true, false, true, true, true, true, true, true, true, false, false, false, false, false] rfl rfl (by kernel_rfl) (fun _ _ _ h => h) (Or.inl ⟨by rfl, ?_⟩) hHeld ?_ ?_
        rotate_left
        · rintro w' ⟨s0, s1, s2, s3, s4, s5, s6, s7, s8⟩
          go_simp
          with_reducible rfl
        rotate_left
        · simp only [Act.put, List.setIfInBounds_toArray, List.set_cons_zero, List.set_cons_succ, i64_w, i32_w]
          rfl
        refine one_ (i := 11) (N := some 127) #[true, true, true, true, true, true, true, true, true, true, true, true, true, true, true, true, true, true, true, false, false, false, false, false] rfl rfl (by kernel_rfl) (by decide) (fun K hK => ?_)
        refine goes_ Tryd.func32 (by kernel_rfl) rfl #[.int .i64 lm, .int .i64 x4] (by rfl) rfl rfl (by simp only [List.map_toArray, List.map_cons, List.map_nil]; rfl) ?_
        with_reducible refine (KL.out _).mono ?_
        rintro e X1 ⟨rfl, hb⟩
        refine ⟨_, rfl, ?_⟩
        refine hK.out _ _ ⟨(below_of hb hHeld.1), (below_of hb hHeld.2.1), (below_of hb hHeld.2.2.1), (below_of hb hHeld.2.2.2.1), (below_of hb hHeld.2.2.2.2.1), (below_blk hb hHeld.2.2.2.2.2.1), (below_blk hb hHeld.2.2.2.2.2.2.1), (below_blk hb hHeld.2.2.2.2.2.2.2.1), (below_step hHeld.2.2.2.2.2.2.2.2 hb)⟩ (fun hHeld => ?_)
        clear hK K
        refine norm_ (a' := ?_) ?_ ?_
        rotate_left
        · show Act.put _ (some 127) _ = _
          simp only [Act.put, List.setIfInBounds_toArray, List.set_cons_zero, List.set_cons_succ, i64_w, i32_w]
          rfl
        refine one_ (i := 19) (N := some 135) #[true, true, true, true, true, true, true, true, true, true, true, true, true, true, true, true, true, true, true, true, false, false, false, false] rfl rfl (by kernel_rfl) (by decide) (fun K hK => ?_)
        refine goes_ Tryd.func32 (by kernel_rfl) rfl #[.int .i64 hm', .int .i64 x5] (by rfl) rfl rfl (by simp only [List.map_toArray, List.map_cons, List.map_nil]; rfl) ?_
        with_reducible refine (KH.out _).mono ?_
        rintro e X2 ⟨rfl, hb⟩
        refine ⟨_, rfl, ?_⟩
        refine hK.out _ _ ⟨(below_of hb hHeld.1), (below_of hb hHeld.2.1), (below_of hb hHeld.2.2.1), (below_of hb hHeld.2.2.2.1), (below_of hb hHeld.2.2.2.2.1), (below_blk hb hHeld.2.2.2.2.2.1), (below_blk hb hHeld.2.2.2.2.2.2.1), (below_blk hb hHeld.2.2.2.2.2.2.2.1), (below_step hHeld.2.2.2.2.2.2.2.2 hb)⟩ (fun hHeld => ?_)
        clear hK K
        refine norm_ (a' := ?_) ?_ ?_
        rotate_left
        · show Act.put _ (some 135) _ = _
          simp only [Act.put, List.setIfInBounds_toArray, List.set_cons_zero, List.set_cons_succ, i64_w, i32_w]
          rfl
        refine pure_ (i := 20) (N := some 136) (v := ?_) (a' := ?_) #[true, true, true, true, true, true, true, true, true, true, true, true, true, true, true, true, true, true, true, true, true, false, false, false] rfl rfl (by kernel_rfl) (fun _ _ _ h => h) (Or.inl ⟨by rfl, ?_⟩) ?_ ?_
        rotate_left
        · intro w'
          go_simp
          with_reducible rfl
        rotate_left
        · simp only [Act.put, List.setIfInBounds_toArray, List.set_cons_zero, List.set_cons_succ, i64_w, i32_w]
          rfl
        refine last_ (i := 21) (N := none) #[true, true, true, true, true, true, true, true, true, true, true, true, true, true, true, true, true, true, true, true, true, true, false, false] rfl rfl (by kernel_rfl) (by decide) (fun K hK => ?_)
        have c1 := blk_cell hHeld.2.2.2.2.2.1 i _ (upto_here h)
        have f1 := blk_free hHeld.2.2.2.2.2.1 i
        refine skip_ (w1 := ?_) (by rfl) rfl ?_ ?_
        rotate_left
        · go_simp
          rfl
        refine letter_ ?_
        intro W27 hW27
        have P27 : W27.heap[p]? = some (.cells (ic (upto LO (i + 1)) n) 3 (0, 0)) := by rw [hW27, ← upto_set h e0]; exact set_blk (i := i) hHeld.2.2.2.2.2.1 (.int .i64 (u))
        have Q27 : W27.heap[q]? = some (.cells (ic (upto HI i) n) 3 (0, 0)) := by rw [hW27]; exact set_other hHeld.2.2.2.2.2.2.1 (fun e => ne e.symm)
        have N27 : W27.heap[QQ]? = some (.cells #[.int .i64 10, .int .i64 (m : Nat), .int .i64 xb, .int .u64 s0, .int .u64 s1, .int .u64 s2, .int .u64 s3, .int .i64 x4, .int .i64 x5, .int .i64 x6, .int .i64 x7, .bool x8] 37 (0, 0)) := by rw [hW27]; exact set_other hHeld.2.2.2.2.2.2.2.1 np
        have B27 : Below w.heap.size w W27 := by rw [hW27]; exact below_set hHeld.2.2.2.2.2.2.2.2 lp _
        clear hW27 c1 f1
        refine hK.out _ _ ?_
        clear hK K
        refine pure_ (i := 22) (N := some 137) (v := ?_) (a' := ?_) #[true, true, true, true, true, true, true, true, true, true, true, true, true, true, true, true, true, true, true, true, true, true, true, false] rfl rfl (by kernel_rfl) (fun _ _ _ h => h) (Or.inl ⟨by rfl, ?_⟩) ?_ ?_
        rotate_left
        · intro w'
          go_simp
          with_reducible rfl
        rotate_left
        · simp only [Act.put, List.setIfInBounds_toArray, List.set_cons_zero, List.set_cons_succ, i64_w, i32_w]
          rfl
        refine last_ (i := 23) (N := none) #[true, true, true, true, true, true, true, true, true, true, true, true, true, true, true, true, true, true, true, true, true, true, true, true] rfl rfl (by kernel_rfl) (by decide) (fun K hK => ?_)
        have c2 := blk_cell Q27 i _ (upto_here h)
        have f2 := blk_free Q27 i
        refine skip_ (w1 := ?_) (by rfl) rfl ?_ ?_
        rotate_left
        · go_simp
          rfl
        refine letter_ ?_
        intro W29 hW29
        have P29 : W29.heap[p]? = some (.cells (ic (upto LO (i + 1)) n) 3 (0, 0)) := by rw [hW29]; exact set_other P27 ne
        have Q29 : W29.heap[q]? = some (.cells (ic (upto HI (i + 1)) n) 3 (0, 0)) := by rw [hW29, ← upto_set h e1]; exact set_blk (i := i) Q27 (.int .i64 (v))
        have N29 : W29.heap[QQ]? = some (.cells #[.int .i64 10, .int .i64 (m : Nat), .int .i64 xb, .int .u64 s0, .int .u64 s1, .int .u64 s2, .int .u64 s3, .int .i64 x4, .int .i64 x5, .int .i64 x6, .int .i64 x7, .bool x8] 37 (0, 0)) := by rw [hW29]; exact set_other N27 nq
        have B29 : Below w.heap.size w W29 := by rw [hW29]; exact below_set B27 lq _
        clear hW29 c2 f2
        refine hK.out _ _ ?_
        clear hK K
        refine done_ (by kernel_rfl) ?_
        go_wp2
        go_roundw
        case rel => exact ⟨i + 1, by omega, by simp, Lib.hid P29, Lib.hid Q29, Lib.hid B29⟩
        case measure => simp [intOf]; omega
      · as_aux_lemma =>
        rcases k0 with k0 | k0
        · subst k0
          obtain ⟨ka1, ka2⟩ := ka
          obtain ⟨m, rfl⟩ := Int.eq_ofNat_of_zero_le ka1
          rw [Int.toNat_natCast] at e0 e1
          have hm : m < i := by omega
          have pm := blk_cell PN.out m _ (upto_at h hm)
          have qm := blk_cell QN.out m _ (upto_at h hm)
          have bm := HBD.out m (by omega)
          have n1 := blk_cell BN.out 1 _ rfl
          have n2 := blk_cell BN.out 2 _ rfl
          have n7 := blk_cell BN.out 7 _ rfl
          have n8 := blk_cell BN.out 8 _ rfl
          simp only [List.getElem_toArray, List.getElem_cons_zero, List.getElem_cons_succ] at n1 n2 n7 n8
          have np := Lib.hid (Nat.ne_of_gt HPW.out)
          have nq := Lib.hid (Nat.ne_of_gt HQW.out)
          have hmn : (m : Int) < (n : Int) := by omega
          clear hd bm
          generalize LO m = u at *
          generalize HI m = v at *
          go_wp2
          generalize hW : wr.alloc (.cells #[.int .i64 11, .int .i64 (m : Nat), .int .i64 xb, .int .u64 s0, .int .u64 s1, .int .u64 s2, .int .u64 s3, .int .i64 x4, .int .i64 x5, .int .i64 x6, .int .i64 x7, .bool x8] 37) = v1 at *
          clear hW
          generalize wr.heap.size = QQ at *
          have np := np.out
          have nq := nq.out
          refine start_ (n := 18) (S := fun w' => w'.cell? ⟨QQ, 1, none⟩ = some (.int .i64 (m : Nat)) ∧ w'.cell? ⟨p, m, none⟩ = some (.int .i64 u) ∧ w'.cell? ⟨q, m, none⟩ = some (.int .i64 v) ∧ w'.heap[p]? = some (.cells (ic (upto LO i) n) 3 (0, 0)) ∧ w'.heap[q]? = some (.cells (ic (upto HI i) n) 3 (0, 0)) ∧ w'.heap[QQ]? = some (.cells #[.int .i64 11, .int .i64 (m : Nat), .int .i64 xb, .int .u64 s0, .int .u64 s1, .int .u64 s2, .int .u64 s3, .int .i64 x4, .int .i64 x5, .int .i64 x6, .int .i64 x7, .bool x8] 37 (0, 0)) ∧ Below w.heap.size w w') (ds := [15, 17]) #[false, false, false, false, false, false, false, false, false, false, false, false, false, false, false, false, false, false] (by kernel_rfl) rfl rfl ⟨n1, pm, qm, PN.out, QN.out, BN.out, HN.out.drew⟩ (fun hHeld => ?_)
          refine pure_ (i := 0) (N := some 141) (v := ?_) (a' := ?_) #[true, false, false, false, false, false, false, false, false, false, false, false, false, false, false, false, false, false] rfl rfl (by kernel_rfl) (fun _ _ _ h => h) (Or.inl ⟨by rfl, ?_⟩) ?_ ?_
          rotate_left
          · intro w'
            go_simp
            with_reducible rfl
          rotate_left
          · simp only [Act.put, List.setIfInBounds_toArray, List.set_cons_zero, List.set_cons_succ, i64_w, i32_w]
            rfl
          refine pure_ (i := 1) (N := some 142) (v := ?_) (a' := ?_) #[true, true, false, false, false, false, false, false, false, false, false, false, false, false, false, false, false, false] rfl rfl (by kernel_rfl) (fun _ _ _ h => h) (Or.inl ⟨by rfl, ?_⟩) ?_ ?_
          rotate_left
          · intro w'
            go_simp
            with_reducible rfl
          rotate_left
          · simp only [Act.put, List.setIfInBounds_toArray, List.set_cons_zero, List.set_cons_succ, i64_w, i32_w]
            rfl
          refine pure_ (i := 2) (N := some 143) (v := ?_) (a' := ?_) #[true, true, true, false, false, false, false, false, false, false, false, false, false, false, false, false, false, false] rfl rfl (by kernel_rfl) (fun _ _ _ h => h) (Or.inl ⟨by rfl, ?_⟩) ?_ ?_
          rotate_left
          · intro w'
            go_simp
            with_reducible rfl
          rotate_left
          · simp only [Act.put, List.setIfInBounds_toArray, List.set_cons_zero, List.set_cons_succ, i64_w, i32_w]
            rfl
          refine pure_ (i := 3) (N := some 144) (v := ?_) (a' := ?_) #[true, true, true, true, false, false, false, false, false, false, false, false, false, false, false, false, false, false] rfl rfl (by kernel_rfl) (fun _ _ _ h => h) (Or.inl ⟨by rfl, ?_⟩) ?_ ?_
          rotate_left
          · intro w'
            go_simp
            with_reducible rfl
          rotate_left
          · simp only [Act.put, List.setIfInBounds_toArray, List.set_cons_zero, List.set_cons_succ, i64_w, i32_w]
            rfl
          refine pure_ (i := 4) (N := some 145) (v := ?_) (a' := ?_) #[true, true, true, true, true, false, false, false, false, false, false, false, false, false, false, false, false, false] rfl rfl (by kernel_rfl) (fun _ _ _ h => h) (Or.inl ⟨by rfl, ?_⟩) ?_ ?_
          rotate_left
          · intro w'
            go_simp
            with_reducible rfl
          rotate_left
          · simp only [Act.put, List.setIfInBounds_toArray, List.set_cons_zero, List.set_cons_succ, i64_w, i32_w]
            rfl
          refine pure_ (i := 5) (N := some 146) (v := ?_) (a' := ?_) #[true, true, true, true, true, true, false, false, false, false, false, false, false, false, false, false, false, false] rfl rfl (by kernel_rfl) (fun _ _ _ h => h) (Or.inl ⟨by rfl, ?_⟩) ?_ ?_
          rotate_left
          · intro w'
            go_simp
            with_reducible rfl
          rotate_left
          · simp only [Act.put, List.setIfInBounds_toArray, List.set_cons_zero, List.set_cons_succ, i64_w, i32_w]
            rfl
          refine pure_ (i := 9) (N := some 150) (v := ?_) (a' := ?_) #[true, true, true, true, true, true, false, false, false, true, false, false, false, false, false, false, false, false] rfl rfl (by kernel_rfl) (fun _ _ _ h => h) (Or.inl ⟨by rfl, ?_⟩) ?_ ?_
          rotate_left
          · intro w'
            go_simp
            with_reducible rfl
          rotate_left
          · simp only [Act.put, List.setIfInBounds_toArray, List.set_cons_zero, List.set_cons_succ, i64_w, i32_w]
            rfl
          refine pure_ (i := 10) (N := some 151) (v := ?_) (a' := ?_) #[true, true, true, true, true, true, false, false, false, true, true, false, false, false, false, false, false, false] rfl rfl (by kernel_rfl) (fun _ _ _ h => h) (Or.inl ⟨by rfl, ?_⟩) ?_ ?_
          rotate_left
          · intro w'
            go_simp
            with_reducible rfl
          rotate_left
          · simp only [Act.put, List.setIfInBounds_toArray, List.set_cons_zero, List.set_cons_succ, i64_w, i32_w]
            rfl
          refine take_ (i := 6) (N := some 147) (v := ?_) (a' := ?_) #[true, true, true, true, true, true, true, false, false, true, true, false, false, false, false, false, false, false] rfl rfl (by kernel_rfl) (fun _ _ _ h => h) (Or.inl ⟨by rfl, ?_⟩) hHeld ?_ ?_
          rotate_left
          · rintro w' ⟨s0, s1, s2, s3, s4, s5, s6⟩
            go_simp
            with_reducible rfl
          rotate_left
          · simp only [Act.put, List.setIfInBounds_toArray, List.set_cons_zero, List.set_cons_succ, i64_w, i32_w]
            rfl
          refine pure_ (i := 7) (N := some 148) (v := ?_) (a' := ?_) #[true, true, true, true, true, true, true, true, false, true, true, false, false, false, false, false, false, false] rfl rfl (by kernel_rfl) (fun _ _ _ h => h) (Or.inl ⟨by rfl, ?_⟩) ?_ ?_
          rotate_left
          · intro w'
            go_simp
            with_reducible rfl
          rotate_left
          · simp only [Act.put, List.setIfInBounds_toArray, List.set_cons_zero, List.set_cons_succ, i64_w, i32_w]
            rfl
          refine take_ (i := 8) (N := some 149) (v := ?_) (a' := ?_) #[true, true, true, true, true, true, true, true, true, true, true, false, false, false, false, false, false, false] rfl rfl (by kernel_rfl) (fun _ _ _ h => h) (Or.inl ⟨by rfl, ?_⟩) hHeld ?_ ?_
          rotate_left
          · rintro w' ⟨s0, s1, s2, s3, s4, s5, s6⟩
            go_simp
            with_reducible rfl
          rotate_left
          · simp only [Act.put, List.setIfInBounds_toArray, List.set_cons_zero, List.set_cons_succ, i64_w, i32_w]
            rfl
          refine take_ (i := 11) (N := some 152) (v := ?_) (a' := ?_) #[true, true, true, true, true, true, true, true, true, true, true, true, false, false, false, false, false, false] rfl rfl (by kernel_rfl) (fun _ _ _ h => h) (Or.inl ⟨by rfl, ?_⟩) hHeld ?_ ?_
          rotate_left
          · rintro w' ⟨s0, s1, s2, s3, s4, s5, s6⟩
            go_simp
            with_reducible rfl
          rotate_left
          · simp only [Act.put, List.setIfInBounds_toArray, List.set_cons_zero, List.set_cons_succ, i64_w, i32_w]
            rfl
          refine pure_ (i := 12) (N := some 153) (v := ?_) (a' := ?_) #[true, true, true, true, true, true, true, true, true, true, true, true, true, false, false, false, false, false] rfl rfl (by kernel_rfl) (fun _ _ _ h => h) (Or.inl ⟨by rfl, ?_⟩) ?_ ?_
          rotate_left
          · intro w'
            go_simp
            with_reducible rfl
          rotate_left
          · simp only [Act.put, List.setIfInBounds_toArray, List.set_cons_zero, List.set_cons_succ, i64_w, i32_w]
            rfl
          refine take_ (i := 13) (N := some 154) (v := ?_) (a' := ?_) #[true, true, true, true, true, true, true, true, true, true, true, true, true, true, false, false, false, false] rfl rfl (by kernel_rfl) (fun _ _ _ h => h) (Or.inl ⟨by rfl, ?_⟩) hHeld ?_ ?_
          rotate_left
          · rintro w' ⟨s0, s1, s2, s3, s4, s5, s6⟩
            go_simp
            with_reducible rfl
          rotate_left
          · simp only [Act.put, List.setIfInBounds_toArray, List.set_cons_zero, List.set_cons_succ, i64_w, i32_w]
            rfl
          refine pure_ (i := 14) (N := some 155) (v := ?_) (a' := ?_) #[true, true, true, true, true, true, true, true, true, true, true, true, true, true, true, false, false, false] rfl rfl (by kernel_rfl) (fun _ _ _ h => h) (Or.inl ⟨by rfl, ?_⟩) ?_ ?_
          rotate_left
          · intro w'
            go_simp
            with_reducible rfl
          rotate_left
          · simp only [Act.put, List.setIfInBounds_toArray, List.set_cons_zero, List.set_cons_succ, i64_w, i32_w]
            rfl
          refine last_ (i := 15) (N := none) #[true, true, true, true, true, true, true, true, true, true, true, true, true, true, true, true, false, false] rfl rfl (by kernel_rfl) (by decide) (fun K hK => ?_)
          have c1 := blk_cell hHeld.2.2.2.1 i _ (upto_here h)
          have f1 := blk_free hHeld.2.2.2.1 i
          refine skip_ (w1 := ?_) (by rfl) rfl ?_ ?_
          rotate_left
          · go_simp
            rfl
          refine letter_ ?_
          intro W27 hW27
          have P27 : W27.heap[p]? = some (.cells (ic (upto LO (i + 1)) n) 3 (0, 0)) := by rw [hW27, ← upto_set h e0]; exact set_blk (i := i) hHeld.2.2.2.1 (.int .i64 (u))
          have Q27 : W27.heap[q]? = some (.cells (ic (upto HI i) n) 3 (0, 0)) := by rw [hW27]; exact set_other hHeld.2.2.2.2.1 (fun e => ne e.symm)
          have N27 : W27.heap[QQ]? = some (.cells #[.int .i64 11, .int .i64 (m : Nat), .int .i64 xb, .int .u64 s0, .int .u64 s1, .int .u64 s2, .int .u64 s3, .int .i64 x4, .int .i64 x5, .int .i64 x6, .int .i64 x7, .bool x8] 37 (0, 0)) := by rw [hW27]; exact set_other hHeld.2.2.2.2.2.1 np
          have B27 : Below w.heap.size w W27 := by rw [hW27]; exact below_set hHeld.2.2.2.2.2.2 lp _
          clear hW27 c1 f1
          refine hK.out _ _ ?_
          clear hK K
          refine pure_ (i := 16) (N := some 156) (v := ?_) (a' := ?_) #[true, true, true, true, true, true, true, true, true, true, true, true, true, true, true, true, true, false] rfl rfl (by kernel_rfl) (fun _ _ _ h => h) (Or.inl ⟨by rfl, ?_⟩) ?_ ?_
          rotate_left
          · intro w'
            go_simp
            with_reducible rfl
          rotate_left
          · simp only [Act.put, List.setIfInBounds_toArray, List.set_cons_zero, List.set_cons_succ, i64_w, i32_w]
            rfl
          refine last_ (i := 17) (N := none) #[true, true, true, true, true, true, true, true, true, true, true, true, true, true, true, true, true, true] rfl rfl (by kernel_rfl) (by decide) (fun K hK => ?_)
          have c2 := blk_cell Q27 i _ (upto_here h)
          have f2 := blk_free Q27 i
          refine skip_ (w1 := ?_) (by rfl) rfl ?_ ?_
          rotate_left
          · go_simp
            rfl
          refine letter_ ?_
          intro W29 hW29
          have P29 : W29.heap[p]? = some (.cells (ic (upto LO (i + 1)) n) 3 (0, 0)) := by rw [hW29]; exact set_other P27 ne
          have Q29 : W29.heap[q]? = some (.cells (ic (upto HI (i + 1)) n) 3 (0, 0)) := by rw [hW29, ← upto_set h e1]; exact set_blk (i := i) Q27 (.int .i64 (v))
          have N29 : W29.heap[QQ]? = some (.cells #[.int .i64 11, .int .i64 (m : Nat), .int .i64 xb, .int .u64 s0, .int .u64 s1, .int .u64 s2, .int .u64 s3, .int .i64 x4, .int .i64 x5, .int .i64 x6, .int .i64 x7, .bool x8] 37 (0, 0)) := by rw [hW29]; exact set_other N27 nq
          have B29 : Below w.heap.size w W29 := by rw [hW29]; exact below_set B27 lq _
          clear hW29 c2 f2
          refine hK.out _ _ ?_
          clear hK K
          refine done_ (by kernel_rfl) ?_
          go_wp2
          go_roundw
          case rel => exact ⟨i + 1, by omega, by simp, Lib.hid P29, Lib.hid Q29, Lib.hid B29⟩
          case measure => simp [intOf]; omega
        · subst k0
          obtain ⟨ka1, ka2⟩ := ka
          obtain ⟨m, rfl⟩ := Int.eq_ofNat_of_zero_le ka1
          rw [Int.toNat_natCast] at e0 e1
          have hm : m < i := by omega
          have pm := blk_cell PN.out m _ (upto_at h hm)
          have qm := blk_cell QN.out m _ (upto_at h hm)
          have bm := HBD.out m (by omega)
          have n1 := blk_cell BN.out 1 _ rfl
          have n2 := blk_cell BN.out 2 _ rfl
          have n7 := blk_cell BN.out 7 _ rfl
          have n8 := blk_cell BN.out 8 _ rfl
          simp only [List.getElem_toArray, List.getElem_cons_zero, List.getElem_cons_succ] at n1 n2 n7 n8
          have np := Lib.hid (Nat.ne_of_gt HPW.out)
          have nq := Lib.hid (Nat.ne_of_gt HQW.out)
          have hmn : (m : Int) < (n : Int) := by omega
          clear hd bm
          generalize LO m = u at *
          generalize HI m = v at *
          go_wp2
          generalize hW : wr.alloc (.cells #[.int .i64 17, .int .i64 (m : Nat), .int .i64 xb, .int .u64 s0, .int .u64 s1, .int .u64 s2, .int .u64 s3, .int .i64 x4, .int .i64 x5, .int .i64 x6, .int .i64 x7, .bool x8] 37) = v1 at *
          clear hW
          generalize wr.heap.size = QQ at *
          have np := np.out
          have nq := nq.out
          refine start_ (n := 18) (S := fun w' => w'.cell? ⟨QQ, 1, none⟩ = some (.int .i64 (m : Nat)) ∧ w'.cell? ⟨p, m, none⟩ = some (.int .i64 u) ∧ w'.cell? ⟨q, m, none⟩ = some (.int .i64 v) ∧ w'.heap[p]? = some (.cells (ic (upto LO i) n) 3 (0, 0)) ∧ w'.heap[q]? = some (.cells (ic (upto HI i) n) 3 (0, 0)) ∧ w'.heap[QQ]? = some (.cells #[.int .i64 17, .int .i64 (m : Nat), .int .i64 xb, .int .u64 s0, .int .u64 s1, .int .u64 s2, .int .u64 s3, .int .i64 x4, .int .i64 x5, .int .i64 x6, .int .i64 x7, .bool x8] 37 (0, 0)) ∧ Below w.heap.size w w') (ds := [15, 17]) #[false, false, false, false, false, false, false, false, false, false, false, false, false, false, false, false, false, false] (by kernel_rfl) rfl rfl ⟨n1, pm, qm, PN.out, QN.out, BN.out, HN.out.drew⟩ (fun hHeld => ?_)
          refine pure_ (i := 0) (N := some 141) (v := ?_) (a' := ?_) #[true, false, false, false, false, false, false, false, false, false, false, false, false, false, false, false, false, false] rfl rfl (by kernel_rfl) (fun _ _ _ h => h) (Or.inl ⟨by rfl, ?_⟩) ?_ ?_
          rotate_left
          · intro w'
            go_simp
            with_reducible rfl
          rotate_left
          · simp only [Act.put, List.setIfInBounds_toArray, List.set_cons_zero, List.set_cons_succ, i64_w, i32_w]
            rfl
          refine pure_ (i := 1) (N := some 142) (v := ?_) (a' := ?_) #[true, true, false, false, false, false, false, false, false, false, false, false, false, false, false, false, false, false] rfl rfl (by kernel_rfl) (fun _ _ _ h => h) (Or.inl ⟨by rfl, ?_⟩) ?_ ?_
          rotate_left
          · intro w'
            go_simp
            with_reducible rfl
          rotate_left
          · simp only [Act.put, List.setIfInBounds_toArray, List.set_cons_zero, List.set_cons_succ, i64_w, i32_w]
            rfl
          refine pure_ (i := 2) (N := some 143) (v := ?_) (a' := ?_) #[true, true, true, false, false, false, false, false, false, false, false, false, false, false, false, false, false, false] rfl rfl (by kernel_rfl) (fun _ _ _ h => h) (Or.inl ⟨by rfl, ?_⟩) ?_ ?_
          rotate_left
          · intro w'
            go_simp
            with_reducible rfl
          rotate_left
          · simp only [Act.put, List.setIfInBounds_toArray, List.set_cons_zero, List.set_cons_succ, i64_w, i32_w]
            rfl
          refine pure_ (i := 3) (N := some 144) (v := ?_) (a' := ?_) #[true, true, true, true, false, false, false, false, false, false, false, false, false, false, false, false, false, false] rfl rfl (by kernel_rfl) (fun _ _ _ h => h) (Or.inl ⟨by rfl, ?_⟩) ?_ ?_
          rotate_left
          · intro w'
            go_simp
            with_reducible rfl
          rotate_left
          · simp only [Act.put, List.setIfInBounds_toArray, List.set_cons_zero, List.set_cons_succ, i64_w, i32_w]
            rfl
          refine pure_ (i := 4) (N := some 145) (v := ?_) (a' := ?_) #[true, true, true, true, true, false, false, false, false, false, false, false, false, false, false, false, false, false] rfl rfl (by kernel_rfl) (fun _ _ _ h => h) (Or.inl ⟨by rfl, ?_⟩) ?_ ?_
          rotate_left
          · intro w'
            go_simp
            with_reducible rfl
          rotate_left
          · simp only [Act.put, List.setIfInBounds_toArray, List.set_cons_zero, List.set_cons_succ, i64_w, i32_w]
            rfl
          refine pure_ (i := 5) (N := some 146) (v := ?_) (a' := ?_) #[true, true, true, true, true, true, false, false, false, false, false, false, false, false, false, false, false, false] rfl rfl (by kernel_rfl) (fun _ _ _ h => h) (Or.inl ⟨by rfl, ?_⟩) ?_ ?_
          rotate_left
          · intro w'
            go_simp
            with_reducible rfl
          rotate_left
          · simp only [Act.put, List.setIfInBounds_toArray, List.set_cons_zero, List.set_cons_succ, i64_w, i32_w]
            rfl
          refine pure_ (i := 9) (N := some 150) (v := ?_) (a' := ?_) #[true, true, true, true, true, true, false, false, false, true, false, false, false, false, false, false, false, false] rfl rfl (by kernel_rfl) (fun _ _ _ h => h) (Or.inl ⟨by rfl, ?_⟩) ?_ ?_
          rotate_left
          · intro w'
            go_simp
            with_reducible rfl
          rotate_left
          · simp only [Act.put, List.setIfInBounds_toArray, List.set_cons_zero, List.set_cons_succ, i64_w, i32_w]
            rfl
          refine pure_ (i := 10) (N := some 151) (v := ?_) (a' := ?_) #[true, true, true, true, true, true, false, false, false, true, true, false, false, false, false, false, false, false] rfl rfl (by kernel_rfl) (fun _ _ _ h => h) (Or.inl ⟨by rfl, ?_⟩) ?_ ?_
          rotate_left
          · intro w'
            go_simp
            with_reducible rfl
          rotate_left
          · simp only [Act.put, List.setIfInBounds_toArray, List.set_cons_zero, List.set_cons_succ, i64_w, i32_w]
            rfl
          refine take_ (i := 6) (N := some 147) (v := ?_) (a' := ?_) #[true, true, true, true, true, true, true, false, false, true, true, false, false, false, false, false, false, false] rfl rfl (by kernel_rfl) (fun _ _ _ h => h) (Or.inl ⟨by rfl, ?_⟩) hHeld ?_ ?_
          rotate_left
          · rintro w' ⟨s0, s1, s2, s3, s4, s5, s6⟩
            go_simp
            with_reducible rfl
          rotate_left
          · simp only [Act.put, List.setIfInBounds_toArray, List.set_cons_zero, List.set_cons_succ, i64_w, i32_w]
            rfl
          refine pure_ (i := 7) (N := some 148) (v := ?_) (a' := ?_) #[true, true, true, true, true, true, true, true, false, true, true, false, false, false, false, false, false, false] rfl rfl (by kernel_rfl) (fun _ _ _ h => h) (Or.inl ⟨by rfl, ?_⟩) ?_ ?_
          rotate_left
          · intro w'
            go_simp
            with_reducible rfl
          rotate_left
          · simp only [Act.put, List.setIfInBounds_toArray, List.set_cons_zero, List.set_cons_succ, i64_w, i32_w]
            rfl
          refine take_ (i := 8) (N := some 149) (v := ?_) (a' := ?_) #[true, true, true, true, true, true, true, true, true, true, true, false, false, false, false, false, false, false] rfl rfl (by kernel_rfl) (fun _ _ _ h => h) (Or.inl ⟨by rfl, ?_⟩) hHeld ?_ ?_
          rotate_left
          · rintro w' ⟨s0, s1, s2, s3, s4, s5, s6⟩
            go_simp
            with_reducible rfl
          rotate_left
          · simp only [Act.put, List.setIfInBounds_toArray, List.set_cons_zero, List.set_cons_succ, i64_w, i32_w]
            rfl
          refine take_ (i := 11) (N := some 152) (v := ?_) (a' := ?_) #[true, true, true, true, true, true, true, true, true, true, true, true, false, false, false, false, false, false] rfl rfl (by kernel_rfl) (fun _ _ _ h => h) (Or.inl ⟨by rfl, ?_⟩) hHeld ?_ ?_
          rotate_left
          · rintro w' ⟨s0, s1, s2, s3, s4, s5, s6⟩
            go_simp
            with_reducible rfl
          rotate_left
          · simp only [Act.put, List.setIfInBounds_toArray, List.set_cons_zero, List.set_cons_succ, i64_w, i32_w]
            rfl
          refine pure_ (i := 12) (N := some 153) (v := ?_) (a' := ?_) #[true, true, true, true, true, true, true, true, true, true, true, true, true, false, false, false, false, false] rfl rfl (by kernel_rfl) (fun _ _ _ h => h) (Or.inl ⟨by rfl, ?_⟩) ?_ ?_
          rotate_left
          · intro w'
            go_simp
            with_reducible rfl
          rotate_left
          · simp only [Act.put, List.setIfInBounds_toArray, List.set_cons_zero, List.set_cons_succ, i64_w, i32_w]
            rfl
          refine take_ (i := 13) (N := some 154) (v := ?_) (a' := ?_) #[true, true, true, true, true, true, true, true, true, true, true, true, true, true, false, false, false, false] rfl rfl (by kernel_rfl) (fun _ _ _ h => h) (Or.inl ⟨by rfl, ?_⟩) hHeld ?_ ?_
          rotate_left
          · rintro w' ⟨s0, s1, s2, s3, s4, s5, s6⟩
            go_simp
            with_reducible rfl
          rotate_left
          · simp only [Act.put, List.setIfInBounds_toArray, List.set_cons_zero, List.set_cons_succ, i64_w, i32_w]
            rfl
          refine pure_ (i := 14) (N := some 155) (v := ?_) (a' := ?_) #[true, true, true, true, true, true, true, true, true, true, true, true, true, true, true, false, false, false] rfl rfl (by kernel_rfl) (fun _ _ _ h => h) (Or.inl ⟨by rfl, ?_⟩) ?_ ?_
          rotate_left
          · intro w'
            go_simp
            with_reducible rfl
          rotate_left
          · simp only [Act.put, List.setIfInBounds_toArray, List.set_cons_zero, List.set_cons_succ, i64_w, i32_w]
            rfl
          refine last_ (i := 15) (N := none) #[true, true, true, true, true, true, true, true, true, true, true, true, true, true, true, true, false, false] rfl rfl (by kernel_rfl) (by decide) (fun K hK => ?_)
          have c1 := blk_cell hHeld.2.2.2.1 i _ (upto_here h)
          have f1 := blk_free hHeld.2.2.2.1 i
          refine skip_ (w1 := ?_) (by rfl) rfl ?_ ?_
          rotate_left
          · go_simp
            rfl
          refine letter_ ?_
          intro W27 hW27
          have P27 : W27.heap[p]? = some (.cells (ic (upto LO (i + 1)) n) 3 (0, 0)) := by rw [hW27, ← upto_set h e0]; exact set_blk (i := i) hHeld.2.2.2.1 (.int .i64 (u))
          have Q27 : W27.heap[q]? = some (.cells (ic (upto HI i) n) 3 (0, 0)) := by rw [hW27]; exact set_other hHeld.2.2.2.2.1 (fun e => ne e.symm)
          have N27 : W27.heap[QQ]? = some (.cells #[.int .i64 17, .int .i64 (m : Nat), .int .i64 xb, .int .u64 s0, .int .u64 s1, .int .u64 s2, .int .u64 s3, .int .i64 x4, .int .i64 x5, .int .i64 x6, .int .i64 x7, .bool x8] 37 (0, 0)) := by rw [hW27]; exact set_other hHeld.2.2.2.2.2.1 np
          have B27 : Below w.heap.size w W27 := by rw [hW27]; exact below_set hHeld.2.2.2.2.2.2 lp _
          clear hW27 c1 f1
          refine hK.out _ _ ?_
          clear hK K
          refine pure_ (i := 16) (N := some 156) (v := ?_) (a' := ?_) #[true, true, true, true, true, true, true, true, true, true, true, true, true, true, true, true, true, false] rfl rfl (by kernel_rfl) (fun _ _ _ h => h) (Or.inl ⟨by rfl, ?_⟩) ?_ ?_
          rotate_left
          · intro w'
            go_simp
            with_reducible rfl
          rotate_left
          · simp only [Act.put, List.setIfInBounds_toArray, List.set_cons_zero, List.set_cons_succ, i64_w, i32_w]
            rfl
          refine last_ (i := 17) (N := none) #[true, true, true, true, true, true, true, true, true, true, true, true, true, true, true, true, true, true] rfl rfl (by kernel_rfl) (by decide) (fun K hK => ?_)
          have c2 := blk_cell Q27 i _ (upto_here h)
          have f2 := blk_free Q27 i
          refine skip_ (w1 := ?_) (by rfl) rfl ?_ ?_
          rotate_left
          · go_simp
            rfl
          refine letter_ ?_
          intro W29 hW29
          have P29 : W29.heap[p]? = some (.cells (ic (upto LO (i + 1)) n) 3 (0, 0)) := by rw [hW29]; exact set_other P27 ne
          have Q29 : W29.heap[q]? = some (.cells (ic (upto HI (i + 1)) n) 3 (0, 0)) := by rw [hW29, ← upto_set h e1]; exact set_blk (i := i) Q27 (.int .i64 (v))
          have N29 : W29.heap[QQ]? = some (.cells #[.int .i64 17, .int .i64 (m : Nat), .int .i64 xb, .int .u64 s0, .int .u64 s1, .int .u64 s2, .int .u64 s3, .int .i64 x4, .int .i64 x5, .int .i64 x6, .int .i64 x7, .bool x8] 37 (0, 0)) := by rw [hW29]; exact set_other N27 nq
          have B29 : Below w.heap.size w W29 := by rw [hW29]; exact below_set B27 lq _
          clear hW29 c2 f2
          refine hK.out _ _ ?_
          clear hK K
          refine done_ (by kernel_rfl) ?_
          go_wp2
          go_roundw
          case rel => exact ⟨i + 1, by omega, by simp, Lib.hid P29, Lib.hid Q29, Lib.hid B29⟩
          case measure => simp [intOf]; omega
      · as_aux_lemma =>
        have P3 := PN.out
        rw [upto_skip e0] at P3
        have Q3 := QN.out
        rw [upto_skip e1] at Q3
        have P3 := Lib.hid P3
        have Q3 := Lib.hid Q3
        have d1 : (xk == 1) = false := by simp [k1]
        have d2 : (xk == 12) = false := by simp [k2]
        have d3 : (xk == 8) = false := by simp [k3]
        have d4 : (xk == 9) = false := by simp [k4]
        have d5 : (xk == 10) = false := by simp [k5]
        have d6 : (xk == 11) = false := by simp [k6]
        have d7 : (xk == 17) = false := by simp [k7]
        clear hd e0 e1 PN QN BN k1 k2 k3 k4 k5 k6 k7
        go_wp2
        go_roundw
        case rel => exact ⟨i + 1, by omega, by simp, P3, Q3, HN⟩
        case measure => simp [intOf]; omega
    · obtain rfl : i = n := by omega
      rw [upto_all] at PO QO
      have hi2 : ¬ ((i : Int) < (i : Int)) := by omega
      go_wp2
      go_ret2
      exact ⟨⟨p, q, ne, rfl, lp, lq, PO.out, QO.out⟩, HB.out⟩
end Go.Proofs.YtaaihcojedibeaaDoor.DLens
end
section
/- Rows of nodes that a call makes: made, copied, stored. -/
namespace Go.Proofs.YtaaihcojedibeaaDoor.DRowN
set_option maxRecDepth 100000
open Go.RowKit CMem DRow DDeep DSizes Q Go.Proofs.YtaaihcojedibeaaDoorW.PrintWords Go.Proofs.YtaaihcojedibeaaDoorW.PrintLast Go.Proofs.YtaaihcojedibeaaDoorW.PrintMore
set_option linter.unusedVariables false
set_option linter.unusedSimpArgs false
/-- a row of nodes -/
def ra : List S37 → List Value
  | [] => []
  | x :: xs => (nc x).toList ++ ra xs
theorem nc_len (x : S37) : (nc x).toList.length = 12 := rfl
theorem ra_length : ∀ xs : List S37, (ra xs).length = 12 * xs.length
  | [] => rfl
  | x :: xs => by rw [ra, List.length_append, nc_len, ra_length xs, List.length_cons]; omega
theorem ra_append : ∀ xs ys : List S37, ra (xs ++ ys) = ra xs ++ ra ys
  | [], ys => rfl
  | x :: xs, ys => by rw [List.cons_append, ra, ra_append xs ys, ra, List.append_assoc]
theorem ra_at : ∀ (xs : List S37) (i j : Nat) (x : S37), xs[i]? = some x → j < 12 → (ra xs)[i * 12 + j]? = (nc x).toList[j]?
  | [], i, j, x, h, _ => by simp at h
  | y :: xs, 0, j, x, h, hj => by
    rw [List.getElem?_cons_zero, Option.some.injEq] at h
    subst h
    rw [ra, Nat.zero_mul, Nat.zero_add, List.getElem?_append_left (by rw [nc_len]; exact hj)]
  | y :: xs, i + 1, j, x, h, hj => by
    rw [List.getElem?_cons_succ] at h
    rw [ra, List.getElem?_append_right (by rw [nc_len]; omega), nc_len, show (i + 1) * 12 + j - 12 = i * 12 + j by omega]
    exact ra_at xs i j x h hj
theorem ra_one : ∀ (xs : List S37), ∀ v ∈ ra xs, v.oneCell' = true
  | [], v, h => by simp [ra] at h
  | x :: xs, v, h => by
    rw [ra, List.mem_append] at h
    rcases h with h | h
    · simp only [nc, List.mem_cons, List.not_mem_nil, or_false] at h
      rcases h with h | h | h | h | h | h | h | h | h | h | h | h <;> subst h <;> rfl
    · exact ra_one xs v h
theorem ra_drop : ∀ (xs : List S37) (n : Nat), (ra xs).drop (12 * n) = ra (xs.drop n)
  | [], n => by simp [ra]
  | x :: xs, 0 => rfl
  | x :: xs, n + 1 => by
    rw [ra, List.drop_succ_cons, ← ra_drop xs n, List.drop_append, nc_len, List.drop_eq_nil_of_le (by rw [nc_len]; omega), List.nil_append, show 12 * (n + 1) - 12 = 12 * n by omega]
theorem ra_take : ∀ (xs : List S37) (n : Nat), (ra xs).take (12 * n) = ra (xs.take n)
  | [], n => by simp [ra]
  | x :: xs, 0 => rfl
  | x :: xs, n + 1 => by
    rw [ra, List.take_succ_cons, ra, ← ra_take xs n, List.take_append, nc_len, List.take_of_length_le (by rw [nc_len]; omega), show 12 * (n + 1) - 12 = 12 * n by omega]
/-- a row that lies is read -/
theorem ra_cell {w : World} {p : Nat} {xs : List S37} {t : TypeId} (h : w.heap[p]? = some (.cells (ra xs).toArray t (0, 0))) {i j : Nat} {x : S37} {v : Value} (hx : xs[i]? = some x) (hv : (nc x).toList[j]? = some v) : w.cell? ⟨p, i * 12 + j, none⟩ = some v := by
  have hj : j < 12 := by
    rcases Nat.lt_or_ge j 12 with h | h
    · exact h
    · rw [List.getElem?_eq_none (by rw [nc_len]; exact h)] at hv; cases hv
  refine blk_cell h _ _ ?_
  rw [List.getElem?_toArray, ra_at xs i j x hx hj, hv]
theorem ra_C {w : World} {p n : Nat} {xs : List S37} (hn : xs.length = n) (h : w.heap[p]? = some (.cells (ra xs).toArray 37 (0, 0))) (hm : n ≤ 1000) : Kd.C k37 w (some ⟨p, 0, none⟩) n xs := by
  refine ⟨hn, by omega, fun _ => ⟨_, rfl, fun j x hj => ⟨(nc x).toList, nc_len x, k37_mk w x, fun i u hu => ?_⟩⟩⟩
  have hc := ra_cell h hj hu
  have hadd : (⟨p, 0, none⟩ : Addr).add (j * 12 + i) = ⟨p, j * 12 + i, none⟩ := by unfold Addr.add; split <;> simp_all
  show w.cell? ((⟨p, 0, none⟩ : Addr).add (j * 12 + i)) = some u
  rw [hadd]
  exact hc
/-- a row of zero nodes is made -/
theorem made_ra (m : Nat) : madeCells (nc z37) (m * 12) = (ra (List.replicate m z37)).toArray := by
  apply Array.ext_getElem?
  intro k
  by_cases hk : k < m * 12
  · have hz : (List.replicate m z37)[k / 12]? = some z37 := by rw [List.getElem?_replicate, if_pos (by omega)]
    have h1 := ra_at _ (k / 12) (k % 12) z37 hz (Nat.mod_lt _ (by omega))
    rw [show k / 12 * 12 + k % 12 = k by omega] at h1
    have h2 : k % 12 < (nc z37).size := Nat.mod_lt _ (by decide)
    have e1 : (madeCells (nc z37) (m * 12))[k]? = some ((nc z37)[k % 12]!) := by
      unfold madeCells
      rw [Array.getElem?_map, Array.getElem?_range, if_pos hk]
      rfl
    have e2 : (ra (List.replicate m z37)).toArray[k]? = some ((nc z37)[k % 12]!) := by
      rw [List.getElem?_toArray, h1, getElem!_pos (nc z37) _ h2, Array.getElem?_toList, Array.getElem?_eq_getElem h2]
    rw [e1, e2]
  · have e1 : (madeCells (nc z37) (m * 12)).size ≤ k := by rw [size_madeCells]; omega
    have e2 : (ra (List.replicate m z37)).toArray.size ≤ k := by rw [List.size_toArray, ra_length, List.length_replicate]; omega
    rw [Array.getElem?_eq_none e1, Array.getElem?_eq_none e2]
theorem make_nodes (n m : Nat) (hn : n ≤ m) (hm : m ≤ 1001) (W : World) :
    (Instr.makeSlice 22 (.int .i64 (n : Int)) (.int .i64 (m : Int))).run Tryd.prog W = .ok (.slice (some ⟨W.heap.size, 0, none⟩) n m) (W.alloc (.cells (ra (List.replicate m z37)).toArray 37)) := by
  obtain ⟨i0, hi, hz0, hz1, hz2⟩ := info_parts info37
  have hr := run_make (P := Tryd.prog) W 22 37 i0 _ Tryd.underlying22 hi hz0 .i64 .i64 (n : Int) (m : Int) (by omega) (by omega) (by rw [hz2]; omega) (by omega)
  rw [hr, hz1, Int.toNat_natCast, Int.toNat_natCast, ← made_ra]
  rfl
theorem run_copy_k (P : Program) (w : World) (dT sT ty elem : TypeId) (k n g o dLen dCap : Nat) (a : Addr) (sLen sCap : Nat) (cur : Array Value) (t : TypeId) (cs : List Value)
    (hu : P.underlying dT = some (.slice elem)) (hs : (P.info? elem).map (·.size) = some k)
    (hg : w.heap[g]? = some (.cells cur t (0, 0))) (hk : cs.length = n * k) (hn : n = Nat.min sLen dLen)
    (hsrc : ∀ j v, cs[j]? = some v → w.cell? (a.add j) = some v) (hfit : o + cs.length ≤ cur.size) (h1 : ∀ v ∈ cs, v.oneCell' = true) :
    (Builtin.copy_ #[dT, sT] ty #[.slice (some ⟨g, o, none⟩) dLen dCap, .slice (some a) sLen sCap]).run P w =
      .ok (goInt n) (w.setRow g (cur.toList.take o ++ cs ++ cur.toList.drop (o + cs.length)).toArray) := by
  have hl := run_loadCells_list (P := P) w a cs hsrc
  have hst := run_storeCells_at P g o t cs 0 cur w hg (by simpa using hfit) h1
  rw [hk] at hl
  cases hq : P.info? elem with
  | none => simp [hq] at hs
  | some i =>
    have hi : i.size = k := by simpa [hq] using hs
    simp [Builtin.copy_, run_underlying hu, Builtin.lenOf, Builtin.firstCells, sizeOf, typeInfo, hq, hi, ← hn, hl, hst]
/-- nodes that came in are copied over a row's first ones -/
theorem copy_nodes (w : World) (g n dCap : Nat) (A : Option Addr) (c d : Nat) (ys L : List S37) (hL : Kd.C k37 w A n L) (hnd : n ≤ d) (hdy : d ≤ ys.length)
    (hg : w.heap[g]? = some (.cells (ra ys).toArray 37 (0, 0))) :
    (Builtin.copy_ #[22, 22] 3 #[.slice (some ⟨g, 0, none⟩) d dCap, .slice A n c]).run Tryd.prog w = .ok (.int .i64 (n : Int)) (w.setRow g (ra (L ++ ys.drop n)).toArray) := by
  have hlen : L.length = n := hL.1
  have hi : (Tryd.prog.info? 37).map (·.size) = some 12 := by kernel_rfl
  have hw : goInt n = .int .i64 (n : Int) := rfl
  have hfin : ∀ k : Nat, k = (ra L).length → ((ra ys).toArray.toList.take 0 ++ ra L ++ (ra ys).toArray.toList.drop (0 + k)) = ra (L ++ ys.drop n) := by
    intro k hk
    rw [List.take_zero, List.nil_append, Nat.zero_add, hk, ra_length, hlen, ra_append, ← ra_drop]
  rcases Nat.eq_zero_or_pos n with h0 | h0
  · subst h0
    have hl : L = [] := List.length_eq_zero_iff.1 hlen
    subst hl
    rw [List.nil_append, List.drop_zero, setRow_self w g _ _ _ hg]
    have hu : Tryd.prog.underlying 22 = some (.slice 37) := Tryd.underlying22
    have hl := run_loadCells_list (P := Tryd.prog) w
    cases hq : Tryd.prog.info? 37 with
    | none => simp [hq] at hi
    | some i =>
      cases A with
      | none => simp [Builtin.copy_, run_underlying hu, Builtin.lenOf, Builtin.firstCells, sizeOf, typeInfo, hq, storeCells]; rfl
      | some ad =>
        have h0 := hl ad [] (fun j v h => by simp at h)
        simp at h0
        simp [Builtin.copy_, run_underlying hu, Builtin.lenOf, Builtin.firstCells, sizeOf, typeInfo, hq, storeCells, h0]; rfl
  · obtain ⟨ad, rfl, hc⟩ := hL.2.2 h0
    have h := run_copy_k Tryd.prog w 22 22 3 37 12 n g 0 d dCap ad n c _ _ (ra L) Tryd.underlying22 hi hg (by rw [ra_length, hlen]; omega) (Nat.min_eq_left hnd).symm (fun j v hv => ?_) (by rw [List.size_toArray, ra_length, ra_length]; omega) (ra_one L)
    · rw [h, hfin _ rfl, hw]
    · have hj : j < 12 * n := by
        rcases Nat.lt_or_ge j (12 * n) with h | h
        · exact h
        · rw [List.getElem?_eq_none (by rw [ra_length, hlen]; exact h)] at hv; cases hv
      obtain ⟨x, hx⟩ : ∃ x, L[j / 12]? = some x := ⟨_, List.getElem?_eq_getElem (by omega)⟩
      obtain ⟨cs, _, hk, hcell⟩ := hc (j / 12) _ hx
      have hk2 : cs = (nc x).toList := k37_open hk
      subst hk2
      have h1 := ra_at L (j / 12) (j % 12) _ hx (Nat.mod_lt _ (by omega))
      rw [show j / 12 * 12 + j % 12 = j by omega, hv] at h1
      have h2 := hcell (j % 12) v h1.symm
      have e : j / 12 * k37.sz + j % 12 = j := by show j / 12 * 12 + j % 12 = j; omega
      rw [e] at h2
      exact h2
end Go.Proofs.YtaaihcojedibeaaDoor.DRowN
end
section
/- The laid variables: all but the first. -/
namespace Go.Proofs.YtaaihcojedibeaaDoor.HTail
set_option maxRecDepth 100000
theorem laid_tail {P : Program} {W : World} {x : String × DataW Unit} {rest : List (String × DataW Unit)} (h : laidMet P (x :: rest) W) : laidMet P rest W := by
  obtain ⟨ps, ⟨g, t, cs, fuel, p, q, hg, ht, hv, hd, h1, h2⟩, hn, hc⟩ := h
  first
    | (subst h2; exact ⟨q, h1, (List.nodup_append.1 hn).2.1, fun b o hb => hc b o (List.mem_append_right _ hb)⟩)
    | (subst h1; exact ⟨q, h2, (List.nodup_append.1 hn).2.1, fun b o hb => hc b o (List.mem_append_right _ hb)⟩)
end Go.Proofs.YtaaihcojedibeaaDoor.HTail
end
