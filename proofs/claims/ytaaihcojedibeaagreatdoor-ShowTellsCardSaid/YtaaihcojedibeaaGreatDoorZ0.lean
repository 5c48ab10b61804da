import Derived.Test.YtaaihcojedibeaaGreatDoorProg
import Derived.Below
import Derived.WalkKit
import Derived.Tactics2
import Derived.StillTactics
import Derived.Deep.RegionHeld3
import Derived.Deep.AppendLies
import Derived.Lib.Hide
import Derived.KernelRfl
import Derived.Test.YtaaihcojedibeaaGreatDoorWMore
import Derived.Laws.IdiomStrings
import Derived.Laws.Rows
import Derived.Laws.Tables
import Derived.Test.YtaaihcojedibeaaGreatDoorQAll
import Derived.Carry
import Derived.MapKept
import Derived.WideLaws
import Derived.Test.YtaaihcojedibeaaGreatDoorRows
import Derived.LaidMore
import Derived.Lib.LaidTab
section
/- Memory: what a call keeps. -/
namespace Go.Proofs.YtaaihcojedibeaaGreatDoor.CMem
set_option maxRecDepth 100000
open Go.RowKit Go.Proofs.YtaaihcojedibeaaGreatDoorW.PrintWords

theorem letter_ {K : Act → World → Prop} {a : Act} {w1 : World} (h : ∀ W, W = w1 → K a W) : K a w1 := h _ rfl
theorem lt_of_blk {w : World} {b : Nat} {o : Obj} (h : w.heap[b]? = some o) : b < w.heap.size := by
  rcases Nat.lt_or_ge b w.heap.size with hl | hl
  · exact hl
  · rw [Array.getElem?_eq_none hl] at h; cases h
theorem set_other {w : World} {b c i : Nat} {o : Obj} {v : Value} (h : w.heap[b]? = some o) (hn : b ≠ c) : (w.setCell ⟨c, i, none⟩ v).heap[b]? = some o := (Below.heap_setCell _ _ _ _ (by simpa using hn)).trans h
theorem cell_below {w w' : World} {B : Nat} (h : Below B w w') {a : Addr} (hl : a.block < B) {v : Value} (hc : w.cell? a = some v) : w'.cell? a = some v := (World.cell?_of_block (h.block a.block hl)).trans hc
theorem below_of {w w' : World} (h : Below w.heap.size w w') {a : Addr} {v : Value} (hc : w.cell? a = some v) : w'.cell? a = some v := cell_below h (World.block_lt_of_cell? w _ hc) hc
theorem blk_cell {w : World} {b : Nat} {cs : Array Value} {t : TypeId} {p : Nat × Nat} (h : w.heap[b]? = some (.cells cs t p)) (i : Nat) (v : Value) (hv : cs[i]? = some v) : w.cell? ⟨b, i, none⟩ = some v := by
  simp [World.cell?, h, hv]
theorem blk_free {w : World} {b : Nat} {cs : Array Value} {t : TypeId} (h : w.heap[b]? = some (.cells cs t (0, 0))) (i : Nat) : w.frozen? ⟨b, i, none⟩ = false := by
  simp [World.frozen?, h]
theorem set_blk {w : World} {b i : Nat} {cs : Array Value} {t : TypeId} {p : Nat × Nat} (h : w.heap[b]? = some (.cells cs t p)) (v : Value) : (w.setCell ⟨b, i, none⟩ v).heap[b]? = some (.cells (cs.setIfInBounds i v) t p) := by
  have hl := lt_of_blk h
  have h' : w.heap[b] = .cells cs t p := by simpa [Array.getElem?_eq_getElem hl] using h
  show (w.heap.modify b _)[b]? = _
  rw [Array.getElem?_eq_getElem (by simpa using hl), Array.getElem_modify_self, h']
  simp
theorem blk2 (w : World) (a : Obj) (cs : Array Value) (t : TypeId) : ((w.alloc a).alloc (.cells cs t)).heap[w.heap.size + 1]? = some (.cells cs t (0, 0)) := by
  have h := heap_alloc_new (w.alloc a) (.cells cs t)
  rwa [show (w.alloc a).heap.size = w.heap.size + 1 by simp] at h
theorem blk3 (w : World) (a b : Obj) (cs : Array Value) (t : TypeId) : (((w.alloc a).alloc b).alloc (.cells cs t)).heap[w.heap.size + 2]? = some (.cells cs t (0, 0)) := by
  have h := blk2 (w.alloc a) b cs t
  rwa [show (w.alloc a).heap.size + 1 = w.heap.size + 2 by simp] at h
theorem below1 (w : World) (a : Obj) : Below w.heap.size w (w.alloc a) := (Below.refl w.heap.size w).alloc (Nat.le_refl _) _
theorem below2 (w : World) (a b : Obj) : Below w.heap.size w ((w.alloc a).alloc b) := (below1 w a).alloc (by simp) _
theorem below3 (w : World) (a b c : Obj) : Below w.heap.size w (((w.alloc a).alloc b).alloc c) := (below2 w a b).alloc (by simp; omega) _
theorem below_set {B : Nat} {w w' : World} (h : Below B w w') {b i : Nat} (hb : B ≤ b) (v : Value) : Below B w (w'.setCell ⟨b, i, none⟩ v) :=
  h.trans ⟨rfl, rfl, rfl, by simp [World.setCell], fun k hk => Below.heap_setCell _ _ _ _ (by simp; omega)⟩
/-- but for the block m, and new ones, the world is as it was -/
structure Only (m : Nat) (w w' : World) : Prop where
  os : w'.os = w.os
  tape : w'.tape = w.tape
  output : w'.output = w.output
  size : w.heap.size ≤ w'.heap.size
  block : ∀ k, k < w.heap.size → k ≠ m → w'.heap[k]? = w.heap[k]?
theorem Only.refl (m : Nat) (w : World) : Only m w w := ⟨rfl, rfl, rfl, Nat.le_refl _, fun _ _ _ => rfl⟩
theorem Only.trans {m : Nat} {a b c : World} (h : Only m a b) (k : Only m b c) : Only m a c :=
  ⟨k.os.trans h.os, k.tape.trans h.tape, k.output.trans h.output, Nat.le_trans h.size k.size, fun i hi hn => (k.block i (Nat.lt_of_lt_of_le hi h.size) hn).trans (h.block i hi hn)⟩
theorem Only.drew {m : Nat} {a b : World} (h : Only m a b) : Only m a b.drew := ⟨h.os, h.tape, h.output, h.size, h.block⟩
theorem Only.of_below {m : Nat} {w w' : World} (h : Below w.heap.size w w') : Only m w w' := ⟨h.os, h.tape, h.output, h.size, fun k hk _ => h.block k hk⟩
theorem Only.set (w : World) (m i : Nat) (v : Value) : Only m w (w.setCell ⟨m, i, none⟩ v) :=
  ⟨rfl, rfl, rfl, by simp [World.setCell], fun k _ hn => Below.heap_setCell _ _ _ _ (by simpa using hn)⟩
theorem Only.below {m B : Nat} {a b c : World} (h0 : Below B a b) (h : Only m b c) (hm : B ≤ m) (hB : B ≤ b.heap.size) : Below B a c :=
  h0.trans ⟨h.os, h.tape, h.output, h.size, fun k hk => h.block k (by omega) (by omega)⟩
theorem Only.blk {m : Nat} {w w' : World} (h : Only m w w') {b : Nat} {o : Obj} (hb : w.heap[b]? = some o) (hn : b ≠ m) : w'.heap[b]? = some o := (h.block b (lt_of_blk hb) hn).trans hb
theorem below_blk {w w' : World} (h : Below w.heap.size w w') {b : Nat} {o : Obj} (hb : w.heap[b]? = some o) : w'.heap[b]? = some o := (h.block b (lt_of_blk hb)).trans hb
end Go.Proofs.YtaaihcojedibeaaGreatDoor.CMem
end
section
/- show.text: a byte's. -/
namespace Go.Proofs.YtaaihcojedibeaaGreatDoor.SText
open Go.RowKit CMem
set_option linter.unusedVariables false
set_option linter.unusedSimpArgs false
set_option maxRecDepth 100000
def hx (d : Nat) : UInt8 := UInt8.ofNat (if d < 10 then 48 + d else 87 + d)
/-- is a byte shown as it is -/
def pc (c : Nat) : Bool := (decide (97 ≤ c) && decide (c ≤ 122)) || (decide (65 ≤ c) && decide (c ≤ 90)) || (decide (48 ≤ c) && decide (c ≤ 57)) || c == 95 || c == 32
def txt (c : Nat) : ByteArray := if pc c = true then ⟨#[UInt8.ofNat c]⟩ else ⟨#[92, 120]⟩ ++ ⟨#[hx (c / 16)]⟩ ++ ⟨#[hx (c % 16)]⟩
def dgs : ByteArray := { data := #[48, 49, 50, 51, 52, 53, 54, 55, 56, 57, 97, 98, 99, 100, 101, 102] }
theorem dig_at (q : Nat) (hq : q < 16) (W : World) : (Instr.slice 9 (.string { data := #[48, 49, 50, 51, 52, 53, 54, 55, 56, 57, 97, 98, 99, 100, 101, 102] }) (some (.int .u8 (q : Nat))) (some (.int .u8 ((q + 1 : Nat) : Int))) none).run Tryz.prog W = .ok (.string ⟨#[hx q]⟩) W := by
  match q, hq with
  | 0, _ | 1, _ | 2, _ | 3, _ | 4, _ | 5, _ | 6, _ | 7, _ | 8, _ | 9, _ | 10, _ | 11, _ | 12, _ | 13, _ | 14, _ | 15, _ => rfl
  | k + 16, h => exact absurd h (by omega)
theorem one_byte (c : Nat) (hc : c < 256) (w : World) : (convert 80 9 (.slice (some ⟨w.heap.size, 0, none⟩) 1 1)).run Tryz.prog (w.alloc (.cells #[.int .u8 (c : Nat)] 5)) = .ok (.string ⟨#[UInt8.ofNat c]⟩) (w.alloc (.cells #[.int .u8 (c : Nat)] 5)) := by
  have h := run_convert_bytes_back (P := Tryz.prog) (w.alloc (.cells #[.int .u8 (c : Nat)] 5)) 80 9 5 ⟨w.heap.size, 0, none⟩ 1 [UInt8.ofNat c] Tryz.underlying80 Tryz.underlying5 Tryz.underlying9
  have e1 : (UInt8.ofNat c).toNat = c := by rw [UInt8.toNat_ofNat']; omega
  exact h (fun j hj => by
    obtain rfl : j = 0 := by simpa using hj
    show (w.alloc _).cell? ((⟨w.heap.size, 0, none⟩ : Addr).add 0) = some (.int .u8 ((UInt8.ofNat c).toNat : Int))
    rw [e1]
    exact blk_cell (heap_alloc_new w _) 0 _ rfl)
set_option maxHeartbeats 6400000 in
theorem text_plain (c : Nat) (hc : c < 256) (h : pc c = true) (w : World) : Calls Tryz.prog 18 #[.int .u8 (c : Nat)] w fun e w' => e = .returned (.string ⟨#[UInt8.ofNat c]⟩) ∧ Below w.heap.size w w' := by
  have hcase : (97 ≤ c ∧ c ≤ 122) ∨ (65 ≤ c ∧ c ≤ 90) ∨ (48 ≤ c ∧ c ≤ 57) ∨ c = 95 ∨ c = 32 := by
    unfold pc at h
    simp only [Bool.or_eq_true, Bool.and_eq_true, decide_eq_true_eq, beq_iff_eq] at h
    omega
  have hk := one_byte c hc w
  have hB := Lib.hid (below1 w (.cells #[.int .u8 (c : Nat)] 5))
  clear h
  rcases hcase with h | h | h | h | h
  · have f1 : (97 : Int) ≤ c := by omega
    have f2 : (c : Int) ≤ 122 := by omega
    go_enter Tryz.func18, Tryz.ntmps18
    go_wp2
    go_ret
    exact ⟨rfl, hB.out⟩
  · have f1 : ¬ (97 : Int) ≤ c := by omega
    have f2 : (65 : Int) ≤ c := by omega
    have f3 : (c : Int) ≤ 90 := by omega
    go_enter Tryz.func18, Tryz.ntmps18
    go_wp2
    go_ret
    exact ⟨rfl, hB.out⟩
  · have f1 : ¬ (97 : Int) ≤ c := by omega
    have f2 : ¬ (65 : Int) ≤ c := by omega
    have f3 : (48 : Int) ≤ c := by omega
    have f4 : (c : Int) ≤ 57 := by omega
    go_enter Tryz.func18, Tryz.ntmps18
    go_wp2
    go_ret
    exact ⟨rfl, hB.out⟩
  · have f1 : ¬ (97 : Int) ≤ c := by omega
    have f2 : (65 : Int) ≤ c := by omega
    have f3 : ¬ (c : Int) ≤ 90 := by omega
    have f4 : (48 : Int) ≤ c := by omega
    have f5 : ¬ (c : Int) ≤ 57 := by omega
    have f6 : ((c : Int) == 95) = true := by simp; omega
    clear h
    go_enter Tryz.func18, Tryz.ntmps18
    go_wp2
    go_ret
    exact ⟨rfl, hB.out⟩
  · have f1 : ¬ (97 : Int) ≤ c := by omega
    have f2 : ¬ (65 : Int) ≤ c := by omega
    have f4 : ¬ (48 : Int) ≤ c := by omega
    have f6 : ((c : Int) == 95) = false := by simp; omega
    have f7 : ((c : Int) == 32) = true := by simp; omega
    clear h
    go_enter Tryz.func18, Tryz.ntmps18
    go_wp2
    go_ret
    exact ⟨rfl, hB.out⟩
set_option maxHeartbeats 6400000 in
theorem text_hex (c : Nat) (hc : c < 256) (h : ¬ pc c = true) (w : World) : Calls Tryz.prog 18 #[.int .u8 (c : Nat)] w fun e w' => e = .returned (.string (⟨#[92, 120]⟩ ++ ⟨#[hx (c / 16)]⟩ ++ ⟨#[hx (c % 16)]⟩)) ∧ Below w.heap.size w w' := by
  have hcase : c < 32 ∨ (32 < c ∧ c < 48) ∨ (57 < c ∧ c < 65) ∨ (90 < c ∧ c < 95) ∨ c = 96 ∨ 122 < c := by
    unfold pc at h
    simp only [Bool.or_eq_true, Bool.and_eq_true, decide_eq_true_eq, beq_iff_eq] at h
    omega
  have n1 : ((c : Int) == 95) = false := by simp; intro e; apply h; rw [show c = 95 by omega]; rfl
  have n2 : ((c : Int) == 32) = false := by simp; intro e; apply h; rw [show c = 32 by omega]; rfl
  have k1 := dig_at (c / 16) (by omega)
  have k2 := dig_at (c % 16) (by omega)
  obtain ⟨d1, hd1⟩ : ∃ d, hx (c / 16) = d := ⟨_, rfl⟩
  obtain ⟨d2, hd2⟩ : ∃ d, hx (c % 16) = d := ⟨_, rfl⟩
  obtain ⟨q, hq⟩ : ∃ q : Int, ((c / 16 : Nat) : Int) = q := ⟨_, rfl⟩
  obtain ⟨r, hr⟩ : ∃ q : Int, ((c % 16 : Nat) : Int) = q := ⟨_, rfl⟩
  obtain ⟨q1, hq1⟩ : ∃ q : Int, ((c / 16 + 1 : Nat) : Int) = q := ⟨_, rfl⟩
  obtain ⟨r1, hr1⟩ : ∃ q : Int, ((c % 16 + 1 : Nat) : Int) = q := ⟨_, rfl⟩
  have u (x : Int) (h0 : 0 ≤ x) (h1 : x < 256) : IntKind.u8.wrap x = x := by rw [show IntKind.u8.wrap x = x % 256 from rfl]; omega
  have w1 : IntKind.u8.wrap ((c : Int) / 16) = q := by rw [u _ (by omega) (by omega)]; omega
  have w2 : IntKind.u8.wrap (q + 1) = q1 := by rw [u _ (by omega) (by omega)]; omega
  have w3 : (c : Int) % 16 = r := by omega
  have w4 : IntKind.u8.wrap (r + 1) = r1 := by rw [u _ (by omega) (by omega)]; omega
  rw [hd1, hq, hq1] at k1
  rw [hd2, hr, hr1] at k2
  rw [hd1, hd2]
  have hB := Lib.hid (Below.refl w.heap.size w)
  clear hq hr hq1 hr1 hd1 hd2 h u
  have hfour : ((c : Int) < 97 ∧ (c : Int) < 65 ∧ (c : Int) < 48) ∨ ((c : Int) < 97 ∧ (c : Int) < 65 ∧ 48 ≤ (c : Int) ∧ 57 < (c : Int)) ∨ ((c : Int) < 97 ∧ 65 ≤ (c : Int) ∧ 90 < (c : Int) ∧ 48 ≤ (c : Int) ∧ 57 < (c : Int)) ∨ (97 ≤ (c : Int) ∧ 122 < (c : Int) ∧ 65 ≤ (c : Int) ∧ 90 < (c : Int) ∧ 48 ≤ (c : Int) ∧ 57 < (c : Int)) := by omega
  clear hcase
  rcases hfour with ⟨f1, f2, f3⟩ | ⟨f1, f2, f3, f4⟩ | ⟨f1, f2, f3, f4, f5⟩ | ⟨f1, f2, f3, f4, f5, f6⟩
  all_goals
    go_enter Tryz.func18, Tryz.ntmps18
    go_wp2
    go_region
    all_goals try go_wp2
    all_goals go_ret
    all_goals exact ⟨rfl, hB.out.drew⟩
theorem text_calls (c : Nat) (hc : c < 256) (w : World) : Calls Tryz.prog 18 #[.int .u8 (c : Nat)] w fun e w' => e = .returned (.string (txt c)) ∧ Below w.heap.size w w' := by
  unfold txt
  by_cases h : pc c = true
  · rw [if_pos h]; exact text_plain c hc h w
  · rw [if_neg h]; exact text_hex c hc h w
end Go.Proofs.YtaaihcojedibeaaGreatDoor.SText
end
section
/- Rows of numbers that a call makes. -/
namespace Go.Proofs.YtaaihcojedibeaaGreatDoor.DRow
set_option maxRecDepth 100000
open Go.RowKit CMem Go.Proofs.YtaaihcojedibeaaGreatDoorW.PrintWords Go.Proofs.YtaaihcojedibeaaGreatDoorW.PrintLast Go.Proofs.YtaaihcojedibeaaGreatDoorW.PrintMore
set_option linter.unusedVariables false
set_option linter.unusedSimpArgs false
theorem below_drewN {B : Nat} {a w : World} (h : Below B a w) (n : Nat) : Below B a (w.drewN n) := h.trans ⟨rfl, rfl, rfl, Nat.le_refl _, fun _ _ => rfl⟩
/-- n numbers -/
def ic (f : Nat → Int) (n : Nat) : Array Value := Array.ofFn (n := n) fun i => .int .i64 (f i)
theorem ic_size (f : Nat → Int) (n : Nat) : (ic f n).size = n := by unfold ic; exact Array.size_ofFn
theorem ic_at (f : Nat → Int) (n i : Nat) (h : i < n) : (ic f n)[i]? = some (.int .i64 (f i)) := by
  unfold ic
  rw [Array.getElem?_ofFn, dif_pos h]
theorem ic_ext {f g : Nat → Int} {n : Nat} (h : ∀ i, i < n → f i = g i) : ic f n = ic g n := by
  apply Array.ext_getElem?
  intro i
  by_cases hi : i < n
  · rw [ic_at _ _ _ hi, ic_at _ _ _ hi, h i hi]
  · rw [Array.getElem?_eq_none (by rw [ic_size]; omega), Array.getElem?_eq_none (by rw [ic_size]; omega)]
theorem ic_set (f : Nat → Int) (n i : Nat) (v : Int) (h : i < n) : (ic f n).setIfInBounds i (.int .i64 v) = ic (fun j => if j = i then v else f j) n := by
  apply Array.ext_getElem?
  intro j
  rw [Array.getElem?_setIfInBounds]
  by_cases hj : j < n
  · rw [ic_at _ _ _ hj, ic_at _ _ _ hj, ic_size]
    by_cases e : i = j
    · subst e; rw [if_pos rfl, if_pos h, if_pos rfl]
    · rw [if_neg e, if_neg (fun h => e h.symm)]
  · rw [Array.getElem?_eq_none (show (ic _ n).size ≤ j by rw [ic_size]; omega), Array.getElem?_eq_none (show (ic _ n).size ≤ j by rw [ic_size]; omega), if_neg (by omega)]
theorem ic_zero (n : Nat) : Array.replicate n (Value.int .i64 0) = ic (fun _ => 0) n := by
  apply Array.ext_getElem?
  intro i
  by_cases hi : i < n
  · rw [ic_at _ _ _ hi, Array.getElem?_replicate, if_pos hi]
  · rw [Array.getElem?_eq_none (show (ic _ n).size ≤ i by rw [ic_size]; omega), Array.getElem?_replicate, if_neg hi]
theorem info_int : (Tryz.prog.info? 3).map (fun i => (i.zero, i.size, i.bytes)) = some (some (.int .i64 0), 1, 8) := by kernel_rfl
theorem make_ints (n : Nat) (hn : n ≤ 1000) (W : World) :
    (Instr.makeSlice 67 (.int .i64 (n : Int)) (.int .i64 (n : Int))).run Tryz.prog W = .ok (.slice (some ⟨W.heap.size, 0, none⟩) n n) (W.alloc (.cells (ic (fun _ => 0) n) 3)) := by
  obtain ⟨i0, hi, hz0, hz1, hz2⟩ := info_parts info_int
  have hr := run_make (P := Tryz.prog) W 67 3 i0 (.int .i64 0) Tryz.underlying67 hi hz0 .i64 .i64 (n : Int) (n : Int) (by omega) (by omega) (by rw [hz2]; omega) (by omega)
  rw [hr, hz1, Int.toNat_natCast, Nat.mul_one]
  congr 2
  rw [← ic_zero]
  congr 1
  unfold madeCells
  apply Array.ext
  · simp
  · intro i h1 h2
    simp [Value.cells, Nat.mod_one]
/-- a row that a call has made holds so many numbers -/
theorem row_R {w : World} {base p n : Nat} {f : Nat → Int} (hb : base ≤ p) (h : w.heap[p]? = some (.cells (ic f n) 3 (0, 0))) (hn : n ≤ 1000) :
    Kd.R (Kd.int .i64) 3 w base (fun _ => True) (.slice (some ⟨p, 0, none⟩) n n) ((List.range n).map f) := by
  have hl : (ic f n).toList = (List.range n).map fun i => Value.int .i64 (f i) := by
    apply List.ext_getElem?
    intro i
    rw [Array.getElem?_toList]
    by_cases hi : i < n
    · rw [ic_at _ _ _ hi]; simp [hi]
    · rw [Array.getElem?_eq_none (by rw [ic_size]; omega), List.getElem?_eq_none (by simp; omega)]
  refine ⟨fun _ _ => trivial, (List.range n).map (fun i => Value.int .i64 (f i)), ?_, by simp; exact (Nat.mul_one n).symm, fun j p hp => ?_⟩
  · rw [show ((List.range n).map f).length = n by simp]
    refine ⟨by simp; exact (Nat.mul_one n).symm, .inr ⟨p, n, ic f n, rfl, hb, h, Nat.le_refl _, by unfold maxLen; omega, by rw [ic_size]; exact (Nat.mul_one n).symm, ?_⟩⟩
    rw [hl]
    exact List.take_of_length_le (by simp; exact Nat.le_of_eq (Nat.mul_one n).symm)
  · rw [List.getElem?_map, Option.map_eq_some_iff] at hp
    obtain ⟨i, hi, rfl⟩ := hp
    have hj := List.getElem?_eq_some_iff.1 hi
    obtain ⟨hj1, hj2⟩ := hj
    have hjn : j < n := by simpa using hj1
    have hji : j = i := by simpa using hj2
    subst hji
    show (Kd.int .i64).M _ _ _ _ ((((List.range n).map fun i => Value.int .i64 (f i)).drop (j * 1)).take 1)
    rw [Nat.mul_one]
    have e : ((((List.range n).map fun i => Value.int .i64 (f i)).drop j).take 1) = [.int .i64 (f j)] := by
      rw [List.drop_eq_getElem_cons (by simpa using hjn)]
      simp
    rw [e]
    exact rfl
end Go.Proofs.YtaaihcojedibeaaGreatDoor.DRow
end
section
/- ast.depths: its walk. -/
namespace Go.Proofs.YtaaihcojedibeaaGreatDoor.DDeep
open Go.RowKit CMem DRow Q Go.Proofs.YtaaihcojedibeaaGreatDoorW.PrintWords Go.Proofs.YtaaihcojedibeaaGreatDoorW.PrintLast Go.Proofs.YtaaihcojedibeaaGreatDoorW.PrintMore
set_option linter.unusedVariables false
set_option linter.unusedSimpArgs false
set_option maxRecDepth 100000
/-- how many children a kind has -/
def kd (k : Int) : Int := if k = 8 ∨ k = 9 then 2 else if k = 10 ∨ k = 11 ∨ k = 13 ∨ k = 14 ∨ k = 15 ∨ k = 16 ∨ k = 17 then 1 else 0
theorem kids_f (k : Int) : ast_kids.f 2 k = some (kd k) := by
  unfold kd
  simp only [ast_kids.f, ast_kids.j0, beq_iff_eq]
  by_cases h8 : k = 8
  · simp [h8]
  by_cases h9 : k = 9
  · simp [h9]
  rw [if_neg h8, if_neg h9, if_neg (show ¬ (k = 8 ∨ k = 9) by omega)]
  by_cases h : k = 10 ∨ k = 11 ∨ k = 13 ∨ k = 14 ∨ k = 15 ∨ k = 16 ∨ k = 17
  · rw [if_pos h]
    rcases h with h | h | h | h | h | h | h <;> subst h <;> simp
  · rw [if_neg h, if_neg (by omega), if_neg (by omega), if_neg (by omega), if_neg (by omega), if_neg (by omega), if_neg (by omega), if_neg (by omega)]
theorem kids_calls (k : Int) (w : World) : Calls Tryz.prog 42 #[.int .i64 k] w fun e w' => e = .returned (.int .i64 (kd k)) ∧ Below w.heap.size w w' :=
  (ast_kids.calls 2 k (kd k) w (kids_f k)).mono fun e w' h => ⟨h.1, h.2.below⟩
theorem kd_cases (k : Int) : kd k = 0 ∨ kd k = 1 ∨ kd k = 2 := by
  unfold kd
  by_cases h : k = 8 ∨ k = 9
  · rw [if_pos h]; exact .inr (.inr rfl)
  · rw [if_neg h]
    split
    · exact .inr (.inl rfl)
    · exact .inl rfl
/-- the rows of depths: as each node's children have them -/
def dOk (L : List S49) (D : Nat → Int) (i : Nat) : Prop :=
  (kd (rd_T49 L i).f0 = 0 ∧ D i = 1) ∨
  (kd (rd_T49 L i).f0 = 1 ∧ D i = 1 + D (rd_T49 L i).f1.toNat ∧ 0 ≤ (rd_T49 L i).f1 ∧ (rd_T49 L i).f1 < i) ∨
  (kd (rd_T49 L i).f0 = 2 ∧ D i = 1 + max (D (rd_T49 L i).f1.toNat) (D (rd_T49 L i).f2.toNat) ∧ 0 ≤ (rd_T49 L i).f1 ∧ (rd_T49 L i).f1 < i ∧ 0 ≤ (rd_T49 L i).f2 ∧ (rd_T49 L i).f2 < i)
def upto (D : Nat → Int) (i : Nat) : Nat → Int := fun j => if j < i then D j else 0
theorem upto_set {D : Nat → Int} {n i : Nat} (h : i < n) {v : Int} (hv : D i = v) : (ic (upto D i) n).setIfInBounds i (.int .i64 v) = ic (upto D (i + 1)) n := by
  rw [ic_set _ _ _ _ h]
  refine ic_ext fun j hj => ?_
  unfold upto
  by_cases e : j = i
  · subst e; rw [if_pos rfl, if_pos (by omega), hv]
  · rw [if_neg e]
    by_cases h2 : j < i
    · rw [if_pos h2, if_pos (by omega)]
    · rw [if_neg h2, if_neg (by omega)]
theorem upto_at {D : Nat → Int} {n i m : Nat} (h : i < n) (hm : m < i) : (ic (upto D i) n)[m]? = some (.int .i64 (D m)) := by
  rw [ic_at _ _ _ (by omega)]
  unfold upto
  rw [if_pos hm]
theorem upto_here {D : Nat → Int} {n i : Nat} (h : i < n) : (ic (upto D i) n)[i]? = some (.int .i64 0) := by
  rw [ic_at _ _ _ h]
  unfold upto
  rw [if_neg (Nat.lt_irrefl i)]
theorem upto_all (D : Nat → Int) (n : Nat) : ic (upto D n) n = ic D n := ic_ext fun i hi => by unfold upto; rw [if_pos hi]
set_option maxHeartbeats 6400000 in
theorem depths_walk (A : Option Addr) (c : Nat) (L : List S49) (n : Nat) (hn : L.length = n) (hn2 : n ≤ 1000) (D : Nat → Int) (hD : ∀ i, i < n → dOk L D i) (hB : ∀ i, i < n → 0 ≤ D i ∧ D i ≤ 1000) (w : World) (hr : Kd.C k49 w A n L) :
    Calls Tryz.prog 45 #[.agg #[.slice A n c]] w fun e w' => (∃ p, w.heap.size ≤ p ∧ e = .returned (.slice (some ⟨p, 0, none⟩) n n) ∧ w'.heap[p]? = some (.cells (ic D n) 3 (0, 0))) ∧ Below w.heap.size w w' := by
  have mk := make_ints n hn2
  have PO := Lib.hid (blk2 w (.cells #[.slice A n c] 24) (ic (fun _ => 0) n) 3)
  have HB := Lib.hid (below2 w (.cells #[.slice A n c] 24) (.cells (ic (fun _ => 0) n) 3))
  have HD := Lib.hid hD
  have HBD := Lib.hid hB
  have HR := Lib.hid hr
  clear hD hr hB
  go_enter Tryz.func45, Tryz.ntmps45
  go_wp2
  generalize hW : (w.alloc (.cells #[.slice A n c] 24)).alloc (.cells (ic (fun _ => 0) n) 3) = v0 at *
  clear hW mk
  go_loopw [13] (fun t wr => ∃ i : Nat, i ≤ n ∧ t = .int .i64 (i : Nat) ∧ Hid (wr.heap[w.heap.size + 1]? = some (.cells (ic (upto D i) n) 3 (0, 0))) ∧ Hid (Below w.heap.size w wr)) (fun t _ => n - (intOf t).toNat)
  case atStart => exact ⟨0, Nat.zero_le _, rfl, PO, HB⟩
  case round =>
    clear PO HB
    obtain ⟨i, hi, rfl, PO, HB⟩ := hrel
    by_cases h : i < n
    · obtain ⟨ad, hA, a0, a1, a2, a3, a4, a5, a6, a7, a8, a9, a10, a11⟩ := at_T49 HR.out (i : Int) (by omega) (by omega)
      subst hA
      rw [Int.toNat_natCast] at a0 a1 a2 a3 a4 a5 a6 a7 a8 a9 a10 a11
      have hd := HD.out i h
      unfold dOk at hd
      have hi2 : (i : Int) < (n : Int) := by omega
      generalize rd_T49 L i = x at *
      obtain ⟨xk, xa, xb, ⟨⟨s0, s1, s2, s3⟩⟩, x4, x5, x6, x7, x8⟩ := x
      simp only [] at hd a0 a1 a2 a3 a4 a5 a6 a7 a8 a9 a10 a11
      replace a0 := below_of HB.out a0
      replace a1 := below_of HB.out a1
      replace a2 := below_of HB.out a2
      replace a3 := below_of HB.out a3
      replace a4 := below_of HB.out a4
      replace a5 := below_of HB.out a5
      replace a6 := below_of HB.out a6
      replace a7 := below_of HB.out a7
      replace a8 := below_of HB.out a8
      replace a9 := below_of HB.out a9
      replace a10 := below_of HB.out a10
      replace a11 := below_of HB.out a11
      have KK := Lib.hid (kids_calls xk)
      have BN := Lib.hid (heap_alloc_new wr (.cells #[.int .i64 xk, .int .i64 xa, .int .i64 xb, .int .u64 s0, .int .u64 s1, .int .u64 s2, .int .u64 s3, .int .i64 x4, .int .i64 x5, .int .i64 x6, .int .i64 x7, .bool x8] 49))
      have BO := Lib.hid (blk_alloc PO.out (.cells #[.int .i64 xk, .int .i64 xa, .int .i64 xb, .int .u64 s0, .int .u64 s1, .int .u64 s2, .int .u64 s3, .int .i64 x4, .int .i64 x5, .int .i64 x6, .int .i64 x7, .bool x8] 49))
      have HB1 := Lib.hid (HB.out.alloc HB.out.size (.cells #[.int .i64 xk, .int .i64 xa, .int .i64 xb, .int .u64 s0, .int .u64 s1, .int .u64 s2, .int .u64 s3, .int .i64 x4, .int .i64 x5, .int .i64 x6, .int .i64 x7, .bool x8] 49))
      have hd0 := Lib.hid hd
      clear hd HB
      go_wp2_with fail
      refine (KK.out _).mono ?_
      rintro e w2 ⟨rfl, hb⟩
      have BN2 := Lib.hid (below_blk hb BN.out)
      have BO2 := Lib.hid (below_blk hb BO.out)
      have HB2 := Lib.hid (below_step HB1.out hb)
      have hw2 := HB2.out.size
      have hlt := Nat.lt_of_le_of_lt (Nat.le_refl _) (lt_of_blk PO.out)
      clear hb BN BO HB1 KK a0 a1 a2 a3 a4 a5 a6 a7 a8 a9 a10 a11
      generalize wr.heap.size = QN at *
      have n0 := blk_cell BN2.out 0 (.int .i64 xk) rfl
      have n1 := blk_cell BN2.out 1 (.int .i64 xa) rfl
      have n2 := blk_cell BN2.out 2 (.int .i64 xb) rfl
      have v1 := blk_cell BO2.out i _ (upto_here h)
      have v2 := blk_free BO2.out i
      have hbd := HBD.out i h
      rcases hd0.out with ⟨k0, e0⟩ | ⟨k0, e0, l1, l2⟩ | ⟨k0, e0, l1, l2, l3, l4⟩
      · rw [k0]
        have BO3 := set_blk (i := i) BO2.out (.int .i64 1)
        rw [upto_set h e0] at BO3
        have BO3 := Lib.hid BO3
        have HB3 := Lib.hid (below_set (i := i) HB2.out (show w.heap.size ≤ w.heap.size + 1 by omega) (.int .i64 1))
        clear hd0 BO2 HB2 e0 k0 BN2 n0 n1 n2
        go_wp2
        go_roundw
        case rel => exact ⟨i + 1, by omega, by simp, BO3, HB3⟩
        case measure => simp [intOf]; omega
      · rw [k0]
        obtain ⟨m, rfl⟩ := Int.eq_ofNat_of_zero_le l1
        rw [Int.toNat_natCast] at e0
        have hm : m < i := by omega
        have v3 := blk_cell BO2.out m _ (upto_at h hm)
        have hbm := HBD.out m (by omega)
        have BO3 := set_blk (i := i) BO2.out (.int .i64 (1 + D m))
        rw [upto_set h e0] at BO3
        have BO3 := Lib.hid BO3
        have HB3 := Lib.hid (below_set (i := i) HB2.out (show w.heap.size ≤ w.heap.size + 1 by omega) (.int .i64 (1 + D m)))
        have hmn : (m : Int) < (n : Int) := by omega
        clear hd0 BO2 HB2 e0 k0 BN2 hbd
        generalize D m = dm at *
        go_wp2
        go_roundw
        case rel => exact ⟨i + 1, by omega, by simp, BO3, HB3⟩
        case measure => simp [intOf]; omega
      · rw [k0]
        obtain ⟨m, rfl⟩ := Int.eq_ofNat_of_zero_le l1
        obtain ⟨p, rfl⟩ := Int.eq_ofNat_of_zero_le l3
        rw [Int.toNat_natCast, Int.toNat_natCast] at e0
        have hm : m < i := by omega
        have hp : p < i := by omega
        have v3 := blk_cell BO2.out m _ (upto_at h hm)
        have v4 := blk_cell BO2.out p _ (upto_at h hp)
        have hbm := HBD.out m (by omega)
        have hbp := HBD.out p (by omega)
        have e1 : D i = wrap64 (1 + if D m < D p then D p else D m) := by
          rw [e0]
          unfold wrap64
          split <;> omega
        have BO3 := set_blk (i := i) BO2.out (.int .i64 (wrap64 (1 + if D m < D p then D p else D m)))
        rw [upto_set h e1] at BO3
        have BO3 := Lib.hid BO3
        have HB3 := Lib.hid (below_set (i := i) HB2.out (show w.heap.size ≤ w.heap.size + 1 by omega) (.int .i64 (wrap64 (1 + if D m < D p then D p else D m))))
        have hmn : (m : Int) < (n : Int) := by omega
        have hpn : (p : Int) < (n : Int) := by omega
        clear hd0 BO2 HB2 e0 e1 k0 BN2 hbd
        generalize D m = dm at *
        generalize D p = dp at *
        go_wp2
        refine start_ (n := 16) (S := fun w' => w'.cell? ⟨QN, 1, none⟩ = some (.int .i64 (m : Nat)) ∧ w'.cell? ⟨QN, 2, none⟩ = some (.int .i64 (p : Nat)) ∧ w'.cell? ⟨w.heap.size + 1, m, none⟩ = some (.int .i64 dm) ∧ w'.cell? ⟨w.heap.size + 1, p, none⟩ = some (.int .i64 dp)) (ds := [15]) #[false, false, false, false, false, false, false, false, false, false, false, false, false, false, false, false] (by kernel_rfl) rfl rfl ⟨n1, n2, v3, v4⟩ (fun hHeld => ?_)
        refine pure_ (i := 0) (N := some 21) (v := ?_) (a' := ?_) #[true, false, false, false, false, false, false, false, false, false, false, false, false, false, false, false] rfl rfl (by kernel_rfl) (fun _ _ _ h => h) (Or.inl ⟨by rfl, ?_⟩) ?_ ?_
        rotate_left
        · intro w'
          go_simp
          with_reducible rfl
        rotate_left
        · simp only [Act.put, List.setIfInBounds_toArray, List.set_cons_zero, List.set_cons_succ, i64_w, i32_w]
          rfl
        refine pure_ (i := 1) (N := some 22) (v := ?_) (a' := ?_) #[true, true, false, false, false, false, false, false, false, false, false, false, false, false, false, false] rfl rfl (by kernel_rfl) (fun _ _ _ h => h) (Or.inl ⟨by rfl, ?_⟩) ?_ ?_
        rotate_left
        · intro w'
          go_simp
          with_reducible rfl
        rotate_left
        · simp only [Act.put, List.setIfInBounds_toArray, List.set_cons_zero, List.set_cons_succ, i64_w, i32_w]
          rfl
        refine pure_ (i := 2) (N := some 23) (v := ?_) (a' := ?_) #[true, true, true, false, false, false, false, false, false, false, false, false, false, false, false, false] rfl rfl (by kernel_rfl) (fun _ _ _ h => h) (Or.inl ⟨by rfl, ?_⟩) ?_ ?_
        rotate_left
        · intro w'
          go_simp
          with_reducible rfl
        rotate_left
        · simp only [Act.put, List.setIfInBounds_toArray, List.set_cons_zero, List.set_cons_succ, i64_w, i32_w]
          rfl
        refine pure_ (i := 3) (N := some 24) (v := ?_) (a' := ?_) #[true, true, true, true, false, false, false, false, false, false, false, false, false, false, false, false] rfl rfl (by kernel_rfl) (fun _ _ _ h => h) (Or.inl ⟨by rfl, ?_⟩) ?_ ?_
        rotate_left
        · intro w'
          go_simp
          with_reducible rfl
        rotate_left
        · simp only [Act.put, List.setIfInBounds_toArray, List.set_cons_zero, List.set_cons_succ, i64_w, i32_w]
          rfl
        refine pure_ (i := 7) (N := some 28) (v := ?_) (a' := ?_) #[true, true, true, true, false, false, false, true, false, false, false, false, false, false, false, false] rfl rfl (by kernel_rfl) (fun _ _ _ h => h) (Or.inl ⟨by rfl, ?_⟩) ?_ ?_
        rotate_left
        · intro w'
          go_simp
          with_reducible rfl
        rotate_left
        · simp only [Act.put, List.setIfInBounds_toArray, List.set_cons_zero, List.set_cons_succ, i64_w, i32_w]
          rfl
        refine pure_ (i := 8) (N := some 29) (v := ?_) (a' := ?_) #[true, true, true, true, false, false, false, true, true, false, false, false, false, false, false, false] rfl rfl (by kernel_rfl) (fun _ _ _ h => h) (Or.inl ⟨by rfl, ?_⟩) ?_ ?_
        rotate_left
        · intro w'
          go_simp
          with_reducible rfl
        rotate_left
        · simp only [Act.put, List.setIfInBounds_toArray, List.set_cons_zero, List.set_cons_succ, i64_w, i32_w]
          rfl
        refine take_ (i := 4) (N := some 25) (v := ?_) (a' := ?_) #[true, true, true, true, true, false, false, true, true, false, false, false, false, false, false, false] rfl rfl (by kernel_rfl) (fun _ _ _ h => h) (Or.inl ⟨by rfl, ?_⟩) hHeld ?_ ?_
        rotate_left
        · rintro w' ⟨s0, s1, s2, s3⟩
          go_simp
          with_reducible rfl
        rotate_left
        · simp only [Act.put, List.setIfInBounds_toArray, List.set_cons_zero, List.set_cons_succ, i64_w, i32_w]
          rfl
        refine pure_ (i := 5) (N := some 26) (v := ?_) (a' := ?_) #[true, true, true, true, true, true, false, true, true, false, false, false, false, false, false, false] rfl rfl (by kernel_rfl) (fun _ _ _ h => h) (Or.inl ⟨by rfl, ?_⟩) ?_ ?_
        rotate_left
        · intro w'
          go_simp
          with_reducible rfl
        rotate_left
        · simp only [Act.put, List.setIfInBounds_toArray, List.set_cons_zero, List.set_cons_succ, i64_w, i32_w]
          rfl
        refine take_ (i := 6) (N := some 27) (v := ?_) (a' := ?_) #[true, true, true, true, true, true, true, true, true, false, false, false, false, false, false, false] rfl rfl (by kernel_rfl) (fun _ _ _ h => h) (Or.inl ⟨by rfl, ?_⟩) hHeld ?_ ?_
        rotate_left
        · rintro w' ⟨s0, s1, s2, s3⟩
          go_simp
          with_reducible rfl
        rotate_left
        · simp only [Act.put, List.setIfInBounds_toArray, List.set_cons_zero, List.set_cons_succ, i64_w, i32_w]
          rfl
        refine take_ (i := 9) (N := some 30) (v := ?_) (a' := ?_) #[true, true, true, true, true, true, true, true, true, true, false, false, false, false, false, false] rfl rfl (by kernel_rfl) (fun _ _ _ h => h) (Or.inl ⟨by rfl, ?_⟩) hHeld ?_ ?_
        rotate_left
        · rintro w' ⟨s0, s1, s2, s3⟩
          go_simp
          with_reducible rfl
        rotate_left
        · simp only [Act.put, List.setIfInBounds_toArray, List.set_cons_zero, List.set_cons_succ, i64_w, i32_w]
          rfl
        refine pure_ (i := 10) (N := some 31) (v := ?_) (a' := ?_) #[true, true, true, true, true, true, true, true, true, true, true, false, false, false, false, false] rfl rfl (by kernel_rfl) (fun _ _ _ h => h) (Or.inl ⟨by rfl, ?_⟩) ?_ ?_
        rotate_left
        · intro w'
          go_simp
          with_reducible rfl
        rotate_left
        · simp only [Act.put, List.setIfInBounds_toArray, List.set_cons_zero, List.set_cons_succ, i64_w, i32_w]
          rfl
        refine take_ (i := 11) (N := some 32) (v := ?_) (a' := ?_) #[true, true, true, true, true, true, true, true, true, true, true, true, false, false, false, false] rfl rfl (by kernel_rfl) (fun _ _ _ h => h) (Or.inl ⟨by rfl, ?_⟩) hHeld ?_ ?_
        rotate_left
        · rintro w' ⟨s0, s1, s2, s3⟩
          go_simp
          with_reducible rfl
        rotate_left
        · simp only [Act.put, List.setIfInBounds_toArray, List.set_cons_zero, List.set_cons_succ, i64_w, i32_w]
          rfl
        refine pure_ (i := 12) (N := some 33) (v := ?_) (a' := ?_) #[true, true, true, true, true, true, true, true, true, true, true, true, true, false, false, false] rfl rfl (by kernel_rfl) (fun _ _ _ h => h) (Or.inl ⟨by rfl, ?_⟩) ?_ ?_
        rotate_left
        · intro w'
          go_simp
          with_reducible rfl
        rotate_left
        · simp only [Act.put, List.setIfInBounds_toArray, List.set_cons_zero, List.set_cons_succ, i64_w, i32_w]
          rfl
        refine pure_ (i := 13) (N := some 34) (v := ?_) (a' := ?_) #[true, true, true, true, true, true, true, true, true, true, true, true, true, true, false, false] rfl rfl (by kernel_rfl) (fun _ _ _ h => h) (Or.inl ⟨by rfl, ?_⟩) ?_ ?_
        rotate_left
        · intro w'
          go_simp
          with_reducible rfl
        rotate_left
        · simp only [Act.put, List.setIfInBounds_toArray, List.set_cons_zero, List.set_cons_succ, i64_w, i32_w]
          rfl
        refine pure_ (i := 14) (N := some 35) (v := ?_) (a' := ?_) #[true, true, true, true, true, true, true, true, true, true, true, true, true, true, true, false] rfl rfl (by kernel_rfl) (fun _ _ _ h => h) (Or.inl ⟨by rfl, ?_⟩) ?_ ?_
        rotate_left
        · intro w'
          go_simp
          with_reducible rfl
        rotate_left
        · simp only [Act.put, List.setIfInBounds_toArray, List.set_cons_zero, List.set_cons_succ, i64_w, i32_w]
          rfl
        refine last_ (i := 15) (N := none) #[true, true, true, true, true, true, true, true, true, true, true, true, true, true, true, true] rfl rfl (by kernel_rfl) (by decide) (fun K hK => ?_)
        refine skip_ (w1 := ?_) (by rfl) rfl ?_ ?_
        rotate_left
        · go_simp
          rfl
        refine hK.out _ _ ?_
        clear hK K
        refine done_ (by kernel_rfl) ?_
        go_wp2
        go_roundw
        case rel => exact ⟨i + 1, by omega, by simp, BO3, Lib.hid HB3.out.drew⟩
        case measure => simp [intOf]; omega
    · obtain rfl : i = n := by omega
      rw [upto_all] at PO
      have hi2 : ¬ ((i : Int) < (i : Int)) := by omega
      go_wp2
      go_ret
      exact ⟨⟨w.heap.size + 1, Nat.le_succ _, rfl, PO.out⟩, HB.out⟩
end Go.Proofs.YtaaihcojedibeaaGreatDoor.DDeep
end
section
/- ast.sizes: its walk. -/
namespace Go.Proofs.YtaaihcojedibeaaGreatDoor.DSizes
open Go.RowKit CMem DRow DDeep Q Go.Proofs.YtaaihcojedibeaaGreatDoorW.PrintWords Go.Proofs.YtaaihcojedibeaaGreatDoorW.PrintLast Go.Proofs.YtaaihcojedibeaaGreatDoorW.PrintMore
set_option linter.unusedVariables false
set_option linter.unusedSimpArgs false
set_option maxRecDepth 100000
/-- a node's cells -/
def nc (x : S49) : Array Value := #[.int .i64 x.f0, .int .i64 x.f1, .int .i64 x.f2, .int .u64 x.f3.f0.f0, .int .u64 x.f3.f0.f1, .int .u64 x.f3.f0.f2, .int .u64 x.f3.f0.f3, .int .i64 x.f4, .int .i64 x.f5, .int .i64 x.f6, .int .i64 x.f7, .bool x.f8]
/-- where a node's children are to be, and how many nodes its tree has: as those ahead of it have them; none: there is no room -/
def stp (k : Int) (S : Nat → Int) (i : Nat) : Option (Int × Int × Int) :=
  if kd k = 0 then some (0, 0, 1)
  else if kd k = 1 then (if i = 0 then none else some ((i : Int) - 1, 0, 1 + S (i - 1)))
  else if i = 0 then none else if (i : Int) - 1 - S (i - 1) < 0 then none else some ((i : Int) - 1 - S (i - 1), (i : Int) - 1, 1 + (S ((i : Int) - 1 - S (i - 1)).toNat + S (i - 1)))
/-- a node stands in order -/
def good (fit : S49 → Bool) (S : Nat → Int) (i : Nat) (x : S49) : Prop := ∃ s, stp x.f0 S i = some (x.f1, x.f2, s) ∧ fit x = true
def HCx (st : Option (Int × Int × Int)) (fb : Bool) (xa xb : Int) (Si : Int) (i j : Nat) : Prop := (i < j ∧ fb = true ∧ ∃ s, st = some (xa, xb, s) ∧ Si = s) ∨ (i = j ∧ ¬ (fb = true ∧ ∃ s, st = some (xa, xb, s)))
theorem hc_good {st : Option (Int × Int × Int)} {fb : Bool} {xa xb Si a b s : Int} {i j : Nat} (h : HCx st fb xa xb Si i j) (E : st = some (a, b, s)) (hf : fb = true) (ha : xa = a) (hb : xb = b) : i < j ∧ Si = s := by
  rcases h with ⟨h1, _, s', h2, h3⟩ | ⟨_, h2⟩
  · rw [E] at h2
    have := Option.some.inj h2
    simp only [Prod.mk.injEq] at this
    exact ⟨h1, by rw [h3, this.2.2]⟩
  · exact absurd ⟨hf, s, by rw [E, ha, hb]⟩ h2
theorem hc_bad {st : Option (Int × Int × Int)} {fb : Bool} {xa xb Si a b s : Int} {i j : Nat} (h : HCx st fb xa xb Si i j) (E : st = some (a, b, s)) (hn : ¬ (fb = true ∧ xa = a ∧ xb = b)) : i = j := by
  rcases h with ⟨_, h0, s', h2, _⟩ | ⟨h1, _⟩
  · rw [E] at h2
    have := Option.some.inj h2
    simp only [Prod.mk.injEq] at this
    exact absurd ⟨h0, this.1.symm, this.2.1.symm⟩ hn
  · exact h1
theorem hc_none {st : Option (Int × Int × Int)} {fb : Bool} {xa xb Si : Int} {i j : Nat} (h : HCx st fb xa xb Si i j) (E : st = none) : i = j := by
  rcases h with ⟨_, _, s', h2, _⟩ | ⟨h1, _⟩
  · rw [E] at h2; cases h2
  · exact h1
set_option maxHeartbeats 12800000 in
theorem sizes_walk (fit : S49 → Bool) (hfit : ∀ x w, Calls Tryz.prog 67 #[.agg (nc x)] w fun e w' => e = .returned (.bool (fit x)) ∧ Below w.heap.size w w')
    (A : Option Addr) (c : Nat) (L : List S49) (n : Nat) (hn : L.length = n) (hn2 : n ≤ 1000) (S : Nat → Int) (j : Nat) (hj : j ≤ n)
    (hok : ∀ i, i < j → ∃ s, stp (rd_T49 L i).f0 S i = some ((rd_T49 L i).f1, (rd_T49 L i).f2, s) ∧ fit (rd_T49 L i) = true ∧ S i = s ∧ 1 ≤ S i ∧ S i ≤ (i : Int) + 1)
    (hbad : j < n → ¬ good fit S j (rd_T49 L j)) (w : World) (hr : Kd.C k49 w A n L) :
    Calls Tryz.prog 43 #[.agg #[.slice A n c]] w fun e w' => (if j < n then e = .returned (.tuple #[.slice none 0 0, .bool false]) else ∃ p, w.heap.size ≤ p ∧ e = .returned (.tuple #[.slice (some ⟨p, 0, none⟩) n n, .bool (decide (0 < n) && S (n - 1) == (n : Int))]) ∧ w'.heap[p]? = some (.cells (ic S n) 3 (0, 0))) ∧ Below w.heap.size w w' := by
  have mk := make_ints n hn2
  have PO := Lib.hid (blk2 w (.cells #[.slice A n c] 24) (ic (fun _ => 0) n) 3)
  have TO := Lib.hid (blk_alloc (heap_alloc_new w (.cells #[.slice A n c] 24)) (.cells (ic (fun _ => 0) n) 3))
  have HB := Lib.hid (below2 w (.cells #[.slice A n c] 24) (.cells (ic (fun _ => 0) n) 3))
  have HOK := Lib.hid hok
  have HBAD := Lib.hid hbad
  have HR := Lib.hid hr
  have HJ := Lib.hid hj
  have HF := Lib.hid hfit
  clear hok hbad hr hj hfit
  go_enter Tryz.func43, Tryz.ntmps43
  go_wp2
  generalize hW : (w.alloc (.cells #[.slice A n c] 24)).alloc (.cells (ic (fun _ => 0) n) 3) = v0 at *
  clear hW mk
  go_loopw [18] (fun t wr => ∃ i : Nat, i ≤ j ∧ t = .int .i64 (i : Nat) ∧ Hid (wr.heap[w.heap.size + 1]? = some (.cells (ic (upto S i) n) 3 (0, 0))) ∧ Hid (wr.heap[w.heap.size]? = some (.cells #[.slice A n c] 24 (0, 0))) ∧ Hid (Below w.heap.size w wr)) (fun t _ => n - (intOf t).toNat)
  case atStart => exact ⟨0, Nat.zero_le _, rfl, PO, TO, HB⟩
  case round =>
    clear PO TO HB
    obtain ⟨i, hi, rfl, PO, TO, HB⟩ := hrel
    have hjn := HJ.out
    by_cases h : i < n
    · obtain ⟨ad, hA, a0, a1, a2, a3, a4, a5, a6, a7, a8, a9, a10, a11⟩ := at_T49 HR.out (i : Int) (by omega) (by omega)
      subst hA
      rw [Int.toNat_natCast] at a0 a1 a2 a3 a4 a5 a6 a7 a8 a9 a10 a11
      have hi2 : (i : Int) < (n : Int) := by omega
      have KF := Lib.hid (HF.out (rd_T49 L i))
      have hcase : HCx (stp (rd_T49 L i).f0 S i) (fit (rd_T49 L i)) (rd_T49 L i).f1 (rd_T49 L i).f2 (S i) i j := by
        rcases Nat.lt_or_ge i j with hl | hl
        · obtain ⟨s, h1, h2, h3, _⟩ := HOK.out i hl
          exact .inl ⟨hl, h2, s, h1, h3⟩
        · obtain rfl : i = j := by omega
          exact .inr ⟨rfl, fun hh => HBAD.out h (by obtain ⟨h1, s, h2⟩ := hh; exact ⟨s, h2, h1⟩)⟩
      have HC := Lib.hid hcase
      clear hcase
      have HBS : Hid (∀ m, m < i → 1 ≤ S m ∧ S m ≤ (m : Int) + 1) := Lib.hid (fun m hm => by obtain ⟨s, _, _, _, h4, h5⟩ := HOK.out m (by omega); exact ⟨h4, h5⟩)
      generalize rd_T49 L i = x at *
      obtain ⟨xk, xa, xb, ⟨⟨s0, s1, s2, s3⟩⟩, x4, x5, x6, x7, x8⟩ := x
      simp only [nc] at a0 a1 a2 a3 a4 a5 a6 a7 a8 a9 a10 a11 KF
      replace a0 := below_of HB.out a0
      replace a1 := below_of HB.out a1
      replace a2 := below_of HB.out a2
      replace a3 := below_of HB.out a3
      replace a4 := below_of HB.out a4
      replace a5 := below_of HB.out a5
      replace a6 := below_of HB.out a6
      replace a7 := below_of HB.out a7
      replace a8 := below_of HB.out a8
      replace a9 := below_of HB.out a9
      replace a10 := below_of HB.out a10
      replace a11 := below_of HB.out a11
      have KK := Lib.hid (kids_calls xk)
      have BN := Lib.hid (heap_alloc_new wr (.cells #[.int .i64 xk, .int .i64 xa, .int .i64 xb, .int .u64 s0, .int .u64 s1, .int .u64 s2, .int .u64 s3, .int .i64 x4, .int .i64 x5, .int .i64 x6, .int .i64 x7, .bool x8] 49))
      have BO := Lib.hid (blk_alloc PO.out (.cells #[.int .i64 xk, .int .i64 xa, .int .i64 xb, .int .u64 s0, .int .u64 s1, .int .u64 s2, .int .u64 s3, .int .i64 x4, .int .i64 x5, .int .i64 x6, .int .i64 x7, .bool x8] 49))
      have BT := Lib.hid (blk_alloc TO.out (.cells #[.int .i64 xk, .int .i64 xa, .int .i64 xb, .int .u64 s0, .int .u64 s1, .int .u64 s2, .int .u64 s3, .int .i64 x4, .int .i64 x5, .int .i64 x6, .int .i64 x7, .bool x8] 49))
      have HB1 := Lib.hid (HB.out.alloc HB.out.size (.cells #[.int .i64 xk, .int .i64 xa, .int .i64 xb, .int .u64 s0, .int .u64 s1, .int .u64 s2, .int .u64 s3, .int .i64 x4, .int .i64 x5, .int .i64 x6, .int .i64 x7, .bool x8] 49))
      generalize hfx : fit ⟨xk, xa, xb, ⟨⟨s0, s1, s2, s3⟩⟩, x4, x5, x6, x7, x8⟩ = fb at *
      clear HB
      go_wp2_with fail
      refine (KK.out _).mono ?_
      rintro e w2 ⟨rfl, hb⟩
      have BN2 := Lib.hid (below_blk hb BN.out)
      have BO2 := Lib.hid (below_blk hb BO.out)
      have BT2 := Lib.hid (below_blk hb BT.out)
      have HB2 := Lib.hid (below_step HB1.out hb)
      clear hb BN BO BT HB1 KK a0 a1 a2 a3 a4 a5 a6 a7 a8 a9 a10 a11 PO TO
      generalize wr.heap.size = QN at *
      have n0 := blk_cell BN2.out 0 (.int .i64 xk) rfl
      have n1 := blk_cell BN2.out 1 (.int .i64 xa) rfl
      have n2 := blk_cell BN2.out 2 (.int .i64 xb) rfl
      have n3 := blk_cell BN2.out 3 (.int .u64 s0) rfl
      have n4 := blk_cell BN2.out 4 (.int .u64 s1) rfl
      have n5 := blk_cell BN2.out 5 (.int .u64 s2) rfl
      have n6 := blk_cell BN2.out 6 (.int .u64 s3) rfl
      have n7 := blk_cell BN2.out 7 (.int .i64 x4) rfl
      have n8 := blk_cell BN2.out 8 (.int .i64 x5) rfl
      have n9 := blk_cell BN2.out 9 (.int .i64 x6) rfl
      have n10 := blk_cell BN2.out 10 (.int .i64 x7) rfl
      have n11 := blk_cell BN2.out 11 (.bool x8) rfl
      rcases kd_cases xk with hk | hk | hk
      · have E : stp xk S i = some (0, 0, 1) := by unfold stp; rw [if_pos hk]
        rw [hk]
        go_wp2_with fail
        refine (KF.out _).mono ?_
        rintro e w3 ⟨rfl, hb⟩
        have m1 := below_of hb n1
        have m2 := below_of hb n2
        have BO3 := Lib.hid (below_blk hb BO2.out)
        have BT3 := Lib.hid (below_blk hb BT2.out)
        have HB3 := Lib.hid (below_step HB2.out hb)
        clear hb n0 n1 n2 n3 n4 n5 n6 n7 n8 n9 n10 n11 BO2 BT2 HB2 BN2 KF
        by_cases hg : fb = true ∧ xa = 0 ∧ xb = 0
        · obtain ⟨g0, g1, g2⟩ := hg
          obtain ⟨hij, hS⟩ := hc_good HC.out E g0 g1 g2
          have d1 : (xa != 0) = false := by simp [g1]
          have d2 : (xb != 0) = false := by simp [g2]
          have c0 := blk_cell BO3.out i _ (upto_here h)
          have f0 := blk_free BO3.out i
          have BO4 := set_blk (i := i) BO3.out (.int .i64 (1))
          rw [upto_set h hS] at BO4
          have BO4 := Lib.hid BO4
          have BT4 := Lib.hid (set_other (c := w.heap.size + 1) (i := i) (v := .int .i64 (1)) BT3.out (by omega))
          have HB4 := Lib.hid (below_set (i := i) HB3.out (show w.heap.size ≤ w.heap.size + 1 by omega) (.int .i64 (1)))
          clear HC E BO3 BT3 HB3 hS hfx g1 g2
          subst g0
          go_wp2
          go_roundw
          case rel => exact ⟨i + 1, by omega, by simp, BO4, BT4, HB4⟩
          case measure => simp [intOf]; omega
        · obtain rfl := hc_bad HC.out E hg
          have hjn := h
          clear HC E hfx
          cases fb
          · go_wp2
            go_ret2
            exact ⟨by first | rfl | exact (if_pos h).mpr rfl, HB3.out⟩
          · by_cases g1 : xa = 0
            · have g2 : ¬ xb = 0 := fun e => hg ⟨rfl, g1, e⟩
              have d1 : (xa != 0) = false := by simp [g1]
              have d2 : (xb != 0) = true := by simp [g2]
              clear hg g1 g2
              go_wp2
              go_ret2
              exact ⟨by first | rfl | exact (if_pos h).mpr rfl, HB3.out⟩
            · have d1 : (xa != 0) = true := by simp [g1]
              clear hg g1
              go_wp2
              go_ret2
              exact ⟨by first | rfl | exact (if_pos h).mpr rfl, HB3.out⟩
      · by_cases hi0 : i = 0
        · have E : stp xk S i = none := by unfold stp; rw [if_neg (by omega), if_pos hk, if_pos hi0]
          rw [hk]
          have hi1 : ((i : Nat) : Int) - 1 < 0 := by omega
          obtain rfl := hc_none HC.out E
          clear HC E hfx
          go_wp2
          go_ret2
          exact ⟨by first | rfl | exact (if_pos h).mpr rfl, HB2.out⟩
        · obtain ⟨m, hm⟩ : ∃ m, i = m + 1 := ⟨i - 1, by omega⟩
          have hmi : (i : Int) - 1 = (m : Int) := by omega
          have hm2 : i - 1 = m := by omega
          have hml : m < i := by omega
          have E : stp xk S i = some ((m : Int), 0, 1 + S m) := by unfold stp; rw [if_neg (by omega), if_pos hk, if_neg hi0, hmi, hm2]
          have hbm := HBS.out m hml
          have q1 := blk_cell BO2.out m _ (upto_at h hml)
          have hmn : (m : Int) < (n : Int) := by omega
          clear hm hm2 hi0
          rw [hk]
          generalize S m = sm at *
          go_wp2_with fail
          refine (KF.out _).mono ?_
          rintro e w3 ⟨rfl, hb⟩
          have m1 := below_of hb n1
          have m2 := below_of hb n2
          have BO3 := Lib.hid (below_blk hb BO2.out)
          have BT3 := Lib.hid (below_blk hb BT2.out)
          have HB3 := Lib.hid (below_step HB2.out hb)
          clear hb n0 n1 n2 n3 n4 n5 n6 n7 n8 n9 n10 n11 BO2 BT2 HB2 BN2 KF
          by_cases hg : fb = true ∧ xa = (m : Int) ∧ xb = 0
          · obtain ⟨g0, g1, g2⟩ := hg
            obtain ⟨hij, hS⟩ := hc_good HC.out E g0 g1 g2
            have d1 : (xa != (m : Int)) = false := by simp [g1]
            have d2 : (xb != 0) = false := by simp [g2]
            have c0 := blk_cell BO3.out i _ (upto_here h)
            have f0 := blk_free BO3.out i
            have BO4 := set_blk (i := i) BO3.out (.int .i64 (1 + sm))
            rw [upto_set h hS] at BO4
            have BO4 := Lib.hid BO4
            have BT4 := Lib.hid (set_other (c := w.heap.size + 1) (i := i) (v := .int .i64 (1 + sm)) BT3.out (by omega))
            have HB4 := Lib.hid (below_set (i := i) HB3.out (show w.heap.size ≤ w.heap.size + 1 by omega) (.int .i64 (1 + sm)))
            clear HC E BO3 BT3 HB3 hS hfx g1 g2
            subst g0
            go_wp2
            go_roundw
            case rel => exact ⟨i + 1, by omega, by simp, BO4, BT4, HB4⟩
            case measure => simp [intOf]; omega
          · obtain rfl := hc_bad HC.out E hg
            have hjn := h
            clear HC E hfx
            cases fb
            · go_wp2
              go_ret2
              exact ⟨by first | rfl | exact (if_pos h).mpr rfl, HB3.out⟩
            · by_cases g1 : xa = (m : Int)
              · have g2 : ¬ xb = 0 := fun e => hg ⟨rfl, g1, e⟩
                have d1 : (xa != (m : Int)) = false := by simp [g1]
                have d2 : (xb != 0) = true := by simp [g2]
                clear hg g1 g2
                go_wp2
                go_ret2
                exact ⟨by first | rfl | exact (if_pos h).mpr rfl, HB3.out⟩
              · have d1 : (xa != (m : Int)) = true := by simp [g1]
                clear hg g1
                go_wp2
                go_ret2
                exact ⟨by first | rfl | exact (if_pos h).mpr rfl, HB3.out⟩
      · by_cases hi0 : i = 0
        · have E : stp xk S i = none := by unfold stp; rw [if_neg (by omega), if_neg (by omega), if_pos hi0]
          rw [hk]
          have hi1 : ((i : Nat) : Int) - 1 < 0 := by omega
          obtain rfl := hc_none HC.out E
          clear HC E hfx
          go_wp2
          go_ret2
          exact ⟨by first | rfl | exact (if_pos h).mpr rfl, HB2.out⟩
        · obtain ⟨m, hm⟩ : ∃ m, i = m + 1 := ⟨i - 1, by omega⟩
          have hmi : (i : Int) - 1 = (m : Int) := by omega
          have hm2 : i - 1 = m := by omega
          have hml : m < i := by omega
          have hbm := HBS.out m hml
          have q1 := blk_cell BO2.out m _ (upto_at h hml)
          have hmn : (m : Int) < (n : Int) := by omega
          by_cases hneg : (m : Int) - S m < 0
          · have E : stp xk S i = none := by unfold stp; rw [if_neg (by omega), if_neg (by omega), if_neg hi0, hmi, hm2, if_pos hneg]
            clear hm hm2 hi0
            rw [hk]
            generalize S m = sm at *
            obtain rfl := hc_none HC.out E
            clear HC E hfx
            go_wp2
            go_ret2
            exact ⟨by first | rfl | exact (if_pos h).mpr rfl, HB2.out⟩
          · obtain ⟨p, hp⟩ : ∃ p : Nat, (m : Int) - S m = (p : Int) := ⟨((m : Int) - S m).toNat, by omega⟩
            have hpl : p < i := by omega
            have E : stp xk S i = some ((p : Int), (m : Int), 1 + (S p + S m)) := by unfold stp; rw [if_neg (by omega), if_neg (by omega), if_neg hi0, hmi, hm2, if_neg hneg, hp, Int.toNat_natCast]
            have hbp := HBS.out p hpl
            have q2 := blk_cell BO2.out p _ (upto_at h hpl)
            have hpn : (p : Int) < (n : Int) := by omega
            clear hm hm2 hi0 hneg
            rw [hk]
            generalize S m = sm at *
            generalize S p = sp at *
            go_wp2
            go_quiet (fail)
            have n1 := below_of (below_drewN (Below.refl _ _) nq) n1
            have n2 := below_of (below_drewN (Below.refl _ _) nq) n2
            have n0 := below_of (below_drewN (Below.refl _ _) nq) n0
            have n3 := below_of (below_drewN (Below.refl _ _) nq) n3
            have n4 := below_of (below_drewN (Below.refl _ _) nq) n4
            have n5 := below_of (below_drewN (Below.refl _ _) nq) n5
            have n6 := below_of (below_drewN (Below.refl _ _) nq) n6
            have n7 := below_of (below_drewN (Below.refl _ _) nq) n7
            have n8 := below_of (below_drewN (Below.refl _ _) nq) n8
            have n9 := below_of (below_drewN (Below.refl _ _) nq) n9
            have n10 := below_of (below_drewN (Below.refl _ _) nq) n10
            have n11 := below_of (below_drewN (Below.refl _ _) nq) n11
            have BO2 := Lib.hid (below_blk (below_drewN (Below.refl _ _) nq) BO2.out)
            have BT2 := Lib.hid (below_blk (below_drewN (Below.refl _ _) nq) BT2.out)
            have HB2 := Lib.hid (below_drewN HB2.out nq)
            generalize hW : w2.drewN nq = v2 at *
            clear hW
            go_wp2_with fail
            refine (KF.out _).mono ?_
            rintro e w3 ⟨rfl, hb⟩
            have m1 := below_of hb n1
            have m2 := below_of hb n2
            have BO3 := Lib.hid (below_blk hb BO2.out)
            have BT3 := Lib.hid (below_blk hb BT2.out)
            have HB3 := Lib.hid (below_step HB2.out hb)
            clear hb n0 n1 n2 n3 n4 n5 n6 n7 n8 n9 n10 n11 BO2 BT2 HB2 BN2 KF
            by_cases hg : fb = true ∧ xa = (p : Int) ∧ xb = (m : Int)
            · obtain ⟨g0, g1, g2⟩ := hg
              obtain ⟨hij, hS⟩ := hc_good HC.out E g0 g1 g2
              have d1 : (xa != (p : Int)) = false := by simp [g1]
              have d2 : (xb != (m : Int)) = false := by simp [g2]
              have c0 := blk_cell BO3.out i _ (upto_here h)
              have f0 := blk_free BO3.out i
              have BO4 := set_blk (i := i) BO3.out (.int .i64 (1 + (sp + sm)))
              rw [upto_set h hS] at BO4
              have BO4 := Lib.hid BO4
              have BT4 := Lib.hid (set_other (c := w.heap.size + 1) (i := i) (v := .int .i64 (1 + (sp + sm))) BT3.out (by omega))
              have HB4 := Lib.hid (below_set (i := i) HB3.out (show w.heap.size ≤ w.heap.size + 1 by omega) (.int .i64 (1 + (sp + sm))))
              clear HC E BO3 BT3 HB3 hS hfx g1 g2
              subst g0
              go_wp2
              go_roundw
              case rel => exact ⟨i + 1, by omega, by simp, BO4, BT4, HB4⟩
              case measure => simp [intOf]; omega
            · obtain rfl := hc_bad HC.out E hg
              have hjn := h
              clear HC E hfx
              cases fb
              · go_wp2
                go_ret2
                exact ⟨by first | rfl | exact (if_pos h).mpr rfl, HB3.out⟩
              · by_cases g1 : xa = (p : Int)
                · have g2 : ¬ xb = (m : Int) := fun e => hg ⟨rfl, g1, e⟩
                  have d1 : (xa != (p : Int)) = false := by simp [g1]
                  have d2 : (xb != (m : Int)) = true := by simp [g2]
                  clear hg g1 g2
                  go_wp2
                  go_ret2
                  exact ⟨by first | rfl | exact (if_pos h).mpr rfl, HB3.out⟩
                · have d1 : (xa != (p : Int)) = true := by simp [g1]
                  clear hg g1
                  go_wp2
                  go_ret2
                  exact ⟨by first | rfl | exact (if_pos h).mpr rfl, HB3.out⟩
    · obtain rfl : i = n := by omega
      obtain rfl : i = j := by omega
      rw [upto_all] at PO
      have hi2 : ¬ ((i : Int) < (i : Int)) := by omega
      have hlt : ¬ (i < i) := Nat.lt_irrefl i
      have tb := blk_cell TO.out 0 (.slice A i c) rfl
      have HPO := Lib.hid PO.out
      clear PO TO HOK HBAD HJ HF
      rcases Nat.eq_zero_or_pos i with h0 | h0
      · subst h0
        go_wp2
        go_quiet (fail)
        go_wp2
        go_ret2
        exact ⟨⟨w.heap.size + 1, Nat.le_succ _, rfl, below_blk (below_drewN (Below.refl _ _) nq) HPO.out⟩, below_drewN HB.out nq⟩
      · obtain ⟨m, hm⟩ : ∃ m, i = m + 1 := ⟨i - 1, by omega⟩
        have hmi : (i : Int) - 1 = (m : Int) := by omega
        have hm2 : i - 1 = m := by omega
        have q1 := blk_cell HPO.out m _ (ic_at S i m (by omega))
        have hmn : (m : Int) < (i : Int) := by omega
        have gm : decide ((m : Int) ≥ 0) = true := by simp
        clear hm
        generalize hsm : S m = sm at *
        go_wp2
        go_quiet (fail)
        go_wp2
        go_ret2
        exact ⟨⟨w.heap.size + 1, Nat.le_succ _, rfl, below_blk (below_drewN (Below.refl _ _) nq) HPO.out⟩, below_drewN HB.out nq⟩
end Go.Proofs.YtaaihcojedibeaaGreatDoor.DSizes
end
section
/- show.ways: the table of kinds, as a map; and how a kind is looked up in it. -/
namespace Go.Proofs.YtaaihcojedibeaaGreatDoor.SWays
open Go.RowKit
set_option linter.unusedVariables false
set_option maxRecDepth 100000
def way (s : Array UInt8) (f : Nat) : Value := .agg #[.string ⟨s⟩, .func (.func f) #[] #[]]
def ents : List MapEntry := [⟨.int .i64 0, .agg #[.string ⟨#[40, 63, 58, 41]⟩, .func (.func 53) #[] #[]], 0⟩,
  ⟨.int .i64 2, .agg #[.string ⟨#[94]⟩, .func (.func 53) #[] #[]], 1⟩,
  ⟨.int .i64 3, .agg #[.string ⟨#[36]⟩, .func (.func 53) #[] #[]], 2⟩,
  ⟨.int .i64 4, .agg #[.string ⟨#[40, 63, 109, 58, 94, 41]⟩, .func (.func 53) #[] #[]], 3⟩,
  ⟨.int .i64 5, .agg #[.string ⟨#[40, 63, 109, 58, 36, 41]⟩, .func (.func 53) #[] #[]], 4⟩,
  ⟨.int .i64 6, .agg #[.string ⟨#[92, 98]⟩, .func (.func 53) #[] #[]], 5⟩,
  ⟨.int .i64 7, .agg #[.string ⟨#[92, 66]⟩, .func (.func 53) #[] #[]], 6⟩,
  ⟨.int .i64 11, .agg #[.string ⟨#[40]⟩, .func (.func 54) #[] #[]], 7⟩,
  ⟨.int .i64 13, .agg #[.string ⟨#[40, 63, 61]⟩, .func (.func 54) #[] #[]], 8⟩,
  ⟨.int .i64 14, .agg #[.string ⟨#[40, 63, 33]⟩, .func (.func 54) #[] #[]], 9⟩,
  ⟨.int .i64 15, .agg #[.string ⟨#[40, 63, 60, 61]⟩, .func (.func 54) #[] #[]], 10⟩,
  ⟨.int .i64 16, .agg #[.string ⟨#[40, 63, 60, 33]⟩, .func (.func 54) #[] #[]], 11⟩,
  ⟨.int .i64 17, .agg #[.string ⟨#[40, 63, 62]⟩, .func (.func 54) #[] #[]], 12⟩,
  ⟨.int .i64 1, .agg #[.string ⟨#[]⟩, .func (.func 55) #[] #[]], 13⟩,
  ⟨.int .i64 12, .agg #[.string ⟨#[]⟩, .func (.func 56) #[] #[]], 14⟩,
  ⟨.int .i64 8, .agg #[.string ⟨#[]⟩, .func (.func 58) #[] #[]], 15⟩,
  ⟨.int .i64 9, .agg #[.string ⟨#[]⟩, .func (.func 60) #[] #[]], 16⟩,
  ⟨.int .i64 10, .agg #[.string ⟨#[]⟩, .func (.func 61) #[] #[]], 17⟩]
/-- the world in which so many entries are in the map -/
def MW (w : World) (j : Nat) : World := w.alloc (.map (ents.take j).toArray j)
theorem ins_at (w : World) (j : Nat) (e : MapEntry) (k : Int) (hk : e.key = .int .i64 k) (hb : e.born = j) (he : ents.take (j + 1) = ents.take j ++ [e]) (hf : Instr.findNow (.int .i64) (.int .i64 k) (ents.take j) 0 = some none) :
    (Instr.mapUpdate 73 (.map (some w.heap.size)) (.int .i64 k) e.val).run Tryz.prog (MW w j) = .ok () (MW w (j + 1)) := by
  have hg : (MW w j).heap[w.heap.size]? = some (.map (ents.take j).toArray j) := by unfold MW; exact heap_alloc_new _ _
  have hm : Tryz.prog.underlying 73 = some (.map 3 72) := Tryz.underlying73
  have hi : Tryz.prog.underlying 3 = some (.int .i64) := Tryz.underlying3
  have hc : ∀ W, (Instr.checkKey false 10000 3 (.int .i64 k)).run Tryz.prog W = .ok () W := fun W => MapKept.run_checkKey (k := .int .i64 k) hi (by simp [MapKept.IsKey]) false 9999
  simp only [Instr.mapUpdate, Sem.run_bind, run_underlying hm, Result.andThen, MapKept.run_getObj_map hg, hc, MapKept.run_findKey hi (show Instr.findNow (.int .i64) (.int .i64 k) (ents.take j).toArray.toList 0 = some none from hf), MapKept.run_setObj_map _ hg]
  congr 1
  unfold MW
  rw [he]
  generalize ents.take j = xs
  obtain ⟨key, val, born⟩ := e
  simp only [] at hk hb
  subst hk hb
  unfold World.alloc
  simp only [World.mk.injEq, and_true]
  apply Array.ext_getElem?
  intro i
  rw [Array.getElem?_setIfInBounds, Array.getElem?_push, Array.getElem?_push]
  by_cases h : w.heap.size = i
  · subst h; simp
  · rw [if_neg h, if_neg (fun e => h e.symm), if_neg (fun e => h e.symm)]
set_option maxHeartbeats 6400000 in
theorem ways_calls (w : World) : Calls Tryz.prog 31 #[] w fun e w' => e = .returned (.map (some w.heap.size)) ∧ w'.heap[w.heap.size]? = some (.map ents.toArray 18) ∧ Below w.heap.size w w' := by
  have hmm : (Instr.makeMap 73 none).run Tryz.prog w = .ok (.map (some w.heap.size)) (MW w 0) := run_makeMap _ _
  have ke0 : (Instr.mapUpdate 73 (.map (some w.heap.size)) (.int .i64 0) (.agg #[.string ⟨#[40, 63, 58, 41]⟩, .func (.func 53) #[] #[]])).run Tryz.prog (MW w 0) = .ok () (MW w 1) := ins_at w 0 (⟨.int .i64 0, .agg #[.string ⟨#[40, 63, 58, 41]⟩, .func (.func 53) #[] #[]], 0⟩) 0 rfl rfl rfl rfl
  have ke1 : (Instr.mapUpdate 73 (.map (some w.heap.size)) (.int .i64 2) (.agg #[.string ⟨#[94]⟩, .func (.func 53) #[] #[]])).run Tryz.prog (MW w 1) = .ok () (MW w 2) := ins_at w 1 (⟨.int .i64 2, .agg #[.string ⟨#[94]⟩, .func (.func 53) #[] #[]], 1⟩) 2 rfl rfl rfl rfl
  have ke2 : (Instr.mapUpdate 73 (.map (some w.heap.size)) (.int .i64 3) (.agg #[.string ⟨#[36]⟩, .func (.func 53) #[] #[]])).run Tryz.prog (MW w 2) = .ok () (MW w 3) := ins_at w 2 (⟨.int .i64 3, .agg #[.string ⟨#[36]⟩, .func (.func 53) #[] #[]], 2⟩) 3 rfl rfl rfl rfl
  have ke3 : (Instr.mapUpdate 73 (.map (some w.heap.size)) (.int .i64 4) (.agg #[.string ⟨#[40, 63, 109, 58, 94, 41]⟩, .func (.func 53) #[] #[]])).run Tryz.prog (MW w 3) = .ok () (MW w 4) := ins_at w 3 (⟨.int .i64 4, .agg #[.string ⟨#[40, 63, 109, 58, 94, 41]⟩, .func (.func 53) #[] #[]], 3⟩) 4 rfl rfl rfl rfl
  have ke4 : (Instr.mapUpdate 73 (.map (some w.heap.size)) (.int .i64 5) (.agg #[.string ⟨#[40, 63, 109, 58, 36, 41]⟩, .func (.func 53) #[] #[]])).run Tryz.prog (MW w 4) = .ok () (MW w 5) := ins_at w 4 (⟨.int .i64 5, .agg #[.string ⟨#[40, 63, 109, 58, 36, 41]⟩, .func (.func 53) #[] #[]], 4⟩) 5 rfl rfl rfl rfl
  have ke5 : (Instr.mapUpdate 73 (.map (some w.heap.size)) (.int .i64 6) (.agg #[.string ⟨#[92, 98]⟩, .func (.func 53) #[] #[]])).run Tryz.prog (MW w 5) = .ok () (MW w 6) := ins_at w 5 (⟨.int .i64 6, .agg #[.string ⟨#[92, 98]⟩, .func (.func 53) #[] #[]], 5⟩) 6 rfl rfl rfl rfl
  have ke6 : (Instr.mapUpdate 73 (.map (some w.heap.size)) (.int .i64 7) (.agg #[.string ⟨#[92, 66]⟩, .func (.func 53) #[] #[]])).run Tryz.prog (MW w 6) = .ok () (MW w 7) := ins_at w 6 (⟨.int .i64 7, .agg #[.string ⟨#[92, 66]⟩, .func (.func 53) #[] #[]], 6⟩) 7 rfl rfl rfl rfl
  have ke7 : (Instr.mapUpdate 73 (.map (some w.heap.size)) (.int .i64 11) (.agg #[.string ⟨#[40]⟩, .func (.func 54) #[] #[]])).run Tryz.prog (MW w 7) = .ok () (MW w 8) := ins_at w 7 (⟨.int .i64 11, .agg #[.string ⟨#[40]⟩, .func (.func 54) #[] #[]], 7⟩) 11 rfl rfl rfl rfl
  have ke8 : (Instr.mapUpdate 73 (.map (some w.heap.size)) (.int .i64 13) (.agg #[.string ⟨#[40, 63, 61]⟩, .func (.func 54) #[] #[]])).run Tryz.prog (MW w 8) = .ok () (MW w 9) := ins_at w 8 (⟨.int .i64 13, .agg #[.string ⟨#[40, 63, 61]⟩, .func (.func 54) #[] #[]], 8⟩) 13 rfl rfl rfl rfl
  have ke9 : (Instr.mapUpdate 73 (.map (some w.heap.size)) (.int .i64 14) (.agg #[.string ⟨#[40, 63, 33]⟩, .func (.func 54) #[] #[]])).run Tryz.prog (MW w 9) = .ok () (MW w 10) := ins_at w 9 (⟨.int .i64 14, .agg #[.string ⟨#[40, 63, 33]⟩, .func (.func 54) #[] #[]], 9⟩) 14 rfl rfl rfl rfl
  have ke10 : (Instr.mapUpdate 73 (.map (some w.heap.size)) (.int .i64 15) (.agg #[.string ⟨#[40, 63, 60, 61]⟩, .func (.func 54) #[] #[]])).run Tryz.prog (MW w 10) = .ok () (MW w 11) := ins_at w 10 (⟨.int .i64 15, .agg #[.string ⟨#[40, 63, 60, 61]⟩, .func (.func 54) #[] #[]], 10⟩) 15 rfl rfl rfl rfl
  have ke11 : (Instr.mapUpdate 73 (.map (some w.heap.size)) (.int .i64 16) (.agg #[.string ⟨#[40, 63, 60, 33]⟩, .func (.func 54) #[] #[]])).run Tryz.prog (MW w 11) = .ok () (MW w 12) := ins_at w 11 (⟨.int .i64 16, .agg #[.string ⟨#[40, 63, 60, 33]⟩, .func (.func 54) #[] #[]], 11⟩) 16 rfl rfl rfl rfl
  have ke12 : (Instr.mapUpdate 73 (.map (some w.heap.size)) (.int .i64 17) (.agg #[.string ⟨#[40, 63, 62]⟩, .func (.func 54) #[] #[]])).run Tryz.prog (MW w 12) = .ok () (MW w 13) := ins_at w 12 (⟨.int .i64 17, .agg #[.string ⟨#[40, 63, 62]⟩, .func (.func 54) #[] #[]], 12⟩) 17 rfl rfl rfl rfl
  have ke13 : (Instr.mapUpdate 73 (.map (some w.heap.size)) (.int .i64 1) (.agg #[.string ⟨#[]⟩, .func (.func 55) #[] #[]])).run Tryz.prog (MW w 13) = .ok () (MW w 14) := ins_at w 13 (⟨.int .i64 1, .agg #[.string ⟨#[]⟩, .func (.func 55) #[] #[]], 13⟩) 1 rfl rfl rfl rfl
  have ke14 : (Instr.mapUpdate 73 (.map (some w.heap.size)) (.int .i64 12) (.agg #[.string ⟨#[]⟩, .func (.func 56) #[] #[]])).run Tryz.prog (MW w 14) = .ok () (MW w 15) := ins_at w 14 (⟨.int .i64 12, .agg #[.string ⟨#[]⟩, .func (.func 56) #[] #[]], 14⟩) 12 rfl rfl rfl rfl
  have ke15 : (Instr.mapUpdate 73 (.map (some w.heap.size)) (.int .i64 8) (.agg #[.string ⟨#[]⟩, .func (.func 58) #[] #[]])).run Tryz.prog (MW w 15) = .ok () (MW w 16) := ins_at w 15 (⟨.int .i64 8, .agg #[.string ⟨#[]⟩, .func (.func 58) #[] #[]], 15⟩) 8 rfl rfl rfl rfl
  have ke16 : (Instr.mapUpdate 73 (.map (some w.heap.size)) (.int .i64 9) (.agg #[.string ⟨#[]⟩, .func (.func 60) #[] #[]])).run Tryz.prog (MW w 16) = .ok () (MW w 17) := ins_at w 16 (⟨.int .i64 9, .agg #[.string ⟨#[]⟩, .func (.func 60) #[] #[]], 16⟩) 9 rfl rfl rfl rfl
  have ke17 : (Instr.mapUpdate 73 (.map (some w.heap.size)) (.int .i64 10) (.agg #[.string ⟨#[]⟩, .func (.func 61) #[] #[]])).run Tryz.prog (MW w 17) = .ok () (MW w 18) := ins_at w 17 (⟨.int .i64 10, .agg #[.string ⟨#[]⟩, .func (.func 61) #[] #[]], 17⟩) 10 rfl rfl rfl rfl
  have h18 : (MW w 18).heap[w.heap.size]? = some (.map ents.toArray 18) := by unfold MW; exact heap_alloc_new _ _
  have hb18 : Below w.heap.size w (MW w 18) := by unfold MW; exact (Below.refl w.heap.size w).alloc (Nat.le_refl _) _
  have H18 := Lib.hid h18
  have HB18 := Lib.hid hb18
  clear h18 hb18
  go_enter Tryz.func31, Tryz.ntmps31
  go_wp2
  go_ret
  exact ⟨rfl, H18.out, HB18.out⟩
theorem look_at {W : World} {g i : Nat} {k : Int} {v : Value} (hg : W.heap[g]? = some (.map ents.toArray 18)) (hf : Instr.findNow (.int .i64) (.int .i64 k) ents 0 = some (some (i, v))) :
    (Instr.lookup 73 (.map (some g)) (.int .i64 k) false).run Tryz.prog W = .ok v W := by
  have hm : Tryz.prog.underlying 73 = some (.map 3 72) := Tryz.underlying73
  have hi : Tryz.prog.underlying 3 = some (.int .i64) := Tryz.underlying3
  have hc : ∀ b W, (Instr.checkKey b 10000 3 (.int .i64 k)).run Tryz.prog W = .ok () W := fun b W => MapKept.run_checkKey (k := .int .i64 k) hi (by simp [MapKept.IsKey]) b 9999
  simp [Instr.lookup, Sem.run_bind, run_underlying hm, Result.andThen, MapKept.run_getObj_map hg, hc, MapKept.run_findKey hi hf]
theorem look_0 {W : World} {g : Nat} (hg : W.heap[g]? = some (.map ents.toArray 18)) : (Instr.lookup 73 (.map (some g)) (.int .i64 0) false).run Tryz.prog W = .ok (.agg #[.string ⟨#[40, 63, 58, 41]⟩, .func (.func 53) #[] #[]]) W := look_at (i := 0) hg rfl
theorem look_2 {W : World} {g : Nat} (hg : W.heap[g]? = some (.map ents.toArray 18)) : (Instr.lookup 73 (.map (some g)) (.int .i64 2) false).run Tryz.prog W = .ok (.agg #[.string ⟨#[94]⟩, .func (.func 53) #[] #[]]) W := look_at (i := 1) hg rfl
theorem look_3 {W : World} {g : Nat} (hg : W.heap[g]? = some (.map ents.toArray 18)) : (Instr.lookup 73 (.map (some g)) (.int .i64 3) false).run Tryz.prog W = .ok (.agg #[.string ⟨#[36]⟩, .func (.func 53) #[] #[]]) W := look_at (i := 2) hg rfl
theorem look_4 {W : World} {g : Nat} (hg : W.heap[g]? = some (.map ents.toArray 18)) : (Instr.lookup 73 (.map (some g)) (.int .i64 4) false).run Tryz.prog W = .ok (.agg #[.string ⟨#[40, 63, 109, 58, 94, 41]⟩, .func (.func 53) #[] #[]]) W := look_at (i := 3) hg rfl
theorem look_5 {W : World} {g : Nat} (hg : W.heap[g]? = some (.map ents.toArray 18)) : (Instr.lookup 73 (.map (some g)) (.int .i64 5) false).run Tryz.prog W = .ok (.agg #[.string ⟨#[40, 63, 109, 58, 36, 41]⟩, .func (.func 53) #[] #[]]) W := look_at (i := 4) hg rfl
theorem look_6 {W : World} {g : Nat} (hg : W.heap[g]? = some (.map ents.toArray 18)) : (Instr.lookup 73 (.map (some g)) (.int .i64 6) false).run Tryz.prog W = .ok (.agg #[.string ⟨#[92, 98]⟩, .func (.func 53) #[] #[]]) W := look_at (i := 5) hg rfl
theorem look_7 {W : World} {g : Nat} (hg : W.heap[g]? = some (.map ents.toArray 18)) : (Instr.lookup 73 (.map (some g)) (.int .i64 7) false).run Tryz.prog W = .ok (.agg #[.string ⟨#[92, 66]⟩, .func (.func 53) #[] #[]]) W := look_at (i := 6) hg rfl
theorem look_11 {W : World} {g : Nat} (hg : W.heap[g]? = some (.map ents.toArray 18)) : (Instr.lookup 73 (.map (some g)) (.int .i64 11) false).run Tryz.prog W = .ok (.agg #[.string ⟨#[40]⟩, .func (.func 54) #[] #[]]) W := look_at (i := 7) hg rfl
theorem look_13 {W : World} {g : Nat} (hg : W.heap[g]? = some (.map ents.toArray 18)) : (Instr.lookup 73 (.map (some g)) (.int .i64 13) false).run Tryz.prog W = .ok (.agg #[.string ⟨#[40, 63, 61]⟩, .func (.func 54) #[] #[]]) W := look_at (i := 8) hg rfl
theorem look_14 {W : World} {g : Nat} (hg : W.heap[g]? = some (.map ents.toArray 18)) : (Instr.lookup 73 (.map (some g)) (.int .i64 14) false).run Tryz.prog W = .ok (.agg #[.string ⟨#[40, 63, 33]⟩, .func (.func 54) #[] #[]]) W := look_at (i := 9) hg rfl
theorem look_15 {W : World} {g : Nat} (hg : W.heap[g]? = some (.map ents.toArray 18)) : (Instr.lookup 73 (.map (some g)) (.int .i64 15) false).run Tryz.prog W = .ok (.agg #[.string ⟨#[40, 63, 60, 61]⟩, .func (.func 54) #[] #[]]) W := look_at (i := 10) hg rfl
theorem look_16 {W : World} {g : Nat} (hg : W.heap[g]? = some (.map ents.toArray 18)) : (Instr.lookup 73 (.map (some g)) (.int .i64 16) false).run Tryz.prog W = .ok (.agg #[.string ⟨#[40, 63, 60, 33]⟩, .func (.func 54) #[] #[]]) W := look_at (i := 11) hg rfl
theorem look_17 {W : World} {g : Nat} (hg : W.heap[g]? = some (.map ents.toArray 18)) : (Instr.lookup 73 (.map (some g)) (.int .i64 17) false).run Tryz.prog W = .ok (.agg #[.string ⟨#[40, 63, 62]⟩, .func (.func 54) #[] #[]]) W := look_at (i := 12) hg rfl
theorem look_1 {W : World} {g : Nat} (hg : W.heap[g]? = some (.map ents.toArray 18)) : (Instr.lookup 73 (.map (some g)) (.int .i64 1) false).run Tryz.prog W = .ok (.agg #[.string ⟨#[]⟩, .func (.func 55) #[] #[]]) W := look_at (i := 13) hg rfl
theorem look_12 {W : World} {g : Nat} (hg : W.heap[g]? = some (.map ents.toArray 18)) : (Instr.lookup 73 (.map (some g)) (.int .i64 12) false).run Tryz.prog W = .ok (.agg #[.string ⟨#[]⟩, .func (.func 56) #[] #[]]) W := look_at (i := 14) hg rfl
theorem look_8 {W : World} {g : Nat} (hg : W.heap[g]? = some (.map ents.toArray 18)) : (Instr.lookup 73 (.map (some g)) (.int .i64 8) false).run Tryz.prog W = .ok (.agg #[.string ⟨#[]⟩, .func (.func 58) #[] #[]]) W := look_at (i := 15) hg rfl
theorem look_9 {W : World} {g : Nat} (hg : W.heap[g]? = some (.map ents.toArray 18)) : (Instr.lookup 73 (.map (some g)) (.int .i64 9) false).run Tryz.prog W = .ok (.agg #[.string ⟨#[]⟩, .func (.func 60) #[] #[]]) W := look_at (i := 16) hg rfl
theorem look_10 {W : World} {g : Nat} (hg : W.heap[g]? = some (.map ents.toArray 18)) : (Instr.lookup 73 (.map (some g)) (.int .i64 10) false).run Tryz.prog W = .ok (.agg #[.string ⟨#[]⟩, .func (.func 61) #[] #[]]) W := look_at (i := 17) hg rfl
end Go.Proofs.YtaaihcojedibeaaGreatDoor.SWays
end
section
/- clewref05.fits: its walk. -/
namespace Go.Proofs.YtaaihcojedibeaaGreatDoor.DRFits
open Go.RowKit CMem DRow Q Go.Proofs.YtaaihcojedibeaaGreatDoorW.PrintWords Go.Proofs.YtaaihcojedibeaaGreatDoorW.PrintLast Go.Proofs.YtaaihcojedibeaaGreatDoorW.PrintMore
set_option linter.unusedVariables false
set_option linter.unusedSimpArgs false
set_option maxRecDepth 100000
attribute [local go_sem high] eqA26
/-- may a node be, but for its children? -/
def rfit (k : Int) (s0 s1 s2 s3 mi ma mo n : Int) (fo : Bool) : Bool :=
  decide (0 ≤ k) && decide (k ≤ 17) && (k == 1 || (s0 == 0 && (s1 == 0 && (s2 == 0 && s3 == 0)))) && (k == 10 || (mi == 0 && ma == 0 && mo == 0)) && (k == 11 || k == 12 || n == 0) && (k == 12 || !fo) &&
  (k != 10 || (decide (0 ≤ mi) && decide (mi ≤ 100) && decide (ma ≤ 100) && (ma == -1 || decide (mi ≤ ma)) && decide (0 ≤ mo) && decide (mo ≤ 2)))
set_option maxHeartbeats 12800000 in
theorem rfits_walk (k xa xb s0 s1 s2 s3 mi ma mo n : Int) (fo : Bool) (w : World) :
    Calls Tryz.prog 87 #[.agg #[.int .i64 k, .int .i64 xa, .int .i64 xb, .int .u64 s0, .int .u64 s1, .int .u64 s2, .int .u64 s3, .int .i64 mi, .int .i64 ma, .int .i64 mo, .int .i64 n, .bool fo]] w fun e w' => e = .returned (.bool (rfit k s0 s1 s2 s3 mi ma mo n fo)) ∧ Below w.heap.size w w' := by
  go_enter Tryz.func87, Tryz.ntmps87
  go_wp2
  all_goals go_ret
  all_goals refine ⟨?_, by first | exact below1 _ _ | exact below2 _ _ _⟩
  all_goals first
    | rfl
    | (refine congrArg (fun b => Ending.returned (Value.bool b)) ?_; simp_all [rfit]; done)
    | (refine congrArg (fun b => Ending.returned (Value.bool b)) ?_; unfold rfit; simp_all; omega)
end Go.Proofs.YtaaihcojedibeaaGreatDoor.DRFits
end
section
/- ast.Node.own: its walk. -/
namespace Go.Proofs.YtaaihcojedibeaaGreatDoor.DOwn
open Go.RowKit CMem DRow Q Go.Proofs.YtaaihcojedibeaaGreatDoorW.PrintWords Go.Proofs.YtaaihcojedibeaaGreatDoorW.PrintLast Go.Proofs.YtaaihcojedibeaaGreatDoorW.PrintMore
set_option linter.unusedVariables false
set_option linter.unusedSimpArgs false
set_option maxRecDepth 100000
/-- what of a node its kind has -/
def owna (k s0 s1 s2 s3 mi ma mo n : Int) (fo : Bool) : Array Value :=
  if k = 1 then #[.int .i64 k, .int .i64 0, .int .i64 0, .int .u64 s0, .int .u64 s1, .int .u64 s2, .int .u64 s3, .int .i64 0, .int .i64 0, .int .i64 0, .int .i64 0, .bool false]
  else if k = 10 then #[.int .i64 k, .int .i64 0, .int .i64 0, .int .u64 0, .int .u64 0, .int .u64 0, .int .u64 0, .int .i64 mi, .int .i64 ma, .int .i64 mo, .int .i64 0, .bool false]
  else if k = 11 then #[.int .i64 k, .int .i64 0, .int .i64 0, .int .u64 0, .int .u64 0, .int .u64 0, .int .u64 0, .int .i64 0, .int .i64 0, .int .i64 0, .int .i64 n, .bool false]
  else if k = 12 then #[.int .i64 k, .int .i64 0, .int .i64 0, .int .u64 0, .int .u64 0, .int .u64 0, .int .u64 0, .int .i64 0, .int .i64 0, .int .i64 0, .int .i64 n, .bool fo]
  else #[.int .i64 k, .int .i64 0, .int .i64 0, .int .u64 0, .int .u64 0, .int .u64 0, .int .u64 0, .int .i64 0, .int .i64 0, .int .i64 0, .int .i64 0, .bool false]
set_option maxHeartbeats 12800000 in
theorem own_walk (k xa xb s0 s1 s2 s3 mi ma mo n : Int) (fo : Bool) (w : World) :
    Calls Tryz.prog 75 #[.agg #[.int .i64 k, .int .i64 xa, .int .i64 xb, .int .u64 s0, .int .u64 s1, .int .u64 s2, .int .u64 s3, .int .i64 mi, .int .i64 ma, .int .i64 mo, .int .i64 n, .bool fo]] w fun e w' => e = .returned (.agg (owna k s0 s1 s2 s3 mi ma mo n fo)) ∧ Below w.heap.size w w' := by
  go_enter Tryz.func75, Tryz.ntmps75
  by_cases h1 : k = 1
  · subst h1
    go_wp2
    refine bodyPost_ret (results_cell_row rfl _ _ (w.heap.size + 1) 49 #[.int .i64 1, .int .i64 0, .int .i64 0, .int .u64 s0, .int .u64 s1, .int .u64 s2, .int .u64 s3, .int .i64 0, .int .i64 0, .int .i64 0, .int .i64 0, .bool false] (0, 0) _ rfl (blk_alloc (blk2 w _ _ _) _) Tryz.underlying49 rfl (by kernel_rfl)) rfl ?_
    exact ⟨by simp [owna], below3 _ _ _ _⟩
  by_cases h11 : k = 11
  · subst h11
    go_wp2
    refine bodyPost_ret (results_cell_row rfl _ _ (w.heap.size + 1) 49 #[.int .i64 11, .int .i64 0, .int .i64 0, .int .u64 0, .int .u64 0, .int .u64 0, .int .u64 0, .int .i64 0, .int .i64 0, .int .i64 0, .int .i64 n, .bool false] (0, 0) _ rfl (blk_alloc (blk2 w _ _ _) _) Tryz.underlying49 rfl (by kernel_rfl)) rfl ?_
    exact ⟨by simp [owna], below3 _ _ _ _⟩
  by_cases h10 : k = 10
  · subst h10
    go_wp2
    go_region
    all_goals try go_wp2
    refine bodyPost_ret (results_cell_row rfl _ _ (w.heap.size + 1) 49 #[.int .i64 10, .int .i64 0, .int .i64 0, .int .u64 0, .int .u64 0, .int .u64 0, .int .u64 0, .int .i64 mi, .int .i64 ma, .int .i64 mo, .int .i64 0, .bool false] (0, 0) _ rfl (by with_reducible repeat (first | exact blk2 w _ _ _ | refine blk_drewN ?_ _ | refine blk_drew ?_ | refine blk_alloc ?_ _)) Tryz.underlying49 rfl (by kernel_rfl)) rfl ?_
    exact ⟨by simp [owna], by first | exact below3 _ _ _ _ | exact (below3 _ _ _ _).drew | exact below_drewN (below3 _ _ _ _) _⟩
  by_cases h12 : k = 12
  · subst h12
    go_wp2
    go_region
    all_goals try go_wp2
    refine bodyPost_ret (results_cell_row rfl _ _ (w.heap.size + 1) 49 #[.int .i64 12, .int .i64 0, .int .i64 0, .int .u64 0, .int .u64 0, .int .u64 0, .int .u64 0, .int .i64 0, .int .i64 0, .int .i64 0, .int .i64 n, .bool fo] (0, 0) _ rfl (by with_reducible repeat (first | exact blk2 w _ _ _ | refine blk_drewN ?_ _ | refine blk_drew ?_ | refine blk_alloc ?_ _)) Tryz.underlying49 rfl (by kernel_rfl)) rfl ?_
    exact ⟨by simp [owna], by first | exact below3 _ _ _ _ | exact (below3 _ _ _ _).drew | exact below_drewN (below3 _ _ _ _) _⟩
  go_wp2
  refine bodyPost_ret (results_cell_row rfl _ _ (w.heap.size + 1) 49 #[.int .i64 k, .int .i64 0, .int .i64 0, .int .u64 0, .int .u64 0, .int .u64 0, .int .u64 0, .int .i64 0, .int .i64 0, .int .i64 0, .int .i64 0, .bool false] (0, 0) _ rfl (blk_alloc (blk2 w _ _ _) _) Tryz.underlying49 rfl (by kernel_rfl)) rfl ?_
  exact ⟨by simp [owna, h1, h10, h11, h12], below3 _ _ _ _⟩
end Go.Proofs.YtaaihcojedibeaaGreatDoor.DOwn
end
section
/- ast.Node.fits: its walk; it says what the document says. -/
namespace Go.Proofs.YtaaihcojedibeaaGreatDoor.DFits
open Go.RowKit CMem DRow DRFits DSizes DOwn Q Go.Proofs.YtaaihcojedibeaaGreatDoorW.PrintWords Go.Proofs.YtaaihcojedibeaaGreatDoorW.PrintLast Go.Proofs.YtaaihcojedibeaaGreatDoorW.PrintMore
set_option linter.unusedVariables false
set_option linter.unusedSimpArgs false
set_option maxRecDepth 100000
abbrev t_ : Bool := true
abbrev f_ : Bool := false
theorem sa_ {α : Type} (l : List α) (i : Nat) (a : α) : l.toArray.setIfInBounds i a = (l.set i a).toArray := List.setIfInBounds_toArray _ _ _
theorem sz_ {α : Type} (x : α) (l : List α) (a : α) : (x :: l).set 0 a = a :: l := rfl
theorem ss_ {α : Type} (x : α) (l : List α) (i : Nat) (a : α) : (x :: l).set (i + 1) a = x :: l.set i a := rfl
theorem owna_eq (k s0 s1 s2 s3 mi ma mo n : Int) (fo : Bool) : owna k s0 s1 s2 s3 mi ma mo n fo = #[.int .i64 k, .int .i64 0, .int .i64 0, .int .u64 (if k = 1 then s0 else 0), .int .u64 (if k = 1 then s1 else 0), .int .u64 (if k = 1 then s2 else 0), .int .u64 (if k = 1 then s3 else 0), .int .i64 (if k = 10 then mi else 0), .int .i64 (if k = 10 then ma else 0), .int .i64 (if k = 10 then mo else 0), .int .i64 (if k = 11 ∨ k = 12 then n else 0), .bool (k == 12 && fo)] := by
  unfold owna
  by_cases h1 : k = 1
  · subst h1; rfl
  · by_cases h10 : k = 10
    · subst h10; rfl
    · by_cases h11 : k = 11
      · subst h11; rfl
      · by_cases h12 : k = 12
        · subst h12; cases fo <;> rfl
        · have e : (k == 12) = false := by simp [h12]
          simp only [if_neg h1, if_neg h10, if_neg h11, if_neg h12, if_neg (show ¬ (k = 11 ∨ k = 12) by omega), e, Bool.false_and]
theorem own_calls (k xa xb s0 s1 s2 s3 mi ma mo n : Int) (fo : Bool) (w : World) :
    Calls Tryz.prog 75 #[.agg #[.int .i64 k, .int .i64 xa, .int .i64 xb, .int .u64 s0, .int .u64 s1, .int .u64 s2, .int .u64 s3, .int .i64 mi, .int .i64 ma, .int .i64 mo, .int .i64 n, .bool fo]] w fun e w' => e = .returned (.agg #[.int .i64 k, .int .i64 0, .int .i64 0, .int .u64 (if k = 1 then s0 else 0), .int .u64 (if k = 1 then s1 else 0), .int .u64 (if k = 1 then s2 else 0), .int .u64 (if k = 1 then s3 else 0), .int .i64 (if k = 10 then mi else 0), .int .i64 (if k = 10 then ma else 0), .int .i64 (if k = 10 then mo else 0), .int .i64 (if k = 11 ∨ k = 12 then n else 0), .bool (k == 12 && fo)]) ∧ Below w.heap.size w w' := by
  have h := own_walk k xa xb s0 s1 s2 s3 mi ma mo n fo w
  rw [owna_eq] at h
  exact h
theorem bare_calls (k xa xb s0 s1 s2 s3 mi ma mo n : Int) (fo : Bool) (w : World) :
    Calls Tryz.prog 74 #[.agg #[.int .i64 k, .int .i64 xa, .int .i64 xb, .int .u64 s0, .int .u64 s1, .int .u64 s2, .int .u64 s3, .int .i64 mi, .int .i64 ma, .int .i64 mo, .int .i64 n, .bool fo]] w fun e w' => e = .returned (.agg #[.int .i64 0, .int .i64 0, .int .i64 0, .int .u64 s0, .int .u64 s1, .int .u64 s2, .int .u64 s3, .int .i64 mi, .int .i64 ma, .int .i64 mo, .int .i64 n, .bool fo]) ∧ Below w.heap.size w w' :=
  ast_Node_bare.calls k xa xb s0 s1 s2 s3 mi ma mo n fo _ _ _ _ _ _ _ _ _ _ _ _ w rfl
def tail10 (k mi ma mo : Int) : Bool := k != 10 || (decide (0 ≤ mi) && decide (mi ≤ 100) && decide (ma ≤ 100) && (ma == -1 || decide (mi ≤ ma)) && decide (0 ≤ mo) && decide (mo ≤ 2))
attribute [local go_sem high] eqA26 eqA28 eqA49 in
theorem neq_nodes (s0 s1 s2 s3 mi ma mo n t0 t1 t2 t3 t4 t5 t6 t7 : Int) (fo t8 : Bool) (W : World) : (binOp .neq 49 (.agg #[.int .i64 0, .int .i64 0, .int .i64 0, .int .u64 s0, .int .u64 s1, .int .u64 s2, .int .u64 s3, .int .i64 mi, .int .i64 ma, .int .i64 mo, .int .i64 n, .bool fo]) (.agg #[.int .i64 0, .int .i64 0, .int .i64 0, .int .u64 t0, .int .u64 t1, .int .u64 t2, .int .u64 t3, .int .i64 t4, .int .i64 t5, .int .i64 t6, .int .i64 t7, .bool t8])).run Tryz.prog W = .ok (.bool (!(s0 == t0 && (s1 == t1 && (s2 == t2 && s3 == t3)) && (mi == t4 && (ma == t5 && (mo == t6 && (n == t7 && fo == t8))))))) W := by
  go_simp
theorem rfit_eq (k s0 s1 s2 s3 mi ma mo n : Int) (fo : Bool) (h0 : ¬ k < 0) (h1 : ¬ 17 < k) : rfit k s0 s1 s2 s3 mi ma mo n fo =
    ((s0 == (if k = 1 then s0 else 0) && (s1 == (if k = 1 then s1 else 0) && (s2 == (if k = 1 then s2 else 0) && s3 == (if k = 1 then s3 else 0))) && (mi == (if k = 10 then mi else 0) && (ma == (if k = 10 then ma else 0) && (mo == (if k = 10 then mo else 0) && (n == (if k = 11 ∨ k = 12 then n else 0) && fo == (k == 12 && fo)))))) && tail10 k mi ma mo) := by
  have k0 : decide (0 ≤ k) = true := by simp; omega
  have k1 : decide (k ≤ 17) = true := by simp; omega
  unfold rfit
  rw [k0, k1]
  by_cases e1 : k = 1
  · subst e1
    simp [tail10, Bool.and_assoc]
  by_cases e10 : k = 10
  · subst e10
    simp [tail10, Bool.and_assoc]
  by_cases e11 : k = 11
  · subst e11
    simp [tail10, Bool.and_assoc]
  by_cases e12 : k = 12
  · subst e12
    simp [tail10, Bool.and_assoc]
  have b1 : (k == 1) = false := by simp [e1]
  have b10 : (k == 10) = false := by simp [e10]
  have b11 : (k == 11) = false := by simp [e11]
  have b12 : (k == 12) = false := by simp [e12]
  have b13 : (k != 10) = true := by simp [e10]
  cases fo <;> simp [tail10, Bool.and_assoc, e1, e10, e11, e12, b1, b10, b11, b12, b13]
set_option maxHeartbeats 12800000 in
attribute [-go_sem] Go.run_eql_struct Go.run_neq_struct in
theorem fits_walk (k xa xb s0 s1 s2 s3 mi ma mo n : Int) (fo : Bool) (w : World) :
    Calls Tryz.prog 67 #[.agg #[.int .i64 k, .int .i64 xa, .int .i64 xb, .int .u64 s0, .int .u64 s1, .int .u64 s2, .int .u64 s3, .int .i64 mi, .int .i64 ma, .int .i64 mo, .int .i64 n, .bool fo]] w fun e w' => e = .returned (.bool (rfit k s0 s1 s2 s3 mi ma mo n fo)) ∧ Below w.heap.size w w' := by
  have KO := Lib.hid (own_calls k xa xb s0 s1 s2 s3 mi ma mo n fo)
  have KB := Lib.hid (bare_calls k xa xb s0 s1 s2 s3 mi ma mo n fo)
  have KC := Lib.hid (bare_calls k 0 0 (if k = 1 then s0 else 0) (if k = 1 then s1 else 0) (if k = 1 then s2 else 0) (if k = 1 then s3 else 0) (if k = 10 then mi else 0) (if k = 10 then ma else 0) (if k = 10 then mo else 0) (if k = 11 ∨ k = 12 then n else 0) (k == 12 && fo))
  have EQ := neq_nodes s0 s1 s2 s3 mi ma mo n (if k = 1 then s0 else 0) (if k = 1 then s1 else 0) (if k = 1 then s2 else 0) (if k = 1 then s3 else 0) (if k = 10 then mi else 0) (if k = 10 then ma else 0) (if k = 10 then mo else 0) (if k = 11 ∨ k = 12 then n else 0) fo (k == 12 && fo)
  have HR := Lib.hid (rfit_eq k s0 s1 s2 s3 mi ma mo n fo)
  have HR0 : Hid (k < 0 → rfit k s0 s1 s2 s3 mi ma mo n fo = false) := Lib.hid (fun h => by unfold rfit; simp [show ¬ 0 ≤ k by omega])
  have HR1 : Hid (17 < k → rfit k s0 s1 s2 s3 mi ma mo n fo = false) := Lib.hid (fun h => by unfold rfit; simp [show ¬ k ≤ 17 by omega])
  generalize rfit k s0 s1 s2 s3 mi ma mo n fo = R at *
  generalize (s0 == (if k = 1 then s0 else 0) && (s1 == (if k = 1 then s1 else 0) && (s2 == (if k = 1 then s2 else 0) && s3 == (if k = 1 then s3 else 0))) && (mi == (if k = 10 then mi else 0) && (ma == (if k = 10 then ma else 0) && (mo == (if k = 10 then mo else 0) && (n == (if k = 11 ∨ k = 12 then n else 0) && fo == (k == 12 && fo)))))) = z at *
  generalize (if k = 1 then s0 else 0) = t0 at *
  generalize (if k = 1 then s1 else 0) = t1 at *
  generalize (if k = 1 then s2 else 0) = t2 at *
  generalize (if k = 1 then s3 else 0) = t3 at *
  generalize (if k = 10 then mi else 0) = t4 at *
  generalize (if k = 10 then ma else 0) = t5 at *
  generalize (if k = 10 then mo else 0) = t6 at *
  generalize (if k = 11 ∨ k = 12 then n else 0) = t7 at *
  generalize (k == 12 && fo) = t8 at *
  have BN := Lib.hid (heap_alloc_new w (.cells #[.int .i64 k, .int .i64 xa, .int .i64 xb, .int .u64 s0, .int .u64 s1, .int .u64 s2, .int .u64 s3, .int .i64 mi, .int .i64 ma, .int .i64 mo, .int .i64 n, .bool fo] 49))
  have HB := Lib.hid (below1 w (.cells #[.int .i64 k, .int .i64 xa, .int .i64 xb, .int .u64 s0, .int .u64 s1, .int .u64 s2, .int .u64 s3, .int .i64 mi, .int .i64 ma, .int .i64 mo, .int .i64 n, .bool fo] 49))
  have n0 := blk_cell BN.out 0 (.int .i64 k) rfl
  have n1 := blk_cell BN.out 1 (.int .i64 xa) rfl
  have n2 := blk_cell BN.out 2 (.int .i64 xb) rfl
  have n3 := blk_cell BN.out 3 (.int .u64 s0) rfl
  have n4 := blk_cell BN.out 4 (.int .u64 s1) rfl
  have n5 := blk_cell BN.out 5 (.int .u64 s2) rfl
  have n6 := blk_cell BN.out 6 (.int .u64 s3) rfl
  have n7 := blk_cell BN.out 7 (.int .i64 mi) rfl
  have n8 := blk_cell BN.out 8 (.int .i64 ma) rfl
  have n9 := blk_cell BN.out 9 (.int .i64 mo) rfl
  have n10 := blk_cell BN.out 10 (.int .i64 n) rfl
  have n11 := blk_cell BN.out 11 (.bool fo) rfl
  go_enter Tryz.func67, Tryz.ntmps67
  go_wp2
  generalize hW : w.alloc (.cells #[.int .i64 k, .int .i64 xa, .int .i64 xb, .int .u64 s0, .int .u64 s1, .int .u64 s2, .int .u64 s3, .int .i64 mi, .int .i64 ma, .int .i64 mo, .int .i64 n, .bool fo] 49) = v0 at *
  clear hW BN
  by_cases h0 : k < 0
  · have hd : decide (k < 0) = true := by simp [h0]
    obtain rfl := HR0.out h0
    clear HR HR0 HR1 h0
    refine start_ (n := 16) (S := fun w' => w'.cell? ⟨w.heap.size, 0, none⟩ = some (.int .i64 k) ∧ w'.cell? ⟨w.heap.size, 1, none⟩ = some (.int .i64 xa) ∧ w'.cell? ⟨w.heap.size, 2, none⟩ = some (.int .i64 xb) ∧ w'.cell? ⟨w.heap.size, 3, none⟩ = some (.int .u64 s0) ∧ w'.cell? ⟨w.heap.size, 4, none⟩ = some (.int .u64 s1) ∧ w'.cell? ⟨w.heap.size, 5, none⟩ = some (.int .u64 s2) ∧ w'.cell? ⟨w.heap.size, 6, none⟩ = some (.int .u64 s3) ∧ w'.cell? ⟨w.heap.size, 7, none⟩ = some (.int .i64 mi) ∧ w'.cell? ⟨w.heap.size, 8, none⟩ = some (.int .i64 ma) ∧ w'.cell? ⟨w.heap.size, 9, none⟩ = some (.int .i64 mo) ∧ w'.cell? ⟨w.heap.size, 10, none⟩ = some (.int .i64 n) ∧ w'.cell? ⟨w.heap.size, 11, none⟩ = some (.bool fo) ∧ Below w.heap.size w w') (ds := []) #[f_, f_, f_, f_, f_, f_, f_, f_, f_, f_, f_, f_, f_, f_, f_, f_] (by kernel_rfl) rfl rfl ⟨n0, n1, n2, n3, n4, n5, n6, n7, n8, n9, n10, n11, HB.out.drew⟩ (fun hHeld => ?_)
    refine pure_ (i := 0) (N := some 3) (v := ?_) (a' := ?_) #[t_, f_, f_, f_, f_, f_, f_, f_, f_, f_, f_, f_, f_, f_, f_, f_] rfl rfl (by kernel_rfl) (fun _ _ _ h => h) (Or.inl ⟨by rfl, ?_⟩) ?_ ?_
    rotate_left
    · intro w'
      go_simp
      with_reducible rfl
    rotate_left
    · simp only [Act.put, sa_, sz_, ss_, i64_w, i32_w]
      rfl
    refine take_ (i := 1) (N := some 4) (v := ?_) (a' := ?_) #[t_, t_, f_, f_, f_, f_, f_, f_, f_, f_, f_, f_, f_, f_, f_, f_] rfl rfl (by kernel_rfl) (fun _ _ _ h => h) (Or.inl ⟨by rfl, ?_⟩) hHeld ?_ ?_
    rotate_left
    · rintro w' ⟨s0, s1, s2, s3, s4, s5, s6, s7, s8, s9, s10, s11, s12⟩
      go_simp
      with_reducible rfl
    rotate_left
    · simp only [Act.put, sa_, sz_, ss_, i64_w, i32_w]
      rfl
    refine pure_ (i := 2) (N := some 5) (v := ?_) (a' := ?_) #[t_, t_, t_, f_, f_, f_, f_, f_, f_, f_, f_, f_, f_, f_, f_, f_] rfl rfl (by kernel_rfl) (fun _ _ _ h => h) (Or.inl ⟨by rfl, ?_⟩) ?_ ?_
    rotate_left
    · intro w'
      go_simp
      with_reducible rfl
    rotate_left
    · simp only [Act.put, sa_, sz_, ss_, i64_w, i32_w]
      rfl
    refine pure_ (i := 3) (N := some 6) (v := ?_) (a' := ?_) #[t_, t_, t_, t_, f_, f_, f_, f_, f_, f_, f_, f_, f_, f_, f_, f_] rfl rfl (by kernel_rfl) (fun _ _ _ h => h) (Or.inl ⟨by rfl, ?_⟩) ?_ ?_
    rotate_left
    · intro w'
      go_simp
      with_reducible rfl
    rotate_left
    · simp only [Act.put, sa_, sz_, ss_, i64_w, i32_w]
      rfl
    refine pure_ (i := 4) (N := some 7) (v := undef) (a' := ?_) #[t_, t_, t_, t_, t_, f_, f_, f_, f_, f_, f_, f_, f_, f_, f_, f_] rfl rfl (by kernel_rfl) (fun _ _ _ h => h) (Or.inr ⟨by rfl, rfl⟩) ?_ ?_
    rotate_left
    · simp only [Act.put, sa_, sz_, ss_, i64_w, i32_w]
      rfl
    refine pure_ (i := 5) (N := some 8) (v := undef) (a' := ?_) #[t_, t_, t_, t_, t_, t_, f_, f_, f_, f_, f_, f_, f_, f_, f_, f_] rfl rfl (by kernel_rfl) (fun _ _ _ h => h) (Or.inr ⟨by rfl, rfl⟩) ?_ ?_
    rotate_left
    · simp only [Act.put, sa_, sz_, ss_, i64_w, i32_w]
      rfl
    refine pure_ (i := 6) (N := some 9) (v := undef) (a' := ?_) #[t_, t_, t_, t_, t_, t_, t_, f_, f_, f_, f_, f_, f_, f_, f_, f_] rfl rfl (by kernel_rfl) (fun _ _ _ h => h) (Or.inr ⟨by rfl, rfl⟩) ?_ ?_
    rotate_left
    · simp only [Act.put, sa_, sz_, ss_, i64_w, i32_w]
      rfl
    refine pure_ (i := 7) (N := some 10) (v := ?_) (a' := ?_) #[t_, t_, t_, t_, t_, t_, t_, t_, f_, f_, f_, f_, f_, f_, f_, f_] rfl rfl (by kernel_rfl) (fun _ _ _ h => h) (Or.inl ⟨by rfl, ?_⟩) ?_ ?_
    rotate_left
    · intro w'
      go_simp
      with_reducible rfl
    rotate_left
    · simp only [Act.put, sa_, sz_, ss_, i64_w, i32_w]
      rfl
    refine pure_ (i := 8) (N := some 11) (v := ?_) (a' := ?_) #[t_, t_, t_, t_, t_, t_, t_, t_, t_, f_, f_, f_, f_, f_, f_, f_] rfl rfl (by kernel_rfl) (fun _ _ _ h => h) (Or.inl ⟨by rfl, ?_⟩) ?_ ?_
    rotate_left
    · intro w'
      go_simp
      with_reducible rfl
    rotate_left
    · simp only [Act.put, sa_, sz_, ss_, i64_w, i32_w]
      rfl
    refine pure_ (i := 9) (N := some 12) (v := undef) (a' := ?_) #[t_, t_, t_, t_, t_, t_, t_, t_, t_, t_, f_, f_, f_, f_, f_, f_] rfl rfl (by kernel_rfl) (fun _ _ _ h => h) (Or.inr ⟨by rfl, rfl⟩) ?_ ?_
    rotate_left
    · simp only [Act.put, sa_, sz_, ss_, i64_w, i32_w]
      rfl
    refine pure_ (i := 10) (N := some 13) (v := undef) (a' := ?_) #[t_, t_, t_, t_, t_, t_, t_, t_, t_, t_, t_, f_, f_, f_, f_, f_] rfl rfl (by kernel_rfl) (fun _ _ _ h => h) (Or.inr ⟨by rfl, rfl⟩) ?_ ?_
    rotate_left
    · simp only [Act.put, sa_, sz_, ss_, i64_w, i32_w]
      rfl
    refine pure_ (i := 11) (N := some 14) (v := undef) (a' := ?_) #[t_, t_, t_, t_, t_, t_, t_, t_, t_, t_, t_, t_, f_, f_, f_, f_] rfl rfl (by kernel_rfl) (fun _ _ _ h => h) (Or.inr ⟨by rfl, rfl⟩) ?_ ?_
    rotate_left
    · simp only [Act.put, sa_, sz_, ss_, i64_w, i32_w]
      rfl
    refine pure_ (i := 12) (N := some 15) (v := undef) (a' := ?_) #[t_, t_, t_, t_, t_, t_, t_, t_, t_, t_, t_, t_, t_, f_, f_, f_] rfl rfl (by kernel_rfl) (fun _ _ _ h => h) (Or.inr ⟨by rfl, rfl⟩) ?_ ?_
    rotate_left
    · simp only [Act.put, sa_, sz_, ss_, i64_w, i32_w]
      rfl
    refine pure_ (i := 13) (N := some 16) (v := undef) (a' := ?_) #[t_, t_, t_, t_, t_, t_, t_, t_, t_, t_, t_, t_, t_, t_, f_, f_] rfl rfl (by kernel_rfl) (fun _ _ _ h => h) (Or.inr ⟨by rfl, rfl⟩) ?_ ?_
    rotate_left
    · simp only [Act.put, sa_, sz_, ss_, i64_w, i32_w]
      rfl
    refine pure_ (i := 14) (N := some 17) (v := undef) (a' := ?_) #[t_, t_, t_, t_, t_, t_, t_, t_, t_, t_, t_, t_, t_, t_, t_, f_] rfl rfl (by kernel_rfl) (fun _ _ _ h => h) (Or.inr ⟨by rfl, rfl⟩) ?_ ?_
    rotate_left
    · simp only [Act.put, sa_, sz_, ss_, i64_w, i32_w]
      rfl
    refine pure_ (i := 15) (N := some 18) (v := ?_) (a' := ?_) #[t_, t_, t_, t_, t_, t_, t_, t_, t_, t_, t_, t_, t_, t_, t_, t_] rfl rfl (by kernel_rfl) (fun _ _ _ h => h) (Or.inl ⟨by rfl, ?_⟩) ?_ ?_
    rotate_left
    · intro w'
      go_simp
      with_reducible rfl
    rotate_left
    · simp only [Act.put, sa_, sz_, ss_, i64_w, i32_w]
      rfl
    refine done_ (by kernel_rfl) ?_
    have hb := hHeld.2.2.2.2.2.2.2.2.2.2.2.2
    go_wp2
    go_ret
    exact ⟨rfl, hb⟩
  have hd : decide (k < 0) = false := by simp [h0]
  by_cases h1 : 17 < k
  · have hd2 : decide (k ≥ 18) = true := by simp; omega
    obtain rfl := HR1.out h1
    clear HR HR0 HR1 h0 h1
    refine start_ (n := 16) (S := fun w' => w'.cell? ⟨w.heap.size, 0, none⟩ = some (.int .i64 k) ∧ w'.cell? ⟨w.heap.size, 1, none⟩ = some (.int .i64 xa) ∧ w'.cell? ⟨w.heap.size, 2, none⟩ = some (.int .i64 xb) ∧ w'.cell? ⟨w.heap.size, 3, none⟩ = some (.int .u64 s0) ∧ w'.cell? ⟨w.heap.size, 4, none⟩ = some (.int .u64 s1) ∧ w'.cell? ⟨w.heap.size, 5, none⟩ = some (.int .u64 s2) ∧ w'.cell? ⟨w.heap.size, 6, none⟩ = some (.int .u64 s3) ∧ w'.cell? ⟨w.heap.size, 7, none⟩ = some (.int .i64 mi) ∧ w'.cell? ⟨w.heap.size, 8, none⟩ = some (.int .i64 ma) ∧ w'.cell? ⟨w.heap.size, 9, none⟩ = some (.int .i64 mo) ∧ w'.cell? ⟨w.heap.size, 10, none⟩ = some (.int .i64 n) ∧ w'.cell? ⟨w.heap.size, 11, none⟩ = some (.bool fo) ∧ Below w.heap.size w w') (ds := []) #[f_, f_, f_, f_, f_, f_, f_, f_, f_, f_, f_, f_, f_, f_, f_, f_] (by kernel_rfl) rfl rfl ⟨n0, n1, n2, n3, n4, n5, n6, n7, n8, n9, n10, n11, HB.out.drew⟩ (fun hHeld => ?_)
    refine pure_ (i := 0) (N := some 3) (v := ?_) (a' := ?_) #[t_, f_, f_, f_, f_, f_, f_, f_, f_, f_, f_, f_, f_, f_, f_, f_] rfl rfl (by kernel_rfl) (fun _ _ _ h => h) (Or.inl ⟨by rfl, ?_⟩) ?_ ?_
    rotate_left
    · intro w'
      go_simp
      with_reducible rfl
    rotate_left
    · simp only [Act.put, sa_, sz_, ss_, i64_w, i32_w]
      rfl
    refine take_ (i := 1) (N := some 4) (v := ?_) (a' := ?_) #[t_, t_, f_, f_, f_, f_, f_, f_, f_, f_, f_, f_, f_, f_, f_, f_] rfl rfl (by kernel_rfl) (fun _ _ _ h => h) (Or.inl ⟨by rfl, ?_⟩) hHeld ?_ ?_
    rotate_left
    · rintro w' ⟨s0, s1, s2, s3, s4, s5, s6, s7, s8, s9, s10, s11, s12⟩
      go_simp
      with_reducible rfl
    rotate_left
    · simp only [Act.put, sa_, sz_, ss_, i64_w, i32_w]
      rfl
    refine pure_ (i := 2) (N := some 5) (v := ?_) (a' := ?_) #[t_, t_, t_, f_, f_, f_, f_, f_, f_, f_, f_, f_, f_, f_, f_, f_] rfl rfl (by kernel_rfl) (fun _ _ _ h => h) (Or.inl ⟨by rfl, ?_⟩) ?_ ?_
    rotate_left
    · intro w'
      go_simp
      with_reducible rfl
    rotate_left
    · simp only [Act.put, sa_, sz_, ss_, i64_w, i32_w]
      rfl
    refine pure_ (i := 3) (N := some 6) (v := ?_) (a' := ?_) #[t_, t_, t_, t_, f_, f_, f_, f_, f_, f_, f_, f_, f_, f_, f_, f_] rfl rfl (by kernel_rfl) (fun _ _ _ h => h) (Or.inl ⟨by rfl, ?_⟩) ?_ ?_
    rotate_left
    · intro w'
      go_simp
      with_reducible rfl
    rotate_left
    · simp only [Act.put, sa_, sz_, ss_, i64_w, i32_w]
      rfl
    refine pure_ (i := 4) (N := some 7) (v := ?_) (a' := ?_) #[t_, t_, t_, t_, t_, f_, f_, f_, f_, f_, f_, f_, f_, f_, f_, f_] rfl rfl (by kernel_rfl) (fun _ _ _ h => h) (Or.inl ⟨by rfl, ?_⟩) ?_ ?_
    rotate_left
    · intro w'
      go_simp
      with_reducible rfl
    rotate_left
    · simp only [Act.put, sa_, sz_, ss_, i64_w, i32_w]
      rfl
    refine take_ (i := 5) (N := some 8) (v := ?_) (a' := ?_) #[t_, t_, t_, t_, t_, t_, f_, f_, f_, f_, f_, f_, f_, f_, f_, f_] rfl rfl (by kernel_rfl) (fun _ _ _ h => h) (Or.inl ⟨by rfl, ?_⟩) hHeld ?_ ?_
    rotate_left
    · rintro w' ⟨s0, s1, s2, s3, s4, s5, s6, s7, s8, s9, s10, s11, s12⟩
      go_simp
      with_reducible rfl
    rotate_left
    · simp only [Act.put, sa_, sz_, ss_, i64_w, i32_w]
      rfl
    refine pure_ (i := 6) (N := some 9) (v := ?_) (a' := ?_) #[t_, t_, t_, t_, t_, t_, t_, f_, f_, f_, f_, f_, f_, f_, f_, f_] rfl rfl (by kernel_rfl) (fun _ _ _ h => h) (Or.inl ⟨by rfl, ?_⟩) ?_ ?_
    rotate_left
    · intro w'
      go_simp
      with_reducible rfl
    rotate_left
    · simp only [Act.put, sa_, sz_, ss_, i64_w, i32_w]
      rfl
    refine pure_ (i := 7) (N := some 10) (v := ?_) (a' := ?_) #[t_, t_, t_, t_, t_, t_, t_, t_, f_, f_, f_, f_, f_, f_, f_, f_] rfl rfl (by kernel_rfl) (fun _ _ _ h => h) (Or.inl ⟨by rfl, ?_⟩) ?_ ?_
    rotate_left
    · intro w'
      go_simp
      with_reducible rfl
    rotate_left
    · simp only [Act.put, sa_, sz_, ss_, i64_w, i32_w]
      rfl
    refine pure_ (i := 8) (N := some 11) (v := ?_) (a' := ?_) #[t_, t_, t_, t_, t_, t_, t_, t_, t_, f_, f_, f_, f_, f_, f_, f_] rfl rfl (by kernel_rfl) (fun _ _ _ h => h) (Or.inl ⟨by rfl, ?_⟩) ?_ ?_
    rotate_left
    · intro w'
      go_simp
      with_reducible rfl
    rotate_left
    · simp only [Act.put, sa_, sz_, ss_, i64_w, i32_w]
      rfl
    refine pure_ (i := 9) (N := some 12) (v := undef) (a' := ?_) #[t_, t_, t_, t_, t_, t_, t_, t_, t_, t_, f_, f_, f_, f_, f_, f_] rfl rfl (by kernel_rfl) (fun _ _ _ h => h) (Or.inr ⟨by rfl, rfl⟩) ?_ ?_
    rotate_left
    · simp only [Act.put, sa_, sz_, ss_, i64_w, i32_w]
      rfl
    refine pure_ (i := 10) (N := some 13) (v := undef) (a' := ?_) #[t_, t_, t_, t_, t_, t_, t_, t_, t_, t_, t_, f_, f_, f_, f_, f_] rfl rfl (by kernel_rfl) (fun _ _ _ h => h) (Or.inr ⟨by rfl, rfl⟩) ?_ ?_
    rotate_left
    · simp only [Act.put, sa_, sz_, ss_, i64_w, i32_w]
      rfl
    refine pure_ (i := 11) (N := some 14) (v := undef) (a' := ?_) #[t_, t_, t_, t_, t_, t_, t_, t_, t_, t_, t_, t_, f_, f_, f_, f_] rfl rfl (by kernel_rfl) (fun _ _ _ h => h) (Or.inr ⟨by rfl, rfl⟩) ?_ ?_
    rotate_left
    · simp only [Act.put, sa_, sz_, ss_, i64_w, i32_w]
      rfl
    refine pure_ (i := 12) (N := some 15) (v := undef) (a' := ?_) #[t_, t_, t_, t_, t_, t_, t_, t_, t_, t_, t_, t_, t_, f_, f_, f_] rfl rfl (by kernel_rfl) (fun _ _ _ h => h) (Or.inr ⟨by rfl, rfl⟩) ?_ ?_
    rotate_left
    · simp only [Act.put, sa_, sz_, ss_, i64_w, i32_w]
      rfl
    refine pure_ (i := 13) (N := some 16) (v := undef) (a' := ?_) #[t_, t_, t_, t_, t_, t_, t_, t_, t_, t_, t_, t_, t_, t_, f_, f_] rfl rfl (by kernel_rfl) (fun _ _ _ h => h) (Or.inr ⟨by rfl, rfl⟩) ?_ ?_
    rotate_left
    · simp only [Act.put, sa_, sz_, ss_, i64_w, i32_w]
      rfl
    refine pure_ (i := 14) (N := some 17) (v := undef) (a' := ?_) #[t_, t_, t_, t_, t_, t_, t_, t_, t_, t_, t_, t_, t_, t_, t_, f_] rfl rfl (by kernel_rfl) (fun _ _ _ h => h) (Or.inr ⟨by rfl, rfl⟩) ?_ ?_
    rotate_left
    · simp only [Act.put, sa_, sz_, ss_, i64_w, i32_w]
      rfl
    refine pure_ (i := 15) (N := some 18) (v := ?_) (a' := ?_) #[t_, t_, t_, t_, t_, t_, t_, t_, t_, t_, t_, t_, t_, t_, t_, t_] rfl rfl (by kernel_rfl) (fun _ _ _ h => h) (Or.inl ⟨by rfl, ?_⟩) ?_ ?_
    rotate_left
    · intro w'
      go_simp
      with_reducible rfl
    rotate_left
    · simp only [Act.put, sa_, sz_, ss_, i64_w, i32_w]
      rfl
    refine done_ (by kernel_rfl) ?_
    have hb := hHeld.2.2.2.2.2.2.2.2.2.2.2.2
    go_wp2
    go_ret
    exact ⟨rfl, hb⟩
  have hd2 : decide (k ≥ 18) = false := by simp; omega
  obtain rfl := HR.out (by omega) (by omega)
  clear HR HR0 HR1 h0 h1
  refine start_ (n := 16) (S := fun w' => w'.cell? ⟨w.heap.size, 0, none⟩ = some (.int .i64 k) ∧ w'.cell? ⟨w.heap.size, 1, none⟩ = some (.int .i64 xa) ∧ w'.cell? ⟨w.heap.size, 2, none⟩ = some (.int .i64 xb) ∧ w'.cell? ⟨w.heap.size, 3, none⟩ = some (.int .u64 s0) ∧ w'.cell? ⟨w.heap.size, 4, none⟩ = some (.int .u64 s1) ∧ w'.cell? ⟨w.heap.size, 5, none⟩ = some (.int .u64 s2) ∧ w'.cell? ⟨w.heap.size, 6, none⟩ = some (.int .u64 s3) ∧ w'.cell? ⟨w.heap.size, 7, none⟩ = some (.int .i64 mi) ∧ w'.cell? ⟨w.heap.size, 8, none⟩ = some (.int .i64 ma) ∧ w'.cell? ⟨w.heap.size, 9, none⟩ = some (.int .i64 mo) ∧ w'.cell? ⟨w.heap.size, 10, none⟩ = some (.int .i64 n) ∧ w'.cell? ⟨w.heap.size, 11, none⟩ = some (.bool fo) ∧ Below w.heap.size w w') (ds := []) #[f_, f_, f_, f_, f_, f_, f_, f_, f_, f_, f_, f_, f_, f_, f_, f_] (by kernel_rfl) rfl rfl ⟨n0, n1, n2, n3, n4, n5, n6, n7, n8, n9, n10, n11, HB.out.drew⟩ (fun hHeld => ?_)
  refine pure_ (i := 0) (N := some 3) (v := ?_) (a' := ?_) #[t_, f_, f_, f_, f_, f_, f_, f_, f_, f_, f_, f_, f_, f_, f_, f_] rfl rfl (by kernel_rfl) (fun _ _ _ h => h) (Or.inl ⟨by rfl, ?_⟩) ?_ ?_
  rotate_left
  · intro w'
    go_simp
    with_reducible rfl
  rotate_left
  · simp only [Act.put, sa_, sz_, ss_, i64_w, i32_w]
    rfl
  refine take_ (i := 1) (N := some 4) (v := ?_) (a' := ?_) #[t_, t_, f_, f_, f_, f_, f_, f_, f_, f_, f_, f_, f_, f_, f_, f_] rfl rfl (by kernel_rfl) (fun _ _ _ h => h) (Or.inl ⟨by rfl, ?_⟩) hHeld ?_ ?_
  rotate_left
  · rintro w' ⟨s0, s1, s2, s3, s4, s5, s6, s7, s8, s9, s10, s11, s12⟩
    go_simp
    with_reducible rfl
  rotate_left
  · simp only [Act.put, sa_, sz_, ss_, i64_w, i32_w]
    rfl
  refine pure_ (i := 2) (N := some 5) (v := ?_) (a' := ?_) #[t_, t_, t_, f_, f_, f_, f_, f_, f_, f_, f_, f_, f_, f_, f_, f_] rfl rfl (by kernel_rfl) (fun _ _ _ h => h) (Or.inl ⟨by rfl, ?_⟩) ?_ ?_
  rotate_left
  · intro w'
    go_simp
    with_reducible rfl
  rotate_left
  · simp only [Act.put, sa_, sz_, ss_, i64_w, i32_w]
    rfl
  refine pure_ (i := 3) (N := some 6) (v := ?_) (a' := ?_) #[t_, t_, t_, t_, f_, f_, f_, f_, f_, f_, f_, f_, f_, f_, f_, f_] rfl rfl (by kernel_rfl) (fun _ _ _ h => h) (Or.inl ⟨by rfl, ?_⟩) ?_ ?_
  rotate_left
  · intro w'
    go_simp
    with_reducible rfl
  rotate_left
  · simp only [Act.put, sa_, sz_, ss_, i64_w, i32_w]
    rfl
  refine pure_ (i := 4) (N := some 7) (v := ?_) (a' := ?_) #[t_, t_, t_, t_, t_, f_, f_, f_, f_, f_, f_, f_, f_, f_, f_, f_] rfl rfl (by kernel_rfl) (fun _ _ _ h => h) (Or.inl ⟨by rfl, ?_⟩) ?_ ?_
  rotate_left
  · intro w'
    go_simp
    with_reducible rfl
  rotate_left
  · simp only [Act.put, sa_, sz_, ss_, i64_w, i32_w]
    rfl
  refine take_ (i := 5) (N := some 8) (v := ?_) (a' := ?_) #[t_, t_, t_, t_, t_, t_, f_, f_, f_, f_, f_, f_, f_, f_, f_, f_] rfl rfl (by kernel_rfl) (fun _ _ _ h => h) (Or.inl ⟨by rfl, ?_⟩) hHeld ?_ ?_
  rotate_left
  · rintro w' ⟨s0, s1, s2, s3, s4, s5, s6, s7, s8, s9, s10, s11, s12⟩
    go_simp
    with_reducible rfl
  rotate_left
  · simp only [Act.put, sa_, sz_, ss_, i64_w, i32_w]
    rfl
  refine pure_ (i := 6) (N := some 9) (v := ?_) (a' := ?_) #[t_, t_, t_, t_, t_, t_, t_, f_, f_, f_, f_, f_, f_, f_, f_, f_] rfl rfl (by kernel_rfl) (fun _ _ _ h => h) (Or.inl ⟨by rfl, ?_⟩) ?_ ?_
  rotate_left
  · intro w'
    go_simp
    with_reducible rfl
  rotate_left
  · simp only [Act.put, sa_, sz_, ss_, i64_w, i32_w]
    rfl
  refine pure_ (i := 7) (N := some 10) (v := ?_) (a' := ?_) #[t_, t_, t_, t_, t_, t_, t_, t_, f_, f_, f_, f_, f_, f_, f_, f_] rfl rfl (by kernel_rfl) (fun _ _ _ h => h) (Or.inl ⟨by rfl, ?_⟩) ?_ ?_
  rotate_left
  · intro w'
    go_simp
    with_reducible rfl
  rotate_left
  · simp only [Act.put, sa_, sz_, ss_, i64_w, i32_w]
    rfl
  refine pure_ (i := 8) (N := some 11) (v := ?_) (a' := ?_) #[t_, t_, t_, t_, t_, t_, t_, t_, t_, f_, f_, f_, f_, f_, f_, f_] rfl rfl (by kernel_rfl) (fun _ _ _ h => h) (Or.inl ⟨by rfl, ?_⟩) ?_ ?_
  rotate_left
  · intro w'
    go_simp
    with_reducible rfl
  rotate_left
  · simp only [Act.put, sa_, sz_, ss_, i64_w, i32_w]
    rfl
  refine take_ (i := 9) (N := some 12) (v := ?_) (a' := ?_) #[t_, t_, t_, t_, t_, t_, t_, t_, t_, t_, f_, f_, f_, f_, f_, f_] rfl rfl (by kernel_rfl) (fun _ _ _ h => h) (Or.inl ⟨by rfl, ?_⟩) hHeld ?_ ?_
  rotate_left
  · rintro w' ⟨s0, s1, s2, s3, s4, s5, s6, s7, s8, s9, s10, s11, s12⟩
    go_simp
    with_reducible rfl
  rotate_left
  · simp only [Act.put, sa_, sz_, ss_, i64_w, i32_w]
    rfl
  refine take_ (i := 11) (N := some 14) (v := ?_) (a' := ?_) #[t_, t_, t_, t_, t_, t_, t_, t_, t_, t_, f_, t_, f_, f_, f_, f_] rfl rfl (by kernel_rfl) (fun _ _ _ h => h) (Or.inl ⟨by rfl, ?_⟩) hHeld ?_ ?_
  rotate_left
  · rintro w' ⟨s0, s1, s2, s3, s4, s5, s6, s7, s8, s9, s10, s11, s12⟩
    go_simp
    with_reducible rfl
  rotate_left
  · simp only [Act.put, sa_, sz_, ss_, i64_w, i32_w]
    rfl
  refine one_ (i := 10) (N := some 13) #[t_, t_, t_, t_, t_, t_, t_, t_, t_, t_, t_, t_, f_, f_, f_, f_] rfl rfl (by kernel_rfl) (by decide) (fun K hK => ?_)
  refine goes_ Tryz.func74 (by kernel_rfl) rfl #[.agg #[.int .i64 k, .int .i64 xa, .int .i64 xb, .int .u64 s0, .int .u64 s1, .int .u64 s2, .int .u64 s3, .int .i64 mi, .int .i64 ma, .int .i64 mo, .int .i64 n, .bool fo]] (by rfl) rfl rfl (by simp only [List.map_toArray, List.map_cons, List.map_nil]; rfl) ?_
  with_reducible refine (KB.out _).mono ?_
  rintro e X1 ⟨rfl, hb⟩
  refine ⟨_, rfl, ?_⟩
  refine hK.out _ _ ⟨(below_of hb hHeld.1), (below_of hb hHeld.2.1), (below_of hb hHeld.2.2.1), (below_of hb hHeld.2.2.2.1), (below_of hb hHeld.2.2.2.2.1), (below_of hb hHeld.2.2.2.2.2.1), (below_of hb hHeld.2.2.2.2.2.2.1), (below_of hb hHeld.2.2.2.2.2.2.2.1), (below_of hb hHeld.2.2.2.2.2.2.2.2.1), (below_of hb hHeld.2.2.2.2.2.2.2.2.2.1), (below_of hb hHeld.2.2.2.2.2.2.2.2.2.2.1), (below_of hb hHeld.2.2.2.2.2.2.2.2.2.2.2.1), (below_step hHeld.2.2.2.2.2.2.2.2.2.2.2.2 hb)⟩ (fun hHeld => ?_)
  clear hK K
  refine norm_ (a' := ?_) ?_ ?_
  rotate_left
  · show Act.put _ (some 13) _ = _
    simp only [Act.put, sa_, sz_, ss_, i64_w, i32_w]
    rfl
  refine one_ (i := 12) (N := some 15) #[t_, t_, t_, t_, t_, t_, t_, t_, t_, t_, t_, t_, t_, f_, f_, f_] rfl rfl (by kernel_rfl) (by decide) (fun K hK => ?_)
  refine goes_ Tryz.func75 (by kernel_rfl) rfl #[.agg #[.int .i64 k, .int .i64 xa, .int .i64 xb, .int .u64 s0, .int .u64 s1, .int .u64 s2, .int .u64 s3, .int .i64 mi, .int .i64 ma, .int .i64 mo, .int .i64 n, .bool fo]] (by rfl) rfl rfl (by simp only [List.map_toArray, List.map_cons, List.map_nil]; rfl) ?_
  with_reducible refine (KO.out _).mono ?_
  rintro e X2 ⟨rfl, hb⟩
  refine ⟨_, rfl, ?_⟩
  refine hK.out _ _ ⟨(below_of hb hHeld.1), (below_of hb hHeld.2.1), (below_of hb hHeld.2.2.1), (below_of hb hHeld.2.2.2.1), (below_of hb hHeld.2.2.2.2.1), (below_of hb hHeld.2.2.2.2.2.1), (below_of hb hHeld.2.2.2.2.2.2.1), (below_of hb hHeld.2.2.2.2.2.2.2.1), (below_of hb hHeld.2.2.2.2.2.2.2.2.1), (below_of hb hHeld.2.2.2.2.2.2.2.2.2.1), (below_of hb hHeld.2.2.2.2.2.2.2.2.2.2.1), (below_of hb hHeld.2.2.2.2.2.2.2.2.2.2.2.1), (below_step hHeld.2.2.2.2.2.2.2.2.2.2.2.2 hb)⟩ (fun hHeld => ?_)
  clear hK K
  refine norm_ (a' := ?_) ?_ ?_
  rotate_left
  · show Act.put _ (some 15) _ = _
    simp only [Act.put, sa_, sz_, ss_, i64_w, i32_w]
    rfl
  refine one_ (i := 13) (N := some 16) #[t_, t_, t_, t_, t_, t_, t_, t_, t_, t_, t_, t_, t_, t_, f_, f_] rfl rfl (by kernel_rfl) (by decide) (fun K hK => ?_)
  refine goes_ Tryz.func74 (by kernel_rfl) rfl #[.agg #[.int .i64 k, .int .i64 0, .int .i64 0, .int .u64 t0, .int .u64 t1, .int .u64 t2, .int .u64 t3, .int .i64 t4, .int .i64 t5, .int .i64 t6, .int .i64 t7, .bool t8]] (by rfl) rfl rfl (by simp only [List.map_toArray, List.map_cons, List.map_nil]; rfl) ?_
  with_reducible refine (KC.out _).mono ?_
  rintro e X3 ⟨rfl, hb⟩
  refine ⟨_, rfl, ?_⟩
  refine hK.out _ _ ⟨(below_of hb hHeld.1), (below_of hb hHeld.2.1), (below_of hb hHeld.2.2.1), (below_of hb hHeld.2.2.2.1), (below_of hb hHeld.2.2.2.2.1), (below_of hb hHeld.2.2.2.2.2.1), (below_of hb hHeld.2.2.2.2.2.2.1), (below_of hb hHeld.2.2.2.2.2.2.2.1), (below_of hb hHeld.2.2.2.2.2.2.2.2.1), (below_of hb hHeld.2.2.2.2.2.2.2.2.2.1), (below_of hb hHeld.2.2.2.2.2.2.2.2.2.2.1), (below_of hb hHeld.2.2.2.2.2.2.2.2.2.2.2.1), (below_step hHeld.2.2.2.2.2.2.2.2.2.2.2.2 hb)⟩ (fun hHeld => ?_)
  clear hK K
  refine norm_ (a' := ?_) ?_ ?_
  rotate_left
  · show Act.put _ (some 16) _ = _
    simp only [Act.put, sa_, sz_, ss_, i64_w, i32_w]
    rfl
  refine pure_ (i := 14) (N := some 17) (v := ?_) (a' := ?_) #[t_, t_, t_, t_, t_, t_, t_, t_, t_, t_, t_, t_, t_, t_, t_, f_] rfl rfl (by kernel_rfl) (fun _ _ _ h => h) (Or.inl ⟨by rfl, ?_⟩) ?_ ?_
  rotate_left
  · intro w'
    go_simp
    with_reducible rfl
  rotate_left
  · simp only [Act.put, sa_, sz_, ss_, i64_w, i32_w]
    rfl
  refine pure_ (i := 15) (N := some 18) (v := ?_) (a' := ?_) #[t_, t_, t_, t_, t_, t_, t_, t_, t_, t_, t_, t_, t_, t_, t_, t_] rfl rfl (by kernel_rfl) (fun _ _ _ h => h) (Or.inl ⟨by rfl, ?_⟩) ?_ ?_
  rotate_left
  · intro w'
    go_simp
    with_reducible rfl
  rotate_left
  · simp only [Act.put, sa_, sz_, ss_, i64_w, i32_w]
    rfl
  refine done_ (by kernel_rfl) ?_
  obtain ⟨n0, n1, n2, n3, n4, n5, n6, n7, n8, n9, n10, n11, hb⟩ := hHeld
  have hb := Lib.hid hb
  clear EQ KO KB KC
  cases z
  · go_wp2
    go_ret
    exact ⟨rfl, hb.out⟩
  by_cases h10 : k = 10
  · subst h10
    go_wp2
    all_goals go_ret
    all_goals refine ⟨?_, by first | exact hb.out | exact hb.out.drew⟩
    all_goals first
      | rfl
      | (refine congrArg (fun b => Ending.returned (Value.bool b)) ?_; simp_all [tail10]; done)
      | (refine congrArg (fun b => Ending.returned (Value.bool b)) ?_; unfold tail10; simp_all; omega)
  · have hk : (k != 10) = true := by simp [h10]
    have ht : tail10 k mi ma mo = true := by unfold tail10; rw [hk]; rfl
    go_wp2
    go_ret
    exact ⟨by rw [ht]; rfl, hb.out⟩
/-- may a node be -/
def fit (x : S49) : Bool := rfit x.f0 x.f3.f0.f0 x.f3.f0.f1 x.f3.f0.f2 x.f3.f0.f3 x.f4 x.f5 x.f6 x.f7 x.f8
theorem fits_calls (x : S49) (w : World) : Calls Tryz.prog 67 #[.agg (nc x)] w fun e w' => e = .returned (.bool (fit x)) ∧ Below w.heap.size w w' :=
  fits_walk _ _ _ _ _ _ _ _ _ _ _ _ w
end Go.Proofs.YtaaihcojedibeaaGreatDoor.DFits
end
section
/- ast.lens: its walk. -/
namespace Go.Proofs.YtaaihcojedibeaaGreatDoor.DLens
open Go.RowKit CMem DRow DDeep Q Go.Proofs.YtaaihcojedibeaaGreatDoorW.PrintWords Go.Proofs.YtaaihcojedibeaaGreatDoorW.PrintLast Go.Proofs.YtaaihcojedibeaaGreatDoorW.PrintMore
set_option linter.unusedVariables false
set_option linter.unusedSimpArgs false
set_option maxRecDepth 100000
abbrev t_ : Bool := true
abbrev f_ : Bool := false
theorem sa_ {α : Type} (l : List α) (i : Nat) (a : α) : l.toArray.setIfInBounds i a = (l.set i a).toArray := List.setIfInBounds_toArray _ _ _
theorem sz_ {α : Type} (x : α) (l : List α) (a : α) : (x :: l).set 0 a = a :: l := rfl
theorem ss_ {α : Type} (x : α) (l : List α) (i : Nat) (a : α) : (x :: l).set (i + 1) a = x :: l.set i a := rfl
/-- a sum, a product of numbers of bytes: -1 is without end -/
def pl (a b : Int) : Int := if a = -1 then -1 else if b = -1 then -1 else min (a + b) 1048576
def tm (a b : Int) : Int := if a = 0 ∨ b = 0 then 0 else if a = -1 then -1 else if b = -1 then -1 else min (a * b) 1048576
def bnd (a : Int) : Prop := -1 ≤ a ∧ a ≤ 1048576
theorem plus_calls (a b : Int) (ha : bnd a) (hb : bnd b) (w : World) : Calls Tryz.prog 51 #[.int .i64 a, .int .i64 b] w fun e w' => e = .returned (.int .i64 (pl a b)) ∧ Below w.heap.size w w' := by
  refine ast_plus.calls a b (pl a b) w ?_
  unfold ast_plus.f pl
  obtain ⟨h1, h2⟩ := ha
  obtain ⟨h3, h4⟩ := hb
  split
  · rfl
  · split
    · rfl
    · congr 1
      unfold mn wrap64
      omega
theorem tm_rng {a b : Int} (ha : bnd a) (hb : -1 ≤ b ∧ b ≤ 100) (h1 : a ≠ -1) (h2 : b ≠ -1) : 0 ≤ a * b ∧ a * b ≤ 104857600 := by
  obtain ⟨x1, x2⟩ := ha
  have ha0 : 0 ≤ a := by omega
  have hb0 : 0 ≤ b := by omega
  refine ⟨Int.mul_nonneg ha0 hb0, ?_⟩
  have := Int.mul_le_mul x2 hb.2 hb0 (by decide)
  omega
theorem times_calls (a b : Int) (ha : bnd a) (hb : -1 ≤ b ∧ b ≤ 100) (w : World) : Calls Tryz.prog 52 #[.int .i64 a, .int .i64 b] w fun e w' => e = .returned (.int .i64 (tm a b)) ∧ Below w.heap.size w w' := by
  refine ast_times.calls 2 a b (tm a b) w ?_
  unfold tm
  simp only [ast_times.f, ast_times.j0]
  by_cases h0 : a = 0
  · simp [h0]
  · by_cases h1 : b = 0
    · simp [h0, h1]
    · by_cases h2 : a = -1
      · simp [h1, h2]
      · by_cases h3 : b = -1
        · simp [h0, h2, h3]
        · simp only [h0, h1, h2, h3, if_false, or_self]
          have hr := tm_rng ha hb h2 h3
          have hE : mn (wrap64 (a * b)) 1048576 = min (a * b) 1048576 := by
            generalize a * b = q at *
            unfold mn wrap64
            omega
          simp [h1, hE]
theorem pl_bnd {a b : Int} (ha : bnd a) (hb : bnd b) : bnd (pl a b) := by unfold pl bnd at *; split <;> (try split) <;> omega
theorem tm_bnd {a b : Int} (ha : bnd a) (hb : -1 ≤ b ∧ b ≤ 100) : bnd (tm a b) := by
  unfold tm
  split
  · unfold bnd; omega
  · split
    · unfold bnd; omega
    · rename_i h2
      split
      · unfold bnd; omega
      · rename_i h3
        have hr := tm_rng ha hb h2 h3
        unfold bnd
        omega
/-- a child's place -/
def isKid (a : Int) (i : Nat) : Prop := 0 ≤ a ∧ a < i
/-- the rows of lengths: as each node's children have them -/
def lOk (L : List S49) (LO HI : Nat → Int) (i : Nat) : Prop :=
  ((rd_T49 L i).f0 = 1 ∧ LO i = 1 ∧ HI i = 1) ∨
  ((rd_T49 L i).f0 = 12 ∧ LO i = 0 ∧ HI i = -1) ∨
  ((rd_T49 L i).f0 = 8 ∧ isKid (rd_T49 L i).f1 i ∧ isKid (rd_T49 L i).f2 i ∧ LO i = pl (LO (rd_T49 L i).f1.toNat) (LO (rd_T49 L i).f2.toNat) ∧ HI i = pl (HI (rd_T49 L i).f1.toNat) (HI (rd_T49 L i).f2.toNat)) ∨
  ((rd_T49 L i).f0 = 9 ∧ isKid (rd_T49 L i).f1 i ∧ isKid (rd_T49 L i).f2 i ∧ LO i = min (LO (rd_T49 L i).f1.toNat) (LO (rd_T49 L i).f2.toNat) ∧ HI i = if min (HI (rd_T49 L i).f1.toNat) (HI (rd_T49 L i).f2.toNat) = -1 then -1 else max (HI (rd_T49 L i).f1.toNat) (HI (rd_T49 L i).f2.toNat)) ∨
  ((rd_T49 L i).f0 = 10 ∧ isKid (rd_T49 L i).f1 i ∧ (-1 ≤ (rd_T49 L i).f4 ∧ (rd_T49 L i).f4 ≤ 100) ∧ (-1 ≤ (rd_T49 L i).f5 ∧ (rd_T49 L i).f5 ≤ 100) ∧ LO i = tm (LO (rd_T49 L i).f1.toNat) (rd_T49 L i).f4 ∧ HI i = tm (HI (rd_T49 L i).f1.toNat) (rd_T49 L i).f5) ∨
  (((rd_T49 L i).f0 = 11 ∨ (rd_T49 L i).f0 = 17) ∧ isKid (rd_T49 L i).f1 i ∧ LO i = LO (rd_T49 L i).f1.toNat ∧ HI i = HI (rd_T49 L i).f1.toNat) ∨
  ((rd_T49 L i).f0 ≠ 1 ∧ (rd_T49 L i).f0 ≠ 12 ∧ (rd_T49 L i).f0 ≠ 8 ∧ (rd_T49 L i).f0 ≠ 9 ∧ (rd_T49 L i).f0 ≠ 10 ∧ (rd_T49 L i).f0 ≠ 11 ∧ (rd_T49 L i).f0 ≠ 17 ∧ LO i = 0 ∧ HI i = 0)
theorem upto_skip {D : Nat → Int} {n i : Nat} (h : D i = 0) : ic (upto D i) n = ic (upto D (i + 1)) n := by
  refine ic_ext fun j _ => ?_
  unfold upto
  by_cases h1 : j < i
  · rw [if_pos h1, if_pos (by omega)]
  · rw [if_neg h1]
    by_cases h2 : j = i
    · subst h2; rw [if_pos (by omega), h]
    · rw [if_neg (by omega)]
theorem two_sets {V : World} {p q i n : Nat} {LO HI : Nat → Int} (hp : V.heap[p]? = some (.cells (ic (upto LO i) n) 3 (0, 0))) (hq : V.heap[q]? = some (.cells (ic (upto HI i) n) 3 (0, 0))) (hne : p ≠ q) (h : i < n) {x y : Int} (ex : LO i = x) (ey : HI i = y) :
    V.cell? ⟨p, i, none⟩ = some (.int .i64 0) ∧ V.frozen? ⟨p, i, none⟩ = false ∧ (V.setCell ⟨p, i, none⟩ (.int .i64 x)).cell? ⟨q, i, none⟩ = some (.int .i64 0) ∧ (V.setCell ⟨p, i, none⟩ (.int .i64 x)).frozen? ⟨q, i, none⟩ = false ∧
    ((V.setCell ⟨p, i, none⟩ (.int .i64 x)).setCell ⟨q, i, none⟩ (.int .i64 y)).heap[p]? = some (.cells (ic (upto LO (i + 1)) n) 3 (0, 0)) ∧ ((V.setCell ⟨p, i, none⟩ (.int .i64 x)).setCell ⟨q, i, none⟩ (.int .i64 y)).heap[q]? = some (.cells (ic (upto HI (i + 1)) n) 3 (0, 0)) := by
  have P1 := set_blk (i := i) hp (.int .i64 x)
  rw [upto_set h ex] at P1
  have Q1 := set_other (i := i) (v := .int .i64 x) hq (fun e => hne e.symm)
  have Q2 := set_blk (i := i) Q1 (.int .i64 y)
  rw [upto_set h ey] at Q2
  exact ⟨blk_cell hp i _ (upto_here h), blk_free hp i, blk_cell Q1 i _ (upto_here h), blk_free Q1 i, set_other (i := i) (v := .int .i64 y) P1 hne, Q2⟩
set_option maxHeartbeats 12800000 in
theorem lens_walk (A : Option Addr) (c : Nat) (L : List S49) (n : Nat) (hn : L.length = n) (hn2 : n ≤ 1000) (LO HI : Nat → Int) (hD : ∀ i, i < n → lOk L LO HI i) (hB : ∀ i, i < n → bnd (LO i) ∧ bnd (HI i)) (w : World) (hr : Kd.C k49 w A n L) :
    Calls Tryz.prog 30 #[.agg #[.slice A n c]] w fun e w' => (∃ p q, p ≠ q ∧ e = .returned (.tuple #[.slice (some ⟨p, 0, none⟩) n n, .slice (some ⟨q, 0, none⟩) n n]) ∧ w.heap.size ≤ p ∧ w.heap.size ≤ q ∧ w'.heap[p]? = some (.cells (ic LO n) 3 (0, 0)) ∧ w'.heap[q]? = some (.cells (ic HI n) 3 (0, 0))) ∧ Below w.heap.size w w' := by
  have mk := make_ints n hn2
  have TB := blk_cell (heap_alloc_new w (.cells #[.slice A n c] 24)) 0 (.slice A n c) rfl
  have HB := below1 w (.cells #[.slice A n c] 24)
  have HD := Lib.hid hD
  have HBD := Lib.hid hB
  have HR := Lib.hid hr
  clear hD hr hB
  go_enter Tryz.func30, Tryz.ntmps30
  go_wp2
  generalize hW : w.alloc (.cells #[.slice A n c] 24) = v0 at *
  clear hW
  refine start_ (n := 10) (S := fun w' => w'.cell? ⟨w.heap.size, 0, none⟩ = some (.slice A n c) ∧ Below w.heap.size w w') (ds := []) #[f_, f_, f_, f_, f_, f_, f_, f_, f_, f_] (by kernel_rfl) rfl rfl ⟨TB, HB.drew⟩ (fun hHeld => ?_)
  refine pure_ (i := 0) (N := some 8) (v := ?_) (a' := ?_) #[t_, f_, f_, f_, f_, f_, f_, f_, f_, f_] rfl rfl (by kernel_rfl) (fun _ _ _ h => h) (Or.inl ⟨by rfl, ?_⟩) ?_ ?_
  rotate_left
  · intro w'
    go_simp
    with_reducible rfl
  rotate_left
  · simp only [Act.put, sa_, sz_, ss_, i64_w, i32_w]
    rfl
  refine pure_ (i := 4) (N := some 12) (v := ?_) (a' := ?_) #[t_, f_, f_, f_, t_, f_, f_, f_, f_, f_] rfl rfl (by kernel_rfl) (fun _ _ _ h => h) (Or.inl ⟨by rfl, ?_⟩) ?_ ?_
  rotate_left
  · intro w'
    go_simp
    with_reducible rfl
  rotate_left
  · simp only [Act.put, sa_, sz_, ss_, i64_w, i32_w]
    rfl
  refine take_ (i := 1) (N := some 9) (v := ?_) (a' := ?_) #[t_, t_, f_, f_, t_, f_, f_, f_, f_, f_] rfl rfl (by kernel_rfl) (fun _ _ _ h => h) (Or.inl ⟨by rfl, ?_⟩) hHeld ?_ ?_
  rotate_left
  · rintro w' ⟨s0, s1⟩
    go_simp
    with_reducible rfl
  rotate_left
  · simp only [Act.put, sa_, sz_, ss_, i64_w, i32_w]
    rfl
  refine pure_ (i := 2) (N := some 10) (v := ?_) (a' := ?_) #[t_, t_, t_, f_, t_, f_, f_, f_, f_, f_] rfl rfl (by kernel_rfl) (fun _ _ _ h => h) (Or.inl ⟨by rfl, ?_⟩) ?_ ?_
  rotate_left
  · intro w'
    go_simp
    with_reducible rfl
  rotate_left
  · simp only [Act.put, sa_, sz_, ss_, i64_w, i32_w]
    rfl
  refine take_ (i := 5) (N := some 13) (v := ?_) (a' := ?_) #[t_, t_, t_, f_, t_, t_, f_, f_, f_, f_] rfl rfl (by kernel_rfl) (fun _ _ _ h => h) (Or.inl ⟨by rfl, ?_⟩) hHeld ?_ ?_
  rotate_left
  · rintro w' ⟨s0, s1⟩
    go_simp
    with_reducible rfl
  rotate_left
  · simp only [Act.put, sa_, sz_, ss_, i64_w, i32_w]
    rfl
  refine pure_ (i := 6) (N := some 14) (v := ?_) (a' := ?_) #[t_, t_, t_, f_, t_, t_, t_, f_, f_, f_] rfl rfl (by kernel_rfl) (fun _ _ _ h => h) (Or.inl ⟨by rfl, ?_⟩) ?_ ?_
  rotate_left
  · intro w'
    go_simp
    with_reducible rfl
  rotate_left
  · simp only [Act.put, sa_, sz_, ss_, i64_w, i32_w]
    rfl
  refine join_ (σ := Nat × Nat) 1 #[t_, t_, t_, t_, t_, t_, t_, t_, t_, f_] (fun s => [(11, .slice (some ⟨s.1, 0, none⟩) n n), (15, .slice (some ⟨s.2, 0, none⟩) n n), (4, .slice (some ⟨s.1, 0, none⟩) n n)]) (fun s w' => w'.heap[s.1]? = some (.cells (ic (fun _ => 0) n) 3 (0, 0)) ∧ w'.heap[s.2]? = some (.cells (ic (fun _ => 0) n) 3 (0, 0)) ∧ s.1 ≠ s.2 ∧ w.heap.size ≤ s.1 ∧ w.heap.size ≤ s.2 ∧ w'.cell? ⟨w.heap.size, 0, none⟩ = some (.slice A n c) ∧ Below w.heap.size w w') ?_ ?_
  rotate_left
  · intro hCont
    refine two_ (i := 3) (j := 7) (Ni := some 11) (Nj := some 15) #[t_, t_, t_, t_, t_, t_, t_, f_, f_, f_] #[t_, t_, t_, f_, t_, t_, t_, t_, f_, f_] rfl rfl rfl rfl (by kernel_rfl) (by decide) (by decide) (fun K hK => ?_) (fun K hK => ?_)
    · skip
      have le3 := (hHeld.2).size
      refine value_ (w1 := ?_) (v := ?_) (by rfl) rfl ?_ ?_
      rotate_left 2
      · go_simp
        constructor
        · rfl
        · rfl
      refine letter_ ?_
      intro W3 hW
      have hb3 : Below v0.drew.heap.size v0.drew W3 := by rw [hW]; exact below1 _ _
      have R3 : W3.heap[v0.drew.heap.size]? = some (.cells (ic (fun _ => 0) n) 3 (0, 0)) := by rw [hW]; exact heap_alloc_new _ _
      clear hW
      refine hK.out _ _ ⟨(below_of hb3 hHeld.1), (below_step hHeld.2 hb3)⟩ (fun hHeld => ?_)
      clear hK K
      refine norm_ (a' := ?_) ?_ ?_
      rotate_left
      · show Act.put _ (some 11) _ = _
        simp only [Act.put, sa_, sz_, ss_, i64_w, i32_w]
        rfl
      refine pure_ (i := 8) (N := some 4) (v := ?_) (a' := ?_) #[t_, t_, t_, t_, t_, t_, t_, f_, t_, f_] rfl rfl (by kernel_rfl) (fun _ _ _ h => h) (Or.inl ⟨by rfl, ?_⟩) ?_ ?_
      rotate_left
      · intro w'
        go_simp
        with_reducible rfl
      rotate_left
      · simp only [Act.put, sa_, sz_, ss_, i64_w, i32_w]
        rfl
      refine one_ (i := 7) (N := some 15) #[t_, t_, t_, t_, t_, t_, t_, t_, t_, f_] rfl rfl (by kernel_rfl) (by decide) (fun K hK => ?_)
      have le7 := (hHeld.2).size
      have ne : v0.heap.size ≠ W3.heap.size := Nat.ne_of_lt (lt_of_blk R3)
      refine value_ (w1 := ?_) (v := ?_) (by rfl) rfl ?_ ?_
      rotate_left 2
      · go_simp
        constructor
        · rfl
        · rfl
      refine letter_ ?_
      intro W7 hW
      have hb7 : Below W3.heap.size W3 W7 := by rw [hW]; exact below1 _ _
      have R7 : W7.heap[W3.heap.size]? = some (.cells (ic (fun _ => 0) n) 3 (0, 0)) := by rw [hW]; exact heap_alloc_new _ _
      have R3 := below_blk hb7 R3
      clear hW
      refine hK.out _ _ ⟨(below_of hb7 hHeld.1), (below_step hHeld.2 hb7)⟩ (fun hHeld => ?_)
      clear hK K
      refine norm_ (a' := ?_) ?_ ?_
      rotate_left
      · show Act.put _ (some 15) _ = _
        simp only [Act.put, sa_, sz_, ss_, i64_w, i32_w]
        rfl
      exact norm_ (by simp only [putAll, Act.put, sa_, sz_, ss_]) (hCont (v0.heap.size, W3.heap.size) _ ⟨R3, R7, ne, le3, le7, hHeld⟩)
    · skip
      have le7 := (hHeld.2).size
      refine value_ (w1 := ?_) (v := ?_) (by rfl) rfl ?_ ?_
      rotate_left 2
      · go_simp
        constructor
        · rfl
        · rfl
      refine letter_ ?_
      intro W7 hW
      have hb7 : Below v0.drew.heap.size v0.drew W7 := by rw [hW]; exact below1 _ _
      have R7 : W7.heap[v0.drew.heap.size]? = some (.cells (ic (fun _ => 0) n) 3 (0, 0)) := by rw [hW]; exact heap_alloc_new _ _
      clear hW
      refine hK.out _ _ ⟨(below_of hb7 hHeld.1), (below_step hHeld.2 hb7)⟩ (fun hHeld => ?_)
      clear hK K
      refine norm_ (a' := ?_) ?_ ?_
      rotate_left
      · show Act.put _ (some 15) _ = _
        simp only [Act.put, sa_, sz_, ss_, i64_w, i32_w]
        rfl
      refine one_ (i := 3) (N := some 11) #[t_, t_, t_, t_, t_, t_, t_, t_, f_, f_] rfl rfl (by kernel_rfl) (by decide) (fun K hK => ?_)
      have le3 := (hHeld.2).size
      have ne : W7.heap.size ≠ v0.heap.size := Nat.ne_of_gt (lt_of_blk R7)
      refine value_ (w1 := ?_) (v := ?_) (by rfl) rfl ?_ ?_
      rotate_left 2
      · go_simp
        constructor
        · rfl
        · rfl
      refine letter_ ?_
      intro W3 hW
      have hb3 : Below W7.heap.size W7 W3 := by rw [hW]; exact below1 _ _
      have R3 : W3.heap[W7.heap.size]? = some (.cells (ic (fun _ => 0) n) 3 (0, 0)) := by rw [hW]; exact heap_alloc_new _ _
      have R7 := below_blk hb3 R7
      clear hW
      refine hK.out _ _ ⟨(below_of hb3 hHeld.1), (below_step hHeld.2 hb3)⟩ (fun hHeld => ?_)
      clear hK K
      refine norm_ (a' := ?_) ?_ ?_
      rotate_left
      · show Act.put _ (some 11) _ = _
        simp only [Act.put, sa_, sz_, ss_, i64_w, i32_w]
        rfl
      refine pure_ (i := 8) (N := some 4) (v := ?_) (a' := ?_) #[t_, t_, t_, t_, t_, t_, t_, t_, t_, f_] rfl rfl (by kernel_rfl) (fun _ _ _ h => h) (Or.inl ⟨by rfl, ?_⟩) ?_ ?_
      rotate_left
      · intro w'
        go_simp
        with_reducible rfl
      rotate_left
      · simp only [Act.put, sa_, sz_, ss_, i64_w, i32_w]
        rfl
      exact norm_ (by simp only [putAll, Act.put, sa_, sz_, ss_]) (hCont (W7.heap.size, v0.heap.size) _ ⟨R3, R7, ne, le3, le7, hHeld⟩)
  rintro ⟨p, q⟩ W ⟨RP, RQ, ne, lp, lq, hHeld⟩
  simp only [] at RP RQ ne lp lq
  refine norm_ (a' := ?_) ?_ ?_
  rotate_left
  · simp only [putAll, Act.put, sa_, sz_, ss_]
    rfl
  refine pure_ (i := 9) (N := some 5) (v := ?_) (a' := ?_) #[t_, t_, t_, t_, t_, t_, t_, t_, t_, t_] rfl rfl (by kernel_rfl) (fun _ _ _ h => h) (Or.inl ⟨by rfl, ?_⟩) ?_ ?_
  rotate_left
  · intro w'
    go_simp
    with_reducible rfl
  rotate_left
  · simp only [Act.put, sa_, sz_, ss_, i64_w, i32_w]
    rfl
  refine done_ (by kernel_rfl) ?_
  obtain ⟨tb, hbW⟩ := hHeld
  have z0 : (fun _ : Nat => (0 : Int)) = upto LO 0 := by funext j; unfold upto; rw [if_neg (by omega)]
  have z1 : (fun _ : Nat => (0 : Int)) = upto HI 0 := by funext j; unfold upto; rw [if_neg (by omega)]
  have RP := Lib.hid (z0 ▸ RP)
  have RQ := Lib.hid (z1 ▸ RQ)
  have HBW := Lib.hid hbW
  clear z0 z1 hbW TB HB mk
  go_wp2
  go_loopw [19] (fun t wr => ∃ i : Nat, i ≤ n ∧ t = .int .i64 (i : Nat) ∧ Hid (wr.heap[p]? = some (.cells (ic (upto LO i) n) 3 (0, 0))) ∧ Hid (wr.heap[q]? = some (.cells (ic (upto HI i) n) 3 (0, 0))) ∧ Hid (Below w.heap.size w wr)) (fun t _ => n - (intOf t).toNat)
  case atStart => exact ⟨0, Nat.zero_le _, rfl, RP, RQ, HBW⟩
  case round =>
    clear RP RQ HBW tb
    obtain ⟨i, hi, rfl, PO, QO, HB⟩ := hrel
    by_cases h : i < n
    · obtain ⟨ad, hA, a0, a1, a2, a3, a4, a5, a6, a7, a8, a9, a10, a11⟩ := at_T49 HR.out (i : Int) (by omega) (by omega)
      subst hA
      rw [Int.toNat_natCast] at a0 a1 a2 a3 a4 a5 a6 a7 a8 a9 a10 a11
      have hd := HD.out i h
      unfold lOk at hd
      have hi2 : (i : Int) < (n : Int) := by omega
      generalize rd_T49 L i = x at *
      obtain ⟨xk, xa, xb, ⟨⟨s0, s1, s2, s3⟩⟩, x4, x5, x6, x7, x8⟩ := x
      simp only [] at hd a0 a1 a2 a3 a4 a5 a6 a7 a8 a9 a10 a11
      replace a0 := below_of HB.out a0
      replace a1 := below_of HB.out a1
      replace a2 := below_of HB.out a2
      replace a3 := below_of HB.out a3
      replace a4 := below_of HB.out a4
      replace a5 := below_of HB.out a5
      replace a6 := below_of HB.out a6
      replace a7 := below_of HB.out a7
      replace a8 := below_of HB.out a8
      replace a9 := below_of HB.out a9
      replace a10 := below_of HB.out a10
      replace a11 := below_of HB.out a11
      have PN := Lib.hid (blk_alloc PO.out (.cells #[.int .i64 xk, .int .i64 xa, .int .i64 xb, .int .u64 s0, .int .u64 s1, .int .u64 s2, .int .u64 s3, .int .i64 x4, .int .i64 x5, .int .i64 x6, .int .i64 x7, .bool x8] 49))
      have QN := Lib.hid (blk_alloc QO.out (.cells #[.int .i64 xk, .int .i64 xa, .int .i64 xb, .int .u64 s0, .int .u64 s1, .int .u64 s2, .int .u64 s3, .int .i64 x4, .int .i64 x5, .int .i64 x6, .int .i64 x7, .bool x8] 49))
      have BN := Lib.hid (heap_alloc_new wr (.cells #[.int .i64 xk, .int .i64 xa, .int .i64 xb, .int .u64 s0, .int .u64 s1, .int .u64 s2, .int .u64 s3, .int .i64 x4, .int .i64 x5, .int .i64 x6, .int .i64 x7, .bool x8] 49))
      have HN := Lib.hid (HB.out.alloc HB.out.size (.cells #[.int .i64 xk, .int .i64 xa, .int .i64 xb, .int .u64 s0, .int .u64 s1, .int .u64 s2, .int .u64 s3, .int .i64 x4, .int .i64 x5, .int .i64 x6, .int .i64 x7, .bool x8] 49))
      have HPW := Lib.hid (lt_of_blk PO.out)
      have HQW := Lib.hid (lt_of_blk QO.out)
      clear HB PO QO
      have hd := Lib.hid hd
      rcases hd.out with ⟨k0, e0, e1⟩ | ⟨k0, e0, e1⟩ | ⟨k0, ka, kb, e0, e1⟩ | ⟨k0, ka, kb, e0, e1⟩ | ⟨k0, ka, r4, r5, e0, e1⟩ | ⟨k0, ka, e0, e1⟩ | ⟨k1, k2, k3, k4, k5, k6, k7, e0, e1⟩
      · as_aux_lemma =>
        subst k0
        obtain ⟨c1, f1, c2, f2, P3, Q3⟩ := two_sets PN.out QN.out ne h e0 e1
        have P3 := Lib.hid P3
        have Q3 := Lib.hid Q3
        have H3 := Lib.hid (below_set (i := i) (below_set (i := i) HN.out lp (.int .i64 1)) lq (.int .i64 1))
        clear hd e0 e1 PN QN BN HN
        go_wp2
        go_roundw
        case rel => exact ⟨i + 1, by omega, by simp, P3, Q3, H3⟩
        case measure => simp [intOf]; omega
      · as_aux_lemma =>
        subst k0
        have P3 := PN.out
        rw [upto_skip e0] at P3
        have c1 := blk_cell QN.out i _ (upto_here h)
        have f1 := blk_free QN.out i
        have Q3 := set_blk (i := i) QN.out (.int .i64 (-1))
        rw [upto_set h e1] at Q3
        have Q3 := Lib.hid Q3
        have P3 := Lib.hid (set_other (i := i) (v := .int .i64 (-1)) P3 ne)
        have H3 := Lib.hid (below_set (i := i) HN.out lq (.int .i64 (-1)))
        clear hd e0 e1 PN QN BN HN
        go_wp2
        go_roundw
        case rel => exact ⟨i + 1, by omega, by simp, P3, Q3, H3⟩
        case measure => simp [intOf]; omega
      · as_aux_lemma =>
        subst k0
        obtain ⟨ka1, ka2⟩ := ka
        obtain ⟨m, rfl⟩ := Int.eq_ofNat_of_zero_le ka1
        rw [Int.toNat_natCast] at e0 e1
        have hm : m < i := by omega
        have pm := blk_cell PN.out m _ (upto_at h hm)
        have qm := blk_cell QN.out m _ (upto_at h hm)
        have bm := HBD.out m (by omega)
        obtain ⟨kb1, kb2⟩ := kb
        obtain ⟨k, rfl⟩ := Int.eq_ofNat_of_zero_le kb1
        rw [Int.toNat_natCast] at e0 e1
        have hk : k < i := by omega
        have pk := blk_cell PN.out k _ (upto_at h hk)
        have qk := blk_cell QN.out k _ (upto_at h hk)
        have bk := HBD.out k (by omega)
        have n1 := blk_cell BN.out 1 _ rfl
        have n2 := blk_cell BN.out 2 _ rfl
        have n7 := blk_cell BN.out 7 _ rfl
        have n8 := blk_cell BN.out 8 _ rfl
        simp only [List.getElem_toArray, List.getElem_cons_zero, List.getElem_cons_succ] at n1 n2 n7 n8
        have np := Lib.hid (Nat.ne_of_gt HPW.out)
        have nq := Lib.hid (Nat.ne_of_gt HQW.out)
        have hmn : (m : Int) < (n : Int) := by omega
        have hkn : (k : Int) < (n : Int) := by omega
        have KL := Lib.hid (plus_calls (LO m) (LO k) bm.1 bk.1)
        have KH := Lib.hid (plus_calls (HI m) (HI k) bm.2 bk.2)
        clear hd bm bk
        generalize pl (LO m) (LO k) = u at *
        generalize pl (HI m) (HI k) = v at *
        generalize LO m = lm at *
        generalize LO k = lk at *
        generalize HI m = hm' at *
        generalize HI k = hk' at *
        go_wp2
        generalize hW : wr.alloc (.cells #[.int .i64 8, .int .i64 (m : Nat), .int .i64 (k : Nat), .int .u64 s0, .int .u64 s1, .int .u64 s2, .int .u64 s3, .int .i64 x4, .int .i64 x5, .int .i64 x6, .int .i64 x7, .bool x8] 49) = v1 at *
        clear hW
        generalize wr.heap.size = QQ at *
        have np := np.out
        have nq := nq.out
        refine start_ (n := 30) (S := fun w' => w'.cell? ⟨QQ, 1, none⟩ = some (.int .i64 (m : Nat)) ∧ w'.cell? ⟨QQ, 2, none⟩ = some (.int .i64 (k : Nat)) ∧ w'.cell? ⟨p, m, none⟩ = some (.int .i64 lm) ∧ w'.cell? ⟨p, k, none⟩ = some (.int .i64 lk) ∧ w'.cell? ⟨q, m, none⟩ = some (.int .i64 hm') ∧ w'.cell? ⟨q, k, none⟩ = some (.int .i64 hk') ∧ w'.heap[p]? = some (.cells (ic (upto LO i) n) 3 (0, 0)) ∧ w'.heap[q]? = some (.cells (ic (upto HI i) n) 3 (0, 0)) ∧ w'.heap[QQ]? = some (.cells #[.int .i64 8, .int .i64 (m : Nat), .int .i64 (k : Nat), .int .u64 s0, .int .u64 s1, .int .u64 s2, .int .u64 s3, .int .i64 x4, .int .i64 x5, .int .i64 x6, .int .i64 x7, .bool x8] 49 (0, 0)) ∧ Below w.heap.size w w') (ds := [27, 29]) #[f_, f_, f_, f_, f_, f_, f_, f_, f_, f_, f_, f_, f_, f_, f_, f_, f_, f_, f_, f_, f_, f_, f_, f_, f_, f_, f_, f_, f_, f_] (by kernel_rfl) rfl rfl ⟨n1, n2, pm, pk, qm, qk, PN.out, QN.out, BN.out, HN.out.drew⟩ (fun hHeld => ?_)
        refine pure_ (i := 0) (N := some 41) (v := ?_) (a' := ?_) #[t_, f_, f_, f_, f_, f_, f_, f_, f_, f_, f_, f_, f_, f_, f_, f_, f_, f_, f_, f_, f_, f_, f_, f_, f_, f_, f_, f_, f_, f_] rfl rfl (by kernel_rfl) (fun _ _ _ h => h) (Or.inl ⟨by rfl, ?_⟩) ?_ ?_
        rotate_left
        · intro w'
          go_simp
          with_reducible rfl
        rotate_left
        · simp only [Act.put, sa_, sz_, ss_, i64_w, i32_w]
          rfl
        refine pure_ (i := 1) (N := some 42) (v := ?_) (a' := ?_) #[t_, t_, f_, f_, f_, f_, f_, f_, f_, f_, f_, f_, f_, f_, f_, f_, f_, f_, f_, f_, f_, f_, f_, f_, f_, f_, f_, f_, f_, f_] rfl rfl (by kernel_rfl) (fun _ _ _ h => h) (Or.inl ⟨by rfl, ?_⟩) ?_ ?_
        rotate_left
        · intro w'
          go_simp
          with_reducible rfl
        rotate_left
        · simp only [Act.put, sa_, sz_, ss_, i64_w, i32_w]
          rfl
        refine pure_ (i := 2) (N := some 43) (v := ?_) (a' := ?_) #[t_, t_, t_, f_, f_, f_, f_, f_, f_, f_, f_, f_, f_, f_, f_, f_, f_, f_, f_, f_, f_, f_, f_, f_, f_, f_, f_, f_, f_, f_] rfl rfl (by kernel_rfl) (fun _ _ _ h => h) (Or.inl ⟨by rfl, ?_⟩) ?_ ?_
        rotate_left
        · intro w'
          go_simp
          with_reducible rfl
        rotate_left
        · simp only [Act.put, sa_, sz_, ss_, i64_w, i32_w]
          rfl
        refine pure_ (i := 3) (N := some 44) (v := ?_) (a' := ?_) #[t_, t_, t_, t_, f_, f_, f_, f_, f_, f_, f_, f_, f_, f_, f_, f_, f_, f_, f_, f_, f_, f_, f_, f_, f_, f_, f_, f_, f_, f_] rfl rfl (by kernel_rfl) (fun _ _ _ h => h) (Or.inl ⟨by rfl, ?_⟩) ?_ ?_
        rotate_left
        · intro w'
          go_simp
          with_reducible rfl
        rotate_left
        · simp only [Act.put, sa_, sz_, ss_, i64_w, i32_w]
          rfl
        refine pure_ (i := 4) (N := some 45) (v := ?_) (a' := ?_) #[t_, t_, t_, t_, t_, f_, f_, f_, f_, f_, f_, f_, f_, f_, f_, f_, f_, f_, f_, f_, f_, f_, f_, f_, f_, f_, f_, f_, f_, f_] rfl rfl (by kernel_rfl) (fun _ _ _ h => h) (Or.inl ⟨by rfl, ?_⟩) ?_ ?_
        rotate_left
        · intro w'
          go_simp
          with_reducible rfl
        rotate_left
        · simp only [Act.put, sa_, sz_, ss_, i64_w, i32_w]
          rfl
        refine pure_ (i := 5) (N := some 46) (v := ?_) (a' := ?_) #[t_, t_, t_, t_, t_, t_, f_, f_, f_, f_, f_, f_, f_, f_, f_, f_, f_, f_, f_, f_, f_, f_, f_, f_, f_, f_, f_, f_, f_, f_] rfl rfl (by kernel_rfl) (fun _ _ _ h => h) (Or.inl ⟨by rfl, ?_⟩) ?_ ?_
        rotate_left
        · intro w'
          go_simp
          with_reducible rfl
        rotate_left
        · simp only [Act.put, sa_, sz_, ss_, i64_w, i32_w]
          rfl
        refine pure_ (i := 9) (N := some 50) (v := ?_) (a' := ?_) #[t_, t_, t_, t_, t_, t_, f_, f_, f_, t_, f_, f_, f_, f_, f_, f_, f_, f_, f_, f_, f_, f_, f_, f_, f_, f_, f_, f_, f_, f_] rfl rfl (by kernel_rfl) (fun _ _ _ h => h) (Or.inl ⟨by rfl, ?_⟩) ?_ ?_
        rotate_left
        · intro w'
          go_simp
          with_reducible rfl
        rotate_left
        · simp only [Act.put, sa_, sz_, ss_, i64_w, i32_w]
          rfl
        refine pure_ (i := 10) (N := some 51) (v := ?_) (a' := ?_) #[t_, t_, t_, t_, t_, t_, f_, f_, f_, t_, t_, f_, f_, f_, f_, f_, f_, f_, f_, f_, f_, f_, f_, f_, f_, f_, f_, f_, f_, f_] rfl rfl (by kernel_rfl) (fun _ _ _ h => h) (Or.inl ⟨by rfl, ?_⟩) ?_ ?_
        rotate_left
        · intro w'
          go_simp
          with_reducible rfl
        rotate_left
        · simp only [Act.put, sa_, sz_, ss_, i64_w, i32_w]
          rfl
        refine pure_ (i := 15) (N := some 56) (v := ?_) (a' := ?_) #[t_, t_, t_, t_, t_, t_, f_, f_, f_, t_, t_, f_, f_, f_, f_, t_, f_, f_, f_, f_, f_, f_, f_, f_, f_, f_, f_, f_, f_, f_] rfl rfl (by kernel_rfl) (fun _ _ _ h => h) (Or.inl ⟨by rfl, ?_⟩) ?_ ?_
        rotate_left
        · intro w'
          go_simp
          with_reducible rfl
        rotate_left
        · simp only [Act.put, sa_, sz_, ss_, i64_w, i32_w]
          rfl
        refine pure_ (i := 16) (N := some 57) (v := ?_) (a' := ?_) #[t_, t_, t_, t_, t_, t_, f_, f_, f_, t_, t_, f_, f_, f_, f_, t_, t_, f_, f_, f_, f_, f_, f_, f_, f_, f_, f_, f_, f_, f_] rfl rfl (by kernel_rfl) (fun _ _ _ h => h) (Or.inl ⟨by rfl, ?_⟩) ?_ ?_
        rotate_left
        · intro w'
          go_simp
          with_reducible rfl
        rotate_left
        · simp only [Act.put, sa_, sz_, ss_, i64_w, i32_w]
          rfl
        refine pure_ (i := 20) (N := some 61) (v := ?_) (a' := ?_) #[t_, t_, t_, t_, t_, t_, f_, f_, f_, t_, t_, f_, f_, f_, f_, t_, t_, f_, f_, f_, t_, f_, f_, f_, f_, f_, f_, f_, f_, f_] rfl rfl (by kernel_rfl) (fun _ _ _ h => h) (Or.inl ⟨by rfl, ?_⟩) ?_ ?_
        rotate_left
        · intro w'
          go_simp
          with_reducible rfl
        rotate_left
        · simp only [Act.put, sa_, sz_, ss_, i64_w, i32_w]
          rfl
        refine pure_ (i := 21) (N := some 62) (v := ?_) (a' := ?_) #[t_, t_, t_, t_, t_, t_, f_, f_, f_, t_, t_, f_, f_, f_, f_, t_, t_, f_, f_, f_, t_, t_, f_, f_, f_, f_, f_, f_, f_, f_] rfl rfl (by kernel_rfl) (fun _ _ _ h => h) (Or.inl ⟨by rfl, ?_⟩) ?_ ?_
        rotate_left
        · intro w'
          go_simp
          with_reducible rfl
        rotate_left
        · simp only [Act.put, sa_, sz_, ss_, i64_w, i32_w]
          rfl
        refine take_ (i := 6) (N := some 47) (v := ?_) (a' := ?_) #[t_, t_, t_, t_, t_, t_, t_, f_, f_, t_, t_, f_, f_, f_, f_, t_, t_, f_, f_, f_, t_, t_, f_, f_, f_, f_, f_, f_, f_, f_] rfl rfl (by kernel_rfl) (fun _ _ _ h => h) (Or.inl ⟨by rfl, ?_⟩) hHeld ?_ ?_
        rotate_left
        · rintro w' ⟨s0, s1, s2, s3, s4, s5, s6, s7, s8, s9⟩
          go_simp
          with_reducible rfl
        rotate_left
        · simp only [Act.put, sa_, sz_, ss_, i64_w, i32_w]
          rfl
        refine pure_ (i := 7) (N := some 48) (v := ?_) (a' := ?_) #[t_, t_, t_, t_, t_, t_, t_, t_, f_, t_, t_, f_, f_, f_, f_, t_, t_, f_, f_, f_, t_, t_, f_, f_, f_, f_, f_, f_, f_, f_] rfl rfl (by kernel_rfl) (fun _ _ _ h => h) (Or.inl ⟨by rfl, ?_⟩) ?_ ?_
        rotate_left
        · intro w'
          go_simp
          with_reducible rfl
        rotate_left
        · simp only [Act.put, sa_, sz_, ss_, i64_w, i32_w]
          rfl
        refine take_ (i := 8) (N := some 49) (v := ?_) (a' := ?_) #[t_, t_, t_, t_, t_, t_, t_, t_, t_, t_, t_, f_, f_, f_, f_, t_, t_, f_, f_, f_, t_, t_, f_, f_, f_, f_, f_, f_, f_, f_] rfl rfl (by kernel_rfl) (fun _ _ _ h => h) (Or.inl ⟨by rfl, ?_⟩) hHeld ?_ ?_
        rotate_left
        · rintro w' ⟨s0, s1, s2, s3, s4, s5, s6, s7, s8, s9⟩
          go_simp
          with_reducible rfl
        rotate_left
        · simp only [Act.put, sa_, sz_, ss_, i64_w, i32_w]
          rfl
        refine take_ (i := 11) (N := some 52) (v := ?_) (a' := ?_) #[t_, t_, t_, t_, t_, t_, t_, t_, t_, t_, t_, t_, f_, f_, f_, t_, t_, f_, f_, f_, t_, t_, f_, f_, f_, f_, f_, f_, f_, f_] rfl rfl (by kernel_rfl) (fun _ _ _ h => h) (Or.inl ⟨by rfl, ?_⟩) hHeld ?_ ?_
        rotate_left
        · rintro w' ⟨s0, s1, s2, s3, s4, s5, s6, s7, s8, s9⟩
          go_simp
          with_reducible rfl
        rotate_left
        · simp only [Act.put, sa_, sz_, ss_, i64_w, i32_w]
          rfl
        refine pure_ (i := 12) (N := some 53) (v := ?_) (a' := ?_) #[t_, t_, t_, t_, t_, t_, t_, t_, t_, t_, t_, t_, t_, f_, f_, t_, t_, f_, f_, f_, t_, t_, f_, f_, f_, f_, f_, f_, f_, f_] rfl rfl (by kernel_rfl) (fun _ _ _ h => h) (Or.inl ⟨by rfl, ?_⟩) ?_ ?_
        rotate_left
        · intro w'
          go_simp
          with_reducible rfl
        rotate_left
        · simp only [Act.put, sa_, sz_, ss_, i64_w, i32_w]
          rfl
        refine take_ (i := 13) (N := some 54) (v := ?_) (a' := ?_) #[t_, t_, t_, t_, t_, t_, t_, t_, t_, t_, t_, t_, t_, t_, f_, t_, t_, f_, f_, f_, t_, t_, f_, f_, f_, f_, f_, f_, f_, f_] rfl rfl (by kernel_rfl) (fun _ _ _ h => h) (Or.inl ⟨by rfl, ?_⟩) hHeld ?_ ?_
        rotate_left
        · rintro w' ⟨s0, s1, s2, s3, s4, s5, s6, s7, s8, s9⟩
          go_simp
          with_reducible rfl
        rotate_left
        · simp only [Act.put, sa_, sz_, ss_, i64_w, i32_w]
          rfl
        refine take_ (i := 17) (N := some 58) (v := ?_) (a' := ?_) #[t_, t_, t_, t_, t_, t_, t_, t_, t_, t_, t_, t_, t_, t_, f_, t_, t_, t_, f_, f_, t_, t_, f_, f_, f_, f_, f_, f_, f_, f_] rfl rfl (by kernel_rfl) (fun _ _ _ h => h) (Or.inl ⟨by rfl, ?_⟩) hHeld ?_ ?_
        rotate_left
        · rintro w' ⟨s0, s1, s2, s3, s4, s5, s6, s7, s8, s9⟩
          go_simp
          with_reducible rfl
        rotate_left
        · simp only [Act.put, sa_, sz_, ss_, i64_w, i32_w]
          rfl
        refine pure_ (i := 18) (N := some 59) (v := ?_) (a' := ?_) #[t_, t_, t_, t_, t_, t_, t_, t_, t_, t_, t_, t_, t_, t_, f_, t_, t_, t_, t_, f_, t_, t_, f_, f_, f_, f_, f_, f_, f_, f_] rfl rfl (by kernel_rfl) (fun _ _ _ h => h) (Or.inl ⟨by rfl, ?_⟩) ?_ ?_
        rotate_left
        · intro w'
          go_simp
          with_reducible rfl
        rotate_left
        · simp only [Act.put, sa_, sz_, ss_, i64_w, i32_w]
          rfl
        refine take_ (i := 19) (N := some 60) (v := ?_) (a' := ?_) #[t_, t_, t_, t_, t_, t_, t_, t_, t_, t_, t_, t_, t_, t_, f_, t_, t_, t_, t_, t_, t_, t_, f_, f_, f_, f_, f_, f_, f_, f_] rfl rfl (by kernel_rfl) (fun _ _ _ h => h) (Or.inl ⟨by rfl, ?_⟩) hHeld ?_ ?_
        rotate_left
        · rintro w' ⟨s0, s1, s2, s3, s4, s5, s6, s7, s8, s9⟩
          go_simp
          with_reducible rfl
        rotate_left
        · simp only [Act.put, sa_, sz_, ss_, i64_w, i32_w]
          rfl
        refine take_ (i := 22) (N := some 63) (v := ?_) (a' := ?_) #[t_, t_, t_, t_, t_, t_, t_, t_, t_, t_, t_, t_, t_, t_, f_, t_, t_, t_, t_, t_, t_, t_, t_, f_, f_, f_, f_, f_, f_, f_] rfl rfl (by kernel_rfl) (fun _ _ _ h => h) (Or.inl ⟨by rfl, ?_⟩) hHeld ?_ ?_
        rotate_left
        · rintro w' ⟨s0, s1, s2, s3, s4, s5, s6, s7, s8, s9⟩
          go_simp
          with_reducible rfl
        rotate_left
        · simp only [Act.put, sa_, sz_, ss_, i64_w, i32_w]
          rfl
        refine pure_ (i := 23) (N := some 64) (v := ?_) (a' := ?_) #[t_, t_, t_, t_, t_, t_, t_, t_, t_, t_, t_, t_, t_, t_, f_, t_, t_, t_, t_, t_, t_, t_, t_, t_, f_, f_, f_, f_, f_, f_] rfl rfl (by kernel_rfl) (fun _ _ _ h => h) (Or.inl ⟨by rfl, ?_⟩) ?_ ?_
        rotate_left
        · intro w'
          go_simp
          with_reducible rfl
        rotate_left
        · simp only [Act.put, sa_, sz_, ss_, i64_w, i32_w]
          rfl
        refine take_ (i := 24) (N := some 65) (v := ?_) (a' := ?_) #[t_, t_, t_, t_, t_, t_, t_, t_, t_, t_, t_, t_, t_, t_, f_, t_, t_, t_, t_, t_, t_, t_, t_, t_, t_, f_, f_, f_, f_, f_] rfl rfl (by kernel_rfl) (fun _ _ _ h => h) (Or.inl ⟨by rfl, ?_⟩) hHeld ?_ ?_
        rotate_left
        · rintro w' ⟨s0, s1, s2, s3, s4, s5, s6, s7, s8, s9⟩
          go_simp
          with_reducible rfl
        rotate_left
        · simp only [Act.put, sa_, sz_, ss_, i64_w, i32_w]
          rfl
        refine one_ (i := 14) (N := some 55) #[t_, t_, t_, t_, t_, t_, t_, t_, t_, t_, t_, t_, t_, t_, t_, t_, t_, t_, t_, t_, t_, t_, t_, t_, t_, f_, f_, f_, f_, f_] rfl rfl (by kernel_rfl) (by decide) (fun K hK => ?_)
        refine goes_ Tryz.func51 (by kernel_rfl) rfl #[.int .i64 lm, .int .i64 lk] (by rfl) rfl rfl (by simp only [List.map_toArray, List.map_cons, List.map_nil]; rfl) ?_
        with_reducible refine (KL.out _).mono ?_
        rintro e X1 ⟨rfl, hb⟩
        refine ⟨_, rfl, ?_⟩
        refine hK.out _ _ ⟨(below_of hb hHeld.1), (below_of hb hHeld.2.1), (below_of hb hHeld.2.2.1), (below_of hb hHeld.2.2.2.1), (below_of hb hHeld.2.2.2.2.1), (below_of hb hHeld.2.2.2.2.2.1), (below_blk hb hHeld.2.2.2.2.2.2.1), (below_blk hb hHeld.2.2.2.2.2.2.2.1), (below_blk hb hHeld.2.2.2.2.2.2.2.2.1), (below_step hHeld.2.2.2.2.2.2.2.2.2 hb)⟩ (fun hHeld => ?_)
        clear hK K
        refine norm_ (a' := ?_) ?_ ?_
        rotate_left
        · show Act.put _ (some 55) _ = _
          simp only [Act.put, sa_, sz_, ss_, i64_w, i32_w]
          rfl
        refine one_ (i := 25) (N := some 66) #[t_, t_, t_, t_, t_, t_, t_, t_, t_, t_, t_, t_, t_, t_, t_, t_, t_, t_, t_, t_, t_, t_, t_, t_, t_, t_, f_, f_, f_, f_] rfl rfl (by kernel_rfl) (by decide) (fun K hK => ?_)
        refine goes_ Tryz.func51 (by kernel_rfl) rfl #[.int .i64 hm', .int .i64 hk'] (by rfl) rfl rfl (by simp only [List.map_toArray, List.map_cons, List.map_nil]; rfl) ?_
        with_reducible refine (KH.out _).mono ?_
        rintro e X2 ⟨rfl, hb⟩
        refine ⟨_, rfl, ?_⟩
        refine hK.out _ _ ⟨(below_of hb hHeld.1), (below_of hb hHeld.2.1), (below_of hb hHeld.2.2.1), (below_of hb hHeld.2.2.2.1), (below_of hb hHeld.2.2.2.2.1), (below_of hb hHeld.2.2.2.2.2.1), (below_blk hb hHeld.2.2.2.2.2.2.1), (below_blk hb hHeld.2.2.2.2.2.2.2.1), (below_blk hb hHeld.2.2.2.2.2.2.2.2.1), (below_step hHeld.2.2.2.2.2.2.2.2.2 hb)⟩ (fun hHeld => ?_)
        clear hK K
        refine norm_ (a' := ?_) ?_ ?_
        rotate_left
        · show Act.put _ (some 66) _ = _
          simp only [Act.put, sa_, sz_, ss_, i64_w, i32_w]
          rfl
        refine pure_ (i := 26) (N := some 67) (v := ?_) (a' := ?_) #[t_, t_, t_, t_, t_, t_, t_, t_, t_, t_, t_, t_, t_, t_, t_, t_, t_, t_, t_, t_, t_, t_, t_, t_, t_, t_, t_, f_, f_, f_] rfl rfl (by kernel_rfl) (fun _ _ _ h => h) (Or.inl ⟨by rfl, ?_⟩) ?_ ?_
        rotate_left
        · intro w'
          go_simp
          with_reducible rfl
        rotate_left
        · simp only [Act.put, sa_, sz_, ss_, i64_w, i32_w]
          rfl
        refine last_ (i := 27) (N := none) #[t_, t_, t_, t_, t_, t_, t_, t_, t_, t_, t_, t_, t_, t_, t_, t_, t_, t_, t_, t_, t_, t_, t_, t_, t_, t_, t_, t_, f_, f_] rfl rfl (by kernel_rfl) (by decide) (fun K hK => ?_)
        have c1 := blk_cell hHeld.2.2.2.2.2.2.1 i _ (upto_here h)
        have f1 := blk_free hHeld.2.2.2.2.2.2.1 i
        refine skip_ (w1 := ?_) (by rfl) rfl ?_ ?_
        rotate_left
        · go_simp
          rfl
        refine letter_ ?_
        intro W27 hW27
        have P27 : W27.heap[p]? = some (.cells (ic (upto LO (i + 1)) n) 3 (0, 0)) := by rw [hW27, ← upto_set h e0]; exact set_blk (i := i) hHeld.2.2.2.2.2.2.1 (.int .i64 (u))
        have Q27 : W27.heap[q]? = some (.cells (ic (upto HI i) n) 3 (0, 0)) := by rw [hW27]; exact set_other hHeld.2.2.2.2.2.2.2.1 (fun e => ne e.symm)
        have N27 : W27.heap[QQ]? = some (.cells #[.int .i64 8, .int .i64 (m : Nat), .int .i64 (k : Nat), .int .u64 s0, .int .u64 s1, .int .u64 s2, .int .u64 s3, .int .i64 x4, .int .i64 x5, .int .i64 x6, .int .i64 x7, .bool x8] 49 (0, 0)) := by rw [hW27]; exact set_other hHeld.2.2.2.2.2.2.2.2.1 np
        have B27 : Below w.heap.size w W27 := by rw [hW27]; exact below_set hHeld.2.2.2.2.2.2.2.2.2 lp _
        clear hW27 c1 f1
        refine hK.out _ _ ?_
        clear hK K
        refine pure_ (i := 28) (N := some 68) (v := ?_) (a' := ?_) #[t_, t_, t_, t_, t_, t_, t_, t_, t_, t_, t_, t_, t_, t_, t_, t_, t_, t_, t_, t_, t_, t_, t_, t_, t_, t_, t_, t_, t_, f_] rfl rfl (by kernel_rfl) (fun _ _ _ h => h) (Or.inl ⟨by rfl, ?_⟩) ?_ ?_
        rotate_left
        · intro w'
          go_simp
          with_reducible rfl
        rotate_left
        · simp only [Act.put, sa_, sz_, ss_, i64_w, i32_w]
          rfl
        refine last_ (i := 29) (N := none) #[t_, t_, t_, t_, t_, t_, t_, t_, t_, t_, t_, t_, t_, t_, t_, t_, t_, t_, t_, t_, t_, t_, t_, t_, t_, t_, t_, t_, t_, t_] rfl rfl (by kernel_rfl) (by decide) (fun K hK => ?_)
        have c2 := blk_cell Q27 i _ (upto_here h)
        have f2 := blk_free Q27 i
        refine skip_ (w1 := ?_) (by rfl) rfl ?_ ?_
        rotate_left
        · go_simp
          rfl
        refine letter_ ?_
        intro W29 hW29
        have P29 : W29.heap[p]? = some (.cells (ic (upto LO (i + 1)) n) 3 (0, 0)) := by rw [hW29]; exact set_other P27 ne
        have Q29 : W29.heap[q]? = some (.cells (ic (upto HI (i + 1)) n) 3 (0, 0)) := by rw [hW29, ← upto_set h e1]; exact set_blk (i := i) Q27 (.int .i64 (v))
        have N29 : W29.heap[QQ]? = some (.cells #[.int .i64 8, .int .i64 (m : Nat), .int .i64 (k : Nat), .int .u64 s0, .int .u64 s1, .int .u64 s2, .int .u64 s3, .int .i64 x4, .int .i64 x5, .int .i64 x6, .int .i64 x7, .bool x8] 49 (0, 0)) := by rw [hW29]; exact set_other N27 nq
        have B29 : Below w.heap.size w W29 := by rw [hW29]; exact below_set B27 lq _
        clear hW29 c2 f2
        refine hK.out _ _ ?_
        clear hK K
        refine done_ (by kernel_rfl) ?_
        go_wp2
        go_roundw
        case rel => exact ⟨i + 1, by omega, by simp, Lib.hid P29, Lib.hid Q29, Lib.hid B29⟩
        case measure => simp [intOf]; omega
      · as_aux_lemma =>
        subst k0
        obtain ⟨ka1, ka2⟩ := ka
        obtain ⟨m, rfl⟩ := Int.eq_ofNat_of_zero_le ka1
        rw [Int.toNat_natCast] at e0 e1
        have hm : m < i := by omega
        have pm := blk_cell PN.out m _ (upto_at h hm)
        have qm := blk_cell QN.out m _ (upto_at h hm)
        have bm := HBD.out m (by omega)
        obtain ⟨kb1, kb2⟩ := kb
        obtain ⟨k, rfl⟩ := Int.eq_ofNat_of_zero_le kb1
        rw [Int.toNat_natCast] at e0 e1
        have hk : k < i := by omega
        have pk := blk_cell PN.out k _ (upto_at h hk)
        have qk := blk_cell QN.out k _ (upto_at h hk)
        have bk := HBD.out k (by omega)
        have n1 := blk_cell BN.out 1 _ rfl
        have n2 := blk_cell BN.out 2 _ rfl
        have n7 := blk_cell BN.out 7 _ rfl
        have n8 := blk_cell BN.out 8 _ rfl
        simp only [List.getElem_toArray, List.getElem_cons_zero, List.getElem_cons_succ] at n1 n2 n7 n8
        have np := Lib.hid (Nat.ne_of_gt HPW.out)
        have nq := Lib.hid (Nat.ne_of_gt HQW.out)
        have hmn : (m : Int) < (n : Int) := by omega
        have hkn : (k : Int) < (n : Int) := by omega
        have hmx : ∀ x y : Int, (if x < y then y else x) = max x y := fun x y => by split <;> omega
        have hmi : ∀ x y : Int, (if y < x then y else x) = min x y := fun x y => by split <;> omega
        clear hd bm bk
        generalize LO m = lm at *
        generalize LO k = lk at *
        obtain ⟨hm', hhm⟩ : ∃ z, HI m = z := ⟨_, rfl⟩
        obtain ⟨hk', hhk⟩ : ∃ z, HI k = z := ⟨_, rfl⟩
        rw [hhm, hhk] at e1
        rw [hhm] at qm
        rw [hhk] at qk
        have EQM := Lib.hid hhm
        have EQK := Lib.hid hhk
        clear hhm hhk
        go_wp2
        generalize hW : wr.alloc (.cells #[.int .i64 9, .int .i64 (m : Nat), .int .i64 (k : Nat), .int .u64 s0, .int .u64 s1, .int .u64 s2, .int .u64 s3, .int .i64 x4, .int .i64 x5, .int .i64 x6, .int .i64 x7, .bool x8] 49) = v1 at *
        clear hW
        generalize wr.heap.size = QQ at *
        have np := np.out
        have nq := nq.out
        refine start_ (n := 30) (S := fun w' => w'.cell? ⟨QQ, 1, none⟩ = some (.int .i64 (m : Nat)) ∧ w'.cell? ⟨QQ, 2, none⟩ = some (.int .i64 (k : Nat)) ∧ w'.cell? ⟨p, m, none⟩ = some (.int .i64 lm) ∧ w'.cell? ⟨p, k, none⟩ = some (.int .i64 lk) ∧ w'.cell? ⟨q, m, none⟩ = some (.int .i64 hm') ∧ w'.cell? ⟨q, k, none⟩ = some (.int .i64 hk') ∧ w'.heap[p]? = some (.cells (ic (upto LO i) n) 3 (0, 0)) ∧ w'.heap[q]? = some (.cells (ic (upto HI i) n) 3 (0, 0)) ∧ w'.heap[QQ]? = some (.cells #[.int .i64 9, .int .i64 (m : Nat), .int .i64 (k : Nat), .int .u64 s0, .int .u64 s1, .int .u64 s2, .int .u64 s3, .int .i64 x4, .int .i64 x5, .int .i64 x6, .int .i64 x7, .bool x8] 49 (0, 0)) ∧ Below w.heap.size w w') (ds := [27, 29]) #[f_, f_, f_, f_, f_, f_, f_, f_, f_, f_, f_, f_, f_, f_, f_, f_, f_, f_, f_, f_, f_, f_, f_, f_, f_, f_, f_, f_, f_, f_] (by kernel_rfl) rfl rfl ⟨n1, n2, pm, pk, qm, qk, PN.out, QN.out, BN.out, HN.out.drew⟩ (fun hHeld => ?_)
        refine pure_ (i := 0) (N := some 71) (v := ?_) (a' := ?_) #[t_, f_, f_, f_, f_, f_, f_, f_, f_, f_, f_, f_, f_, f_, f_, f_, f_, f_, f_, f_, f_, f_, f_, f_, f_, f_, f_, f_, f_, f_] rfl rfl (by kernel_rfl) (fun _ _ _ h => h) (Or.inl ⟨by rfl, ?_⟩) ?_ ?_
        rotate_left
        · intro w'
          go_simp
          with_reducible rfl
        rotate_left
        · simp only [Act.put, sa_, sz_, ss_, i64_w, i32_w]
          rfl
        refine pure_ (i := 1) (N := some 72) (v := ?_) (a' := ?_) #[t_, t_, f_, f_, f_, f_, f_, f_, f_, f_, f_, f_, f_, f_, f_, f_, f_, f_, f_, f_, f_, f_, f_, f_, f_, f_, f_, f_, f_, f_] rfl rfl (by kernel_rfl) (fun _ _ _ h => h) (Or.inl ⟨by rfl, ?_⟩) ?_ ?_
        rotate_left
        · intro w'
          go_simp
          with_reducible rfl
        rotate_left
        · simp only [Act.put, sa_, sz_, ss_, i64_w, i32_w]
          rfl
        refine pure_ (i := 2) (N := some 73) (v := ?_) (a' := ?_) #[t_, t_, t_, f_, f_, f_, f_, f_, f_, f_, f_, f_, f_, f_, f_, f_, f_, f_, f_, f_, f_, f_, f_, f_, f_, f_, f_, f_, f_, f_] rfl rfl (by kernel_rfl) (fun _ _ _ h => h) (Or.inl ⟨by rfl, ?_⟩) ?_ ?_
        rotate_left
        · intro w'
          go_simp
          with_reducible rfl
        rotate_left
        · simp only [Act.put, sa_, sz_, ss_, i64_w, i32_w]
          rfl
        refine pure_ (i := 3) (N := some 74) (v := ?_) (a' := ?_) #[t_, t_, t_, t_, f_, f_, f_, f_, f_, f_, f_, f_, f_, f_, f_, f_, f_, f_, f_, f_, f_, f_, f_, f_, f_, f_, f_, f_, f_, f_] rfl rfl (by kernel_rfl) (fun _ _ _ h => h) (Or.inl ⟨by rfl, ?_⟩) ?_ ?_
        rotate_left
        · intro w'
          go_simp
          with_reducible rfl
        rotate_left
        · simp only [Act.put, sa_, sz_, ss_, i64_w, i32_w]
          rfl
        refine pure_ (i := 4) (N := some 75) (v := ?_) (a' := ?_) #[t_, t_, t_, t_, t_, f_, f_, f_, f_, f_, f_, f_, f_, f_, f_, f_, f_, f_, f_, f_, f_, f_, f_, f_, f_, f_, f_, f_, f_, f_] rfl rfl (by kernel_rfl) (fun _ _ _ h => h) (Or.inl ⟨by rfl, ?_⟩) ?_ ?_
        rotate_left
        · intro w'
          go_simp
          with_reducible rfl
        rotate_left
        · simp only [Act.put, sa_, sz_, ss_, i64_w, i32_w]
          rfl
        refine pure_ (i := 5) (N := some 76) (v := ?_) (a' := ?_) #[t_, t_, t_, t_, t_, t_, f_, f_, f_, f_, f_, f_, f_, f_, f_, f_, f_, f_, f_, f_, f_, f_, f_, f_, f_, f_, f_, f_, f_, f_] rfl rfl (by kernel_rfl) (fun _ _ _ h => h) (Or.inl ⟨by rfl, ?_⟩) ?_ ?_
        rotate_left
        · intro w'
          go_simp
          with_reducible rfl
        rotate_left
        · simp only [Act.put, sa_, sz_, ss_, i64_w, i32_w]
          rfl
        refine pure_ (i := 9) (N := some 80) (v := ?_) (a' := ?_) #[t_, t_, t_, t_, t_, t_, f_, f_, f_, t_, f_, f_, f_, f_, f_, f_, f_, f_, f_, f_, f_, f_, f_, f_, f_, f_, f_, f_, f_, f_] rfl rfl (by kernel_rfl) (fun _ _ _ h => h) (Or.inl ⟨by rfl, ?_⟩) ?_ ?_
        rotate_left
        · intro w'
          go_simp
          with_reducible rfl
        rotate_left
        · simp only [Act.put, sa_, sz_, ss_, i64_w, i32_w]
          rfl
        refine pure_ (i := 10) (N := some 81) (v := ?_) (a' := ?_) #[t_, t_, t_, t_, t_, t_, f_, f_, f_, t_, t_, f_, f_, f_, f_, f_, f_, f_, f_, f_, f_, f_, f_, f_, f_, f_, f_, f_, f_, f_] rfl rfl (by kernel_rfl) (fun _ _ _ h => h) (Or.inl ⟨by rfl, ?_⟩) ?_ ?_
        rotate_left
        · intro w'
          go_simp
          with_reducible rfl
        rotate_left
        · simp only [Act.put, sa_, sz_, ss_, i64_w, i32_w]
          rfl
        refine pure_ (i := 15) (N := some 86) (v := ?_) (a' := ?_) #[t_, t_, t_, t_, t_, t_, f_, f_, f_, t_, t_, f_, f_, f_, f_, t_, f_, f_, f_, f_, f_, f_, f_, f_, f_, f_, f_, f_, f_, f_] rfl rfl (by kernel_rfl) (fun _ _ _ h => h) (Or.inl ⟨by rfl, ?_⟩) ?_ ?_
        rotate_left
        · intro w'
          go_simp
          with_reducible rfl
        rotate_left
        · simp only [Act.put, sa_, sz_, ss_, i64_w, i32_w]
          rfl
        refine pure_ (i := 16) (N := some 87) (v := ?_) (a' := ?_) #[t_, t_, t_, t_, t_, t_, f_, f_, f_, t_, t_, f_, f_, f_, f_, t_, t_, f_, f_, f_, f_, f_, f_, f_, f_, f_, f_, f_, f_, f_] rfl rfl (by kernel_rfl) (fun _ _ _ h => h) (Or.inl ⟨by rfl, ?_⟩) ?_ ?_
        rotate_left
        · intro w'
          go_simp
          with_reducible rfl
        rotate_left
        · simp only [Act.put, sa_, sz_, ss_, i64_w, i32_w]
          rfl
        refine pure_ (i := 20) (N := some 91) (v := ?_) (a' := ?_) #[t_, t_, t_, t_, t_, t_, f_, f_, f_, t_, t_, f_, f_, f_, f_, t_, t_, f_, f_, f_, t_, f_, f_, f_, f_, f_, f_, f_, f_, f_] rfl rfl (by kernel_rfl) (fun _ _ _ h => h) (Or.inl ⟨by rfl, ?_⟩) ?_ ?_
        rotate_left
        · intro w'
          go_simp
          with_reducible rfl
        rotate_left
        · simp only [Act.put, sa_, sz_, ss_, i64_w, i32_w]
          rfl
        refine pure_ (i := 21) (N := some 92) (v := ?_) (a' := ?_) #[t_, t_, t_, t_, t_, t_, f_, f_, f_, t_, t_, f_, f_, f_, f_, t_, t_, f_, f_, f_, t_, t_, f_, f_, f_, f_, f_, f_, f_, f_] rfl rfl (by kernel_rfl) (fun _ _ _ h => h) (Or.inl ⟨by rfl, ?_⟩) ?_ ?_
        rotate_left
        · intro w'
          go_simp
          with_reducible rfl
        rotate_left
        · simp only [Act.put, sa_, sz_, ss_, i64_w, i32_w]
          rfl
        refine take_ (i := 6) (N := some 77) (v := ?_) (a' := ?_) #[t_, t_, t_, t_, t_, t_, t_, f_, f_, t_, t_, f_, f_, f_, f_, t_, t_, f_, f_, f_, t_, t_, f_, f_, f_, f_, f_, f_, f_, f_] rfl rfl (by kernel_rfl) (fun _ _ _ h => h) (Or.inl ⟨by rfl, ?_⟩) hHeld ?_ ?_
        rotate_left
        · rintro w' ⟨s0, s1, s2, s3, s4, s5, s6, s7, s8, s9⟩
          go_simp
          with_reducible rfl
        rotate_left
        · simp only [Act.put, sa_, sz_, ss_, i64_w, i32_w]
          rfl
        refine pure_ (i := 7) (N := some 78) (v := ?_) (a' := ?_) #[t_, t_, t_, t_, t_, t_, t_, t_, f_, t_, t_, f_, f_, f_, f_, t_, t_, f_, f_, f_, t_, t_, f_, f_, f_, f_, f_, f_, f_, f_] rfl rfl (by kernel_rfl) (fun _ _ _ h => h) (Or.inl ⟨by rfl, ?_⟩) ?_ ?_
        rotate_left
        · intro w'
          go_simp
          with_reducible rfl
        rotate_left
        · simp only [Act.put, sa_, sz_, ss_, i64_w, i32_w]
          rfl
        refine take_ (i := 8) (N := some 79) (v := ?_) (a' := ?_) #[t_, t_, t_, t_, t_, t_, t_, t_, t_, t_, t_, f_, f_, f_, f_, t_, t_, f_, f_, f_, t_, t_, f_, f_, f_, f_, f_, f_, f_, f_] rfl rfl (by kernel_rfl) (fun _ _ _ h => h) (Or.inl ⟨by rfl, ?_⟩) hHeld ?_ ?_
        rotate_left
        · rintro w' ⟨s0, s1, s2, s3, s4, s5, s6, s7, s8, s9⟩
          go_simp
          with_reducible rfl
        rotate_left
        · simp only [Act.put, sa_, sz_, ss_, i64_w, i32_w]
          rfl
        refine take_ (i := 11) (N := some 82) (v := ?_) (a' := ?_) #[t_, t_, t_, t_, t_, t_, t_, t_, t_, t_, t_, t_, f_, f_, f_, t_, t_, f_, f_, f_, t_, t_, f_, f_, f_, f_, f_, f_, f_, f_] rfl rfl (by kernel_rfl) (fun _ _ _ h => h) (Or.inl ⟨by rfl, ?_⟩) hHeld ?_ ?_
        rotate_left
        · rintro w' ⟨s0, s1, s2, s3, s4, s5, s6, s7, s8, s9⟩
          go_simp
          with_reducible rfl
        rotate_left
        · simp only [Act.put, sa_, sz_, ss_, i64_w, i32_w]
          rfl
        refine pure_ (i := 12) (N := some 83) (v := ?_) (a' := ?_) #[t_, t_, t_, t_, t_, t_, t_, t_, t_, t_, t_, t_, t_, f_, f_, t_, t_, f_, f_, f_, t_, t_, f_, f_, f_, f_, f_, f_, f_, f_] rfl rfl (by kernel_rfl) (fun _ _ _ h => h) (Or.inl ⟨by rfl, ?_⟩) ?_ ?_
        rotate_left
        · intro w'
          go_simp
          with_reducible rfl
        rotate_left
        · simp only [Act.put, sa_, sz_, ss_, i64_w, i32_w]
          rfl
        refine take_ (i := 13) (N := some 84) (v := ?_) (a' := ?_) #[t_, t_, t_, t_, t_, t_, t_, t_, t_, t_, t_, t_, t_, t_, f_, t_, t_, f_, f_, f_, t_, t_, f_, f_, f_, f_, f_, f_, f_, f_] rfl rfl (by kernel_rfl) (fun _ _ _ h => h) (Or.inl ⟨by rfl, ?_⟩) hHeld ?_ ?_
        rotate_left
        · rintro w' ⟨s0, s1, s2, s3, s4, s5, s6, s7, s8, s9⟩
          go_simp
          with_reducible rfl
        rotate_left
        · simp only [Act.put, sa_, sz_, ss_, i64_w, i32_w]
          rfl
        refine pure_ (i := 14) (N := some 85) (v := ?_) (a' := ?_) #[t_, t_, t_, t_, t_, t_, t_, t_, t_, t_, t_, t_, t_, t_, t_, t_, t_, f_, f_, f_, t_, t_, f_, f_, f_, f_, f_, f_, f_, f_] rfl rfl (by kernel_rfl) (fun _ _ _ h => h) (Or.inl ⟨by rfl, ?_⟩) ?_ ?_
        rotate_left
        · intro w'
          go_simp
          with_reducible rfl
        rotate_left
        · simp only [Act.put, sa_, sz_, ss_, i64_w, i32_w]
          rfl
        refine take_ (i := 17) (N := some 88) (v := ?_) (a' := ?_) #[t_, t_, t_, t_, t_, t_, t_, t_, t_, t_, t_, t_, t_, t_, t_, t_, t_, t_, f_, f_, t_, t_, f_, f_, f_, f_, f_, f_, f_, f_] rfl rfl (by kernel_rfl) (fun _ _ _ h => h) (Or.inl ⟨by rfl, ?_⟩) hHeld ?_ ?_
        rotate_left
        · rintro w' ⟨s0, s1, s2, s3, s4, s5, s6, s7, s8, s9⟩
          go_simp
          with_reducible rfl
        rotate_left
        · simp only [Act.put, sa_, sz_, ss_, i64_w, i32_w]
          rfl
        refine pure_ (i := 18) (N := some 89) (v := ?_) (a' := ?_) #[t_, t_, t_, t_, t_, t_, t_, t_, t_, t_, t_, t_, t_, t_, t_, t_, t_, t_, t_, f_, t_, t_, f_, f_, f_, f_, f_, f_, f_, f_] rfl rfl (by kernel_rfl) (fun _ _ _ h => h) (Or.inl ⟨by rfl, ?_⟩) ?_ ?_
        rotate_left
        · intro w'
          go_simp
          with_reducible rfl
        rotate_left
        · simp only [Act.put, sa_, sz_, ss_, i64_w, i32_w]
          rfl
        refine take_ (i := 19) (N := some 90) (v := ?_) (a' := ?_) #[t_, t_, t_, t_, t_, t_, t_, t_, t_, t_, t_, t_, t_, t_, t_, t_, t_, t_, t_, t_, t_, t_, f_, f_, f_, f_, f_, f_, f_, f_] rfl rfl (by kernel_rfl) (fun _ _ _ h => h) (Or.inl ⟨by rfl, ?_⟩) hHeld ?_ ?_
        rotate_left
        · rintro w' ⟨s0, s1, s2, s3, s4, s5, s6, s7, s8, s9⟩
          go_simp
          with_reducible rfl
        rotate_left
        · simp only [Act.put, sa_, sz_, ss_, i64_w, i32_w]
          rfl
        refine take_ (i := 22) (N := some 93) (v := ?_) (a' := ?_) #[t_, t_, t_, t_, t_, t_, t_, t_, t_, t_, t_, t_, t_, t_, t_, t_, t_, t_, t_, t_, t_, t_, t_, f_, f_, f_, f_, f_, f_, f_] rfl rfl (by kernel_rfl) (fun _ _ _ h => h) (Or.inl ⟨by rfl, ?_⟩) hHeld ?_ ?_
        rotate_left
        · rintro w' ⟨s0, s1, s2, s3, s4, s5, s6, s7, s8, s9⟩
          go_simp
          with_reducible rfl
        rotate_left
        · simp only [Act.put, sa_, sz_, ss_, i64_w, i32_w]
          rfl
        refine pure_ (i := 23) (N := some 94) (v := ?_) (a' := ?_) #[t_, t_, t_, t_, t_, t_, t_, t_, t_, t_, t_, t_, t_, t_, t_, t_, t_, t_, t_, t_, t_, t_, t_, t_, f_, f_, f_, f_, f_, f_] rfl rfl (by kernel_rfl) (fun _ _ _ h => h) (Or.inl ⟨by rfl, ?_⟩) ?_ ?_
        rotate_left
        · intro w'
          go_simp
          with_reducible rfl
        rotate_left
        · simp only [Act.put, sa_, sz_, ss_, i64_w, i32_w]
          rfl
        refine take_ (i := 24) (N := some 95) (v := ?_) (a' := ?_) #[t_, t_, t_, t_, t_, t_, t_, t_, t_, t_, t_, t_, t_, t_, t_, t_, t_, t_, t_, t_, t_, t_, t_, t_, t_, f_, f_, f_, f_, f_] rfl rfl (by kernel_rfl) (fun _ _ _ h => h) (Or.inl ⟨by rfl, ?_⟩) hHeld ?_ ?_
        rotate_left
        · rintro w' ⟨s0, s1, s2, s3, s4, s5, s6, s7, s8, s9⟩
          go_simp
          with_reducible rfl
        rotate_left
        · simp only [Act.put, sa_, sz_, ss_, i64_w, i32_w]
          rfl
        refine pure_ (i := 25) (N := some 96) (v := ?_) (a' := ?_) #[t_, t_, t_, t_, t_, t_, t_, t_, t_, t_, t_, t_, t_, t_, t_, t_, t_, t_, t_, t_, t_, t_, t_, t_, t_, t_, f_, f_, f_, f_] rfl rfl (by kernel_rfl) (fun _ _ _ h => h) (Or.inl ⟨by rfl, ?_⟩) ?_ ?_
        rotate_left
        · intro w'
          go_simp
          with_reducible rfl
        rotate_left
        · simp only [Act.put, sa_, sz_, ss_, i64_w, i32_w]
          rfl
        refine pure_ (i := 26) (N := some 97) (v := ?_) (a' := ?_) #[t_, t_, t_, t_, t_, t_, t_, t_, t_, t_, t_, t_, t_, t_, t_, t_, t_, t_, t_, t_, t_, t_, t_, t_, t_, t_, t_, f_, f_, f_] rfl rfl (by kernel_rfl) (fun _ _ _ h => h) (Or.inl ⟨by rfl, ?_⟩) ?_ ?_
        rotate_left
        · intro w'
          go_simp
          with_reducible rfl
        rotate_left
        · simp only [Act.put, sa_, sz_, ss_, i64_w, i32_w]
          rfl
        refine last_ (i := 27) (N := none) #[t_, t_, t_, t_, t_, t_, t_, t_, t_, t_, t_, t_, t_, t_, t_, t_, t_, t_, t_, t_, t_, t_, t_, t_, t_, t_, t_, t_, f_, f_] rfl rfl (by kernel_rfl) (by decide) (fun K hK => ?_)
        have c1 := blk_cell hHeld.2.2.2.2.2.2.1 i _ (upto_here h)
        have f1 := blk_free hHeld.2.2.2.2.2.2.1 i
        refine skip_ (w1 := ?_) (by rfl) rfl ?_ ?_
        rotate_left
        · go_simp
          rfl
        refine letter_ ?_
        intro W27 hW27
        have P27 : W27.heap[p]? = some (.cells (ic (upto LO (i + 1)) n) 3 (0, 0)) := by rw [hW27, ← upto_set h e0]; exact set_blk (i := i) hHeld.2.2.2.2.2.2.1 (.int .i64 (min lm lk))
        have Q27 : W27.heap[q]? = some (.cells (ic (upto HI i) n) 3 (0, 0)) := by rw [hW27]; exact set_other hHeld.2.2.2.2.2.2.2.1 (fun e => ne e.symm)
        have N27 : W27.heap[QQ]? = some (.cells #[.int .i64 9, .int .i64 (m : Nat), .int .i64 (k : Nat), .int .u64 s0, .int .u64 s1, .int .u64 s2, .int .u64 s3, .int .i64 x4, .int .i64 x5, .int .i64 x6, .int .i64 x7, .bool x8] 49 (0, 0)) := by rw [hW27]; exact set_other hHeld.2.2.2.2.2.2.2.2.1 np
        have B27 : Below w.heap.size w W27 := by rw [hW27]; exact below_set hHeld.2.2.2.2.2.2.2.2.2 lp _
        clear hW27 c1 f1
        refine hK.out _ _ ?_
        clear hK K
        refine pure_ (i := 28) (N := some 98) (v := ?_) (a' := ?_) #[t_, t_, t_, t_, t_, t_, t_, t_, t_, t_, t_, t_, t_, t_, t_, t_, t_, t_, t_, t_, t_, t_, t_, t_, t_, t_, t_, t_, t_, f_] rfl rfl (by kernel_rfl) (fun _ _ _ h => h) (Or.inl ⟨by rfl, ?_⟩) ?_ ?_
        rotate_left
        · intro w'
          go_simp
          with_reducible rfl
        rotate_left
        · simp only [Act.put, sa_, sz_, ss_, i64_w, i32_w]
          rfl
        refine last_ (i := 29) (N := none) #[t_, t_, t_, t_, t_, t_, t_, t_, t_, t_, t_, t_, t_, t_, t_, t_, t_, t_, t_, t_, t_, t_, t_, t_, t_, t_, t_, t_, t_, t_] rfl rfl (by kernel_rfl) (by decide) (fun K hK => ?_)
        have c2 := blk_cell Q27 i _ (upto_here h)
        have f2 := blk_free Q27 i
        refine skip_ (w1 := ?_) (by rfl) rfl ?_ ?_
        rotate_left
        · go_simp
          rfl
        refine letter_ ?_
        intro W29 hW29
        have P29 : W29.heap[p]? = some (.cells (ic (upto LO (i + 1)) n) 3 (0, 0)) := by rw [hW29]; exact set_other P27 ne
        have Q29 : W29.heap[q]? = some (.cells ((ic (upto HI i) n).setIfInBounds i (.int .i64 (max hm' hk'))) 3 (0, 0)) := by rw [hW29]; exact set_blk (i := i) Q27 (.int .i64 (max hm' hk'))
        have N29 : W29.heap[QQ]? = some (.cells #[.int .i64 9, .int .i64 (m : Nat), .int .i64 (k : Nat), .int .u64 s0, .int .u64 s1, .int .u64 s2, .int .u64 s3, .int .i64 x4, .int .i64 x5, .int .i64 x6, .int .i64 x7, .bool x8] 49 (0, 0)) := by rw [hW29]; exact set_other N27 nq
        have B29 : Below w.heap.size w W29 := by rw [hW29]; exact below_set B27 lq _
        clear hW29 c2 f2
        refine hK.out _ _ ?_
        clear hK K
        refine done_ (by kernel_rfl) ?_
        have n1 := blk_cell N29 1 (.int .i64 (m : Nat)) rfl
        have n2 := blk_cell N29 2 (.int .i64 (k : Nat)) rfl
        have q1 := blk_cell Q29 m (.int .i64 hm') (by rw [Array.getElem?_setIfInBounds_ne (by omega), upto_at h hm, EQM.out])
        have q2 := blk_cell Q29 k (.int .i64 hk') (by rw [Array.getElem?_setIfInBounds_ne (by omega), upto_at h hk, EQK.out])
        by_cases hmin : min hm' hk' = -1
        · rw [if_pos hmin] at e1
          have tA : (min hm' hk' == -1) = true := by simp [hmin]
          have tB : ((if hk' < hm' then hk' else hm') == -1) = true := by rw [hmi]; exact tA
          have c1 := blk_cell Q29 i _ (Array.getElem?_setIfInBounds_self_of_lt (by rw [ic_size]; exact h))
          have f1 := blk_free Q29 i
          have Q3 := set_blk (i := i) Q29 (.int .i64 (-1))
          rw [Array.setIfInBounds_setIfInBounds, upto_set h e1] at Q3
          have P3 := Lib.hid (set_other (i := i) (v := .int .i64 (-1)) P29 ne)
          have Q3 := Lib.hid Q3
          have H3 := fun N => Lib.hid (below_set (i := i) (below_drewN B29 N) lq (.int .i64 (-1)))
          clear e1 e0 P29 N29
          go_wp2
          go_quiet (fail)
          go_wp2
          go_roundw
          case rel => exact ⟨i + 1, by omega, by simp, P3, Q3, H3 _⟩
          case measure => simp [intOf]; omega
        · rw [if_neg hmin] at e1
          have tA : (min hm' hk' == -1) = false := by simp [hmin]
          have tB : ((if hk' < hm' then hk' else hm') == -1) = false := by rw [hmi]; exact tA
          have e2 := e1
          have Q3 := Q29
          rw [upto_set h e2] at Q3
          have P3 := Lib.hid P29
          have Q3 := Lib.hid Q3
          have H3 := fun N => Lib.hid (below_drewN B29 N)
          clear e1 e2 e0 P29 N29 Q29
          go_wp2
          go_quiet (fail)
          go_wp2
          go_roundw
          case rel => exact ⟨i + 1, by omega, by simp, P3, Q3, H3 _⟩
          case measure => simp [intOf]; omega
      · as_aux_lemma =>
        subst k0
        obtain ⟨ka1, ka2⟩ := ka
        obtain ⟨m, rfl⟩ := Int.eq_ofNat_of_zero_le ka1
        rw [Int.toNat_natCast] at e0 e1
        have hm : m < i := by omega
        have pm := blk_cell PN.out m _ (upto_at h hm)
        have qm := blk_cell QN.out m _ (upto_at h hm)
        have bm := HBD.out m (by omega)
        have n1 := blk_cell BN.out 1 _ rfl
        have n2 := blk_cell BN.out 2 _ rfl
        have n7 := blk_cell BN.out 7 _ rfl
        have n8 := blk_cell BN.out 8 _ rfl
        simp only [List.getElem_toArray, List.getElem_cons_zero, List.getElem_cons_succ] at n1 n2 n7 n8
        have np := Lib.hid (Nat.ne_of_gt HPW.out)
        have nq := Lib.hid (Nat.ne_of_gt HQW.out)
        have hmn : (m : Int) < (n : Int) := by omega
        have KL := Lib.hid (times_calls (LO m) x4 bm.1 r4)
        have KH := Lib.hid (times_calls (HI m) x5 bm.2 r5)
        clear hd bm
        generalize tm (LO m) x4 = u at *
        generalize tm (HI m) x5 = v at *
        generalize LO m = lm at *
        generalize HI m = hm' at *
        go_wp2
        generalize hW : wr.alloc (.cells #[.int .i64 10, .int .i64 (m : Nat), .int .i64 xb, .int .u64 s0, .int .u64 s1, .int .u64 s2, .int .u64 s3, .int .i64 x4, .int .i64 x5, .int .i64 x6, .int .i64 x7, .bool x8] 49) = v1 at *
        clear hW
        generalize wr.heap.size = QQ at *
        have np := np.out
        have nq := nq.out
        refine start_ (n := 24) (S := fun w' => w'.cell? ⟨QQ, 1, none⟩ = some (.int .i64 (m : Nat)) ∧ w'.cell? ⟨QQ, 7, none⟩ = some (.int .i64 x4) ∧ w'.cell? ⟨QQ, 8, none⟩ = some (.int .i64 x5) ∧ w'.cell? ⟨p, m, none⟩ = some (.int .i64 lm) ∧ w'.cell? ⟨q, m, none⟩ = some (.int .i64 hm') ∧ w'.heap[p]? = some (.cells (ic (upto LO i) n) 3 (0, 0)) ∧ w'.heap[q]? = some (.cells (ic (upto HI i) n) 3 (0, 0)) ∧ w'.heap[QQ]? = some (.cells #[.int .i64 10, .int .i64 (m : Nat), .int .i64 xb, .int .u64 s0, .int .u64 s1, .int .u64 s2, .int .u64 s3, .int .i64 x4, .int .i64 x5, .int .i64 x6, .int .i64 x7, .bool x8] 49 (0, 0)) ∧ Below w.heap.size w w') (ds := [21, 23]) #[f_, f_, f_, f_, f_, f_, f_, f_, f_, f_, f_, f_, f_, f_, f_, f_, f_, f_, f_, f_, f_, f_, f_, f_] (by kernel_rfl) rfl rfl ⟨n1, n7, n8, pm, qm, PN.out, QN.out, BN.out, HN.out.drew⟩ (fun hHeld => ?_)
        refine pure_ (i := 0) (N := some 116) (v := ?_) (a' := ?_) #[t_, f_, f_, f_, f_, f_, f_, f_, f_, f_, f_, f_, f_, f_, f_, f_, f_, f_, f_, f_, f_, f_, f_, f_] rfl rfl (by kernel_rfl) (fun _ _ _ h => h) (Or.inl ⟨by rfl, ?_⟩) ?_ ?_
        rotate_left
        · intro w'
          go_simp
          with_reducible rfl
        rotate_left
        · simp only [Act.put, sa_, sz_, ss_, i64_w, i32_w]
          rfl
        refine pure_ (i := 1) (N := some 117) (v := ?_) (a' := ?_) #[t_, t_, f_, f_, f_, f_, f_, f_, f_, f_, f_, f_, f_, f_, f_, f_, f_, f_, f_, f_, f_, f_, f_, f_] rfl rfl (by kernel_rfl) (fun _ _ _ h => h) (Or.inl ⟨by rfl, ?_⟩) ?_ ?_
        rotate_left
        · intro w'
          go_simp
          with_reducible rfl
        rotate_left
        · simp only [Act.put, sa_, sz_, ss_, i64_w, i32_w]
          rfl
        refine pure_ (i := 2) (N := some 118) (v := ?_) (a' := ?_) #[t_, t_, t_, f_, f_, f_, f_, f_, f_, f_, f_, f_, f_, f_, f_, f_, f_, f_, f_, f_, f_, f_, f_, f_] rfl rfl (by kernel_rfl) (fun _ _ _ h => h) (Or.inl ⟨by rfl, ?_⟩) ?_ ?_
        rotate_left
        · intro w'
          go_simp
          with_reducible rfl
        rotate_left
        · simp only [Act.put, sa_, sz_, ss_, i64_w, i32_w]
          rfl
        refine pure_ (i := 3) (N := some 119) (v := ?_) (a' := ?_) #[t_, t_, t_, t_, f_, f_, f_, f_, f_, f_, f_, f_, f_, f_, f_, f_, f_, f_, f_, f_, f_, f_, f_, f_] rfl rfl (by kernel_rfl) (fun _ _ _ h => h) (Or.inl ⟨by rfl, ?_⟩) ?_ ?_
        rotate_left
        · intro w'
          go_simp
          with_reducible rfl
        rotate_left
        · simp only [Act.put, sa_, sz_, ss_, i64_w, i32_w]
          rfl
        refine pure_ (i := 4) (N := some 120) (v := ?_) (a' := ?_) #[t_, t_, t_, t_, t_, f_, f_, f_, f_, f_, f_, f_, f_, f_, f_, f_, f_, f_, f_, f_, f_, f_, f_, f_] rfl rfl (by kernel_rfl) (fun _ _ _ h => h) (Or.inl ⟨by rfl, ?_⟩) ?_ ?_
        rotate_left
        · intro w'
          go_simp
          with_reducible rfl
        rotate_left
        · simp only [Act.put, sa_, sz_, ss_, i64_w, i32_w]
          rfl
        refine pure_ (i := 5) (N := some 121) (v := ?_) (a' := ?_) #[t_, t_, t_, t_, t_, t_, f_, f_, f_, f_, f_, f_, f_, f_, f_, f_, f_, f_, f_, f_, f_, f_, f_, f_] rfl rfl (by kernel_rfl) (fun _ _ _ h => h) (Or.inl ⟨by rfl, ?_⟩) ?_ ?_
        rotate_left
        · intro w'
          go_simp
          with_reducible rfl
        rotate_left
        · simp only [Act.put, sa_, sz_, ss_, i64_w, i32_w]
          rfl
        refine pure_ (i := 9) (N := some 125) (v := ?_) (a' := ?_) #[t_, t_, t_, t_, t_, t_, f_, f_, f_, t_, f_, f_, f_, f_, f_, f_, f_, f_, f_, f_, f_, f_, f_, f_] rfl rfl (by kernel_rfl) (fun _ _ _ h => h) (Or.inl ⟨by rfl, ?_⟩) ?_ ?_
        rotate_left
        · intro w'
          go_simp
          with_reducible rfl
        rotate_left
        · simp only [Act.put, sa_, sz_, ss_, i64_w, i32_w]
          rfl
        refine pure_ (i := 12) (N := some 128) (v := ?_) (a' := ?_) #[t_, t_, t_, t_, t_, t_, f_, f_, f_, t_, f_, f_, t_, f_, f_, f_, f_, f_, f_, f_, f_, f_, f_, f_] rfl rfl (by kernel_rfl) (fun _ _ _ h => h) (Or.inl ⟨by rfl, ?_⟩) ?_ ?_
        rotate_left
        · intro w'
          go_simp
          with_reducible rfl
        rotate_left
        · simp only [Act.put, sa_, sz_, ss_, i64_w, i32_w]
          rfl
        refine pure_ (i := 13) (N := some 129) (v := ?_) (a' := ?_) #[t_, t_, t_, t_, t_, t_, f_, f_, f_, t_, f_, f_, t_, t_, f_, f_, f_, f_, f_, f_, f_, f_, f_, f_] rfl rfl (by kernel_rfl) (fun _ _ _ h => h) (Or.inl ⟨by rfl, ?_⟩) ?_ ?_
        rotate_left
        · intro w'
          go_simp
          with_reducible rfl
        rotate_left
        · simp only [Act.put, sa_, sz_, ss_, i64_w, i32_w]
          rfl
        refine pure_ (i := 17) (N := some 133) (v := ?_) (a' := ?_) #[t_, t_, t_, t_, t_, t_, f_, f_, f_, t_, f_, f_, t_, t_, f_, f_, f_, t_, f_, f_, f_, f_, f_, f_] rfl rfl (by kernel_rfl) (fun _ _ _ h => h) (Or.inl ⟨by rfl, ?_⟩) ?_ ?_
        rotate_left
        · intro w'
          go_simp
          with_reducible rfl
        rotate_left
        · simp only [Act.put, sa_, sz_, ss_, i64_w, i32_w]
          rfl
        refine take_ (i := 6) (N := some 122) (v := ?_) (a' := ?_) #[t_, t_, t_, t_, t_, t_, t_, f_, f_, t_, f_, f_, t_, t_, f_, f_, f_, t_, f_, f_, f_, f_, f_, f_] rfl rfl (by kernel_rfl) (fun _ _ _ h => h) (Or.inl ⟨by rfl, ?_⟩) hHeld ?_ ?_
        rotate_left
        · rintro w' ⟨s0, s1, s2, s3, s4, s5, s6, s7, s8⟩
          go_simp
          with_reducible rfl
        rotate_left
        · simp only [Act.put, sa_, sz_, ss_, i64_w, i32_w]
          rfl
        refine pure_ (i := 7) (N := some 123) (v := ?_) (a' := ?_) #[t_, t_, t_, t_, t_, t_, t_, t_, f_, t_, f_, f_, t_, t_, f_, f_, f_, t_, f_, f_, f_, f_, f_, f_] rfl rfl (by kernel_rfl) (fun _ _ _ h => h) (Or.inl ⟨by rfl, ?_⟩) ?_ ?_
        rotate_left
        · intro w'
          go_simp
          with_reducible rfl
        rotate_left
        · simp only [Act.put, sa_, sz_, ss_, i64_w, i32_w]
          rfl
        refine take_ (i := 8) (N := some 124) (v := ?_) (a' := ?_) #[t_, t_, t_, t_, t_, t_, t_, t_, t_, t_, f_, f_, t_, t_, f_, f_, f_, t_, f_, f_, f_, f_, f_, f_] rfl rfl (by kernel_rfl) (fun _ _ _ h => h) (Or.inl ⟨by rfl, ?_⟩) hHeld ?_ ?_
        rotate_left
        · rintro w' ⟨s0, s1, s2, s3, s4, s5, s6, s7, s8⟩
          go_simp
          with_reducible rfl
        rotate_left
        · simp only [Act.put, sa_, sz_, ss_, i64_w, i32_w]
          rfl
        refine take_ (i := 10) (N := some 126) (v := ?_) (a' := ?_) #[t_, t_, t_, t_, t_, t_, t_, t_, t_, t_, t_, f_, t_, t_, f_, f_, f_, t_, f_, f_, f_, f_, f_, f_] rfl rfl (by kernel_rfl) (fun _ _ _ h => h) (Or.inl ⟨by rfl, ?_⟩) hHeld ?_ ?_
        rotate_left
        · rintro w' ⟨s0, s1, s2, s3, s4, s5, s6, s7, s8⟩
          go_simp
          with_reducible rfl
        rotate_left
        · simp only [Act.put, sa_, sz_, ss_, i64_w, i32_w]
          rfl
        refine take_ (i := 14) (N := some 130) (v := ?_) (a' := ?_) #[t_, t_, t_, t_, t_, t_, t_, t_, t_, t_, t_, f_, t_, t_, t_, f_, f_, t_, f_, f_, f_, f_, f_, f_] rfl rfl (by kernel_rfl) (fun _ _ _ h => h) (Or.inl ⟨by rfl, ?_⟩) hHeld ?_ ?_
        rotate_left
        · rintro w' ⟨s0, s1, s2, s3, s4, s5, s6, s7, s8⟩
          go_simp
          with_reducible rfl
        rotate_left
        · simp only [Act.put, sa_, sz_, ss_, i64_w, i32_w]
          rfl
        refine pure_ (i := 15) (N := some 131) (v := ?_) (a' := ?_) #[t_, t_, t_, t_, t_, t_, t_, t_, t_, t_, t_, f_, t_, t_, t_, t_, f_, t_, f_, f_, f_, f_, f_, f_] rfl rfl (by kernel_rfl) (fun _ _ _ h => h) (Or.inl ⟨by rfl, ?_⟩) ?_ ?_
        rotate_left
        · intro w'
          go_simp
          with_reducible rfl
        rotate_left
        · simp only [Act.put, sa_, sz_, ss_, i64_w, i32_w]
          rfl
        refine take_ (i := 16) (N := some 132) (v := ?_) (a' := ?_) #[t_, t_, t_, t_, t_, t_, t_, t_, t_, t_, t_, f_, t_, t_, t_, t_, t_, t_, f_, f_, f_, f_, f_, f_] rfl rfl (by kernel_rfl) (fun _ _ _ h => h) (Or.inl ⟨by rfl, ?_⟩) hHeld ?_ ?_
        rotate_left
        · rintro w' ⟨s0, s1, s2, s3, s4, s5, s6, s7, s8⟩
          go_simp
          with_reducible rfl
        rotate_left
        · simp only [Act.put, sa_, sz_, ss_, i64_w, i32_w]
          rfl
        refine take_ (i := 18) (N := some 134) (v := ?_) (a' := ?_) #[t_, t_, t_, t_, t_, t_, t_, t_, t_, t_, t_, f_, t_, t_, t_, t_, t_, t_, t_, f_, f_, f_, f_, f_] rfl rfl (by kernel_rfl) (fun _ _ _ h => h) (Or.inl ⟨by rfl, ?_⟩) hHeld ?_ ?_
        rotate_left
        · rintro w' ⟨s0, s1, s2, s3, s4, s5, s6, s7, s8⟩
          go_simp
          with_reducible rfl
        rotate_left
        · simp only [Act.put, sa_, sz_, ss_, i64_w, i32_w]
          rfl
        refine one_ (i := 11) (N := some 127) #[t_, t_, t_, t_, t_, t_, t_, t_, t_, t_, t_, t_, t_, t_, t_, t_, t_, t_, t_, f_, f_, f_, f_, f_] rfl rfl (by kernel_rfl) (by decide) (fun K hK => ?_)
        refine goes_ Tryz.func52 (by kernel_rfl) rfl #[.int .i64 lm, .int .i64 x4] (by rfl) rfl rfl (by simp only [List.map_toArray, List.map_cons, List.map_nil]; rfl) ?_
        with_reducible refine (KL.out _).mono ?_
        rintro e X1 ⟨rfl, hb⟩
        refine ⟨_, rfl, ?_⟩
        refine hK.out _ _ ⟨(below_of hb hHeld.1), (below_of hb hHeld.2.1), (below_of hb hHeld.2.2.1), (below_of hb hHeld.2.2.2.1), (below_of hb hHeld.2.2.2.2.1), (below_blk hb hHeld.2.2.2.2.2.1), (below_blk hb hHeld.2.2.2.2.2.2.1), (below_blk hb hHeld.2.2.2.2.2.2.2.1), (below_step hHeld.2.2.2.2.2.2.2.2 hb)⟩ (fun hHeld => ?_)
        clear hK K
        refine norm_ (a' := ?_) ?_ ?_
        rotate_left
        · show Act.put _ (some 127) _ = _
          simp only [Act.put, sa_, sz_, ss_, i64_w, i32_w]
          rfl
        refine one_ (i := 19) (N := some 135) #[t_, t_, t_, t_, t_, t_, t_, t_, t_, t_, t_, t_, t_, t_, t_, t_, t_, t_, t_, t_, f_, f_, f_, f_] rfl rfl (by kernel_rfl) (by decide) (fun K hK => ?_)
        refine goes_ Tryz.func52 (by kernel_rfl) rfl #[.int .i64 hm', .int .i64 x5] (by rfl) rfl rfl (by simp only [List.map_toArray, List.map_cons, List.map_nil]; rfl) ?_
        with_reducible refine (KH.out _).mono ?_
        rintro e X2 ⟨rfl, hb⟩
        refine ⟨_, rfl, ?_⟩
        refine hK.out _ _ ⟨(below_of hb hHeld.1), (below_of hb hHeld.2.1), (below_of hb hHeld.2.2.1), (below_of hb hHeld.2.2.2.1), (below_of hb hHeld.2.2.2.2.1), (below_blk hb hHeld.2.2.2.2.2.1), (below_blk hb hHeld.2.2.2.2.2.2.1), (below_blk hb hHeld.2.2.2.2.2.2.2.1), (below_step hHeld.2.2.2.2.2.2.2.2 hb)⟩ (fun hHeld => ?_)
        clear hK K
        refine norm_ (a' := ?_) ?_ ?_
        rotate_left
        · show Act.put _ (some 135) _ = _
          simp only [Act.put, sa_, sz_, ss_, i64_w, i32_w]
          rfl
        refine pure_ (i := 20) (N := some 136) (v := ?_) (a' := ?_) #[t_, t_, t_, t_, t_, t_, t_, t_, t_, t_, t_, t_, t_, t_, t_, t_, t_, t_, t_, t_, t_, f_, f_, f_] rfl rfl (by kernel_rfl) (fun _ _ _ h => h) (Or.inl ⟨by rfl, ?_⟩) ?_ ?_
        rotate_left
        · intro w'
          go_simp
          with_reducible rfl
        rotate_left
        · simp only [Act.put, sa_, sz_, ss_, i64_w, i32_w]
          rfl
        refine last_ (i := 21) (N := none) #[t_, t_, t_, t_, t_, t_, t_, t_, t_, t_, t_, t_, t_, t_, t_, t_, t_, t_, t_, t_, t_, t_, f_, f_] rfl rfl (by kernel_rfl) (by decide) (fun K hK => ?_)
        have c1 := blk_cell hHeld.2.2.2.2.2.1 i _ (upto_here h)
        have f1 := blk_free hHeld.2.2.2.2.2.1 i
        refine skip_ (w1 := ?_) (by rfl) rfl ?_ ?_
        rotate_left
        · go_simp
          rfl
        refine letter_ ?_
        intro W27 hW27
        have P27 : W27.heap[p]? = some (.cells (ic (upto LO (i + 1)) n) 3 (0, 0)) := by rw [hW27, ← upto_set h e0]; exact set_blk (i := i) hHeld.2.2.2.2.2.1 (.int .i64 (u))
        have Q27 : W27.heap[q]? = some (.cells (ic (upto HI i) n) 3 (0, 0)) := by rw [hW27]; exact set_other hHeld.2.2.2.2.2.2.1 (fun e => ne e.symm)
        have N27 : W27.heap[QQ]? = some (.cells #[.int .i64 10, .int .i64 (m : Nat), .int .i64 xb, .int .u64 s0, .int .u64 s1, .int .u64 s2, .int .u64 s3, .int .i64 x4, .int .i64 x5, .int .i64 x6, .int .i64 x7, .bool x8] 49 (0, 0)) := by rw [hW27]; exact set_other hHeld.2.2.2.2.2.2.2.1 np
        have B27 : Below w.heap.size w W27 := by rw [hW27]; exact below_set hHeld.2.2.2.2.2.2.2.2 lp _
        clear hW27 c1 f1
        refine hK.out _ _ ?_
        clear hK K
        refine pure_ (i := 22) (N := some 137) (v := ?_) (a' := ?_) #[t_, t_, t_, t_, t_, t_, t_, t_, t_, t_, t_, t_, t_, t_, t_, t_, t_, t_, t_, t_, t_, t_, t_, f_] rfl rfl (by kernel_rfl) (fun _ _ _ h => h) (Or.inl ⟨by rfl, ?_⟩) ?_ ?_
        rotate_left
        · intro w'
          go_simp
          with_reducible rfl
        rotate_left
        · simp only [Act.put, sa_, sz_, ss_, i64_w, i32_w]
          rfl
        refine last_ (i := 23) (N := none) #[t_, t_, t_, t_, t_, t_, t_, t_, t_, t_, t_, t_, t_, t_, t_, t_, t_, t_, t_, t_, t_, t_, t_, t_] rfl rfl (by kernel_rfl) (by decide) (fun K hK => ?_)
        have c2 := blk_cell Q27 i _ (upto_here h)
        have f2 := blk_free Q27 i
        refine skip_ (w1 := ?_) (by rfl) rfl ?_ ?_
        rotate_left
        · go_simp
          rfl
        refine letter_ ?_
        intro W29 hW29
        have P29 : W29.heap[p]? = some (.cells (ic (upto LO (i + 1)) n) 3 (0, 0)) := by rw [hW29]; exact set_other P27 ne
        have Q29 : W29.heap[q]? = some (.cells (ic (upto HI (i + 1)) n) 3 (0, 0)) := by rw [hW29, ← upto_set h e1]; exact set_blk (i := i) Q27 (.int .i64 (v))
        have N29 : W29.heap[QQ]? = some (.cells #[.int .i64 10, .int .i64 (m : Nat), .int .i64 xb, .int .u64 s0, .int .u64 s1, .int .u64 s2, .int .u64 s3, .int .i64 x4, .int .i64 x5, .int .i64 x6, .int .i64 x7, .bool x8] 49 (0, 0)) := by rw [hW29]; exact set_other N27 nq
        have B29 : Below w.heap.size w W29 := by rw [hW29]; exact below_set B27 lq _
        clear hW29 c2 f2
        refine hK.out _ _ ?_
        clear hK K
        refine done_ (by kernel_rfl) ?_
        go_wp2
        go_roundw
        case rel => exact ⟨i + 1, by omega, by simp, Lib.hid P29, Lib.hid Q29, Lib.hid B29⟩
        case measure => simp [intOf]; omega
      · as_aux_lemma =>
        rcases k0 with k0 | k0
        · subst k0
          obtain ⟨ka1, ka2⟩ := ka
          obtain ⟨m, rfl⟩ := Int.eq_ofNat_of_zero_le ka1
          rw [Int.toNat_natCast] at e0 e1
          have hm : m < i := by omega
          have pm := blk_cell PN.out m _ (upto_at h hm)
          have qm := blk_cell QN.out m _ (upto_at h hm)
          have bm := HBD.out m (by omega)
          have n1 := blk_cell BN.out 1 _ rfl
          have n2 := blk_cell BN.out 2 _ rfl
          have n7 := blk_cell BN.out 7 _ rfl
          have n8 := blk_cell BN.out 8 _ rfl
          simp only [List.getElem_toArray, List.getElem_cons_zero, List.getElem_cons_succ] at n1 n2 n7 n8
          have np := Lib.hid (Nat.ne_of_gt HPW.out)
          have nq := Lib.hid (Nat.ne_of_gt HQW.out)
          have hmn : (m : Int) < (n : Int) := by omega
          clear hd bm
          generalize LO m = u at *
          generalize HI m = v at *
          go_wp2
          generalize hW : wr.alloc (.cells #[.int .i64 11, .int .i64 (m : Nat), .int .i64 xb, .int .u64 s0, .int .u64 s1, .int .u64 s2, .int .u64 s3, .int .i64 x4, .int .i64 x5, .int .i64 x6, .int .i64 x7, .bool x8] 49) = v1 at *
          clear hW
          generalize wr.heap.size = QQ at *
          have np := np.out
          have nq := nq.out
          refine start_ (n := 18) (S := fun w' => w'.cell? ⟨QQ, 1, none⟩ = some (.int .i64 (m : Nat)) ∧ w'.cell? ⟨p, m, none⟩ = some (.int .i64 u) ∧ w'.cell? ⟨q, m, none⟩ = some (.int .i64 v) ∧ w'.heap[p]? = some (.cells (ic (upto LO i) n) 3 (0, 0)) ∧ w'.heap[q]? = some (.cells (ic (upto HI i) n) 3 (0, 0)) ∧ w'.heap[QQ]? = some (.cells #[.int .i64 11, .int .i64 (m : Nat), .int .i64 xb, .int .u64 s0, .int .u64 s1, .int .u64 s2, .int .u64 s3, .int .i64 x4, .int .i64 x5, .int .i64 x6, .int .i64 x7, .bool x8] 49 (0, 0)) ∧ Below w.heap.size w w') (ds := [15, 17]) #[f_, f_, f_, f_, f_, f_, f_, f_, f_, f_, f_, f_, f_, f_, f_, f_, f_, f_] (by kernel_rfl) rfl rfl ⟨n1, pm, qm, PN.out, QN.out, BN.out, HN.out.drew⟩ (fun hHeld => ?_)
          refine pure_ (i := 0) (N := some 141) (v := ?_) (a' := ?_) #[t_, f_, f_, f_, f_, f_, f_, f_, f_, f_, f_, f_, f_, f_, f_, f_, f_, f_] rfl rfl (by kernel_rfl) (fun _ _ _ h => h) (Or.inl ⟨by rfl, ?_⟩) ?_ ?_
          rotate_left
          · intro w'
            go_simp
            with_reducible rfl
          rotate_left
          · simp only [Act.put, sa_, sz_, ss_, i64_w, i32_w]
            rfl
          refine pure_ (i := 1) (N := some 142) (v := ?_) (a' := ?_) #[t_, t_, f_, f_, f_, f_, f_, f_, f_, f_, f_, f_, f_, f_, f_, f_, f_, f_] rfl rfl (by kernel_rfl) (fun _ _ _ h => h) (Or.inl ⟨by rfl, ?_⟩) ?_ ?_
          rotate_left
          · intro w'
            go_simp
            with_reducible rfl
          rotate_left
          · simp only [Act.put, sa_, sz_, ss_, i64_w, i32_w]
            rfl
          refine pure_ (i := 2) (N := some 143) (v := ?_) (a' := ?_) #[t_, t_, t_, f_, f_, f_, f_, f_, f_, f_, f_, f_, f_, f_, f_, f_, f_, f_] rfl rfl (by kernel_rfl) (fun _ _ _ h => h) (Or.inl ⟨by rfl, ?_⟩) ?_ ?_
          rotate_left
          · intro w'
            go_simp
            with_reducible rfl
          rotate_left
          · simp only [Act.put, sa_, sz_, ss_, i64_w, i32_w]
            rfl
          refine pure_ (i := 3) (N := some 144) (v := ?_) (a' := ?_) #[t_, t_, t_, t_, f_, f_, f_, f_, f_, f_, f_, f_, f_, f_, f_, f_, f_, f_] rfl rfl (by kernel_rfl) (fun _ _ _ h => h) (Or.inl ⟨by rfl, ?_⟩) ?_ ?_
          rotate_left
          · intro w'
            go_simp
            with_reducible rfl
          rotate_left
          · simp only [Act.put, sa_, sz_, ss_, i64_w, i32_w]
            rfl
          refine pure_ (i := 4) (N := some 145) (v := ?_) (a' := ?_) #[t_, t_, t_, t_, t_, f_, f_, f_, f_, f_, f_, f_, f_, f_, f_, f_, f_, f_] rfl rfl (by kernel_rfl) (fun _ _ _ h => h) (Or.inl ⟨by rfl, ?_⟩) ?_ ?_
          rotate_left
          · intro w'
            go_simp
            with_reducible rfl
          rotate_left
          · simp only [Act.put, sa_, sz_, ss_, i64_w, i32_w]
            rfl
          refine pure_ (i := 5) (N := some 146) (v := ?_) (a' := ?_) #[t_, t_, t_, t_, t_, t_, f_, f_, f_, f_, f_, f_, f_, f_, f_, f_, f_, f_] rfl rfl (by kernel_rfl) (fun _ _ _ h => h) (Or.inl ⟨by rfl, ?_⟩) ?_ ?_
          rotate_left
          · intro w'
            go_simp
            with_reducible rfl
          rotate_left
          · simp only [Act.put, sa_, sz_, ss_, i64_w, i32_w]
            rfl
          refine pure_ (i := 9) (N := some 150) (v := ?_) (a' := ?_) #[t_, t_, t_, t_, t_, t_, f_, f_, f_, t_, f_, f_, f_, f_, f_, f_, f_, f_] rfl rfl (by kernel_rfl) (fun _ _ _ h => h) (Or.inl ⟨by rfl, ?_⟩) ?_ ?_
          rotate_left
          · intro w'
            go_simp
            with_reducible rfl
          rotate_left
          · simp only [Act.put, sa_, sz_, ss_, i64_w, i32_w]
            rfl
          refine pure_ (i := 10) (N := some 151) (v := ?_) (a' := ?_) #[t_, t_, t_, t_, t_, t_, f_, f_, f_, t_, t_, f_, f_, f_, f_, f_, f_, f_] rfl rfl (by kernel_rfl) (fun _ _ _ h => h) (Or.inl ⟨by rfl, ?_⟩) ?_ ?_
          rotate_left
          · intro w'
            go_simp
            with_reducible rfl
          rotate_left
          · simp only [Act.put, sa_, sz_, ss_, i64_w, i32_w]
            rfl
          refine take_ (i := 6) (N := some 147) (v := ?_) (a' := ?_) #[t_, t_, t_, t_, t_, t_, t_, f_, f_, t_, t_, f_, f_, f_, f_, f_, f_, f_] rfl rfl (by kernel_rfl) (fun _ _ _ h => h) (Or.inl ⟨by rfl, ?_⟩) hHeld ?_ ?_
          rotate_left
          · rintro w' ⟨s0, s1, s2, s3, s4, s5, s6⟩
            go_simp
            with_reducible rfl
          rotate_left
          · simp only [Act.put, sa_, sz_, ss_, i64_w, i32_w]
            rfl
          refine pure_ (i := 7) (N := some 148) (v := ?_) (a' := ?_) #[t_, t_, t_, t_, t_, t_, t_, t_, f_, t_, t_, f_, f_, f_, f_, f_, f_, f_] rfl rfl (by kernel_rfl) (fun _ _ _ h => h) (Or.inl ⟨by rfl, ?_⟩) ?_ ?_
          rotate_left
          · intro w'
            go_simp
            with_reducible rfl
          rotate_left
          · simp only [Act.put, sa_, sz_, ss_, i64_w, i32_w]
            rfl
          refine take_ (i := 8) (N := some 149) (v := ?_) (a' := ?_) #[t_, t_, t_, t_, t_, t_, t_, t_, t_, t_, t_, f_, f_, f_, f_, f_, f_, f_] rfl rfl (by kernel_rfl) (fun _ _ _ h => h) (Or.inl ⟨by rfl, ?_⟩) hHeld ?_ ?_
          rotate_left
          · rintro w' ⟨s0, s1, s2, s3, s4, s5, s6⟩
            go_simp
            with_reducible rfl
          rotate_left
          · simp only [Act.put, sa_, sz_, ss_, i64_w, i32_w]
            rfl
          refine take_ (i := 11) (N := some 152) (v := ?_) (a' := ?_) #[t_, t_, t_, t_, t_, t_, t_, t_, t_, t_, t_, t_, f_, f_, f_, f_, f_, f_] rfl rfl (by kernel_rfl) (fun _ _ _ h => h) (Or.inl ⟨by rfl, ?_⟩) hHeld ?_ ?_
          rotate_left
          · rintro w' ⟨s0, s1, s2, s3, s4, s5, s6⟩
            go_simp
            with_reducible rfl
          rotate_left
          · simp only [Act.put, sa_, sz_, ss_, i64_w, i32_w]
            rfl
          refine pure_ (i := 12) (N := some 153) (v := ?_) (a' := ?_) #[t_, t_, t_, t_, t_, t_, t_, t_, t_, t_, t_, t_, t_, f_, f_, f_, f_, f_] rfl rfl (by kernel_rfl) (fun _ _ _ h => h) (Or.inl ⟨by rfl, ?_⟩) ?_ ?_
          rotate_left
          · intro w'
            go_simp
            with_reducible rfl
          rotate_left
          · simp only [Act.put, sa_, sz_, ss_, i64_w, i32_w]
            rfl
          refine take_ (i := 13) (N := some 154) (v := ?_) (a' := ?_) #[t_, t_, t_, t_, t_, t_, t_, t_, t_, t_, t_, t_, t_, t_, f_, f_, f_, f_] rfl rfl (by kernel_rfl) (fun _ _ _ h => h) (Or.inl ⟨by rfl, ?_⟩) hHeld ?_ ?_
          rotate_left
          · rintro w' ⟨s0, s1, s2, s3, s4, s5, s6⟩
            go_simp
            with_reducible rfl
          rotate_left
          · simp only [Act.put, sa_, sz_, ss_, i64_w, i32_w]
            rfl
          refine pure_ (i := 14) (N := some 155) (v := ?_) (a' := ?_) #[t_, t_, t_, t_, t_, t_, t_, t_, t_, t_, t_, t_, t_, t_, t_, f_, f_, f_] rfl rfl (by kernel_rfl) (fun _ _ _ h => h) (Or.inl ⟨by rfl, ?_⟩) ?_ ?_
          rotate_left
          · intro w'
            go_simp
            with_reducible rfl
          rotate_left
          · simp only [Act.put, sa_, sz_, ss_, i64_w, i32_w]
            rfl
          refine last_ (i := 15) (N := none) #[t_, t_, t_, t_, t_, t_, t_, t_, t_, t_, t_, t_, t_, t_, t_, t_, f_, f_] rfl rfl (by kernel_rfl) (by decide) (fun K hK => ?_)
          have c1 := blk_cell hHeld.2.2.2.1 i _ (upto_here h)
          have f1 := blk_free hHeld.2.2.2.1 i
          refine skip_ (w1 := ?_) (by rfl) rfl ?_ ?_
          rotate_left
          · go_simp
            rfl
          refine letter_ ?_
          intro W27 hW27
          have P27 : W27.heap[p]? = some (.cells (ic (upto LO (i + 1)) n) 3 (0, 0)) := by rw [hW27, ← upto_set h e0]; exact set_blk (i := i) hHeld.2.2.2.1 (.int .i64 (u))
          have Q27 : W27.heap[q]? = some (.cells (ic (upto HI i) n) 3 (0, 0)) := by rw [hW27]; exact set_other hHeld.2.2.2.2.1 (fun e => ne e.symm)
          have N27 : W27.heap[QQ]? = some (.cells #[.int .i64 11, .int .i64 (m : Nat), .int .i64 xb, .int .u64 s0, .int .u64 s1, .int .u64 s2, .int .u64 s3, .int .i64 x4, .int .i64 x5, .int .i64 x6, .int .i64 x7, .bool x8] 49 (0, 0)) := by rw [hW27]; exact set_other hHeld.2.2.2.2.2.1 np
          have B27 : Below w.heap.size w W27 := by rw [hW27]; exact below_set hHeld.2.2.2.2.2.2 lp _
          clear hW27 c1 f1
          refine hK.out _ _ ?_
          clear hK K
          refine pure_ (i := 16) (N := some 156) (v := ?_) (a' := ?_) #[t_, t_, t_, t_, t_, t_, t_, t_, t_, t_, t_, t_, t_, t_, t_, t_, t_, f_] rfl rfl (by kernel_rfl) (fun _ _ _ h => h) (Or.inl ⟨by rfl, ?_⟩) ?_ ?_
          rotate_left
          · intro w'
            go_simp
            with_reducible rfl
          rotate_left
          · simp only [Act.put, sa_, sz_, ss_, i64_w, i32_w]
            rfl
          refine last_ (i := 17) (N := none) #[t_, t_, t_, t_, t_, t_, t_, t_, t_, t_, t_, t_, t_, t_, t_, t_, t_, t_] rfl rfl (by kernel_rfl) (by decide) (fun K hK => ?_)
          have c2 := blk_cell Q27 i _ (upto_here h)
          have f2 := blk_free Q27 i
          refine skip_ (w1 := ?_) (by rfl) rfl ?_ ?_
          rotate_left
          · go_simp
            rfl
          refine letter_ ?_
          intro W29 hW29
          have P29 : W29.heap[p]? = some (.cells (ic (upto LO (i + 1)) n) 3 (0, 0)) := by rw [hW29]; exact set_other P27 ne
          have Q29 : W29.heap[q]? = some (.cells (ic (upto HI (i + 1)) n) 3 (0, 0)) := by rw [hW29, ← upto_set h e1]; exact set_blk (i := i) Q27 (.int .i64 (v))
          have N29 : W29.heap[QQ]? = some (.cells #[.int .i64 11, .int .i64 (m : Nat), .int .i64 xb, .int .u64 s0, .int .u64 s1, .int .u64 s2, .int .u64 s3, .int .i64 x4, .int .i64 x5, .int .i64 x6, .int .i64 x7, .bool x8] 49 (0, 0)) := by rw [hW29]; exact set_other N27 nq
          have B29 : Below w.heap.size w W29 := by rw [hW29]; exact below_set B27 lq _
          clear hW29 c2 f2
          refine hK.out _ _ ?_
          clear hK K
          refine done_ (by kernel_rfl) ?_
          go_wp2
          go_roundw
          case rel => exact ⟨i + 1, by omega, by simp, Lib.hid P29, Lib.hid Q29, Lib.hid B29⟩
          case measure => simp [intOf]; omega
        · subst k0
          obtain ⟨ka1, ka2⟩ := ka
          obtain ⟨m, rfl⟩ := Int.eq_ofNat_of_zero_le ka1
          rw [Int.toNat_natCast] at e0 e1
          have hm : m < i := by omega
          have pm := blk_cell PN.out m _ (upto_at h hm)
          have qm := blk_cell QN.out m _ (upto_at h hm)
          have bm := HBD.out m (by omega)
          have n1 := blk_cell BN.out 1 _ rfl
          have n2 := blk_cell BN.out 2 _ rfl
          have n7 := blk_cell BN.out 7 _ rfl
          have n8 := blk_cell BN.out 8 _ rfl
          simp only [List.getElem_toArray, List.getElem_cons_zero, List.getElem_cons_succ] at n1 n2 n7 n8
          have np := Lib.hid (Nat.ne_of_gt HPW.out)
          have nq := Lib.hid (Nat.ne_of_gt HQW.out)
          have hmn : (m : Int) < (n : Int) := by omega
          clear hd bm
          generalize LO m = u at *
          generalize HI m = v at *
          go_wp2
          generalize hW : wr.alloc (.cells #[.int .i64 17, .int .i64 (m : Nat), .int .i64 xb, .int .u64 s0, .int .u64 s1, .int .u64 s2, .int .u64 s3, .int .i64 x4, .int .i64 x5, .int .i64 x6, .int .i64 x7, .bool x8] 49) = v1 at *
          clear hW
          generalize wr.heap.size = QQ at *
          have np := np.out
          have nq := nq.out
          refine start_ (n := 18) (S := fun w' => w'.cell? ⟨QQ, 1, none⟩ = some (.int .i64 (m : Nat)) ∧ w'.cell? ⟨p, m, none⟩ = some (.int .i64 u) ∧ w'.cell? ⟨q, m, none⟩ = some (.int .i64 v) ∧ w'.heap[p]? = some (.cells (ic (upto LO i) n) 3 (0, 0)) ∧ w'.heap[q]? = some (.cells (ic (upto HI i) n) 3 (0, 0)) ∧ w'.heap[QQ]? = some (.cells #[.int .i64 17, .int .i64 (m : Nat), .int .i64 xb, .int .u64 s0, .int .u64 s1, .int .u64 s2, .int .u64 s3, .int .i64 x4, .int .i64 x5, .int .i64 x6, .int .i64 x7, .bool x8] 49 (0, 0)) ∧ Below w.heap.size w w') (ds := [15, 17]) #[f_, f_, f_, f_, f_, f_, f_, f_, f_, f_, f_, f_, f_, f_, f_, f_, f_, f_] (by kernel_rfl) rfl rfl ⟨n1, pm, qm, PN.out, QN.out, BN.out, HN.out.drew⟩ (fun hHeld => ?_)
          refine pure_ (i := 0) (N := some 141) (v := ?_) (a' := ?_) #[t_, f_, f_, f_, f_, f_, f_, f_, f_, f_, f_, f_, f_, f_, f_, f_, f_, f_] rfl rfl (by kernel_rfl) (fun _ _ _ h => h) (Or.inl ⟨by rfl, ?_⟩) ?_ ?_
          rotate_left
          · intro w'
            go_simp
            with_reducible rfl
          rotate_left
          · simp only [Act.put, sa_, sz_, ss_, i64_w, i32_w]
            rfl
          refine pure_ (i := 1) (N := some 142) (v := ?_) (a' := ?_) #[t_, t_, f_, f_, f_, f_, f_, f_, f_, f_, f_, f_, f_, f_, f_, f_, f_, f_] rfl rfl (by kernel_rfl) (fun _ _ _ h => h) (Or.inl ⟨by rfl, ?_⟩) ?_ ?_
          rotate_left
          · intro w'
            go_simp
            with_reducible rfl
          rotate_left
          · simp only [Act.put, sa_, sz_, ss_, i64_w, i32_w]
            rfl
          refine pure_ (i := 2) (N := some 143) (v := ?_) (a' := ?_) #[t_, t_, t_, f_, f_, f_, f_, f_, f_, f_, f_, f_, f_, f_, f_, f_, f_, f_] rfl rfl (by kernel_rfl) (fun _ _ _ h => h) (Or.inl ⟨by rfl, ?_⟩) ?_ ?_
          rotate_left
          · intro w'
            go_simp
            with_reducible rfl
          rotate_left
          · simp only [Act.put, sa_, sz_, ss_, i64_w, i32_w]
            rfl
          refine pure_ (i := 3) (N := some 144) (v := ?_) (a' := ?_) #[t_, t_, t_, t_, f_, f_, f_, f_, f_, f_, f_, f_, f_, f_, f_, f_, f_, f_] rfl rfl (by kernel_rfl) (fun _ _ _ h => h) (Or.inl ⟨by rfl, ?_⟩) ?_ ?_
          rotate_left
          · intro w'
            go_simp
            with_reducible rfl
          rotate_left
          · simp only [Act.put, sa_, sz_, ss_, i64_w, i32_w]
            rfl
          refine pure_ (i := 4) (N := some 145) (v := ?_) (a' := ?_) #[t_, t_, t_, t_, t_, f_, f_, f_, f_, f_, f_, f_, f_, f_, f_, f_, f_, f_] rfl rfl (by kernel_rfl) (fun _ _ _ h => h) (Or.inl ⟨by rfl, ?_⟩) ?_ ?_
          rotate_left
          · intro w'
            go_simp
            with_reducible rfl
          rotate_left
          · simp only [Act.put, sa_, sz_, ss_, i64_w, i32_w]
            rfl
          refine pure_ (i := 5) (N := some 146) (v := ?_) (a' := ?_) #[t_, t_, t_, t_, t_, t_, f_, f_, f_, f_, f_, f_, f_, f_, f_, f_, f_, f_] rfl rfl (by kernel_rfl) (fun _ _ _ h => h) (Or.inl ⟨by rfl, ?_⟩) ?_ ?_
          rotate_left
          · intro w'
            go_simp
            with_reducible rfl
          rotate_left
          · simp only [Act.put, sa_, sz_, ss_, i64_w, i32_w]
            rfl
          refine pure_ (i := 9) (N := some 150) (v := ?_) (a' := ?_) #[t_, t_, t_, t_, t_, t_, f_, f_, f_, t_, f_, f_, f_, f_, f_, f_, f_, f_] rfl rfl (by kernel_rfl) (fun _ _ _ h => h) (Or.inl ⟨by rfl, ?_⟩) ?_ ?_
          rotate_left
          · intro w'
            go_simp
            with_reducible rfl
          rotate_left
          · simp only [Act.put, sa_, sz_, ss_, i64_w, i32_w]
            rfl
          refine pure_ (i := 10) (N := some 151) (v := ?_) (a' := ?_) #[t_, t_, t_, t_, t_, t_, f_, f_, f_, t_, t_, f_, f_, f_, f_, f_, f_, f_] rfl rfl (by kernel_rfl) (fun _ _ _ h => h) (Or.inl ⟨by rfl, ?_⟩) ?_ ?_
          rotate_left
          · intro w'
            go_simp
            with_reducible rfl
          rotate_left
          · simp only [Act.put, sa_, sz_, ss_, i64_w, i32_w]
            rfl
          refine take_ (i := 6) (N := some 147) (v := ?_) (a' := ?_) #[t_, t_, t_, t_, t_, t_, t_, f_, f_, t_, t_, f_, f_, f_, f_, f_, f_, f_] rfl rfl (by kernel_rfl) (fun _ _ _ h => h) (Or.inl ⟨by rfl, ?_⟩) hHeld ?_ ?_
          rotate_left
          · rintro w' ⟨s0, s1, s2, s3, s4, s5, s6⟩
            go_simp
            with_reducible rfl
          rotate_left
          · simp only [Act.put, sa_, sz_, ss_, i64_w, i32_w]
            rfl
          refine pure_ (i := 7) (N := some 148) (v := ?_) (a' := ?_) #[t_, t_, t_, t_, t_, t_, t_, t_, f_, t_, t_, f_, f_, f_, f_, f_, f_, f_] rfl rfl (by kernel_rfl) (fun _ _ _ h => h) (Or.inl ⟨by rfl, ?_⟩) ?_ ?_
          rotate_left
          · intro w'
            go_simp
            with_reducible rfl
          rotate_left
          · simp only [Act.put, sa_, sz_, ss_, i64_w, i32_w]
            rfl
          refine take_ (i := 8) (N := some 149) (v := ?_) (a' := ?_) #[t_, t_, t_, t_, t_, t_, t_, t_, t_, t_, t_, f_, f_, f_, f_, f_, f_, f_] rfl rfl (by kernel_rfl) (fun _ _ _ h => h) (Or.inl ⟨by rfl, ?_⟩) hHeld ?_ ?_
          rotate_left
          · rintro w' ⟨s0, s1, s2, s3, s4, s5, s6⟩
            go_simp
            with_reducible rfl
          rotate_left
          · simp only [Act.put, sa_, sz_, ss_, i64_w, i32_w]
            rfl
          refine take_ (i := 11) (N := some 152) (v := ?_) (a' := ?_) #[t_, t_, t_, t_, t_, t_, t_, t_, t_, t_, t_, t_, f_, f_, f_, f_, f_, f_] rfl rfl (by kernel_rfl) (fun _ _ _ h => h) (Or.inl ⟨by rfl, ?_⟩) hHeld ?_ ?_
          rotate_left
          · rintro w' ⟨s0, s1, s2, s3, s4, s5, s6⟩
            go_simp
            with_reducible rfl
          rotate_left
          · simp only [Act.put, sa_, sz_, ss_, i64_w, i32_w]
            rfl
          refine pure_ (i := 12) (N := some 153) (v := ?_) (a' := ?_) #[t_, t_, t_, t_, t_, t_, t_, t_, t_, t_, t_, t_, t_, f_, f_, f_, f_, f_] rfl rfl (by kernel_rfl) (fun _ _ _ h => h) (Or.inl ⟨by rfl, ?_⟩) ?_ ?_
          rotate_left
          · intro w'
            go_simp
            with_reducible rfl
          rotate_left
          · simp only [Act.put, sa_, sz_, ss_, i64_w, i32_w]
            rfl
          refine take_ (i := 13) (N := some 154) (v := ?_) (a' := ?_) #[t_, t_, t_, t_, t_, t_, t_, t_, t_, t_, t_, t_, t_, t_, f_, f_, f_, f_] rfl rfl (by kernel_rfl) (fun _ _ _ h => h) (Or.inl ⟨by rfl, ?_⟩) hHeld ?_ ?_
          rotate_left
          · rintro w' ⟨s0, s1, s2, s3, s4, s5, s6⟩
            go_simp
            with_reducible rfl
          rotate_left
          · simp only [Act.put, sa_, sz_, ss_, i64_w, i32_w]
            rfl
          refine pure_ (i := 14) (N := some 155) (v := ?_) (a' := ?_) #[t_, t_, t_, t_, t_, t_, t_, t_, t_, t_, t_, t_, t_, t_, t_, f_, f_, f_] rfl rfl (by kernel_rfl) (fun _ _ _ h => h) (Or.inl ⟨by rfl, ?_⟩) ?_ ?_
          rotate_left
          · intro w'
            go_simp
            with_reducible rfl
          rotate_left
          · simp only [Act.put, sa_, sz_, ss_, i64_w, i32_w]
            rfl
          refine last_ (i := 15) (N := none) #[t_, t_, t_, t_, t_, t_, t_, t_, t_, t_, t_, t_, t_, t_, t_, t_, f_, f_] rfl rfl (by kernel_rfl) (by decide) (fun K hK => ?_)
          have c1 := blk_cell hHeld.2.2.2.1 i _ (upto_here h)
          have f1 := blk_free hHeld.2.2.2.1 i
          refine skip_ (w1 := ?_) (by rfl) rfl ?_ ?_
          rotate_left
          · go_simp
            rfl
          refine letter_ ?_
          intro W27 hW27
          have P27 : W27.heap[p]? = some (.cells (ic (upto LO (i + 1)) n) 3 (0, 0)) := by rw [hW27, ← upto_set h e0]; exact set_blk (i := i) hHeld.2.2.2.1 (.int .i64 (u))
          have Q27 : W27.heap[q]? = some (.cells (ic (upto HI i) n) 3 (0, 0)) := by rw [hW27]; exact set_other hHeld.2.2.2.2.1 (fun e => ne e.symm)
          have N27 : W27.heap[QQ]? = some (.cells #[.int .i64 17, .int .i64 (m : Nat), .int .i64 xb, .int .u64 s0, .int .u64 s1, .int .u64 s2, .int .u64 s3, .int .i64 x4, .int .i64 x5, .int .i64 x6, .int .i64 x7, .bool x8] 49 (0, 0)) := by rw [hW27]; exact set_other hHeld.2.2.2.2.2.1 np
          have B27 : Below w.heap.size w W27 := by rw [hW27]; exact below_set hHeld.2.2.2.2.2.2 lp _
          clear hW27 c1 f1
          refine hK.out _ _ ?_
          clear hK K
          refine pure_ (i := 16) (N := some 156) (v := ?_) (a' := ?_) #[t_, t_, t_, t_, t_, t_, t_, t_, t_, t_, t_, t_, t_, t_, t_, t_, t_, f_] rfl rfl (by kernel_rfl) (fun _ _ _ h => h) (Or.inl ⟨by rfl, ?_⟩) ?_ ?_
          rotate_left
          · intro w'
            go_simp
            with_reducible rfl
          rotate_left
          · simp only [Act.put, sa_, sz_, ss_, i64_w, i32_w]
            rfl
          refine last_ (i := 17) (N := none) #[t_, t_, t_, t_, t_, t_, t_, t_, t_, t_, t_, t_, t_, t_, t_, t_, t_, t_] rfl rfl (by kernel_rfl) (by decide) (fun K hK => ?_)
          have c2 := blk_cell Q27 i _ (upto_here h)
          have f2 := blk_free Q27 i
          refine skip_ (w1 := ?_) (by rfl) rfl ?_ ?_
          rotate_left
          · go_simp
            rfl
          refine letter_ ?_
          intro W29 hW29
          have P29 : W29.heap[p]? = some (.cells (ic (upto LO (i + 1)) n) 3 (0, 0)) := by rw [hW29]; exact set_other P27 ne
          have Q29 : W29.heap[q]? = some (.cells (ic (upto HI (i + 1)) n) 3 (0, 0)) := by rw [hW29, ← upto_set h e1]; exact set_blk (i := i) Q27 (.int .i64 (v))
          have N29 : W29.heap[QQ]? = some (.cells #[.int .i64 17, .int .i64 (m : Nat), .int .i64 xb, .int .u64 s0, .int .u64 s1, .int .u64 s2, .int .u64 s3, .int .i64 x4, .int .i64 x5, .int .i64 x6, .int .i64 x7, .bool x8] 49 (0, 0)) := by rw [hW29]; exact set_other N27 nq
          have B29 : Below w.heap.size w W29 := by rw [hW29]; exact below_set B27 lq _
          clear hW29 c2 f2
          refine hK.out _ _ ?_
          clear hK K
          refine done_ (by kernel_rfl) ?_
          go_wp2
          go_roundw
          case rel => exact ⟨i + 1, by omega, by simp, Lib.hid P29, Lib.hid Q29, Lib.hid B29⟩
          case measure => simp [intOf]; omega
      · as_aux_lemma =>
        have P3 := PN.out
        rw [upto_skip e0] at P3
        have Q3 := QN.out
        rw [upto_skip e1] at Q3
        have P3 := Lib.hid P3
        have Q3 := Lib.hid Q3
        have d1 : (xk == 1) = false := by simp [k1]
        have d2 : (xk == 12) = false := by simp [k2]
        have d3 : (xk == 8) = false := by simp [k3]
        have d4 : (xk == 9) = false := by simp [k4]
        have d5 : (xk == 10) = false := by simp [k5]
        have d6 : (xk == 11) = false := by simp [k6]
        have d7 : (xk == 17) = false := by simp [k7]
        clear hd e0 e1 PN QN BN k1 k2 k3 k4 k5 k6 k7
        go_wp2
        go_roundw
        case rel => exact ⟨i + 1, by omega, by simp, P3, Q3, HN⟩
        case measure => simp [intOf]; omega
    · obtain rfl : i = n := by omega
      rw [upto_all] at PO QO
      have hi2 : ¬ ((i : Int) < (i : Int)) := by omega
      go_wp2
      go_ret2
      exact ⟨⟨p, q, ne, rfl, lp, lq, PO.out, QO.out⟩, HB.out⟩
end Go.Proofs.YtaaihcojedibeaaGreatDoor.DLens
end
section
/- Trees in order: sizes, depths, lengths, groups; plain. -/
namespace Go.Proofs.YtaaihcojedibeaaGreatDoor.DSpec
set_option maxRecDepth 100000
open CMem DRow DDeep DRFits DSizes DFits DLens Q
set_option linter.unusedVariables false
set_option linter.unusedSimpArgs false
/-- how many nodes the tree of a node has, that stand in order; 0: they do not -/
def szf (L : List S49) : Nat → Int → Int
  | 0, _ => 0
  | f + 1, i =>
    if i < 0 then 0 else if fit (rd_T49 L i) = false then 0
    else if kd (rd_T49 L i).f0 = 0 then (if (rd_T49 L i).f1 = 0 ∧ (rd_T49 L i).f2 = 0 then 1 else 0)
    else if szf L f (i - 1) = 0 then 0
    else if kd (rd_T49 L i).f0 = 1 then (if (rd_T49 L i).f1 = i - 1 ∧ (rd_T49 L i).f2 = 0 then szf L f (i - 1) + 1 else 0)
    else if szf L f (i - 1 - szf L f (i - 1)) = 0 then 0
    else if (rd_T49 L i).f1 = i - 1 - szf L f (i - 1) ∧ (rd_T49 L i).f2 = i - 1 then szf L f (i - 1 - szf L f (i - 1)) + szf L f (i - 1) + 1 else 0
theorem szf_rng (L : List S49) : ∀ f i, 0 ≤ szf L f i ∧ (0 ≤ i → szf L f i ≤ i + 1) ∧ (i < 0 → szf L f i = 0)
  | 0, i => ⟨Int.le_refl _, fun h => by show (0 : Int) ≤ _; omega, fun _ => rfl⟩
  | f + 1, i => by
    have h1 := szf_rng L f (i - 1)
    have h2 := szf_rng L f (i - 1 - szf L f (i - 1))
    unfold szf
    refine ⟨?_, ?_, ?_⟩
    · repeat' split
      all_goals omega
    · intro hi
      rw [if_neg (by omega)]
      split
      · omega
      · split
        · split <;> omega
        · split
          · omega
          · rename_i h0
            have hi1 : 0 ≤ i - 1 := by
              rcases Int.lt_or_le (i - 1) 0 with h | h
              · exact absurd (h1.2.2 h) h0
              · exact h
            have h1' := h1.2.1 hi1
            split
            · split <;> omega
            · split
              · omega
              · rename_i hf
                have hi2 : 0 ≤ i - 1 - szf L f (i - 1) := by
                  rcases Int.lt_or_le (i - 1 - szf L f (i - 1)) 0 with h | h
                  · exact absurd (h2.2.2 h) hf
                  · exact h
                have := h2.2.1 hi2
                split <;> omega
    · intro hi
      rw [if_pos hi]
theorem szf_fuel (L : List S49) : ∀ (f g : Nat) (i : Int), i < (f : Int) → i < (g : Int) → szf L f i = szf L g i
  | 0, g, i, hf, _ => by rw [(szf_rng L 0 i).2.2 (by omega), (szf_rng L g i).2.2 (by omega)]
  | f + 1, 0, i, _, hg => by rw [(szf_rng L (f + 1) i).2.2 (by omega), (szf_rng L 0 i).2.2 (by omega)]
  | f + 1, g + 1, i, hf, hg => by
    have e1 := szf_fuel L f g (i - 1) (by omega) (by omega)
    have r1 := szf_rng L g (i - 1)
    have e2 := szf_fuel L f g (i - 1 - szf L g (i - 1)) (by omega) (by omega)
    unfold szf
    rw [e1, e2]
/-- so many nodes has the tree of node i -/
def sz (L : List S49) (i : Nat) : Int := szf L (i + 1) i
theorem szf_eq (L : List S49) (f : Nat) (i : Nat) (h : i < f) : szf L f i = sz L i := szf_fuel L f (i + 1) i (by omega) (by omega)
theorem sz_rng (L : List S49) (i : Nat) : 0 ≤ sz L i ∧ sz L i ≤ (i : Int) + 1 := ⟨(szf_rng L _ _).1, (szf_rng L _ _).2.1 (by omega)⟩
/-- a node stands in order -/
def Wf (L : List S49) (i : Nat) : Prop :=
  fit (rd_T49 L i) = true ∧
  ((kd (rd_T49 L i).f0 = 0 ∧ (rd_T49 L i).f1 = 0 ∧ (rd_T49 L i).f2 = 0 ∧ sz L i = 1) ∨
   (∃ m : Nat, i = m + 1 ∧ kd (rd_T49 L i).f0 = 1 ∧ (rd_T49 L i).f1 = (m : Int) ∧ (rd_T49 L i).f2 = 0 ∧ 1 ≤ sz L m ∧ sz L i = 1 + sz L m) ∨
   (∃ m p : Nat, i = m + 1 ∧ (p : Int) + sz L m = (m : Int) ∧ kd (rd_T49 L i).f0 = 2 ∧ (rd_T49 L i).f1 = (p : Int) ∧ (rd_T49 L i).f2 = (m : Int) ∧ 1 ≤ sz L m ∧ 1 ≤ sz L p ∧ sz L i = 1 + (sz L p + sz L m)))
theorem sz_wf (L : List S49) (i : Nat) (h : sz L i ≠ 0) : Wf L i := by
  have hs : sz L i = szf L (i + 1) i := rfl
  rw [hs] at h
  unfold szf at h
  rw [if_neg (by omega)] at h
  have hfit : fit (rd_T49 L i) = true := by
    cases hc : fit (rd_T49 L i)
    · rw [if_pos hc] at h; exact absurd rfl h
    · rfl
  have hfn : ¬ fit (rd_T49 L (i : Int)) = false := by rw [hfit]; decide
  rw [if_neg hfn] at h
  unfold szf at hs
  rw [if_neg (by omega), if_neg hfn] at hs
  refine ⟨hfit, ?_⟩
  rcases kd_cases (rd_T49 L i).f0 with hk | hk | hk
  · rw [if_pos hk] at h hs
    by_cases hc : (rd_T49 L i).f1 = 0 ∧ (rd_T49 L i).f2 = 0
    · rw [if_pos hc] at hs
      exact .inl ⟨hk, hc.1, hc.2, hs⟩
    · rw [if_neg hc] at h; exact absurd rfl h
  · rw [if_neg (by omega)] at h hs
    rcases Nat.eq_zero_or_pos i with h0 | h0
    · subst h0
      rw [if_pos ((szf_rng L 0 _).2.2 (by omega))] at h; exact absurd rfl h
    · obtain ⟨m, rfl⟩ : ∃ m, i = m + 1 := ⟨i - 1, by omega⟩
      have e1 : ((m + 1 : Nat) : Int) - 1 = (m : Int) := by omega
      have e2 : szf L (m + 1) m = sz L m := rfl
      rw [e1, e2] at h hs
      by_cases hz : sz L m = 0
      · rw [if_pos hz] at h; exact absurd rfl h
      · rw [if_neg hz, if_pos hk] at h hs
        by_cases hc : (rd_T49 L (m + 1 : Nat)).f1 = (m : Int) ∧ (rd_T49 L (m + 1 : Nat)).f2 = 0
        · rw [if_pos hc] at hs
          have := (sz_rng L m).1
          exact .inr (.inl ⟨m, rfl, hk, hc.1, hc.2, by omega, by omega⟩)
        · rw [if_neg hc] at h; exact absurd rfl h
  · rw [if_neg (by omega)] at h hs
    rcases Nat.eq_zero_or_pos i with h0 | h0
    · subst h0
      rw [if_pos ((szf_rng L 0 _).2.2 (by omega))] at h; exact absurd rfl h
    · obtain ⟨m, rfl⟩ : ∃ m, i = m + 1 := ⟨i - 1, by omega⟩
      have e1 : ((m + 1 : Nat) : Int) - 1 = (m : Int) := by omega
      have e2 : szf L (m + 1) m = sz L m := rfl
      rw [e1, e2] at h hs
      by_cases hz : sz L m = 0
      · rw [if_pos hz] at h; exact absurd rfl h
      · rw [if_neg hz, if_neg (by omega)] at h hs
        have hr := sz_rng L m
        by_cases hn : (m : Int) - sz L m < 0
        · rw [if_pos ((szf_rng L _ _).2.2 hn)] at h; exact absurd rfl h
        · obtain ⟨p, hp⟩ : ∃ p : Nat, (m : Int) - sz L m = (p : Int) := ⟨((m : Int) - sz L m).toNat, by omega⟩
          rw [hp, szf_eq L (m + 1) p (by omega)] at h hs
          by_cases hf : sz L p = 0
          · rw [if_pos hf] at h; exact absurd rfl h
          · rw [if_neg hf] at h hs
            by_cases hc : (rd_T49 L (m + 1 : Nat)).f1 = (p : Int) ∧ (rd_T49 L (m + 1 : Nat)).f2 = (m : Int)
            · rw [if_pos hc] at hs
              have := (sz_rng L p).1
              exact .inr (.inr ⟨m, p, rfl, by omega, hk, hc.1, hc.2, by omega, by omega, by omega⟩)
            · rw [if_neg hc] at h; exact absurd rfl h
theorem wf_pos {L : List S49} {i : Nat} (h : Wf L i) : 1 ≤ sz L i := by
  rcases h with ⟨_, h | ⟨m, _, _, _, _, h1, h2⟩ | ⟨m, p, _, _, _, _, _, h1, h2, h3⟩⟩ <;> omega
/-- the row of sizes as the program makes it -/
theorem stp_of_wf {L : List S49} {i : Nat} (h : Wf L i) : stp (rd_T49 L i).f0 (sz L) i = some ((rd_T49 L i).f1, (rd_T49 L i).f2, sz L i) := by
  unfold stp
  rcases h with ⟨_, ⟨hk, h1, h2, h3⟩ | ⟨m, rfl, hk, h1, h2, h3, h4⟩ | ⟨m, p, rfl, hp, hk, h1, h2, h3, h4, h5⟩⟩
  · rw [if_pos hk, h1, h2, h3]
  · rw [if_neg (by omega), if_pos hk, if_neg (by omega), h1, h2, h4]
    have e1 : ((m + 1 : Nat) : Int) - 1 = (m : Int) := by omega
    rw [e1]; rfl
  · have e1 : ((m + 1 : Nat) : Int) - 1 = (m : Int) := by omega
    have e2 : m + 1 - 1 = m := rfl
    rw [if_neg (by omega), if_neg (by omega), if_neg (by omega), e1, e2, if_neg (by omega), h1, h2, h5, show (m : Int) - sz L m = (p : Int) by omega, Int.toNat_natCast]
theorem not_good {L : List S49} {i : Nat} (hp : ∀ m, m < i → sz L m ≠ 0) (h : sz L i = 0) : ¬ good fit (sz L) i (rd_T49 L i) := by
  rintro ⟨s, h1, h2⟩
  have hs : sz L i = szf L (i + 1) i := rfl
  unfold szf at hs
  rw [if_neg (by omega), if_neg (by rw [h2]; decide)] at hs
  unfold stp at h1
  rcases kd_cases (rd_T49 L i).f0 with hk | hk | hk
  · rw [if_pos hk] at h1 hs
    simp only [Option.some.injEq, Prod.mk.injEq] at h1
    rw [if_pos ⟨h1.1.symm, h1.2.1.symm⟩] at hs
    omega
  · rw [if_neg (by omega), if_pos hk] at h1
    rw [if_neg (by omega)] at hs
    by_cases h0 : i = 0
    · rw [if_pos h0] at h1; cases h1
    · rw [if_neg h0] at h1
      obtain ⟨m, rfl⟩ : ∃ m, i = m + 1 := ⟨i - 1, by omega⟩
      have e1 : ((m + 1 : Nat) : Int) - 1 = (m : Int) := by omega
      have e2 : szf L (m + 1) m = sz L m := rfl
      have hm := hp m (by omega)
      have hr := sz_rng L m
      rw [e1, e2, if_neg hm, if_pos hk] at hs
      rw [e1] at h1
      simp only [Option.some.injEq, Prod.mk.injEq] at h1
      rw [if_pos ⟨h1.1.symm, h1.2.1.symm⟩] at hs
      omega
  · rw [if_neg (by omega), if_neg (by omega)] at h1
    rw [if_neg (by omega)] at hs
    by_cases h0 : i = 0
    · rw [if_pos h0] at h1; cases h1
    · rw [if_neg h0] at h1
      obtain ⟨m, rfl⟩ : ∃ m, i = m + 1 := ⟨i - 1, by omega⟩
      have e1 : ((m + 1 : Nat) : Int) - 1 = (m : Int) := by omega
      have e2 : szf L (m + 1) m = sz L m := rfl
      have e3 : m + 1 - 1 = m := rfl
      have hm := hp m (by omega)
      have hr := sz_rng L m
      rw [e1, e2, if_neg hm, if_neg (by omega)] at hs
      rw [e1, e3] at h1
      by_cases hn : (m : Int) - sz L m < 0
      · rw [if_pos hn] at h1; cases h1
      · rw [if_neg hn] at h1
        obtain ⟨p, hq⟩ : ∃ p : Nat, (m : Int) - sz L m = (p : Int) := ⟨((m : Int) - sz L m).toNat, by omega⟩
        rw [hq, szf_eq L (m + 1) p (by omega), if_neg (hp p (by omega))] at hs
        rw [hq] at h1
        simp only [Option.some.injEq, Prod.mk.injEq] at h1
        rw [if_pos ⟨h1.1.symm, h1.2.1.symm⟩] at hs
        have := (sz_rng L p).1
        omega
/-- all nodes of a node's tree stand in order -/
theorem sz_all (L : List S49) : ∀ i, sz L i ≠ 0 → ∀ m : Nat, m ≤ i → (i : Int) - sz L i < (m : Int) → sz L m ≠ 0 := by
  intro i
  induction i using Nat.strongRecOn with
  | ind i ih =>
    intro hi m hm hlo
    by_cases e : m = i
    · rw [e]; exact hi
    · rcases (sz_wf L i hi).2 with ⟨_, _, _, h3⟩ | ⟨q, rfl, _, _, _, h1, h2⟩ | ⟨q, p, rfl, hp, _, _, _, h1, h2, h3⟩
      · omega
      · exact ih q (by omega) (by omega) m (by omega) (by omega)
      · by_cases hmq : (q : Int) - sz L q < (m : Int)
        · exact ih q (by omega) (by omega) m (by omega) hmq
        · exact ih p (by omega) (by omega) m (by omega) (by omega)
/-- a tree stands in order -/
def ord (L : List S49) : Bool := decide (0 < L.length) && sz L (L.length - 1) == (L.length : Int)
theorem ord_wf {L : List S49} (h : ord L = true) (i : Nat) (hi : i < L.length) : Wf L i := by
  simp only [ord, Bool.and_eq_true, decide_eq_true_eq, beq_iff_eq] at h
  refine sz_wf L i (sz_all L (L.length - 1) (by omega) i (by omega) (by omega))
/-- how deep the tree of a node is -/
def dpf (L : List S49) : Nat → Int → Int
  | 0, _ => 1
  | f + 1, i => if kd (rd_T49 L i).f0 = 0 then 1 else if kd (rd_T49 L i).f0 = 1 then 1 + dpf L f (rd_T49 L i).f1 else 1 + max (dpf L f (rd_T49 L i).f1) (dpf L f (rd_T49 L i).f2)
def dp (L : List S49) (i : Nat) : Int := dpf L (i + 1) i
theorem wf_kids {L : List S49} {i : Nat} (h : Wf L i) : kd (rd_T49 L i).f0 = 0 ∨ (∃ a : Nat, (rd_T49 L i).f1 = (a : Int) ∧ a < i ∧ kd (rd_T49 L i).f0 = 1) ∨ (∃ a b : Nat, (rd_T49 L i).f1 = (a : Int) ∧ (rd_T49 L i).f2 = (b : Int) ∧ a < i ∧ b < i ∧ kd (rd_T49 L i).f0 = 2) := by
  rcases h with ⟨_, ⟨hk, _⟩ | ⟨m, rfl, hk, h1, _⟩ | ⟨m, p, rfl, hp, hk, h1, h2, h3, _⟩⟩
  · exact .inl hk
  · exact .inr (.inl ⟨m, h1, by omega, hk⟩)
  · exact .inr (.inr ⟨p, m, h1, h2, by omega, by omega, hk⟩)
theorem dpf_fuel (L : List S49) (j : Nat) (hw : ∀ i, i < j → Wf L i) : ∀ (i : Nat) (f g : Nat), i < j → i < f → i < g → dpf L f i = dpf L g i := by
  intro i
  induction i using Nat.strongRecOn with
  | ind i ih =>
    intro f g hi hf hg
    obtain ⟨f, rfl⟩ : ∃ k, f = k + 1 := ⟨f - 1, by omega⟩
    obtain ⟨g, rfl⟩ : ∃ k, g = k + 1 := ⟨g - 1, by omega⟩
    unfold dpf
    rcases wf_kids (hw i hi) with hk | ⟨a, h1, h2, hk⟩ | ⟨a, b, h1, h2, h3, h4, hk⟩
    · rw [if_pos hk, if_pos hk]
    · rw [if_neg (by omega), if_pos hk, if_neg (by omega), if_pos hk, h1, ih a h2 f g (by omega) (by omega) (by omega)]
    · rw [h1, h2, ih a h3 f g (by omega) (by omega) (by omega), ih b h4 f g (by omega) (by omega) (by omega)]
theorem dp_eq (L : List S49) (j : Nat) (hw : ∀ i, i < j → Wf L i) (i : Nat) (hi : i < j) :
    (kd (rd_T49 L i).f0 = 0 ∧ dp L i = 1) ∨
    (∃ a : Nat, kd (rd_T49 L i).f0 = 1 ∧ (rd_T49 L i).f1 = (a : Int) ∧ a < i ∧ dp L i = 1 + dp L a) ∨
    (∃ a b : Nat, kd (rd_T49 L i).f0 = 2 ∧ (rd_T49 L i).f1 = (a : Int) ∧ (rd_T49 L i).f2 = (b : Int) ∧ a < i ∧ b < i ∧ dp L i = 1 + max (dp L a) (dp L b)) := by
  have hd : dp L i = dpf L (i + 1) i := rfl
  unfold dpf at hd
  rcases wf_kids (hw i hi) with hk | ⟨a, h1, h2, hk⟩ | ⟨a, b, h1, h2, h3, h4, hk⟩
  · rw [if_pos hk] at hd
    exact .inl ⟨hk, hd⟩
  · rw [if_neg (by omega), if_pos hk, h1, dpf_fuel L j hw a i (a + 1) (by omega) h2 (by omega)] at hd
    exact .inr (.inl ⟨a, hk, h1, h2, hd⟩)
  · rw [if_neg (by omega), if_neg (by omega), h1, h2, dpf_fuel L j hw a i (a + 1) (by omega) h3 (by omega), dpf_fuel L j hw b i (b + 1) (by omega) h4 (by omega)] at hd
    exact .inr (.inr ⟨a, b, hk, h1, h2, h3, h4, hd⟩)
theorem dp_rng (L : List S49) (j : Nat) (hw : ∀ i, i < j → Wf L i) : ∀ i, i < j → 1 ≤ dp L i ∧ dp L i ≤ (i : Int) + 1 := by
  intro i
  induction i using Nat.strongRecOn with
  | ind i ih =>
    intro hi
    rcases dp_eq L j hw i hi with ⟨_, h⟩ | ⟨a, _, _, h1, h⟩ | ⟨a, b, _, _, _, h1, h2, h⟩
    · omega
    · have := ih a h1 (by omega); omega
    · have := ih a h1 (by omega)
      have := ih b h2 (by omega)
      omega
theorem dp_ok (L : List S49) (j : Nat) (hw : ∀ i, i < j → Wf L i) (i : Nat) (hi : i < j) : dOk L (dp L) i := by
  unfold dOk
  rcases dp_eq L j hw i hi with ⟨h0, h⟩ | ⟨a, h0, h1, h2, h⟩ | ⟨a, b, h0, h1, h2, h3, h4, h⟩
  · exact .inl ⟨h0, h⟩
  · exact .inr (.inl ⟨h0, by rw [h1, Int.toNat_natCast]; exact h, by omega, by omega⟩)
  · exact .inr (.inr ⟨h0, by rw [h1, h2, Int.toNat_natCast, Int.toNat_natCast]; exact h, by omega, by omega, by omega, by omega⟩)
/-- no tree within a tree is as deep -/
theorem dp_most (L : List S49) (j : Nat) (hw : ∀ i, i < j → Wf L i) : ∀ i, i < j → ∀ m : Nat, m ≤ i → (i : Int) - sz L i < (m : Int) → dp L m ≤ dp L i := by
  intro i
  induction i using Nat.strongRecOn with
  | ind i ih =>
    intro hi m hm hlo
    by_cases e : m = i
    · rw [e]; exact Int.le_refl _
    · rcases (hw i hi).2 with ⟨_, _, _, h3⟩ | ⟨q, rfl, hk, hf1, hf2, h1, h2⟩ | ⟨q, p, rfl, hp, hk, hf1, hf2, h1, h2, h3⟩
      · omega
      · rcases dp_eq L j hw _ hi with ⟨h0, h⟩ | ⟨a, h0, ha, _, h⟩ | ⟨a, b, h0, _⟩
        · omega
        · obtain rfl : a = q := by omega
          have := ih a (by omega) (by omega) m (by omega) (by omega)
          omega
        · omega
      · rcases dp_eq L j hw _ hi with ⟨h0, h⟩ | ⟨a, h0, ha, _, h⟩ | ⟨a, b, h0, ha, hb, _, _, h⟩
        · omega
        · omega
        · obtain rfl : a = p := by omega
          obtain rfl : b = q := by omega
          by_cases hmq : (b : Int) - sz L b < (m : Int)
          · have := ih b (by omega) (by omega) m (by omega) hmq
            omega
          · have := ih a (by omega) (by omega) m (by omega) (by omega)
            omega
/-- how many bytes the tree of a node has, at least and at most -/
def lnf (L : List S49) : Nat → Int → Int × Int
  | 0, _ => (0, 0)
  | f + 1, i =>
    if (rd_T49 L i).f0 = 1 then (1, 1)
    else if (rd_T49 L i).f0 = 12 then (0, -1)
    else if (rd_T49 L i).f0 = 8 then (pl (lnf L f (rd_T49 L i).f1).1 (lnf L f (rd_T49 L i).f2).1, pl (lnf L f (rd_T49 L i).f1).2 (lnf L f (rd_T49 L i).f2).2)
    else if (rd_T49 L i).f0 = 9 then (min (lnf L f (rd_T49 L i).f1).1 (lnf L f (rd_T49 L i).f2).1, if min (lnf L f (rd_T49 L i).f1).2 (lnf L f (rd_T49 L i).f2).2 = -1 then -1 else max (lnf L f (rd_T49 L i).f1).2 (lnf L f (rd_T49 L i).f2).2)
    else if (rd_T49 L i).f0 = 10 then (tm (lnf L f (rd_T49 L i).f1).1 (rd_T49 L i).f4, tm (lnf L f (rd_T49 L i).f1).2 (rd_T49 L i).f5)
    else if (rd_T49 L i).f0 = 11 ∨ (rd_T49 L i).f0 = 17 then lnf L f (rd_T49 L i).f1
    else (0, 0)
def ln (L : List S49) (i : Nat) : Int × Int := lnf L (i + 1) i
theorem kid1 {L : List S49} {i : Nat} (h : Wf L i) (hk : kd (rd_T49 L i).f0 = 1) : ∃ a : Nat, (rd_T49 L i).f1 = (a : Int) ∧ a < i := by
  rcases wf_kids h with h | ⟨a, h1, h2, _⟩ | ⟨a, b, _, _, _, _, h⟩
  · omega
  · exact ⟨a, h1, h2⟩
  · omega
theorem kid2 {L : List S49} {i : Nat} (h : Wf L i) (hk : kd (rd_T49 L i).f0 = 2) : ∃ a b : Nat, (rd_T49 L i).f1 = (a : Int) ∧ (rd_T49 L i).f2 = (b : Int) ∧ a < i ∧ b < i := by
  rcases wf_kids h with h | ⟨a, h1, h2, h⟩ | ⟨a, b, h1, h2, h3, h4, h⟩
  · omega
  · omega
  · exact ⟨a, b, h1, h2, h3, h4⟩
theorem fit_rng {x : S49} (h : fit x = true) : 0 ≤ x.f0 ∧ x.f0 ≤ 17 := by
  unfold fit rfit at h
  simp only [Bool.and_eq_true, decide_eq_true_eq] at h
  exact ⟨h.1.1.1.1.1.1, h.1.1.1.1.1.2⟩
theorem fit10 {x : S49} (h : fit x = true) (hk : x.f0 = 10) : 0 ≤ x.f4 ∧ x.f4 ≤ 100 ∧ x.f5 ≤ 100 ∧ (x.f5 = -1 ∨ x.f4 ≤ x.f5) ∧ 0 ≤ x.f6 ∧ x.f6 ≤ 2 := by
  unfold fit rfit at h
  simp only [Bool.and_eq_true, decide_eq_true_eq, Bool.or_eq_true, bne_iff_ne, beq_iff_eq] at h
  have h := h.2
  rcases h with h | h
  · exact absurd hk h
  · obtain ⟨⟨⟨⟨⟨h1, h2⟩, h3⟩, h4⟩, h5⟩, h6⟩ := h
    exact ⟨h1, h2, h3, h4, h5, h6⟩
theorem fit_zero {x : S49} (h : fit x = true) : (x.f0 ≠ 1 → x.f3 = z28) ∧ (x.f0 ≠ 10 → x.f4 = 0 ∧ x.f5 = 0 ∧ x.f6 = 0) ∧ (x.f0 ≠ 11 → x.f0 ≠ 12 → x.f7 = 0) ∧ (x.f0 ≠ 12 → x.f8 = false) := by
  unfold fit rfit at h
  simp only [Bool.and_eq_true, decide_eq_true_eq, Bool.or_eq_true, bne_iff_ne, beq_iff_eq, Bool.not_eq_true'] at h
  obtain ⟨⟨⟨⟨⟨_, h1⟩, h2⟩, h3⟩, h4⟩, _⟩ := h
  refine ⟨fun hn => ?_, fun hn => ?_, fun h5 h6 => ?_, fun hn => ?_⟩
  · rcases h1 with h1 | ⟨a, b, c, d⟩
    · exact absurd h1 hn
    · obtain ⟨_, _, _, ⟨⟨s0, s1, s2, s3⟩⟩, _, _, _, _, _⟩ := x
      simp only at a b c d
      subst a b c d
      rfl
  · rcases h2 with h2 | h2
    · exact absurd h2 hn
    · exact ⟨h2.1.1, h2.1.2, h2.2⟩
  · rcases h3 with (h3 | h3) | h3
    · exact absurd h3 h5
    · exact absurd h3 h6
    · exact h3
  · rcases h4 with h4 | h4
    · exact absurd h4 hn
    · exact h4
theorem lnf_fuel (L : List S49) (j : Nat) (hw : ∀ i, i < j → Wf L i) : ∀ (i : Nat) (f g : Nat), i < j → i < f → i < g → lnf L f i = lnf L g i := by
  intro i
  induction i using Nat.strongRecOn with
  | ind i ih =>
    intro f g hi hf hg
    obtain ⟨f, rfl⟩ : ∃ k, f = k + 1 := ⟨f - 1, by omega⟩
    obtain ⟨g, rfl⟩ : ∃ k, g = k + 1 := ⟨g - 1, by omega⟩
    have K1 : kd (rd_T49 L i).f0 = 1 → lnf L f (rd_T49 L i).f1 = lnf L g (rd_T49 L i).f1 := by
      intro hk
      obtain ⟨a, h1, h2⟩ := kid1 (hw i hi) hk
      rw [h1]
      exact ih a h2 f g (by omega) (by omega) (by omega)
    have K2 : kd (rd_T49 L i).f0 = 2 → lnf L f (rd_T49 L i).f1 = lnf L g (rd_T49 L i).f1 ∧ lnf L f (rd_T49 L i).f2 = lnf L g (rd_T49 L i).f2 := by
      intro hk
      obtain ⟨a, b, h1, h2, h3, h4⟩ := kid2 (hw i hi) hk
      rw [h1, h2]
      exact ⟨ih a h3 f g (by omega) (by omega) (by omega), ih b h4 f g (by omega) (by omega) (by omega)⟩
    unfold lnf
    by_cases h1 : (rd_T49 L i).f0 = 1
    · rw [if_pos h1, if_pos h1]
    rw [if_neg h1, if_neg h1]
    by_cases h2 : (rd_T49 L i).f0 = 12
    · rw [if_pos h2, if_pos h2]
    rw [if_neg h2, if_neg h2]
    by_cases h3 : (rd_T49 L i).f0 = 8
    · obtain ⟨e1, e2⟩ := K2 (by rw [h3]; rfl)
      rw [if_pos h3, if_pos h3, e1, e2]
    rw [if_neg h3, if_neg h3]
    by_cases h4 : (rd_T49 L i).f0 = 9
    · obtain ⟨e1, e2⟩ := K2 (by rw [h4]; rfl)
      rw [if_pos h4, if_pos h4, e1, e2]
    rw [if_neg h4, if_neg h4]
    by_cases h5 : (rd_T49 L i).f0 = 10
    · rw [if_pos h5, if_pos h5, K1 (by rw [h5]; rfl)]
    rw [if_neg h5, if_neg h5]
    by_cases h6 : (rd_T49 L i).f0 = 11 ∨ (rd_T49 L i).f0 = 17
    · rw [if_pos h6, if_pos h6, K1 (by rcases h6 with h6 | h6 <;> rw [h6] <;> rfl)]
    rw [if_neg h6, if_neg h6]
/-- the lengths of a tree, of those of its children -/
def lnStep (L : List S49) (i : Nat) : Int × Int :=
  if (rd_T49 L i).f0 = 1 then (1, 1)
  else if (rd_T49 L i).f0 = 12 then (0, -1)
  else if (rd_T49 L i).f0 = 8 then (pl (ln L (rd_T49 L i).f1.toNat).1 (ln L (rd_T49 L i).f2.toNat).1, pl (ln L (rd_T49 L i).f1.toNat).2 (ln L (rd_T49 L i).f2.toNat).2)
  else if (rd_T49 L i).f0 = 9 then (min (ln L (rd_T49 L i).f1.toNat).1 (ln L (rd_T49 L i).f2.toNat).1, if min (ln L (rd_T49 L i).f1.toNat).2 (ln L (rd_T49 L i).f2.toNat).2 = -1 then -1 else max (ln L (rd_T49 L i).f1.toNat).2 (ln L (rd_T49 L i).f2.toNat).2)
  else if (rd_T49 L i).f0 = 10 then (tm (ln L (rd_T49 L i).f1.toNat).1 (rd_T49 L i).f4, tm (ln L (rd_T49 L i).f1.toNat).2 (rd_T49 L i).f5)
  else if (rd_T49 L i).f0 = 11 ∨ (rd_T49 L i).f0 = 17 then ln L (rd_T49 L i).f1.toNat
  else (0, 0)
theorem ln_eq (L : List S49) (j : Nat) (hw : ∀ i, i < j → Wf L i) (i : Nat) (hi : i < j) : ln L i = lnStep L i := by
  have K1 : kd (rd_T49 L i).f0 = 1 → lnf L i (rd_T49 L i).f1 = ln L (rd_T49 L i).f1.toNat := by
    intro hk
    obtain ⟨a, h1, h2⟩ := kid1 (hw i hi) hk
    rw [h1, Int.toNat_natCast]
    exact lnf_fuel L j hw a i (a + 1) (by omega) (by omega) (by omega)
  have K2 : kd (rd_T49 L i).f0 = 2 → lnf L i (rd_T49 L i).f1 = ln L (rd_T49 L i).f1.toNat ∧ lnf L i (rd_T49 L i).f2 = ln L (rd_T49 L i).f2.toNat := by
    intro hk
    obtain ⟨a, b, h1, h2, h3, h4⟩ := kid2 (hw i hi) hk
    rw [h1, h2, Int.toNat_natCast, Int.toNat_natCast]
    exact ⟨lnf_fuel L j hw a i (a + 1) (by omega) (by omega) (by omega), lnf_fuel L j hw b i (b + 1) (by omega) (by omega) (by omega)⟩
  have hd : ln L i = lnf L (i + 1) i := rfl
  rw [hd]
  unfold lnf lnStep
  by_cases h1 : (rd_T49 L i).f0 = 1
  · rw [if_pos h1, if_pos h1]
  rw [if_neg h1, if_neg h1]
  by_cases h2 : (rd_T49 L i).f0 = 12
  · rw [if_pos h2, if_pos h2]
  rw [if_neg h2, if_neg h2]
  by_cases h3 : (rd_T49 L i).f0 = 8
  · obtain ⟨e1, e2⟩ := K2 (by rw [h3]; rfl)
    rw [if_pos h3, if_pos h3, e1, e2]
  rw [if_neg h3, if_neg h3]
  by_cases h4 : (rd_T49 L i).f0 = 9
  · obtain ⟨e1, e2⟩ := K2 (by rw [h4]; rfl)
    rw [if_pos h4, if_pos h4, e1, e2]
  rw [if_neg h4, if_neg h4]
  by_cases h5 : (rd_T49 L i).f0 = 10
  · rw [if_pos h5, if_pos h5, K1 (by rw [h5]; rfl)]
  rw [if_neg h5, if_neg h5]
  by_cases h6 : (rd_T49 L i).f0 = 11 ∨ (rd_T49 L i).f0 = 17
  · rw [if_pos h6, if_pos h6, K1 (by rcases h6 with h6 | h6 <;> rw [h6] <;> rfl)]
  rw [if_neg h6, if_neg h6]
theorem lnStep_cases {L : List S49} {i : Nat} (P : Int × Int → Prop) (h1 : (rd_T49 L i).f0 = 1 → P (1, 1)) (h2 : (rd_T49 L i).f0 = 12 → P (0, -1))
    (h3 : (rd_T49 L i).f0 = 8 → P (pl (ln L (rd_T49 L i).f1.toNat).1 (ln L (rd_T49 L i).f2.toNat).1, pl (ln L (rd_T49 L i).f1.toNat).2 (ln L (rd_T49 L i).f2.toNat).2))
    (h4 : (rd_T49 L i).f0 = 9 → P (min (ln L (rd_T49 L i).f1.toNat).1 (ln L (rd_T49 L i).f2.toNat).1, if min (ln L (rd_T49 L i).f1.toNat).2 (ln L (rd_T49 L i).f2.toNat).2 = -1 then -1 else max (ln L (rd_T49 L i).f1.toNat).2 (ln L (rd_T49 L i).f2.toNat).2))
    (h5 : (rd_T49 L i).f0 = 10 → P (tm (ln L (rd_T49 L i).f1.toNat).1 (rd_T49 L i).f4, tm (ln L (rd_T49 L i).f1.toNat).2 (rd_T49 L i).f5))
    (h6 : (rd_T49 L i).f0 = 11 ∨ (rd_T49 L i).f0 = 17 → P (ln L (rd_T49 L i).f1.toNat))
    (h7 : (rd_T49 L i).f0 ≠ 1 → (rd_T49 L i).f0 ≠ 12 → (rd_T49 L i).f0 ≠ 8 → (rd_T49 L i).f0 ≠ 9 → (rd_T49 L i).f0 ≠ 10 → (rd_T49 L i).f0 ≠ 11 → (rd_T49 L i).f0 ≠ 17 → P (0, 0)) : P (lnStep L i) := by
  unfold lnStep
  split
  · rename_i h; exact h1 h
  · split
    · rename_i h; exact h2 h
    · split
      · rename_i h; exact h3 h
      · split
        · rename_i h; exact h4 h
        · split
          · rename_i h; exact h5 h
          · split
            · rename_i h; exact h6 h
            · rename_i a b c d e f
              exact h7 a b c d e (fun h => f (.inl h)) (fun h => f (.inr h))
theorem ln_rng (L : List S49) (j : Nat) (hw : ∀ i, i < j → Wf L i) : ∀ i, i < j → 0 ≤ (ln L i).1 ∧ bnd (ln L i).1 ∧ bnd (ln L i).2 := by
  intro i
  induction i using Nat.strongRecOn with
  | ind i ih =>
    intro hi
    rw [ln_eq L j hw i hi]
    have K1 : kd (rd_T49 L i).f0 = 1 → 0 ≤ (ln L (rd_T49 L i).f1.toNat).1 ∧ bnd (ln L (rd_T49 L i).f1.toNat).1 ∧ bnd (ln L (rd_T49 L i).f1.toNat).2 := by
      intro hk
      obtain ⟨a, h1, h2⟩ := kid1 (hw i hi) hk
      rw [h1, Int.toNat_natCast]
      exact ih a h2 (by omega)
    have K2 : kd (rd_T49 L i).f0 = 2 → (0 ≤ (ln L (rd_T49 L i).f1.toNat).1 ∧ bnd (ln L (rd_T49 L i).f1.toNat).1 ∧ bnd (ln L (rd_T49 L i).f1.toNat).2) ∧ (0 ≤ (ln L (rd_T49 L i).f2.toNat).1 ∧ bnd (ln L (rd_T49 L i).f2.toNat).1 ∧ bnd (ln L (rd_T49 L i).f2.toNat).2) := by
      intro hk
      obtain ⟨a, b, h1, h2, h3, h4⟩ := kid2 (hw i hi) hk
      rw [h1, h2, Int.toNat_natCast, Int.toNat_natCast]
      exact ⟨ih a h3 (by omega), ih b h4 (by omega)⟩
    have hf := (hw i hi).1
    refine lnStep_cases (fun p => 0 ≤ p.1 ∧ bnd p.1 ∧ bnd p.2) (fun _ => ?_) (fun _ => ?_) (fun h => ?_) (fun h => ?_) (fun h => ?_) (fun h => ?_) (fun _ _ _ _ _ _ _ => ?_)
    · unfold bnd; simp
    · unfold bnd; simp
    · obtain ⟨⟨a1, a2, a3⟩, b1, b2, b3⟩ := K2 (by rw [h]; rfl)
      refine ⟨?_, pl_bnd a2 b2, pl_bnd a3 b3⟩
      show 0 ≤ pl _ _
      unfold pl
      rw [if_neg (by omega), if_neg (by omega)]
      omega
    · obtain ⟨⟨a1, a2, a3⟩, b1, b2, b3⟩ := K2 (by rw [h]; rfl)
      unfold bnd at *
      refine ⟨?_, ?_, ?_⟩
      · show 0 ≤ min _ _; omega
      · show -1 ≤ min _ _ ∧ min _ _ ≤ 1048576; omega
      · show -1 ≤ ite _ _ _ ∧ ite _ _ _ ≤ 1048576; split <;> omega
    · obtain ⟨a1, a2, a3⟩ := K1 (by rw [h]; rfl)
      obtain ⟨m1, m2, m3, m4, _⟩ := fit10 hf h
      refine ⟨?_, tm_bnd a2 (by omega), tm_bnd a3 (by omega)⟩
      show 0 ≤ tm _ _
      unfold tm
      split
      · omega
      · rw [if_neg (by omega), if_neg (by omega)]
        have := (tm_rng a2 (b := (rd_T49 L i).f4) (by omega) (by omega) (by omega)).1
        omega
    · exact K1 (by rcases h with h | h <;> rw [h] <;> rfl)
    · unfold bnd; simp
def lP (L : List S49) (i : Nat) (p : Int × Int) : Prop :=
  ((rd_T49 L i).f0 = 1 ∧ p.1 = 1 ∧ p.2 = 1) ∨
  ((rd_T49 L i).f0 = 12 ∧ p.1 = 0 ∧ p.2 = -1) ∨
  ((rd_T49 L i).f0 = 8 ∧ isKid (rd_T49 L i).f1 i ∧ isKid (rd_T49 L i).f2 i ∧ p.1 = pl (ln L (rd_T49 L i).f1.toNat).1 (ln L (rd_T49 L i).f2.toNat).1 ∧ p.2 = pl (ln L (rd_T49 L i).f1.toNat).2 (ln L (rd_T49 L i).f2.toNat).2) ∨
  ((rd_T49 L i).f0 = 9 ∧ isKid (rd_T49 L i).f1 i ∧ isKid (rd_T49 L i).f2 i ∧ p.1 = min (ln L (rd_T49 L i).f1.toNat).1 (ln L (rd_T49 L i).f2.toNat).1 ∧ p.2 = if min (ln L (rd_T49 L i).f1.toNat).2 (ln L (rd_T49 L i).f2.toNat).2 = -1 then -1 else max (ln L (rd_T49 L i).f1.toNat).2 (ln L (rd_T49 L i).f2.toNat).2) ∨
  ((rd_T49 L i).f0 = 10 ∧ isKid (rd_T49 L i).f1 i ∧ (-1 ≤ (rd_T49 L i).f4 ∧ (rd_T49 L i).f4 ≤ 100) ∧ (-1 ≤ (rd_T49 L i).f5 ∧ (rd_T49 L i).f5 ≤ 100) ∧ p.1 = tm (ln L (rd_T49 L i).f1.toNat).1 (rd_T49 L i).f4 ∧ p.2 = tm (ln L (rd_T49 L i).f1.toNat).2 (rd_T49 L i).f5) ∨
  (((rd_T49 L i).f0 = 11 ∨ (rd_T49 L i).f0 = 17) ∧ isKid (rd_T49 L i).f1 i ∧ p.1 = (ln L (rd_T49 L i).f1.toNat).1 ∧ p.2 = (ln L (rd_T49 L i).f1.toNat).2) ∨
  ((rd_T49 L i).f0 ≠ 1 ∧ (rd_T49 L i).f0 ≠ 12 ∧ (rd_T49 L i).f0 ≠ 8 ∧ (rd_T49 L i).f0 ≠ 9 ∧ (rd_T49 L i).f0 ≠ 10 ∧ (rd_T49 L i).f0 ≠ 11 ∧ (rd_T49 L i).f0 ≠ 17 ∧ p.1 = 0 ∧ p.2 = 0)
theorem ln_ok (L : List S49) (j : Nat) (hw : ∀ i, i < j → Wf L i) (i : Nat) (hi : i < j) : lOk L (fun m => (ln L m).1) (fun m => (ln L m).2) i := by
  have K1 : kd (rd_T49 L i).f0 = 1 → isKid (rd_T49 L i).f1 i := by
    intro hk
    obtain ⟨a, h1, h2⟩ := kid1 (hw i hi) hk
    unfold isKid
    omega
  have K2 : kd (rd_T49 L i).f0 = 2 → isKid (rd_T49 L i).f1 i ∧ isKid (rd_T49 L i).f2 i := by
    intro hk
    obtain ⟨a, b, h1, h2, h3, h4⟩ := kid2 (hw i hi) hk
    unfold isKid
    omega
  have hf := (hw i hi).1
  show lP L i (ln L i)
  rw [ln_eq L j hw i hi]
  refine lnStep_cases (lP L i) (fun h => ?_) (fun h => ?_) (fun h => ?_) (fun h => ?_) (fun h => ?_) (fun h => ?_) (fun h1 h2 h3 h4 h5 h6 h7 => ?_)
  · exact .inl ⟨h, rfl, rfl⟩
  · exact .inr (.inl ⟨h, rfl, rfl⟩)
  · obtain ⟨k1, k2⟩ := K2 (by rw [h]; rfl)
    exact .inr (.inr (.inl ⟨h, k1, k2, rfl, rfl⟩))
  · obtain ⟨k1, k2⟩ := K2 (by rw [h]; rfl)
    exact .inr (.inr (.inr (.inl ⟨h, k1, k2, rfl, rfl⟩)))
  · obtain ⟨m1, m2, m3, m4, _⟩ := fit10 hf h
    exact .inr (.inr (.inr (.inr (.inl ⟨h, K1 (by rw [h]; rfl), ⟨by omega, by omega⟩, ⟨by omega, by omega⟩, rfl, rfl⟩))))
  · exact .inr (.inr (.inr (.inr (.inr (.inl ⟨h, K1 (by rcases h with h | h <;> rw [h] <;> rfl), rfl, rfl⟩)))))
  · exact .inr (.inr (.inr (.inr (.inr (.inr ⟨h1, h2, h3, h4, h5, h6, h7, rfl, rfl⟩)))))
end Go.Proofs.YtaaihcojedibeaaGreatDoor.DSpec
end
section
/- The laid variables: all but the first. -/
namespace Go.Proofs.YtaaihcojedibeaaGreatDoor.HTail
set_option maxRecDepth 100000
theorem laid_tail {P : Program} {W : World} {x : String × DataW Unit} {rest : List (String × DataW Unit)} (h : laidMet P (x :: rest) W) : laidMet P rest W := by
  obtain ⟨ps, ⟨g, t, cs, fuel, p, q, hg, ht, hv, hd, h1, h2⟩, hn, hc⟩ := h
  first
    | (subst h2; exact ⟨q, h1, (List.nodup_append.1 hn).2.1, fun b o hb => hc b o (List.mem_append_right _ hb)⟩)
    | (subst h1; exact ⟨q, h2, (List.nodup_append.1 hn).2.1, fun b o hb => hc b o (List.mem_append_right _ hb)⟩)
end Go.Proofs.YtaaihcojedibeaaGreatDoor.HTail
end
