/- Groups: Show, by the shelf's contracts. -/
import Derived.Test.YtpeccbdobdnpiaaDoorShelf
import Derived.Test.YtpeccbdobdnpiaaDoorAGet
import Derived.ProofKit
import Derived.LaidMore
import Derived.Lib.LaidTab
import Derived.Lib.Hide
import Derived.Lib.AppendIntMem
import Derived.Lib.ItoaLen
namespace Go.Proofs.YtpeccbdobdnpiaaDoor.AShow
open Go.RowKit CMem ACap AGet Go.Proofs.YtpeccbdobdnpiaaDoorW.PrintWords Go.Proofs.YtpeccbdobdnpiaaDoorW.PrintLast Go.Proofs.YtpeccbdobdnpiaaDoorW.PrintMore
set_option linter.unusedVariables false
set_option linter.unusedSimpArgs false
set_option maxRecDepth 100000
/-- the program's table: the powers of ten -/
structure Tab (w : World) : Prop where
  pow : Lib.TabIs Tryd.prog w "internal/strconv.uint64pow10" .u64 Lib.pow10Tab
theorem Tab.below {w w' : World} (h : Tab w) (hb : Below w.heap.size w w') : Tab w' := ⟨Go.Lib.tabBelow_of_tabIs h.pow w' hb⟩
def num (n : Int) : ByteArray := ⟨(Lib.itoa n).toArray⟩
/-- a group as text -/
def item (b : Nat → Bool) (y : Nat → Int) (g : Int) : ByteArray := if gi b g = true then num (gfr b y g) ++ ⟨#[45]⟩ ++ num (gto b y g) else ⟨#[63]⟩
def items (b : Nat → Bool) (y : Nat → Int) (m : Nat) : List ByteArray := (List.range m).map fun (i : Nat) => item b y ((i : Int) + 1)
def shown (L : List ByteArray) : List UInt8 := Lib.join (L.map (·.data.toList)) [44]
theorem items_len (b y m) : (items b y m).length = m := by simp [items]
theorem items_succ (b y k) : items b y (k + 1) = items b y k ++ [item b y ((k : Int) + 1)] := by
  unfold items
  rw [List.range_succ, List.map_append]
  rfl
theorem num_size {n : Int} (h0 : -9223372036854775808 ≤ n) (h1 : n ≤ 9223372036854775807) : (num n).size ≤ 21 := by
  show (Lib.itoa n).toArray.size ≤ 21
  rw [List.size_toArray]
  exact Go.Lib.itoa_length_le n h0 h1
def in64 (y : Nat → Int) : Prop := ∀ i, i < 18 → -9223372036854775808 ≤ y i ∧ y i ≤ 9223372036854775807
theorem gft_rng {b : Nat → Bool} {y : Nat → Int} (h : in64 y) (g : Int) : (-9223372036854775808 ≤ gfr b y g ∧ gfr b y g ≤ 9223372036854775807) ∧ (-9223372036854775808 ≤ gto b y g ∧ gto b y g ≤ 9223372036854775807) := by
  unfold gfr gto
  by_cases hg : gi b g = true
  · rw [if_pos hg, if_pos hg]
    obtain ⟨k, hk, rfl, _⟩ := gi_ge hg
    rw [show ((k : Int) + 1 - 1).toNat = k by omega]
    exact ⟨h _ (by omega), h _ (by omega)⟩
  · rw [if_neg hg, if_neg hg]
    omega
theorem item_size {b : Nat → Bool} {y : Nat → Int} (h : in64 y) (g : Int) : (item b y g).size ≤ 43 := by
  unfold item
  have hr := gft_rng (b := b) h g
  split
  · rw [ByteArray.size_append, ByteArray.size_append]
    have h1 := num_size hr.1.1 hr.1.2
    have h2 := num_size hr.2.1 hr.2.2
    show _ + 1 + _ ≤ 43
    omega
  · decide
theorem tail_le (r : List (List UInt8)) (h : ∀ x ∈ r, x.length ≤ 43) : (Lib.joinTail [44] r).length ≤ 44 * r.length := by
  induction r with
  | nil => simp [Lib.joinTail]
  | cons x r ih =>
    have e : Lib.joinTail [44] (x :: r) = 44 :: (x ++ Lib.joinTail [44] r) := by simp [Lib.joinTail]
    have h1 := ih fun z hz => h z (List.mem_cons_of_mem _ hz)
    have h2 := h x List.mem_cons_self
    rw [e, List.length_cons, List.length_append, List.length_cons]
    omega
theorem shown_le {L : List ByteArray} (h : ∀ x ∈ L, x.size ≤ 43) : (shown L).length ≤ 44 * L.length := by
  unfold shown
  cases L with
  | nil => simp [Lib.join_nil]
  | cons x r =>
    rw [List.map_cons, Lib.join_cons, List.length_append]
    have h1 : x.data.toList.length ≤ 43 := by rw [Array.length_toList]; exact h x List.mem_cons_self
    have h2 := tail_le (r.map (·.data.toList)) (fun z hz => by
      obtain ⟨u, hu, rfl⟩ := List.mem_map.1 hz
      rw [Array.length_toList]; exact h u (List.mem_cons_of_mem _ hu))
    rw [List.length_map] at h2
    rw [List.length_cons]
    omega
theorem items_le {b : Nat → Bool} {y : Nat → Int} (h : in64 y) (m : Nat) : ∀ x ∈ items b y m, x.size ≤ 43 := by
  intro x hx
  obtain ⟨i, _, rfl⟩ := List.mem_map.1 hx
  exact item_size h _
theorem one_cell (w : World) (x : Value) (t : TypeId) (g : Nat) (hg : w.heap.size = g) : ∀ (j : Nat) (u : Value), [x][j]? = some u → (w.alloc (.cells #[x] t)).cell? ((⟨g, 0, none⟩ : Addr).add j) = some u := by
  subst hg
  intro j u hj
  match j, hj with
  | 0, hj => simp at hj; subst hj; simp [Addr.add]
theorem info_str : (Tryd.prog.info? 9).map (fun i => (i.zero, i.size, i.bytes)) = some (some (.string ⟨#[]⟩), 1, 16) := by kernel_rfl
theorem own_at {B : Nat} {W w' : World} {e : TypeId} {size n : Nat} {v : Value} {xs : List Value} {o : Obj} (h : W.ownsRow B e size v n xs) (hg : (W.alloc o).grownBy w' v.ownBlock) {k : Nat} (hk : k < B) (hk2 : k < W.heap.size) : w'.heap[k]? = W.heap[k]? := by
  have hne : some k ≠ v.ownBlock := fun e => by
    rcases h.2 with ⟨q, _⟩ | ⟨g, cap, cur, q, q3, _⟩
    · rw [q] at e; simp [Value.ownBlock] at e
    · rw [q] at e; simp [Value.ownBlock] at e; omega
  rw [hg.block k (by simp; omega) hne]
  exact Below.heap_alloc W _ k (by omega)
theorem own_below {B B' : Nat} {w0 W w' : World} {e : TypeId} {size n : Nat} {v : Value} {xs : List Value} {o : Obj} (h : W.ownsRow B e size v n xs) (hb : Below B' w0 W) (hBB : B' ≤ B) (HBS : B' ≤ W.heap.size) (hg : (W.alloc o).grownBy w' v.ownBlock) : Below B' w0 w' := by
  refine hb.trans ⟨hg.os, hg.tape, hg.output, by have := hg.size; simp at this; omega, fun k hk => own_at h hg (by omega) (by omega)⟩
theorem own_size {W w' : World} {v : Value} {o : Obj} (hg : (W.alloc o).grownBy w' v.ownBlock) : W.heap.size ≤ w'.heap.size := by
  have := hg.size
  simp at this
  omega
theorem step_items (b : Nat → Bool) (y : Nat → Int) (k : Nat) (x : ByteArray) (h : item b y ((k : Int) + 1) = x) : (items b y k).map Value.string ++ [.string x] = (items b y (k + 1)).map Value.string := by
  rw [items_succ, List.map_append, h]
  rfl
set_option maxHeartbeats 6400000 in
attribute [-go_sem] Go.loadCells in
theorem show_calls (b : Nat → Bool) (y : Nat → Int) (hy : in64 y) (n : Int) (m : Nat) (hm : (n < 1 ∧ m = 0) ∨ (1 ≤ n ∧ n ≤ 9 ∧ n = m) ∨ (9 < n ∧ m = 9)) (w : World) (hT : Tab w) :
    Calls Tryd.prog 15 #[.agg (cc b y), .int .i64 n] w fun e w' => e = .returned (.string ⟨(shown (items b y m)).toArray⟩) ∧ Below w.heap.size w w' := by
  have hs := cc_size b y
  have BX := heap_alloc_new w (.cells (cc b y) 26)
  have HT := Lib.hid hT
  have HB0 := Lib.hid (below1 w (.cells (cc b y) 26))
  have HY := Lib.hid hy
  have hm9 : m ≤ 9 := by omega
  have HX := Lib.hid BX
  have HS0 : Hid (w.heap.size + 1 ≤ (w.alloc (.cells (cc b y) 26)).heap.size) := Lib.hid (by simp)
  clear hT hy BX
  go_enter Tryd.func15, Tryd.ntmps15
  go_wp2
  generalize hW : w.alloc (.cells (cc b y) 26) = w1 at *
  clear hW
  go_loopw [5, 6] (fun v t wr => ∃ k : Nat, k ≤ m ∧ t = .int .i64 ((k : Nat) + 1) ∧ Hid (wr.ownsRow (w.heap.size + 1) 9 1 v k ((items b y k).map Value.string)) ∧ Hid (wr.heap[w.heap.size]? = some (.cells (cc b y) 26 (0, 0))) ∧ Hid (Below w.heap.size w wr) ∧ Hid (w.heap.size + 1 ≤ wr.heap.size)) (fun _ t _ => (11 - intOf t).toNat)
  case atStart => exact ⟨0, by omega, rfl, Lib.hid ⟨rfl, .inl ⟨rfl, rfl⟩⟩, HX, HB0, HS0⟩
  case round =>
    clear HX HB0 HS0
    obtain ⟨k, hk, rfl, HO, HX, HB, HSZ⟩ := hrel
    by_cases h : k < m
    · have hk1 : (k : Int) + 1 ≤ n := by omega
      have hk2 : (k : Int) + 1 ≤ 9 := by omega
      have hmn : (k : Int) + 1 ≤ min n 9 := by omega
      have kg := get_calls b y ((k : Int) + 1)
      have hrg := gft_rng (b := b) HY.out ((k : Int) + 1)
      have HST := step_items b y k
      have HIT : item b y ((k : Int) + 1) = if gi b ((k : Int) + 1) = true then num (gfr b y ((k : Int) + 1)) ++ ⟨#[45]⟩ ++ num (gto b y ((k : Int) + 1)) else ⟨#[63]⟩ := rfl
      generalize (items b y k).map Value.string = X at *
      generalize item b y ((k : Int) + 1) = it at *
      have HSU := Lib.hid (HST it rfl)
      clear HST
      generalize gfr b y ((k : Int) + 1) = p at *
      generalize gto b y ((k : Int) + 1) = q at *
      have l27 := load27 HX.out
      obtain ⟨i0, hi, hz0, hz1, hz2⟩ := info_parts info_str
      have I0 := Lib.hid hi
      have Z0 := Lib.hid hz0
      have Z1 := Lib.hid hz1
      have Z2 := Lib.hid hz2
      clear hi hz0 hz1 hz2
      cases hg : gi b ((k : Int) + 1)
      · rw [hg] at kg HIT
        rw [if_neg (by decide)] at HIT
        subst HIT
        have KG := Lib.hid kg
        clear kg hg hrg
        go_wp2_with (first | (go_at_call 11; (with_reducible refine (KG.out _).mono ?_); (rintro e w2 ⟨rfl, hb⟩); (have HO2 := Lib.hid (pw_own_below HO.out hb)); (have HX2 := Lib.hid (below_blk hb HX.out)); (have HB2 := Lib.hid (below_step HB.out hb)); (have HS2 := Lib.hid (Nat.le_trans HSZ.out hb.size)); (have hs2 := HS2.out); clear hb HO HX HB HSZ) | (at_builtin; refine wpList_append_lies _ rfl (.tmp 25) (.tmp 26) 57 rfl (w.heap.size + 1) 9 i0 (.string ⟨#[]⟩) 1 16 Tryd.underlying57 I0.out Z0.out Z1.out Z2.out rfl (by decide) u5 k _ rfl (HO2.out.alloc _) ⟨_, 0, none⟩ 1 1 [.string ⟨#[63]⟩] rfl rfl (one_cell _ _ _ _ (by simp)) (by simp [Value.oneCell']) (by omega) (by unfold maxLen; omega) (by omega) (by simp; omega) _ rfl ?_))
        intro g1 cp1 w6 ho hgr hat hlt
        rw [HSU.out] at ho
        have HO6 := Lib.hid ho
        have HB6 := Lib.hid (own_below HO2.out HB2.out (by omega) (by omega) hgr)
        have HX6 := Lib.hid ((own_at HO2.out hgr (by omega) (by omega)).trans HX2.out)
        have HS6 := Lib.hid (Nat.le_trans HS2.out (own_size hgr))
        clear ho hgr hat hlt
        go_wp2
        go_roundw
        case rel => exact ⟨k + 1, by omega, by simp, HO6, HX6, HB6, HS6⟩
        case measure => simp [intOf] <;> omega
      · rw [hg] at kg HIT
        rw [if_pos rfl] at HIT
        obtain ⟨⟨p0, p1⟩, q0, q1⟩ := hrg
        have ki := fun W h => Tryd.strconv_Itoa p p0 p1 W h
        have kj := fun W h => Tryd.strconv_Itoa q q0 q1 W h
        have hnp := num_size p0 p1
        have hnq := num_size q0 q1
        rw [show (⟨(Lib.itoa p).toArray⟩ : ByteArray) = num p from rfl] at ki
        rw [show (⟨(Lib.itoa q).toArray⟩ : ByteArray) = num q from rfl] at kj
        generalize num p = np at *
        generalize num q = nq at *
        subst HIT
        have KI := Lib.hid ki
        have KJ := Lib.hid kj
        have KG := Lib.hid kg
        clear kg hg ki kj p0 p1 q0 q1
        go_wp2_with (first | (go_at_call 11; (with_reducible refine (KG.out _).mono ?_); (rintro e w2 ⟨rfl, hb⟩); (have HO2 := Lib.hid (pw_own_below HO.out hb)); (have HX2 := Lib.hid (below_blk hb HX.out)); (have HT2 := Lib.hid ((HT.out.below HB.out).below hb)); (have HB2 := Lib.hid (below_step HB.out hb)); (have HS2 := Lib.hid (Nat.le_trans HSZ.out hb.size)); (have hs2 := HS2.out); clear hb HO HX HB HSZ) | (go_at_call 23; (with_reducible refine (KI.out _ HT2.out.pow).mono ?_); (rintro e w3 ⟨rfl, kk, os, hw⟩); (have hb : Below w2.heap.size w2 w3 := by rw [hw]; exact Go.Lib.below_grow _ _ (Nat.le_refl _) kk os); (have HO3 := Lib.hid (pw_own_below HO2.out hb)); (have HX3 := Lib.hid (below_blk hb HX2.out)); (have HT3 := Lib.hid (HT2.out.below hb)); (have HB3 := Lib.hid (below_step HB2.out hb)); (have HS3 := Lib.hid (Nat.le_trans HS2.out hb.size)); (have hs3 := HS3.out); clear hb hw HO2 HX2 HT2 HB2 HS2 hs2 KI) | (go_at_call 23; (with_reducible refine (KJ.out _ HT3.out.pow).mono ?_); (rintro e w4 ⟨rfl, kk, os, hw⟩); (have hb : Below w3.heap.size w3 w4 := by rw [hw]; exact Go.Lib.below_grow _ _ (Nat.le_refl _) kk os); (have HO4 := Lib.hid (pw_own_below HO3.out hb)); (have HX4 := Lib.hid (below_blk hb HX3.out)); (have HT4 := Lib.hid (HT3.out.below hb)); (have HB4 := Lib.hid (below_step HB3.out hb)); (have HS4 := Lib.hid (Nat.le_trans HS3.out hb.size)); (have hs4 := HS4.out); clear hb hw HO3 HX3 HT3 HB3 HS3 hs3 KJ) | (at_builtin; refine wpList_append_lies _ rfl (.tmp 28) (.tmp 35) 57 rfl (w.heap.size + 1) 9 i0 (.string ⟨#[]⟩) 1 16 Tryd.underlying57 I0.out Z0.out Z1.out Z2.out rfl (by decide) u5 k _ rfl (HO4.out.alloc _) ⟨_, 0, none⟩ 1 1 [.string (np ++ ⟨#[45]⟩ ++ nq)] rfl rfl (one_cell _ _ _ _ (by simp)) (by simp [Value.oneCell']) (by omega) (by unfold maxLen; omega) (by omega) (by simp; omega) _ rfl ?_))
        intro g1 cp1 w6 ho hgr hat hlt
        rw [HSU.out] at ho
        have HO6 := Lib.hid ho
        have HB6 := Lib.hid (own_below HO4.out HB4.out (by omega) (by omega) hgr)
        have HX6 := Lib.hid ((own_at HO4.out hgr (by omega) (by omega)).trans HX4.out)
        have HS6 := Lib.hid (Nat.le_trans HS4.out (own_size hgr))
        clear ho hgr hat hlt
        go_wp2
        go_roundw
        case rel => exact ⟨k + 1, by omega, by simp, HO6, HX6, HB6, HS6⟩
        case measure => simp [intOf] <;> omega
    · obtain rfl : k = m := by omega
      have hmn : ¬ ((k : Int) + 1 ≤ min n 9) := by omega
      have hml : (items b y k).length = k := items_len b y k
      have hle := shown_le (items_le (b := b) HY.out k)
      have ho := HO.out
      rcases ho.2 with ⟨q2, q3⟩ | ⟨g, cap, cur, q2, q3, q4, q5, q6, q7, q8⟩
      · subst q2
        subst q3
        have hL0 : items b y 0 = [] := rfl
        have KJ := Lib.hid (fun W => Tryd.strings_Join_none none 0 ⟨#[44]⟩ W)
        clear ho hml HO
        go_wp2_with (go_at_call 24; (with_reducible refine (KJ.out _).mono ?_); (rintro e w5 ⟨rfl, hw⟩))
        go_ret
        exact ⟨by rw [hL0]; rfl, by first | exact HB.out | (rw [hw]; exact HB.out) | (subst hw; exact HB.out)⟩
      · have hcells : ∀ (j : Nat) x, (items b y k)[j]? = some x → wr.cell? ⟨g, 0 + j, none⟩ = some (.string x) := fun j x hx => by
          have hj : j < k := by
            have h1 := (List.getElem?_eq_some_iff.1 hx).1
            omega
          rw [q2] at ho
          rw [Nat.zero_add, ho.cellAt j (by omega)]
          simp only [List.getElem?_map, Option.map_eq_some_iff] at hx ⊢
          exact ⟨x, hx, rfl⟩
        have kj := Tryd.strings_Join g 0 cap (items b y k) ⟨#[44]⟩ wr hcells (by
          rcases Nat.lt_or_ge g wr.heap.size with h1 | h1
          · exact h1
          · rw [Array.getElem?_eq_none h1] at q4; cases q4) (by rw [hml]; omega) (by rw [hml]; exact q5) (by show (shown (items b y k)).length ≤ _; omega)
        rw [hml, show Lib.join ((items b y k).map (·.data.toList)) (⟨#[44]⟩ : ByteArray).data.toList = shown (items b y k) from rfl] at kj
        have KJ := Lib.hid kj
        clear ho hml HO hcells kj q4 q7 q8
        subst q2
        go_wp2_with (go_at_call 24; (with_reducible refine KJ.out.mono ?_); (rintro e w5 ⟨rfl, hb⟩))
        go_ret
        exact ⟨rfl, below_step HB.out hb⟩
end Go.Proofs.YtpeccbdobdnpiaaDoor.AShow
