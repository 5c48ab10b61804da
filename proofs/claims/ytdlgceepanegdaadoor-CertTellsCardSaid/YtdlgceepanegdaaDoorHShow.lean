/- cert.Show: its walk, by the shelf's contracts. -/
import Derived.Test.YtdlgceepanegdaaDoorShelf
import Derived.Test.YtdlgceepanegdaaDoorWLast
import Derived.Test.YtdlgceepanegdaaDoorWMore
import Derived.ProofKit
import Derived.LaidMore
import Derived.Lib.LaidTab
import Derived.Lib.Hide
import Derived.Lib.AppendIntMem
import Derived.Lib.ItoaLen
namespace Go.Proofs.YtdlgceepanegdaaDoor.HShow
open Go.RowKit Go.Proofs.YtdlgceepanegdaaDoorW.PrintWords Go.Proofs.YtdlgceepanegdaaDoorW.PrintLast Go.Proofs.YtdlgceepanegdaaDoorW.PrintMore
set_option linter.unusedVariables false
set_option linter.unusedSimpArgs false
set_option maxRecDepth 100000
/-- the kind's word -/
def word (k : Int) : ByteArray := if k = 0 then ⟨#[115]⟩ else if k = 1 then ⟨#[116]⟩ else if k = 2 then ⟨#[49]⟩ else if k = 3 then ⟨#[50]⟩ else if k = 4 then ⟨#[109]⟩ else if k = 5 then ⟨#[114]⟩ else ⟨#[63]⟩
def tok (x : Int × Int) : ByteArray := if x.1 = 0 ∨ x.1 = 5 then word x.1 ++ ⟨(Lib.itoa x.2).toArray⟩ else word x.1
def shown (L : List (Int × Int)) : List UInt8 := Lib.join ((L.map tok).map (·.data.toList)) [32]
/-- the program's tables: the words, and the powers of ten -/
structure Tab (w : World) : Prop where
  pow : Lib.TabIs Tryd.prog w "internal/strconv.uint64pow10" .u64 Lib.pow10Tab
  low : 0 < w.heap.size
  words : ∀ i : Nat, i < 6 → w.cell? ⟨0, i, none⟩ = some (.string (word i))
theorem cell_down {w w' : World} (h : Below w.heap.size w w') {a : Addr} {v : Value} (hc : w.cell? a = some v) : w'.cell? a = some v := (World.cell?_of_block (h.block a.block (World.block_lt_of_cell? w _ hc))).trans hc
theorem Tab.below {w w' : World} (h : Tab w) (hb : Below w.heap.size w w') : Tab w' :=
  ⟨Go.Lib.tabBelow_of_tabIs h.pow w' hb, Nat.lt_of_lt_of_le h.low hb.size, fun i hi => cell_down hb (h.words i hi)⟩
theorem one_cell (w : World) (x : Value) (t : TypeId) (g : Nat) (hg : w.heap.size = g) : ∀ (j : Nat) (u : Value), [x][j]? = some u → (w.alloc (.cells #[x] t)).cell? ((⟨g, 0, none⟩ : Addr).add j) = some u := by
  subst hg
  intro j u hj
  match j, hj with
  | 0, hj => simp at hj; subst hj; simp [Addr.add]
theorem info_str : (Tryd.prog.info? 9).map (fun i => (i.zero, i.size, i.bytes)) = some (some (.string ⟨#[]⟩), 1, 16) := by kernel_rfl
theorem step_row (L : List (Int × Int)) (k : Nat) (h : k < L.length) (p : Int × Int) (hp : L[k] = p) : ((L.take k).map fun x => Value.string (tok x)) ++ [.string (tok p)] = (L.take (k + 1)).map fun x => Value.string (tok x) := by
  rw [← List.take_append_getElem h, List.map_append, hp]
  rfl
theorem own_below {B : Nat} {w0 W w' : World} {e : TypeId} {size n : Nat} {v : Value} {xs : List Value} {o : Obj} (h : W.ownsRow B e size v n xs) (hb : Below B w0 W) (HBS : B ≤ W.heap.size) (hg : (W.alloc o).grownBy w' v.ownBlock) : Below B w0 w' := by
  refine hb.trans ⟨hg.os, hg.tape, hg.output, by have := hg.size; simp at this; omega, fun k hk => ?_⟩
  have hw := hb.size
  have hne : some k ≠ v.ownBlock := fun e => by
    rcases h.2 with ⟨q, _⟩ | ⟨g, cap, cur, q, q3, _⟩
    · rw [q] at e; simp [Value.ownBlock] at e
    · rw [q] at e; simp [Value.ownBlock] at e; omega
  have hk2 : k < W.heap.size := Nat.lt_of_lt_of_le hk HBS
  rw [hg.block k (by simp; omega) hne]
  exact Below.heap_alloc W _ k (by omega)
set_option maxHeartbeats 6400000 in
theorem show_walk (ad : Addr) (c : Nat) (L : List (Int × Int)) (n : Nat) (hn : L.length = n) (hnn : n ≤ 1000) (w : World) (hT : ∀ W, Below w.heap.size w W → Tab W)
    (hI : ∀ x ∈ L, -9223372036854775808 ≤ x.2 ∧ x.2 ≤ 9223372036854775807) (hlen : (shown L).length ≤ 140737488355328)
    (hrow : ∀ i (h : i < L.length), w.cell? (ad.add (i * 2)) = some (.int .i64 L[i].1) ∧ w.cell? ⟨(ad.add (i * 2)).block, (ad.add (i * 2)).off + 1, none⟩ = some (.int .i64 L[i].2)) :
    Calls Tryd.prog 16 #[.slice (some ad) n c] w fun e w' => e = .returned (.string ⟨(shown L).toArray⟩) ∧ Below w.heap.size w w' := by
  have HN := Lib.hid hn
  have HI := Lib.hid hI
  have HT := Lib.hid hT
  have HLEN := Lib.hid hlen
  have HROW := Lib.hid hrow
  clear hn hI hT hlen hrow
  go_enter Tryd.func16, Tryd.ntmps16
  go_wp2
  go_loopw [3, 9] (fun v t wr => ∃ k : Nat, k ≤ n ∧ t = .int .i64 (k : Nat) ∧ Hid (wr.ownsRow w.heap.size 9 1 v k ((L.take k).map fun x => .string (tok x))) ∧ Hid (Below w.heap.size w wr)) (fun _ t _ => n - (intOf t).toNat)
  case atStart => exact ⟨0, by omega, rfl, Lib.hid ⟨rfl, .inl ⟨rfl, rfl⟩⟩, Lib.hid (Below.refl _ _)⟩
  case round =>
    obtain ⟨k, hk, rfl, HO, HB⟩ := hrel
    by_cases h : k < n
    · have kL : k < L.length := by have := HN.out; omega
      obtain ⟨a0, a1⟩ := HROW.out k kL
      have b0 := cell_down HB.out a0
      have b1 := cell_down HB.out a1
      obtain ⟨i1, i2⟩ := HI.out _ (List.getElem_mem kL)
      generalize hp : L[k]'kL = p at *
      obtain ⟨p1, p2⟩ := p
      simp only [] at b0 b1 i1 i2
      clear a0 a1
      have hk1 : (k : Int) < (n : Int) := by omega
      obtain ⟨i0, hi, hz0, hz1, hz2⟩ := info_parts info_str
      have I0 := Lib.hid hi
      have Z0 := Lib.hid hz0
      have Z1 := Lib.hid hz1
      have Z2 := Lib.hid hz2
      clear hi hz0 hz1 hz2
      have HST := Lib.hid (step_row L k kL (p1, p2) hp)
      have HO1 := Lib.hid (HO.out.alloc (.cells #[.int .i64 p1, .int .i64 p2] 24))
      have HB1 := Lib.hid (HB.out.alloc HB.out.size (.cells #[.int .i64 p1, .int .i64 p2] 24))
      have ht := HT.out _ HB.out
      generalize (L.take k).map (fun x => Value.string (tok x)) = X at HO HO1 HST
      have hlow := ht.low
      have hszw := HB.out.size
      have hcase : (p1 < 0 ∨ 6 ≤ p1) ∨ (p1 = 1 ∨ p1 = 2 ∨ p1 = 3 ∨ p1 = 4) ∨ (p1 = 0 ∨ p1 = 5) := by omega
      rcases hcase with hc | hc | hc
      · have htk : tok (p1, p2) = ⟨#[63]⟩ := by
          unfold tok word
          simp only []
          rw [if_neg (by omega), if_neg (by omega), if_neg (by omega), if_neg (by omega), if_neg (by omega), if_neg (by omega), if_neg (by omega)]
        rw [htk] at HST
        have n0 : (p1 == 0) = false := by simp; omega
        have n5 : (p1 == 5) = false := by simp; omega
        clear htk hp ht
        rcases hc with hc | hc
        · go_wp2_with (at_builtin; refine wpList_append_lies _ rfl (.tmp 38) (.tmp 40) 45 rfl w.heap.size 9 i0 (.string ⟨#[]⟩) 1 16 Tryd.underlying45 I0.out Z0.out Z1.out Z2.out rfl (by decide) u3 k _ rfl (HO1.out.alloc _) ⟨_, 0, none⟩ 1 1 [.string ⟨#[63]⟩] rfl rfl (one_cell _ _ _ _ (by simp)) (by simp [Value.oneCell']) (by omega) (by unfold maxLen; omega) (by omega) (by simp; omega) _ rfl ?_)
          intro g1 cp1 w6 ho hgr hat hlt
          rw [HST.out] at ho
          have HO6 := Lib.hid ho
          have HB6 := Lib.hid (own_below HO1.out HB1.out (by simp; omega) hgr)
          clear ho hgr hat hlt
          go_wp2
          go_roundw
          case rel => exact ⟨k + 1, by omega, by simp, HO6, HB6⟩
          case measure => simp [intOf] <;> omega
        · have hc2 : ¬ (p1 < 6) := by omega
          have hc3 : 0 ≤ p1 := by omega
          go_wp2_with (at_builtin; refine wpList_append_lies _ rfl (.tmp 38) (.tmp 40) 45 rfl w.heap.size 9 i0 (.string ⟨#[]⟩) 1 16 Tryd.underlying45 I0.out Z0.out Z1.out Z2.out rfl (by decide) u3 k _ rfl (HO1.out.alloc _) ⟨_, 0, none⟩ 1 1 [.string ⟨#[63]⟩] rfl rfl (one_cell _ _ _ _ (by simp)) (by simp [Value.oneCell']) (by omega) (by unfold maxLen; omega) (by omega) (by simp; omega) _ rfl ?_)
          intro g1 cp1 w6 ho hgr hat hlt
          rw [HST.out] at ho
          have HO6 := Lib.hid ho
          have HB6 := Lib.hid (own_below HO1.out HB1.out (by simp; omega) hgr)
          clear ho hgr hat hlt
          go_wp2
          go_roundw
          case rel => exact ⟨k + 1, by omega, by simp, HO6, HB6⟩
          case measure => simp [intOf] <;> omega
      · rcases hc with hc | hc | hc | hc
        · subst hc
          have htk : tok (1, p2) = ⟨#[116]⟩ := rfl
          rw [htk] at HST
          have cw := ht.words 1 (by decide)
          rw [show word ((1 : Nat) : Int) = ⟨#[116]⟩ from rfl] at cw
          clear htk hp ht
          go_wp2_with (at_builtin; refine wpList_append_lies _ rfl (.tmp 38) (.tmp 40) 45 rfl w.heap.size 9 i0 (.string ⟨#[]⟩) 1 16 Tryd.underlying45 I0.out Z0.out Z1.out Z2.out rfl (by decide) u3 k _ rfl (HO1.out.alloc _) ⟨_, 0, none⟩ 1 1 [.string ⟨#[116]⟩] rfl rfl (one_cell _ _ _ _ (by simp)) (by simp [Value.oneCell']) (by omega) (by unfold maxLen; omega) (by omega) (by simp; omega) _ rfl ?_)
          intro g1 cp1 w6 ho hgr hat hlt
          rw [HST.out] at ho
          have HO6 := Lib.hid ho
          have HB6 := Lib.hid (own_below HO1.out HB1.out (by simp; omega) hgr)
          clear ho hgr hat hlt
          go_wp2
          go_roundw
          case rel => exact ⟨k + 1, by omega, by simp, HO6, HB6⟩
          case measure => simp [intOf] <;> omega
        · subst hc
          have htk : tok (2, p2) = ⟨#[49]⟩ := rfl
          rw [htk] at HST
          have cw := ht.words 2 (by decide)
          rw [show word ((2 : Nat) : Int) = ⟨#[49]⟩ from rfl] at cw
          clear htk hp ht
          go_wp2_with (at_builtin; refine wpList_append_lies _ rfl (.tmp 38) (.tmp 40) 45 rfl w.heap.size 9 i0 (.string ⟨#[]⟩) 1 16 Tryd.underlying45 I0.out Z0.out Z1.out Z2.out rfl (by decide) u3 k _ rfl (HO1.out.alloc _) ⟨_, 0, none⟩ 1 1 [.string ⟨#[49]⟩] rfl rfl (one_cell _ _ _ _ (by simp)) (by simp [Value.oneCell']) (by omega) (by unfold maxLen; omega) (by omega) (by simp; omega) _ rfl ?_)
          intro g1 cp1 w6 ho hgr hat hlt
          rw [HST.out] at ho
          have HO6 := Lib.hid ho
          have HB6 := Lib.hid (own_below HO1.out HB1.out (by simp; omega) hgr)
          clear ho hgr hat hlt
          go_wp2
          go_roundw
          case rel => exact ⟨k + 1, by omega, by simp, HO6, HB6⟩
          case measure => simp [intOf] <;> omega
        · subst hc
          have htk : tok (3, p2) = ⟨#[50]⟩ := rfl
          rw [htk] at HST
          have cw := ht.words 3 (by decide)
          rw [show word ((3 : Nat) : Int) = ⟨#[50]⟩ from rfl] at cw
          clear htk hp ht
          go_wp2_with (at_builtin; refine wpList_append_lies _ rfl (.tmp 38) (.tmp 40) 45 rfl w.heap.size 9 i0 (.string ⟨#[]⟩) 1 16 Tryd.underlying45 I0.out Z0.out Z1.out Z2.out rfl (by decide) u3 k _ rfl (HO1.out.alloc _) ⟨_, 0, none⟩ 1 1 [.string ⟨#[50]⟩] rfl rfl (one_cell _ _ _ _ (by simp)) (by simp [Value.oneCell']) (by omega) (by unfold maxLen; omega) (by omega) (by simp; omega) _ rfl ?_)
          intro g1 cp1 w6 ho hgr hat hlt
          rw [HST.out] at ho
          have HO6 := Lib.hid ho
          have HB6 := Lib.hid (own_below HO1.out HB1.out (by simp; omega) hgr)
          clear ho hgr hat hlt
          go_wp2
          go_roundw
          case rel => exact ⟨k + 1, by omega, by simp, HO6, HB6⟩
          case measure => simp [intOf] <;> omega
        · subst hc
          have htk : tok (4, p2) = ⟨#[109]⟩ := rfl
          rw [htk] at HST
          have cw := ht.words 4 (by decide)
          rw [show word ((4 : Nat) : Int) = ⟨#[109]⟩ from rfl] at cw
          clear htk hp ht
          go_wp2_with (at_builtin; refine wpList_append_lies _ rfl (.tmp 38) (.tmp 40) 45 rfl w.heap.size 9 i0 (.string ⟨#[]⟩) 1 16 Tryd.underlying45 I0.out Z0.out Z1.out Z2.out rfl (by decide) u3 k _ rfl (HO1.out.alloc _) ⟨_, 0, none⟩ 1 1 [.string ⟨#[109]⟩] rfl rfl (one_cell _ _ _ _ (by simp)) (by simp [Value.oneCell']) (by omega) (by unfold maxLen; omega) (by omega) (by simp; omega) _ rfl ?_)
          intro g1 cp1 w6 ho hgr hat hlt
          rw [HST.out] at ho
          have HO6 := Lib.hid ho
          have HB6 := Lib.hid (own_below HO1.out HB1.out (by simp; omega) hgr)
          clear ho hgr hat hlt
          go_wp2
          go_roundw
          case rel => exact ⟨k + 1, by omega, by simp, HO6, HB6⟩
          case measure => simp [intOf] <;> omega
      · rcases hc with hc | hc
        · subst hc
          have htk : tok (0, p2) = ⟨#[115]⟩ ++ ⟨(Lib.itoa p2).toArray⟩ := rfl
          rw [htk] at HST
          have cw := ht.words 0 (by decide)
          rw [show word ((0 : Nat) : Int) = ⟨#[115]⟩ from rfl] at cw
          have TB := Lib.hid (HT.out _ HB1.out).pow
          have ki := fun W h => Tryd.strconv_Itoa p2 i1 i2 W h
          have hq : (⟨(Lib.itoa p2).toArray⟩ : ByteArray).size ≤ 21 := by
            show (Lib.itoa p2).toArray.size ≤ 21
            rw [List.size_toArray]
            exact Go.Lib.itoa_length_le p2 i1 i2
          generalize (⟨(Lib.itoa p2).toArray⟩ : ByteArray) = q at HST ki hq
          have KI := Lib.hid ki
          clear ki htk hp ht
          go_wp2_with (first
            | (go_at_call 25; (with_reducible refine (KI.out _ TB.out).mono ?_); (rintro e w5 ⟨rfl, kk, os, hw⟩); (have HO1 := Lib.hid (show w5.ownsRow _ _ _ _ _ _ by rw [hw]; exact Go.Lib.ownsRow_grow HO1.out kk os)); (have HB1 := Lib.hid (show Below w.heap.size w w5 by rw [hw]; exact HB1.out.trans (Go.Lib.below_grow _ _ HB1.out.size kk os))); (have hsz5 := HB1.out.size); clear hw)
            | (at_builtin; refine wpList_append_lies _ rfl (.tmp 38) (.tmp 40) 45 rfl w.heap.size 9 i0 (.string ⟨#[]⟩) 1 16 Tryd.underlying45 I0.out Z0.out Z1.out Z2.out rfl (by decide) u3 k _ rfl (HO1.out.alloc _) ⟨_, 0, none⟩ 1 1 [.string (⟨#[115]⟩ ++ q)] rfl rfl (one_cell _ _ _ _ (by simp)) (by simp [Value.oneCell']) (by omega) (by unfold maxLen; omega) (by omega) (by simp; omega) _ rfl ?_))
          intro g1 cp1 w6 ho hgr hat hlt
          rw [HST.out] at ho
          have HO6 := Lib.hid ho
          have HB6 := Lib.hid (own_below HO1.out HB1.out HB1.out.size hgr)
          clear ho hgr hat hlt
          go_wp2
          go_roundw
          case rel => exact ⟨k + 1, by omega, by simp, HO6, HB6⟩
          case measure => simp [intOf] <;> omega
        · subst hc
          have htk : tok (5, p2) = ⟨#[114]⟩ ++ ⟨(Lib.itoa p2).toArray⟩ := rfl
          rw [htk] at HST
          have cw := ht.words 5 (by decide)
          rw [show word ((5 : Nat) : Int) = ⟨#[114]⟩ from rfl] at cw
          have TB := Lib.hid (HT.out _ HB1.out).pow
          have ki := fun W h => Tryd.strconv_Itoa p2 i1 i2 W h
          have hq : (⟨(Lib.itoa p2).toArray⟩ : ByteArray).size ≤ 21 := by
            show (Lib.itoa p2).toArray.size ≤ 21
            rw [List.size_toArray]
            exact Go.Lib.itoa_length_le p2 i1 i2
          generalize (⟨(Lib.itoa p2).toArray⟩ : ByteArray) = q at HST ki hq
          have KI := Lib.hid ki
          clear ki htk hp ht
          go_wp2_with (first
            | (go_at_call 25; (with_reducible refine (KI.out _ TB.out).mono ?_); (rintro e w5 ⟨rfl, kk, os, hw⟩); (have HO1 := Lib.hid (show w5.ownsRow _ _ _ _ _ _ by rw [hw]; exact Go.Lib.ownsRow_grow HO1.out kk os)); (have HB1 := Lib.hid (show Below w.heap.size w w5 by rw [hw]; exact HB1.out.trans (Go.Lib.below_grow _ _ HB1.out.size kk os))); (have hsz5 := HB1.out.size); clear hw)
            | (at_builtin; refine wpList_append_lies _ rfl (.tmp 38) (.tmp 40) 45 rfl w.heap.size 9 i0 (.string ⟨#[]⟩) 1 16 Tryd.underlying45 I0.out Z0.out Z1.out Z2.out rfl (by decide) u3 k _ rfl (HO1.out.alloc _) ⟨_, 0, none⟩ 1 1 [.string (⟨#[114]⟩ ++ q)] rfl rfl (one_cell _ _ _ _ (by simp)) (by simp [Value.oneCell']) (by omega) (by unfold maxLen; omega) (by omega) (by simp; omega) _ rfl ?_))
          intro g1 cp1 w6 ho hgr hat hlt
          rw [HST.out] at ho
          have HO6 := Lib.hid ho
          have HB6 := Lib.hid (own_below HO1.out HB1.out HB1.out.size hgr)
          clear ho hgr hat hlt
          go_wp2
          go_roundw
          case rel => exact ⟨k + 1, by omega, by simp, HO6, HB6⟩
          case measure => simp [intOf] <;> omega
    · obtain rfl : k = n := by omega
      have ho := HO.out
      have hlk : L.take k = L := by rw [← HN.out]; exact List.take_length
      rw [hlk] at ho
      have hml : (L.map tok).length = k := by rw [List.length_map]; exact HN.out
      rcases ho.2 with ⟨q2, q3⟩ | ⟨g, cap, cur, q2, q3, q4, q5, q6, q7, q8⟩
      · subst q2
        subst q3
        have hL0 : L = [] := List.length_eq_zero_iff.1 HN.out
        have KJ := Lib.hid (fun W => Tryd.strings_Join_none none 0 ⟨#[32]⟩ W)
        clear ho hlk hml HO
        go_wp2_with (go_at_call 26; (with_reducible refine (KJ.out _).mono ?_); (rintro e w5 ⟨rfl, hw⟩))
        go_ret
        exact ⟨by rw [hL0]; rfl, by first | exact HB.out | (rw [hw]; exact HB.out) | (subst hw; exact HB.out)⟩
      · have hcells : ∀ (j : Nat) x, (L.map tok)[j]? = some x → wr.cell? ⟨g, 0 + j, none⟩ = some (.string x) := fun j x hx => by
          have hj : j < L.length := by
            have h1 := (List.getElem?_eq_some_iff.1 hx).1
            simpa using h1
          rw [q2] at ho
          rw [Nat.zero_add, ho.cellAt j (by have := HN.out; omega)]
          simp only [List.getElem?_map, Option.map_eq_some_iff] at hx ⊢
          obtain ⟨y, hy, rfl⟩ := hx
          exact ⟨y, hy, rfl⟩
        have kj := Tryd.strings_Join g 0 cap (L.map tok) ⟨#[32]⟩ wr hcells (by
          rcases Nat.lt_or_ge g wr.heap.size with h1 | h1
          · exact h1
          · rw [Array.getElem?_eq_none h1] at q4; cases q4) (by rw [hml]; omega) (by rw [hml]; exact q5) HLEN.out
        rw [hml, show Lib.join ((L.map tok).map (·.data.toList)) (⟨#[32]⟩ : ByteArray).data.toList = shown L from rfl] at kj
        have KJ := Lib.hid kj
        clear ho hlk hml HO hcells kj q4 q7 q8
        subst q2
        go_wp2_with (go_at_call 26; (with_reducible refine KJ.out.mono ?_); (rintro e w5 ⟨rfl, hb⟩))
        go_ret
        exact ⟨rfl, HB.out.trans ⟨hb.os, hb.tape, hb.output, hb.size, fun k2 hk2 => hb.block k2 (by have := HB.out.size; omega)⟩⟩
set_option maxHeartbeats 6400000 in
theorem show_none (A : Option Addr) (c : Nat) (w : World) :
    Calls Tryd.prog 16 #[.slice A 0 c] w fun e w' => e = .returned (.string ⟨(shown []).toArray⟩) ∧ Below w.heap.size w w' := by
  have KJ := Lib.hid (fun W => Tryd.strings_Join_none none 0 ⟨#[32]⟩ W)
  go_enter Tryd.func16, Tryd.ntmps16
  go_wp2
  go_loopw [3, 9] (fun v t wr => v = .slice none 0 0 ∧ t = .int .i64 0 ∧ wr = w) (fun _ t _ => 0)
  case atStart => exact ⟨rfl, rfl, rfl⟩
  case round =>
    obtain ⟨rfl, rfl, rfl⟩ := hrel
    go_wp2_with (go_at_call 26; (with_reducible refine (KJ.out _).mono ?_); (rintro e w5 ⟨rfl, hw⟩))
    go_ret
    exact ⟨rfl, by first | exact Below.refl _ _ | (rw [hw]; exact Below.refl _ _) | (subst hw; exact Below.refl _ _)⟩
end Go.Proofs.YtdlgceepanegdaaDoor.HShow
