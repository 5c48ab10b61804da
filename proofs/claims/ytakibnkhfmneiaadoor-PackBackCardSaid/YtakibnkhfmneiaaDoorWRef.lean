/- What the document's own wire computes: the same. -/
import Derived.Test.YtakibnkhfmneiaaDoorWEq
import Derived.Test.YtakibnkhfmneiaaDoorQ10
import Derived.Test.YtakibnkhfmneiaaDoorQ14
namespace Go.Proofs.YtakibnkhfmneiaaDoor.WEq
open Go.RowKit Go.Proofs.YtakibnkhfmneiaaDoorW.PrintWords Go.Proofs.YtakibnkhfmneiaaDoorW.PrintLast Go.Proofs.YtakibnkhfmneiaaDoorW.PrintMore Go.Proofs.YtakibnkhfmneiaaDoor.Q WMath BMath

theorem blen_div {n : Nat} (h : n < 2 ^ 64) (h0 : 0 < n) : blen n = blen (n / 256) + 1 := by
  have h1 := blen_up (n := n / 256) (by omega)
  refine blen_eq h (by omega) ?_ ?_
  · rw [Nat.add_sub_cancel]
    rcases Nat.eq_zero_or_pos (n / 256) with hz | hp
    · rw [hz, blen_zero]; exact h0
    · obtain ⟨a, b⟩ := blen_down (n := n / 256) (by omega) hp
      obtain ⟨m, hm⟩ : ∃ m, blen (n / 256) = m + 1 := ⟨blen (n / 256) - 1, by omega⟩
      rw [hm] at b ⊢
      rw [Nat.add_sub_cancel] at b
      rw [Nat.pow_succ]
      omega
  · rw [Nat.pow_succ]
    omega
theorem refput_loop (d : Nat) : ∀ (k n : Nat) (s : ByteArray), blen n = d → n < 2 ^ 64 → d < k → d + s.size ≤ 60 →
    ∃ r, clewref02_Put.l0 k (n : Int) s = some r ∧ bl r = (191 + (d + s.size)) :: (be d n ++ bl s) := by
  induction d with
  | zero =>
    intro k n s hb hn hk hs
    obtain ⟨k, rfl⟩ : ∃ j, k = j + 1 := ⟨k - 1, by omega⟩
    have h0 : n = 0 := by
      rcases Nat.eq_zero_or_pos n with h | h
      · exact h
      · have := blen_down hn h; omega
    subst h0
    simp only [clewref02_Put.l0]
    rw [if_neg (by omega), Option.bind_some, if_pos (by rw [size_nums]; simp; omega), wrap_in (by omega) (by omega)]
    refine ⟨_, rfl, ?_⟩
    rw [bl_append, bl_nums _ (by intro x hx; simp at hx; omega)]
    simp [be]
    omega
  | succ d ih =>
    intro k n s hb hn hk hs
    obtain ⟨k, rfl⟩ : ∃ j, k = j + 1 := ⟨k - 1, by omega⟩
    have h0 : 0 < n := by
      rcases Nat.eq_zero_or_pos n with h | h
      · subst h; rw [blen_zero] at hb; omega
      · exact h
    have hd := blen_div hn h0
    have e1 : (Int.tmod (n : Int) 256) % 256 = ((n % 256 : Nat) : Int) := by
      rw [Int.tmod_eq_emod_of_nonneg (by omega)]
      omega
    have e2 : IntKind.u64.wrap (Int.tdiv (n : Int) 256) = ((n / 256 : Nat) : Int) := by
      rw [Int.tdiv_eq_ediv_of_nonneg (by omega)]
      show ((n : Int) / 256) % 18446744073709551616 = _
      have : n < 18446744073709551616 := hn
      omega
    simp only [clewref02_Put.l0]
    rw [if_pos (by omega), Option.bind_some, e1, e2, if_pos (by rw [size_nums]; simp; omega)]
    obtain ⟨r, hr, hbr⟩ := ih k (n / 256) (strOfNums [((n % 256 : Nat) : Int)] ++ s) (by omega) (by omega) (by omega) (by rw [ByteArray.size_append, size_nums]; simp; omega)
    refine ⟨r, hr, ?_⟩
    rw [hbr, bl_append, bl_nums _ (by intro x hx; simp at hx; omega), ByteArray.size_append, size_nums, be]
    simp
    omega
theorem refput_eq (k n : Nat) (hk : 10 ≤ k) (hn : n < 2 ^ 64) : clewref02_Put.f k (n : Int) = some (putS n) := by
  unfold clewref02_Put.f
  by_cases h : n < 192
  · rw [if_pos (by omega)]
    unfold putS put
    rw [if_pos h, show (n : Int) % 256 = n by omega]
    rfl
  · rw [if_neg (by omega)]
    have h8 := blen_8 hn
    obtain ⟨r, hr, hb⟩ := refput_loop (blen n) k n (⟨#[]⟩ : ByteArray) rfl hn (by omega) (by show blen n + 0 ≤ 60; omega)
    rw [hr]
    congr 1
    apply bl_inj
    rw [hb, bl_putS hn, put, if_neg h, bl_empty, List.append_nil]
    rfl
theorem put_iff {c : Nat} {r : List Nat} (hb : Bytes (c :: r)) (h1 : c ≤ 199) (h2 : 192 ≤ c) (h3 : c - 191 ≤ r.length) :
    put (val (r.take (c - 191))) = c :: r.take (c - 191) ↔ ¬ (val (r.take (c - 191)) < 192 ∨ r.head? = some 0) := by
  have hr : Bytes r := fun x hx => hb x (by simp [hx])
  have hv : val (r.take (c - 191)) < 2 ^ 64 := by
    refine Nat.lt_of_lt_of_le (val_lt _ (fun x hx => hr x (List.mem_of_mem_take hx))) ?_
    rw [p8]
    exact Nat.pow_le_pow_right (by decide) (by simp; omega)
  have hg : getN (c :: r) = if val (r.take (c - 191)) < 192 ∨ r.head? = some 0 then (0, 0, 3) else (val (r.take (c - 191)), 1 + (c - 191), 0) := by
    simp only [getN]
    rw [if_neg (by omega), if_neg (by omega), if_neg (by omega)]
  constructor
  · intro hp hbad
    rw [if_pos hbad] at hg
    have := getN_put hv (r.drop (c - 191))
    rw [hp, List.cons_append, List.take_append_drop, hg] at this
    simp at this
  · intro hok
    rw [if_neg hok] at hg
    have := put_getN hb (by rw [hg])
    rw [hg] at this
    have h4 := this.2.2.2
    simp only [] at h4
    rw [h4, Nat.add_comm, List.take_succ_cons]

theorem refget_loop (s : ByteArray) (a c : Nat) (r : List Nat) (hl : (bl s).drop a = c :: r) (h1 : c ≤ 199) (h2 : 192 ≤ c) (h3 : c - 191 ≤ r.length) (hs : s.size ≤ 1000000000) (d : Nat) :
    ∀ (k i : Nat), 1 ≤ i → c - 191 + 1 - i = d → i ≤ c - 191 + 1 → d + 10 < k →
      clewref02_Get.l0 k s (a : Int) (c : Int) ((val (r.take (i - 1)) : Nat) : Int) (i : Int) = some (tell a (getN (c :: r))) := by
  have hlen : s.size - a = r.length + 1 := by
    have := congrArg List.length hl
    rw [List.length_drop, bl_length] at this
    simpa using this
  have hb : Bytes (c :: r) := by rw [← hl]; exact fun x hx => bl_bytes s x (List.mem_of_mem_drop hx)
  have hr : Bytes r := fun x hx => hb x (by simp [hx])
  induction d with
  | zero =>
    intro k i hi hd hi2 hk
    obtain ⟨k, rfl⟩ : ∃ j, k = j + 1 := ⟨k - 1, by omega⟩
    have hic : i = c - 191 + 1 := by omega
    subst hic
    rw [Nat.add_sub_cancel]
    have hv : val (r.take (c - 191)) < 2 ^ 64 := by
      refine Nat.lt_of_lt_of_le (val_lt _ (fun x hx => hr x (List.mem_of_mem_take hx))) ?_
      rw [p8]
      exact Nat.pow_le_pow_right (by decide) (by simp; omega)
    simp only [clewref02_Get.l0]
    rw [if_neg (by rw [wrap_in (by omega) (by omega)]; omega), refput_eq k _ (by omega) hv, Option.bind_some]
    have e : wrap64 ((wrap64 ((wrap64 ((a : Int) + 1)) + (c : Int))) - 191) = ((a + 1 + (c - 191) : Nat) : Int) := by
      rw [wrap_in (x := (a : Int) + 1) (by omega) (by omega), wrap_in (x := (a : Int) + 1 + c) (by omega) (by omega), wrap_in (by omega) (by omega)]
      omega
    rw [e, if_pos (by omega), if_pos (by omega), if_pos (by omega), Int.toNat_natCast, Int.toNat_natCast]
    have hx : bl (s.extract a (a + 1 + (c - 191))) = c :: r.take (c - 191) := by
      rw [bl_extract, List.drop_take, hl, show a + 1 + (c - 191) - a = (c - 191) + 1 by omega, List.take_succ_cons]
    have hiff : (putS (val (r.take (c - 191)))).toList = (s.extract a (a + 1 + (c - 191))).toList ↔ ¬ (val (r.take (c - 191)) < 192 ∨ r.head? = some 0) := by
      rw [toList_iff, bl_putS hv, hx]
      exact put_iff hb h1 h2 h3
    have hg : getN (c :: r) = if val (r.take (c - 191)) < 192 ∨ r.head? = some 0 then (0, 0, 3) else (val (r.take (c - 191)), 1 + (c - 191), 0) := by
      simp only [getN]
      rw [if_neg (by omega), if_neg (by omega), if_neg (by omega)]
    rw [hg]
    by_cases hbad : val (r.take (c - 191)) < 192 ∨ r.head? = some 0
    · rw [if_neg (fun h => hiff.1 h hbad), if_pos hbad]; rfl
    · rw [if_pos (hiff.2 hbad), if_neg hbad]
      have ht : ∀ v m : Nat, some ((v : Int), ((a + 1 + m : Nat) : Int), (0 : Int)) = some (tell a (v, 1 + m, 0)) := by
        intro v m
        simp [tell]
        omega
      exact ht _ _
  | succ d ih =>
    intro k i hi hd hi2 hk
    obtain ⟨k, rfl⟩ : ∃ j, k = j + 1 := ⟨k - 1, by omega⟩
    have hir : i - 1 < r.length := by omega
    have hrc : r[i - 1]'hir < 256 := hr _ (List.getElem_mem hir)
    have hbt : bt s ((a + i : Nat) : Int) = ((r[i - 1]'hir : Nat) : Int) := by
      rw [bt_bl, Int.toNat_natCast]
      have : (bl s).getD (a + i) 0 = ((bl s).drop a).getD i 0 := by
        simp [List.getD_eq_getElem?_getD, List.getElem?_drop]
      rw [this, hl]
      obtain ⟨j, rfl⟩ : ∃ j, i = j + 1 := ⟨i - 1, by omega⟩
      simp [List.getD_eq_getElem?_getD, List.getElem?_eq_getElem (show j < r.length by omega)]
    have hv : val (r.take (i - 1)) < 256 ^ 7 := by
      refine Nat.lt_of_lt_of_le (val_lt _ (fun x hx => hr x (List.mem_of_mem_take hx))) ?_
      exact Nat.pow_le_pow_right (by decide) (by simp; omega)
    have e7 : (256 : Nat) ^ 7 = 72057594037927936 := by decide
    rw [e7] at hv
    have e1 : IntKind.u64.wrap ((IntKind.u64.wrap (((val (r.take (i - 1)) : Nat) : Int) * 256)) + (IntKind.u64.wrap (((r[i - 1]'hir : Nat) : Int)))) = ((val (r.take (i - 1)) * 256 + r[i - 1]'hir : Nat) : Int) := by
      show ((((val (r.take (i - 1)) : Nat) : Int) * 256) % 18446744073709551616 + (((r[i - 1]'hir : Nat) : Int)) % 18446744073709551616) % 18446744073709551616 = _
      omega
    simp only [clewref02_Get.l0]
    rw [wrap_in (x := (c : Int) - 191) (by omega) (by omega), if_pos (by omega), wrap_in (x := (a : Int) + (i : Int)) (by omega) (by omega), if_pos (by omega), if_pos (by omega), show (a : Int) + (i : Int) = ((a + i : Nat) : Int) by omega, hbt, e1, wrap_in (x := (i : Int) + 1) (by omega) (by omega)]
    have := ih k (i + 1) (by omega) (by omega) (by omega) (by omega)
    rw [Nat.add_sub_cancel] at this
    rw [← val_snoc, ← List.take_succ_eq_append_getElem hir, show (i : Int) + 1 = ((i + 1 : Nat) : Int) by omega, show i - 1 + 1 = i by omega]
    exact this
theorem refget_eq (k : Nat) (s : ByteArray) (a : Int) (hs : s.size ≤ 1000000000) (hk : 30 ≤ k) : clewref02_Get.f k s a = wire_Get.f s a := by
  obtain ⟨k, rfl⟩ : ∃ j, k = j + 1 := ⟨k - 1, by omega⟩
  unfold clewref02_Get.f
  by_cases h0 : a < 0
  · rw [if_pos h0, get_out s a (Or.inl h0) (by omega)]
    simp only [clewref02_Get.j0]
    rw [if_pos trivial]
  rw [if_neg h0]
  by_cases h1 : a > (s.size : Int)
  · rw [get_out s a (Or.inr h1) (by omega)]
    simp only [clewref02_Get.j0]
    rw [if_pos (by simpa using h1)]
  obtain ⟨a, rfl⟩ := Int.eq_ofNat_of_zero_le (a := a) (by omega)
  rw [get_eq s a (by omega) (by omega)]
  simp only [clewref02_Get.j0]
  rw [if_neg (by simpa using h1)]
  by_cases h2 : a = s.size
  · rw [if_pos (by omega)]
    have : (bl s).drop a = [] := List.drop_eq_nil_of_le (by rw [bl_length]; omega)
    rw [this]
    rfl
  rw [if_neg (by omega), if_pos (by omega), if_pos (by omega)]
  match hl : (bl s).drop a with
  | [] =>
    have := congrArg List.length hl
    rw [List.length_drop, bl_length] at this
    simp at this
    omega
  | c :: r =>
    have hlen : s.size - a = r.length + 1 := by
      have := congrArg List.length hl
      rw [List.length_drop, bl_length] at this
      simpa using this
    have hc : c < 256 := bl_bytes s c (List.mem_of_mem_drop (by rw [hl]; simp))
    have hbt : bt s (a : Int) = (c : Int) := by
      rw [bt_bl, Int.toNat_natCast]
      have : (bl s).getD a 0 = ((bl s).drop a).getD 0 0 := by simp [List.getD_eq_getElem?_getD, List.getElem?_drop]
      rw [this, hl]
      rfl
    rw [hbt, wrap_in (x := (c : Int)) (by omega) (by omega), wrap_in (x := (s.size : Int) - (a : Int)) (by omega) (by omega), wrap_in (x := (s.size : Int) - (a : Int) - 1) (by omega) (by omega), wrap_in (x := (c : Int) - 191) (by omega) (by omega)]
    by_cases c1 : 199 < c
    · rw [if_pos (by omega)]; simp only [getN]; rw [if_pos c1]; rfl
    rw [if_neg (by omega)]
    by_cases c2 : c < 192
    · rw [if_pos (by omega), wrap_in (x := (a : Int) + 1) (by omega) (by omega)]
      simp only [getN]
      rw [if_neg c1, if_pos c2, show IntKind.u64.wrap (c : Int) = (c : Int) by (show (c : Int) % 18446744073709551616 = c; omega)]
      rfl
    rw [if_neg (by omega)]
    by_cases c3 : r.length < c - 191
    · rw [if_pos (by omega)]; simp only [getN]; rw [if_neg c1, if_neg c2, if_pos c3]; rfl
    rw [if_neg (by omega)]
    exact refget_loop s a c r hl (by omega) (by omega) (by omega) hs (c - 191) k 1 (by omega) (by omega) (by omega) (by omega)
end Go.Proofs.YtakibnkhfmneiaaDoor.WEq
