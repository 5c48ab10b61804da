/- Numbers as bytes, plain: no program in sight. -/
import Derived.Lib.BitFns
import Derived.Lib.ItoaNum
namespace Go.Proofs.YtakibnkhfmneiaaDoor.WMath

def ints (l : List Nat) : List Int := l.map (fun x : Nat => (x : Int))
theorem ints_append (l m : List Nat) : ints (l ++ m) = ints l ++ ints m := by simp [ints]
theorem ints_length (l : List Nat) : (ints l).length = l.length := by simp [ints]
theorem ints_inj {l m : List Nat} (h : ints l = ints m) : l = m := by
  have := congrArg (List.map Int.toNat) h
  simpa [ints, List.map_map, Function.comp_def] using this
def Bytes (l : List Nat) : Prop := ∀ x ∈ l, x < 256
/-- m bytes, big end first -/
def be : Nat → Nat → List Nat
  | 0, _ => []
  | m + 1, n => be m (n / 256) ++ [n % 256]
def val (l : List Nat) : Nat := l.foldl (fun a c => a * 256 + c) 0
theorem val_nil : val [] = 0 := rfl
theorem val_snoc (l : List Nat) (c : Nat) : val (l ++ [c]) = val l * 256 + c := by simp [val]
theorem be_length (m : Nat) : ∀ n, (be m n).length = m := by
  induction m with
  | zero => intro n; rfl
  | succ m ih => intro n; simp [be, ih]
theorem be_bytes (m : Nat) : ∀ n, Bytes (be m n) := by
  induction m with
  | zero => intro n x hx; cases hx
  | succ m ih =>
    intro n x hx
    simp only [be, List.mem_append, List.mem_singleton] at hx
    rcases hx with hx | rfl
    · exact ih _ x hx
    · omega
theorem val_be (m : Nat) : ∀ n, val (be m n) = n % 256 ^ m := by
  induction m with
  | zero => intro n; simp [be, val, Nat.mod_one]
  | succ m ih =>
    intro n
    rw [be, val_snoc, ih, Nat.pow_succ, Nat.mul_comm (256 ^ m) 256, Nat.mod_mul]
    omega
theorem val_be_lt {m n : Nat} (h : n < 256 ^ m) : val (be m n) = n := by rw [val_be, Nat.mod_eq_of_lt h]
theorem be_val_aux (k : Nat) : ∀ l : List Nat, l.length = k → Bytes l → be k (val l) = l := by
  induction k with
  | zero => intro l hl _; rw [List.length_eq_zero_iff.1 hl]; rfl
  | succ k ih =>
    intro l hl hb
    rcases List.eq_nil_or_concat l with rfl | ⟨l', c, rfl⟩
    · simp at hl
    · have hl' : l'.length = k := by simpa using hl
      have hc : c < 256 := hb c (by simp)
      have hb' : Bytes l' := fun x hx => hb x (by simp [hx])
      rw [be, List.concat_eq_append, val_snoc, show (val l' * 256 + c) / 256 = val l' by omega, show (val l' * 256 + c) % 256 = c by omega, ih l' hl' hb']
theorem be_val (l : List Nat) (hb : Bytes l) : be l.length (val l) = l := be_val_aux _ l rfl hb
theorem val_lt_aux (k : Nat) : ∀ l : List Nat, l.length = k → Bytes l → val l < 256 ^ k := by
  induction k with
  | zero => intro l hl _; rw [List.length_eq_zero_iff.1 hl]; decide
  | succ k ih =>
    intro l hl hb
    rcases List.eq_nil_or_concat l with rfl | ⟨l', c, rfl⟩
    · simp at hl
    · have hl' : l'.length = k := by simpa using hl
      have hc : c < 256 := hb c (by simp)
      have := ih l' hl' (fun x hx => hb x (by simp [hx]))
      rw [List.concat_eq_append, val_snoc, Nat.pow_succ]
      omega
theorem val_lt (l : List Nat) (hb : Bytes l) : val l < 256 ^ l.length := val_lt_aux _ l rfl hb

/-- how many bytes a number has -/
def blen (n : Nat) : Nat := (Lib.bitLen n + 7) / 8
theorem p8 (m : Nat) : 256 ^ m = 2 ^ (8 * m) := by rw [Nat.pow_mul]
theorem blen_zero : blen 0 = 0 := by decide
theorem blen_up {n : Nat} (h : n < 2 ^ 64) : n < 256 ^ blen n := by
  rcases Nat.eq_zero_or_pos n with rfl | h0
  · exact Nat.pow_pos (by decide)
  · obtain ⟨_, _, h3⟩ := Lib.bitLenAux_bounds 64 n h (by omega)
    rw [p8]
    refine Nat.lt_of_lt_of_le h3 (Nat.pow_le_pow_right (by decide) ?_)
    unfold blen Lib.bitLen
    omega
theorem blen_down {n : Nat} (h : n < 2 ^ 64) (h0 : 0 < n) : 1 ≤ blen n ∧ 256 ^ (blen n - 1) ≤ n := by
  obtain ⟨h1, h2, _⟩ := Lib.bitLenAux_bounds 64 n h (by omega)
  have hb : blen n = (Lib.bitLenAux 64 n + 7) / 8 := rfl
  refine ⟨by omega, ?_⟩
  rw [p8]
  refine Nat.le_trans (Nat.pow_le_pow_right (by decide) ?_) h2
  omega
theorem blen_le {n m : Nat} (h : n < 2 ^ 64) (hm : n < 256 ^ m) : blen n ≤ m := by
  rcases Nat.eq_zero_or_pos n with rfl | h0
  · rw [blen_zero]; omega
  · obtain ⟨h1, h2⟩ := blen_down h h0
    have h3 : 256 ^ (blen n - 1) < 256 ^ m := Nat.lt_of_le_of_lt h2 hm
    have := (Nat.pow_lt_pow_iff_right (a := 256) (by decide)).1 h3
    omega
theorem blen_8 {n : Nat} (h : n < 2 ^ 64) : blen n ≤ 8 := blen_le h (by rw [p8]; exact h)
theorem blen_eq {n m : Nat} (h : n < 2 ^ 64) (h0 : 1 ≤ m) (h1 : 256 ^ (m - 1) ≤ n) (h2 : n < 256 ^ m) : blen n = m := by
  have h3 := blen_le h h2
  have h4 := blen_up h
  have h5 : 256 ^ (m - 1) < 256 ^ blen n := Nat.lt_of_le_of_lt h1 h4
  have := (Nat.pow_lt_pow_iff_right (a := 256) (by decide)).1 h5
  omega
theorem blen_mono {m n : Nat} (hn : n < 2 ^ 64) (h : m ≤ n) : blen m ≤ blen n := blen_le (by omega) (Nat.lt_of_le_of_lt h (blen_up hn))

/-- a number's bytes -/
def put (n : Nat) : List Nat := if n < 192 then [n] else (191 + blen n) :: be (blen n) n
theorem put_length (n : Nat) : (put n).length = if n < 192 then 1 else 1 + blen n := by
  unfold put
  split
  · rfl
  · simp [be_length]; omega
theorem put_bytes {n : Nat} (h : n < 2 ^ 64) : Bytes (put n) := by
  unfold put
  split
  · intro x hx; simp at hx; omega
  · intro x hx
    have := blen_8 h
    rcases List.mem_cons.1 hx with rfl | hx
    · omega
    · exact be_bytes _ _ x hx
theorem put_ne_nil (n : Nat) : put n ≠ [] := by
  unfold put
  split <;> simp
theorem put_range {n : Nat} (h : n < 2 ^ 64) : 1 ≤ (put n).length ∧ (put n).length ≤ 9 := by
  have := blen_8 h
  rw [put_length]
  split <;> omega
theorem blen_192 {n : Nat} (h : n < 2 ^ 64) (h0 : 192 ≤ n) : 1 ≤ blen n := (blen_down h (by omega)).1

/-- the number at the head of bytes: its value, how many bytes it has, what is wrong -/
def getN (l : List Nat) : Nat × Nat × Nat :=
  match l with
  | [] => (0, 0, 2)
  | c :: r =>
    if 199 < c then (0, 0, 3) else if c < 192 then (c, 1, 0) else if r.length < c - 191 then (0, 0, 2)
    else if val (r.take (c - 191)) < 192 ∨ r.head? = some 0 then (0, 0, 3) else (val (r.take (c - 191)), 1 + (c - 191), 0)

theorem be_head {m n : Nat} (h : 1 ≤ m) (h1 : 256 ^ (m - 1) ≤ n) (h2 : n < 256 ^ m) : (be m n).head? ≠ some 0 := by
  have key : ∀ (m n : Nat), 256 ^ m ≤ n → n < 256 ^ (m + 1) → (be (m + 1) n).head? ≠ some 0 := by
    intro m
    induction m with
    | zero =>
      intro n a b
      have b' : n < 256 := b
      have a' : 1 ≤ n := a
      simp [be]
      omega
    | succ m ih =>
      intro n a b
      rw [be]
      have a' : 256 ^ m ≤ n / 256 := by rw [Nat.le_div_iff_mul_le (by decide)]; rw [← Nat.pow_succ]; exact a
      have b' : n / 256 < 256 ^ (m + 1) := by rw [Nat.div_lt_iff_lt_mul (by decide), ← Nat.pow_succ]; exact b
      have := ih _ a' b'
      rw [List.head?_append]
      cases hx : (be (m + 1) (n / 256)).head? with
      | none =>
        rw [List.head?_eq_none_iff] at hx
        have := congrArg List.length hx
        simp [be_length] at this
      | some y =>
        rw [hx] at this
        simpa using this
  obtain ⟨k, rfl⟩ : ∃ k, m = k + 1 := ⟨m - 1, by omega⟩
  exact key k n (by simpa using h1) h2

/-- WHAT IS PUT IS GOT, whatever stands behind. -/
theorem getN_put {n : Nat} (h : n < 2 ^ 64) (r : List Nat) : getN (put n ++ r) = (n, (put n).length, 0) := by
  rw [put_length]
  unfold put
  by_cases h1 : n < 192
  · rw [if_pos h1, if_pos h1]
    simp only [List.cons_append, List.nil_append, getN]
    rw [if_neg (by omega), if_pos h1]
  · rw [if_neg h1, if_neg h1]
    have h8 := blen_8 h
    have hb := blen_192 h (by omega)
    have hd := blen_down h (by omega)
    simp only [List.cons_append, getN]
    rw [if_neg (by omega), if_neg (by omega), show 191 + blen n - 191 = blen n by omega, if_neg (by simp [be_length]), List.take_append_of_le_length (by rw [be_length]; omega), List.take_of_length_le (by rw [be_length]; omega), val_be_lt (blen_up h), if_neg]
    intro hc
    rcases hc with hc | hc
    · omega
    · rw [List.head?_append] at hc
      have hh := be_head hb hd.2 (blen_up h)
      cases hx : (be (blen n) n).head? with
      | none =>
        rw [List.head?_eq_none_iff] at hx
        have := congrArg List.length hx
        simp [be_length] at this
        omega
      | some y =>
        rw [hx] at hc hh
        simp at hc
        exact hh (by rw [hc])

theorem val_head {r : List Nat} {m : Nat} (hb : Bytes r) (hm : 1 ≤ m) (hl : m ≤ r.length) (h0 : r.head? ≠ some 0) : 256 ^ (m - 1) ≤ val (r.take m) := by
  have key : ∀ (m : Nat) (t : List Nat), t.length = m + 1 → Bytes t → t.head? ≠ some 0 → 256 ^ m ≤ val t := by
    intro m
    induction m with
    | zero =>
      intro t ht _ h0
      match t, ht with
      | [c], _ =>
        simp at h0
        simp [val]
        omega
    | succ m ih =>
      intro t ht hb h0
      rcases List.eq_nil_or_concat t with rfl | ⟨t', c, rfl⟩
      · simp at ht
      · have ht' : t'.length = m + 1 := by simpa using ht
        rw [List.concat_eq_append] at h0 ⊢
        have h0' : t'.head? ≠ some 0 := by
          intro he
          apply h0
          rw [List.head?_append, he]
          rfl
        have := ih t' ht' (fun x hx => hb x (by simp [hx])) h0'
        rw [val_snoc, Nat.pow_succ]
        omega
  obtain ⟨k, rfl⟩ : ∃ k, m = k + 1 := ⟨m - 1, by omega⟩
  refine key k (r.take (k + 1)) (by simp; omega) (fun x hx => hb x (List.mem_of_mem_take hx)) ?_
  rw [List.head?_take]
  simpa using h0

/-- WHAT IS GOT HAS JUST THE BYTES THAT IT WAS GOT OF. -/
theorem put_getN {l : List Nat} (hb : Bytes l) (h : (getN l).2.2 = 0) :
    (getN l).1 < 2 ^ 64 ∧ 1 ≤ (getN l).2.1 ∧ (getN l).2.1 ≤ l.length ∧ put (getN l).1 = l.take (getN l).2.1 := by
  match l with
  | [] => simp [getN] at h
  | c :: r =>
    have hc : c < 256 := hb c (by simp)
    have hr : Bytes r := fun x hx => hb x (by simp [hx])
    simp only [getN] at h ⊢
    by_cases h1 : 199 < c
    · rw [if_pos h1] at h; simp at h
    rw [if_neg h1] at h ⊢
    by_cases h2 : c < 192
    · rw [if_pos h2]
      refine ⟨by simp; omega, by simp, by simp, ?_⟩
      simp [put, h2]
    rw [if_neg h2] at h ⊢
    obtain ⟨m, rfl⟩ : ∃ m, c = m + 191 := ⟨c - 191, by omega⟩
    rw [Nat.add_sub_cancel] at h ⊢
    by_cases h3 : r.length < m
    · rw [if_pos h3] at h; simp at h
    rw [if_neg h3] at h ⊢
    by_cases h4 : val (r.take m) < 192 ∨ r.head? = some 0
    · rw [if_pos h4] at h; simp at h
    rw [if_neg h4]
    simp only [not_or] at h4
    have hl : (r.take m).length = m := by simp; omega
    have hbt : Bytes (r.take m) := fun x hx => hr x (List.mem_of_mem_take hx)
    have hv := val_lt _ hbt
    rw [hl] at hv
    have h64 : val (r.take m) < 2 ^ 64 := by
      refine Nat.lt_of_lt_of_le hv ?_
      rw [p8]
      exact Nat.pow_le_pow_right (by decide) (by omega)
    have hlo := val_head hr (m := m) (by omega) (by omega) h4.2
    have he : blen (val (r.take m)) = m := blen_eq h64 (by omega) hlo hv
    have hbv := be_val _ hbt
    rw [hl] at hbv
    have hp : put (val (r.take m)) = ((m + 191) :: r).take (1 + m) := by
      rw [put, if_neg h4.1, he, hbv, Nat.add_comm 191, Nat.add_comm 1, List.take_succ_cons]
    have h5 : 1 + m ≤ ((m + 191) :: r).length := by simp only [List.length_cons]; omega
    have h6 : 1 ≤ 1 + m := by omega
    generalize (m + 191) :: r = l at *
    generalize 1 + m = k at *
    generalize val (r.take m) = v at *
    exact ⟨h64, h6, h5, hp⟩

theorem getN_zero {l : List Nat} (h : (getN l).2.2 ≠ 0) : (getN l).1 = 0 ∧ (getN l).2.1 = 0 := by
  match l with
  | [] => simp [getN]
  | c :: r =>
    simp only [getN] at h ⊢
    split at h <;> rename_i h1
    · rw [if_pos h1]; simp
    rw [if_neg h1]
    split at h <;> rename_i h2
    · simp at h
    rw [if_neg h2]
    split at h <;> rename_i h3
    · rw [if_pos h3]; simp
    rw [if_neg h3]
    split at h <;> rename_i h4
    · rw [if_pos h4]; simp
    · simp at h

theorem put_inj {m n : Nat} (hm : m < 2 ^ 64) (hn : n < 2 ^ 64) (h : put m = put n) : m = n := by
  have h1 := getN_put hm []
  have h2 := getN_put hn []
  rw [h, h2] at h1
  exact (Prod.mk.inj h1).1.symm
/-- no number's bytes begin with those of another one -/
theorem put_heads {m n : Nat} (hm : m < 2 ^ 64) (hn : n < 2 ^ 64) (h : (put n).take (put m).length = put m) : m = n := by
  have h2 := getN_put hn []
  have e : put n ++ [] = put m ++ (put n).drop (put m).length := by
    rw [List.append_nil]
    conv => lhs; rw [← List.take_append_drop (put m).length (put n), h]
  rw [e, getN_put hm] at h2
  exact (Prod.mk.inj h2).1
theorem put_mono {m n : Nat} (hn : n < 2 ^ 64) (h : m < n) : (put m).length ≤ (put n).length := by
  rw [put_length, put_length]
  have := blen_mono hn (Nat.le_of_lt h)
  have h2 : 192 ≤ n → 1 ≤ blen n := blen_192 hn
  split <;> split <;> omega
/-- a number's bytes, cut off: too short, or nothing -/
theorem getN_cut {n k : Nat} (h : n < 2 ^ 64) (hk : k < (put n).length) : getN ((put n).take k) = (0, 0, 2) := by
  rw [put_length] at hk
  unfold put
  by_cases h1 : n < 192
  · rw [if_pos h1] at hk ⊢
    have : k = 0 := by omega
    subst this
    simp [getN]
  · rw [if_neg h1] at hk ⊢
    have h8 := blen_8 h
    have hb := blen_192 h (by omega)
    cases k with
    | zero => simp [getN]
    | succ k =>
      rw [List.take_succ_cons]
      simp only [getN]
      rw [if_neg (by omega), if_neg (by omega), if_pos]
      simp [be_length]
      omega
end Go.Proofs.YtakibnkhfmneiaaDoor.WMath
