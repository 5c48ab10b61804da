/- Numbers that are put, one behind the other, are got as they were; cut off within the last one they are not (at most 20 numbers). No condition. -/
import Derived.Test.YtbillgeckogfnaaWLaw
import Derived.Test.YtbillgeckogfnaaQ9
namespace Go.Proofs.Ytbillgeckogfnaa.Pure
open Go.RowKit Go.Proofs.Ytbillgeckogfnaa.Q Go.Proofs.YtbillgeckogfnaaW.PrintWords Go.Proofs.YtbillgeckogfnaaW.PrintLast Go.Proofs.YtbillgeckogfnaaW.PrintMore WMath BMath WEq

theorem cat_le (ns : List Nat) (h : ∀ n ∈ ns, n < 2 ^ 64) : (cat ns).length ≤ 9 * ns.length := by
  induction ns with
  | nil => simp [cat]
  | cons n ns ih =>
    have := ih (fun x hx => h x (by simp [hx]))
    have := put_range (h n (by simp))
    rw [cat_cons, List.length_append, List.length_cons]
    omega
/-- all of what was put is got -/
theorem all_of_cat (most : Int) (s : ByteArray) (ns : List Nat) (h : ∀ n ∈ ns, n < 2 ^ 64) (hs : bl s = cat ns) (hm : (ns.length : Int) ≤ most) (r : List Nat × Nat)
    (hr : r = (ns, 0)) : all most (s.size + 1) [] (bl s) = r := by
  subst hr
  have c := cat_length ns h
  rw [← hs, bl_length] at c
  have := all_cat most [] ns (s.size + 1 - ns.length) [] h (by simpa using hm)
  rw [List.append_nil, List.nil_append, show s.size + 1 - ns.length + ns.length = s.size + 1 by omega] at this
  rw [hs, this]
  obtain ⟨j, hj⟩ : ∃ j, s.size + 1 - ns.length = j + 1 := ⟨s.size - ns.length, by omega⟩
  rw [hj, all_nil]
/-- all but the last one, and then what is no number, or one too many -/
theorem all_of_part (most : Int) (s : ByteArray) (ns r : List Nat) (h : ∀ n ∈ ns, n < 2 ^ 64) (hs : bl s = cat ns ++ r) (hm : (ns.length : Int) ≤ most) (hr : r ≠ []) :
    all most (s.size + 1) [] (bl s) = if most ≤ (ns.length : Int) then ([], 4) else if (getN r).2.2 ≠ 0 then ([], (getN r).2.2) else all most (s.size - ns.length) (ns ++ [(getN r).1]) (r.drop (getN r).2.1) := by
  have c := cat_length ns h
  have hl : s.size = (cat ns).length + r.length := by rw [← bl_length, hs, List.length_append]
  have hr1 : 1 ≤ r.length := by
    rcases Nat.eq_zero_or_pos r.length with hz | hz
    · exact absurd (List.length_eq_zero_iff.1 hz) hr
    · exact hz
  have := all_cat most r ns (s.size - ns.length + 1) [] h (by simpa using hm)
  rw [List.nil_append, show s.size - ns.length + 1 + ns.length = s.size + 1 by omega] at this
  rw [hs, this, all, if_neg hr]
theorem back_end (k : Nat) (hk : 900 ≤ k) (ns : List Nat) (n : Nat) (s : ByteArray) (hns : ∀ x ∈ ns, x < 2 ^ 64) (hn : n < 2 ^ 64) (hl : ns.length ≤ 20) (hs : bl s = cat ns ++ put n) :
    clewlaw02_WireBack.j3 k (ints (ns ++ [n])) s 4 ((put n).length : Int) false = some true := by
  have hp := put_range hn
  have hc := cat_le ns hns
  have hz : s.size = (cat ns).length + (put n).length := by rw [← bl_length, hs, List.length_append]
  obtain ⟨k, rfl⟩ : ∃ j, k = j + 1 := ⟨k - 1, by omega⟩
  simp only [clewlaw02_WireBack.j3]
  rw [if_neg (by simp), wrap_in (by omega) (by omega), if_pos (by omega), if_pos (by omega), show ((s.size : Int) - 1).toNat = s.size - 1 by omega]
  have hb : bl (s.extract 0 (s.size - 1)) = cat ns ++ (put n).take ((put n).length - 1) := by
    rw [bl_extract_to, hs, List.take_append, List.take_of_length_le (by omega), hz]
    congr 2
    omega
  have hzz : (s.extract 0 (s.size - 1)).size = (cat ns).length + ((put n).length - 1) := by
    rw [← bl_length, hb, List.length_append, List.length_take]
    omega
  generalize s.extract 0 (s.size - 1) = u at hb hzz ⊢
  rw [all_eq k u _ (by omega) (by omega), Option.bind_some, if_pos trivial]
  have hlen : ((ints (ns ++ [n])).length : Int) = (ns.length : Int) + 1 := by rw [ints_length]; simp
  rw [hlen]
  by_cases h1 : (put n).length = 1
  · rw [h1] at hb ⊢
    rw [all_of_cat _ u ns hns (by rw [hb]; simp) (by omega) _ rfl, if_pos (by simp), fixed_eq k (by omega)]
    rfl
  · have hne : (put n).take ((put n).length - 1) ≠ [] := fun h => by
      have := congrArg List.length h
      rw [List.length_take] at this
      simp at this
      omega
    have hall : all ((ns.length : Int) + 1) (u.size + 1) [] (bl u) = ([], 2) := by
      rw [all_of_part _ u ns _ hns hb (by omega) hne, if_neg (by omega), getN_cut hn (by omega)]
      rfl
    rw [hall, if_pos (by simp; omega), fixed_eq k (by omega)]
    rfl
theorem back_tail (k : Nat) (hk : 901 ≤ k) (ns : List Nat) (s : ByteArray) (hns : ∀ x ∈ ns, x < 2 ^ 64) (hl : ns.length ≤ 20) (hs : bl s = cat ns) :
    clewlaw02_WireBack.j2 k (ints ns) s false = some true := by
  obtain ⟨k, rfl⟩ : ∃ j, k = j + 1 := ⟨k - 1, by omega⟩
  simp only [clewlaw02_WireBack.j2]
  rw [if_neg (by simp), ints_length]
  rcases List.eq_nil_or_concat ns with rfl | ⟨ms, n, rfl⟩
  · rw [if_pos (by simp), fixed_eq k (by omega)]
    rfl
  · rw [List.concat_eq_append] at hns hl hs ⊢
    have hms : ∀ x ∈ ms, x < 2 ^ 64 := fun x hx => hns x (by simp [hx])
    have hn : n < 2 ^ 64 := hns n (by simp)
    have hlen : ((ms ++ [n]).length : Int) = (ms.length : Int) + 1 := by simp
    have hl' : ms.length + 1 ≤ 20 := by simpa using hl
    have hs' : bl s = cat ms ++ put n := by rw [hs, cat_append]; simp [cat]
    have hp := put_range hn
    have hc := cat_le ms hms
    have hz : s.size = (cat ms).length + (put n).length := by rw [← bl_length, hs', List.length_append]
    have hrd : rd (ints (ms ++ [n])) ((ms.length : Nat) : Int) = (n : Int) := by
      unfold rd
      rw [Int.toNat_natCast, ints_append]
      simp [ints]
    rw [if_neg (by omega), hlen, wrap_in (by omega) (by omega), show (ms.length : Int) + 1 - 1 = (ms.length : Int) by omega, all_eq k s _ (by omega) (by omega), Option.bind_some,
      if_pos (by omega), if_pos (by omega), hrd, size_eq k n (by omega) hn, Option.bind_some, if_neg (by omega), all_of_part _ s ms _ hms hs' (by omega) (put_ne_nil n), if_pos (by omega)]
    rw [show decide (((put n).length : Int) > (s.size : Int)) = false by rw [decide_eq_false_iff_not]; omega]
    exact back_end k (by omega) ms n s hms hn (by omega) hs'
theorem back_all (k : Nat) (hk : 902 ≤ k) (ns : List Nat) (s : ByteArray) (hns : ∀ x ∈ ns, x < 2 ^ 64) (hl : ns.length ≤ 20) (hs : bl s = cat ns) :
    clewlaw02_WireBack.j1 k (ints ns) s = some true := by
  have hc := cat_le ns hns
  have hz : s.size = (cat ns).length := by rw [← bl_length, hs]
  obtain ⟨k, rfl⟩ : ∃ j, k = j + 1 := ⟨k - 1, by omega⟩
  simp only [clewlaw02_WireBack.j1]
  rw [all_eq k s _ (by omega) (by omega), Option.bind_some, all_of_cat _ s ns hns hs (by rw [ints_length]; omega) _ rfl, same_eq k _ _ (by show (ints ns).length < _; rw [ints_length]; omega) (by show (ints ns).length ≤ _; rw [ints_length]; omega), Option.bind_some, if_pos (by simp)]
  exact back_tail k (by omega) ns s hns hl hs
theorem back_loop (l : List Nat) (hl : ∀ x ∈ l, x < 2 ^ 64) (hll : l.length ≤ 9000000000000000000) (d : Nat) : ∀ (k : Nat) (ns : List Nat) (s : ByteArray), d + 902 < k → min l.length 20 - ns.length = d → ns.length ≤ min l.length 20 → ns = l.take ns.length → bl s = cat ns →
    clewlaw02_WireBack.l0 k (ints l) (ints ns) s (ns.length : Int) = some true := by
  induction d with
  | zero =>
    intro k ns s hk hd hn ht hs
    obtain ⟨k, rfl⟩ : ∃ j, k = j + 1 := ⟨k - 1, by omega⟩
    have hns : ∀ x ∈ ns, x < 2 ^ 64 := fun x hx => hl x (by rw [ht] at hx; exact List.mem_of_mem_take hx)
    simp only [clewlaw02_WireBack.l0]
    rw [ints_length]
    by_cases h1 : ns.length < l.length
    · rw [if_pos (by omega), if_neg (by omega)]
      exact back_all k (by omega) ns s hns (by omega) hs
    · rw [if_neg (by omega)]
      exact back_all k (by omega) ns s hns (by omega) hs
  | succ d ih =>
    intro k ns s hk hd hn ht hs
    obtain ⟨k, rfl⟩ : ∃ j, k = j + 1 := ⟨k - 1, by omega⟩
    have hns : ∀ x ∈ ns, x < 2 ^ 64 := fun x hx => hl x (by rw [ht] at hx; exact List.mem_of_mem_take hx)
    have hc := cat_le ns hns
    have hz : s.size = (cat ns).length := by rw [← bl_length, hs]
    have h1 : ns.length < l.length := by omega
    have hrd : rd (ints l) (ns.length : Int) = ((l[ns.length]'h1 : Nat) : Int) := by
      unfold rd
      rw [Int.toNat_natCast]
      simp [ints, List.getD_eq_getElem?_getD, List.getElem?_eq_getElem h1]
    have hx : l[ns.length]'h1 < 2 ^ 64 := hl _ (List.getElem_mem h1)
    have hp := put_range hx
    simp only [clewlaw02_WireBack.l0]
    rw [ints_length, if_pos (by omega), if_pos (by omega), if_pos (by omega), if_pos (by rw [ints_length]; omega), hrd, put_eq _ _ (by omega) hx, Option.bind_some, if_pos (by rw [putS_size hx]; omega), wrap_in (by omega) (by omega)]
    have := ih k (ns ++ [l[ns.length]'h1]) (s ++ putS (l[ns.length]'h1)) (by omega) (by simp; omega) (by simp; omega)
      (by rw [List.length_append, List.length_singleton, List.take_succ_eq_append_getElem h1, ← ht]) (by rw [bl_append, hs, bl_putS hx, cat_append]; simp [cat])
    rw [ints_append, List.length_append, List.length_singleton] at this
    exact this
theorem WireBack : clewlaw02_WireBack.Pure := by
  intro l hl h8 hw
  obtain ⟨m, rfl, hm⟩ : ∃ m : List Nat, l = ints m ∧ ∀ x ∈ m, x < 2 ^ 64 := by
    refine ⟨l.map Int.toNat, ?_, ?_⟩
    · unfold ints
      rw [List.map_map]
      conv => lhs; rw [← List.map_id l]
      refine List.map_congr_left fun x hx => ?_
      obtain ⟨n, rfl, _⟩ := u64_of (hw x hx)
      simp
    · intro y hy
      obtain ⟨x, hx, rfl⟩ := List.mem_map.1 hy
      obtain ⟨n, rfl, hn⟩ := u64_of (hw x hx)
      simpa using hn
  refine ⟨min m.length 20 + 903, ?_⟩
  unfold clewlaw02_WireBack.f
  unfold maxLen at hl
  rw [ints_length] at hl h8
  by_cases hb : m.length ≤ 9000000000000000000
  · exact back_loop m hm hb (min m.length 20) _ [] (⟨#[]⟩ : ByteArray) (by omega) (by simp) (by simp) (by simp) rfl
  · omega
end Go.Proofs.Ytbillgeckogfnaa.Pure
