/- Groups: whether what one matched stands at a place. -/
import Derived.Test.YtpeccbdobdnpiaaDoorASame
namespace Go.Proofs.YtpeccbdobdnpiaaDoor.AAgain
open Go.RowKit CMem ACap AGet AText ASame Go.Proofs.YtpeccbdobdnpiaaDoorW.PrintWords Go.Proofs.YtpeccbdobdnpiaaDoorW.PrintLast Go.Proofs.YtpeccbdobdnpiaaDoorW.PrintMore
set_option linter.unusedVariables false
set_option linter.unusedSimpArgs false
set_option maxRecDepth 100000
/-- the byte i of t stands in s from the place p on -/
def eqs (s t : ByteArray) (p : Nat) (fold : Bool) (i : Nat) : Bool := bya t i == bya s (p + i) || (fold && lw (bya t i) == lw (bya s (p + i)))
/-- all of them from k on -/
def eqk (s t : ByteArray) (p : Nat) (fold : Bool) (k : Nat) : Bool := (List.range t.size).all fun i => decide (i < k) || eqs s t p fold i
/-- may t stand in s from the place p on -/
def rm (s t : ByteArray) (is : Bool) (p : Int) : Bool := is && (decide (0 ≤ p) && (decide (p ≤ s.size) && decide ((t.size : Int) ≤ s.size - p)))
def agb (s t : ByteArray) (is : Bool) (p : Int) (fold : Bool) : Bool := rm s t is p && eqk s t p.toNat fold 0
def agn (s t : ByteArray) (is : Bool) (p : Int) (fold : Bool) : Int := if agb s t is p fold = true then t.size else 0
theorem eqk_end (s t : ByteArray) (p : Nat) (fold : Bool) : eqk s t p fold t.size = true := by
  unfold eqk
  rw [List.all_eq_true]
  intro i hi
  rw [decide_eq_true (List.mem_range.1 hi)]
  rfl
theorem eqk_step {s t : ByteArray} {p : Nat} {fold : Bool} {k : Nat} (h : eqs s t p fold k = true) : eqk s t p fold k = eqk s t p fold (k + 1) := by
  rw [Bool.eq_iff_iff]
  unfold eqk
  simp only [List.all_eq_true, List.mem_range, Bool.or_eq_true, decide_eq_true_eq]
  constructor
  · intro H i hi
    rcases H i hi with h1 | h1
    · exact .inl (by omega)
    · exact .inr h1
  · intro H i hi
    rcases H i hi with h1 | h1
    · by_cases e : i = k
      · subst e; exact .inr h
      · exact .inl (by omega)
    · exact .inr h1
theorem eqk_no {s t : ByteArray} {p : Nat} {fold : Bool} {k : Nat} (hk : k < t.size) (h : eqs s t p fold k = false) : eqk s t p fold k = false := by
  rw [Bool.eq_false_iff]
  intro H
  unfold eqk at H
  rw [List.all_eq_true] at H
  have := H k (List.mem_range.2 hk)
  rw [decide_eq_false (Nat.lt_irrefl k), h] at this
  cases this
theorem size_ext (s : ByteArray) {a b : Nat} (h1 : a ≤ b) (h2 : b ≤ s.size) : (s.extract a b).size = b - a := by
  rw [ByteArray.size_extract]
  omega
theorem bya_ext (s : ByteArray) {a b i : Nat} (h2 : b ≤ s.size) (hi : i < b - a) : bya (s.extract a b) i = bya s (a + i) := by
  have hl : i < (s.extract a b).size := by rw [ByteArray.size_extract]; omega
  unfold bya
  rw [dif_pos hl, dif_pos (by omega), ByteArray.getElem_extract]
theorem bya_eq {s t : ByteArray} (h : s.size = t.size) (k : ∀ i, i < s.size → bya s i = bya t i) : s = t := by
  apply ByteArray.ext
  apply Array.ext
  · exact h
  · intro i h1 h2
    have hs : i < s.size := h1
    have ht : i < t.size := h2
    have := k i hs
    unfold bya at this
    rw [dif_pos hs, dif_pos ht] at this
    have h3 : (s[i]'hs).toNat = (t[i]'ht).toNat := by omega
    exact UInt8.toNat_inj.1 h3
theorem again_eq (s t : ByteArray) (p : Nat) (fold : Bool) (h : p + t.size ≤ s.size) :
    (decide (s.extract p (p + t.size) = t) || (fold && sm (bya t) (bya (s.extract p (p + t.size))) 0 t.size)) = eqk s t p fold 0 := by
  have hu : (s.extract p (p + t.size)).size = t.size := by rw [size_ext _ (by omega) h]; omega
  have hb : ∀ i, i < t.size → bya (s.extract p (p + t.size)) i = bya s (p + i) := fun i hi => bya_ext s h (by omega)
  generalize s.extract p (p + t.size) = u at *
  rw [Bool.eq_iff_iff]
  simp only [Bool.or_eq_true, Bool.and_eq_true, decide_eq_true_eq, eqk, sm, eqs, List.all_eq_true, List.mem_range, beq_iff_eq]
  constructor
  · rintro (rfl | ⟨hf, hs⟩) i hi
    · exact .inr (.inl (hb i hi))
    · rcases hs i hi with h1 | h1
      · omega
      · exact .inr (.inr ⟨hf, by rw [← hb i hi]; exact h1⟩)
  · intro H
    cases fold
    · refine .inl (bya_eq hu fun i hi => ?_)
      rw [hu] at hi
      rw [hb i hi]
      rcases H i hi with h1 | h1 | h1
      · omega
      · exact h1.symm
      · exact absurd h1.1 (by decide)
    · refine .inr ⟨rfl, fun i hi => .inr ?_⟩
      rw [hb i hi]
      rcases H i hi with h1 | h1 | h1
      · omega
      · rw [h1]
      · exact h1.2
theorem tl_inj {s t : ByteArray} (h : s.toList = t.toList) : s = t := by
  rw [ByteArray.toList_eq, ByteArray.toList_eq] at h
  exact ByteArray.ext (Array.toList_inj.1 h)
theorem agn_no {s t : ByteArray} {is : Bool} {p : Int} {fold : Bool} (h : agb s t is p fold = false) : agn s t is p fold = 0 := by unfold agn; rw [h]; rfl
theorem agn_yes {s t : ByteArray} {is : Bool} {p : Int} {fold : Bool} (h : agb s t is p fold = true) : agn s t is p fold = t.size := by unfold agn; rw [h]; rfl
theorem rm_no {s t : ByteArray} {is : Bool} {p : Int} {fold : Bool} (h : rm s t is p = false) : agb s t is p fold = false := by unfold agb; rw [h]; rfl
set_option maxHeartbeats 3200000 in
attribute [-go_sem] Go.loadCells in
theorem again_calls (b : Nat → Bool) (y : Nat → Int) (s : ByteArray) (g p : Int) (fold : Bool) (hsz : s.size ≤ 100000) (w : World) :
    Calls Tryd.prog 17 #[.agg (cc b y), .string s, .int .i64 g, .int .i64 p, .bool fold] w fun e w' => e = .returned (.tuple #[.int .i64 (agn s (prt s (gi b g) (gfr b y g) (gto b y g)) (pok s (gi b g) (gfr b y g) (gto b y g)) p fold), .bool (agb s (prt s (gi b g) (gfr b y g) (gto b y g)) (pok s (gi b g) (gfr b y g) (gto b y g)) p fold)]) ∧ Below w.heap.size w w' := by
  have hs := cc_size b y
  have BX := heap_alloc_new w (.cells (cc b y) 26)
  have l27 := load27 BX
  have HB := Lib.hid (below1 w (.cells (cc b y) 26))
  have kt := text_calls b y s g
  generalize prt s (gi b g) (gfr b y g) (gto b y g) = t at *
  generalize pok s (gi b g) (gfr b y g) (gto b y g) = i at *
  have KT := Lib.hid kt
  clear kt BX
  cases i
  · have h0 : rm s t false p = false := rfl
    rw [agn_no (rm_no h0), rm_no h0]
    go_enter Tryd.func17, Tryd.ntmps17
    go_wp2_with (go_at_call 13; (with_reducible refine (KT.out _).mono ?_); (rintro e w2 ⟨rfl, hb⟩); (have HB2 := Lib.hid (below_step HB.out hb)); clear hb)
    go_ret2
    exact ⟨rfl, HB2.out⟩
  · by_cases p0 : 0 ≤ p
    · by_cases p1 : p ≤ s.size
      · by_cases p2 : (t.size : Int) ≤ s.size - p
        · have h0 : rm s t true p = true := by unfold rm; rw [decide_eq_true p0, decide_eq_true p1, decide_eq_true p2]; rfl
          obtain ⟨m, rfl⟩ := Int.eq_ofNat_of_zero_le p0
          have hms : m + t.size ≤ s.size := by omega
          have he := again_eq s t m fold hms
          have hu : (s.extract m (m + t.size)).size = t.size := by rw [size_ext _ (by omega) hms]; omega
          have ha : agb s t true (m : Int) fold = eqk s t m fold 0 := by unfold agb; rw [h0]; rfl
          have ks := same_calls t (s.extract m (m + t.size)) hu.symm (by omega)
          obtain ⟨q, hq⟩ : ∃ q, m + t.size = q := ⟨_, rfl⟩
          rw [hq] at he ks hu hms
          have hq2 : (m : Int) + (t.size : Int) = (q : Int) := by omega
          have hmq : m ≤ q := by omega
          clear h0 hq
          obtain ⟨u, hue⟩ : ∃ u, s.extract m q = u := ⟨_, rfl⟩
          rw [hue] at he ks hu
          by_cases hut : u = t
          · subst hut
            rw [decide_eq_true rfl, Bool.true_or] at he
            rw [← he] at ha
            rw [agn_yes ha, ha]
            clear he ks ha
            go_enter Tryd.func17, Tryd.ntmps17
            go_wp2_with (go_at_call 13; (with_reducible refine (KT.out _).mono ?_); (rintro e w2 ⟨rfl, hb⟩); (have HB2 := Lib.hid (below_step HB.out hb)); clear hb)
            go_ret2
            exact ⟨rfl, HB2.out⟩
          · have hne : (u.toList == t.toList) = false := by
              rw [beq_eq_false_iff_ne]
              exact fun e => hut (tl_inj e)
            have hne2 : ¬ u.toList = t.toList := by simpa using hne
            rw [decide_eq_false hut, Bool.false_or] at he
            cases fold
            · rw [Bool.false_and] at he
              rw [← he] at ha
              rw [agn_no ha, ha]
              clear he ks ha hut
              go_enter Tryd.func17, Tryd.ntmps17
              go_wp2_with (go_at_call 13; (with_reducible refine (KT.out _).mono ?_); (rintro e w2 ⟨rfl, hb⟩); (have HB2 := Lib.hid (below_step HB.out hb)); clear hb)
              go_ret2
              exact ⟨rfl, HB2.out⟩
            · rw [Bool.true_and] at he
              rw [he] at ks
              cases hz : eqk s t m true 0
              · rw [hz] at ks ha
                rw [agn_no ha, ha]
                have KS := Lib.hid ks
                clear he ks ha hut hz
                go_enter Tryd.func17, Tryd.ntmps17
                go_wp2_with (first | (go_at_call 13; (with_reducible refine (KT.out _).mono ?_); (rintro e w2 ⟨rfl, hb⟩); (have HB2 := Lib.hid (below_step HB.out hb)); clear hb) | (go_at_call 26; (with_reducible refine (KS.out _).mono ?_); (rintro e w3 ⟨rfl, hb⟩); (have HB3 := Lib.hid (below_step HB2.out hb)); clear hb))
                go_ret2
                exact ⟨rfl, HB3.out⟩
              · rw [hz] at ks ha
                rw [agn_yes ha, ha]
                have KS := Lib.hid ks
                clear he ks ha hut hz
                go_enter Tryd.func17, Tryd.ntmps17
                go_wp2_with (first | (go_at_call 13; (with_reducible refine (KT.out _).mono ?_); (rintro e w2 ⟨rfl, hb⟩); (have HB2 := Lib.hid (below_step HB.out hb)); clear hb) | (go_at_call 26; (with_reducible refine (KS.out _).mono ?_); (rintro e w3 ⟨rfl, hb⟩); (have HB3 := Lib.hid (below_step HB2.out hb)); clear hb))
                go_ret2
                exact ⟨rfl, HB3.out⟩
        · have h0 : rm s t true p = false := by unfold rm; rw [decide_eq_false p2]; simp
          rw [agn_no (rm_no h0), rm_no h0]
          clear h0
          have p3 : (s.size : Int) - p < t.size := by omega
          have hw : wrap64 ((s.size : Int) - p) = (s.size : Int) - p := by unfold wrap64; omega
          go_enter Tryd.func17, Tryd.ntmps17
          go_wp2_with (go_at_call 13; (with_reducible refine (KT.out _).mono ?_); (rintro e w2 ⟨rfl, hb⟩); (have HB2 := Lib.hid (below_step HB.out hb)); clear hb)
          go_ret2
          exact ⟨rfl, HB2.out⟩
      · have h0 : rm s t true p = false := by unfold rm; rw [decide_eq_false p1]; simp
        rw [agn_no (rm_no h0), rm_no h0]
        clear h0
        have p3 : (s.size : Int) < p := by omega
        go_enter Tryd.func17, Tryd.ntmps17
        go_wp2_with (go_at_call 13; (with_reducible refine (KT.out _).mono ?_); (rintro e w2 ⟨rfl, hb⟩); (have HB2 := Lib.hid (below_step HB.out hb)); clear hb)
        go_ret2
        exact ⟨rfl, HB2.out⟩
    · have h0 : rm s t true p = false := by unfold rm; rw [decide_eq_false p0]; simp
      rw [agn_no (rm_no h0), rm_no h0]
      clear h0
      have p3 : p < 0 := by omega
      go_enter Tryd.func17, Tryd.ntmps17
      go_wp2_with (go_at_call 13; (with_reducible refine (KT.out _).mono ?_); (rintro e w2 ⟨rfl, hb⟩); (have HB2 := Lib.hid (below_step HB.out hb)); clear hb)
      go_ret2
      exact ⟨rfl, HB2.out⟩
theorem eqs_same {s t : ByteArray} {p k : Nat} {fold : Bool} (h : bya t k = bya s (p + k)) : eqs s t p fold k = true := by unfold eqs; rw [h]; simp
set_option maxHeartbeats 6400000 in
attribute [-go_sem] Go.loadCells in
theorem ragain_calls (b : Nat → Bool) (y : Nat → Int) (s : ByteArray) (g p : Int) (fold : Bool) (hsz : s.size ≤ 100000) (w : World) :
    Calls Tryd.prog 18 #[.agg (cc b y), .string s, .int .i64 g, .int .i64 p, .bool fold] w fun e w' => e = .returned (.tuple #[.int .i64 (agn s (prt s (gi b g) (gfr b y g) (gto b y g)) (pok s (gi b g) (gfr b y g) (gto b y g)) p fold), .bool (agb s (prt s (gi b g) (gfr b y g) (gto b y g)) (pok s (gi b g) (gfr b y g) (gto b y g)) p fold)]) ∧ Below w.heap.size w w' := by
  have hs := cc_size b y
  have BX := heap_alloc_new w (.cells (cc b y) 28)
  have l27 := load27 BX
  have HB := Lib.hid (below1 w (.cells (cc b y) 28))
  have kt := rtext_calls b y s g
  generalize prt s (gi b g) (gfr b y g) (gto b y g) = t at *
  generalize pok s (gi b g) (gfr b y g) (gto b y g) = i at *
  have KT := Lib.hid kt
  clear kt BX
  cases i
  · have h0 : rm s t false p = false := rfl
    rw [agn_no (rm_no h0), rm_no h0]
    go_enter Tryd.func18, Tryd.ntmps18
    go_wp2_with (go_at_call 14; (with_reducible refine (KT.out _).mono ?_); (rintro e w2 ⟨rfl, hb⟩); (have HB2 := Lib.hid (below_step HB.out hb)); clear hb)
    go_ret2
    exact ⟨rfl, HB2.out⟩
  · by_cases p0 : 0 ≤ p
    · by_cases p1 : p ≤ s.size
      · by_cases p2 : (t.size : Int) ≤ s.size - p
        · have h0 : rm s t true p = true := by unfold rm; rw [decide_eq_true p0, decide_eq_true p1, decide_eq_true p2]; rfl
          obtain ⟨m, rfl⟩ := Int.eq_ofNat_of_zero_le p0
          have hms : m + t.size ≤ s.size := by omega
          have ha : agb s t true (m : Int) fold = eqk s t m fold 0 := by unfold agb; rw [h0]; rfl
          have hn : agn s t true (m : Int) fold = if eqk s t m fold 0 = true then (t.size : Int) else 0 := by unfold agn; rw [ha]
          rw [ha, hn]
          clear ha hn h0
          have n1 : ¬ ((m : Int) < 0) := by omega
          have n2 : ¬ (s.size < m) := by omega
          have n3 : ¬ ((s.size : Int) - m < t.size) := by omega
          have d1 : decide ((m : Int) < 0) = false := decide_eq_false n1
          have d2 : decide (s.size < m) = false := decide_eq_false n2
          have d3 : decide ((s.size : Int) - m < t.size) = false := decide_eq_false n3
          cases fold
          · obtain ⟨z, hz⟩ : ∃ z, eqk s t m false 0 = z := ⟨_, rfl⟩
            rw [hz]
            have HZ := Lib.hid hz
            clear hz
            go_enter Tryd.func18, Tryd.ntmps18
            go_wp2_with (go_at_call 14; (with_reducible refine (KT.out _).mono ?_); (rintro e w2 ⟨rfl, hb⟩); (have HB2 := Lib.hid (below_step HB.out hb)); clear hb)
            go_loopw [14] (fun v wr => ∃ k : Nat, k ≤ t.size ∧ v = .int .i64 (k : Nat) ∧ Hid (eqk s t m false k = z) ∧ Hid (Below w.heap.size w wr)) (fun v _ => t.size - (intOf v).toNat)
            case atStart => exact ⟨0, by omega, rfl, HZ, HB2⟩
            case round =>
              clear HZ HB2 HB l27
              obtain ⟨k, hk, rfl, HS, HB⟩ := hrel
              by_cases h : k < t.size
              · have ex := bya_of h
                obtain ⟨q, hq⟩ : ∃ q, m + k = q := ⟨_, rfl⟩
                have hqs : q < s.size := by omega
                have hq2 : (m : Int) + (k : Int) = (q : Int) := by omega
                have hq3 : wrap64 ((m : Int) + (k : Int)) = (q : Int) := by unfold wrap64; omega
                have ey := bya_of hqs
                have rx := bya_rng t k
                have ry := bya_rng s q
                have H1 := Lib.hid (@eqk_step s t m false k)
                have H0 := Lib.hid (@eqk_no s t m false k h)
                have HE : eqs s t m false k = (bya t k == bya s q || (false && lw (bya t k) == lw (bya s q))) := by unfold eqs; rw [hq]
                clear hq hk
                generalize bya t k = x at *
                generalize bya s q = v at *
                obtain ⟨rx0, rx1⟩ := rx
                obtain ⟨ry0, ry1⟩ := ry
                have KX := Lib.hid (rlower_calls x rx0 rx1)
                have KY := Lib.hid (rlower_calls v ry0 ry1)
                generalize lw x = lx at *
                generalize lw v = ly at *
                by_cases hxy : x = v
                · have hE : eqs s t m false k = true := by rw [HE, hxy]; simp
                  have HR := Lib.hid ((H1.out hE).symm.trans HS.out)
                  have hd : (x != v) = false := by simp [hxy]
                  clear HS H1 H0 HE hE KX KY hxy
                  go_wp2
                  go_quiet (fail)
                  have HB := Lib.hid (below_drewN HB.out nq)
                  go_wp2
                  go_roundw
                  case rel => exact ⟨k + 1, by omega, by simp, HR, HB⟩
                  case measure => simp [intOf]; omega
                · have hd : (x != v) = true := by simp [hxy]
                  have he : (x == v) = false := by simp [hxy]
                  rw [he, Bool.false_or] at HE
                  have hzf : z = false := by rw [← HS.out]; exact H0.out HE
                  subst hzf
                  clear HS H1 H0 HE KX KY hxy he
                  go_wp2
                  go_quiet (fail)
                  go_wp2
                  go_ret2
                  exact ⟨rfl, below_drewN HB.out nq⟩
              · obtain rfl : k = t.size := by omega
                have hzt : z = true := by rw [← HS.out]; exact eqk_end _ _ _ _
                subst hzt
                go_wp2
                go_ret2
                exact ⟨rfl, HB.out⟩
          · obtain ⟨z, hz⟩ : ∃ z, eqk s t m true 0 = z := ⟨_, rfl⟩
            rw [hz]
            have HZ := Lib.hid hz
            clear hz
            go_enter Tryd.func18, Tryd.ntmps18
            go_wp2_with (go_at_call 14; (with_reducible refine (KT.out _).mono ?_); (rintro e w2 ⟨rfl, hb⟩); (have HB2 := Lib.hid (below_step HB.out hb)); clear hb)
            go_loopw [14] (fun v wr => ∃ k : Nat, k ≤ t.size ∧ v = .int .i64 (k : Nat) ∧ Hid (eqk s t m true k = z) ∧ Hid (Below w.heap.size w wr)) (fun v _ => t.size - (intOf v).toNat)
            case atStart => exact ⟨0, by omega, rfl, HZ, HB2⟩
            case round =>
              clear HZ HB2 HB l27
              obtain ⟨k, hk, rfl, HS, HB⟩ := hrel
              by_cases h : k < t.size
              · have ex := bya_of h
                obtain ⟨q, hq⟩ : ∃ q, m + k = q := ⟨_, rfl⟩
                have hqs : q < s.size := by omega
                have hq2 : (m : Int) + (k : Int) = (q : Int) := by omega
                have hq3 : wrap64 ((m : Int) + (k : Int)) = (q : Int) := by unfold wrap64; omega
                have ey := bya_of hqs
                have rx := bya_rng t k
                have ry := bya_rng s q
                have H1 := Lib.hid (@eqk_step s t m true k)
                have H0 := Lib.hid (@eqk_no s t m true k h)
                have HE : eqs s t m true k = (bya t k == bya s q || (true && lw (bya t k) == lw (bya s q))) := by unfold eqs; rw [hq]
                clear hq hk
                generalize bya t k = x at *
                generalize bya s q = v at *
                obtain ⟨rx0, rx1⟩ := rx
                obtain ⟨ry0, ry1⟩ := ry
                have KX := Lib.hid (rlower_calls x rx0 rx1)
                have KY := Lib.hid (rlower_calls v ry0 ry1)
                generalize lw x = lx at *
                generalize lw v = ly at *
                by_cases hxy : x = v
                · have hE : eqs s t m true k = true := by rw [HE, hxy]; simp
                  have HR := Lib.hid ((H1.out hE).symm.trans HS.out)
                  have hd : (x != v) = false := by simp [hxy]
                  clear HS H1 H0 HE hE KX KY hxy
                  go_wp2
                  go_quiet (fail)
                  have HB := Lib.hid (below_drewN HB.out nq)
                  go_wp2
                  go_roundw
                  case rel => exact ⟨k + 1, by omega, by simp, HR, HB⟩
                  case measure => simp [intOf]; omega
                · have hd : (x != v) = true := by simp [hxy]
                  have he : (x == v) = false := by simp [hxy]
                  rw [he, Bool.false_or] at HE
                  rw [Bool.true_and] at HE
                  by_cases hl : lx = ly
                  · have hE : eqs s t m true k = true := by rw [HE, hl]; simp
                    have HR := Lib.hid ((H1.out hE).symm.trans HS.out)
                    have hle : (lx == ly) = true := by simp [hl]
                    clear HS H1 H0 HE hE hxy he hl
                    go_wp2
                    go_quiet (fail)
                    have HB := Lib.hid (below_drewN HB.out nq)
                    go_wp2_with (first | (go_at_call 27; (with_reducible refine (KX.out _).mono ?_); (rintro e w3 ⟨rfl, hb⟩); (have HB3 := Lib.hid (below_step HB.out hb)); clear hb KX) | (go_at_call 27; (with_reducible refine (KY.out _).mono ?_); (rintro e w4 ⟨rfl, hb⟩); (have HB4 := Lib.hid (below_step HB3.out hb)); clear hb))
                    go_roundw
                    case rel => exact ⟨k + 1, by omega, by simp, HR, HB4⟩
                    case measure => simp [intOf]; omega
                  · have hle : (lx == ly) = false := by simp [hl]
                    have hzf : z = false := by rw [← HS.out]; exact H0.out (HE.trans hle)
                    subst hzf
                    clear HS H1 H0 HE hxy he hl
                    go_wp2
                    go_quiet (fail)
                    have HB := Lib.hid (below_drewN HB.out nq)
                    go_wp2_with (first | (go_at_call 27; (with_reducible refine (KX.out _).mono ?_); (rintro e w3 ⟨rfl, hb⟩); (have HB3 := Lib.hid (below_step HB.out hb)); clear hb KX) | (go_at_call 27; (with_reducible refine (KY.out _).mono ?_); (rintro e w4 ⟨rfl, hb⟩); (have HB4 := Lib.hid (below_step HB3.out hb)); clear hb))
                    go_ret2
                    exact ⟨rfl, HB4.out⟩
              · obtain rfl : k = t.size := by omega
                have hzt : z = true := by rw [← HS.out]; exact eqk_end _ _ _ _
                subst hzt
                go_wp2
                go_ret2
                exact ⟨rfl, HB.out⟩
        · have h0 : rm s t true p = false := by unfold rm; rw [decide_eq_false p2]; simp
          rw [agn_no (rm_no h0), rm_no h0]
          clear h0
          have p3 : (s.size : Int) - p < t.size := by omega
          have hw : wrap64 ((s.size : Int) - p) = (s.size : Int) - p := by unfold wrap64; omega
          go_enter Tryd.func18, Tryd.ntmps18
          go_wp2_with (go_at_call 14; (with_reducible refine (KT.out _).mono ?_); (rintro e w2 ⟨rfl, hb⟩); (have HB2 := Lib.hid (below_step HB.out hb)); clear hb)
          go_ret2
          exact ⟨rfl, HB2.out⟩
      · have h0 : rm s t true p = false := by unfold rm; rw [decide_eq_false p1]; simp
        rw [agn_no (rm_no h0), rm_no h0]
        clear h0
        have p3 : (s.size : Int) < p := by omega
        go_enter Tryd.func18, Tryd.ntmps18
        go_wp2_with (go_at_call 14; (with_reducible refine (KT.out _).mono ?_); (rintro e w2 ⟨rfl, hb⟩); (have HB2 := Lib.hid (below_step HB.out hb)); clear hb)
        go_ret2
        exact ⟨rfl, HB2.out⟩
    · have h0 : rm s t true p = false := by unfold rm; rw [decide_eq_false p0]; simp
      rw [agn_no (rm_no h0), rm_no h0]
      clear h0
      have p3 : p < 0 := by omega
      go_enter Tryd.func18, Tryd.ntmps18
      go_wp2_with (go_at_call 14; (with_reducible refine (KT.out _).mono ?_); (rintro e w2 ⟨rfl, hb⟩); (have HB2 := Lib.hid (below_step HB.out hb)); clear hb)
      go_ret2
      exact ⟨rfl, HB2.out⟩
end Go.Proofs.YtpeccbdobdnpiaaDoor.AAgain
