/- The laws CrcOne and CrcZero: their walks. -/
import Derived.Test.YtjjmgpejlkggoaaDoorCFix
import Derived.Test.YtjjmgpejlkggoaaDoorQ3
import Derived.Lib.Hide
namespace Go.Proofs.YtjjmgpejlkggoaaDoor.HOne
open Go.RowKit Go.Proofs.YtjjmgpejlkggoaaDoorW.PrintWords Go.Proofs.YtjjmgpejlkggoaaDoorW.PrintLast Go.Proofs.YtjjmgpejlkggoaaDoorW.PrintMore Go.Proofs.YtjjmgpejlkggoaaDoor.Q HOn CMath BMath CEq

/-- the bytes of t, the one at i another one -/
def spoilt (t : ByteArray) (i y : Nat) : ByteArray := strOfNums ((bytesOf t).set i (y : Int))
theorem spoilt_data (t : ByteArray) (i y : Nat) (hi : i < t.size) (hy : y < 256) : ∃ (l r : List UInt8) (c d : UInt8), t.data.toList = l ++ c :: r ∧ (spoilt t i y).data.toList = l ++ d :: r ∧ c = t.data.toList.getD i 0 ∧ d.toNat = y := by
  have hl : i < t.data.toList.length := by simpa using hi
  refine ⟨t.data.toList.take i, t.data.toList.drop (i + 1), t.data.toList.getD i 0, UInt8.ofNat y, ?_, ?_, rfl, by simp; omega⟩
  · rw [List.getD_eq_getElem?_getD, List.getElem?_eq_getElem hl]
    show t.data.toList = t.data.toList.take i ++ t.data.toList[i] :: t.data.toList.drop (i + 1)
    rw [← List.drop_eq_getElem_cons hl, List.take_append_drop]
  · unfold spoilt strOfNums bytesOf
    simp only []
    rw [List.map_set, List.map_map]
    have e : (t.data.toList.map ((fun n : Int => UInt8.ofNat n.toNat) ∘ fun b : UInt8 => (b.toNat : Int))) = t.data.toList := by
      conv => rhs; rw [← List.map_id t.data.toList]
      exact List.map_congr_left fun x _ => by simp
    rw [e, List.set_eq_take_append_cons_drop, if_pos hl, Int.toNat_natCast]
theorem spoilt_size (t : ByteArray) (i y : Nat) : (spoilt t i y).size = t.size := by
  unfold spoilt
  rw [size_nums, List.length_set, bytesOf_length]
theorem spoilt_sum {t : ByteArray} {i y : Nat} (hi : i < t.size) (hy : y < 256) (hne : (t.data.toList.getD i 0).toNat ≠ y) (h0 : sum t = 0) : sum (spoilt t i y) ≠ 0 := by
  obtain ⟨l, r, c, d, h1, h2, h3, h4⟩ := spoilt_data t i y hi hy
  intro h
  have := on_spoilt 11994318 (by decide) l r c d (fun hcd => hne (by rw [← h3, hcd, h4]))
  apply this
  rw [← h1, ← h2]
  exact h0.trans h.symm
theorem xor_other (c d : Nat) (hc : c < 256) (hd : d < 256) (h0 : 1 ≤ d) : Go.bits .xor .u8 (c : Int) (d : Int) = ((c ^^^ d : Nat) : Int) ∧ c ^^^ d < 256 ∧ c ≠ c ^^^ d := by
  refine ⟨u8_xor_nat c d hc hd, Nat.xor_lt_two_pow (n := 8) hc hd, fun h => ?_⟩
  have := congrArg (fun z => c ^^^ z) h
  simp only [← Nat.xor_assoc, Nat.xor_self, Nat.zero_xor] at this
  omega
theorem bytes_frozen (W : World) (e : TypeId) (s : ByteArray) (j : Nat) (hj : j < s.size) : (Lib.bytesWorld W e s).frozen? ⟨W.heap.size, j, none⟩ = false := by
  simp only [World.frozen?, Lib.bytesWorld_at_new]
  have : (Lib.bytesCells W e s).size ≥ s.size := by simp [Lib.bytesCells]
  simp
  omega
/-- the bytes of t in memory, one of them written -/
theorem spoilt_reads (W : World) (e : TypeId) (t : ByteArray) (i y : Nat) (hi : i < t.size) (ht : t.size ≤ 9223372036854775807) :
    ReadsInt ((Lib.bytesWorld W e t).setCell ⟨W.heap.size, i, none⟩ (.int .u8 (y : Int))) .u8 (some ⟨W.heap.size, 0, none⟩) t.size ((bytesOf t).set i (y : Int)) := by
  have hr := bytes_reads W e t ht
  refine ⟨by rw [List.length_set, bytesOf_length], ht, fun hp => ⟨_, rfl, fun j hj => ?_⟩⟩
  obtain ⟨ad, had, hc⟩ := hr.2.2 hp
  injection had with had
  subst had
  have h1 := hc j hj
  rw [add_plain] at h1 ⊢
  by_cases hij : j = i
  · subst hij
    rw [World.cell?_setCell_same _ _ _ h1]
    simp [List.getD_eq_getElem?_getD, bytesOf_length, hi]
  · rw [World.cell?_setCell_other _ _ _ _ (by intro hh; injection hh with _ hh; exact hij hh.symm), h1]
    simp [List.getD_eq_getElem?_getD, List.getElem?_set_ne (Ne.symm hij)]

set_option maxHeartbeats 1000000 in
theorem one_walk (s : ByteArray) (a b : Int) (w : World) (hT : Tab w) (hs : s.size ≤ 140737488351232) (ha0 : 0 ≤ a) (ha1 : a ≤ 255) (hb0 : 0 ≤ b) (hb1 : b ≤ 255) :
    Calls Tryd.prog 5 #[.string s, .int .u8 a, .int .u8 b] w fun e w' => e = .returned (.bool true) ∧ Below w.heap.size w w' := by
  by_cases h2 : (200 : Int) < s.size
  all_goals first
    | (have _g : (200 : Int) < s.size := h2; obtain ⟨u, hu⟩ : ∃ u, s.extract 0 200 = u := ⟨_, rfl⟩)
    | (obtain ⟨u, hu⟩ : ∃ u, s.extract 0 s.size = u := ⟨_, rfl⟩)
  all_goals
    have hus : u.size ≤ 200 := by rw [← hu]; simp; omega
    have hsl := seal_eq u (by omega)
    have hop := open_eq (sealB u) (by rw [sealB_size]; omega)
    rw [open_seal] at hop
    have hts := sealB_size u
    have h0 := sum_seal u
    have HS := Lib.hid hsl
    have HO := Lib.hid hop
    clear hsl hop
    generalize sealB u = t at *
    have HT := Lib.hid hT
    clear hT
    have kb := fun W => print_bytes (P := Tryd.prog) 9 32 5 Tryd.underlying9 Tryd.underlying32 Tryd.underlying5 t W
    go_enter Tryd.func5, Tryd.ntmps5
    go_wp2_with fail
    refine (crc_Seal.calls u t w HT.out HS.out).mono ?_
    rintro e w1 ⟨rfl, hB1⟩
    have HT1 := Lib.hid (HT.out.below hB1)
    go_wp2_with fail
    refine (crc_Open.calls t u 0 w1 HT1.out HO.out).mono ?_
    rintro e w2 ⟨rfl, hB2⟩
    have hB3 := below_step hB1 hB2
    have HT2 := Lib.hid (HT.out.below hB3)
    have HB := Lib.hid hB3
    clear hB1 hB2 hB3
    obtain ⟨i, hi, hit⟩ : ∃ i : Nat, a % ((u.size : Int) + 3) = (i : Int) ∧ i < u.size + 3 := by
      have m0 := Int.emod_nonneg a (b := (u.size : Int) + 3) (by omega)
      have m1 := Int.emod_lt_of_pos a (b := (u.size : Int) + 3) (by omega)
      exact ⟨(a % ((u.size : Int) + 3)).toNat, by omega, by omega⟩
    obtain ⟨d, hd, hd1, hd2⟩ : ∃ d : Nat, 1 + b % 255 = (d : Int) ∧ 1 ≤ d ∧ d < 256 := ⟨(1 + b % 255).toNat, by omega, by omega, by omega⟩
    have hcell := Lib.bytesWorld_cell w2 5 t i (by omega)
    have hfr := bytes_frozen w2 5 t i (by omega)
    have hcl : (t.data.toList.getD i 0).toNat < 256 := (t.data.toList.getD i 0).toNat_lt
    obtain ⟨x1, x2, x3⟩ := xor_other _ d hcl hd2 hd1
    have hsum := spoilt_sum (t := t) (i := i) (y := (t.data.toList.getD i 0).toNat ^^^ d) (by omega) x2 x3 h0
    have hrd := fun y => spoilt_reads w2 5 t i y (by omega) (by omega)
    have hbl : Below w2.heap.size w2 (Lib.bytesWorld w2 5 t) := bytes_below (Below.refl _ _) (Nat.le_refl _) _ _
    have kb2 := kb w2
    clear kb h0
    generalize (t.data.toList.getD i 0).toNat = c at *
    generalize c ^^^ d = y at *
    have hrd := hrd y
    generalize Lib.bytesWorld w2 5 t = W at *
    have ks : Sem.run Tryd.prog (convert 32 9 (.slice (some ⟨w2.heap.size, 0, none⟩) (u.size + 3) (grownCap w2 (u.size + 3) 0 5))) (W.setCell ⟨w2.heap.size, i, none⟩ (.int .u8 (y : Int))) = .ok (.string (spoilt t i y)) (W.setCell ⟨w2.heap.size, i, none⟩ (.int .u8 (y : Int))) := by
      rw [← hts]
      exact string_of_reads Tryd.underlying32 Tryd.underlying5 Tryd.underlying9 hrd
    have hsp := spoilt_size t i y
    have ho2 := open_eq (spoilt t i y) (by omega)
    rw [open_err (by omega) hsum] at ho2
    have HO2 := Lib.hid ho2
    have hb4 : Below w.heap.size w (W.setCell ⟨w2.heap.size, i, none⟩ (.int .u8 (y : Int))) := below_set (below_step HB.out hbl) HB.out.size
    have HB4 := Lib.hid hb4
    have HT4 := Lib.hid (HT.out.below hb4)
    clear hb4 hbl hrd hsum ho2 hsp
    generalize spoilt t i y = t2 at *
    go_wp2_with fail
    refine (crc_Open.calls t2 (⟨#[]⟩ : ByteArray) 8 _ HT4.out HO2.out).mono ?_
    rintro e w5 ⟨rfl, hB5⟩
    have hB6 := below_step HB4.out hB5
    have HT5 := Lib.hid (HT.out.below hB6)
    have HB6 := Lib.hid hB6
    have he : ((⟨#[]⟩ : ByteArray).toList == []) = true := by rw [Lib.toList_data]; rfl
    clear hB5 hB6
    go_wp2_with (go_at_call 17; (with_reducible refine (clewlaw03_fixed.calls true w5 HT5.out fixed_eq).mono ?_); rintro e w6 ⟨rfl, hB7⟩)
    go_ret
    exact ⟨rfl, below_step HB6.out hB7⟩


set_option maxHeartbeats 1000000 in
theorem zero_walk (s : ByteArray) (a b : Int) (w : World) (hT : Tab w) (hs : s.size ≤ 140737488351232) (ha0 : 0 ≤ a) (ha1 : a ≤ 255) (hb0 : 0 ≤ b) (hb1 : b ≤ 255) :
    Calls Tryd.prog 7 #[.string s, .int .u8 a, .int .u8 b] w fun e w' => e = .returned (.bool true) ∧ Below w.heap.size w w' := by
  by_cases h2 : (200 : Int) < s.size
  all_goals first
    | (have _g : (200 : Int) < s.size := h2; obtain ⟨u, hu⟩ : ∃ u, s.extract 0 200 = u := ⟨_, rfl⟩)
    | (obtain ⟨u, hu⟩ : ∃ u, s.extract 0 s.size = u := ⟨_, rfl⟩)
  all_goals
    have hus : u.size ≤ 200 := by rw [← hu]; simp; omega
    have hsl := seal_eq u (by omega)
    have hop := of_eq (sealB u) (by rw [sealB_size]; omega)
    rw [sum_seal] at hop
    have hex := extract_seal u
    have hul : (u.toList != u.toList) = false := by simp
    have hts := sealB_size u
    have h0 := sum_seal u
    have HS := Lib.hid hsl
    have HO := Lib.hid hop
    clear hsl hop
    generalize sealB u = t at *
    have HT := Lib.hid hT
    clear hT
    have kb := fun W => print_bytes (P := Tryd.prog) 9 32 5 Tryd.underlying9 Tryd.underlying32 Tryd.underlying5 t W
    go_enter Tryd.func7, Tryd.ntmps7
    go_wp2_with fail
    refine (crc_Seal.calls u t w HT.out HS.out).mono ?_
    rintro e w1 ⟨rfl, hB1⟩
    have HT1 := Lib.hid (HT.out.below hB1)
    go_wp2_with fail
    refine (crc_Of.calls t 0 w1 HT1.out HO.out).mono ?_
    rintro e w2 ⟨rfl, hB2⟩
    have hB3 := below_step hB1 hB2
    have HT2 := Lib.hid (HT.out.below hB3)
    have HB := Lib.hid hB3
    clear hB1 hB2 hB3
    obtain ⟨i, hi, hit⟩ : ∃ i : Nat, a % ((u.size : Int) + 3) = (i : Int) ∧ i < u.size + 3 := by
      have m0 := Int.emod_nonneg a (b := (u.size : Int) + 3) (by omega)
      have m1 := Int.emod_lt_of_pos a (b := (u.size : Int) + 3) (by omega)
      exact ⟨(a % ((u.size : Int) + 3)).toNat, by omega, by omega⟩
    obtain ⟨d, hd, hd1, hd2⟩ : ∃ d : Nat, 1 + b % 255 = (d : Int) ∧ 1 ≤ d ∧ d < 256 := ⟨(1 + b % 255).toNat, by omega, by omega, by omega⟩
    have hcell := Lib.bytesWorld_cell w2 5 t i (by omega)
    have hfr := bytes_frozen w2 5 t i (by omega)
    have hcl : (t.data.toList.getD i 0).toNat < 256 := (t.data.toList.getD i 0).toNat_lt
    obtain ⟨x1, x2, x3⟩ := xor_other _ d hcl hd2 hd1
    have hsum := spoilt_sum (t := t) (i := i) (y := (t.data.toList.getD i 0).toNat ^^^ d) (by omega) x2 x3 h0
    have hrd := fun y => spoilt_reads w2 5 t i y (by omega) (by omega)
    have hbl : Below w2.heap.size w2 (Lib.bytesWorld w2 5 t) := bytes_below (Below.refl _ _) (Nat.le_refl _) _ _
    have kb2 := kb w2
    clear kb h0
    generalize (t.data.toList.getD i 0).toNat = c at *
    generalize c ^^^ d = y at *
    have hrd := hrd y
    generalize Lib.bytesWorld w2 5 t = W at *
    have ks : Sem.run Tryd.prog (convert 32 9 (.slice (some ⟨w2.heap.size, 0, none⟩) (u.size + 3) (grownCap w2 (u.size + 3) 0 5))) (W.setCell ⟨w2.heap.size, i, none⟩ (.int .u8 (y : Int))) = .ok (.string (spoilt t i y)) (W.setCell ⟨w2.heap.size, i, none⟩ (.int .u8 (y : Int))) := by
      rw [← hts]
      exact string_of_reads Tryd.underlying32 Tryd.underlying5 Tryd.underlying9 hrd
    have hsp := spoilt_size t i y
    have ho2 := of_eq (spoilt t i y) (by omega)
    have hz2 : ((sum (spoilt t i y) : Int) != 0) = true := by rw [bne_iff_ne]; omega
    have HO2 := Lib.hid ho2
    have hb4 : Below w.heap.size w (W.setCell ⟨w2.heap.size, i, none⟩ (.int .u8 (y : Int))) := below_set (below_step HB.out hbl) HB.out.size
    have HB4 := Lib.hid hb4
    have HT4 := Lib.hid (HT.out.below hb4)
    clear hb4 hbl hrd hsum ho2 hsp
    generalize sum (spoilt t i y) = z at *
    generalize spoilt t i y = t2 at *
    go_wp2_with fail
    refine (crc_Of.calls t2 z _ HT4.out HO2.out).mono ?_
    rintro e w5 ⟨rfl, hB5⟩
    have hB6 := below_step HB4.out hB5
    have HT5 := Lib.hid (HT.out.below hB6)
    have HB6 := Lib.hid hB6
    clear hB5 hB6
    go_wp2_with (go_at_call 17; (with_reducible refine (clewlaw03_fixed.calls true w5 HT5.out fixed_eq).mono ?_); rintro e w6 ⟨rfl, hB7⟩)
    go_ret
    exact ⟨rfl, below_step HB6.out hB7⟩
theorem u8_of {a : Int} (h : (Lit.int .u8 a).wf = true) : 0 ≤ a ∧ a ≤ 255 := by
  simp [Lit.wf, IntKind.min, IntKind.max, IntKind.signed, IntKind.bits] at h
  omega
theorem one_row (s : ByteArray) (a b : Int) (w : World) (hT : Tab w) (hs : s.size ≤ 140737488351232) (ha : (Lit.int .u8 a).wf = true) (hb : (Lit.int .u8 b).wf = true) :
    Calls Tryd.prog 5 #[.string s, .int .u8 a, .int .u8 b] w fun e w' => e = .returned (.bool true) ∧ Below w.heap.size w w' :=
  one_walk s a b w hT hs (u8_of ha).1 (u8_of ha).2 (u8_of hb).1 (u8_of hb).2
theorem zero_row (s : ByteArray) (a b : Int) (w : World) (hT : Tab w) (hs : s.size ≤ 140737488351232) (ha : (Lit.int .u8 a).wf = true) (hb : (Lit.int .u8 b).wf = true) :
    Calls Tryd.prog 7 #[.string s, .int .u8 a, .int .u8 b] w fun e w' => e = .returned (.bool true) ∧ Below w.heap.size w w' :=
  zero_walk s a b w hT hs (u8_of ha).1 (u8_of ha).2 (u8_of hb).1 (u8_of hb).2
end Go.Proofs.YtjjmgpejlkggoaaDoor.HOne
