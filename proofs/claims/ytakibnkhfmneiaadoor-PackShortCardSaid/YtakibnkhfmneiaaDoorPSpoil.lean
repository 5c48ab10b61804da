/- Bytes with one of them another one. -/
import Derived.Test.YtakibnkhfmneiaaDoorZ1
import Derived.Test.YtakibnkhfmneiaaDoorZ0
import Derived.Lib.ConvBytes
import Derived.Lib.Hide
namespace Go.Proofs.YtakibnkhfmneiaaDoor.PSpoil
open Go.RowKit Go.Proofs.YtakibnkhfmneiaaDoorW.PrintWords Go.Proofs.YtakibnkhfmneiaaDoorW.PrintLast Go.Proofs.YtakibnkhfmneiaaDoorW.PrintMore Go.Proofs.YtakibnkhfmneiaaDoor.Q HOn CMath BMath CEq

/-- the bytes of t, the one at i another one -/
def spoilt (t : ByteArray) (i y : Nat) : ByteArray := strOfNums ((bytesOf t).set i (y : Int))
theorem spoilt_data (t : ByteArray) (i y : Nat) (hi : i < t.size) (hy : y < 256) : ∃ (l r : List UInt8) (c d : UInt8), t.data.toList = l ++ c :: r ∧ (spoilt t i y).data.toList = l ++ d :: r ∧ c = t.data.toList.getD i 0 ∧ d.toNat = y := by
  have hl : i < t.data.toList.length := by simpa using hi
  refine ⟨t.data.toList.take i, t.data.toList.drop (i + 1), t.data.toList.getD i 0, UInt8.ofNat y, ?_, ?_, rfl, by simp; omega⟩
  · rw [List.getD_eq_getElem?_getD, List.getElem?_eq_getElem hl]
    show t.data.toList = t.data.toList.take i ++ t.data.toList[i] :: t.data.toList.drop (i + 1)
    rw [← List.drop_eq_getElem_cons hl, List.take_append_drop]
  · unfold spoilt strOfNums bytesOf
    simp only []
    rw [List.map_set, List.map_map]
    have e : (t.data.toList.map ((fun n : Int => UInt8.ofNat n.toNat) ∘ fun b : UInt8 => (b.toNat : Int))) = t.data.toList := by
      conv => rhs; rw [← List.map_id t.data.toList]
      exact List.map_congr_left fun x _ => by simp
    rw [e, List.set_eq_take_append_cons_drop, if_pos hl, Int.toNat_natCast]
theorem spoilt_size (t : ByteArray) (i y : Nat) : (spoilt t i y).size = t.size := by
  unfold spoilt
  rw [size_nums, List.length_set, bytesOf_length]
theorem spoilt_sum {t : ByteArray} {i y : Nat} (hi : i < t.size) (hy : y < 256) (hne : (t.data.toList.getD i 0).toNat ≠ y) (h0 : sum t = 0) : sum (spoilt t i y) ≠ 0 := by
  obtain ⟨l, r, c, d, h1, h2, h3, h4⟩ := spoilt_data t i y hi hy
  intro h
  have := on_spoilt 11994318 (by decide) l r c d (fun hcd => hne (by rw [← h3, hcd, h4]))
  apply this
  rw [← h1, ← h2]
  exact h0.trans h.symm
theorem xor_other (c d : Nat) (hc : c < 256) (hd : d < 256) (h0 : 1 ≤ d) : Go.bits .xor .u8 (c : Int) (d : Int) = ((c ^^^ d : Nat) : Int) ∧ c ^^^ d < 256 ∧ c ≠ c ^^^ d := by
  refine ⟨u8_xor_nat c d hc hd, Nat.xor_lt_two_pow (n := 8) hc hd, fun h => ?_⟩
  have := congrArg (fun z => c ^^^ z) h
  simp only [← Nat.xor_assoc, Nat.xor_self, Nat.zero_xor] at this
  omega
theorem bytes_frozen (W : World) (e : TypeId) (s : ByteArray) (j : Nat) (hj : j < s.size) : (Lib.bytesWorld W e s).frozen? ⟨W.heap.size, j, none⟩ = false := by
  simp only [World.frozen?, Lib.bytesWorld_at_new]
  have : (Lib.bytesCells W e s).size ≥ s.size := by simp [Lib.bytesCells]
  simp
  omega
/-- the bytes of t in memory, one of them written -/
theorem spoilt_reads (W : World) (e : TypeId) (t : ByteArray) (i y : Nat) (hi : i < t.size) (ht : t.size ≤ 9223372036854775807) :
    ReadsInt ((Lib.bytesWorld W e t).setCell ⟨W.heap.size, i, none⟩ (.int .u8 (y : Int))) .u8 (some ⟨W.heap.size, 0, none⟩) t.size ((bytesOf t).set i (y : Int)) := by
  have hr := bytes_reads W e t ht
  refine ⟨by rw [List.length_set, bytesOf_length], ht, fun hp => ⟨_, rfl, fun j hj => ?_⟩⟩
  obtain ⟨ad, had, hc⟩ := hr.2.2 hp
  injection had with had
  subst had
  have h1 := hc j hj
  rw [add_plain] at h1 ⊢
  by_cases hij : j = i
  · subst hij
    rw [World.cell?_setCell_same _ _ _ h1]
    simp [List.getD_eq_getElem?_getD, bytesOf_length, hi]
  · rw [World.cell?_setCell_other _ _ _ _ (by intro hh; injection hh with _ hh; exact hij hh.symm), h1]
    simp [List.getD_eq_getElem?_getD, List.getElem?_set_ne (Ne.symm hij)]

end Go.Proofs.YtakibnkhfmneiaaDoor.PSpoil
