/- crc.On: what its call answers, where the table of the program lies in memory as its text has it. -/
import Derived.Test.YtjjmgpejlkggoaaDoorProg
import Derived.WalkKit
import Derived.KernelRfl
import Derived.OwnWalk
import Derived.Lib.ConvBytes
import Derived.Lib.Hide
import Derived.Deep.LoopGhost
import Derived.OpenShut
import Derived.Laws.BitsAllLaws
import Derived.Test.YtjjmgpejlkggoaaDoorWWords
namespace Go.Proofs.YtjjmgpejlkggoaaDoor.HOn
open Go.RowKit Go.Proofs.YtjjmgpejlkggoaaDoorW.PrintWords

def tabL : List Nat := [0, 8801531, 9098509, 825846, 9692897, 1419802, 1651692, 10452759, 10584377, 2608578, 2839604, 11344079, 3303384, 11807523, 12104405, 4128302]
def tab (i : Nat) : Nat := tabL.getD i 0
theorem tab_lt (i : Nat) : tab i < 16777216 := by
  by_cases h : i < 16
  · have key : ∀ j : Fin 16, tab j.val < 16777216 := by decide
    exact key ⟨i, h⟩
  · unfold tab
    rw [List.getD_eq_getElem?_getD, List.getElem?_eq_none (by show 16 ≤ i; omega)]
    decide
/-- the table lies in memory -/
def Tab (w : World) : Prop := 0 < w.heap.size ∧ ∀ i : Nat, i < 16 → w.cell? ⟨0, i, none⟩ = some (.int .u32 (tab i : Nat))
theorem Tab.below {w w' : World} (h : Tab w) (hb : Below w.heap.size w w') : Tab w' :=
  ⟨by have := hb.size; have := h.1; omega, fun i hi => (hb.cell (p := ⟨0, i, none⟩) h.1).trans (h.2 i hi)⟩
theorem Tab.drewN {w : World} (h : Tab w) (n : Nat) : Tab (w.drewN n) := h.below (pw_below_drewN (Below.refl _ _) _)
theorem Tab.drew1 {w : World} (h : Tab w) : Tab w.drew := h.below (Below.drew (Below.refl _ _))

/-- half a byte -/
def half (n : Nat) : Nat := (n * 16 % 16777216) ^^^ tab (n / 1048576)
/-- a byte -/
def byte (n c : Nat) : Nat := half (half (n ^^^ (c * 65536)))
def on (n : Nat) (l : List UInt8) : Nat := l.foldl (fun n c => byte n c.toNat) n
theorem xor_lt {a b : Nat} (ha : a < 16777216) (hb : b < 16777216) : a ^^^ b < 16777216 := Nat.xor_lt_two_pow (n := 24) ha hb
theorem half_lt (n : Nat) : half n < 16777216 := xor_lt (by omega) (tab_lt _)
theorem byte_lt (n c : Nat) : byte n c < 16777216 := half_lt _
theorem on_snoc (n : Nat) (l : List UInt8) (c : UInt8) : on n (l ++ [c]) = byte (on n l) c.toNat := by simp [on]
theorem and_mask (n : Nat) (h : n < 4294967296) : bits .and .u32 (n : Int) 16777215 = ((n % 16777216 : Nat) : Int) := by
  have := u32_and_nat n 16777215 h (by decide)
  rw [show n &&& 16777215 = n % 16777216 from Nat.and_two_pow_sub_one_eq_mod n 24] at this
  exact this
theorem xor_nat (a b : Nat) (ha : a < 16777216) (hb : b < 16777216) : bits .xor .u32 (a : Int) (b : Int) = ((a ^^^ b : Nat) : Int) := u32_xor_nat a b (by omega) (by omega)

theorem half_bits (y : Nat) (_hy : y < 16777216) : bits .xor .u32 ((y : Int) * 16 % 16777216) (tab (y / 1048576) : Int) = ((half y : Nat) : Int) := by
  have := xor_nat (y * 16 % 16777216) (tab (y / 1048576)) (by omega) (tab_lt _)
  rw [show y * 16 % 16777216 ^^^ tab (y / 1048576) = half y from rfl] at this
  rw [← this]
  congr 1
set_option maxHeartbeats 1000000 in
theorem on_calls (n : Nat) (s : ByteArray) (w : World) (hT : Tab w) (hn : n < 4294967296) (hs : s.size ≤ 9223372036854775807) :
    Calls Tryd.prog 13 #[.int .u32 (n : Int), .string s] w fun e w' => e = .returned (.int .u32 (on (n % 16777216) s.data.toList : Nat)) ∧ Below w.heap.size w w' := by
  have kb := fun W => print_bytes (P := Tryd.prog) 9 32 5 Tryd.underlying9 Tryd.underlying32 Tryd.underlying5 s W
  obtain ⟨m, hm, hg⟩ : ∃ m : Nat, bits .and .u32 (n : Int) 16777215 = (m : Int) ∧ n % 16777216 = m := ⟨_, and_mask n hn, rfl⟩
  rw [hg]
  have hm16 : m < 16777216 := by omega
  clear hg
  have hB : Below w.heap.size w (Lib.bytesWorld w 5 s) := bytes_below (Below.refl _ _) (Nat.le_refl _) _ _
  have hcell := fun k (hk : k < s.size) => Lib.bytesWorld_cell w 5 s k hk
  have hT2 := hT.below hB
  go_enter Tryd.func13, Tryd.ntmps13
  go_wp2
  clear hm
  have HB := Lib.hid hB
  have HT := Lib.hid hT2
  have HC := Lib.hid hcell
  clear hB hT2 hcell hT kb
  generalize hW : Lib.bytesWorld w 5 s = W at *
  clear hW
  go_loop [5, 7, 13] (fun v c i => ∃ (x k : Nat), v = .int .u32 x ∧ x < 16777216 ∧ k ≤ s.size ∧ i = .int .i64 k ∧ Hid (x = on m (s.data.toList.take k))) (fun _ _ i => s.size - (intOf i).toNat)
  case atStart => exact ⟨m, 0, rfl, by omega, by omega, rfl, rfl⟩
  case round =>
    obtain ⟨x, k, rfl, h1, hk, rfl, hx⟩ := hrel
    by_cases hlt : k < s.size
    · have hc0 := HC.out k hlt
      have hkl : k < s.data.toList.length := by simpa using hlt
      have hsn : s.data.toList.take (k + 1) = s.data.toList.take k ++ [s.data.toList.getD k 0] := by
        rw [List.take_succ_eq_append_getElem hkl, List.getD_eq_getElem?_getD, List.getElem?_eq_getElem hkl]
        rfl
      have HX : Hid (byte x (s.data.toList.getD k 0).toNat = on m (s.data.toList.take (k + 1))) := by
        unfold Hid
        rw [hsn, on_snoc, hx]
      clear hsn
      have hcl : (s.data.toList.getD k 0).toNat < 256 := (s.data.toList.getD k 0).toNat_lt
      generalize (s.data.toList.getD k 0).toNat = c at *
      have b1 : bits .xor .u32 (x : Int) ((c : Int) * 65536) = ((x ^^^ c * 65536 : Nat) : Int) := by
        have := xor_nat x (c * 65536) h1 (by omega)
        rw [← this]
        congr 1
      have hy1 : x ^^^ c * 65536 < 16777216 := xor_lt h1 (by omega)
      have HY := Lib.hid (show byte x c = half (half (x ^^^ c * 65536)) from rfl)
      generalize x ^^^ c * 65536 = y at *
      have b2 : bits .and .u32 ((y : Int) * 16) 16777215 = ((y * 16 % 16777216 : Nat) : Int) := by
        have := and_mask (y * 16) (by omega)
        rw [← this]
        congr 1
      have t2 := HT.out.2 (y / 1048576) (by omega)
      have b3 := half_bits y hy1
      have hz : half y < 16777216 := half_lt y
      generalize half y = z at *
      have b4 : bits .and .u32 ((z : Int) * 16) 16777215 = ((z * 16 % 16777216 : Nat) : Int) := by
        have := and_mask (z * 16) (by omega)
        rw [← this]
        congr 1
      have t3 := HT.out.2 (z / 1048576) (by omega)
      have b5 := half_bits z hz
      have hz2 : half z < 16777216 := half_lt z
      have HX2 : Hid (half z = on m (s.data.toList.take (k + 1))) := by
        unfold Hid
        rw [← HX, HY]
      clear HX HY hx
      generalize half z = z2 at *
      go_wp2
      go_round
      case rel => exact ⟨z2, k + 1, rfl, hz2, by omega, by go_num, HX2⟩
      case measure => simp [intOf]; omega
    · obtain rfl : k = s.size := by omega
      have hx2 : Hid (x = on m s.data.toList) := by
        unfold Hid
        rw [hx, List.take_of_length_le (by simp)]
      clear hx
      go_wp2
      go_ret
      exact ⟨by rw [← hx2.out]; rfl, HB.out⟩
end Go.Proofs.YtjjmgpejlkggoaaDoor.HOn
