/- wire.Get: what its call answers, at every place of every string. -/
import Derived.Test.YtbillgeckogfnaaProg
import Derived.OwnWalk
import Derived.WalkKit
import Derived.KernelRfl
import Derived.RowKit3
import Derived.Deep.LoopGhost
import Derived.OpenShut
import Derived.Laws.BitsAllLaws
import Derived.Lib.Strings
import Derived.Test.YtbillgeckogfnaaWWords
import Derived.Test.YtbillgeckogfnaaWLast
import Derived.Test.YtbillgeckogfnaaWMore
import Derived.Lib.Hide
namespace Go.Proofs.Ytbillgeckogfnaa.HGet
open Go.RowKit Go.Proofs.YtbillgeckogfnaaW.PrintWords Go.Proofs.YtbillgeckogfnaaW.PrintLast Go.Proofs.YtbillgeckogfnaaW.PrintMore

/-- the number that the bytes 1 .. m of t are, big end first -/
def num (t : ByteArray) : Nat → Int
  | 0 => 0
  | m + 1 => Go.bits .or .u64 (IntKind.u64.wrap (num t m * 256)) (bt t ((m : Int) + 1))
/-- what Get tells of what stands from the place on -/
def get1 (t : ByteArray) (a : Int) : Int × Int × Int :=
  if t.toList = [] then (0, 0, 2) else if bt t 0 > 199 then (0, 0, 3) else if bt t 0 < 192 then (bt t 0, wrap64 (a + 1), 0)
  else if (t.size : Int) ≤ bt t 0 - 191 then (0, 0, 2)
  else if num t (bt t 0 - 191).toNat < 192 then (0, 0, 3) else if bt t 1 = 0 then (0, 0, 3) else (num t (bt t 0 - 191).toNat, wrap64 (wrap64 (a + 1) + (bt t 0 - 191)), 0)
theorem num_range (t : ByteArray) (m : Nat) : 0 ≤ num t m ∧ num t m ≤ 18446744073709551615 := by
  cases m with
  | zero => exact ⟨Int.le_refl _, by unfold num; omega⟩
  | succ m => exact bounds_u64 (wf_bits .or .u64 _ _)
theorem toList_empty : ByteArray.empty.toList = [] := by rw [Lib.toList_data]; rfl
def GetPost (t : ByteArray) (a : Int) (w : World) (e : Ending) (w' : World) : Prop :=
  e = .returned (.tuple #[.int .u64 (get1 t a).1, .int .i64 (get1 t a).2.1, .int .i64 (get1 t a).2.2]) ∧ Drawn0 w w'

set_option maxHeartbeats 1000000 in
set_option maxRecDepth 100000 in
theorem get_calls (s : ByteArray) (a : Int) (w : World) (h0 : 0 ≤ a) (h1 : a ≤ s.size) (hs : s.size ≤ 9223372036854775807) :
    Calls Try.prog 9 #[.string s, .int .i64 a] w (GetPost (s.extract a.toNat s.size) a w) := by
  have hsz : (s.extract a.toNat s.size).size = s.size - a.toNat := by simp
  obtain ⟨t, ht⟩ : ∃ t, s.extract a.toNat s.size = t := ⟨_, rfl⟩
  rw [ht]
  rw [ht] at hsz
  have hsz2 : (t.size : Int) ≤ 9223372036854775807 := by omega
  clear hsz
  by_cases ht0 : t.toList = []
  · have ht2 : (t.toList == []) = true := by rw [ht0]; rfl
    have HR : Hid (get1 t a = (0, 0, 2)) := by unfold Hid; simp [get1, ht0]
    clear ht0 hsz2
    go_enter Try.func9, Try.ntmps9
    go_wp2
    go_ret3
    exact ⟨by rw [HR.out]; rfl, by repeat (first | exact Drawn0.refl _ | apply Drawn0.step)⟩
  · have ht2 : (t.toList == []) = false := by simpa using ht0
    have ht3 : 0 < t.size := by
      rcases Nat.eq_zero_or_pos t.size with h | h
      · have he : t = ByteArray.empty := by simpa using h
        exact absurd (by rw [he]; exact toList_empty) ht0
      · exact h
    have hx := fun h : 0 < t.size => bt_at t 0 h
    obtain ⟨c, hc⟩ : ∃ c, bt t 0 = c := ⟨_, rfl⟩
    have hcr := bt_range t 0
    rw [hc] at hcr
    obtain ⟨hcr0, hcr1⟩ := hcr
    have hx0 : ∀ h : 0 < t.size, ((t[0]'h).toNat : Int) = c := fun h => by rw [← hc]; exact hx h
    have HC := Lib.hid hc
    clear hx hc
    by_cases c1 : c > 199
    · have HR : Hid (get1 t a = (0, 0, 3)) := by unfold Hid; simp [get1, ht0, HC.out, c1]
      clear ht0 hsz2
      go_enter Try.func9, Try.ntmps9
      go_wp2
      go_ret3
      exact ⟨by rw [HR.out]; rfl, by repeat (first | exact Drawn0.refl _ | apply Drawn0.step)⟩
    by_cases c2 : c < 192
    · have HR : Hid (get1 t a = (c, wrap64 (a + 1), 0)) := by unfold Hid; simp [get1, ht0, HC.out, c1, c2]
      clear ht0 hsz2
      go_enter Try.func9, Try.ntmps9
      go_wp2
      go_ret3
      exact ⟨by rw [HR.out]; rfl, by repeat (first | exact Drawn0.refl _ | apply Drawn0.step)⟩
    by_cases c3 : (t.size : Int) ≤ c - 191
    · have HR : Hid (get1 t a = (0, 0, 2)) := by unfold Hid; simp [get1, ht0, HC.out, c1, c2, c3]
      clear ht0 hsz2
      go_enter Try.func9, Try.ntmps9
      go_wp2
      go_ret3
      exact ⟨by rw [HR.out]; rfl, by repeat (first | exact Drawn0.refl _ | apply Drawn0.step)⟩
    have HR : Hid (get1 t a = if num t (c - 191).toNat < 192 then (0, 0, 3) else if bt t 1 = 0 then (0, 0, 3) else (num t (c - 191).toNat, wrap64 (wrap64 (a + 1) + (c - 191)), 0)) := by unfold Hid; simp [get1, ht0, HC.out, c1, c2, c3]
    clear ht0 hsz2
    go_enter Try.func9, Try.ntmps9
    go_wp2
    go_loop [9, 10, 48] (fun n x i => ∃ k : Nat, (k : Int) ≤ c - 191 ∧ i = .int .i64 k ∧ n = .int .u64 (num t k)) (fun _ _ i => 20 - (intOf i).toNat)
    case atStart => exact ⟨0, by omega, rfl, rfl⟩
    case round =>
      obtain ⟨k, hk, rfl, rfl⟩ := hrel
      by_cases hlt : (k : Int) < c - 191
      · have hx1 : ∀ h : 1 + k < t.size, ((t[1 + k]'h).toNat : Int) = bt t ((k : Int) + 1) := fun h => by
          have e : ((k : Int) + 1).toNat = 1 + k := by omega
          have := bt_at t ((k : Int) + 1) (by omega)
          rw [← this]
          congr 3
          exact e.symm
        have hbr := bt_range t ((k : Int) + 1)
        go_wp2
        go_round
        case rel =>
          refine ⟨k + 1, by omega, by go_num, ?_⟩
          rw [num]
        case measure => simp [intOf]; omega
      · obtain rfl : c = k + 191 := by omega
        have hr := num_range t k
        have hk2 : ((k : Int) + 191 - 191).toNat = k := by omega
        rw [hk2] at HR
        clear hk2
        by_cases c4 : num t k < 192
        · rw [if_pos c4] at HR
          go_wp2
          go_ret3
          exact ⟨by rw [HR.out]; rfl, by repeat (first | exact Drawn0.refl _ | apply Drawn0.step)⟩
        rw [if_neg c4] at HR
        have hb1 : ∀ h : 1 < t.size, ((t[1]'h).toNat : Int) = bt t 1 := fun h => bt_at t 1 h
        by_cases c5 : bt t 1 = 0
        · rw [if_pos c5] at HR
          have c6 : (bt t 1 == 0) = true := beq_iff_eq.2 c5
          clear c5
          go_wp2
          go_ret3
          exact ⟨by rw [HR.out]; rfl, by repeat (first | exact Drawn0.refl _ | apply Drawn0.step)⟩
        rw [if_neg c5] at HR
        have c6 : (bt t 1 == 0) = false := beq_eq_false_iff_ne.2 c5
        clear c5
        go_wp2
        go_ret3
        exact ⟨by rw [HR.out, show ((k : Int) + 191 - 191) = (k : Int) + 191 - 192 + 1 by omega]; rfl, by repeat (first | exact Drawn0.refl _ | apply Drawn0.step)⟩

theorem get_out (s : ByteArray) (a : Int) (w : World) (h : a < 0 ∨ (s.size : Int) < a) :
    Calls Try.prog 9 #[.string s, .int .i64 a] w fun e w' => e = .returned (.tuple #[.int .u64 0, .int .i64 0, .int .i64 1]) ∧ Drawn0 w w' := by
  by_cases h0 : a < 0
  · clear h
    go_enter Try.func9, Try.ntmps9
    go_wp2
    go_ret3
    exact ⟨rfl, by repeat (first | exact Drawn0.refl _ | apply Drawn0.step)⟩
  · have h1 : (s.size : Int) < a := by omega
    clear h
    go_enter Try.func9, Try.ntmps9
    go_wp2
    go_ret3
    exact ⟨rfl, by repeat (first | exact Drawn0.refl _ | apply Drawn0.step)⟩
end Go.Proofs.Ytbillgeckogfnaa.HGet
