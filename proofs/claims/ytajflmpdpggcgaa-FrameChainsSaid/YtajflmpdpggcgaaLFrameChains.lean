/- FrameChains: its walk. -/
import Derived.Test.YtajflmpdpggcgaaFSat
namespace Go.Proofs.Ytajflmpdpggcgaa.LFrameChains
open Go.RowKit FMath FKey FRep FGet FNew FSat Go.Proofs.YtajflmpdpggcgaaW.PrintWords Go.Proofs.YtajflmpdpggcgaaW.PrintLast Go.Proofs.YtajflmpdpggcgaaW.PrintMore
set_option linter.unusedVariables false
set_option linter.unusedSimpArgs false

def fr (q : Int) (j : Nat) : Fr := ⟨q, (j : Int) % 5, 0, 0, j⟩
def chain (q : Int) (m : Nat) : List Fr := (List.range m).map (fr q)
theorem chain_succ (q : Int) (m : Nat) : chain q (m + 1) = chain q m ++ [fr q m] := by simp [chain, List.range_succ]
theorem chain_length (q : Int) (m : Nat) : (chain q m).length = m := by simp [chain]
theorem chain_mem (q : Int) (m i : Nat) : fr q i ∈ chain q m ↔ i < m := by
  simp only [chain, List.mem_map, List.mem_range]
  constructor
  · rintro ⟨j, hj, he⟩
    have : (fr q j).x = (fr q i).x := by rw [he]
    simp [fr] at this
    omega
  · intro h
    exact ⟨i, h, rfl⟩
theorem chain_idx (q : Int) (m i : Nat) (h : i < m) : (chain q m).idxOf (fr q i) = i := by
  induction m with
  | zero => omega
  | succ m ih =>
    rw [chain_succ]
    by_cases hi : i < m
    · rw [List.idxOf_append, if_pos ((chain_mem q m i).2 hi)]
      exact ih hi
    · have : i = m := by omega
      subst this
      rw [List.idxOf_append, if_neg (by rw [chain_mem]; omega), chain_length]
      simp
theorem chain_deps (q : Int) (m : Nat) : ∀ i, i ≤ m → (deps (chain q m)).getD i 0 = i := by
  induction m with
  | zero =>
    intro i hi
    have : i = 0 := by omega
    subst this
    rfl
  | succ m ih =>
    intro i hi
    rw [chain_succ, deps_snoc]
    have hl : (deps (chain q m)).length = m + 1 := by rw [deps_length, chain_length]
    by_cases h : i < m + 1
    · rw [List.getD_eq_getElem?_getD, List.getElem?_append_left (by omega), ← List.getD_eq_getElem?_getD]
      exact ih i (by omega)
    · have : i = m + 1 := by omega
      subst this
      rw [List.getD_eq_getElem?_getD, List.getElem?_append_right (by omega), hl, Nat.sub_self]
      have hx : (fr q m).x.toNat = m := by simp [fr]
      simp only [List.getElem?_cons_zero, Option.getD_some, hx]
      rw [ih m (by omega)]
      omega
theorem chain_deep (q : Int) (m i : Nat) (h : i ≤ m) : deep (chain q m) (i : Int) = i := by
  unfold deep
  rw [if_pos (by rw [chain_length]; omega), Int.toNat_natCast, chain_deps q m i h]
theorem chain_put (q : Int) (K i : Nat) (h : i ≤ K) (hK : K ≤ 60) (h1 : 1 ≤ q) (h3 : q ≤ 3) : put 100 (chain q K) (fr q i) = ((i : Int) + 1, 0, chain q (if i < K then K else K + 1)) := by
  unfold put
  rw [if_neg (by unfold bad; rw [chain_length]; simp only [fr]; omega)]
  by_cases hi : i < K
  · rw [if_pos ((chain_mem q K i).2 hi), chain_idx q K i hi, if_pos hi]
  · have : i = K := by omega
    subst this
    rw [if_neg (by rw [chain_mem]; omega), if_neg (by rw [chain_length]; omega), if_neg hi, chain_length, chain_succ]

/-- how many there are, in turn t, behind i -/
def have_ (t i k : Nat) : Nat := if t = 0 then i else k
set_option maxRecDepth 100000 in
set_option maxHeartbeats 6400000 in
theorem walk (n kind : Int) (w : World) (hn0 : 0 ≤ n) (hn1 : n ≤ 255) (hk0 : 0 ≤ kind) (hk1 : kind ≤ 255) :
    Calls Try.prog 6 #[.int .u8 n, .int .u8 kind] w fun e w' => e = .returned (.bool true) ∧ Below w.heap.size w w' := by
  obtain ⟨k, hk, hkl⟩ : ∃ k : Nat, n % 61 = (k : Int) ∧ k ≤ 60 := ⟨(n % 61).toNat, by omega, by omega⟩
  obtain ⟨q, hq, hq1, hq3⟩ : ∃ q : Int, 1 + kind % 3 = q ∧ 1 ≤ q ∧ q ≤ 3 := ⟨1 + kind % 3, rfl, by omega, by omega⟩
  go_enter Try.func6, Try.ntmps6
  go_wp2_with fail
  refine (snew (B := w.heap.size) 100 (by omega) (by omega) (Nat.le_refl _)).mono ?_
  rintro e w1 ⟨s, rfl, hs1, hB1⟩
  have HS1 := Lib.hid hs1
  have HB1 := Lib.hid hB1
  clear hs1 hB1
  go_wp2
  rw [hk]
  clear hk hn0 hn1
  go_loopw [8, 9, 10, 11, 12] (fun t _ _ _ _ wr => ∃ tt : Nat, tt ≤ 2 ∧ t = .int .i64 tt ∧ Hid (SAt w.heap.size wr s (chain q (have_ tt 0 k)) 100) ∧ Hid (Below w.heap.size w wr)) (fun t _ _ _ _ _ => 2 - (intOf t).toNat)
  case atStart => exact ⟨0, by omega, rfl, HS1.out, HB1.out⟩
  case round =>
    obtain ⟨tt, ht, rfl, HS, HB⟩ := hrel
    by_cases h2 : tt < 2
    · go_wp2
      obtain ⟨wo, rfl⟩ : ∃ wo : World, wo = wr := ⟨_, rfl⟩
      rw [show decide ((tt : Int) < 2) = true by simp; omega]
      go_loopw [9, 10, 11, 12] (fun l i _ _ wr => ∃ ii : Nat, ii ≤ k ∧ l = .int .i64 ii ∧ i = .int .i64 ii ∧ Hid (SAt w.heap.size wr s (chain q (have_ tt ii k)) 100) ∧ Hid (Below w.heap.size w wr)) (fun _ i _ _ _ => k - (intOf i).toNat)
      case atStart => exact ⟨0, by omega, rfl, rfl, HS, HB⟩
      case round =>
        obtain ⟨ii, hi, rfl, rfl, HS', HB'⟩ := hrel
        clear HS HB
        by_cases h3 : ii < k
        · go_wp2_with fail
          refine (sput HS'.out (fr q ii) HB'.out.size).mono ?_
          rintro e w2 ⟨rfl, hs, hb⟩
          have hp := chain_put q (have_ tt ii k) ii (by unfold have_; split <;> omega) (by unfold have_; split <;> omega) hq1 hq3
          rw [hp] at hs ⊢
          have hs2 : SAt w.heap.size w2 s (chain q (have_ tt (ii + 1) k)) 100 := by
            have : (if ii < have_ tt ii k then have_ tt ii k else have_ tt ii k + 1) = have_ tt (ii + 1) k := by
              unfold have_
              by_cases h0 : tt = 0
              · simp [h0]
              · rw [if_neg h0, if_neg h0]
                simp [h3]
            rw [← this]
            exact hs
          have HS2 := Lib.hid hs2
          have HB2 := Lib.hid (HB'.out.trans hb)
          have hd := chain_deep q (have_ tt (ii + 1) k) (ii + 1) (by unfold have_; split <;> omega)
          clear hp hs hs2 hb HS' HB'
          go_wp2_with fail
          refine (sdeep HS2.out ((ii : Int) + 1)).mono ?_
          rintro e w3 ⟨rfl, rfl⟩
          rw [show (ii : Int) + 1 = ((ii + 1 : Nat) : Int) by omega, hd]
          clear hd
          go_wp2
          go_roundw
          case rel =>
            exact ⟨ii + 1, by omega, by simp, by simp, HS2, HB2⟩
          case measure => simp [intOf]; omega
        · have hik : ii = k := by omega
          subst hik
          go_wp2_with fail
          refine (slen HS'.out).mono ?_
          rintro e w2 ⟨rfl, rfl⟩
          rw [chain_length, show have_ tt ii ii = ii by unfold have_; split <;> rfl]
          go_wp2
          go_roundw
          case rel => exact ⟨tt + 1, by omega, by simp, by simpa [have_] using HS', HB'⟩
          case measure => simp [intOf]; omega
    · go_wp2_with (go_at_call 18; (with_reducible refine (fixed_calls _).mono ?_); rintro e w6 ⟨rfl, hB7⟩)
      go_ret
      exact ⟨rfl, below_step HB.out hB7⟩
theorem u8_of {a : Int} (h : (Lit.int .u8 a).wf = true) : 0 ≤ a ∧ a ≤ 255 := by
  simp [Lit.wf, IntKind.min, IntKind.max, IntKind.signed, IntKind.bits] at h
  omega
theorem frameChains_row (a b : Int) (w : World) (ha : (Lit.int .u8 a).wf = true) (hb : (Lit.int .u8 b).wf = true) :
    Calls Try.prog 6 #[.int .u8 a, .int .u8 b] w fun e w' => e = .returned (.bool true) ∧ Below w.heap.size w w' :=
  walk a b w (u8_of ha).1 (u8_of ha).2 (u8_of hb).1 (u8_of hb).2
end Go.Proofs.Ytajflmpdpggcgaa.LFrameChains
