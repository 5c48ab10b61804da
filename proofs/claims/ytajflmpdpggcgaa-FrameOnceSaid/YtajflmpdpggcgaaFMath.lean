/- Frames, plain: what is put, got, and how deep it is. -/
import Derived.ProofKit
namespace Go.Proofs.Ytajflmpdpggcgaa.FMath

theorem snocRec {α : Type} {p : List α → Prop} (nil : p []) (snoc : ∀ l a, p l → p (l ++ [a])) (l : List α) : p l := by
  have key : ∀ m : List α, p m.reverse := fun m => by
    induction m with
    | nil => exact nil
    | cons a m ih => rw [List.reverse_cons]; exact snoc _ _ ih
  have := key l.reverse
  rwa [List.reverse_reverse] at this
/-- a frame: kind, node, turns, from, next -/
structure Fr where
  k : Int
  n : Int
  t : Int
  f : Int
  x : Int
deriving DecidableEq
def zero : Fr := ⟨0, 0, 0, 0, 0⟩
def Fr.cells (a : Fr) : List Value := [.int .i64 a.k, .int .i64 a.n, .int .i64 a.t, .int .i64 a.f, .int .i64 a.x]
def Fr.val (a : Fr) : Value := .agg a.cells.toArray
/-- T: the frames but Stop's -/
abbrev bad (T : List Fr) (a : Fr) : Prop := a.k < 1 ∨ 3 < a.k ∨ a.n < 0 ∨ a.t < 0 ∨ a.f < 0 ∨ a.x < 0 ∨ (T.length : Int) < a.x
def put (most : Int) (T : List Fr) (a : Fr) : Int × Int × List Fr :=
  if bad T a then (0, 1, T) else if a ∈ T then (((T.idxOf a : Nat) : Int) + 1, 0, T) else if most ≤ T.length then (0, 4, T) else ((T.length : Int) + 1, 0, T ++ [a])
def get (T : List Fr) (i : Int) : Fr × Bool := if 0 ≤ i ∧ i ≤ T.length then ((zero :: T).getD i.toNat zero, true) else (zero, false)
def depsFrom (D : List Int) (T : List Fr) : List Int := T.foldl (fun D a => D ++ [D.getD a.x.toNat 0 + 1]) D
def deps (T : List Fr) : List Int := depsFrom [0] T
def deep (T : List Fr) (i : Int) : Int := if 0 ≤ i ∧ i ≤ T.length then (deps T).getD i.toNat 0 else 0
theorem deps_snoc (T : List Fr) (a : Fr) : deps (T ++ [a]) = deps T ++ [(deps T).getD a.x.toNat 0 + 1] := by
  simp [deps, depsFrom]
theorem deps_length (T : List Fr) : (deps T).length = T.length + 1 := by
  induction T using snocRec with
  | nil => rfl
  | snoc T a ih => rw [deps_snoc]; simp [ih]
/-- what always holds: each frame is followed by an earlier one; none is there twice -/
structure Good (T : List Fr) : Prop where
  next : ∀ i (h : i < T.length), 0 ≤ T[i].x ∧ T[i].x ≤ i
  nodup : T.Nodup
theorem Good.nil : Good [] := ⟨fun i h => absurd h (by simp), List.nodup_nil⟩
theorem Good.snoc {T : List Fr} (g : Good T) {a : Fr} (hb : ¬ bad T a) (hm : a ∉ T) : Good (T ++ [a]) := by
  refine ⟨fun i h => ?_, ?_⟩
  · by_cases hi : i < T.length
    · rw [List.getElem_append_left hi]; exact g.next i hi
    · have : i = T.length := by simp at h; omega
      subst this
      simp only [List.getElem_concat_length]
      unfold bad at hb
      omega
  · rw [List.nodup_append]
    refine ⟨g.nodup, by simp, fun x hx y hy => ?_⟩
    simp at hy
    subst hy
    exact fun e => hm (e ▸ hx)
theorem put_good {most : Int} {T : List Fr} (g : Good T) (a : Fr) : Good (put most T a).2.2 := by
  unfold put
  split
  · exact g
  · split
    · exact g
    · split
      · exact g
      · rename_i h1 h2 h3
        exact g.snoc h1 h2
theorem put_room {most : Int} {T : List Fr} (h : (T.length : Int) ≤ most) (a : Fr) : ((put most T a).2.2.length : Int) ≤ most := by
  unfold put
  split
  · exact h
  · split
    · exact h
    · split
      · exact h
      · simp; omega
/-- no deeper than its number -/
theorem deps_le (T : List Fr) (g : Good T) (i : Nat) : 0 ≤ (deps T).getD i 0 ∧ (deps T).getD i 0 ≤ i := by
  induction T using snocRec generalizing i with
  | nil =>
    rcases i with _ | i
    · simp [deps, depsFrom]
    · simp [deps, depsFrom]; omega
  | snoc T a ih =>
    have g' : Good T := ⟨fun j h => by
      have := g.next j (by simp; omega)
      rwa [List.getElem_append_left h] at this, (List.nodup_append.1 g.nodup).1⟩
    have hx : 0 ≤ a.x ∧ a.x ≤ T.length := by
      have := g.next T.length (by simp)
      simpa using this
    rw [deps_snoc]
    by_cases hi : i < T.length + 1
    · rw [List.getD_eq_getElem?_getD, List.getElem?_append_left (by rw [deps_length]; exact hi), ← List.getD_eq_getElem?_getD]
      exact ih g' i
    · by_cases he : i = T.length + 1
      · subst he
        have h1 := ih g' a.x.toNat
        have e : (deps T ++ [(deps T).getD a.x.toNat 0 + 1]).getD (T.length + 1) 0 = (deps T).getD a.x.toNat 0 + 1 := by
          rw [List.getD_eq_getElem?_getD, List.getElem?_append_right (by rw [deps_length]; exact Nat.le_refl _), deps_length, Nat.sub_self]
          rfl
        rw [e]
        omega
      · have e : (deps T ++ [(deps T).getD a.x.toNat 0 + 1]).getD i 0 = 0 := by
          rw [List.getD_eq_getElem?_getD, List.getElem?_eq_none (by simp [deps_length]; omega)]
          rfl
        rw [e]
        omega
/-- one deeper than what follows -/
theorem deps_next (T : List Fr) (g : Good T) (i : Nat) (h : i < T.length) : (deps T).getD (i + 1) 0 = (deps T).getD (T[i].x.toNat) 0 + 1 := by
  induction T using snocRec with
  | nil => simp at h
  | snoc T a ih =>
    have g' : Good T := ⟨fun j h => by
      have := g.next j (by simp; omega)
      rwa [List.getElem_append_left h] at this, (List.nodup_append.1 g.nodup).1⟩
    have hn := g.next i h
    rw [deps_snoc]
    have up : ∀ j, j < T.length + 1 → ∀ z, (deps T ++ [z]).getD j 0 = (deps T).getD j 0 := fun j hj z => by
      rw [List.getD_eq_getElem?_getD, List.getElem?_append_left (by rw [deps_length]; exact hj), ← List.getD_eq_getElem?_getD]
    by_cases hi : i < T.length
    · rw [List.getElem_append_left hi] at hn ⊢
      rw [up _ (by omega), up _ (by omega)]
      exact ih g' hi
    · have he : i = T.length := by simp at h; omega
      subst he
      simp only [List.getElem_concat_length] at hn ⊢
      rw [up a.x.toNat (by omega)]
      rw [List.getD_eq_getElem?_getD, List.getElem?_append_right (by rw [deps_length]; exact Nat.le_refl _), deps_length, Nat.sub_self]
      rfl
end Go.Proofs.Ytajflmpdpggcgaa.FMath
