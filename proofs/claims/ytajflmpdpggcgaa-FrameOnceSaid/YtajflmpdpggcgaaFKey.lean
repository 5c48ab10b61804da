/- A map keyed by frames: what is found, and what is written. -/
import Derived.Test.YtajflmpdpggcgaaFMath
import Derived.Test.YtajflmpdpggcgaaProg
import Derived.WalkKit
import Derived.ProofKit
import Derived.Laws.StructEq
import Derived.Maps.Keyed
import Derived.WalkSpells
namespace Go.Proofs.Ytajflmpdpggcgaa.FKey
open Go.RowKit FMath

theorem fr_ext {a b : Fr} (h1 : a.k = b.k) (h2 : a.n = b.n) (h3 : a.t = b.t) (h4 : a.f = b.f) (h5 : a.x = b.x) : a = b := by
  cases a; cases b
  simp only at h1 h2 h3 h4 h5
  subst h1 h2 h3 h4 h5
  rfl
theorem eq_frames (w : World) (a b : Fr) : (Op.equal 33 a.val b.val).run Try.prog w = .ok (decide (a = b)) w := by
  have hu := Try.underlying33
  have hi := Try.underlying3
  show (Op.equalIn (9999 + 1) _ _ _).run Try.prog w = _
  unfold Fr.val Fr.cells
  go_simp
  by_cases h : a = b
  · subst h
    simp
  · rw [decide_eq_false h]
    by_cases h1 : a.k = b.k
    · by_cases h2 : a.n = b.n
      · by_cases h3 : a.t = b.t
        · by_cases h4 : a.f = b.f
          · by_cases h5 : a.x = b.x
            · exact absurd (fr_ext h1 h2 h3 h4 h5) h
            · simp [h1, h2, h3, h4, h5]
          · simp [h1, h2, h3, h4]
        · simp [h1, h2, h3]
      · simp [h1, h2]
    · simp [h1]
/-- the entries of the frames T, the first one's number i + 1 -/
def ents (i : Nat) : List Fr → List (Value × Value)
  | [] => []
  | a :: T => (a.val, .int .i64 ((i : Int) + 1)) :: ents (i + 1) T
theorem ents_snoc (i : Nat) (T : List Fr) (a : Fr) : ents i (T ++ [a]) = ents i T ++ [(a.val, .int .i64 (((i + T.length : Nat) : Int) + 1))] := by
  induction T generalizing i with
  | nil => simp [ents]
  | cons b T ih =>
    simp only [List.cons_append, ents, ih, List.length_cons]
    rw [show i + 1 + T.length = i + (T.length + 1) by omega]
theorem find_asking (w : World) (a : Fr) : ∀ (es : List MapEntry) (T : List Fr) (i j : Nat), es.map (fun e => (e.key, e.val)) = ents i T →
    (Instr.findAsking 33 a.val es j).run Try.prog w = .ok (if a ∈ T then some (j + T.idxOf a, .int .i64 (((i + T.idxOf a : Nat) : Int) + 1)) else none) w
  | [], [], i, j, _ => by simp [Instr.findAsking]
  | [], _ :: _, i, j, h => by simp [ents] at h
  | _ :: _, [], i, j, h => by simp [ents] at h
  | e :: es, b :: T, i, j, h => by
    simp only [List.map_cons, ents, List.cons.injEq, Prod.mk.injEq] at h
    obtain ⟨⟨h1, h2⟩, h3⟩ := h
    have ih := find_asking w a es T (i + 1) (j + 1) h3
    simp only [Instr.findAsking, Sem.run_bind, h1, eq_frames, Result.andThen_ok]
    by_cases hc : a = b
    · subst hc
      simp [h2]
    · rw [decide_eq_false hc]
      simp only [Bool.false_eq_true, if_false]
      rw [ih]
      have hne : (b == a) = false := by simpa using fun h => hc h.symm
      simp only [List.mem_cons, hc, false_or, List.idxOf_cons, hne, cond_false]
      rw [show j + 1 + T.idxOf a = j + (T.idxOf a + 1) by omega, show i + 1 + T.idxOf a = i + (T.idxOf a + 1) by omega]
theorem find_frames (w : World) (a : Fr) (es : List MapEntry) (T : List Fr) (h : es.map (fun e => (e.key, e.val)) = ents 0 T) :
    (Instr.findKey 33 a.val es).run Try.prog w = .ok (if a ∈ T then some (T.idxOf a, .int .i64 ((T.idxOf a : Int) + 1)) else none) w := by
  have hf := find_asking w a es T 0 0 h
  simp only [Nat.zero_add] at hf
  unfold Instr.findKey
  simp only [Sem.run_bind, run_underlying Try.underlying33, Result.andThen_ok]
  match es, T, h with
  | [], [], _ => simp [Instr.findNow]
  | e :: es, b :: T, h =>
    simp only [Instr.findNow, Instr.sameNow]
    exact hf
theorem part_int (w : World) (cs : Array Value) (o : Nat) (v : Value) (h : cs[o]? = some v) : (part 3 cs o).run Try.prog w = .ok v w := by
  have hi := Try.underlying3
  unfold part
  go_simp
theorem check_int (w : World) (em : Bool) (n : Nat) (k : Int) : (Instr.checkKey em (n + 1) 3 (.int .i64 k)).run Try.prog w = .ok () w := by
  simp [Instr.checkKey, run_underlying Try.underlying3]
theorem check_any (w : World) (em : Bool) (n : Nat) (a : Fr) : (Instr.checkKey em (n + 1 + 1) 33 a.val).run Try.prog w = .ok () w := by
  have hu := Try.underlying33
  have p0 := fun w => part_int w a.cells.toArray 0 (.int .i64 a.k) rfl
  have p1 := fun w => part_int w a.cells.toArray 1 (.int .i64 a.n) rfl
  have p2 := fun w => part_int w a.cells.toArray 2 (.int .i64 a.t) rfl
  have p3 := fun w => part_int w a.cells.toArray 3 (.int .i64 a.f) rfl
  have p4 := fun w => part_int w a.cells.toArray 4 (.int .i64 a.x) rfl
  have c := fun w k => check_int w em n k
  unfold Fr.val
  generalize a.cells.toArray = cs at *
  rw [Instr.checkKey]
  simp [run_underlying hu, p0, p1, p2, p3, p4, c]
theorem check_frame (w : World) (em : Bool) (a : Fr) : (Instr.checkKey em 10000 33 a.val).run Try.prog w = .ok () w := check_any w em 9998 a

/-- what is looked up -/
theorem run_look (w : World) (m clock : Nat) (es : Array MapEntry) (T : List Fr) (a : Fr) (hm : w.heap[m]? = some (.map es clock)) (h : es.toList.map (fun e => (e.key, e.val)) = ents 0 T) :
    (Instr.lookup 54 (.map (some m)) a.val true).run Try.prog w = .ok (.tuple #[.int .i64 (if a ∈ T then (T.idxOf a : Int) + 1 else 0), .bool (decide (a ∈ T))]) w := by
  have hu := Try.underlying54
  have hz : (zeroValue 3).run Try.prog w = .ok (.int .i64 0) w := by kernel_rfl
  simp [Instr.lookup, run_underlying hu, MapKept.run_getObj_map hm, check_frame, find_frames w a es.toList T h]
  by_cases hc : a ∈ T
  · simp [hc]
  · simp [hc, hz]
/-- what is written that was not there -/
theorem run_write (w : World) (m clock : Nat) (es : Array MapEntry) (T : List Fr) (a : Fr) (v : Value) (hm : w.heap[m]? = some (.map es clock)) (h : es.toList.map (fun e => (e.key, e.val)) = ents 0 T) (hn : a ∉ T) :
    (Instr.mapUpdate 54 (.map (some m)) a.val v).run Try.prog w = .ok () (ChangeMaps.setBlock w m (.map (es.push { key := a.val, val := v, born := clock }) (clock + 1))) := by
  have hu := Try.underlying54
  simp [Instr.mapUpdate, run_underlying hu, MapKept.run_getObj_map hm, check_frame, find_frames w a es.toList T h, hn, MapKept.run_setObj_map _ hm, ChangeMaps.setBlock]
end Go.Proofs.Ytajflmpdpggcgaa.FKey
