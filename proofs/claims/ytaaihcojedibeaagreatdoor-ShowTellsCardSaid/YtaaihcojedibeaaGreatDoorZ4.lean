import Derived.Test.YtaaihcojedibeaaGreatDoorZ0
import Derived.Laws.CopyOwn
import Derived.Lib.ItoaLen
import Derived.Test.YtaaihcojedibeaaGreatDoorProg
import Derived.Test.YtaaihcojedibeaaGreatDoorQRa
section
/- The groups of a tree, as they begin; plain. -/
namespace Go.Proofs.YtaaihcojedibeaaGreatDoor.DGrp
set_option maxRecDepth 100000
open CMem DRow DDeep DRFits DSizes DFits DLens DSpec Q
set_option linter.unusedVariables false
set_option linter.unusedSimpArgs false
/-- the groups of a node's tree, ahead of those within -/
def gif (L : List S49) : Nat → Int → List Nat
  | 0, _ => []
  | f + 1, i => (if (rd_T49 L i).f0 = 11 then [i.toNat] else []) ++ (if kd (rd_T49 L i).f0 = 0 then [] else if kd (rd_T49 L i).f0 = 1 then gif L f (rd_T49 L i).f1 else gif L f (rd_T49 L i).f1 ++ gif L f (rd_T49 L i).f2)
def gi (L : List S49) (i : Nat) : List Nat := gif L (i + 1) i
theorem gif_fuel (L : List S49) (j : Nat) (hw : ∀ i, i < j → Wf L i) : ∀ (i : Nat) (f g : Nat), i < j → i < f → i < g → gif L f i = gif L g i := by
  intro i
  induction i using Nat.strongRecOn with
  | ind i ih =>
    intro f g hi hf hg
    obtain ⟨f, rfl⟩ : ∃ k, f = k + 1 := ⟨f - 1, by omega⟩
    obtain ⟨g, rfl⟩ : ∃ k, g = k + 1 := ⟨g - 1, by omega⟩
    unfold gif
    rcases wf_kids (hw i hi) with hk | ⟨a, h1, h2, hk⟩ | ⟨a, b, h1, h2, h3, h4, hk⟩
    · rw [if_pos hk, if_pos hk]
    · rw [if_neg (show ¬ kd (rd_T49 L i).f0 = 0 by omega), if_pos hk, if_neg (show ¬ kd (rd_T49 L i).f0 = 0 by omega), if_pos hk, h1, ih a h2 f g (by omega) (by omega) (by omega)]
    · rw [h1, h2, ih a h3 f g (by omega) (by omega) (by omega), ih b h4 f g (by omega) (by omega) (by omega)]
theorem gi_eq (L : List S49) (j : Nat) (hw : ∀ i, i < j → Wf L i) (i : Nat) (hi : i < j) :
    (kd (rd_T49 L i).f0 = 0 ∧ gi L i = []) ∨
    (∃ a : Nat, kd (rd_T49 L i).f0 = 1 ∧ (rd_T49 L i).f1 = (a : Int) ∧ a < i ∧ gi L i = (if (rd_T49 L i).f0 = 11 then [i] else []) ++ gi L a) ∨
    (∃ a b : Nat, kd (rd_T49 L i).f0 = 2 ∧ (rd_T49 L i).f1 = (a : Int) ∧ (rd_T49 L i).f2 = (b : Int) ∧ a < i ∧ b < i ∧ gi L i = gi L a ++ gi L b) := by
  have hd : gi L i = gif L (i + 1) i := rfl
  have hn : ∀ k, kd k = 0 ∨ kd k = 2 → k ≠ 11 := by
    rintro k h rfl
    have : kd 11 = 1 := rfl
    omega
  unfold gif at hd
  rw [Int.toNat_natCast] at hd
  rcases wf_kids (hw i hi) with hk | ⟨a, h1, h2, hk⟩ | ⟨a, b, h1, h2, h3, h4, hk⟩
  · rw [if_pos hk, if_neg (hn _ (.inl hk))] at hd
    exact .inl ⟨hk, hd⟩
  · rw [if_neg (show ¬ kd (rd_T49 L i).f0 = 0 by omega), if_pos hk, h1, gif_fuel L j hw a i (a + 1) (by omega) h2 (by omega)] at hd
    exact .inr (.inl ⟨a, hk, h1, h2, hd⟩)
  · rw [if_neg (show ¬ kd (rd_T49 L i).f0 = 0 by omega), if_neg (show ¬ kd (rd_T49 L i).f0 = 1 by omega), if_neg (hn _ (.inr hk)), h1, h2, gif_fuel L j hw a i (a + 1) (by omega) h3 (by omega), gif_fuel L j hw b i (b + 1) (by omega) h4 (by omega)] at hd
    exact .inr (.inr ⟨a, b, hk, h1, h2, h3, h4, hd⟩)
/-- a tree within a tree begins no earlier -/
theorem nested (L : List S49) (j : Nat) (hw : ∀ i, i < j → Wf L i) : ∀ i, i < j → ∀ m : Nat, m ≤ i → (i : Int) - sz L i < (m : Int) → (i : Int) - sz L i ≤ (m : Int) - sz L m := by
  intro i
  induction i using Nat.strongRecOn with
  | ind i ih =>
    intro hi m hm hlo
    by_cases e : m = i
    · rw [e]; exact Int.le_refl _
    · rcases (hw i hi).2 with ⟨_, _, _, h3⟩ | ⟨q, rfl, hk, hf1, hf2, h1, h2⟩ | ⟨q, p, rfl, hp, hk, hf1, hf2, h1, h2, h3⟩
      · omega
      · have := ih q (by omega) (by omega) m (by omega) (by omega)
        omega
      · by_cases hmq : (q : Int) - sz L q < (m : Int)
        · have := ih q (by omega) (by omega) m (by omega) hmq
          omega
        · have := ih p (by omega) (by omega) m (by omega) (by omega)
          omega
theorem gi_mem (L : List S49) (j : Nat) (hw : ∀ i, i < j → Wf L i) : ∀ i, i < j → ∀ m : Nat, m ∈ gi L i ↔ (m ≤ i ∧ (i : Int) - sz L i < (m : Int) ∧ (rd_T49 L m).f0 = 11) := by
  intro i
  induction i using Nat.strongRecOn with
  | ind i ih =>
    intro hi m
    rcases (hw i hi).2 with ⟨hk, _, _, h3⟩ | ⟨q, rfl, hk, hf1, hf2, h1, h2⟩ | ⟨q, p, rfl, hp, hk, hf1, hf2, h1, h2, h3⟩
    · rcases gi_eq L j hw i hi with ⟨_, h⟩ | ⟨a, h0, _⟩ | ⟨a, b, h0, _⟩
      · rw [h]
        constructor
        · intro h; cases h
        · rintro ⟨a, b, c⟩
          obtain rfl : m = i := by omega
          rw [c] at hk
          exact absurd hk (by decide)
      · omega
      · omega
    · rcases gi_eq L j hw _ hi with ⟨h0, h⟩ | ⟨a, h0, ha, hlt, h⟩ | ⟨a, b, h0, _⟩
      · omega
      · obtain rfl : a = q := by omega
        rw [h, List.mem_append, ih a (by omega) (by omega) m]
        constructor
        · rintro (h | ⟨h4, h5, h6⟩)
          · split at h
            · rename_i hc
              obtain rfl := List.mem_singleton.1 h
              exact ⟨Nat.le_refl _, by omega, hc⟩
            · cases h
          · exact ⟨by omega, by omega, h6⟩
        · rintro ⟨h4, h5, h6⟩
          by_cases e : m = a + 1
          · subst e
            left
            rw [if_pos h6]
            exact List.mem_singleton.2 rfl
          · exact .inr ⟨by omega, by omega, h6⟩
      · omega
    · rcases gi_eq L j hw _ hi with ⟨h0, h⟩ | ⟨a, h0, ha, hlt, h⟩ | ⟨a, b, h0, ha, hb, _, _, h⟩
      · omega
      · omega
      · obtain rfl : a = p := by omega
        obtain rfl : b = q := by omega
        rw [h, List.mem_append, ih a (by omega) (by omega) m, ih b (by omega) (by omega) m]
        constructor
        · rintro (⟨h4, h5, h6⟩ | ⟨h4, h5, h6⟩)
          · exact ⟨by omega, by omega, h6⟩
          · exact ⟨by omega, by omega, h6⟩
        · rintro ⟨h4, h5, h6⟩
          by_cases e : m = b + 1
          · subst e
            rw [h6] at hk
            exact absurd hk (by decide)
          · by_cases hmq : (b : Int) - sz L b < (m : Int)
            · exact .inr ⟨by omega, hmq, h6⟩
            · exact .inl ⟨by omega, by omega, h6⟩
/-- begins ahead of, or around -/
def glt (L : List S49) (a b : Nat) : Prop := (a : Int) - sz L a < (b : Int) - sz L b ∨ ((a : Int) - sz L a = (b : Int) - sz L b ∧ sz L b < sz L a)
theorem gi_sorted (L : List S49) (j : Nat) (hw : ∀ i, i < j → Wf L i) : ∀ i, i < j → (gi L i).Pairwise (glt L) := by
  intro i
  induction i using Nat.strongRecOn with
  | ind i ih =>
    intro hi
    rcases (hw i hi).2 with ⟨hk, _, _, h3⟩ | ⟨q, rfl, hk, hf1, hf2, h1, h2⟩ | ⟨q, p, rfl, hp, hk, hf1, hf2, h1, h2, h3⟩
    · rcases gi_eq L j hw i hi with ⟨_, h⟩ | ⟨a, h0, _⟩ | ⟨a, b, h0, _⟩
      · rw [h]; exact List.Pairwise.nil
      · omega
      · omega
    · rcases gi_eq L j hw _ hi with ⟨h0, h⟩ | ⟨a, h0, ha, hlt, h⟩ | ⟨a, b, h0, _⟩
      · omega
      · obtain rfl : a = q := by omega
        rw [h, List.pairwise_append]
        refine ⟨by split <;> simp, ih a (by omega) (by omega), fun x hx y hy => ?_⟩
        split at hx
        · obtain rfl := List.mem_singleton.1 hx
          obtain ⟨h4, h5, h6⟩ := (gi_mem L j hw a (by omega) y).1 hy
          have := nested L j hw _ hi y (by omega) (by omega)
          unfold glt
          by_cases e : ((a + 1 : Nat) : Int) - sz L (a + 1) < (y : Int) - sz L y
          · exact .inl e
          · exact .inr ⟨by omega, by omega⟩
        · cases hx
      · omega
    · rcases gi_eq L j hw _ hi with ⟨h0, h⟩ | ⟨a, h0, ha, hlt, h⟩ | ⟨a, b, h0, ha, hb, _, _, h⟩
      · omega
      · omega
      · obtain rfl : a = p := by omega
        obtain rfl : b = q := by omega
        rw [h, List.pairwise_append]
        refine ⟨ih a (by omega) (by omega), ih b (by omega) (by omega), fun x hx y hy => ?_⟩
        obtain ⟨h4, h5, h6⟩ := (gi_mem L j hw a (by omega) x).1 hx
        obtain ⟨h7, h8, h9⟩ := (gi_mem L j hw b (by omega) y).1 hy
        have n1 := nested L j hw b (by omega) y h7 h8
        have n2 := wf_pos (hw x (by omega))
        have n3 := wf_pos (hw y (by omega))
        unfold glt
        exact .inl (by omega)
theorem glt_irrefl (L : List S49) (a : Nat) : ¬ glt L a a := by unfold glt; omega
theorem gi_nodup (L : List S49) (j : Nat) (hw : ∀ i, i < j → Wf L i) (i : Nat) (hi : i < j) : (gi L i).Nodup :=
  (gi_sorted L j hw i hi).imp (fun {a b} h e => by subst e; exact glt_irrefl L a h)
/-- the nodes that are groups, as they stand -/
def gall (L : List S49) : List Nat := (List.range L.length).filter fun i => (rd_T49 L i).f0 == 11
theorem gall_perm {L : List S49} (h : ord L = true) : (gall L).Perm (gi L (L.length - 1)) := by
  have hw := fun i (hi : i < L.length) => ord_wf h i hi
  simp only [ord, Bool.and_eq_true, decide_eq_true_eq, beq_iff_eq] at h
  refine (List.perm_ext_iff_of_nodup (List.nodup_range.filter _) (gi_nodup L _ hw _ (by omega))).2 fun m => ?_
  rw [gi_mem L _ hw _ (by omega)]
  rw [List.mem_filter, List.mem_range, beq_iff_eq]
  constructor
  · rintro ⟨h1, h2⟩
    exact ⟨by omega, by omega, h2⟩
  · rintro ⟨h1, h2, h3⟩
    exact ⟨by omega, h3⟩
/-- what is sorted so is just that -/
theorem sorted_uniq {L : List S49} (h : ord L = true) (l : List Nat) (hp : (gall L).Perm l) (hs : l.Pairwise fun a b => ¬ glt L b a) : l = gi L (L.length - 1) := by
  have hw := fun i (hi : i < L.length) => ord_wf h i hi
  have hg := gall_perm h
  have hlen : 0 < L.length := by
    simp only [ord, Bool.and_eq_true, decide_eq_true_eq, beq_iff_eq] at h
    omega
  refine List.Perm.eq_of_pairwise (le := fun a b => ¬ glt L b a) (fun a b ha hb h1 h2 => ?_) hs ((gi_sorted L _ hw _ (by omega)).imp fun {a b} hab hba => ?_) (hp.symm.trans hg)
  · unfold glt at h1 h2
    by_cases e1 : (a : Int) - sz L a = (b : Int) - sz L b
    · omega
    · omega
  · unfold glt at hab hba
    omega
end Go.Proofs.YtaaihcojedibeaaGreatDoor.DGrp
end
section
/- Rows of nodes that a call makes: made, copied, stored. -/
namespace Go.Proofs.YtaaihcojedibeaaGreatDoor.DRowN
set_option maxRecDepth 100000
open Go.RowKit CMem DRow DDeep DSizes Q Go.Proofs.YtaaihcojedibeaaGreatDoorW.PrintWords Go.Proofs.YtaaihcojedibeaaGreatDoorW.PrintLast Go.Proofs.YtaaihcojedibeaaGreatDoorW.PrintMore
set_option linter.unusedVariables false
set_option linter.unusedSimpArgs false
/-- a row of nodes -/
def ra : List S49 → List Value
  | [] => []
  | x :: xs => (nc x).toList ++ ra xs
theorem nc_len (x : S49) : (nc x).toList.length = 12 := rfl
theorem ra_length : ∀ xs : List S49, (ra xs).length = 12 * xs.length
  | [] => rfl
  | x :: xs => by rw [ra, List.length_append, nc_len, ra_length xs, List.length_cons]; omega
theorem ra_append : ∀ xs ys : List S49, ra (xs ++ ys) = ra xs ++ ra ys
  | [], ys => rfl
  | x :: xs, ys => by rw [List.cons_append, ra, ra_append xs ys, ra, List.append_assoc]
theorem ra_at : ∀ (xs : List S49) (i j : Nat) (x : S49), xs[i]? = some x → j < 12 → (ra xs)[i * 12 + j]? = (nc x).toList[j]?
  | [], i, j, x, h, _ => by simp at h
  | y :: xs, 0, j, x, h, hj => by
    rw [List.getElem?_cons_zero, Option.some.injEq] at h
    subst h
    rw [ra, Nat.zero_mul, Nat.zero_add, List.getElem?_append_left (by rw [nc_len]; exact hj)]
  | y :: xs, i + 1, j, x, h, hj => by
    rw [List.getElem?_cons_succ] at h
    rw [ra, List.getElem?_append_right (by rw [nc_len]; omega), nc_len, show (i + 1) * 12 + j - 12 = i * 12 + j by omega]
    exact ra_at xs i j x h hj
theorem ra_one : ∀ (xs : List S49), ∀ v ∈ ra xs, v.oneCell' = true
  | [], v, h => by simp [ra] at h
  | x :: xs, v, h => by
    rw [ra, List.mem_append] at h
    rcases h with h | h
    · simp only [nc, List.mem_cons, List.not_mem_nil, or_false] at h
      rcases h with h | h | h | h | h | h | h | h | h | h | h | h <;> subst h <;> rfl
    · exact ra_one xs v h
theorem ra_drop : ∀ (xs : List S49) (n : Nat), (ra xs).drop (12 * n) = ra (xs.drop n)
  | [], n => by simp [ra]
  | x :: xs, 0 => rfl
  | x :: xs, n + 1 => by
    rw [ra, List.drop_succ_cons, ← ra_drop xs n, List.drop_append, nc_len, List.drop_eq_nil_of_le (by rw [nc_len]; omega), List.nil_append, show 12 * (n + 1) - 12 = 12 * n by omega]
theorem ra_take : ∀ (xs : List S49) (n : Nat), (ra xs).take (12 * n) = ra (xs.take n)
  | [], n => by simp [ra]
  | x :: xs, 0 => rfl
  | x :: xs, n + 1 => by
    rw [ra, List.take_succ_cons, ra, ← ra_take xs n, List.take_append, nc_len, List.take_of_length_le (by rw [nc_len]; omega), show 12 * (n + 1) - 12 = 12 * n by omega]
/-- a row that lies is read -/
theorem ra_cell {w : World} {p : Nat} {xs : List S49} {t : TypeId} (h : w.heap[p]? = some (.cells (ra xs).toArray t (0, 0))) {i j : Nat} {x : S49} {v : Value} (hx : xs[i]? = some x) (hv : (nc x).toList[j]? = some v) : w.cell? ⟨p, i * 12 + j, none⟩ = some v := by
  have hj : j < 12 := by
    rcases Nat.lt_or_ge j 12 with h | h
    · exact h
    · rw [List.getElem?_eq_none (by rw [nc_len]; exact h)] at hv; cases hv
  refine blk_cell h _ _ ?_
  rw [List.getElem?_toArray, ra_at xs i j x hx hj, hv]
theorem ra_C {w : World} {p n : Nat} {xs : List S49} (hn : xs.length = n) (h : w.heap[p]? = some (.cells (ra xs).toArray 49 (0, 0))) (hm : n ≤ 1000) : Kd.C k49 w (some ⟨p, 0, none⟩) n xs := by
  refine ⟨hn, by omega, fun _ => ⟨_, rfl, fun j x hj => ⟨(nc x).toList, nc_len x, k49_mk w x, fun i u hu => ?_⟩⟩⟩
  have hc := ra_cell h hj hu
  have hadd : (⟨p, 0, none⟩ : Addr).add (j * 12 + i) = ⟨p, j * 12 + i, none⟩ := by unfold Addr.add; split <;> simp_all
  show w.cell? ((⟨p, 0, none⟩ : Addr).add (j * 12 + i)) = some u
  rw [hadd]
  exact hc
/-- a row of zero nodes is made -/
theorem made_ra (m : Nat) : madeCells (nc z49) (m * 12) = (ra (List.replicate m z49)).toArray := by
  apply Array.ext_getElem?
  intro k
  by_cases hk : k < m * 12
  · have hz : (List.replicate m z49)[k / 12]? = some z49 := by rw [List.getElem?_replicate, if_pos (by omega)]
    have h1 := ra_at _ (k / 12) (k % 12) z49 hz (Nat.mod_lt _ (by omega))
    rw [show k / 12 * 12 + k % 12 = k by omega] at h1
    have h2 : k % 12 < (nc z49).size := Nat.mod_lt _ (by decide)
    have e1 : (madeCells (nc z49) (m * 12))[k]? = some ((nc z49)[k % 12]!) := by
      unfold madeCells
      rw [Array.getElem?_map, Array.getElem?_range, if_pos hk]
      rfl
    have e2 : (ra (List.replicate m z49)).toArray[k]? = some ((nc z49)[k % 12]!) := by
      rw [List.getElem?_toArray, h1, getElem!_pos (nc z49) _ h2, Array.getElem?_toList, Array.getElem?_eq_getElem h2]
    rw [e1, e2]
  · have e1 : (madeCells (nc z49) (m * 12)).size ≤ k := by rw [size_madeCells]; omega
    have e2 : (ra (List.replicate m z49)).toArray.size ≤ k := by rw [List.size_toArray, ra_length, List.length_replicate]; omega
    rw [Array.getElem?_eq_none e1, Array.getElem?_eq_none e2]
theorem make_nodes (n m : Nat) (hn : n ≤ m) (hm : m ≤ 1001) (W : World) :
    (Instr.makeSlice 22 (.int .i64 (n : Int)) (.int .i64 (m : Int))).run Tryz.prog W = .ok (.slice (some ⟨W.heap.size, 0, none⟩) n m) (W.alloc (.cells (ra (List.replicate m z49)).toArray 49)) := by
  obtain ⟨i0, hi, hz0, hz1, hz2⟩ := info_parts info49
  have hr := run_make (P := Tryz.prog) W 22 49 i0 _ Tryz.underlying22 hi hz0 .i64 .i64 (n : Int) (m : Int) (by omega) (by omega) (by rw [hz2]; omega) (by omega)
  rw [hr, hz1, Int.toNat_natCast, Int.toNat_natCast, ← made_ra]
  rfl
theorem run_copy_k (P : Program) (w : World) (dT sT ty elem : TypeId) (k n g o dLen dCap : Nat) (a : Addr) (sLen sCap : Nat) (cur : Array Value) (t : TypeId) (cs : List Value)
    (hu : P.underlying dT = some (.slice elem)) (hs : (P.info? elem).map (·.size) = some k)
    (hg : w.heap[g]? = some (.cells cur t (0, 0))) (hk : cs.length = n * k) (hn : n = Nat.min sLen dLen)
    (hsrc : ∀ j v, cs[j]? = some v → w.cell? (a.add j) = some v) (hfit : o + cs.length ≤ cur.size) (h1 : ∀ v ∈ cs, v.oneCell' = true) :
    (Builtin.copy_ #[dT, sT] ty #[.slice (some ⟨g, o, none⟩) dLen dCap, .slice (some a) sLen sCap]).run P w =
      .ok (goInt n) (w.setRow g (cur.toList.take o ++ cs ++ cur.toList.drop (o + cs.length)).toArray) := by
  have hl := run_loadCells_list (P := P) w a cs hsrc
  have hst := run_storeCells_at P g o t cs 0 cur w hg (by simpa using hfit) h1
  rw [hk] at hl
  cases hq : P.info? elem with
  | none => simp [hq] at hs
  | some i =>
    have hi : i.size = k := by simpa [hq] using hs
    simp [Builtin.copy_, run_underlying hu, Builtin.lenOf, Builtin.firstCells, sizeOf, typeInfo, hq, hi, ← hn, hl, hst]
/-- nodes that came in are copied over a row's first ones -/
theorem copy_nodes (w : World) (g n dCap : Nat) (A : Option Addr) (c d : Nat) (ys L : List S49) (hL : Kd.C k49 w A n L) (hnd : n ≤ d) (hdy : d ≤ ys.length)
    (hg : w.heap[g]? = some (.cells (ra ys).toArray 49 (0, 0))) :
    (Builtin.copy_ #[22, 22] 3 #[.slice (some ⟨g, 0, none⟩) d dCap, .slice A n c]).run Tryz.prog w = .ok (.int .i64 (n : Int)) (w.setRow g (ra (L ++ ys.drop n)).toArray) := by
  have hlen : L.length = n := hL.1
  have hi : (Tryz.prog.info? 49).map (·.size) = some 12 := by kernel_rfl
  have hw : goInt n = .int .i64 (n : Int) := rfl
  have hfin : ∀ k : Nat, k = (ra L).length → ((ra ys).toArray.toList.take 0 ++ ra L ++ (ra ys).toArray.toList.drop (0 + k)) = ra (L ++ ys.drop n) := by
    intro k hk
    rw [List.take_zero, List.nil_append, Nat.zero_add, hk, ra_length, hlen, ra_append, ← ra_drop]
  rcases Nat.eq_zero_or_pos n with h0 | h0
  · subst h0
    have hl : L = [] := List.length_eq_zero_iff.1 hlen
    subst hl
    rw [List.nil_append, List.drop_zero, setRow_self w g _ _ _ hg]
    have hu : Tryz.prog.underlying 22 = some (.slice 49) := Tryz.underlying22
    have hl := run_loadCells_list (P := Tryz.prog) w
    cases hq : Tryz.prog.info? 49 with
    | none => simp [hq] at hi
    | some i =>
      cases A with
      | none => simp [Builtin.copy_, run_underlying hu, Builtin.lenOf, Builtin.firstCells, sizeOf, typeInfo, hq, storeCells]; rfl
      | some ad =>
        have h0 := hl ad [] (fun j v h => by simp at h)
        simp at h0
        simp [Builtin.copy_, run_underlying hu, Builtin.lenOf, Builtin.firstCells, sizeOf, typeInfo, hq, storeCells, h0]; rfl
  · obtain ⟨ad, rfl, hc⟩ := hL.2.2 h0
    have h := run_copy_k Tryz.prog w 22 22 3 49 12 n g 0 d dCap ad n c _ _ (ra L) Tryz.underlying22 hi hg (by rw [ra_length, hlen]; omega) (Nat.min_eq_left hnd).symm (fun j v hv => ?_) (by rw [List.size_toArray, ra_length, ra_length]; omega) (ra_one L)
    · rw [h, hfin _ rfl, hw]
    · have hj : j < 12 * n := by
        rcases Nat.lt_or_ge j (12 * n) with h | h
        · exact h
        · rw [List.getElem?_eq_none (by rw [ra_length, hlen]; exact h)] at hv; cases hv
      obtain ⟨x, hx⟩ : ∃ x, L[j / 12]? = some x := ⟨_, List.getElem?_eq_getElem (by omega)⟩
      obtain ⟨cs, _, hk, hcell⟩ := hc (j / 12) _ hx
      have hk2 : cs = (nc x).toList := k49_open hk
      subst hk2
      have h1 := ra_at L (j / 12) (j % 12) _ hx (Nat.mod_lt _ (by omega))
      rw [show j / 12 * 12 + j % 12 = j by omega, hv] at h1
      have h2 := hcell (j % 12) v h1.symm
      have e : j / 12 * k49.sz + j % 12 = j := by show j / 12 * 12 + j % 12 = j; omega
      rw [e] at h2
      exact h2
end Go.Proofs.YtaaihcojedibeaaGreatDoor.DRowN
end
section
/- ast.Wrap: its walk. -/
namespace Go.Proofs.YtaaihcojedibeaaGreatDoor.DWrap
open Go.RowKit CMem DRow DDeep DSizes DRowN Q Go.Proofs.YtaaihcojedibeaaGreatDoorW.PrintWords Go.Proofs.YtaaihcojedibeaaGreatDoorW.PrintLast Go.Proofs.YtaaihcojedibeaaGreatDoorW.PrintMore
set_option linter.unusedVariables false
set_option linter.unusedSimpArgs false
set_option maxRecDepth 100000
theorem alloc_setRow (W : World) (a b : Array Value) (t : TypeId) : (W.alloc (.cells a t)).setRow W.heap.size b = W.alloc (.cells b t) := by
  unfold World.setRow World.alloc
  congr 1
  apply Array.ext_getElem?
  intro k
  simp only [Array.getElem?_modify, Array.getElem?_push]
  by_cases h : W.heap.size = k
  · subst h; simp
  · rw [if_neg h, if_neg (fun e => h e.symm), if_neg (fun e => h e.symm)]
theorem new3 (w : World) (a b o : Obj) : (((w.alloc a).alloc b).alloc o).heap[w.heap.size + 1 + 1]? = some o := by
  have h := heap_alloc_new ((w.alloc a).alloc b) o
  rwa [show ((w.alloc a).alloc b).heap.size = w.heap.size + 1 + 1 by simp] at h
theorem new4 (w : World) (a b c o : Obj) : ((((w.alloc a).alloc b).alloc c).alloc o).heap[w.heap.size + 1 + 1 + 1]? = some o := by
  have h := heap_alloc_new (((w.alloc a).alloc b).alloc c) o
  rwa [show (((w.alloc a).alloc b).alloc c).heap.size = w.heap.size + 1 + 1 + 1 by simp] at h
theorem hold {p : Prop} (h : Hid p) : p := h.out
/-- a row that the call made, as append's law asks it -/
theorem own_ra {w : World} {base p n cap : Nat} {xs zs : List S49} (hb : base ≤ p) (hn : xs.length = n) (hc : (xs ++ zs).length = cap) (hcap : cap ≤ 1001) (h : w.heap[p]? = some (.cells (ra (xs ++ zs)).toArray 49 (0, 0))) :
    w.ownsRow base 49 12 (.slice (some ⟨p, 0, none⟩) n cap) n (ra xs) := by
  rw [List.length_append] at hc
  refine ⟨by rw [ra_length, hn]; omega, .inr ⟨p, cap, (ra (xs ++ zs)).toArray, rfl, hb, h, by omega, by unfold maxLen; omega, by rw [List.size_toArray, ra_length, List.length_append]; omega, ?_⟩⟩
  rw [show (ra (xs ++ zs)).toArray.toList = ra (xs ++ zs) from rfl, ra_append, List.take_append_of_le_length (by rw [ra_length, hn]; omega), List.take_of_length_le (by rw [ra_length, hn]; omega)]
theorem own_C {w : World} {base n : Nat} {v : Value} {xs : List S49} (hn : xs.length = n) (hm : n ≤ 1001) (h : w.ownsRow base 49 12 v n (ra xs)) : ∃ A c, v = .slice A n c ∧ n ≤ c ∧ Kd.C k49 w A n xs := by
  rcases h.2 with ⟨rfl, h0⟩ | ⟨g, cap, cur, rfl, hg, hh, h1, h2, h3, h4⟩
  · obtain rfl : n = 0 := h0
    exact ⟨none, 0, rfl, Nat.le_refl _, hn, by omega, fun h => absurd h (Nat.lt_irrefl _)⟩
  · refine ⟨_, cap, rfl, h1, hn, by omega, fun _ => ⟨_, rfl, fun j x hj => ⟨(nc x).toList, nc_len x, k49_mk w x, fun i u hu => ?_⟩⟩⟩
    have hi : i < 12 := by
      rcases Nat.lt_or_ge i 12 with h | h
      · exact h
      · rw [List.getElem?_eq_none (by rw [nc_len]; exact h)] at hu; cases hu
    have hjl := (List.getElem?_eq_some_iff.1 hj).1
    have hadd : (⟨g, 0, none⟩ : Addr).add (j * 12 + i) = ⟨g, j * 12 + i, none⟩ := by unfold Addr.add; split <;> simp_all
    show w.cell? ((⟨g, 0, none⟩ : Addr).add (j * 12 + i)) = some u
    rw [hadd]
    refine blk_cell hh _ _ ?_
    have h5 := ra_at xs j i x hj hi
    rw [← h4, List.getElem?_take, if_pos (by omega), Array.getElem?_toList] at h5
    rw [h5, hu]
theorem wpList_copy_nodes {w : World} {ops : Array Oper} {rest : List Oper} {o : Oper} {a : Act} {Q : Exit → Act → World → Prop} (hgd : o.guard = none) (d s : Operand)
    (ho : o.op = .call { callee := .builtin .copy, args := #[d, s], argTypes := #[22, 22] }) (hty : o.type = 3) (g n dLen dCap c : Nat) (A : Option Addr) (hd : a.eval d = .slice (some ⟨g, 0, none⟩) dLen dCap) (hs : a.eval s = .slice A n c) (ys L : List S49)
    (hg : w.heap[g]? = some (.cells (ra ys).toArray 49 (0, 0))) (hL : Kd.C k49 w A n L) (hnd : n ≤ dLen) (hdy : dLen ≤ ys.length) (B : Nat) (w0 : World) (hB : Below B w0 w) (hBg : B ≤ g)
    (h : ∀ w', w'.heap[g]? = some (.cells (ra (L ++ ys.drop n)).toArray 49 (0, 0)) → (∀ k, k ≠ g → w'.heap[k]? = w.heap[k]?) → w'.heap.size = w.heap.size → Below B w0 w' → wpList Tryz.prog ops Q rest (a.put o.dst (.int .i64 (n : Int))) w') :
    wpList Tryz.prog ops Q (o :: rest) a w := by
  refine wpList_plain hgd fun K hK => ?_
  have hrun := copy_nodes w g n dCap A c dLen ys L hL hnd hdy hg
  unfold Oper.wp
  simp [execOp, ho, resolve, invoke, builtin, hd, hs, hty, hrun, Result.andThen]
  exact hK _ _ (h _ (setRow_heap w g _ _ _ _ hg) (fun k hk => setRow_other w g k _ hk) (by simp [World.setRow]) (below_setRow hB hBg _))
set_option maxHeartbeats 6400000 in
theorem wrap_calls (A : Option Addr) (c : Nat) (L : List S49) (n : Nat) (hn : L.length = n) (hn2 : n ≤ 999) (k xa xb s0 s1 s2 s3 mi ma mo nn : Int) (fo : Bool) (w : World) (hr : Kd.C k49 w A n L) :
    Calls Tryz.prog 25 #[.agg #[.slice A n c], .agg #[.int .i64 k, .int .i64 xa, .int .i64 xb, .int .u64 s0, .int .u64 s1, .int .u64 s2, .int .u64 s3, .int .i64 mi, .int .i64 ma, .int .i64 mo, .int .i64 nn, .bool fo]] w fun e w' =>
      (∃ v, e = .returned (.agg #[v]) ∧ w'.ownsRow w.heap.size 49 12 v (n + 1) (ra (L ++ [⟨k, (n : Int) - 1, 0, ⟨⟨s0, s1, s2, s3⟩⟩, mi, ma, mo, nn, fo⟩]))) ∧ Below w.heap.size w w' := by
  have BT := blk_alloc (blk_alloc (heap_alloc_new w (.cells #[.slice A n c] 24)) (.cells #[.int .i64 k, .int .i64 xa, .int .i64 xb, .int .u64 s0, .int .u64 s1, .int .u64 s2, .int .u64 s3, .int .i64 mi, .int .i64 ma, .int .i64 mo, .int .i64 nn, .bool fo] 49)) (.cells #[.slice none 0 0] 24)
  have BN := blk_alloc (blk2 w (.cells #[.slice A n c] 24) #[.int .i64 k, .int .i64 xa, .int .i64 xb, .int .u64 s0, .int .u64 s1, .int .u64 s2, .int .u64 s3, .int .i64 mi, .int .i64 ma, .int .i64 mo, .int .i64 nn, .bool fo] 49) (.cells #[.slice none 0 0] 24)
  have BR := new3 w (.cells #[.slice A n c] 24) (.cells #[.int .i64 k, .int .i64 xa, .int .i64 xb, .int .u64 s0, .int .u64 s1, .int .u64 s2, .int .u64 s3, .int .i64 mi, .int .i64 ma, .int .i64 mo, .int .i64 nn, .bool fo] 49) (.cells #[.slice none 0 0] 24)
  have HB := below3 w (.cells #[.slice A n c] 24) (.cells #[.int .i64 k, .int .i64 xa, .int .i64 xb, .int .u64 s0, .int .u64 s1, .int .u64 s2, .int .u64 s3, .int .i64 mi, .int .i64 ma, .int .i64 mo, .int .i64 nn, .bool fo] 49) (.cells #[.slice none 0 0] 24)
  have mk : ∀ W : World, (Instr.makeSlice 22 (.int .i64 (n : Int)) (.int .i64 ((n : Int) + 1))).run Tryz.prog W = .ok (.slice (some ⟨W.heap.size, 0, none⟩) n (n + 1)) (W.alloc (.cells (ra (List.replicate (n + 1) z49)).toArray 49)) := fun W => make_nodes n (n + 1) (by omega) (by omega) W
  obtain ⟨Z, hZ⟩ : ∃ Z, List.replicate (n + 1) z49 = Z := ⟨_, rfl⟩
  have hZd : Z.drop n = [z49] := by rw [← hZ]; simp
  have hZl : Z.length = n + 1 := by rw [← hZ]; simp
  rw [hZ] at mk
  have BT2 := Lib.hid (fun o => blk_alloc BT o)
  have BN2 := Lib.hid (fun o => blk_alloc BN o)
  have BR2 := Lib.hid (fun o => blk_alloc BR o)
  have HB2 := Lib.hid (fun o => HB.alloc HB.size o)
  have HC := Lib.hid (fun W h => Kd.C_below (w1 := W) hr h)
  have HZd := Lib.hid hZd
  have HZl := Lib.hid hZl
  clear BT BN BR HB hr hZ hZd hZl
  go_enter Tryz.func25, Tryz.ntmps25
  go_wp2_with ((with_reducible show wpList _ _ _ (⟨some 17, _, _, _, _, _⟩ :: _) _ _); refine hold ?_)
  refine Lib.hid ?_
  refine wpList_copy_nodes rfl (.tmp 14) (.tmp 16) rfl rfl (w.heap.size + 1 + 1 + 1) n n (n + 1) c A rfl rfl Z L (new4 _ _ _ _ _) (HC.out _ (HB2.out _)) (Nat.le_refl _) (HZl.out ▸ Nat.le_succ n) w.heap.size w (HB2.out _) (by omega) ?_
  intro w2 hY hK hsz hb
  have BN3 := Lib.hid ((hK (w.heap.size + 1) (by omega)).trans (BN2.out _))
  have BR3 := Lib.hid ((hK (w.heap.size + 1 + 1) (by omega)).trans (BR2.out _))
  have BY3 := Lib.hid hY
  have HB3 := Lib.hid hb
  have n0 := blk_cell BN3.out 0 (.int .i64 k) rfl
  have n1 := blk_cell BN3.out 1 (.int .i64 xa) rfl
  have n2 := blk_cell BN3.out 2 (.int .i64 xb) rfl
  have n3 := blk_cell BN3.out 3 (.int .u64 s0) rfl
  have n4 := blk_cell BN3.out 4 (.int .u64 s1) rfl
  have n5 := blk_cell BN3.out 5 (.int .u64 s2) rfl
  have n6 := blk_cell BN3.out 6 (.int .u64 s3) rfl
  have n7 := blk_cell BN3.out 7 (.int .i64 mi) rfl
  have n8 := blk_cell BN3.out 8 (.int .i64 ma) rfl
  have n9 := blk_cell BN3.out 9 (.int .i64 mo) rfl
  have n10 := blk_cell BN3.out 10 (.int .i64 nn) rfl
  have n11 := blk_cell BN3.out 11 (.bool fo) rfl
  have f1 := blk_free BN3.out 1
  have f2 := blk_free BN3.out 2
  clear hY hK hsz hb BT2 BN2 BR2 HB2 mk
  go_wp2_with ((with_reducible show wpList _ _ _ (⟨some 26, _, _, _, _, _⟩ :: _) _ _); refine hold ?_)
  refine Lib.hid ?_
  have BY4 := set_other (c := w.heap.size + 1) (i := 2) (v := .int .i64 0) (set_other (c := w.heap.size + 1) (i := 1) (v := .int .i64 ((n : Int) - 1)) BY3.out (by omega)) (by omega)
  have BR4 := set_other (c := w.heap.size + 1) (i := 2) (v := .int .i64 0) (set_other (c := w.heap.size + 1) (i := 1) (v := .int .i64 ((n : Int) - 1)) BR3.out (by omega)) (by omega)
  have HB4 := below_set (b := w.heap.size + 1) (i := 2) (below_set (b := w.heap.size + 1) (i := 1) HB3.out (by omega) (.int .i64 ((n : Int) - 1))) (by omega) (.int .i64 0)
  rw [HZd.out] at BY4
  have HO := own_ra (base := w.heap.size) (cap := n + 1) (show w.heap.size ≤ w.heap.size + 1 + 1 + 1 by omega) hn (by simp [hn]) (by omega) BY4
  have hbs : w.heap.size ≤ ((w2.setCell ⟨w.heap.size + 1, 1, none⟩ (.int .i64 ((n : Int) - 1))).setCell ⟨w.heap.size + 1, 2, none⟩ (.int .i64 0)).heap.size := HB4.size
  have hlt := lt_of_blk BR4
  have BR5 := Lib.hid BR4
  clear BY4 BR4 BN3 BR3 BY3 HB3 n0 n1 n2 n3 n4 n5 n6 n7 n8 n9 n10 n11 f1 f2 HC HZd HZl
  refine print_append_cells w.heap.size rfl (.tmp 23) (.tmp 25) 22 49 _ 12 96 rfl Tryz.underlying22 info49 rfl (by decide) (by decide) (.slice (some ⟨w.heap.size + 1 + 1 + 1, 0, none⟩) n (n + 1)) n (ra L) (nc ⟨k, (n : Int) - 1, 0, ⟨⟨s0, s1, s2, s3⟩⟩, mi, ma, mo, nn, fo⟩).toList rfl ?_ rfl (fun u hu => ?_) HO HB4 hbs (by omega) ?_
  · simp [Act.eval]
  · exact ra_one [⟨k, (n : Int) - 1, 0, ⟨⟨s0, s1, s2, s3⟩⟩, mi, ma, mo, nn, fo⟩] u (by simpa [ra] using hu)
  intro v3 w3 hown hb hg hat
  have BR6 := Lib.hid ((hg.block (w.heap.size + 1 + 1) hlt (by simp [Value.ownBlock])).trans BR5.out)
  have HB6 := Lib.hid hb
  rw [show ra L ++ (nc ⟨k, (n : Int) - 1, 0, ⟨⟨s0, s1, s2, s3⟩⟩, mi, ma, mo, nn, fo⟩).toList = ra (L ++ [⟨k, (n : Int) - 1, 0, ⟨⟨s0, s1, s2, s3⟩⟩, mi, ma, mo, nn, fo⟩]) by rw [ra_append]; simp [ra]] at hown
  obtain ⟨A3, c3, rfl, _, _⟩ := own_C (by simp [hn]) (by omega) hown
  have hne : ∀ j, (Value.slice A3 (n + 1) c3).ownBlock = some j → j ≠ w.heap.size + 1 + 1 := by
    rintro j hj rfl
    rcases hat with h | ⟨b, h, hle⟩
    · rw [h] at hj; simp [Value.ownBlock] at hj
    · rw [h] at hj
      have : b = w.heap.size + 1 + 1 := Option.some.inj hj
      omega
  have HO6 := Lib.hid (own_move (w1 := w3.setCell ⟨w.heap.size + 1 + 1, 0, none⟩ (.slice A3 (n + 1) c3)) hown (fun j hj => Below.heap_setCell w3 ⟨w.heap.size + 1 + 1, 0, none⟩ _ j (hne j hj)))
  have BR7 := Lib.hid (set_blk (i := 0) BR6.out (.slice A3 (n + 1) c3))
  have HB7 := Lib.hid (below_set (b := w.heap.size + 1 + 1) (i := 0) HB6.out (by omega) (.slice A3 (n + 1) c3))
  have r0 := blk_cell BR6.out 0 (.slice none 0 0) rfl
  have f0 := blk_free BR6.out 0
  clear hown hb hg hat HO HB4 hbs hlt BR5 hne BR6 HB6
  go_wp2
  refine bodyPost_ret (results_cell_row rfl _ _ (w.heap.size + 1 + 1) 24 #[.slice A3 (n + 1) c3] (0, 0) _ rfl BR7.out Tryz.underlying24 rfl (by kernel_rfl)) rfl ?_
  exact ⟨⟨_, rfl, HO6.out⟩, HB7.out⟩
end Go.Proofs.YtaaihcojedibeaaGreatDoor.DWrap
end
section
/- clewlaw05.Cut, class.One: their walks. -/
namespace Go.Proofs.YtaaihcojedibeaaGreatDoor.DCut
open Go.RowKit CMem DRow DDeep DSizes DRowN DWrap Q Go.Proofs.YtaaihcojedibeaaGreatDoorW.PrintWords Go.Proofs.YtaaihcojedibeaaGreatDoorW.PrintLast Go.Proofs.YtaaihcojedibeaaGreatDoorW.PrintMore
set_option linter.unusedVariables false
set_option linter.unusedSimpArgs false
set_option maxRecDepth 100000
set_option maxHeartbeats 6400000 in
theorem cut_calls (A : Option Addr) (c n k m : Nat) (hk : k = min n m) (hc : n ≤ c) (hc2 : c ≤ 9223372036854775807) (hm : m ≤ 1000) (w : World) :
    Calls Tryz.prog 4 #[.agg #[.slice A n c], .int .i64 (m : Int)] w fun e w' => (∃ c', e = .returned (.agg #[.slice A k c']) ∧ k ≤ c') ∧ Below w.heap.size w w' := by
  have hmin : (if (m : Int) < (n : Int) then (m : Int) else (n : Int)) = (k : Int) := by split <;> omega
  have hkn : k ≤ n := by omega
  go_enter Tryz.func4, Tryz.ntmps4
  first
  | go_wp2
    · have e : min n m = m := by omega
      refine bodyPost_ret (results_cell_row rfl _ _ (w.heap.size + 1) 24 #[.slice A m c] (0, 0) _ rfl (blk2 w _ _ _) Tryz.underlying24 rfl (by kernel_rfl)) rfl ?_
      exact ⟨⟨c, by rw [e], by omega⟩, below2 _ _ _⟩
    · have e : min n m = n := by omega
      refine bodyPost_ret (results_cell_row rfl _ _ (w.heap.size + 1) 24 #[.slice A n c] (0, 0) _ rfl (blk2 w _ _ _) Tryz.underlying24 rfl (by kernel_rfl)) rfl ?_
      exact ⟨⟨c, by rw [e], by omega⟩, below2 _ _ _⟩
  | go_wp2
    have e : (min (n : Int) (m : Int)).toNat = k := by omega
    refine bodyPost_ret (results_cell_row rfl _ _ (w.heap.size + 1) 24 #[.slice A (min (n : Int) (m : Int)).toNat c] (0, 0) _ rfl (blk2 w _ _ _) Tryz.underlying24 rfl (by kernel_rfl)) rfl ?_
    exact ⟨⟨c, by rw [e], by omega⟩, below2 _ _ _⟩
/-- a set's cells, of the second word alone -/
def sc (v : Int) : Array Value := #[.int .u64 0, .int .u64 v, .int .u64 0, .int .u64 0]
set_option maxHeartbeats 6400000 in
theorem add_calls (b : Nat) (hb : b = 97 ∨ b = 98) (g : Nat) (w : World) (hg : w.heap[g]? = some (.cells (sc 0) 28 (0, 0))) :
    Calls Tryz.prog 41 #[.pointer (some ⟨g, 0, none⟩), .int .u8 (b : Nat)] w fun e w' => e = .returned (.tuple #[]) ∧ w'.heap[g]? = some (.cells (sc (2 ^ (b - 64) : Nat)) 28 (0, 0)) ∧ (∀ k, k ≠ g → w'.heap[k]? = w.heap[k]?) ∧ w'.heap.size = w.heap.size ∧ w'.os = w.os ∧ w'.tape = w.tape ∧ w'.output = w.output := by
  have c1 := blk_cell hg 1 (.int .u64 0) rfl
  have f1 := blk_free hg 1
  have HG := Lib.hid hg
  clear hg
  have e1 : IntKind.u8.wrap 1 = 1 := by decide
  have e2 : IntKind.u64.wrap 8589934592 = 8589934592 := by decide
  have e3 : IntKind.u64.wrap 17179869184 = 17179869184 := by decide
  have e4 : IntKind.u8.wrap 33 = 33 := by decide
  have e5 : IntKind.u8.wrap 34 = 34 := by decide
  rcases hb with rfl | rfl
  · go_enter Tryz.func41, Tryz.ntmps41
    go_wp2
    refine start_ (n := 15) (S := fun w' => w'.cell? ⟨g, 1, none⟩ = some (.int .u64 0)) (ds := [14]) #[false, false, false, false, false, false, false, false, false, false, false, false, false, false, false] (by kernel_rfl) rfl rfl (c1) (fun hHeld => ?_)
    refine pure_ (i := 0) (N := some 4) (v := ?_) (a' := ?_) #[true, false, false, false, false, false, false, false, false, false, false, false, false, false, false] rfl rfl (by kernel_rfl) (fun _ _ _ h => h) (Or.inl ⟨by rfl, ?_⟩) ?_ ?_
    rotate_left
    · intro w'
      go_simp
      with_reducible rfl
    rotate_left
    · simp only [Act.put, List.setIfInBounds_toArray, List.set_cons_zero, List.set_cons_succ, i64_w, i32_w]
      rfl
    refine pure_ (i := 1) (N := some 5) (v := ?_) (a' := ?_) #[true, true, false, false, false, false, false, false, false, false, false, false, false, false, false] rfl rfl (by kernel_rfl) (fun _ _ _ h => h) (Or.inl ⟨by rfl, ?_⟩) ?_ ?_
    rotate_left
    · intro w'
      go_simp
      with_reducible rfl
    rotate_left
    · simp only [Act.put, List.setIfInBounds_toArray, List.set_cons_zero, List.set_cons_succ, i64_w, i32_w]
      rfl
    refine pure_ (i := 2) (N := some 6) (v := ?_) (a' := ?_) #[true, true, true, false, false, false, false, false, false, false, false, false, false, false, false] rfl rfl (by kernel_rfl) (fun _ _ _ h => h) (Or.inl ⟨by rfl, ?_⟩) ?_ ?_
    rotate_left
    · intro w'
      go_simp
      with_reducible rfl
    rotate_left
    · simp only [Act.put, List.setIfInBounds_toArray, List.set_cons_zero, List.set_cons_succ, i64_w, i32_w]
      rfl
    refine pure_ (i := 3) (N := some 7) (v := ?_) (a' := ?_) #[true, true, true, true, false, false, false, false, false, false, false, false, false, false, false] rfl rfl (by kernel_rfl) (fun _ _ _ h => h) (Or.inl ⟨by rfl, ?_⟩) ?_ ?_
    rotate_left
    · intro w'
      go_simp
      with_reducible rfl
    rotate_left
    · simp only [Act.put, List.setIfInBounds_toArray, List.set_cons_zero, List.set_cons_succ, i64_w, i32_w]
      rfl
    refine pure_ (i := 4) (N := some 8) (v := ?_) (a' := ?_) #[true, true, true, true, true, false, false, false, false, false, false, false, false, false, false] rfl rfl (by kernel_rfl) (fun _ _ _ h => h) (Or.inl ⟨by rfl, ?_⟩) ?_ ?_
    rotate_left
    · intro w'
      go_simp
      with_reducible rfl
    rotate_left
    · simp only [Act.put, List.setIfInBounds_toArray, List.set_cons_zero, List.set_cons_succ, i64_w, i32_w]
      rfl
    refine pure_ (i := 5) (N := some 9) (v := ?_) (a' := ?_) #[true, true, true, true, true, true, false, false, false, false, false, false, false, false, false] rfl rfl (by kernel_rfl) (fun _ _ _ h => h) (Or.inl ⟨by rfl, ?_⟩) ?_ ?_
    rotate_left
    · intro w'
      go_simp
      with_reducible rfl
    rotate_left
    · simp only [Act.put, List.setIfInBounds_toArray, List.set_cons_zero, List.set_cons_succ, i64_w, i32_w]
      rfl
    refine pure_ (i := 7) (N := some 11) (v := ?_) (a' := ?_) #[true, true, true, true, true, true, false, true, false, false, false, false, false, false, false] rfl rfl (by kernel_rfl) (fun _ _ _ h => h) (Or.inl ⟨by rfl, ?_⟩) ?_ ?_
    rotate_left
    · intro w'
      go_simp
      with_reducible rfl
    rotate_left
    · simp only [Act.put, List.setIfInBounds_toArray, List.set_cons_zero, List.set_cons_succ, i64_w, i32_w]
      rfl
    refine pure_ (i := 8) (N := some 12) (v := ?_) (a' := ?_) #[true, true, true, true, true, true, false, true, true, false, false, false, false, false, false] rfl rfl (by kernel_rfl) (fun _ _ _ h => h) (Or.inl ⟨by rfl, ?_⟩) ?_ ?_
    rotate_left
    · intro w'
      go_simp
      with_reducible rfl
    rotate_left
    · simp only [Act.put, List.setIfInBounds_toArray, List.set_cons_zero, List.set_cons_succ, i64_w, i32_w]
      rfl
    refine pure_ (i := 9) (N := some 13) (v := ?_) (a' := ?_) #[true, true, true, true, true, true, false, true, true, true, false, false, false, false, false] rfl rfl (by kernel_rfl) (fun _ _ _ h => h) (Or.inl ⟨by rfl, ?_⟩) ?_ ?_
    rotate_left
    · intro w'
      go_simp
      with_reducible rfl
    rotate_left
    · simp only [Act.put, List.setIfInBounds_toArray, List.set_cons_zero, List.set_cons_succ, i64_w, i32_w]
      rfl
    refine pure_ (i := 11) (N := some 15) (v := ?_) (a' := ?_) #[true, true, true, true, true, true, false, true, true, true, false, true, false, false, false] rfl rfl (by kernel_rfl) (fun _ _ _ h => h) (Or.inl ⟨by rfl, ?_⟩) ?_ ?_
    rotate_left
    · intro w'
      go_simp
      with_reducible rfl
    rotate_left
    · simp only [Act.put, List.setIfInBounds_toArray, List.set_cons_zero, List.set_cons_succ, i64_w, i32_w]
      rfl
    refine pure_ (i := 12) (N := some 16) (v := ?_) (a' := ?_) #[true, true, true, true, true, true, false, true, true, true, false, true, true, false, false] rfl rfl (by kernel_rfl) (fun _ _ _ h => h) (Or.inl ⟨by rfl, ?_⟩) ?_ ?_
    rotate_left
    · intro w'
      go_simp
      with_reducible rfl
    rotate_left
    · simp only [Act.put, List.setIfInBounds_toArray, List.set_cons_zero, List.set_cons_succ, i64_w, i32_w]
      rfl
    refine take_ (i := 6) (N := some 10) (v := ?_) (a' := ?_) #[true, true, true, true, true, true, true, true, true, true, false, true, true, false, false] rfl rfl (by kernel_rfl) (fun _ _ _ h => h) (Or.inl ⟨by rfl, ?_⟩) hHeld ?_ ?_
    rotate_left
    · intro w' s0
      go_simp
      with_reducible rfl
    rotate_left
    · simp only [Act.put, List.setIfInBounds_toArray, List.set_cons_zero, List.set_cons_succ, i64_w, i32_w]
      rfl
    refine pure_ (i := 10) (N := some 14) (v := ?_) (a' := ?_) #[true, true, true, true, true, true, true, true, true, true, true, true, true, false, false] rfl rfl (by kernel_rfl) (fun _ _ _ h => h) (Or.inl ⟨by rfl, ?_⟩) ?_ ?_
    rotate_left
    · intro w'
      go_simp
      with_reducible rfl
    rotate_left
    · simp only [Act.put, List.setIfInBounds_toArray, List.set_cons_zero, List.set_cons_succ, i64_w, i32_w]
      rfl
    refine pure_ (i := 13) (N := some 17) (v := ?_) (a' := ?_) #[true, true, true, true, true, true, true, true, true, true, true, true, true, true, false] rfl rfl (by kernel_rfl) (fun _ _ _ h => h) (Or.inl ⟨by rfl, ?_⟩) ?_ ?_
    rotate_left
    · intro w'
      go_simp
      with_reducible rfl
    rotate_left
    · simp only [Act.put, List.setIfInBounds_toArray, List.set_cons_zero, List.set_cons_succ, i64_w, i32_w]
      rfl
    refine last_ (i := 14) (N := none) #[true, true, true, true, true, true, true, true, true, true, true, true, true, true, true] rfl rfl (by kernel_rfl) (by decide) (fun K hK => ?_)
    refine skip_ (w1 := ?_) (by rfl) rfl ?_ ?_
    rotate_left
    · go_simp
      rfl
    refine hK.out _ _ ?_
    clear hK K
    refine done_ (by kernel_rfl) ?_
    go_wp2
    go_end0
    have hv : bits BinOp.or IntKind.u64 0 8589934592 = ((2 ^ (97 - 64) : Nat) : Int) := by decide
    rw [hv]
    refine ⟨rfl, set_blk (i := 1) HG.out _, fun k hk => Below.heap_setCell w ⟨g, 1, none⟩ _ k hk, by simp, rfl, rfl, rfl⟩
  · go_enter Tryz.func41, Tryz.ntmps41
    go_wp2
    refine start_ (n := 15) (S := fun w' => w'.cell? ⟨g, 1, none⟩ = some (.int .u64 0)) (ds := [14]) #[false, false, false, false, false, false, false, false, false, false, false, false, false, false, false] (by kernel_rfl) rfl rfl (c1) (fun hHeld => ?_)
    refine pure_ (i := 0) (N := some 4) (v := ?_) (a' := ?_) #[true, false, false, false, false, false, false, false, false, false, false, false, false, false, false] rfl rfl (by kernel_rfl) (fun _ _ _ h => h) (Or.inl ⟨by rfl, ?_⟩) ?_ ?_
    rotate_left
    · intro w'
      go_simp
      with_reducible rfl
    rotate_left
    · simp only [Act.put, List.setIfInBounds_toArray, List.set_cons_zero, List.set_cons_succ, i64_w, i32_w]
      rfl
    refine pure_ (i := 1) (N := some 5) (v := ?_) (a' := ?_) #[true, true, false, false, false, false, false, false, false, false, false, false, false, false, false] rfl rfl (by kernel_rfl) (fun _ _ _ h => h) (Or.inl ⟨by rfl, ?_⟩) ?_ ?_
    rotate_left
    · intro w'
      go_simp
      with_reducible rfl
    rotate_left
    · simp only [Act.put, List.setIfInBounds_toArray, List.set_cons_zero, List.set_cons_succ, i64_w, i32_w]
      rfl
    refine pure_ (i := 2) (N := some 6) (v := ?_) (a' := ?_) #[true, true, true, false, false, false, false, false, false, false, false, false, false, false, false] rfl rfl (by kernel_rfl) (fun _ _ _ h => h) (Or.inl ⟨by rfl, ?_⟩) ?_ ?_
    rotate_left
    · intro w'
      go_simp
      with_reducible rfl
    rotate_left
    · simp only [Act.put, List.setIfInBounds_toArray, List.set_cons_zero, List.set_cons_succ, i64_w, i32_w]
      rfl
    refine pure_ (i := 3) (N := some 7) (v := ?_) (a' := ?_) #[true, true, true, true, false, false, false, false, false, false, false, false, false, false, false] rfl rfl (by kernel_rfl) (fun _ _ _ h => h) (Or.inl ⟨by rfl, ?_⟩) ?_ ?_
    rotate_left
    · intro w'
      go_simp
      with_reducible rfl
    rotate_left
    · simp only [Act.put, List.setIfInBounds_toArray, List.set_cons_zero, List.set_cons_succ, i64_w, i32_w]
      rfl
    refine pure_ (i := 4) (N := some 8) (v := ?_) (a' := ?_) #[true, true, true, true, true, false, false, false, false, false, false, false, false, false, false] rfl rfl (by kernel_rfl) (fun _ _ _ h => h) (Or.inl ⟨by rfl, ?_⟩) ?_ ?_
    rotate_left
    · intro w'
      go_simp
      with_reducible rfl
    rotate_left
    · simp only [Act.put, List.setIfInBounds_toArray, List.set_cons_zero, List.set_cons_succ, i64_w, i32_w]
      rfl
    refine pure_ (i := 5) (N := some 9) (v := ?_) (a' := ?_) #[true, true, true, true, true, true, false, false, false, false, false, false, false, false, false] rfl rfl (by kernel_rfl) (fun _ _ _ h => h) (Or.inl ⟨by rfl, ?_⟩) ?_ ?_
    rotate_left
    · intro w'
      go_simp
      with_reducible rfl
    rotate_left
    · simp only [Act.put, List.setIfInBounds_toArray, List.set_cons_zero, List.set_cons_succ, i64_w, i32_w]
      rfl
    refine pure_ (i := 7) (N := some 11) (v := ?_) (a' := ?_) #[true, true, true, true, true, true, false, true, false, false, false, false, false, false, false] rfl rfl (by kernel_rfl) (fun _ _ _ h => h) (Or.inl ⟨by rfl, ?_⟩) ?_ ?_
    rotate_left
    · intro w'
      go_simp
      with_reducible rfl
    rotate_left
    · simp only [Act.put, List.setIfInBounds_toArray, List.set_cons_zero, List.set_cons_succ, i64_w, i32_w]
      rfl
    refine pure_ (i := 8) (N := some 12) (v := ?_) (a' := ?_) #[true, true, true, true, true, true, false, true, true, false, false, false, false, false, false] rfl rfl (by kernel_rfl) (fun _ _ _ h => h) (Or.inl ⟨by rfl, ?_⟩) ?_ ?_
    rotate_left
    · intro w'
      go_simp
      with_reducible rfl
    rotate_left
    · simp only [Act.put, List.setIfInBounds_toArray, List.set_cons_zero, List.set_cons_succ, i64_w, i32_w]
      rfl
    refine pure_ (i := 9) (N := some 13) (v := ?_) (a' := ?_) #[true, true, true, true, true, true, false, true, true, true, false, false, false, false, false] rfl rfl (by kernel_rfl) (fun _ _ _ h => h) (Or.inl ⟨by rfl, ?_⟩) ?_ ?_
    rotate_left
    · intro w'
      go_simp
      with_reducible rfl
    rotate_left
    · simp only [Act.put, List.setIfInBounds_toArray, List.set_cons_zero, List.set_cons_succ, i64_w, i32_w]
      rfl
    refine pure_ (i := 11) (N := some 15) (v := ?_) (a' := ?_) #[true, true, true, true, true, true, false, true, true, true, false, true, false, false, false] rfl rfl (by kernel_rfl) (fun _ _ _ h => h) (Or.inl ⟨by rfl, ?_⟩) ?_ ?_
    rotate_left
    · intro w'
      go_simp
      with_reducible rfl
    rotate_left
    · simp only [Act.put, List.setIfInBounds_toArray, List.set_cons_zero, List.set_cons_succ, i64_w, i32_w]
      rfl
    refine pure_ (i := 12) (N := some 16) (v := ?_) (a' := ?_) #[true, true, true, true, true, true, false, true, true, true, false, true, true, false, false] rfl rfl (by kernel_rfl) (fun _ _ _ h => h) (Or.inl ⟨by rfl, ?_⟩) ?_ ?_
    rotate_left
    · intro w'
      go_simp
      with_reducible rfl
    rotate_left
    · simp only [Act.put, List.setIfInBounds_toArray, List.set_cons_zero, List.set_cons_succ, i64_w, i32_w]
      rfl
    refine take_ (i := 6) (N := some 10) (v := ?_) (a' := ?_) #[true, true, true, true, true, true, true, true, true, true, false, true, true, false, false] rfl rfl (by kernel_rfl) (fun _ _ _ h => h) (Or.inl ⟨by rfl, ?_⟩) hHeld ?_ ?_
    rotate_left
    · intro w' s0
      go_simp
      with_reducible rfl
    rotate_left
    · simp only [Act.put, List.setIfInBounds_toArray, List.set_cons_zero, List.set_cons_succ, i64_w, i32_w]
      rfl
    refine pure_ (i := 10) (N := some 14) (v := ?_) (a' := ?_) #[true, true, true, true, true, true, true, true, true, true, true, true, true, false, false] rfl rfl (by kernel_rfl) (fun _ _ _ h => h) (Or.inl ⟨by rfl, ?_⟩) ?_ ?_
    rotate_left
    · intro w'
      go_simp
      with_reducible rfl
    rotate_left
    · simp only [Act.put, List.setIfInBounds_toArray, List.set_cons_zero, List.set_cons_succ, i64_w, i32_w]
      rfl
    refine pure_ (i := 13) (N := some 17) (v := ?_) (a' := ?_) #[true, true, true, true, true, true, true, true, true, true, true, true, true, true, false] rfl rfl (by kernel_rfl) (fun _ _ _ h => h) (Or.inl ⟨by rfl, ?_⟩) ?_ ?_
    rotate_left
    · intro w'
      go_simp
      with_reducible rfl
    rotate_left
    · simp only [Act.put, List.setIfInBounds_toArray, List.set_cons_zero, List.set_cons_succ, i64_w, i32_w]
      rfl
    refine last_ (i := 14) (N := none) #[true, true, true, true, true, true, true, true, true, true, true, true, true, true, true] rfl rfl (by kernel_rfl) (by decide) (fun K hK => ?_)
    refine skip_ (w1 := ?_) (by rfl) rfl ?_ ?_
    rotate_left
    · go_simp
      rfl
    refine hK.out _ _ ?_
    clear hK K
    refine done_ (by kernel_rfl) ?_
    go_wp2
    go_end0
    have hv : bits BinOp.or IntKind.u64 0 17179869184 = ((2 ^ (98 - 64) : Nat) : Int) := by decide
    rw [hv]
    refine ⟨rfl, set_blk (i := 1) HG.out _, fun k hk => Below.heap_setCell w ⟨g, 1, none⟩ _ k hk, by simp, rfl, rfl, rfl⟩
set_option maxHeartbeats 6400000 in
theorem one_calls (b : Nat) (hb : b = 97 ∨ b = 98) (w : World) :
    Calls Tryz.prog 27 #[.int .u8 (b : Nat)] w fun e w' => e = .returned (.agg (sc (2 ^ (b - 64) : Nat))) ∧ Below w.heap.size w w' := by
  have KA := Lib.hid (fun g W h => add_calls b hb g W h)
  have BR := Lib.hid (blk_alloc (heap_alloc_new w (.cells (sc 0) 28)) (.cells (sc 0) 28))
  have BS := Lib.hid (blk2 w (.cells (sc 0) 28) (sc 0) 28)
  have HB := Lib.hid (below2 w (.cells (sc 0) 28) (.cells (sc 0) 28))
  generalize ((2 ^ (b - 64) : Nat) : Int) = v at *
  go_enter Tryz.func27, Tryz.ntmps27
  go_wp2_with fail
  refine (KA.out (w.heap.size + 1) _ BS.out).mono ?_
  rintro e w3 ⟨rfl, h1, h2, h3, h4, h5, h6⟩
  have HB3 := Lib.hid (show Below w.heap.size w w3 from ⟨h4.trans HB.out.os, h5.trans HB.out.tape, h6.trans HB.out.output, by rw [h3]; exact HB.out.size, fun k hk => (h2 k (by omega)).trans (HB.out.block k hk)⟩)
  have BR3 := Lib.hid ((h2 w.heap.size (by omega)).trans BR.out)
  have BS3 := Lib.hid h1
  have BE := Lib.hid (setRow_heap w3 w.heap.size _ (sc v) _ _ BR3.out)
  clear h1 h2 h3 h4 h5 h6 HB BR BS KA
  have s0 := blk_cell BS3.out 0 (.int .u64 0) rfl
  have s1 := blk_cell BS3.out 1 (.int .u64 v) rfl
  have s2 := blk_cell BS3.out 2 (.int .u64 0) rfl
  have s3 := blk_cell BS3.out 3 (.int .u64 0) rfl
  have r0 := blk_cell BR3.out 0 (.int .u64 0) rfl
  have f0 := blk_free BR3.out 0
  have r1 := blk_cell BR3.out 1 (.int .u64 0) rfl
  have f1 := blk_free BR3.out 1
  have r2 := blk_cell BR3.out 2 (.int .u64 0) rfl
  have f2 := blk_free BR3.out 2
  have r3 := blk_cell BR3.out 3 (.int .u64 0) rfl
  have f3 := blk_free BR3.out 3
  go_wp2
  refine bodyPost_ret (results_cell_row rfl _ _ w.heap.size 28 (sc v) (0, 0) _ rfl ?_ Tryz.underlying28 rfl (by kernel_rfl)) rfl ?_
  · have h := set_blk (i := 3) (set_blk (i := 2) (set_blk (i := 1) (set_blk (i := 0) BR3.out (.int .u64 0)) (.int .u64 v)) (.int .u64 0)) (.int .u64 0)
    exact h
  · refine ⟨rfl, ?_⟩
    repeat (first | exact HB3.out | refine CMem.below_set ?_ (Nat.le_refl _) _)
end Go.Proofs.YtaaihcojedibeaaGreatDoor.DCut
end
section
/- ast.Join: its walk. -/
namespace Go.Proofs.YtaaihcojedibeaaGreatDoor.DJoin
open Go.RowKit CMem DRow DDeep DSizes DRowN DWrap Q Go.Proofs.YtaaihcojedibeaaGreatDoorW.PrintWords Go.Proofs.YtaaihcojedibeaaGreatDoorW.PrintLast Go.Proofs.YtaaihcojedibeaaGreatDoorW.PrintMore
set_option linter.unusedVariables false
set_option linter.unusedSimpArgs false
set_option maxRecDepth 100000
/-- a node, its children so many nodes further on -/
def shift (n : Int) (x : S49) : S49 := { x with f1 := if kd x.f0 > 0 then wrap64 (x.f1 + n) else x.f1, f2 := if kd x.f0 > 1 then wrap64 (x.f2 + n) else x.f2 }
theorem ra_set (xs : List S49) (i : Nat) (x : S49) (h : i < xs.length) : (ra xs).take (12 * i) ++ (nc x).toList ++ (ra xs).drop (12 * i + 12) = ra (xs.set i x) := by
  rw [ra_take, show 12 * i + 12 = 12 * (i + 1) by omega, ra_drop, List.set_eq_take_append_cons_drop, if_pos h, ra_append, ra, List.append_assoc]
theorem wpList_store_node {w : World} {ops : Array Oper} {rest : List Oper} {o : Oper} {a : Act} {Q : Exit → Act → World → Prop} (hgd : o.guard = none) (p s : Operand)
    (ho : o.op = .store 49 p s) (g i : Nat) (x : S49) (hp : a.eval p = .pointer (some ⟨g, i * 12, none⟩)) (hs : a.eval s = .agg (nc x)) (xs : List S49) (hi : i < xs.length)
    (hg : w.heap[g]? = some (.cells (ra xs).toArray 49 (0, 0))) (B : Nat) (w0 : World) (hB : Below B w0 w) (hBg : B ≤ g)
    (h : ∀ w', w'.heap[g]? = some (.cells (ra (xs.set i x)).toArray 49 (0, 0)) → (∀ k, k ≠ g → w'.heap[k]? = w.heap[k]?) → w'.heap.size = w.heap.size → Below B w0 w' → wpList Tryz.prog ops Q rest (a.put o.dst undef) w') :
    wpList Tryz.prog ops Q (o :: rest) a w := by
  have hrun : (storeVar 49 ⟨g, i * 12, none⟩ (.agg (nc x))).run Tryz.prog w = .ok () (w.setRow g (ra (xs.set i x)).toArray) := by
    have h1 := run_storeCells_at Tryz.prog g (i * 12) 49 (nc x).toList 0 (ra xs).toArray w hg (by rw [nc_len, List.size_toArray, ra_length]; omega) (fun v hv => ra_one [x] v (by simpa [ra] using hv))
    have e : (ra xs).toArray.toList.take (i * 12 + 0) ++ (nc x).toList ++ (ra xs).toArray.toList.drop (i * 12 + 0 + (nc x).toList.length) = ra (xs.set i x) := by
      rw [nc_len, ← ra_set xs i x hi, Nat.add_zero, Nat.mul_comm i 12]
    rw [e] at h1
    have hi : (Tryz.prog.info? 49).map (·.size) = some 12 := by kernel_rfl
    have hsz : (nc x).size = 12 := rfl
    cases hq : Tryz.prog.info? 49 with
    | none => simp [hq] at hi
    | some j =>
      have hj : j.size = 12 := by simpa [hq] using hi
      simp [storeVar, sizeOf, typeInfo, hq, Value.cells, hj, hsz, h1]
  refine wpList_plain hgd fun K hK => ?_
  have hfin := hK _ _ (h _ (setRow_heap w g _ _ _ _ hg) (fun k hk => setRow_other w g k _ hk) (by simp [World.setRow]) (below_setRow hB hBg _))
  unfold Oper.wp execOp
  simp only [ho, hp, hs, Instr.storeAt, Instr.sureAddr, Sem.run_bind, Sem.run_pure, Result.andThen_ok, hrun]
  exact hfin
set_option maxHeartbeats 6400000 in
theorem join_calls (A : Option Addr) (c : Nat) (L : List S49) (n : Nat) (hn : L.length = n) (A2 : Option Addr) (c2 : Nat) (M : List S49) (m : Nat) (hm : M.length = m) (hnm : n + m ≤ 999) (kind : Int) (w : World) (hr : Kd.C k49 w A n L) (hr2 : Kd.C k49 w A2 m M) :
    Calls Tryz.prog 26 #[.agg #[.slice A n c], .agg #[.slice A2 m c2], .int .i64 kind] w fun e w' =>
      (∃ v, e = .returned (.agg #[v]) ∧ w'.ownsRow w.heap.size 49 12 v (n + m + 1) (ra (L ++ M.map (shift n) ++ [⟨kind, (n : Int) - 1, (n : Int) + m - 1, z28, 0, 0, 0, 0, false⟩]))) ∧ Below w.heap.size w w' := by
  have BA2 := Lib.hid (fun o => blk_alloc (blk_alloc (blk_alloc (heap_alloc_new w (.cells #[.slice A n c] 24)) (.cells #[.slice A2 m c2] 24)) (.cells #[.slice none 0 0] 24)) o)
  have BB2 := Lib.hid (fun o => blk_alloc (blk_alloc (blk2 w (.cells #[.slice A n c] 24) #[.slice A2 m c2] 24) (.cells #[.slice none 0 0] 24)) o)
  have BR2 := Lib.hid (fun o => blk_alloc (new3 w (.cells #[.slice A n c] 24) (.cells #[.slice A2 m c2] 24) (.cells #[.slice none 0 0] 24)) o)
  have HB2 := Lib.hid (fun o => (below3 w (.cells #[.slice A n c] 24) (.cells #[.slice A2 m c2] 24) (.cells #[.slice none 0 0] 24)).alloc (below3 w (.cells #[.slice A n c] 24) (.cells #[.slice A2 m c2] 24) (.cells #[.slice none 0 0] 24)).size o)
  have mk : ∀ W : World, (Instr.makeSlice 22 (.int .i64 ((n : Int) + (m : Int))) (.int .i64 ((n : Int) + (m : Int) + 1))).run Tryz.prog W = .ok (.slice (some ⟨W.heap.size, 0, none⟩) (n + m) (n + m + 1)) (W.alloc (.cells (ra (List.replicate (n + m + 1) z49)).toArray 49)) := fun W => by
    have h := make_nodes (n + m) (n + m + 1) (by omega) (by omega) W
    rwa [show ((n + m : Nat) : Int) = (n : Int) + (m : Int) by omega, show ((n + m + 1 : Nat) : Int) = (n : Int) + (m : Int) + 1 by omega] at h
  obtain ⟨Z, hZ⟩ : ∃ Z, List.replicate (n + m + 1) z49 = Z := ⟨_, rfl⟩
  have hZd : Z.drop n = List.replicate (m + 1) z49 := by rw [← hZ, List.drop_replicate]; congr 1; omega
  have hZl : Z.length = n + m + 1 := by rw [← hZ]; simp
  rw [hZ] at mk
  have HC := Lib.hid (fun W h => Kd.C_below (w1 := W) hr h)
  have HC2 := Lib.hid (fun W h => Kd.C_below (w1 := W) hr2 h)
  have HZd := Lib.hid hZd
  have HZl := Lib.hid hZl
  clear hr hr2 hZ hZd hZl
  go_enter Tryz.func26, Tryz.ntmps26
  go_wp2_with ((with_reducible show wpList _ _ _ (⟨some 29, _, _, _, _, _⟩ :: _) _ _); refine hold ?_)
  refine Lib.hid ?_
  refine wpList_copy_nodes rfl (.tmp 26) (.tmp 28) rfl rfl (w.heap.size + 1 + 1 + 1) n (n + m) (n + m + 1) c A rfl rfl Z L (new4 _ _ _ _ _) (HC.out _ (HB2.out _)) (by omega) (HZl.out ▸ Nat.le_succ (n + m)) w.heap.size w (HB2.out _) (by omega) ?_
  intro w2 hY hK hsz hb
  have BB3 := Lib.hid ((hK (w.heap.size + 1) (by omega)).trans (BB2.out _))
  have BR3 := Lib.hid ((hK (w.heap.size + 1 + 1) (by omega)).trans (BR2.out _))
  rw [HZd.out] at hY
  have BY3 := Lib.hid hY
  have HB3 := Lib.hid hb
  have tb := blk_cell BB3.out 0 (.slice A2 m c2) rfl
  clear hY hK hsz hb BA2 BB2 BR2 HB2 mk HC HZd HZl
  go_wp2
  go_loopw [33] (fun t wr => ∃ i : Nat, i ≤ m ∧ t = .int .i64 (i : Nat) ∧ Hid (wr.heap[w.heap.size + 1 + 1 + 1]? = some (.cells (ra (L ++ (M.map (shift n)).take i ++ List.replicate (m + 1 - i) z49)).toArray 49 (0, 0))) ∧ Hid (wr.heap[w.heap.size + 1 + 1]? = some (.cells #[.slice none 0 0] 24 (0, 0))) ∧ Hid (Below w.heap.size w wr)) (fun t _ => m - (intOf t).toNat)
  case atStart => exact ⟨0, Nat.zero_le _, rfl, Lib.hid (by rw [List.take_zero, List.append_nil]; exact BY3.out), BR3, HB3⟩
  case round =>
    clear BY3 BB3 BR3 HB3 tb
    obtain ⟨i, hi, rfl, PO, RO, HB⟩ := hrel
    by_cases h : i < m
    · obtain ⟨ad, hA, a0, a1, a2, a3, a4, a5, a6, a7, a8, a9, a10, a11⟩ := at_T49 (HC2.out _ HB.out) (i : Int) (by omega) (by omega)
      subst hA
      rw [Int.toNat_natCast] at a0 a1 a2 a3 a4 a5 a6 a7 a8 a9 a10 a11
      have hi2 : (i : Int) < (m : Int) := by omega
      have hx : M[i]? = some (rd_T49 M i) := by
        unfold rd_T49
        rw [Int.toNat_natCast, List.getD_eq_getElem?_getD, List.getElem?_eq_getElem (by omega)]
        rfl
      have hgrow : ∀ y, shift n (rd_T49 M i) = y → ((L ++ (M.map (shift n)).take i ++ List.replicate (m + 1 - i) z49).set (n + i) y) = L ++ (M.map (shift n)).take (i + 1) ++ List.replicate (m + 1 - (i + 1)) z49 := by
        intro y hy
        have h1 : (M.map (shift n)).take (i + 1) = (M.map (shift n)).take i ++ [y] := by
          rw [List.take_add_one, List.getElem?_map, hx, ← hy]; rfl
        rw [h1, show m + 1 - i = (m + 1 - (i + 1)) + 1 by omega, List.replicate_succ, List.set_append_right _ _ (by simp [hn]; omega)]
        rw [show n + i - (L ++ (M.map (shift n)).take i).length = 0 by simp [hn, hm]; omega]
        simp
      have HG := Lib.hid hgrow
      clear hgrow hx
      have hrl : (L ++ (M.map (shift n)).take i ++ List.replicate (m + 1 - i) z49).length = n + m + 1 := by simp [hn, hm]; omega
      generalize L ++ (M.map (shift n)).take i ++ List.replicate (m + 1 - i) z49 = XS at *
      generalize rd_T49 M i = x at *
      obtain ⟨xk, xa, xb, ⟨⟨s0, s1, s2, s3⟩⟩, x4, x5, x6, x7, x8⟩ := x
      simp only [] at a0 a1 a2 a3 a4 a5 a6 a7 a8 a9 a10 a11
      have KK := Lib.hid (kids_calls xk)
      have BN := Lib.hid (heap_alloc_new wr (.cells #[.int .i64 xk, .int .i64 xa, .int .i64 xb, .int .u64 s0, .int .u64 s1, .int .u64 s2, .int .u64 s3, .int .i64 x4, .int .i64 x5, .int .i64 x6, .int .i64 x7, .bool x8] 49))
      have BO := Lib.hid (blk_alloc PO.out (.cells #[.int .i64 xk, .int .i64 xa, .int .i64 xb, .int .u64 s0, .int .u64 s1, .int .u64 s2, .int .u64 s3, .int .i64 x4, .int .i64 x5, .int .i64 x6, .int .i64 x7, .bool x8] 49))
      have BT := Lib.hid (blk_alloc RO.out (.cells #[.int .i64 xk, .int .i64 xa, .int .i64 xb, .int .u64 s0, .int .u64 s1, .int .u64 s2, .int .u64 s3, .int .i64 x4, .int .i64 x5, .int .i64 x6, .int .i64 x7, .bool x8] 49))
      have HB1 := Lib.hid (HB.out.alloc HB.out.size (.cells #[.int .i64 xk, .int .i64 xa, .int .i64 xb, .int .u64 s0, .int .u64 s1, .int .u64 s2, .int .u64 s3, .int .i64 x4, .int .i64 x5, .int .i64 x6, .int .i64 x7, .bool x8] 49))
      have LQ := Lib.hid (lt_of_blk PO.out)
      clear HB PO RO
      go_wp2_with fail
      refine (KK.out _).mono ?_
      rintro e w3 ⟨rfl, hb⟩
      have BN2 := Lib.hid (below_blk hb BN.out)
      have BO2 := Lib.hid (below_blk hb BO.out)
      have BT2 := Lib.hid (below_blk hb BT.out)
      have HB2 := Lib.hid (below_step HB1.out hb)
      clear hb BN BO BT HB1 a0 a1 a2 a3 a4 a5 a6 a7 a8 a9 a10 a11
      generalize wr.heap.size = QN at *
      have lq := LQ.out
      have hq1 : QN ≠ w.heap.size + 1 + 1 + 1 := by omega
      have hq2 : QN ≠ w.heap.size + 1 + 1 := by omega
      have hq3 : w.heap.size ≤ QN := by omega
      clear LQ lq
      rcases kd_cases xk with hk | hk | hk
      · have hs : shift n ⟨xk, xa, xb, ⟨⟨s0, s1, s2, s3⟩⟩, x4, x5, x6, x7, x8⟩ = ⟨xk, xa, xb, ⟨⟨s0, s1, s2, s3⟩⟩, x4, x5, x6, x7, x8⟩ := by unfold shift; simp only [hk]; rfl
        have HSET := Lib.hid (HG.out _ hs)
        clear hs HG
        have n0 := blk_cell BN2.out 0 (.int .i64 xk) rfl
        rw [hk]
        go_wp2_with fail
        refine (KK.out _).mono ?_
        rintro e w4 ⟨rfl, hb⟩
        rw [hk]
        have BN3 := Lib.hid (below_blk hb BN2.out)
        have BO3 := Lib.hid (below_blk hb BO2.out)
        have BT3 := Lib.hid (below_blk hb BT2.out)
        have HB3 := Lib.hid (below_step HB2.out hb)
        clear hb n0 BN2 BO2 BT2 HB2
        have n0 := blk_cell BN3.out 0 (.int .i64 xk) rfl
        have n1 := blk_cell BN3.out 1 (.int .i64 xa) rfl
        have n2 := blk_cell BN3.out 2 (.int .i64 xb) rfl
        have n3 := blk_cell BN3.out 3 (.int .u64 s0) rfl
        have n4 := blk_cell BN3.out 4 (.int .u64 s1) rfl
        have n5 := blk_cell BN3.out 5 (.int .u64 s2) rfl
        have n6 := blk_cell BN3.out 6 (.int .u64 s3) rfl
        have n7 := blk_cell BN3.out 7 (.int .i64 x4) rfl
        have n8 := blk_cell BN3.out 8 (.int .i64 x5) rfl
        have n9 := blk_cell BN3.out 9 (.int .i64 x6) rfl
        have n10 := blk_cell BN3.out 10 (.int .i64 x7) rfl
        have n11 := blk_cell BN3.out 11 (.bool x8) rfl
        go_wp2_with ((with_reducible show wpList _ _ _ (⟨none, .store _ (.tmp 61) _, _, _, _, _⟩ :: _) _ _); refine hold ?_)
        refine Lib.hid ?_
        refine wpList_store_node rfl (.tmp 61) (.tmp 60) rfl (w.heap.size + 1 + 1 + 1) (n + i) ⟨xk, xa, xb, ⟨⟨s0, s1, s2, s3⟩⟩, x4, x5, x6, x7, x8⟩ ?_ rfl XS (by omega) BO3.out w.heap.size w HB3.out (by omega) ?_
        · first | rfl | (simp [Act.eval]; done) | (simp [Act.eval]; omega)
        intro w5 hO hK hsz hb
        rw [HSET.out] at hO
        have PO := Lib.hid hO
        have RO := Lib.hid ((hK _ (by omega)).trans BT3.out)
        have HB := Lib.hid hb
        clear hO hK hsz hb HSET BN3 BO3 BT3 HB3 n0 n1 n2 n3 n4 n5 n6 n7 n8 n9 n10 n11
        go_wp2
        go_roundw
        case rel => exact ⟨i + 1, by omega, by simp, PO, RO, HB⟩
        case measure => simp [intOf]; omega
      · have hs : shift n ⟨xk, xa, xb, ⟨⟨s0, s1, s2, s3⟩⟩, x4, x5, x6, x7, x8⟩ = ⟨xk, (wrap64 (xa + (n : Int))), xb, ⟨⟨s0, s1, s2, s3⟩⟩, x4, x5, x6, x7, x8⟩ := by unfold shift; simp only [hk]; rfl
        have HSET := Lib.hid (HG.out _ hs)
        clear hs HG
        have n0 := blk_cell BN2.out 0 (.int .i64 xk) rfl
        have n1 := blk_cell BN2.out 1 (.int .i64 xa) rfl
        have g1 := blk_free BN2.out 1
        rw [hk]
        go_wp2_with fail
        refine (KK.out _).mono ?_
        rintro e w4 ⟨rfl, hb⟩
        rw [hk]
        have BN3 : Hid (w4.heap[QN]? = some (.cells #[.int .i64 xk, .int .i64 (wrap64 (xa + (n : Int))), .int .i64 xb, .int .u64 s0, .int .u64 s1, .int .u64 s2, .int .u64 s3, .int .i64 x4, .int .i64 x5, .int .i64 x6, .int .i64 x7, .bool x8] 49 (0, 0))) := Lib.hid (below_blk hb (set_blk (i := 1) BN2.out (.int .i64 (wrap64 (xa + (n : Int))))))
        have BO3 := Lib.hid (below_blk hb (set_other (c := QN) (i := 1) (v := .int .i64 (wrap64 (xa + (n : Int)))) BO2.out (fun e => hq1 e.symm)))
        have BT3 := Lib.hid (below_blk hb (set_other (c := QN) (i := 1) (v := .int .i64 (wrap64 (xa + (n : Int)))) BT2.out (fun e => hq2 e.symm)))
        have HB3 := Lib.hid (below_step (below_set (b := QN) (i := 1) HB2.out hq3 (.int .i64 (wrap64 (xa + (n : Int))))) hb)
        clear hb n0 n1 g1 BN2 BO2 BT2 HB2
        have n0 := blk_cell BN3.out 0 (.int .i64 xk) rfl
        have n1 := blk_cell BN3.out 1 (.int .i64 (wrap64 (xa + (n : Int)))) rfl
        have n2 := blk_cell BN3.out 2 (.int .i64 xb) rfl
        have n3 := blk_cell BN3.out 3 (.int .u64 s0) rfl
        have n4 := blk_cell BN3.out 4 (.int .u64 s1) rfl
        have n5 := blk_cell BN3.out 5 (.int .u64 s2) rfl
        have n6 := blk_cell BN3.out 6 (.int .u64 s3) rfl
        have n7 := blk_cell BN3.out 7 (.int .i64 x4) rfl
        have n8 := blk_cell BN3.out 8 (.int .i64 x5) rfl
        have n9 := blk_cell BN3.out 9 (.int .i64 x6) rfl
        have n10 := blk_cell BN3.out 10 (.int .i64 x7) rfl
        have n11 := blk_cell BN3.out 11 (.bool x8) rfl
        go_wp2_with ((with_reducible show wpList _ _ _ (⟨none, .store _ (.tmp 61) _, _, _, _, _⟩ :: _) _ _); refine hold ?_)
        refine Lib.hid ?_
        refine wpList_store_node rfl (.tmp 61) (.tmp 60) rfl (w.heap.size + 1 + 1 + 1) (n + i) ⟨xk, (wrap64 (xa + (n : Int))), xb, ⟨⟨s0, s1, s2, s3⟩⟩, x4, x5, x6, x7, x8⟩ ?_ rfl XS (by omega) BO3.out w.heap.size w HB3.out (by omega) ?_
        · first | rfl | (simp [Act.eval]; done) | (simp [Act.eval]; omega)
        intro w5 hO hK hsz hb
        rw [HSET.out] at hO
        have PO := Lib.hid hO
        have RO := Lib.hid ((hK _ (by omega)).trans BT3.out)
        have HB := Lib.hid hb
        clear hO hK hsz hb HSET BN3 BO3 BT3 HB3 n0 n1 n2 n3 n4 n5 n6 n7 n8 n9 n10 n11
        go_wp2
        go_roundw
        case rel => exact ⟨i + 1, by omega, by simp, PO, RO, HB⟩
        case measure => simp [intOf]; omega
      · have hs : shift n ⟨xk, xa, xb, ⟨⟨s0, s1, s2, s3⟩⟩, x4, x5, x6, x7, x8⟩ = ⟨xk, (wrap64 (xa + (n : Int))), (wrap64 (xb + (n : Int))), ⟨⟨s0, s1, s2, s3⟩⟩, x4, x5, x6, x7, x8⟩ := by unfold shift; simp only [hk]; rfl
        have HSET := Lib.hid (HG.out _ hs)
        clear hs HG
        have n0 := blk_cell BN2.out 0 (.int .i64 xk) rfl
        have n1 := blk_cell BN2.out 1 (.int .i64 xa) rfl
        have g1 := blk_free BN2.out 1
        rw [hk]
        go_wp2_with fail
        refine (KK.out _).mono ?_
        rintro e w4 ⟨rfl, hb⟩
        rw [hk]
        have BN3 : Hid (w4.heap[QN]? = some (.cells #[.int .i64 xk, .int .i64 (wrap64 (xa + (n : Int))), .int .i64 xb, .int .u64 s0, .int .u64 s1, .int .u64 s2, .int .u64 s3, .int .i64 x4, .int .i64 x5, .int .i64 x6, .int .i64 x7, .bool x8] 49 (0, 0))) := Lib.hid (below_blk hb (set_blk (i := 1) BN2.out (.int .i64 (wrap64 (xa + (n : Int))))))
        have BO3 := Lib.hid (below_blk hb (set_other (c := QN) (i := 1) (v := .int .i64 (wrap64 (xa + (n : Int)))) BO2.out (fun e => hq1 e.symm)))
        have BT3 := Lib.hid (below_blk hb (set_other (c := QN) (i := 1) (v := .int .i64 (wrap64 (xa + (n : Int)))) BT2.out (fun e => hq2 e.symm)))
        have HB3 := Lib.hid (below_step (below_set (b := QN) (i := 1) HB2.out hq3 (.int .i64 (wrap64 (xa + (n : Int))))) hb)
        clear hb n0 n1 g1 BN2 BO2 BT2 HB2
        have n0 := blk_cell BN3.out 0 (.int .i64 xk) rfl
        have n1 := blk_cell BN3.out 1 (.int .i64 (wrap64 (xa + (n : Int)))) rfl
        have n2 := blk_cell BN3.out 2 (.int .i64 xb) rfl
        have n3 := blk_cell BN3.out 3 (.int .u64 s0) rfl
        have n4 := blk_cell BN3.out 4 (.int .u64 s1) rfl
        have n5 := blk_cell BN3.out 5 (.int .u64 s2) rfl
        have n6 := blk_cell BN3.out 6 (.int .u64 s3) rfl
        have n7 := blk_cell BN3.out 7 (.int .i64 x4) rfl
        have n8 := blk_cell BN3.out 8 (.int .i64 x5) rfl
        have n9 := blk_cell BN3.out 9 (.int .i64 x6) rfl
        have n10 := blk_cell BN3.out 10 (.int .i64 x7) rfl
        have n11 := blk_cell BN3.out 11 (.bool x8) rfl
        have g2 := blk_free BN3.out 2
        go_wp2_with ((with_reducible show wpList _ _ _ (⟨none, .store _ (.tmp 61) _, _, _, _, _⟩ :: _) _ _); refine hold ?_)
        refine Lib.hid ?_
        refine wpList_store_node rfl (.tmp 61) (.tmp 60) rfl (w.heap.size + 1 + 1 + 1) (n + i) ⟨xk, (wrap64 (xa + (n : Int))), (wrap64 (xb + (n : Int))), ⟨⟨s0, s1, s2, s3⟩⟩, x4, x5, x6, x7, x8⟩ ?_ rfl XS (by omega) (set_other (c := QN) (i := 2) (v := .int .i64 (wrap64 (xb + (n : Int)))) BO3.out (fun e => hq1 e.symm)) w.heap.size w (below_set (b := QN) (i := 2) HB3.out hq3 (.int .i64 (wrap64 (xb + (n : Int))))) (by omega) ?_
        · first | rfl | (simp [Act.eval]; done) | (simp [Act.eval]; omega)
        intro w5 hO hK hsz hb
        rw [HSET.out] at hO
        have PO := Lib.hid hO
        have RO := Lib.hid ((hK _ (by omega)).trans (set_other (c := QN) (i := 2) (v := .int .i64 (wrap64 (xb + (n : Int)))) BT3.out (fun e => hq2 e.symm)))
        have HB := Lib.hid hb
        clear hO hK hsz hb HSET BN3 BO3 BT3 HB3 n0 n1 n2 n3 n4 n5 n6 n7 n8 n9 n10 n11 g2
        go_wp2
        go_roundw
        case rel => exact ⟨i + 1, by omega, by simp, PO, RO, HB⟩
        case measure => simp [intOf]; omega
    · obtain rfl : i = m := by omega
      have hi2 : ¬ ((i : Int) < (i : Int)) := by omega
      rw [List.take_of_length_le (by simp [hm]), show i + 1 - i = 1 by omega] at PO
      go_wp2_with ((with_reducible show wpList _ _ _ (⟨some 72, _, _, _, _, _⟩ :: _) _ _); refine hold ?_)
      refine Lib.hid ?_
      have BY4 := PO.out
      rw [show List.replicate 1 z49 = [z49] from rfl] at BY4
      have BR5 := RO
      have HB4 := HB.out
      have HO := own_ra (base := w.heap.size) (n := n + i) (cap := n + i + 1) (show w.heap.size ≤ w.heap.size + 1 + 1 + 1 by omega) (by simp [hn, hm]) (by simp [hn, hm]; omega) (by omega) BY4
      have hbs : w.heap.size ≤ wr.heap.size := HB4.size
      have hlt := lt_of_blk RO.out
      clear BY4 PO RO HB HC2
      refine print_append_cells w.heap.size rfl (.tmp 63) (.tmp 71) 22 49 _ 12 96 rfl Tryz.underlying22 info49 rfl (by decide) (by decide) (.slice (some ⟨w.heap.size + 1 + 1 + 1, 0, none⟩) (n + i) (n + i + 1)) (n + i) (ra (L ++ M.map (shift n))) (nc ⟨kind, (n : Int) - 1, (n : Int) + (i : Int) - 1, z28, 0, 0, 0, 0, false⟩).toList rfl ?_ rfl (fun u hu => ?_) HO HB4 hbs (by omega) ?_
      · first | rfl | (simp [Act.eval]; done)
      · exact ra_one [⟨kind, (n : Int) - 1, (n : Int) + (i : Int) - 1, z28, 0, 0, 0, 0, false⟩] u (by simpa [ra] using hu)
      intro v3 w3 hown hb hg hat
      have BR6 := Lib.hid ((hg.block (w.heap.size + 1 + 1) hlt (by simp [Value.ownBlock])).trans BR5.out)
      have HB6 := Lib.hid hb
      rw [show ra (L ++ M.map (shift n)) ++ (nc ⟨kind, (n : Int) - 1, (n : Int) + (i : Int) - 1, z28, 0, 0, 0, 0, false⟩).toList = ra (L ++ M.map (shift n) ++ [⟨kind, (n : Int) - 1, (n : Int) + (i : Int) - 1, z28, 0, 0, 0, 0, false⟩]) by rw [ra_append (L ++ M.map (shift n))]; simp [ra]] at hown
      obtain ⟨A3, c3, rfl, _, _⟩ := own_C (by simp [hn, hm]; omega) (by omega) hown
      have hne : ∀ j, (Value.slice A3 (n + i + 1) c3).ownBlock = some j → j ≠ w.heap.size + 1 + 1 := by
        rintro j hj rfl
        rcases hat with h | ⟨b, h, hle⟩
        · rw [h] at hj; simp [Value.ownBlock] at hj
        · rw [h] at hj
          have : b = w.heap.size + 1 + 1 := Option.some.inj hj
          omega
      have HO6 := Lib.hid (own_move (w1 := w3.setCell ⟨w.heap.size + 1 + 1, 0, none⟩ (.slice A3 (n + i + 1) c3)) hown (fun j hj => Below.heap_setCell w3 ⟨w.heap.size + 1 + 1, 0, none⟩ _ j (hne j hj)))
      have BR7 := Lib.hid (set_blk (i := 0) BR6.out (.slice A3 (n + i + 1) c3))
      have HB7 := Lib.hid (below_set (b := w.heap.size + 1 + 1) (i := 0) HB6.out (by omega) (.slice A3 (n + i + 1) c3))
      have r0 := blk_cell BR6.out 0 (.slice none 0 0) rfl
      have f0 := blk_free BR6.out 0
      clear hown hb hg hat HO HB4 hbs hlt BR5 hne BR6 HB6
      go_wp2
      refine bodyPost_ret (results_cell_row rfl _ _ (w.heap.size + 1 + 1) 24 #[.slice A3 (n + i + 1) c3] (0, 0) _ rfl BR7.out Tryz.underlying24 rfl (by kernel_rfl)) rfl ?_
      exact ⟨⟨_, rfl, HO6.out⟩, HB7.out⟩
end Go.Proofs.YtaaihcojedibeaaGreatDoor.DJoin
end
section
/- The document's text of a byte. -/
namespace Go.Proofs.YtaaihcojedibeaaGreatDoor.RText
open Go.RowKit CMem SText
set_option linter.unusedVariables false
set_option linter.unusedSimpArgs false
set_option maxRecDepth 100000
theorem four_bytes (a b c d : UInt8) (W : World) (P : Nat) (h0 : W.cell? ⟨P, 0, none⟩ = some (.int .u8 (a.toNat : Nat))) (h1 : W.cell? ⟨P, 1, none⟩ = some (.int .u8 (b.toNat : Nat))) (h2 : W.cell? ⟨P, 2, none⟩ = some (.int .u8 (c.toNat : Nat))) (h3 : W.cell? ⟨P, 3, none⟩ = some (.int .u8 (d.toNat : Nat))) :
    (convert 80 9 (.slice (some ⟨P, 0, none⟩) 4 4)).run Tryz.prog W = .ok (.string ⟨#[a, b, c, d]⟩) W := by
  have h := run_convert_bytes_back (P := Tryz.prog) W 80 9 5 ⟨P, 0, none⟩ 4 [a, b, c, d] Tryz.underlying80 Tryz.underlying5 Tryz.underlying9
  exact h (fun j hj => by
    have hj4 : j < 4 := hj
    rw [show (⟨P, 0, none⟩ : Addr).add j = ⟨P, j, none⟩ by unfold Addr.add; split <;> simp_all]
    match j, hj4 with
    | 0, _ => exact h0
    | 1, _ => exact h1
    | 2, _ => exact h2
    | 3, _ => exact h3)
set_option maxHeartbeats 6400000 in
theorem rtext_plain (c : Nat) (hc : c < 256) (h : pc c = true) (w : World) : Calls Tryz.prog 21 #[.int .u8 (c : Nat)] w fun e w' => e = .returned (.string ⟨#[UInt8.ofNat c]⟩) ∧ Below w.heap.size w w' := by
  have hcase : (97 ≤ c ∧ c ≤ 122) ∨ (65 ≤ c ∧ c ≤ 90) ∨ (48 ≤ c ∧ c ≤ 57) ∨ c = 95 ∨ c = 32 := by
    unfold pc at h
    simp only [Bool.or_eq_true, Bool.and_eq_true, decide_eq_true_eq, beq_iff_eq] at h
    omega
  have hk := one_byte c hc w
  have hB := Lib.hid (below1 w (.cells #[.int .u8 (c : Nat)] 5))
  clear h
  rcases hcase with h | h | h | h | h
  · have f1 : (97 : Int) ≤ c := by omega
    have f2 : (c : Int) ≤ 122 := by omega
    go_enter Tryz.func21, Tryz.ntmps21
    go_wp2
    go_ret
    exact ⟨rfl, hB.out⟩
  · have f1 : ¬ (97 : Int) ≤ c := by omega
    have f2 : (65 : Int) ≤ c := by omega
    have f3 : (c : Int) ≤ 90 := by omega
    go_enter Tryz.func21, Tryz.ntmps21
    go_wp2
    go_ret
    exact ⟨rfl, hB.out⟩
  · have f1 : ¬ (97 : Int) ≤ c := by omega
    have f2 : ¬ (65 : Int) ≤ c := by omega
    have f3 : (48 : Int) ≤ c := by omega
    have f4 : (c : Int) ≤ 57 := by omega
    go_enter Tryz.func21, Tryz.ntmps21
    go_wp2
    go_ret
    exact ⟨rfl, hB.out⟩
  · have f1 : ¬ (97 : Int) ≤ c := by omega
    have f2 : (65 : Int) ≤ c := by omega
    have f3 : ¬ (c : Int) ≤ 90 := by omega
    have f4 : (48 : Int) ≤ c := by omega
    have f5 : ¬ (c : Int) ≤ 57 := by omega
    have f6 : ((c : Int) == 95) = true := by simp; omega
    clear h
    go_enter Tryz.func21, Tryz.ntmps21
    go_wp2
    go_ret
    exact ⟨rfl, hB.out⟩
  · have f1 : ¬ (97 : Int) ≤ c := by omega
    have f2 : ¬ (65 : Int) ≤ c := by omega
    have f4 : ¬ (48 : Int) ≤ c := by omega
    have f6 : ((c : Int) == 95) = false := by simp; omega
    have f7 : ((c : Int) == 32) = true := by simp; omega
    clear h
    go_enter Tryz.func21, Tryz.ntmps21
    go_wp2
    go_ret
    exact ⟨rfl, hB.out⟩
theorem dg_at : ∀ q (h : q < 16), (({ data := #[48, 49, 50, 51, 52, 53, 54, 55, 56, 57, 97, 98, 99, 100, 101, 102] } : ByteArray)[q]'h) = hx q := by decide
set_option maxHeartbeats 6400000 in
theorem rtext_hex (c : Nat) (hc : c < 256) (h : ¬ pc c = true) (w : World) : Calls Tryz.prog 21 #[.int .u8 (c : Nat)] w fun e w' => e = .returned (.string ⟨#[92, 120, hx (c / 16), hx (c % 16)]⟩) ∧ Below w.heap.size w w' := by
  have hcase : c < 32 ∨ (32 < c ∧ c < 48) ∨ (57 < c ∧ c < 65) ∨ (90 < c ∧ c < 95) ∨ c = 96 ∨ 122 < c := by
    unfold pc at h
    simp only [Bool.or_eq_true, Bool.and_eq_true, decide_eq_true_eq, beq_iff_eq] at h
    omega
  have n1 : ((c : Int) == 95) = false := by simp; intro e; apply h; rw [show c = 95 by omega]; rfl
  have n2 : ((c : Int) == 32) = false := by simp; intro e; apply h; rw [show c = 32 by omega]; rfl
  have hfour : ((c : Int) < 97 ∧ (c : Int) < 65 ∧ (c : Int) < 48) ∨ ((c : Int) < 97 ∧ (c : Int) < 65 ∧ 48 ≤ (c : Int) ∧ 57 < (c : Int)) ∨ ((c : Int) < 97 ∧ 65 ≤ (c : Int) ∧ 90 < (c : Int) ∧ 48 ≤ (c : Int) ∧ 57 < (c : Int)) ∨ (97 ≤ (c : Int) ∧ 122 < (c : Int) ∧ 65 ≤ (c : Int) ∧ 90 < (c : Int) ∧ 48 ≤ (c : Int) ∧ 57 < (c : Int)) := by omega
  obtain ⟨q, hq⟩ : ∃ q, c / 16 = q := ⟨_, rfl⟩
  obtain ⟨r, hr⟩ : ∃ q, c % 16 = q := ⟨_, rfl⟩
  have q1 : (c : Int) / 16 = (q : Nat) := by omega
  have r1 : (c : Int) % 16 = (r : Nat) := by omega
  have q16 : (q : Int) < 16 := by omega
  have r16 : (r : Int) < 16 := by omega
  have q16n : q < 16 := by omega
  have r16n : r < 16 := by omega
  have g1 := dg_at q q16n
  have g2 := dg_at r r16n
  have B0 := heap_alloc_new w (.cells #[.int .u8 92, .int .u8 120, .int .u8 ((hx q).toNat : Nat), .int .u8 ((hx r).toNat : Nat)] 5)
  have K := four_bytes 92 120 (hx q) (hx r) (w.alloc (.cells #[.int .u8 92, .int .u8 120, .int .u8 ((hx q).toNat : Nat), .int .u8 ((hx r).toNat : Nat)] 5)).drew w.heap.size (blk_cell B0 0 _ rfl) (blk_cell B0 1 _ rfl) (blk_cell B0 2 _ rfl) (blk_cell B0 3 _ rfl)
  have hB := Lib.hid (below1 w (.cells #[.int .u8 92, .int .u8 120, .int .u8 ((hx q).toNat : Nat), .int .u8 ((hx r).toNat : Nat)] 5)).drew
  clear B0
  rw [hq, hr]
  generalize hx q = d1 at *
  generalize hx r = d2 at *
  clear hcase hq hr h
  rcases hfour with ⟨f1, f2, f3⟩ | ⟨f1, f2, f3, f4⟩ | ⟨f1, f2, f3, f4, f5⟩ | ⟨f1, f2, f3, f4, f5, f6⟩
  all_goals
    go_enter Tryz.func21, Tryz.ntmps21
    go_wp2
    go_region
    all_goals try go_wp2
    all_goals go_ret
    all_goals exact ⟨rfl, hB.out⟩
theorem rtext_calls (c : Nat) (hc : c < 256) (w : World) : Calls Tryz.prog 21 #[.int .u8 (c : Nat)] w fun e w' => e = .returned (.string (txt c)) ∧ Below w.heap.size w w' := by
  unfold txt
  by_cases h : pc c = true
  · rw [if_pos h]; exact rtext_plain c hc h w
  · rw [if_neg h]; exact rtext_hex c hc h w
end Go.Proofs.YtaaihcojedibeaaGreatDoor.RText
end
section
/- Decimal numerals: what they are made of; unlike numbers have unlike ones. -/
namespace Go.Proofs.YtaaihcojedibeaaGreatDoor.HNum
set_option maxRecDepth 100000
open Go.Lib
theorem dec_small {u : Nat} (h : u < 10) : decDigits u = [UInt8.ofNat (48 + u)] := by rw [decDigits, dif_pos h]
theorem dec_big {u : Nat} (h : ¬ u < 10) : decDigits u = decDigits (u / 10) ++ [UInt8.ofNat (48 + u % 10)] := by rw [decDigits, dif_neg h]
theorem dec_ne (u : Nat) : decDigits u ≠ [] := by
  by_cases h : u < 10
  · rw [dec_small h]; simp
  · rw [dec_big h]; simp
theorem dig_toNat (d : Nat) (h : d < 10) : (UInt8.ofNat (48 + d)).toNat = 48 + d := by
  rw [UInt8.toNat_ofNat']; omega
theorem dec_range (u : Nat) : ∀ c ∈ decDigits u, 48 ≤ c.toNat ∧ c.toNat ≤ 57 := by
  induction u using Nat.strongRecOn with
  | _ u ih =>
    intro c hc
    by_cases h : u < 10
    · rw [dec_small h, List.mem_singleton] at hc
      subst hc
      rw [dig_toNat u h]
      omega
    · rw [dec_big h, List.mem_append, List.mem_singleton] at hc
      rcases hc with hc | hc
      · exact ih (u / 10) (by omega) c hc
      · subst hc
        rw [dig_toNat _ (by omega)]
        omega
/-- the number that digits are -/
def decVal (l : List UInt8) : Nat := l.foldl (fun a c => a * 10 + (c.toNat - 48)) 0
theorem dec_val (u : Nat) : decVal (decDigits u) = u := by
  induction u using Nat.strongRecOn with
  | _ u ih =>
    by_cases h : u < 10
    · rw [dec_small h]
      show 0 * 10 + ((UInt8.ofNat (48 + u)).toNat - 48) = u
      rw [dig_toNat u h]
      omega
    · rw [dec_big h]
      have := ih (u / 10) (by omega)
      unfold decVal at this ⊢
      rw [List.foldl_append, this]
      show u / 10 * 10 + ((UInt8.ofNat (48 + u % 10)).toNat - 48) = u
      rw [dig_toNat _ (by omega)]
      omega
theorem dec_inj {u v : Nat} (h : decDigits u = decDigits v) : u = v := by rw [← dec_val u, ← dec_val v, h]
theorem itoa_ne (n : Int) : itoa n ≠ [] := by
  unfold itoa
  split
  · simp
  · exact dec_ne _
theorem itoa_mem (n : Int) : ∀ c ∈ itoa n, c = 45 ∨ (48 ≤ c.toNat ∧ c.toNat ≤ 57) := by
  intro c hc
  unfold itoa at hc
  split at hc
  · rcases List.mem_cons.1 hc with h | h
    · exact .inl h
    · exact .inr (dec_range _ c h)
  · exact .inr (dec_range _ c hc)
theorem itoa_inj {a b : Int} (h : itoa a = itoa b) : a = b := by
  have hd : ∀ u v : Nat, (45 : UInt8) :: decDigits u ≠ decDigits v := fun u v e => by
    have := dec_range v 45 (by rw [← e]; exact List.mem_cons_self)
    simp at this
  unfold itoa at h
  split at h <;> split at h
  · have := dec_inj (List.cons.inj h).2
    omega
  · exact absurd h (hd _ _)
  · exact absurd h.symm (hd _ _)
  · have := dec_inj h
    omega
theorem itoa_no {n : Int} {c : UInt8} (h : c ≠ 45) (h2 : c.toNat < 48 ∨ 57 < c.toNat) : c ∉ itoa n := fun hc => by
  rcases itoa_mem n c hc with e | e
  · exact h e
  · omega
theorem itoa_small {n : Int} (h0 : -10 < n) (h1 : n < 10) : itoa n = if n < 0 then [45, UInt8.ofNat (48 + n.natAbs)] else [UInt8.ofNat (48 + n.natAbs)] := by
  unfold itoa
  by_cases h : n < 0
  · rw [if_pos h, if_pos h, dec_small (by omega)]
  · rw [if_neg h, if_neg h, dec_small (by omega), show n.toNat = n.natAbs by omega]
theorem itoa_step {n : Int} (h : Int.tdiv n 10 ≠ 0) : itoa n = itoa (Int.tdiv n 10) ++ [UInt8.ofNat (48 + (Int.tmod n 10).natAbs)] := by
  have e1 := Int.natAbs_tdiv n 10
  have e2 := Int.natAbs_tmod n 10
  have hbig : ¬ n.natAbs < 10 := fun hl => h (by
    have : (Int.tdiv n 10).natAbs = 0 := by rw [e1]; exact Nat.div_eq_of_lt (by simpa using hl)
    omega)
  have e1' : (Int.tdiv n 10).natAbs = n.natAbs / 10 := e1
  have e2' : (Int.tmod n 10).natAbs = n.natAbs % 10 := e2
  unfold itoa
  by_cases hn : n < 0
  · have hq : Int.tdiv n 10 < 0 := by
      have : 0 ≤ Int.tdiv (-n) 10 := Int.tdiv_nonneg (by omega) (by decide)
      rw [Int.neg_tdiv] at this
      omega
    rw [if_pos hn, if_pos hq, dec_big hbig, e1', e2']
    rfl
  · have hq : ¬ Int.tdiv n 10 < 0 := by
      have : 0 ≤ Int.tdiv n 10 := Int.tdiv_nonneg (by omega) (by decide)
      omega
    rw [if_neg hn, if_neg hq, show n.toNat = n.natAbs by omega, show (Int.tdiv n 10).toNat = (Int.tdiv n 10).natAbs by omega, dec_big hbig, e1', e2']
end Go.Proofs.YtaaihcojedibeaaGreatDoor.HNum
end
section
/- The document's Kids. -/
namespace Go.Proofs.YtaaihcojedibeaaGreatDoor.DRJoin
set_option maxRecDepth 100000
open Go.RowKit CMem DRow DDeep DSizes DFits DLens DSpec Q Go.Proofs.YtaaihcojedibeaaGreatDoorW.PrintWords
set_option linter.unusedVariables false
set_option linter.unusedSimpArgs false
theorem rkids_f (k : Int) : clewref05_Kids.f 2 k = some (kd k) := by
  unfold kd
  simp only [clewref05_Kids.f, clewref05_Kids.j0]
  by_cases h8 : k = 8
  · simp [h8]
  by_cases h9 : k = 9
  · simp [h9]
  rw [if_neg h8, if_neg (show ¬ (k = 8 ∨ k = 9) by omega)]
  have e9 : (k == 9) = false := by simp [h9]
  rw [e9]
  by_cases h : k = 10 ∨ k = 11 ∨ k = 13 ∨ k = 14 ∨ k = 15 ∨ k = 16 ∨ k = 17
  · rw [if_pos h]
    rcases h with h | h | h | h | h | h | h <;> subst h <;> rfl
  · rw [if_neg h]
    have h10 : k ≠ 10 := by omega
    have h11 : k ≠ 11 := by omega
    simp [h10, h11]
    omega
theorem rkids_calls (k : Int) (w : World) : Calls Tryz.prog 37 #[.int .i64 k] w fun e w' => e = .returned (.int .i64 (kd k)) ∧ Below w.heap.size w w' :=
  (clewref05_Kids.calls 2 k (kd k) w (rkids_f k)).mono fun e w' h => ⟨h.1, h.2.below⟩
end Go.Proofs.YtaaihcojedibeaaGreatDoor.DRJoin
end
section
/- A tree for the document: its nodes. -/
namespace Go.Proofs.YtaaihcojedibeaaGreatDoor.ROd
set_option maxRecDepth 100000
open Go.RowKit CMem DRow DDeep DSizes DSpec Q Go.Proofs.YtaaihcojedibeaaGreatDoorW.PrintWords
set_option linter.unusedVariables false
set_option linter.unusedSimpArgs false
/-- a node, for the document -/
def od (x : S49) : S46 := ⟨x.f0, x.f1, x.f2, x.f3.f0, x.f4, x.f5, x.f6, x.f7, x.f8⟩
/-- and back -/
def un (x : S46) : S49 := ⟨x.f0, x.f1, x.f2, ⟨x.f3⟩, x.f4, x.f5, x.f6, x.f7, x.f8⟩
theorem un_od (L : List S49) : (L.map od).map un = L := by
  rw [List.map_map]
  have : un ∘ od = id := by funext x; rfl
  rw [this, List.map_id]
theorem od_un (L : List S46) : (L.map un).map od = L := by
  rw [List.map_map]
  have : od ∘ un = id := by funext x; rfl
  rw [this, List.map_id]
theorem rd_one (L : List S49) (i : Nat) (h : i < L.length) : rd_T46 (L.map od) i = od (rd_T49 L i) := by
  unfold rd_T46 rd_T49
  rw [Int.toNat_natCast, List.getD_eq_getElem?_getD, List.getD_eq_getElem?_getD, List.getElem?_map, List.getElem?_eq_getElem h]
  rfl
/-- a node's cells -/
abbrev Rn (w : World) (q : Addr) (z : S49) : Prop := w.cell? q = some (.int .i64 z.f0) ∧ w.cell? ⟨q.block, q.off + 1, none⟩ = some (.int .i64 z.f1) ∧ w.cell? ⟨q.block, q.off + 2, none⟩ = some (.int .i64 z.f2) ∧ w.cell? ⟨q.block, q.off + 3, none⟩ = some (.int .u64 z.f3.f0.f0) ∧ w.cell? ⟨q.block, q.off + 4, none⟩ = some (.int .u64 z.f3.f0.f1) ∧ w.cell? ⟨q.block, q.off + 5, none⟩ = some (.int .u64 z.f3.f0.f2) ∧ w.cell? ⟨q.block, q.off + 6, none⟩ = some (.int .u64 z.f3.f0.f3) ∧ w.cell? ⟨q.block, q.off + 7, none⟩ = some (.int .i64 z.f4) ∧ w.cell? ⟨q.block, q.off + 8, none⟩ = some (.int .i64 z.f5) ∧ w.cell? ⟨q.block, q.off + 9, none⟩ = some (.int .i64 z.f6) ∧ w.cell? ⟨q.block, q.off + 10, none⟩ = some (.int .i64 z.f7) ∧ w.cell? ⟨q.block, q.off + 11, none⟩ = some (.bool z.f8)
theorem rat {w : World} {A : Option Addr} {n : Nat} {L : List S49} (hr : Kd.C k46 w A n (L.map od)) (hn : L.length = n) (i : Nat) (hi : i < n) : ∃ ad, A = some ad ∧ Rn w (ad.add (i * 12)) (rd_T49 L i) := by
  obtain ⟨ad, hA, a0, a1, a2, a3, a4, a5, a6, a7, a8, a9, a10, a11⟩ := at_T46 hr (i : Int) (by omega) (by omega)
  rw [Int.toNat_natCast] at a0 a1 a2 a3 a4 a5 a6 a7 a8 a9 a10 a11
  rw [rd_one L i (by omega)] at a0 a1 a2 a3 a4 a5 a6 a7 a8 a9 a10 a11
  exact ⟨ad, hA, a0, a1, a2, a3, a4, a5, a6, a7, a8, a9, a10, a11⟩
end Go.Proofs.YtaaihcojedibeaaGreatDoor.ROd
end
section
/- The document's Lens: its walk. -/
namespace Go.Proofs.YtaaihcojedibeaaGreatDoor.DLensR
open Go.RowKit CMem DRow DDeep DSizes DFits DLens DSpec ROd Q Go.Proofs.YtaaihcojedibeaaGreatDoorW.PrintWords Go.Proofs.YtaaihcojedibeaaGreatDoorW.PrintLast Go.Proofs.YtaaihcojedibeaaGreatDoorW.PrintMore
set_option linter.unusedVariables false
set_option linter.unusedSimpArgs false
set_option maxRecDepth 100000
theorem mx_max (a b : Int) : mx a b = max a b := by unfold mx; omega
theorem mn_min (a b : Int) : mn a b = min a b := by unfold mn; omega
theorem plus_f (a b : Int) (ha : bnd a) (hb : bnd b) : clewref05_Plus.f a b = some (pl a b) := by
  unfold clewref05_Plus.f pl bnd at *
  by_cases h1 : a = -1
  · rw [if_pos (by omega), if_pos h1]
  · rw [if_neg (by omega), if_neg h1]
    by_cases h2 : b = -1
    · rw [if_pos (by omega), if_pos h2]
    · rw [if_neg (by omega), if_neg h2, mn_min]
      congr 2
      unfold wrap64; omega
theorem times_f (k : Nat) (a b : Int) (ha : bnd a) (hb : -1 ≤ b ∧ b ≤ 100) : clewref05_Times.f (k + 2) a b = some (tm a b) := by
  have hb' : bnd a := ha
  unfold bnd at ha
  unfold tm
  rw [show k + 2 = (k + 1) + 1 from rfl]
  simp only [clewref05_Times.f, clewref05_Times.j0]
  by_cases h1 : a = 0
  · rw [if_pos h1, if_pos trivial, if_pos (Or.inl h1)]
  · rw [if_neg h1]
    by_cases h2 : b = 0
    · have e : (b == 0) = true := by simp [h2]
      rw [e, if_pos rfl, if_pos (Or.inr h2)]
    · have e : (b == 0) = false := by simp [h2]
      rw [e, if_neg (show ¬ (false = true) by decide), if_neg (show ¬ (a = 0 ∨ b = 0) by omega)]
      by_cases h3 : a = -1
      · rw [if_pos (show a < 0 by omega), if_pos h3]
        try rfl
      · rw [if_neg (show ¬ a < 0 by omega), if_neg h3]
        by_cases h4 : b = -1
        · rw [if_pos h4]
          simp [h4]
        · rw [if_neg h4]
          have hr := tm_rng hb' hb h3 h4
          have hE : mn (wrap64 (a * b)) 1048576 = min (a * b) 1048576 := by
            rw [mn_min]
            generalize a * b = q at *
            unfold wrap64
            omega
          simp [hE, show ¬ b < 0 by omega]
theorem rplus_calls (a b : Int) (ha : bnd a) (hb : bnd b) (w : World) : Calls Tryz.prog 64 #[.int .i64 a, .int .i64 b] w fun e w' => e = .returned (.int .i64 (pl a b)) ∧ Below w.heap.size w w' :=
  (clewref05_Plus.calls a b _ w (plus_f a b ha hb)).mono fun e w' h => ⟨h.1, by first | exact h.2 | exact h.2.below⟩
theorem rtimes_calls (a b : Int) (ha : bnd a) (hb : -1 ≤ b ∧ b ≤ 100) (w : World) : Calls Tryz.prog 65 #[.int .i64 a, .int .i64 b] w fun e w' => e = .returned (.int .i64 (tm a b)) ∧ Below w.heap.size w w' :=
  (clewref05_Times.calls 2 a b _ w (times_f 0 a b ha hb)).mono fun e w' h => ⟨h.1, by first | exact h.2 | exact h.2.below⟩
set_option maxHeartbeats 6400000 in
theorem l1 (n c i : Nat) (hi : i < n) (ad : Addr) (s0 s1 s2 s3 x4 x5 x6 x7 : Int) (x8 : Bool) (w : World) (A B : Int) (hR : Rn w (ad.add (i * 12)) ⟨1, A, B, ⟨⟨s0, s1, s2, s3⟩⟩, x4, x5, x6, x7, x8⟩) :
    Calls Tryz.prog 34 #[.slice (some ad) n c, .int .i64 (i : Nat)] w fun e w' => e = .returned (.tuple #[.int .i64 1, .int .i64 1]) ∧ Below w.heap.size w w' := by
  obtain ⟨a0, a1, a2, a3, a4, a5, a6, a7, a8, a9, a10, a11⟩ := hR
  simp only [] at a0 a1 a2 a3 a4 a5 a6 a7 a8 a9 a10 a11
  have hi2 : (i : Int) < (n : Int) := by omega
  have B0 := Lib.hid (heap_alloc_new w (.cells #[.int .i64 1, .int .i64 A, .int .i64 B, .int .u64 s0, .int .u64 s1, .int .u64 s2, .int .u64 s3, .int .i64 x4, .int .i64 x5, .int .i64 x6, .int .i64 x7, .bool x8] 46))
  have HB0 := Lib.hid (below1 w (.cells #[.int .i64 1, .int .i64 A, .int .i64 B, .int .u64 s0, .int .u64 s1, .int .u64 s2, .int .u64 s3, .int .i64 x4, .int .i64 x5, .int .i64 x6, .int .i64 x7, .bool x8] 46))
  go_enter Tryz.func34, Tryz.ntmps34
  go_wp2
  go_ret2
  exact ⟨rfl, HB0.out⟩
set_option maxHeartbeats 6400000 in
theorem l12 (n c i : Nat) (hi : i < n) (ad : Addr) (s0 s1 s2 s3 x4 x5 x6 x7 : Int) (x8 : Bool) (w : World) (A B : Int) (hR : Rn w (ad.add (i * 12)) ⟨12, A, B, ⟨⟨s0, s1, s2, s3⟩⟩, x4, x5, x6, x7, x8⟩) :
    Calls Tryz.prog 34 #[.slice (some ad) n c, .int .i64 (i : Nat)] w fun e w' => e = .returned (.tuple #[.int .i64 0, .int .i64 (-1)]) ∧ Below w.heap.size w w' := by
  obtain ⟨a0, a1, a2, a3, a4, a5, a6, a7, a8, a9, a10, a11⟩ := hR
  simp only [] at a0 a1 a2 a3 a4 a5 a6 a7 a8 a9 a10 a11
  have hi2 : (i : Int) < (n : Int) := by omega
  have B0 := Lib.hid (heap_alloc_new w (.cells #[.int .i64 12, .int .i64 A, .int .i64 B, .int .u64 s0, .int .u64 s1, .int .u64 s2, .int .u64 s3, .int .i64 x4, .int .i64 x5, .int .i64 x6, .int .i64 x7, .bool x8] 46))
  have HB0 := Lib.hid (below1 w (.cells #[.int .i64 12, .int .i64 A, .int .i64 B, .int .u64 s0, .int .u64 s1, .int .u64 s2, .int .u64 s3, .int .i64 x4, .int .i64 x5, .int .i64 x6, .int .i64 x7, .bool x8] 46))
  go_enter Tryz.func34, Tryz.ntmps34
  go_wp2
  go_ret2
  exact ⟨rfl, HB0.out⟩
set_option maxHeartbeats 6400000 in
theorem l0 (n c i : Nat) (hi : i < n) (ad : Addr) (s0 s1 s2 s3 x4 x5 x6 x7 : Int) (x8 : Bool) (w : World) (k A B : Int) (e1 : (k == 1) = false) (e2 : (k == 12) = false) (e3 : (k == 8) = false) (e4 : (k == 9) = false) (e5 : (k == 10) = false) (e6 : (k == 11) = false) (e7 : (k == 17) = false) (hR : Rn w (ad.add (i * 12)) ⟨k, A, B, ⟨⟨s0, s1, s2, s3⟩⟩, x4, x5, x6, x7, x8⟩) :
    Calls Tryz.prog 34 #[.slice (some ad) n c, .int .i64 (i : Nat)] w fun e w' => e = .returned (.tuple #[.int .i64 0, .int .i64 0]) ∧ Below w.heap.size w w' := by
  obtain ⟨a0, a1, a2, a3, a4, a5, a6, a7, a8, a9, a10, a11⟩ := hR
  simp only [] at a0 a1 a2 a3 a4 a5 a6 a7 a8 a9 a10 a11
  have hi2 : (i : Int) < (n : Int) := by omega
  have B0 := Lib.hid (heap_alloc_new w (.cells #[.int .i64 k, .int .i64 A, .int .i64 B, .int .u64 s0, .int .u64 s1, .int .u64 s2, .int .u64 s3, .int .i64 x4, .int .i64 x5, .int .i64 x6, .int .i64 x7, .bool x8] 46))
  have HB0 := Lib.hid (below1 w (.cells #[.int .i64 k, .int .i64 A, .int .i64 B, .int .u64 s0, .int .u64 s1, .int .u64 s2, .int .u64 s3, .int .i64 x4, .int .i64 x5, .int .i64 x6, .int .i64 x7, .bool x8] 46))
  go_enter Tryz.func34, Tryz.ntmps34
  go_wp2
  go_ret2
  exact ⟨rfl, HB0.out⟩
set_option maxHeartbeats 6400000 in
theorem l11 (n c i : Nat) (hi : i < n) (ad : Addr) (s0 s1 s2 s3 x4 x5 x6 x7 : Int) (x8 : Bool) (w : World) (a : Nat) (B p q : Int) (Ha : Hid (∀ W, Below w.heap.size w W → Calls Tryz.prog 34 #[.slice (some ad) n c, .int .i64 (a : Nat)] W fun e W' => e = .returned (.tuple #[.int .i64 p, .int .i64 q]) ∧ Below W.heap.size W W')) (hR : Rn w (ad.add (i * 12)) ⟨11, (a : Nat), B, ⟨⟨s0, s1, s2, s3⟩⟩, x4, x5, x6, x7, x8⟩) :
    Calls Tryz.prog 34 #[.slice (some ad) n c, .int .i64 (i : Nat)] w fun e w' => e = .returned (.tuple #[.int .i64 p, .int .i64 q]) ∧ Below w.heap.size w w' := by
  obtain ⟨a0, a1, a2, a3, a4, a5, a6, a7, a8, a9, a10, a11⟩ := hR
  simp only [] at a0 a1 a2 a3 a4 a5 a6 a7 a8 a9 a10 a11
  have hi2 : (i : Int) < (n : Int) := by omega
  have B0 := Lib.hid (heap_alloc_new w (.cells #[.int .i64 11, .int .i64 (a : Nat), .int .i64 B, .int .u64 s0, .int .u64 s1, .int .u64 s2, .int .u64 s3, .int .i64 x4, .int .i64 x5, .int .i64 x6, .int .i64 x7, .bool x8] 46))
  have HB0 := Lib.hid (below1 w (.cells #[.int .i64 11, .int .i64 (a : Nat), .int .i64 B, .int .u64 s0, .int .u64 s1, .int .u64 s2, .int .u64 s3, .int .i64 x4, .int .i64 x5, .int .i64 x6, .int .i64 x7, .bool x8] 46))
  go_enter Tryz.func34, Tryz.ntmps34
  go_wp2_with fail
  refine (Ha.out _ HB0.out).mono ?_
  rintro e w1 ⟨rfl, hb⟩
  have B1 := Lib.hid (below_blk hb B0.out)
  have HB1 := Lib.hid (below_step HB0.out hb)
  have m0_1 := blk_cell B1.out 0 (.int .i64 11) rfl
  clear hb B0 HB0
  go_wp2
  go_ret2
  exact ⟨rfl, HB1.out⟩
set_option maxHeartbeats 6400000 in
theorem l17 (n c i : Nat) (hi : i < n) (ad : Addr) (s0 s1 s2 s3 x4 x5 x6 x7 : Int) (x8 : Bool) (w : World) (a : Nat) (B p q : Int) (Ha : Hid (∀ W, Below w.heap.size w W → Calls Tryz.prog 34 #[.slice (some ad) n c, .int .i64 (a : Nat)] W fun e W' => e = .returned (.tuple #[.int .i64 p, .int .i64 q]) ∧ Below W.heap.size W W')) (hR : Rn w (ad.add (i * 12)) ⟨17, (a : Nat), B, ⟨⟨s0, s1, s2, s3⟩⟩, x4, x5, x6, x7, x8⟩) :
    Calls Tryz.prog 34 #[.slice (some ad) n c, .int .i64 (i : Nat)] w fun e w' => e = .returned (.tuple #[.int .i64 p, .int .i64 q]) ∧ Below w.heap.size w w' := by
  obtain ⟨a0, a1, a2, a3, a4, a5, a6, a7, a8, a9, a10, a11⟩ := hR
  simp only [] at a0 a1 a2 a3 a4 a5 a6 a7 a8 a9 a10 a11
  have hi2 : (i : Int) < (n : Int) := by omega
  have B0 := Lib.hid (heap_alloc_new w (.cells #[.int .i64 17, .int .i64 (a : Nat), .int .i64 B, .int .u64 s0, .int .u64 s1, .int .u64 s2, .int .u64 s3, .int .i64 x4, .int .i64 x5, .int .i64 x6, .int .i64 x7, .bool x8] 46))
  have HB0 := Lib.hid (below1 w (.cells #[.int .i64 17, .int .i64 (a : Nat), .int .i64 B, .int .u64 s0, .int .u64 s1, .int .u64 s2, .int .u64 s3, .int .i64 x4, .int .i64 x5, .int .i64 x6, .int .i64 x7, .bool x8] 46))
  go_enter Tryz.func34, Tryz.ntmps34
  go_wp2_with fail
  refine (Ha.out _ HB0.out).mono ?_
  rintro e w1 ⟨rfl, hb⟩
  have B1 := Lib.hid (below_blk hb B0.out)
  have HB1 := Lib.hid (below_step HB0.out hb)
  have m0_1 := blk_cell B1.out 0 (.int .i64 17) rfl
  clear hb B0 HB0
  go_wp2
  go_ret2
  exact ⟨rfl, HB1.out⟩
set_option maxHeartbeats 6400000 in
theorem l8 (n c i : Nat) (hi : i < n) (ad : Addr) (s0 s1 s2 s3 x4 x5 x6 x7 : Int) (x8 : Bool) (w : World) (a b : Nat) (p q r t : Int) (Ha : Hid (∀ W, Below w.heap.size w W → Calls Tryz.prog 34 #[.slice (some ad) n c, .int .i64 (a : Nat)] W fun e W' => e = .returned (.tuple #[.int .i64 p, .int .i64 q]) ∧ Below W.heap.size W W')) (Hb : Hid (∀ W, Below w.heap.size w W → Calls Tryz.prog 34 #[.slice (some ad) n c, .int .i64 (b : Nat)] W fun e W' => e = .returned (.tuple #[.int .i64 r, .int .i64 t]) ∧ Below W.heap.size W W')) (u v : Int) (P1 : Hid (∀ W, Calls Tryz.prog 64 #[.int .i64 p, .int .i64 r] W fun e W' => e = .returned (.int .i64 u) ∧ Below W.heap.size W W')) (P2 : Hid (∀ W, Calls Tryz.prog 64 #[.int .i64 q, .int .i64 t] W fun e W' => e = .returned (.int .i64 v) ∧ Below W.heap.size W W')) (hR : Rn w (ad.add (i * 12)) ⟨8, (a : Nat), (b : Nat), ⟨⟨s0, s1, s2, s3⟩⟩, x4, x5, x6, x7, x8⟩) :
    Calls Tryz.prog 34 #[.slice (some ad) n c, .int .i64 (i : Nat)] w fun e w' => e = .returned (.tuple #[.int .i64 u, .int .i64 v]) ∧ Below w.heap.size w w' := by
  obtain ⟨a0, a1, a2, a3, a4, a5, a6, a7, a8, a9, a10, a11⟩ := hR
  simp only [] at a0 a1 a2 a3 a4 a5 a6 a7 a8 a9 a10 a11
  have hi2 : (i : Int) < (n : Int) := by omega
  have B0 := Lib.hid (heap_alloc_new w (.cells #[.int .i64 8, .int .i64 (a : Nat), .int .i64 (b : Nat), .int .u64 s0, .int .u64 s1, .int .u64 s2, .int .u64 s3, .int .i64 x4, .int .i64 x5, .int .i64 x6, .int .i64 x7, .bool x8] 46))
  have HB0 := Lib.hid (below1 w (.cells #[.int .i64 8, .int .i64 (a : Nat), .int .i64 (b : Nat), .int .u64 s0, .int .u64 s1, .int .u64 s2, .int .u64 s3, .int .i64 x4, .int .i64 x5, .int .i64 x6, .int .i64 x7, .bool x8] 46))
  go_enter Tryz.func34, Tryz.ntmps34
  go_wp2_with fail
  refine (Ha.out _ HB0.out).mono ?_
  rintro e w1 ⟨rfl, hb⟩
  have B1 := Lib.hid (below_blk hb B0.out)
  have HB1 := Lib.hid (below_step HB0.out hb)
  have m0_1 := blk_cell B1.out 0 (.int .i64 8) rfl
  have m2_1 := blk_cell B1.out 2 (.int .i64 (b : Nat)) rfl
  clear hb B0 HB0
  go_wp2_with fail
  refine (Hb.out _ HB1.out).mono ?_
  rintro e w2 ⟨rfl, hb⟩
  have B2 := Lib.hid (below_blk hb B1.out)
  have HB2 := Lib.hid (below_step HB1.out hb)
  have m0_2 := blk_cell B2.out 0 (.int .i64 8) rfl
  clear hb B1 HB1
  go_wp2_with fail
  refine (P1.out _).mono ?_
  rintro e w3 ⟨rfl, hb⟩
  have B3 := Lib.hid (below_blk hb B2.out)
  have HB3 := Lib.hid (below_step HB2.out hb)
  clear hb B2 HB2
  go_wp2_with fail
  refine (P2.out _).mono ?_
  rintro e w4 ⟨rfl, hb⟩
  have B4 := Lib.hid (below_blk hb B3.out)
  have HB4 := Lib.hid (below_step HB3.out hb)
  clear hb B3 HB3
  go_wp2
  go_ret2
  exact ⟨rfl, HB4.out⟩
set_option maxHeartbeats 6400000 in
theorem l9a (n c i : Nat) (hi : i < n) (ad : Addr) (s0 s1 s2 s3 x4 x5 x6 x7 : Int) (x8 : Bool) (w : World) (a b : Nat) (p q r t : Int) (Ha : Hid (∀ W, Below w.heap.size w W → Calls Tryz.prog 34 #[.slice (some ad) n c, .int .i64 (a : Nat)] W fun e W' => e = .returned (.tuple #[.int .i64 p, .int .i64 q]) ∧ Below W.heap.size W W')) (Hb : Hid (∀ W, Below w.heap.size w W → Calls Tryz.prog 34 #[.slice (some ad) n c, .int .i64 (b : Nat)] W fun e W' => e = .returned (.tuple #[.int .i64 r, .int .i64 t]) ∧ Below W.heap.size W W')) (u : Int) (hu1 : min p r = u) (hu2 : (if p < r then p else r) = u) (hu3 : (if r < p then r else p) = u) (hq : q < 0) (hR : Rn w (ad.add (i * 12)) ⟨9, (a : Nat), (b : Nat), ⟨⟨s0, s1, s2, s3⟩⟩, x4, x5, x6, x7, x8⟩) :
    Calls Tryz.prog 34 #[.slice (some ad) n c, .int .i64 (i : Nat)] w fun e w' => e = .returned (.tuple #[.int .i64 u, .int .i64 (-1)]) ∧ Below w.heap.size w w' := by
  obtain ⟨a0, a1, a2, a3, a4, a5, a6, a7, a8, a9, a10, a11⟩ := hR
  simp only [] at a0 a1 a2 a3 a4 a5 a6 a7 a8 a9 a10 a11
  have hi2 : (i : Int) < (n : Int) := by omega
  have B0 := Lib.hid (heap_alloc_new w (.cells #[.int .i64 9, .int .i64 (a : Nat), .int .i64 (b : Nat), .int .u64 s0, .int .u64 s1, .int .u64 s2, .int .u64 s3, .int .i64 x4, .int .i64 x5, .int .i64 x6, .int .i64 x7, .bool x8] 46))
  have HB0 := Lib.hid (below1 w (.cells #[.int .i64 9, .int .i64 (a : Nat), .int .i64 (b : Nat), .int .u64 s0, .int .u64 s1, .int .u64 s2, .int .u64 s3, .int .i64 x4, .int .i64 x5, .int .i64 x6, .int .i64 x7, .bool x8] 46))
  go_enter Tryz.func34, Tryz.ntmps34
  go_wp2_with fail
  refine (Ha.out _ HB0.out).mono ?_
  rintro e w1 ⟨rfl, hb⟩
  have B1 := Lib.hid (below_blk hb B0.out)
  have HB1 := Lib.hid (below_step HB0.out hb)
  have m0_1 := blk_cell B1.out 0 (.int .i64 9) rfl
  have m2_1 := blk_cell B1.out 2 (.int .i64 (b : Nat)) rfl
  clear hb B0 HB0
  go_wp2_with fail
  refine (Hb.out _ HB1.out).mono ?_
  rintro e w2 ⟨rfl, hb⟩
  have B2 := Lib.hid (below_blk hb B1.out)
  have HB2 := Lib.hid (below_step HB1.out hb)
  have m0_2 := blk_cell B2.out 0 (.int .i64 9) rfl
  clear hb B1 HB1
  go_wp2
  go_ret2
  exact ⟨rfl, HB2.out⟩
set_option maxHeartbeats 6400000 in
theorem l9b (n c i : Nat) (hi : i < n) (ad : Addr) (s0 s1 s2 s3 x4 x5 x6 x7 : Int) (x8 : Bool) (w : World) (a b : Nat) (p q r t : Int) (Ha : Hid (∀ W, Below w.heap.size w W → Calls Tryz.prog 34 #[.slice (some ad) n c, .int .i64 (a : Nat)] W fun e W' => e = .returned (.tuple #[.int .i64 p, .int .i64 q]) ∧ Below W.heap.size W W')) (Hb : Hid (∀ W, Below w.heap.size w W → Calls Tryz.prog 34 #[.slice (some ad) n c, .int .i64 (b : Nat)] W fun e W' => e = .returned (.tuple #[.int .i64 r, .int .i64 t]) ∧ Below W.heap.size W W')) (u : Int) (hu1 : min p r = u) (hu2 : (if p < r then p else r) = u) (hu3 : (if r < p then r else p) = u) (hq : ¬ q < 0) (ht : t < 0) (hR : Rn w (ad.add (i * 12)) ⟨9, (a : Nat), (b : Nat), ⟨⟨s0, s1, s2, s3⟩⟩, x4, x5, x6, x7, x8⟩) :
    Calls Tryz.prog 34 #[.slice (some ad) n c, .int .i64 (i : Nat)] w fun e w' => e = .returned (.tuple #[.int .i64 u, .int .i64 (-1)]) ∧ Below w.heap.size w w' := by
  obtain ⟨a0, a1, a2, a3, a4, a5, a6, a7, a8, a9, a10, a11⟩ := hR
  simp only [] at a0 a1 a2 a3 a4 a5 a6 a7 a8 a9 a10 a11
  have hi2 : (i : Int) < (n : Int) := by omega
  have B0 := Lib.hid (heap_alloc_new w (.cells #[.int .i64 9, .int .i64 (a : Nat), .int .i64 (b : Nat), .int .u64 s0, .int .u64 s1, .int .u64 s2, .int .u64 s3, .int .i64 x4, .int .i64 x5, .int .i64 x6, .int .i64 x7, .bool x8] 46))
  have HB0 := Lib.hid (below1 w (.cells #[.int .i64 9, .int .i64 (a : Nat), .int .i64 (b : Nat), .int .u64 s0, .int .u64 s1, .int .u64 s2, .int .u64 s3, .int .i64 x4, .int .i64 x5, .int .i64 x6, .int .i64 x7, .bool x8] 46))
  go_enter Tryz.func34, Tryz.ntmps34
  go_wp2_with fail
  refine (Ha.out _ HB0.out).mono ?_
  rintro e w1 ⟨rfl, hb⟩
  have B1 := Lib.hid (below_blk hb B0.out)
  have HB1 := Lib.hid (below_step HB0.out hb)
  have m0_1 := blk_cell B1.out 0 (.int .i64 9) rfl
  have m2_1 := blk_cell B1.out 2 (.int .i64 (b : Nat)) rfl
  clear hb B0 HB0
  go_wp2_with fail
  refine (Hb.out _ HB1.out).mono ?_
  rintro e w2 ⟨rfl, hb⟩
  have B2 := Lib.hid (below_blk hb B1.out)
  have HB2 := Lib.hid (below_step HB1.out hb)
  have m0_2 := blk_cell B2.out 0 (.int .i64 9) rfl
  clear hb B1 HB1
  go_wp2
  go_ret2
  exact ⟨rfl, HB2.out⟩
set_option maxHeartbeats 6400000 in
theorem l9c (n c i : Nat) (hi : i < n) (ad : Addr) (s0 s1 s2 s3 x4 x5 x6 x7 : Int) (x8 : Bool) (w : World) (a b : Nat) (p q r t : Int) (Ha : Hid (∀ W, Below w.heap.size w W → Calls Tryz.prog 34 #[.slice (some ad) n c, .int .i64 (a : Nat)] W fun e W' => e = .returned (.tuple #[.int .i64 p, .int .i64 q]) ∧ Below W.heap.size W W')) (Hb : Hid (∀ W, Below w.heap.size w W → Calls Tryz.prog 34 #[.slice (some ad) n c, .int .i64 (b : Nat)] W fun e W' => e = .returned (.tuple #[.int .i64 r, .int .i64 t]) ∧ Below W.heap.size W W')) (u : Int) (hu1 : min p r = u) (hu2 : (if p < r then p else r) = u) (hu3 : (if r < p then r else p) = u) (v : Int) (hv1 : max q t = v) (hv2 : (if q < t then t else q) = v) (hv3 : (if t < q then q else t) = v) (hq : ¬ q < 0) (ht : ¬ t < 0) (hR : Rn w (ad.add (i * 12)) ⟨9, (a : Nat), (b : Nat), ⟨⟨s0, s1, s2, s3⟩⟩, x4, x5, x6, x7, x8⟩) :
    Calls Tryz.prog 34 #[.slice (some ad) n c, .int .i64 (i : Nat)] w fun e w' => e = .returned (.tuple #[.int .i64 u, .int .i64 v]) ∧ Below w.heap.size w w' := by
  obtain ⟨a0, a1, a2, a3, a4, a5, a6, a7, a8, a9, a10, a11⟩ := hR
  simp only [] at a0 a1 a2 a3 a4 a5 a6 a7 a8 a9 a10 a11
  have hi2 : (i : Int) < (n : Int) := by omega
  have B0 := Lib.hid (heap_alloc_new w (.cells #[.int .i64 9, .int .i64 (a : Nat), .int .i64 (b : Nat), .int .u64 s0, .int .u64 s1, .int .u64 s2, .int .u64 s3, .int .i64 x4, .int .i64 x5, .int .i64 x6, .int .i64 x7, .bool x8] 46))
  have HB0 := Lib.hid (below1 w (.cells #[.int .i64 9, .int .i64 (a : Nat), .int .i64 (b : Nat), .int .u64 s0, .int .u64 s1, .int .u64 s2, .int .u64 s3, .int .i64 x4, .int .i64 x5, .int .i64 x6, .int .i64 x7, .bool x8] 46))
  go_enter Tryz.func34, Tryz.ntmps34
  go_wp2_with fail
  refine (Ha.out _ HB0.out).mono ?_
  rintro e w1 ⟨rfl, hb⟩
  have B1 := Lib.hid (below_blk hb B0.out)
  have HB1 := Lib.hid (below_step HB0.out hb)
  have m0_1 := blk_cell B1.out 0 (.int .i64 9) rfl
  have m2_1 := blk_cell B1.out 2 (.int .i64 (b : Nat)) rfl
  clear hb B0 HB0
  go_wp2_with fail
  refine (Hb.out _ HB1.out).mono ?_
  rintro e w2 ⟨rfl, hb⟩
  have B2 := Lib.hid (below_blk hb B1.out)
  have HB2 := Lib.hid (below_step HB1.out hb)
  have m0_2 := blk_cell B2.out 0 (.int .i64 9) rfl
  clear hb B1 HB1
  go_wp2
  go_ret2
  exact ⟨rfl, HB2.out⟩
set_option maxHeartbeats 6400000 in
theorem l10 (n c i : Nat) (hi : i < n) (ad : Addr) (s0 s1 s2 s3 x4 x5 x6 x7 : Int) (x8 : Bool) (w : World) (a : Nat) (B p q : Int) (Ha : Hid (∀ W, Below w.heap.size w W → Calls Tryz.prog 34 #[.slice (some ad) n c, .int .i64 (a : Nat)] W fun e W' => e = .returned (.tuple #[.int .i64 p, .int .i64 q]) ∧ Below W.heap.size W W')) (u v : Int) (P1 : Hid (∀ W, Calls Tryz.prog 65 #[.int .i64 p, .int .i64 x4] W fun e W' => e = .returned (.int .i64 u) ∧ Below W.heap.size W W')) (P2 : Hid (∀ W, Calls Tryz.prog 65 #[.int .i64 q, .int .i64 x5] W fun e W' => e = .returned (.int .i64 v) ∧ Below W.heap.size W W')) (hR : Rn w (ad.add (i * 12)) ⟨10, (a : Nat), B, ⟨⟨s0, s1, s2, s3⟩⟩, x4, x5, x6, x7, x8⟩) :
    Calls Tryz.prog 34 #[.slice (some ad) n c, .int .i64 (i : Nat)] w fun e w' => e = .returned (.tuple #[.int .i64 u, .int .i64 v]) ∧ Below w.heap.size w w' := by
  obtain ⟨a0, a1, a2, a3, a4, a5, a6, a7, a8, a9, a10, a11⟩ := hR
  simp only [] at a0 a1 a2 a3 a4 a5 a6 a7 a8 a9 a10 a11
  have hi2 : (i : Int) < (n : Int) := by omega
  have B0 := Lib.hid (heap_alloc_new w (.cells #[.int .i64 10, .int .i64 (a : Nat), .int .i64 B, .int .u64 s0, .int .u64 s1, .int .u64 s2, .int .u64 s3, .int .i64 x4, .int .i64 x5, .int .i64 x6, .int .i64 x7, .bool x8] 46))
  have HB0 := Lib.hid (below1 w (.cells #[.int .i64 10, .int .i64 (a : Nat), .int .i64 B, .int .u64 s0, .int .u64 s1, .int .u64 s2, .int .u64 s3, .int .i64 x4, .int .i64 x5, .int .i64 x6, .int .i64 x7, .bool x8] 46))
  go_enter Tryz.func34, Tryz.ntmps34
  go_wp2_with fail
  refine (Ha.out _ HB0.out).mono ?_
  rintro e w1 ⟨rfl, hb⟩
  have B1 := Lib.hid (below_blk hb B0.out)
  have HB1 := Lib.hid (below_step HB0.out hb)
  have m0_1 := blk_cell B1.out 0 (.int .i64 10) rfl
  have m7_1 := blk_cell B1.out 7 (.int .i64 x4) rfl
  have m8_1 := blk_cell B1.out 8 (.int .i64 x5) rfl
  clear hb B0 HB0
  go_wp2_with fail
  have hZ := Lib.hid (Below.refl w1.heap.size w1)
  refine start_ (n := 10) (S := fun w' => w'.cell? ⟨w.heap.size, 7, none⟩ = some (.int .i64 x4) ∧ w'.cell? ⟨w.heap.size, 8, none⟩ = some (.int .i64 x5) ∧ Below w1.heap.size w1 w') (ds := []) #[false, false, false, false, false, false, false, false, false, false] (by kernel_rfl) rfl rfl ⟨m7_1, m8_1, hZ.out.drew⟩ (fun hHeld => ?_)
  refine pure_ (i := 0) (N := some 73) (v := ?_) (a' := ?_) #[true, false, false, false, false, false, false, false, false, false] rfl rfl (by kernel_rfl) (fun _ _ _ h => h) (Or.inl ⟨by rfl, ?_⟩) ?_ ?_
  rotate_left
  · intro w'
    go_simp
    with_reducible rfl
  rotate_left
  · simp only [Act.put, List.setIfInBounds_toArray, List.set_cons_zero, List.set_cons_succ, i64_w, i32_w]
    rfl
  refine pure_ (i := 1) (N := some 74) (v := ?_) (a' := ?_) #[true, true, false, false, false, false, false, false, false, false] rfl rfl (by kernel_rfl) (fun _ _ _ h => h) (Or.inl ⟨by rfl, ?_⟩) ?_ ?_
  rotate_left
  · intro w'
    go_simp
    with_reducible rfl
  rotate_left
  · simp only [Act.put, List.setIfInBounds_toArray, List.set_cons_zero, List.set_cons_succ, i64_w, i32_w]
    rfl
  refine pure_ (i := 4) (N := some 77) (v := ?_) (a' := ?_) #[true, true, false, false, true, false, false, false, false, false] rfl rfl (by kernel_rfl) (fun _ _ _ h => h) (Or.inl ⟨by rfl, ?_⟩) ?_ ?_
  rotate_left
  · intro w'
    go_simp
    with_reducible rfl
  rotate_left
  · simp only [Act.put, List.setIfInBounds_toArray, List.set_cons_zero, List.set_cons_succ, i64_w, i32_w]
    rfl
  refine pure_ (i := 5) (N := some 78) (v := ?_) (a' := ?_) #[true, true, false, false, true, true, false, false, false, false] rfl rfl (by kernel_rfl) (fun _ _ _ h => h) (Or.inl ⟨by rfl, ?_⟩) ?_ ?_
  rotate_left
  · intro w'
    go_simp
    with_reducible rfl
  rotate_left
  · simp only [Act.put, List.setIfInBounds_toArray, List.set_cons_zero, List.set_cons_succ, i64_w, i32_w]
    rfl
  refine take_ (i := 2) (N := some 75) (v := ?_) (a' := ?_) #[true, true, true, false, true, true, false, false, false, false] rfl rfl (by kernel_rfl) (fun _ _ _ h => h) (Or.inl ⟨by rfl, ?_⟩) hHeld ?_ ?_
  rotate_left
  · rintro w' ⟨s0, s1, s2⟩
    go_simp
    with_reducible rfl
  rotate_left
  · simp only [Act.put, List.setIfInBounds_toArray, List.set_cons_zero, List.set_cons_succ, i64_w, i32_w]
    rfl
  refine take_ (i := 6) (N := some 79) (v := ?_) (a' := ?_) #[true, true, true, false, true, true, true, false, false, false] rfl rfl (by kernel_rfl) (fun _ _ _ h => h) (Or.inl ⟨by rfl, ?_⟩) hHeld ?_ ?_
  rotate_left
  · rintro w' ⟨s0, s1, s2⟩
    go_simp
    with_reducible rfl
  rotate_left
  · simp only [Act.put, List.setIfInBounds_toArray, List.set_cons_zero, List.set_cons_succ, i64_w, i32_w]
    rfl
  refine one_ (i := 3) (N := some 76) #[true, true, true, true, true, true, true, false, false, false] rfl rfl (by kernel_rfl) (by decide) (fun K hK => ?_)
  refine goes_ Tryz.func65 (by kernel_rfl) rfl #[.int .i64 p, .int .i64 x4] (by rfl) rfl rfl (by simp only [List.map_toArray, List.map_cons, List.map_nil]; rfl) ?_
  with_reducible refine (P1.out _).mono ?_
  rintro e x1 ⟨rfl, hbq0⟩
  refine ⟨_, rfl, ?_⟩
  refine hK.out _ _ ⟨(below_of hbq0 hHeld.1), (below_of hbq0 hHeld.2.1), (below_step hHeld.2.2 hbq0)⟩ (fun hHeld => ?_)
  clear hK K
  refine norm_ (a' := ?_) ?_ ?_
  rotate_left
  · show Act.put _ (some 76) _ = _
    simp only [Act.put, List.setIfInBounds_toArray, List.set_cons_zero, List.set_cons_succ, i64_w, i32_w]
    rfl
  refine one_ (i := 7) (N := some 80) #[true, true, true, true, true, true, true, true, false, false] rfl rfl (by kernel_rfl) (by decide) (fun K hK => ?_)
  refine goes_ Tryz.func65 (by kernel_rfl) rfl #[.int .i64 q, .int .i64 x5] (by rfl) rfl rfl (by simp only [List.map_toArray, List.map_cons, List.map_nil]; rfl) ?_
  with_reducible refine (P2.out _).mono ?_
  rintro e x2 ⟨rfl, hbq1⟩
  refine ⟨_, rfl, ?_⟩
  refine hK.out _ _ ⟨(below_of hbq1 hHeld.1), (below_of hbq1 hHeld.2.1), (below_step hHeld.2.2 hbq1)⟩ (fun hHeld => ?_)
  clear hK K
  refine norm_ (a' := ?_) ?_ ?_
  rotate_left
  · show Act.put _ (some 80) _ = _
    simp only [Act.put, List.setIfInBounds_toArray, List.set_cons_zero, List.set_cons_succ, i64_w, i32_w]
    rfl
  refine pure_ (i := 8) (N := some 4) (v := ?_) (a' := ?_) #[true, true, true, true, true, true, true, true, true, false] rfl rfl (by kernel_rfl) (fun _ _ _ h => h) (Or.inl ⟨by rfl, ?_⟩) ?_ ?_
  rotate_left
  · intro w'
    go_simp
    with_reducible rfl
  rotate_left
  · simp only [Act.put, List.setIfInBounds_toArray, List.set_cons_zero, List.set_cons_succ, i64_w, i32_w]
    rfl
  refine pure_ (i := 9) (N := some 5) (v := ?_) (a' := ?_) #[true, true, true, true, true, true, true, true, true, true] rfl rfl (by kernel_rfl) (fun _ _ _ h => h) (Or.inl ⟨by rfl, ?_⟩) ?_ ?_
  rotate_left
  · intro w'
    go_simp
    with_reducible rfl
  rotate_left
  · simp only [Act.put, List.setIfInBounds_toArray, List.set_cons_zero, List.set_cons_succ, i64_w, i32_w]
    rfl
  refine done_ (by kernel_rfl) ?_
  have hb := below_step HB1.out (below_step (below_step hZ.out.drew hbq0) hbq1)
  clear hHeld hZ hbq0 hbq1
  go_wp2
  go_ret2
  exact ⟨rfl, hb⟩
theorem rlens_calls (A : Option Addr) (c : Nat) (L : List S49) (n : Nat) (hn : L.length = n) (hw : ∀ i, i < n → Wf L i) : ∀ (i : Nat), i < n → ∀ (w : World) (hr : Kd.C k46 w A n (L.map od)),
    Calls Tryz.prog 34 #[.slice A n c, .int .i64 (i : Nat)] w fun e w' => e = .returned (.tuple #[.int .i64 (ln L i).1, .int .i64 (ln L i).2]) ∧ Below w.heap.size w w' := by
  intro i
  induction i using Nat.strongRecOn with
  | ind i ih =>
    intro hi w hr
    have hwi := hw i hi
    obtain ⟨ad, hA, hR⟩ := rat hr hn i hi
    have K : ∀ a, a < i → Hid (∀ W, Below w.heap.size w W → Calls Tryz.prog 34 #[.slice (some ad) n c, .int .i64 (a : Nat)] W fun e W' => e = .returned (.tuple #[.int .i64 (ln L a).1, .int .i64 (ln L a).2]) ∧ Below W.heap.size W W') :=
      fun a ha => Lib.hid (fun W hb => by rw [← hA]; exact ih a ha (by omega) W (Kd.C_below hr hb))
    have K1 : kd (rd_T49 L i).f0 = 1 → ∃ a : Nat, (rd_T49 L i).f1 = (a : Int) ∧ a < i := fun h => kid1 hwi h
    have K2 : kd (rd_T49 L i).f0 = 2 → ∃ a b : Nat, (rd_T49 L i).f1 = (a : Int) ∧ (rd_T49 L i).f2 = (b : Int) ∧ a < i ∧ b < i := fun h => kid2 hwi h
    have RG := fun a (ha : a < i) => ln_rng L n hw a (by omega)
    rw [hA, ln_eq L n hw i hi]
    have hf := hwi.1
    unfold lnStep
    generalize rd_T49 L i = z at *
    obtain ⟨k, f1, f2, ⟨⟨s0, s1, s2, s3⟩⟩, x4, x5, x6, x7, x8⟩ := z
    simp only [] at K1 K2 ⊢
    by_cases c1 : k = 1
    · subst c1; rw [if_pos rfl]
      exact l1 n c i hi ad s0 s1 s2 s3 x4 x5 x6 x7 x8 w f1 f2 hR
    rw [if_neg c1]
    by_cases c12 : k = 12
    · subst c12; rw [if_pos rfl]
      exact l12 n c i hi ad s0 s1 s2 s3 x4 x5 x6 x7 x8 w f1 f2 hR
    rw [if_neg c12]
    by_cases c8 : k = 8
    · subst c8
      obtain ⟨a, b, rfl, rfl, ha, hb⟩ := K2 rfl
      have ra := RG a ha
      have rb := RG b hb
      rw [if_pos rfl, Int.toNat_natCast, Int.toNat_natCast]
      exact l8 n c i hi ad s0 s1 s2 s3 x4 x5 x6 x7 x8 w a b _ _ _ _ (K a ha) (K b hb) _ _ (Lib.hid (rplus_calls _ _ ra.2.1 rb.2.1)) (Lib.hid (rplus_calls _ _ ra.2.2 rb.2.2)) hR
    rw [if_neg c8]
    by_cases c9 : k = 9
    · subst c9
      obtain ⟨a, b, rfl, rfl, ha, hb⟩ := K2 rfl
      have ra := RG a ha
      have rb := RG b hb
      have ka := K a ha
      have kb := K b hb
      rw [if_pos rfl, Int.toNat_natCast, Int.toNat_natCast]
      generalize (ln L a).1 = p at *
      generalize (ln L a).2 = q at *
      generalize (ln L b).1 = r at *
      generalize (ln L b).2 = t at *
      unfold bnd at ra rb
      by_cases hq : q < 0
      · rw [if_pos (show min q t = -1 by omega)]
        exact l9a n c i hi ad s0 s1 s2 s3 x4 x5 x6 x7 x8 w a b p q r t ka kb _ rfl (by split <;> omega) (by split <;> omega) hq hR
      · by_cases ht : t < 0
        · rw [if_pos (show min q t = -1 by omega)]
          exact l9b n c i hi ad s0 s1 s2 s3 x4 x5 x6 x7 x8 w a b p q r t ka kb _ rfl (by split <;> omega) (by split <;> omega) hq ht hR
        · rw [if_neg (show ¬ min q t = -1 by omega)]
          exact l9c n c i hi ad s0 s1 s2 s3 x4 x5 x6 x7 x8 w a b p q r t ka kb _ rfl (by split <;> omega) (by split <;> omega) _ rfl (by split <;> omega) (by split <;> omega) hq ht hR
    rw [if_neg c9]
    by_cases c10 : k = 10
    · subst c10
      obtain ⟨a, rfl, ha⟩ := K1 rfl
      have ra := RG a ha
      obtain ⟨m1, m2, m3, m4, _⟩ := fit10 hf rfl
      simp only [] at m1 m2 m3 m4
      rw [if_pos rfl, Int.toNat_natCast]
      exact l10 n c i hi ad s0 s1 s2 s3 x4 x5 x6 x7 x8 w a f2 _ _ (K a ha) _ _ (Lib.hid (rtimes_calls _ _ ra.2.1 ⟨by omega, by omega⟩)) (Lib.hid (rtimes_calls _ _ ra.2.2 ⟨by omega, by omega⟩)) hR
    rw [if_neg c10]
    by_cases c11 : k = 11
    · subst c11
      obtain ⟨a, rfl, ha⟩ := K1 rfl
      rw [if_pos (Or.inl rfl), Int.toNat_natCast]
      exact l11 n c i hi ad s0 s1 s2 s3 x4 x5 x6 x7 x8 w a f2 _ _ (K a ha) hR
    by_cases c17 : k = 17
    · subst c17
      obtain ⟨a, rfl, ha⟩ := K1 rfl
      rw [if_pos (Or.inr rfl), Int.toNat_natCast]
      exact l17 n c i hi ad s0 s1 s2 s3 x4 x5 x6 x7 x8 w a f2 _ _ (K a ha) hR
    rw [if_neg (fun h => h.elim c11 c17)]
    have e := fun (m : Int) (h : ¬ k = m) => (show (k == m) = false by simpa using h)
    exact l0 n c i hi ad s0 s1 s2 s3 x4 x5 x6 x7 x8 w k f1 f2 (e _ c1) (e _ c12) (e _ c8) (e _ c9) (e _ c10) (e _ c11) (e _ c17) hR
/-- as the printed texts ask it -/
def rlen (l : List S46) (i : Int) : Option (Int × Int) := if 0 ≤ i ∧ i < (l.length : Int) ∧ (List.range l.length).all (fun j => sz (l.map un) j != 0) = true then some (ln (l.map un) i.toNat) else none
theorem rlen_f (L : List S49) (hw : ∀ i, i < L.length → Wf L i) (i : Nat) (hi : i < L.length) : rlen (L.map od) (i : Nat) = some (ln L i) := by
  have hall : (List.range (L.map od).length).all (fun j => sz ((L.map od).map un) j != 0) = true := by
    rw [un_od, List.length_map, List.all_eq_true]
    intro j hj
    have := wf_pos (hw j (List.mem_range.1 hj))
    simp only [bne_iff_ne, ne_eq]
    omega
  unfold rlen
  rw [if_pos ⟨by omega, by rw [List.length_map]; omega, hall⟩, un_od, Int.toNat_natCast]
theorem rlen_calls (A : Option Addr) (c : Nat) (l : List S46) (i r1 r2 : Int) (w : World) (hr : Kd.C k46 w A l.length l) (hc : l.length ≤ c) (h : rlen l i = some (r1, r2)) :
    Calls Tryz.prog 34 #[.slice A l.length c, .int .i64 i] w fun e w' => e = .returned (.tuple #[.int .i64 r1, .int .i64 r2]) ∧ Below w.heap.size w w' := by
  unfold rlen at h
  split at h
  · rename_i hh
    obtain ⟨h0, h1, h2⟩ := hh
    obtain ⟨m, rfl⟩ := Int.eq_ofNat_of_zero_le h0
    rw [Int.toNat_natCast] at h
    have hw : ∀ j, j < l.length → Wf (l.map un) j := fun j hj => sz_wf _ j (by have := List.all_eq_true.1 h2 j (List.mem_range.2 hj); simpa using this)
    have k := rlens_calls A c (l.map un) l.length (by rw [List.length_map]) hw m (by omega) w (by rw [od_un]; exact hr)
    rw [Option.some.inj h] at k
    exact k
  · cases h
end Go.Proofs.YtaaihcojedibeaaGreatDoor.DLensR
end
