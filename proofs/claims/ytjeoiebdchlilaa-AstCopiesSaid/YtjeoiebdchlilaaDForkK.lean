/- What two trees made in one region need. -/
import Derived.Test.YtjeoiebdchlilaaZ2
import Derived.Test.YtjeoiebdchlilaaDAlgB
namespace Go.Proofs.Ytjeoiebdchlilaa.DForkK
open Go.RowKit CMem DRow DDeep DSizes DFits DLens DSpec DGrp DCon DOdd DRowN DWrap DJoin DGrouped DRight DRJoin DRFits DRef DRefB DCut DTree DKit DAlg DAlgB Q Go.Proofs.YtjeoiebdchlilaaW.PrintWords
set_option linter.unusedVariables false
theorem own_below {w w1 : World} {b q : Nat} {t : TypeId} {v : Value} {n : Nat} {cs : List Value} (h : w.ownsRow b t q v n cs) (hb : Below w.heap.size w w1) : w1.ownsRow b t q v n cs :=
  own_move h (fun k hk => hb.block k (own_lt h k hk))
theorem own_set {W : World} {b P n : Nat} {v val : Value} {cs : List Value} {o : Array Value} (h : W.ownsRow b 43 12 v n cs) (hR : W.heap[P]? = some (.cells o 24 (0, 0))) : (W.setCell ⟨P, 0, none⟩ val).ownsRow b 43 12 v n cs :=
  own_move h (fun j hj => Below.heap_setCell W ⟨P, 0, none⟩ _ j (by
    rintro rfl
    obtain ⟨cs, hcs⟩ := own_typed h _ hj
    rw [hR] at hcs
    injection hcs with hcs
    injection hcs with _ hcs
    exact absurd hcs (by decide)))
theorem own_Cs {w : World} {base n c : Nat} {A : Option Addr} {xs : List S43} (hn : xs.length = n) (hm : n ≤ 1001) (h : w.ownsRow base 43 12 (.slice A n c) n (ra xs)) : Kd.C k43 w A n xs := by
  obtain ⟨A', c', he, _, hC⟩ := own_C hn hm h
  injection he with e1 e2 e3
  subst e1
  exact hC
theorem join_own (A : Option Addr) (c : Nat) (L M R : List S43) (n m q : Nat) (hn : L.length = n) (A2 : Option Addr) (c2 : Nat) (hm : M.length = m) (hnm : n + m ≤ 999) (hq : n + m + 1 = q) (kind : Int) (hR : L ++ M.map (shift n) ++ [⟨kind, (n : Int) - 1, (n : Int) + m - 1, z41, 0, 0, 0, 0, false⟩] = R) (w : World) (hr : Kd.C k43 w A n L) (hr2 : Kd.C k43 w A2 m M) :
    Calls Try.prog 22 #[.agg #[.slice A n c], .agg #[.slice A2 m c2], .int .i64 kind] w fun e w' =>
      (∃ v, e = .returned (.agg #[v]) ∧ w'.ownsRow w.heap.size 43 12 v q (ra R)) ∧ Below w.heap.size w w' := by
  subst hR hq
  exact join_calls A c L n hn A2 c2 M m hm hnm kind w hr hr2
theorem wrap_own (A : Option Addr) (c : Nat) (L R : List S43) (n q : Nat) (hn : L.length = n) (hn2 : n ≤ 999) (hq : n + 1 = q) (k xa xb s0 s1 s2 s3 mi ma mo nn : Int) (fo : Bool) (hR : L ++ [⟨k, (n : Int) - 1, 0, ⟨⟨s0, s1, s2, s3⟩⟩, mi, ma, mo, nn, fo⟩] = R) (w : World) (hr : Kd.C k43 w A n L) :
    Calls Try.prog 21 #[.agg #[.slice A n c], .agg #[.int .i64 k, .int .i64 xa, .int .i64 xb, .int .u64 s0, .int .u64 s1, .int .u64 s2, .int .u64 s3, .int .i64 mi, .int .i64 ma, .int .i64 mo, .int .i64 nn, .bool fo]] w fun e w' =>
      (∃ v, e = .returned (.agg #[v]) ∧ w'.ownsRow w.heap.size 43 12 v q (ra R)) ∧ Below w.heap.size w w' := by
  subst hR hq
  exact wrap_calls A c L n hn hn2 k xa xb s0 s1 s2 s3 mi ma mo nn fo w hr
theorem rgt_zero {L : List S43} (h : dep L = 0) : rgt L = 3 := by
  have ho := (dep_zero L).1 h
  unfold rgt frm
  rw [ho]
  rfl
theorem ord_of {L : List S43} (h : ¬ dep L = 0) : ord L = true := by
  cases ho : ord L
  · exact absurd ((dep_zero L).2 ho) h
  · rfl
theorem dep_rng {L : List S43} (ho : ord L = true) : 1 ≤ dep L ∧ dep L ≤ (L.length : Int) := by
  have hw := fun i (hi : i < L.length) => ord_wf ho i hi
  have hp := ord_pos ho
  have h := dp_rng L L.length hw (L.length - 1) (by omega)
  unfold dep
  rw [if_pos ho]
  omega
theorem grn_rng (L : List S43) : 0 ≤ grn L ∧ grn L ≤ (L.length : Int) := by
  rw [grn_count]
  have := List.countP_le_length (p := fun x : S43 => x.f0 == 11) (l := L)
  omega
theorem frm_ok {L : List S43} (ho : ord L = true) (hd : dep L ≤ 40) : frm L = 0 := by
  unfold dep at hd
  rw [if_pos ho] at hd
  unfold frm
  rw [if_pos ho, if_neg (by omega)]
theorem lenr_last {L : List S43} (ho : ord L = true) (hd : dep L ≤ 40) (i : Int) (hi : i = (L.length : Int) - 1) : lenr L i = ((ln L (L.length - 1)).1, (ln L (L.length - 1)).2, 0) := by
  have hp := ord_pos ho
  subst hi
  have e : ((L.length : Int) - 1).toNat = L.length - 1 := by omega
  unfold lenr
  rw [if_pos (frm_ok ho hd), if_neg (by omega), e]
theorem ln_bnd {L : List S43} (ho : ord L = true) : 0 ≤ (ln L (L.length - 1)).1 ∧ bnd (ln L (L.length - 1)).1 ∧ bnd (ln L (L.length - 1)).2 := by
  have hw := fun i (hi : i < L.length) => ord_wf ho i hi
  have hp := ord_pos ho
  exact ln_rng L L.length hw (L.length - 1) (by omega)
end Go.Proofs.Ytjeoiebdchlilaa.DForkK
