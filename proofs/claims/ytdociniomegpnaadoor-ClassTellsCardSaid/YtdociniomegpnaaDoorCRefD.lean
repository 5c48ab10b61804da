/- The document's sets: the runs. -/
import Derived.Test.YtdociniomegpnaaDoorCRefC
import Derived.Test.YtdociniomegpnaaDoorCRunsQ
import Derived.Test.YtdociniomegpnaaDoorCSame
namespace Go.Proofs.YtdociniomegpnaaDoor.CRefD
open Go.RowKit CMem CBits CSet CMake COps COf CLen CMin CFold CRng CRuns CSame CPlain CRunsP CRunsQ CArr CRefA Go.Proofs.YtdociniomegpnaaDoorW.PrintWords Go.Proofs.YtdociniomegpnaaDoorW.PrintLast Go.Proofs.YtdociniomegpnaaDoorW.PrintMore
set_option linter.unusedVariables false
set_option linter.unusedSimpArgs false
set_option maxRecDepth 100000
set_option maxHeartbeats 6400000
theorem pair_cells (w : World) (x y : Value) (t : TypeId) : ∀ (j : Nat) (u : Value), [x, y][j]? = some u → (w.alloc (.cells #[x, y] t)).cell? ((⟨w.heap.size, 0, none⟩ : Addr).add j) = some u := by
  intro j u hj
  match j, hj with
  | 0, hj => simp at hj; subst hj; simp [Addr.add]
  | 1, hj => simp at hj; subst hj; simp [Addr.add]
theorem own_alloc {B : Nat} {w : World} {e : TypeId} {size n : Nat} {v : Value} {xs : List Value} (h : w.ownsRow B e size v n xs) (o : Obj) : (w.alloc o).ownsRow B e size v n xs := h.alloc o
theorem rranges_calls (N : Nat) (hN : N < 2 ^ 256) (w : World) :
    Calls Tryd.prog 18 #[.agg (cb N.testBit)] w fun e w' => (∃ v, e = .returned v ∧ Row w' v (runs N)) ∧ Below w.heap.size w w' := by
  obtain ⟨i0, hi, hz0, hz1, hz2⟩ := info_parts info_pair
  have I0 := Lib.hid hi
  have Z0 := Lib.hid hz0
  have Z1 := Lib.hid hz1
  have Z2 := Lib.hid hz2
  clear hi hz0 hz1 hz2
  have BA := Lib.hid (blk_alloc (heap_alloc_new w (.cells (cb N.testBit) 28)) (.cells #[] 53))
  have HB := Lib.hid (below2 w (.cells (cb N.testBit) 28) (.cells #[] 53))
  have HO : ((w.alloc (.cells (cb N.testBit) 28)).alloc (.cells #[] 53)).ownsRow (w.heap.size + 1) 53 2 (.slice (some ⟨w.heap.size + 1, 0, none⟩) 0 0) 0 (prs []) :=
    ⟨rfl, .inr ⟨_, 0, #[], rfl, Nat.le_refl _, blk2 w _ _ _, Nat.le_refl _, by decide, rfl, rfl⟩⟩
  have HO := Lib.hid HO
  go_enter Tryd.func18, Tryd.ntmps18
  go_wp2
  go_loopw [3, 4, 5] (fun v t _ wr => ∃ (i : Nat) (L : List (Nat × Nat)), i ≤ 256 ∧ t = .int .i64 (i : Nat) ∧ Hid (Rl N i L) ∧ Hid (wr.ownsRow (w.heap.size + 1) 53 2 v L.length (prs L)) ∧ Hid (wr.heap[w.heap.size]? = some (.cells (cb N.testBit) 28 (0, 0))) ∧ Hid (Below w.heap.size w wr)) (fun _ t _ _ => 256 - (intOf t).toNat)
  case atStart => exact ⟨0, [], by omega, rfl, Lib.hid (Rl.zero N), HO, BA, HB⟩
  case round =>
    clear BA HB HO
    obtain ⟨i, L, hi, rfl, HR, HO, HA, HB⟩ := hrel
    by_cases h : i < 256
    · have v1 := blk_cell HA.out i _ (cb_at _ _ h)
      cases hb : N.testBit i <;> rw [hb] at v1
      · have HR2 := Lib.hid (HR.out.no hb)
        go_wp2
        go_roundw
        case rel => exact ⟨i + 1, L, by omega, by simp, HR2, HO, HA, HB⟩
        case measure => simp [intOf] <;> omega
      · have hcase : (∃ j, i = j + 1 ∧ N.testBit j = true) ∨ (i = 0 ∨ N.testBit (i - 1) = false) := by
          rcases Nat.eq_zero_or_pos i with e | e
          · exact .inr (.inl e)
          · cases g : N.testBit (i - 1)
            · exact .inr (.inr rfl)
            · exact .inl ⟨i - 1, by omega, g⟩
        rcases hcase with ⟨j, hj, g⟩ | hnew
        · have HR2 := Lib.hid (show Rl N (i + 1) L by
            have r := HR.out
            subst hj
            exact r.old h g hb)
          have v2 := blk_cell HA.out j _ (cb_at _ _ (by omega))
          rw [g] at v2
          have e0 : ((i : Int) == 0) = false := by simp; omega
          have e2 : (i : Int) - 1 = (j : Int) := by omega
          have e4 : (j : Int) < 256 := by omega
          clear hb g hj
          go_wp2
          go_roundw
          case rel => exact ⟨i + 1, L, by omega, by simp, HR2, HO, HA, HB⟩
          case measure => simp [intOf] <;> omega
        · have HNEW := Lib.hid hnew
          have hj : i = 0 ∨ ∃ j, i = j + 1 ∧ wr.cell? ⟨w.heap.size, j, none⟩ = some (.bool false) := by
            rcases Nat.eq_zero_or_pos i with e | e
            · exact .inl e
            · refine .inr ⟨i - 1, by omega, ?_⟩
              rw [blk_cell HA.out (i - 1) _ (cb_at _ _ (by omega))]
              rcases hnew with h | h
              · omega
              · rw [h]
          have hBI := Lib.hid hb
          clear hnew hb
          have wi : IntKind.u8.wrap (i : Int) = (i : Int) := by rw [IntKind.wrap_u8]; omega
          have hlL := HR.out.len
          have HLL := Lib.hid (show L.length ≤ 300 by omega)
          have HW : wr.heap.size = wr.heap.size := rfl
          have lq := lt_of_blk HA.out
          clear hlL
          rcases hj with h0 | ⟨j, hj, v2⟩
          · have e0 : ((i : Int) == 0) = true := by simp; omega
            clear h0
            go_wp2
            go_loopw [5] (fun c wr' => ∃ K : Nat, i ≤ K ∧ K ≤ 255 ∧ c = .int .i64 (K : Nat) ∧ Hid (∀ j, i ≤ j → j ≤ K → N.testBit j = true) ∧ wr' = wr) (fun c _ => 255 - (intOf c).toNat)
            case atStart => exact ⟨i, Nat.le_refl _, by omega, rfl, Lib.hid (fun j h1 h2 => by rw [show j = i by omega]; exact hBI.out), rfl⟩
            case round =>
              obtain ⟨K, hK, hK2, rfl, HK, rfl⟩ := hrel
              have hgo : (∃ m : Nat, (K : Int) + 1 = (m : Int) ∧ K < 255 ∧ m = K + 1 ∧ N.testBit m = true) ∨ ((∃ m : Nat, (K : Int) + 1 = (m : Int) ∧ K < 255 ∧ m = K + 1 ∧ N.testBit m = false) ∨ K = 255) := by
                rcases Nat.lt_or_ge K 255 with g | g
                · cases e : N.testBit (K + 1)
                  · exact .inr (.inl ⟨K + 1, by omega, g, rfl, e⟩)
                  · exact .inl ⟨K + 1, by omega, g, rfl, e⟩
                · exact .inr (.inr (by omega))
              rcases hgo with ⟨m, em, hK3, hm, hbm⟩ | hend
              · have v3 := blk_cell HA.out m _ (cb_at _ _ (by omega))
                rw [hbm] at v3
                have hm2 : (m : Int) < 256 := by omega
                have HK2 := Lib.hid (show ∀ j, i ≤ j → j ≤ m → N.testBit j = true from fun j h1 h2 => by
                  rcases Nat.lt_or_ge K j with g | g
                  · rw [show j = m by omega]; exact hbm
                  · exact HK.out j h1 g)
                have HM := Lib.hid hm
                clear hbm hm
                go_wp2
                go_roundw
                case rel => exact ⟨m, by have := HM.out; omega, by omega, by simp, HK2, trivial⟩
                case measure => have := HM.out; simp [intOf] <;> omega
              · have HE := Lib.hid (show Rl N (i + 1) (L ++ [(i, K)]) from HR.out.new h HNEW.out hK (by omega) HK.out (by
                  rcases hend with ⟨m, _, _, hm, hbm⟩ | hend
                  · exact .inr (by rw [← hm]; exact hbm)
                  · exact .inl hend))
                have wk : IntKind.u8.wrap (K : Int) = (K : Int) := by rw [IntKind.wrap_u8]; omega
                have FIN := Lib.hid (show ∀ w5 : World, (wr.alloc (.cells #[.int .u8 (i : Nat), .int .u8 (K : Nat)] 53)).grownBy w5 u3.ownBlock → w5.heap[w.heap.size]? = some (.cells (cb N.testBit) 28 (0, 0)) ∧ Below w.heap.size w w5 from fun w5 hgr => by
                  have kB := HO.out.2
                  have hk : ∀ k, k ≤ w.heap.size → some k ≠ u3.ownBlock := fun k hk e => by
                    rcases kB with ⟨q, _⟩ | ⟨g, cap, cur, q, q3, _⟩
                    · rw [q] at e; simp [Value.ownBlock] at e
                    · rw [q] at e; simp [Value.ownBlock] at e; omega
                  have hs5 := hgr.size
                  simp only [World.size_alloc] at hs5
                  refine ⟨(hgr.block _ (by simp; omega) (hk _ (Nat.le_refl _))).trans (blk_alloc HA.out _), HB.out.trans ⟨hgr.os, hgr.tape, hgr.output, by omega, fun k hk2 => (hgr.block k (by simp; omega) (hk k (by omega))).trans (Below.heap_alloc wr _ k (by omega))⟩⟩)
                rcases hend with ⟨m, em, hK3, hm, hbm⟩ | hend
                · have v3 := blk_cell HA.out m _ (cb_at _ _ (by omega))
                  rw [hbm] at v3
                  have hm2 : (m : Int) < 256 := by omega
                  clear hbm hm
                  go_wp2_with (at_builtin; refine wpList_append_lies _ rfl (.tmp 39) (.tmp 45) 37 rfl (w.heap.size + 1) 53 i0 (.agg #[.int .u8 0, .int .u8 0]) 2 2 Tryd.underlying37 I0.out Z0.out Z1.out Z2.out rfl (by decide) u3 L.length (prs L) rfl (HO.out.alloc _) ⟨wr.heap.size, 0, none⟩ 1 1 [.int .u8 (i : Nat), .int .u8 (K : Nat)] rfl rfl (pair_cells _ _ _ _) (by simp [Value.oneCell']) (by omega) (by have := HLL.out; unfold maxLen; omega) (by have := HLL.out; omega) (by simp; omega) _ rfl ?_)
                  intro g1 cp1 w5 ho hgr hat hlt
                  obtain ⟨f1, f2⟩ := FIN.out w5 hgr
                  rw [show prs L ++ [.int .u8 (i : Nat), .int .u8 (K : Nat)] = prs (L ++ [(i, K)]) from (prs_snoc L i K).symm] at ho
                  have HO5 := Lib.hid ho
                  have HA5 := Lib.hid f1
                  have HB5 := Lib.hid f2
                  clear ho f1 f2 hgr hat hlt v1
                  go_wp2
                  go_roundw
                  case rel => exact ⟨i + 1, L ++ [(i, K)], by omega, by simp, HE, by simpa using HO5, HA5, HB5⟩
                  case measure => simp [intOf] <;> omega
                · have hK3 : ¬ ((K : Int) < 255) := by omega
                  clear hend
                  go_wp2_with (at_builtin; refine wpList_append_lies _ rfl (.tmp 39) (.tmp 45) 37 rfl (w.heap.size + 1) 53 i0 (.agg #[.int .u8 0, .int .u8 0]) 2 2 Tryd.underlying37 I0.out Z0.out Z1.out Z2.out rfl (by decide) u3 L.length (prs L) rfl (HO.out.alloc _) ⟨wr.heap.size, 0, none⟩ 1 1 [.int .u8 (i : Nat), .int .u8 (K : Nat)] rfl rfl (pair_cells _ _ _ _) (by simp [Value.oneCell']) (by omega) (by have := HLL.out; unfold maxLen; omega) (by have := HLL.out; omega) (by simp; omega) _ rfl ?_)
                  intro g1 cp1 w5 ho hgr hat hlt
                  obtain ⟨f1, f2⟩ := FIN.out w5 hgr
                  rw [show prs L ++ [.int .u8 (i : Nat), .int .u8 (K : Nat)] = prs (L ++ [(i, K)]) from (prs_snoc L i K).symm] at ho
                  have HO5 := Lib.hid ho
                  have HA5 := Lib.hid f1
                  have HB5 := Lib.hid f2
                  clear ho f1 f2 hgr hat hlt v1
                  go_wp2
                  go_roundw
                  case rel => exact ⟨i + 1, L ++ [(i, K)], by omega, by simp, HE, by simpa using HO5, HA5, HB5⟩
                  case measure => simp [intOf] <;> omega
          · have e0 : ((i : Int) == 0) = false := by simp; omega
            have e2 : (i : Int) - 1 = (j : Int) := by omega
            have e4 : (j : Int) < 256 := by omega
            clear hj
            go_wp2
            go_loopw [5] (fun c wr' => ∃ K : Nat, i ≤ K ∧ K ≤ 255 ∧ c = .int .i64 (K : Nat) ∧ Hid (∀ j, i ≤ j → j ≤ K → N.testBit j = true) ∧ wr' = wr) (fun c _ => 255 - (intOf c).toNat)
            case atStart => exact ⟨i, Nat.le_refl _, by omega, rfl, Lib.hid (fun j h1 h2 => by rw [show j = i by omega]; exact hBI.out), rfl⟩
            case round =>
              obtain ⟨K, hK, hK2, rfl, HK, rfl⟩ := hrel
              have hgo : (∃ m : Nat, (K : Int) + 1 = (m : Int) ∧ K < 255 ∧ m = K + 1 ∧ N.testBit m = true) ∨ ((∃ m : Nat, (K : Int) + 1 = (m : Int) ∧ K < 255 ∧ m = K + 1 ∧ N.testBit m = false) ∨ K = 255) := by
                rcases Nat.lt_or_ge K 255 with g | g
                · cases e : N.testBit (K + 1)
                  · exact .inr (.inl ⟨K + 1, by omega, g, rfl, e⟩)
                  · exact .inl ⟨K + 1, by omega, g, rfl, e⟩
                · exact .inr (.inr (by omega))
              rcases hgo with ⟨m, em, hK3, hm, hbm⟩ | hend
              · have v3 := blk_cell HA.out m _ (cb_at _ _ (by omega))
                rw [hbm] at v3
                have hm2 : (m : Int) < 256 := by omega
                have HK2 := Lib.hid (show ∀ j, i ≤ j → j ≤ m → N.testBit j = true from fun j h1 h2 => by
                  rcases Nat.lt_or_ge K j with g | g
                  · rw [show j = m by omega]; exact hbm
                  · exact HK.out j h1 g)
                have HM := Lib.hid hm
                clear hbm hm
                go_wp2
                go_roundw
                case rel => exact ⟨m, by have := HM.out; omega, by omega, by simp, HK2, trivial⟩
                case measure => have := HM.out; simp [intOf] <;> omega
              · have HE := Lib.hid (show Rl N (i + 1) (L ++ [(i, K)]) from HR.out.new h HNEW.out hK (by omega) HK.out (by
                  rcases hend with ⟨m, _, _, hm, hbm⟩ | hend
                  · exact .inr (by rw [← hm]; exact hbm)
                  · exact .inl hend))
                have wk : IntKind.u8.wrap (K : Int) = (K : Int) := by rw [IntKind.wrap_u8]; omega
                have FIN := Lib.hid (show ∀ w5 : World, (wr.alloc (.cells #[.int .u8 (i : Nat), .int .u8 (K : Nat)] 53)).grownBy w5 u3.ownBlock → w5.heap[w.heap.size]? = some (.cells (cb N.testBit) 28 (0, 0)) ∧ Below w.heap.size w w5 from fun w5 hgr => by
                  have kB := HO.out.2
                  have hk : ∀ k, k ≤ w.heap.size → some k ≠ u3.ownBlock := fun k hk e => by
                    rcases kB with ⟨q, _⟩ | ⟨g, cap, cur, q, q3, _⟩
                    · rw [q] at e; simp [Value.ownBlock] at e
                    · rw [q] at e; simp [Value.ownBlock] at e; omega
                  have hs5 := hgr.size
                  simp only [World.size_alloc] at hs5
                  refine ⟨(hgr.block _ (by simp; omega) (hk _ (Nat.le_refl _))).trans (blk_alloc HA.out _), HB.out.trans ⟨hgr.os, hgr.tape, hgr.output, by omega, fun k hk2 => (hgr.block k (by simp; omega) (hk k (by omega))).trans (Below.heap_alloc wr _ k (by omega))⟩⟩)
                rcases hend with ⟨m, em, hK3, hm, hbm⟩ | hend
                · have v3 := blk_cell HA.out m _ (cb_at _ _ (by omega))
                  rw [hbm] at v3
                  have hm2 : (m : Int) < 256 := by omega
                  clear hbm hm
                  go_wp2_with (at_builtin; refine wpList_append_lies _ rfl (.tmp 39) (.tmp 45) 37 rfl (w.heap.size + 1) 53 i0 (.agg #[.int .u8 0, .int .u8 0]) 2 2 Tryd.underlying37 I0.out Z0.out Z1.out Z2.out rfl (by decide) u3 L.length (prs L) rfl (HO.out.alloc _) ⟨wr.heap.size, 0, none⟩ 1 1 [.int .u8 (i : Nat), .int .u8 (K : Nat)] rfl rfl (pair_cells _ _ _ _) (by simp [Value.oneCell']) (by omega) (by have := HLL.out; unfold maxLen; omega) (by have := HLL.out; omega) (by simp; omega) _ rfl ?_)
                  intro g1 cp1 w5 ho hgr hat hlt
                  obtain ⟨f1, f2⟩ := FIN.out w5 hgr
                  rw [show prs L ++ [.int .u8 (i : Nat), .int .u8 (K : Nat)] = prs (L ++ [(i, K)]) from (prs_snoc L i K).symm] at ho
                  have HO5 := Lib.hid ho
                  have HA5 := Lib.hid f1
                  have HB5 := Lib.hid f2
                  clear ho f1 f2 hgr hat hlt v1
                  go_wp2
                  go_roundw
                  case rel => exact ⟨i + 1, L ++ [(i, K)], by omega, by simp, HE, by simpa using HO5, HA5, HB5⟩
                  case measure => simp [intOf] <;> omega
                · have hK3 : ¬ ((K : Int) < 255) := by omega
                  clear hend
                  go_wp2_with (at_builtin; refine wpList_append_lies _ rfl (.tmp 39) (.tmp 45) 37 rfl (w.heap.size + 1) 53 i0 (.agg #[.int .u8 0, .int .u8 0]) 2 2 Tryd.underlying37 I0.out Z0.out Z1.out Z2.out rfl (by decide) u3 L.length (prs L) rfl (HO.out.alloc _) ⟨wr.heap.size, 0, none⟩ 1 1 [.int .u8 (i : Nat), .int .u8 (K : Nat)] rfl rfl (pair_cells _ _ _ _) (by simp [Value.oneCell']) (by omega) (by have := HLL.out; unfold maxLen; omega) (by have := HLL.out; omega) (by simp; omega) _ rfl ?_)
                  intro g1 cp1 w5 ho hgr hat hlt
                  obtain ⟨f1, f2⟩ := FIN.out w5 hgr
                  rw [show prs L ++ [.int .u8 (i : Nat), .int .u8 (K : Nat)] = prs (L ++ [(i, K)]) from (prs_snoc L i K).symm] at ho
                  have HO5 := Lib.hid ho
                  have HA5 := Lib.hid f1
                  have HB5 := Lib.hid f2
                  clear ho f1 f2 hgr hat hlt v1
                  go_wp2
                  go_roundw
                  case rel => exact ⟨i + 1, L ++ [(i, K)], by omega, by simp, HE, by simpa using HO5, HA5, HB5⟩
                  case measure => simp [intOf] <;> omega
    · obtain rfl : i = 256 := by omega
      have HE := Lib.hid (HR.out.all hN)
      go_wp2
      go_ret
      refine ⟨⟨_, rfl, ?_⟩, HB.out⟩
      rw [← HE.out]
      exact Row.of_owns HO.out
end Go.Proofs.YtdociniomegpnaaDoor.CRefD
