/- Groups: the calls whose answers the document fixes. -/
import Derived.Test.YtpeccbdobdnpiaaDoorAWith
import Derived.Test.YtpeccbdobdnpiaaDoorAAgain
import Derived.Test.YtpeccbdobdnpiaaDoorAShow
import Derived.Test.YtpeccbdobdnpiaaDoorHNum
namespace Go.Proofs.YtpeccbdobdnpiaaDoor.AFix
open Go.RowKit CMem ACap AGet AWith AText ASame AAgain AShow Go.Proofs.YtpeccbdobdnpiaaDoorW.PrintWords Go.Proofs.YtpeccbdobdnpiaaDoorW.PrintLast Go.Proofs.YtpeccbdobdnpiaaDoorW.PrintMore
set_option linter.unusedVariables false
set_option linter.unusedSimpArgs false
set_option maxRecDepth 100000
theorem alloc_setRow (W : World) (a b : Array Value) (t : TypeId) : (W.alloc (.cells a t)).setRow W.heap.size b = W.alloc (.cells b t) := by
  have e : ((W.alloc (.cells a t)).setRow W.heap.size b).heap = (W.alloc (.cells b t)).heap := by
    apply Array.ext_getElem?
    intro i
    by_cases hi : i = W.heap.size
    · subst hi
      rw [setRow_heap _ _ _ _ _ _ (heap_alloc_new W (.cells a t)), heap_alloc_new]
    · rw [setRow_other _ _ _ _ hi]
      rcases Nat.lt_or_ge i W.heap.size with h | h
      · rw [Below.heap_alloc _ _ _ h, Below.heap_alloc _ _ _ h]
      · rw [Array.getElem?_eq_none (by simp; omega), Array.getElem?_eq_none (by simp; omega)]
  have e2 : (W.alloc (.cells a t)).setRow W.heap.size b = { (W.alloc (.cells a t)) with heap := ((W.alloc (.cells a t)).setRow W.heap.size b).heap } := rfl
  rw [e2, e]
  rfl
theorem store_new (b : Nat → Bool) (y : Nat → Int) (t : TypeId) (W : World) : (storeCells ⟨W.heap.size, 0, none⟩ (cc b y).toList).run Tryd.prog (W.alloc (.cells zc t)) = .ok () (W.alloc (.cells (cc b y) t)) := by
  rw [store_row b y (heap_alloc_new W (.cells zc t)), alloc_setRow]
abbrev B2 : Nat → Bool := wb (fun _ => false) 2 0 5
abbrev Y2 : Nat → Int := wy (fun _ => 0) 2 0 5
theorem f_with (W : World) : Calls Tryd.prog 9 #[.agg zc, .int .i64 2, .int .i64 0, .int .i64 5] W fun e w' => e = .returned (.tuple #[.agg (cc B2 Y2), .int .i64 0]) ∧ Below W.heap.size W w' :=
  with_calls (fun _ => false) (fun _ => 0) 2 0 5 W
theorem f_no0 (W : World) : Calls Tryd.prog 9 #[.agg (cc B2 Y2), .int .i64 10, .int .i64 0, .int .i64 1] W fun e w' => e = .returned (.tuple #[.agg zc, .int .i64 1]) ∧ Below W.heap.size W w' := by
  have h := with_calls B2 Y2 10 0 1 W
  rw [wb_no (b := B2) (y := Y2) (show wok 10 0 1 = false by decide), show we 10 0 1 = 1 by decide] at h
  exact h
theorem f_no1 (W : World) : Calls Tryd.prog 9 #[.agg (cc B2 Y2), .int .i64 1, .int .i64 3, .int .i64 2] W fun e w' => e = .returned (.tuple #[.agg zc, .int .i64 1]) ∧ Below W.heap.size W w' := by
  have h := with_calls B2 Y2 1 3 2 W
  rw [wb_no (b := B2) (y := Y2) (show wok 1 3 2 = false by decide), show we 1 3 2 = 1 by decide] at h
  exact h
theorem f_no2 (W : World) : Calls Tryd.prog 9 #[.agg (cc B2 Y2), .int .i64 1, .int .i64 0, .int .i64 10001] W fun e w' => e = .returned (.tuple #[.agg zc, .int .i64 1]) ∧ Below W.heap.size W w' := by
  have h := with_calls B2 Y2 1 0 10001 W
  rw [wb_no (b := B2) (y := Y2) (show wok 1 0 10001 = false by decide), show we 1 0 10001 = 1 by decide] at h
  exact h
theorem f_get (W : World) : Calls Tryd.prog 11 #[.agg (cc B2 Y2), .int .i64 2] W fun e w' => e = .returned (.tuple #[.int .i64 0, .int .i64 5, .bool true]) ∧ Below W.heap.size W w' := by
  have h := get_calls B2 Y2 2 W
  rw [show gfr B2 Y2 2 = 0 by decide, show gto B2 Y2 2 = 5 by decide, show gi B2 2 = true by decide] at h
  exact h
theorem f_getn (W : World) : Calls Tryd.prog 11 #[.agg (cc B2 Y2), .int .i64 1] W fun e w' => e = .returned (.tuple #[.int .i64 0, .int .i64 0, .bool false]) ∧ Below W.heap.size W w' := by
  have h := get_calls B2 Y2 1 W
  rw [show gfr B2 Y2 1 = 0 by decide, show gto B2 Y2 1 = 0 by decide, show gi B2 1 = false by decide] at h
  exact h
theorem f_text (W : World) : Calls Tryd.prog 13 #[.agg (cc B2 Y2), .string ⟨#[104, 101, 108, 108, 111, 32, 119, 111, 114, 108, 100]⟩, .int .i64 2] W fun e w' => e = .returned (.tuple #[.string ⟨#[104, 101, 108, 108, 111]⟩, .bool true]) ∧ Below W.heap.size W w' := by
  have h := text_calls B2 Y2 ⟨#[104, 101, 108, 108, 111, 32, 119, 111, 114, 108, 100]⟩ 2 W
  rw [show gfr B2 Y2 2 = 0 by decide, show gto B2 Y2 2 = 5 by decide, show gi B2 2 = true by decide, show prt ⟨#[104, 101, 108, 108, 111, 32, 119, 111, 114, 108, 100]⟩ true 0 5 = ⟨#[104, 101, 108, 108, 111]⟩ by kernel_rfl, show pok ⟨#[104, 101, 108, 108, 111, 32, 119, 111, 114, 108, 100]⟩ true 0 5 = true by kernel_rfl] at h
  exact h
theorem f_short (W : World) : Calls Tryd.prog 13 #[.agg (cc B2 Y2), .string ⟨#[104, 101, 108, 108]⟩, .int .i64 2] W fun e w' => e = .returned (.tuple #[.string ⟨#[]⟩, .bool false]) ∧ Below W.heap.size W w' := by
  have h := text_calls B2 Y2 ⟨#[104, 101, 108, 108]⟩ 2 W
  rw [show gfr B2 Y2 2 = 0 by decide, show gto B2 Y2 2 = 5 by decide, show gi B2 2 = true by decide, show prt ⟨#[104, 101, 108, 108]⟩ true 0 5 = ⟨#[]⟩ by kernel_rfl, show pok ⟨#[104, 101, 108, 108]⟩ true 0 5 = false by kernel_rfl] at h
  exact h
theorem f_fold (W : World) : Calls Tryd.prog 17 #[.agg (cc B2 Y2), .string ⟨#[104, 101, 108, 108, 111, 72, 69, 76, 76, 79]⟩, .int .i64 2, .int .i64 5, .bool true] W fun e w' => e = .returned (.tuple #[.int .i64 5, .bool true]) ∧ Below W.heap.size W w' := by
  have h := again_calls B2 Y2 ⟨#[104, 101, 108, 108, 111, 72, 69, 76, 76, 79]⟩ 2 5 true (by decide) W
  rw [show gfr B2 Y2 2 = 0 by decide, show gto B2 Y2 2 = 5 by decide, show gi B2 2 = true by decide, show prt ⟨#[104, 101, 108, 108, 111, 72, 69, 76, 76, 79]⟩ true 0 5 = ⟨#[104, 101, 108, 108, 111]⟩ by kernel_rfl, show pok ⟨#[104, 101, 108, 108, 111, 72, 69, 76, 76, 79]⟩ true 0 5 = true by kernel_rfl, show agn ⟨#[104, 101, 108, 108, 111, 72, 69, 76, 76, 79]⟩ ⟨#[104, 101, 108, 108, 111]⟩ true 5 true = 5 by kernel_rfl, show agb ⟨#[104, 101, 108, 108, 111, 72, 69, 76, 76, 79]⟩ ⟨#[104, 101, 108, 108, 111]⟩ true 5 true = true by kernel_rfl] at h
  exact h
theorem f_plain (W : World) : Calls Tryd.prog 17 #[.agg (cc B2 Y2), .string ⟨#[104, 101, 108, 108, 111, 72, 69, 76, 76, 79]⟩, .int .i64 2, .int .i64 5, .bool false] W fun e w' => e = .returned (.tuple #[.int .i64 0, .bool false]) ∧ Below W.heap.size W w' := by
  have h := again_calls B2 Y2 ⟨#[104, 101, 108, 108, 111, 72, 69, 76, 76, 79]⟩ 2 5 false (by decide) W
  rw [show gfr B2 Y2 2 = 0 by decide, show gto B2 Y2 2 = 5 by decide, show gi B2 2 = true by decide, show prt ⟨#[104, 101, 108, 108, 111, 72, 69, 76, 76, 79]⟩ true 0 5 = ⟨#[104, 101, 108, 108, 111]⟩ by kernel_rfl, show pok ⟨#[104, 101, 108, 108, 111, 72, 69, 76, 76, 79]⟩ true 0 5 = true by kernel_rfl, show agn ⟨#[104, 101, 108, 108, 111, 72, 69, 76, 76, 79]⟩ ⟨#[104, 101, 108, 108, 111]⟩ true 5 false = 0 by kernel_rfl, show agb ⟨#[104, 101, 108, 108, 111, 72, 69, 76, 76, 79]⟩ ⟨#[104, 101, 108, 108, 111]⟩ true 5 false = false by kernel_rfl] at h
  exact h
theorem in_2 : in64 Y2 := by
  intro i hi
  have : ∀ j : Fin 18, -9223372036854775808 ≤ Y2 j.val ∧ Y2 j.val ≤ 9223372036854775807 := by decide
  exact this ⟨i, hi⟩
theorem num_0 : num 0 = ⟨#[48]⟩ := by unfold num; rw [HNum.itoa_small (by decide) (by decide)]; rfl
theorem num_5 : num 5 = ⟨#[53]⟩ := by unfold num; rw [HNum.itoa_small (by decide) (by decide)]; rfl
theorem item_2 : item B2 Y2 2 = ⟨#[48, 45, 53]⟩ := by
  unfold item
  rw [show gi B2 2 = true by decide, if_pos rfl, show gfr B2 Y2 2 = 0 by decide, show gto B2 Y2 2 = 5 by decide, num_0, num_5]
  kernel_rfl
theorem item_no (g : Int) (h : gi B2 g = false) : item B2 Y2 g = ⟨#[63]⟩ := by unfold item; rw [h]; rfl
theorem f_show (W : World) (hT : Tab W) : Calls Tryd.prog 15 #[.agg (cc B2 Y2), .int .i64 3] W fun e w' => e = .returned (.string ⟨#[63, 44, 48, 45, 53, 44, 63]⟩) ∧ Below W.heap.size W w' := by
  have h := show_calls B2 Y2 in_2 3 3 (by omega) W hT
  have e : items B2 Y2 3 = [⟨#[63]⟩, ⟨#[48, 45, 53]⟩, ⟨#[63]⟩] := by
    show [item B2 Y2 1, item B2 Y2 2, item B2 Y2 3] = _
    rw [item_no 1 (by decide), item_2, item_no 3 (by decide)]
  rw [e, show (⟨(shown [⟨#[63]⟩, ⟨#[48, 45, 53]⟩, ⟨#[63]⟩]).toArray⟩ : ByteArray) = ⟨#[63, 44, 48, 45, 53, 44, 63]⟩ by kernel_rfl] at h
  exact h
theorem f_show0 (W : World) (hT : Tab W) : Calls Tryd.prog 15 #[.agg (cc B2 Y2), .int .i64 0] W fun e w' => e = .returned (.string ⟨#[]⟩) ∧ Below W.heap.size W w' := by
  have h := show_calls B2 Y2 in_2 0 0 (by omega) W hT
  have e : items B2 Y2 0 = [] := by
    show [] = _
    rw [show ([] : List ByteArray) = [] from rfl]
  rw [e, show (⟨(shown []).toArray⟩ : ByteArray) = ⟨#[]⟩ by kernel_rfl] at h
  exact h
theorem f_show9 (W : World) (hT : Tab W) : Calls Tryd.prog 15 #[.agg (cc B2 Y2), .int .i64 99] W fun e w' => e = .returned (.string ⟨#[63, 44, 48, 45, 53, 44, 63, 44, 63, 44, 63, 44, 63, 44, 63, 44, 63, 44, 63]⟩) ∧ Below W.heap.size W w' := by
  have h := show_calls B2 Y2 in_2 99 9 (by omega) W hT
  have e : items B2 Y2 9 = [⟨#[63]⟩, ⟨#[48, 45, 53]⟩, ⟨#[63]⟩, ⟨#[63]⟩, ⟨#[63]⟩, ⟨#[63]⟩, ⟨#[63]⟩, ⟨#[63]⟩, ⟨#[63]⟩] := by
    show [item B2 Y2 1, item B2 Y2 2, item B2 Y2 3, item B2 Y2 4, item B2 Y2 5, item B2 Y2 6, item B2 Y2 7, item B2 Y2 8, item B2 Y2 9] = _
    rw [item_no 1 (by decide), item_2, item_no 3 (by decide), item_no 4 (by decide), item_no 5 (by decide), item_no 6 (by decide), item_no 7 (by decide), item_no 8 (by decide), item_no 9 (by decide)]
  rw [e, show (⟨(shown [⟨#[63]⟩, ⟨#[48, 45, 53]⟩, ⟨#[63]⟩, ⟨#[63]⟩, ⟨#[63]⟩, ⟨#[63]⟩, ⟨#[63]⟩, ⟨#[63]⟩, ⟨#[63]⟩]).toArray⟩ : ByteArray) = ⟨#[63, 44, 48, 45, 53, 44, 63, 44, 63, 44, 63, 44, 63, 44, 63, 44, 63, 44, 63]⟩ by kernel_rfl] at h
  exact h
end Go.Proofs.YtpeccbdobdnpiaaDoor.AFix
