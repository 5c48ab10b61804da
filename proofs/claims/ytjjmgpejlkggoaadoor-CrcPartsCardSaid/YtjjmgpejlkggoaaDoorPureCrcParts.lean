/- In which parts bytes come changes nothing; the sum has 24 binary digits; a sum that goes on over nothing is itself (bytes cut at 200). No condition but the program's own table. -/
import Derived.Test.YtjjmgpejlkggoaaDoorCFix
import Derived.Test.YtjjmgpejlkggoaaDoorQ5
namespace Go.Proofs.YtjjmgpejlkggoaaDoor.Pure
open Go.RowKit Go.Proofs.YtjjmgpejlkggoaaDoor.Q Go.Proofs.YtjjmgpejlkggoaaDoorW.PrintWords Go.Proofs.YtjjmgpejlkggoaaDoorW.PrintLast Go.Proofs.YtjjmgpejlkggoaaDoorW.PrintMore HOn CMath BMath CEq

theorem CrcParts : clewlaw03_CrcParts.Pure := by
  intro a s t ha hs ht
  obtain ⟨n, rfl, hn⟩ := u32_of ha
  unfold clewlaw03_CrcParts.f
  have hm : mn (s.size : Int) 200 = ((min s.size 200 : Nat) : Int) := mn_nat s.size 200
  have hm2 : mn (t.size : Int) 200 = ((min t.size 200 : Nat) : Int) := mn_nat t.size 200
  have hz := cut_size s 200
  have hz2 := cut_size t 200
  rw [hm, hm2, Int.toNat_natCast, Int.toNat_natCast]
  generalize s.extract 0 (min s.size 200) = u at hz ⊢
  generalize t.extract 0 (min t.size 200) = v at hz2 ⊢
  have hsz : (u ++ v).size = u.size + v.size := ByteArray.size_append ..
  have hx : on (n % 16777216) u.data.toList < 16777216 := on_lt (by omega) _
  have hy := sum_lt u
  have e1 : on (on (n % 16777216) u.data.toList % 16777216) v.data.toList = on (n % 16777216) (u ++ v).data.toList := by
    rw [Nat.mod_eq_of_lt hx, show (u ++ v).data.toList = u.data.toList ++ v.data.toList by simp, on_append]
  have e2 : on (on (n % 16777216) u.data.toList % 16777216) (⟨#[]⟩ : ByteArray).data.toList = on (n % 16777216) u.data.toList := by
    rw [Nat.mod_eq_of_lt hx]
    rfl
  have e3 : sum (u ++ v) = on (sum u % 16777216) v.data.toList := by
    rw [Nat.mod_eq_of_lt hy]
    show on 11994318 (u ++ v).data.toList = _
    rw [show (u ++ v).data.toList = u.data.toList ++ v.data.toList by simp, on_append]
    rfl
  have f1 := on_eq n u hn (by omega)
  have f2 := on_eq (on (n % 16777216) u.data.toList) v (by omega) (by omega)
  have f3 := on_eq n (u ++ v) hn (by omega)
  have f4 := on_eq (on (n % 16777216) u.data.toList) (⟨#[]⟩ : ByteArray) (by omega) (by decide)
  have f5 := of_eq (u ++ v) (by omega)
  have f6 := of_eq u (by omega)
  have f7 := on_eq (sum u) v (by omega) (by omega)
  rw [e1] at f2
  rw [e2] at f4
  rw [← e3] at f7
  rw [if_pos (by omega), if_pos (by omega), if_pos (by omega), if_pos (by omega), f1, Option.bind_some, f2, Option.bind_some, if_pos (by omega), f3, Option.bind_some, if_pos rfl, if_pos (by omega), f4, Option.bind_some, if_pos rfl,
    f5, Option.bind_some, f6, Option.bind_some, f7, Option.bind_some, if_pos rfl, fixed_eq]
  rfl
end Go.Proofs.YtjjmgpejlkggoaaDoor.Pure
