/- The laid variables: all but the first. -/
import Derived.Test.YtpeccbdobdnpiaaDoorRows
import Derived.LaidMore
import Derived.Lib.LaidTab
namespace Go.Proofs.YtpeccbdobdnpiaaDoor.HTail
theorem laid_tail {P : Program} {W : World} {x : String × DataW Unit} {rest : List (String × DataW Unit)} (h : laidMet P (x :: rest) W) : laidMet P rest W := by
  obtain ⟨ps, ⟨g, t, cs, fuel, p, q, hg, ht, hv, hd, h1, h2⟩, hn, hc⟩ := h
  first
    | (subst h2; exact ⟨q, h1, (List.nodup_append.1 hn).2.1, fun b o hb => hc b o (List.mem_append_right _ hb)⟩)
    | (subst h1; exact ⟨q, h2, (List.nodup_append.1 hn).2.1, fun b o hb => hc b o (List.mem_append_right _ hb)⟩)
end Go.Proofs.YtpeccbdobdnpiaaDoor.HTail
