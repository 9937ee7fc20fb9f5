/- The law DnsRefuses for each message. -/
import Derived.Test.YtmilcpejchjleaaMds
import Derived.Test.YtmilcpejchjleaaDu0
namespace Go.Proofs.Ytmilcpejchjleaa
open Go.RowKit

theorem dnsRefuses_arg (id fl : Int) (qn : Nat) (qg : Nat → List AV) (hq : ∀ i, i < qn → LfRow lfQ (qg i)) (an : Nat) (ag : Nat → List AV) (ha : ∀ i, i < an → LfRow lfR (ag i)) (on : Nat) (og : Nat → List AV) (ho : ∀ i, i < on → LfRow lfR (og i)) (mn : Nat) (mg : Nat → List AV) (hm : ∀ i, i < mn → LfRow lfR (mg i)) (code : Int) :
    ∃ L' n', ACall Try.prog 23 [.agg [iI id, iI fl, .view 3 qn qg, .view 5 an ag, .view 5 on og, .view 5 mn mg], iI code] [] 0 (.val (.bool true)) L' n' := by
  obtain ⟨qs, h1⟩ := toVQ qn qg hq
  obtain ⟨a, ta, h2⟩ := toVR an ag ha
  obtain ⟨o, tO, h3⟩ := toVR on og ho
  obtain ⟨m, tm, h4⟩ := toVR mn mg hm
  obtain ⟨L', n', hc⟩ := dnsRefuses_walk id fl qs a o m code ta tO tm
  exact ⟨L', n', hc.argsL (.cons (RepLe.agg (.cons (sameA _) (.cons (sameA _) (.cons h1 (.cons h2 (.cons h3 (.cons h4 .nil))))))) (.cons (sameA _) .nil))⟩
end Go.Proofs.Ytmilcpejchjleaa
