/- Any number in any many digits is what the page says, and these say it again. -/
import Derived.Test.YtkkipodnnnclkaaPx3
import Derived.Test.YtkkipodnnnclkaaNumEv
import Derived.Test.YtkkipodnnnclkaaDigEv
namespace Go.Proofs.Ytkkipodnnnclkaa.Pure
open Go.RowKit Go.Proofs.Ytkkipodnnnclkaa.P Go.Proofs.YtkkipodnnnclkaaW.PrintWords Go.Proofs.YtkkipodnnnclkaaW.PrintLast

theorem NumDigits : styluslaw03_NumDigits.Pure := by
  intro n w hn hw
  have h1 := wf_i64 hn
  have h2 := wf_i64 hw
  apply Ev.rounds
  unfold styluslaw03_NumDigits.f
  refine Ev.bind (num_Digits_ev n w h1 h2) (Ev.bind (ref_Digits_ev n w h1 h2) (Ev.pos rfl ?_))
  refine Ev.bind (num_Parse_ev (digitsOf n w) (digitsOf_size n w)) ?_
  by_cases he : (digitsOf n w).toList = []
  · exact Ev.pos he (Ev.bind lives03 (Ev.now _))
  · refine Ev.neg he ?_
    obtain ⟨hp, hs⟩ := parse_digits n w he
    rw [hp]
    exact Ev.pos rfl (Ev.pos rfl (Ev.pos hs (Ev.bind lives03 (Ev.now _))))

end Go.Proofs.Ytkkipodnnnclkaa.Pure
