/- Any number in two, and in four bytes is what the page says, and is got of these, as far as it goes. -/
import Derived.Test.YtkkipodnnnclkaaPx1
import Derived.Test.YtkkipodnnnclkaaPx3
import Derived.Test.YtkkipodnnnclkaaNumEv
namespace Go.Proofs.Ytkkipodnnnclkaa.Pure
open Go.RowKit Go.Proofs.Ytkkipodnnnclkaa.P Go.Proofs.YtkkipodnnnclkaaW.PrintWords Go.Proofs.YtkkipodnnnclkaaW.PrintLast

theorem NumPuts : styluslaw03_NumPuts.Pure := by
  intro n hn
  have hw := wf_i64 hn
  apply Ev.rounds
  unfold styluslaw03_NumPuts.f
  refine Ev.call (num_Put16_is n) (Ev.call (num_Put32_is n) (Ev.bind (ref_Put16_ev n) (Ev.pos rfl (Ev.bind (ref_Put32_ev n) ?_))))
  rw [show ((put32 n).toList != (put32 n).toList) = false from by simp]
  refine Ev.step (fun k => by rw [styluslaw03_NumPuts.j0, if_neg (by decide)]) ?_
  refine Ev.bind (num_Get16_ev (put16 n) 0 (by rw [put16_size]; omega)) (Ev.bind (num_Get32_ev (put32 n) 0 (by rw [put32_size]; omega)) ?_)
  rw [getN_put16, getN_put32]
  refine Ev.pos rfl (Ev.pos rfl ?_)
  have l : Ev (fun k => (styluslaw03_lives.f k).bind fun t => some t) true := Ev.bind lives03 (Ev.now _)
  by_cases h0 : n < 0
  · exact Ev.pos h0 l
  · refine Ev.neg h0 ?_
    by_cases h1 : n > 65535
    · refine Ev.pos h1 ?_
      by_cases h2 : n > 4294967295
      · exact Ev.pos h2 l
      · exact Ev.neg h2 (Ev.pos (by show n % 4294967296 = n; omega) l)
    · refine Ev.neg h1 (Ev.pos (by show n % 65536 = n; omega) (Ev.neg (by omega) (Ev.pos (by show n % 4294967296 = n; omega) l)))

end Go.Proofs.Ytkkipodnnnclkaa.Pure
