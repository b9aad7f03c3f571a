/- 131072 bytes are sealed, one more is not. -/
import Derived.Test.YtmbindcgghddjaaPx2
import Derived.Test.YtmbindcgghddjaaPx4
import Derived.Test.YtmbindcgghddjaaSealEv
namespace Go.Proofs.Ytmbindcgghddjaa.Pure
open Go.RowKit Go.Proofs.Ytmbindcgghddjaa.P Go.Proofs.YtmbindcgghddjaaW.PrintWords Go.Proofs.YtmbindcgghddjaaW.PrintLast

theorem SealLong : styluslaw29_SealLong.Pure := by
  intro n hn
  apply Ev.rounds
  have l : Ev (fun k => (styluslaw29_lives.f k).bind fun t => some t) true := Ev.bind lives29 (Ev.now _)
  have no : Ev (fun k => styluslaw29_SealLong.j0 k n true) true := Ev.step (fun k => by rw [styluslaw29_SealLong.j0, if_pos (rfl : true = true)]) l
  unfold styluslaw29_SealLong.f
  by_cases h0 : n < 0
  · exact Ev.pos h0 no
  · refine Ev.neg h0 ?_
    by_cases h1 : n > 2
    · rw [decide_eq_true h1]; exact no
    · rw [decide_eq_false h1]
      refine Ev.step (fun k => by rw [styluslaw29_SealLong.j0, if_neg Bool.false_ne_true]) ?_
      rw [w64 (x := 131072 + n) (by omega) (by omega)]
      refine Ev.pos (by omega) (Ev.pos (by omega) (Ev.bind (seal_Lay_ev 0 _) ?_))
      have hz : (strOfNums (List.replicate (131072 + n).toNat 0)).size = (131072 + n).toNat := by rw [strOfNums_size, List.length_replicate]
      unfold sealLay
      rw [if_neg (by decide)]
      by_cases h2 : n > 0
      · rw [if_pos (by omega)]
        exact Ev.pos h2 (Ev.pos (by rw [ByteArray.toList_eq]) (Ev.pos rfl l))
      · rw [if_neg (by omega)]
        refine Ev.neg h2 (Ev.pos ?_ (Ev.pos rfl l))
        show (((((sc01 ++ _) ++ _) ++ _ : ByteArray)).size : Int) = _
        rw [ByteArray.size_append, ByteArray.size_append, ByteArray.size_append, put32_size, toldOf_size, sc01_size, hz]
        omega

end Go.Proofs.Ytmbindcgghddjaa.Pure
