/- The sum goes on from that of a text over what stands behind it: the register behind the first text is the one from which the second goes on. -/
import Derived.Test.YtlnclocfeaklaaaPx1
import Derived.Test.YtlnclocfeaklaaaSumEv
namespace Go.Proofs.Ytlnclocfeaklaaa.Pure
open Go.RowKit Go.Proofs.Ytlnclocfeaklaaa.P Go.Proofs.YtlnclocfeaklaaaW.PrintWords Go.Proofs.YtlnclocfeaklaaaW.PrintLast

theorem crc_joins (a b : ByteArray) : crcAdd (crcAdd 0#32 a) b = crcAdd 0#32 (a ++ b) := by
  unfold crcAdd
  rw [ByteArray.data_append, Array.toList_append, Crc.run_append, BitVec.xor_assoc, BitVec.xor_self, BitVec.xor_zero]
theorem crc_empty (a : BitVec 32) : crcAdd a (⟨#[]⟩ : ByteArray) = a := by
  show (a ^^^ 0xffffffff#32) ^^^ 0xffffffff#32 = a
  rw [BitVec.xor_assoc, BitVec.xor_self, BitVec.xor_zero]
theorem SumJoins : styluslaw02_SumJoins.Pure := by
  intro a b ha hb
  apply Ev.rounds
  have big : Ev (fun k => styluslaw02_SumJoins.j0 k a b true) true := by
    refine Ev.step (f := fun k => (styluslaw02_lives.f k).bind fun t => some t) (fun k => ?_) (Ev.bind lives02 (Ev.now _))
    rw [styluslaw02_SumJoins.j0, if_pos rfl]
  unfold styluslaw02_SumJoins.f
  by_cases h : (a.size : Int) > 1000
  · exact Ev.pos h big
  · refine Ev.neg h ?_
    by_cases h2 : (b.size : Int) > 1000
    · rw [decide_eq_true h2]; exact big
    · rw [decide_eq_false h2]
      have hab : (a ++ b).size ≤ 140737488351232 := by rw [ByteArray.size_append]; omega
      refine Ev.step (f := _) (fun k => by rw [styluslaw02_SumJoins.j0, if_neg (by decide)]) ?_
      refine Ev.bind (sum_Of_ev a ha) (Ev.bind (sum_Add_ev _ b hb) (Ev.pos (by omega) (Ev.bind (sum_Of_ev (a ++ b) hab) (Ev.pos (by rw [crc_joins]) ?_))))
      refine Ev.bind (sum_Of_ev b hb) (Ev.bind (sum_Add_ev _ _ (by decide)) (Ev.bind (sum_Of_ev b hb) (Ev.pos (by rw [crc_empty]) (Ev.bind lives02 (Ev.now _)))))

end Go.Proofs.Ytlnclocfeaklaaa.Pure
