/- What is sealed is read; with a byte of it another one, or lacking, or more, it is not; bytes that seal something are just those that are laid of it. -/
import Derived.Test.YtmbindcgghddjaaPx4
import Derived.Test.YtmbindcgghddjaaSealTh
namespace Go.Proofs.Ytmbindcgghddjaa.Pure
open Go.RowKit Go.Proofs.Ytmbindcgghddjaa.P Go.Proofs.YtmbindcgghddjaaW.PrintWords Go.Proofs.YtmbindcgghddjaaW.PrintLast

theorem SealBack : styluslaw29_SealBack.Pure := by
  intro ep x z _ _ hZ
  apply Ev.rounds
  obtain ⟨s, b⟩ := x
  obtain ⟨at_, y⟩ := z
  unfold styluslaw29_SealBack.f
  by_cases G : (s.size : Int) > 1000 ∨ (b.size : Int) > 1000
  · exact Ev.pos G lives29
  refine Ev.neg G (Ev.bind (seal_Lay_ev ep s) ?_)
  have tl : Ev (fun k => styluslaw29_SealBack.tail k b) true := by
    unfold styluslaw29_SealBack.tail
    refine Ev.bind (seal_Read_ev b (by omega)) ?_
    obtain ⟨e1, d1, c1, ho⟩ : ∃ e1 d1 c1, sealRead b = (e1, d1, c1) := ⟨_, _, _, rfl⟩
    rw [ho]
    rcases sealRead_only ho with ⟨hc, rfl, rfl⟩ | ⟨hc, hl⟩
    · exact Ev.neg hc (Ev.pos ⟨rfl, rfl⟩ lives29)
    · refine Ev.pos hc (Ev.bind (seal_Lay_ev e1 d1) ?_)
      rw [hl (by omega)]
      exact Ev.pos ⟨rfl, rfl⟩ lives29
  by_cases g0 : ep < 0 ∨ 999999 < ep
  · have hf : sealLay ep s = (⟨#[]⟩, 3) := by unfold sealLay; rw [if_pos g0]
    rw [hf]
    exact Ev.neg (by decide) tl
  have hf : sealLay ep s = (sealed ep s, 0) := by unfold sealLay sealed; rw [if_neg g0, if_neg (by omega)]
  rw [hf]
  have hl := sealed_size ep s
  refine Ev.pos rfl (Ev.pos (by show (sealed ep s).size ≤ _; omega) ?_)
  refine Ev.bind (seal_Read_ev _ (by show (sealed ep s).size ≤ _; omega)) (Ev.bind (seal_Read_ev _ (by rw [ByteArray.size_append]; show (sealed ep s).size + 1 ≤ _; omega)) ?_)
  rw [show sealRead ((sealed ep s, (0 : Int)).1) = (ep, s, 0) from sealRead_sealed ep s (by omega) (by omega),
    show sealRead ((sealed ep s, (0 : Int)).1 ++ (⟨#[120]⟩ : ByteArray)) = (0, ⟨#[]⟩, 6) from sealRead_longer ep s _ (by decide) (by omega)]
  refine Ev.pos ⟨rfl, rfl, rfl, rfl⟩ ?_
  have lf : Ev (fun k => styluslaw29_SealBack.left k (sealed ep s) b at_) true := by
    unfold styluslaw29_SealBack.left
    by_cases l0 : 0 ≤ at_ ∧ at_ < ((sealed ep s).size : Int)
    · refine Ev.pos l0 (Ev.bind (seal_Read_ev _ (by rw [ByteArray.size_extract]; omega)) ?_)
      rw [sealRead_short ep s (by omega) at_.toNat (by omega)]
      exact Ev.pos rfl tl
    · exact Ev.neg l0 tl
  show Ev (fun k => styluslaw29_SealBack.other k (sealed ep s) s b at_ y) true
  unfold styluslaw29_SealBack.other
  by_cases p0 : 0 ≤ at_ ∧ at_ < (s.size : Int) ∧ y ≠ 0
  · refine Ev.pos p0 (Ev.pos (by omega) ?_)
    have hy := wf_u8 hZ.2
    have hal : styluslaw29_SealBack.alter (sealed ep s) (16 + at_) y = alterOf (sealed ep s) (16 + at_) y := rfl
    rw [hal]
    refine Ev.bind (seal_Read_ev _ (by rw [alterOf_size]; omega)) ?_
    obtain ⟨a, rfl⟩ : ∃ a : Nat, at_ = (a : Int) := ⟨at_.toNat, by omega⟩
    have hda : bt (sealed ep s) ((16 + a : Nat) : Int) = bt s (a : Int) := by
      obtain ⟨_, _, _, _, _, x5, _⟩ := sealed_bytes ep s ByteArray.empty
      rw [ByteArray.append_empty] at x5
      have := cat_piece (sealed ep s) 16 (16 + s.size) a (by omega) (by omega)
      rw [x5] at this
      exact this.symm
    have hch : sealRead (alterOf (sealed ep s) (16 + (a : Int)) y) = (0, ⟨#[]⟩, 19) := by
      rw [show (16 + (a : Int)) = ((16 + a : Nat) : Int) by omega]
      refine sealRead_changed ep s _ (by omega) a (by omega) (by rw [alterOf_size]; omega) (fun j hj hn => ?_) ?_
      · rw [alterOf_at _ _ _ hy j (by omega), if_neg hn]
      · rw [alterOf_at _ _ _ hy _ (by omega), if_pos rfl, hda]
        exact xor_neA _ _ (bt_rangeA s _) hy p0.2.2
    rw [hch]
    exact Ev.pos rfl lf
  · exact Ev.neg p0 lf

end Go.Proofs.Ytmbindcgghddjaa.Pure
