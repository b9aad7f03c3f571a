/- An operation that is laid is read again; bytes that are one are just those that are laid of it. -/
import Derived.Test.YtgabhndhnjedpaaPx5
import Derived.Test.YtgabhndhnjedpaaPx9
import Derived.Test.YtgabhndhnjedpaaOpBk
namespace Go.Proofs.Ytgabhndhnjedpaa.Pure
open Go.RowKit Go.Proofs.Ytgabhndhnjedpaa.P Go.Proofs.YtgabhndhnjedpaaW.PrintWords Go.Proofs.YtgabhndhnjedpaaW.PrintLast

theorem OpcodeBack : styluslaw14_OpcodeBack.Pure := by
  intro x s _ hs
  apply Ev.rounds
  obtain ⟨x0, x1, x2, x3⟩ := x
  have l : Ev (fun k => (styluslaw14_lives.f k).bind fun t => some t) true := Ev.bind lives14 (Ev.now _)
  have no : Ev (fun k => styluslaw14_OpcodeBack.j0 k s true x0 x1 x2 x3) true := Ev.step (fun k => by rw [styluslaw14_OpcodeBack.j0, if_pos (rfl : true = true)]) l
  have j1 : Ev (fun k => styluslaw14_OpcodeBack.j1 k s) true := by
    refine Ev.step (fun k => by rw [styluslaw14_OpcodeBack.j1]) (Ev.bind (opcode_Read_ev s hs) ?_)
    obtain ⟨y0, y1, y2, y3, c, ho⟩ : ∃ y0 y1 y2 y3 c, opRead s = (y0, y1, y2, y3, c) := ⟨_, _, _, _, _, rfl⟩
    rw [ho]
    rcases opRead_only ho with ⟨hc, rfl, rfl, rfl, rfl⟩ | ⟨hc, hl, hz⟩
    · exact Ev.neg hc (Ev.pos (show ((0 : Int) == 0 && ((0 : Int) == 0 && ((0 : Int) == 0 && ((⟨#[]⟩ : ByteArray).toList == ([] : List UInt8))))) = true by decide +kernel) l)
    · refine Ev.pos hc (Ev.bind (opcode_Bytes_ev y0 y1 y2 y3 (by omega)) ?_)
      rw [hl]
      exact Ev.pos rfl (Ev.pos rfl l)
  unfold styluslaw14_OpcodeBack.f
  by_cases h0 : (x3.size : Int) > 600
  · exact Ev.pos h0 no
  refine Ev.neg h0 ?_
  by_cases h1 : (s.size : Int) > 700
  · rw [decide_eq_true h1]; exact no
  rw [decide_eq_false h1]
  refine Ev.step (fun k => by rw [styluslaw14_OpcodeBack.j0, if_neg Bool.false_ne_true]) ?_
  refine Ev.bind (opcode_Bytes_ev x0 x1 x2 x3 (by omega)) ?_
  unfold opBytes
  by_cases hr : opRight x0 x1 x2 x3 = true
  · rw [if_pos hr]
    have hf := right_facts hr
    have hz : (opLaid x0 x1 x2 x3).size ≤ 140737488351232 := by
      have z0 := one_size x0
      have z1 := put32_size x1
      have z2 := put32_size x2
      unfold opLaid
      by_cases c : x0 ≤ 3
      · rw [if_pos c]
        by_cases d : x0 = 2
        · rw [if_pos d, ByteArray.size_append, ByteArray.size_append, ByteArray.size_append]; omega
        · rw [if_neg d, ByteArray.size_append, ByteArray.size_append]; omega
      · rw [if_neg c, ByteArray.size_append]; omega
    refine Ev.pos rfl (Ev.bind (opcode_Read_ev _ hz) ?_)
    rw [show opRead (opLaid x0 x1 x2 x3, (0 : Int)).1 = (x0, x1, x2, x3, 0) from opRead_laid hr]
    refine Ev.neg (by simp) (Ev.pos rfl (Ev.bind (opcode_Right_ev x0 x1 x2 x3 (by omega)) (Ev.pos hr j1)))
  · rw [if_neg hr]
    exact Ev.neg (by decide) j1

end Go.Proofs.Ytgabhndhnjedpaa.Pure
