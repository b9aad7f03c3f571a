/- A state that is laid is read again; bytes that are one are just those that are laid of it; no beginning of these is one. -/
import Derived.Test.YtnndanfghlnpfaaPx9
import Derived.Test.YtnndanfghlnpfaaPx11
import Derived.Test.YtnndanfghlnpfaaPx12
import Derived.Test.YtnndanfghlnpfaaPx24
import Derived.Test.YtnndanfghlnpfaaPx26
import Derived.Test.YtnndanfghlnpfaaPackFt
import Derived.Test.YtnndanfghlnpfaaPackLv
namespace Go.Proofs.Ytnndanfghlnpfaa.Pure
open Go.RowKit Go.Proofs.Ytnndanfghlnpfaa.P Go.Proofs.YtnndanfghlnpfaaW.PrintWords Go.Proofs.YtnndanfghlnpfaaW.PrintLast
theorem few_nil : Few25 (⟨#[]⟩ : ByteArray) [] [] [] [] := ⟨by decide, by decide, by decide, by decide, by decide, (fun s h => by cases h), (fun s h => by cases h)⟩
theorem j3_ev (b : ByteArray) (hb : b.size ≤ 3000) : Ev (fun k => sl28PackBack.j3 k b) true := by
 have lv : Ev (fun k => (sl28lives.f k).bind fun t => some t) true := Ev.bind lives28 (Ev.now _)
 refine Ev.step (fun k => by rw [sl28PackBack.j3]) (Ev.bind (pack_Read_ev b (by omega) fun t m u r o g h => vState_few hb h) ?_)
 have no : ∀ c : Int, c ≠ 0 → readV b = ((⟨#[]⟩ : ByteArray), [], [], [], false, [], c) → Ev (fun k => if (readV b).2.2.2.2.2.2 = 0 then ((pack_Lay.f k (readV b).1 (readV b).2.1 (readV b).2.2.1 (readV b).2.2.2.1 (readV b).2.2.2.2.1 (readV b).2.2.2.2.2.1).bind fun bt543 => (if bt543.1.toList = b.toList then (if bt543.2 = 0 then ((sl28lives.f k).bind fun t545 => (some t545)) else (none)) else (none))) else ((sr25Same.f k (readV b).1 (readV b).2.1 (readV b).2.2.1 (readV b).2.2.2.1 (readV b).2.2.2.2.1 (readV b).2.2.2.2.2.1 (⟨#[]⟩ : ByteArray) ([] : List Mk) ([] : List Stp) ([] : List Stp) false ([] : List Ed)).bind fun t546 => (if t546 = true then ((sl28lives.f k).bind fun t547 => (some t547)) else (none)))) true := fun c hc e => by
  rw [e]
  refine Ev.neg hc (Ev.bind (Ev.to (ref25_Same_ev _ _ _ _ _ _ _ _ _ _ _ _ few_nil) (same_State_refl _ _ _ _ _ _)) (Ev.pos rfl lv))
 cases h : vState b with
 | error c =>
  have hc : c ≠ 0 := vState_err h
  refine no c hc ?_
  unfold readV
  rw [h]
 | ok x =>
  obtain ⟨t, m, u, r, o, g⟩ := x
  have F := vState_few hb h
  cases q : rightB t m u r o g with
  | false =>
   refine no 5 (by decide) ?_
   unfold readV
   rw [h]
   show (if rightB t m u r o g = true then _ else _) = _
   rw [q]
   rfl
  | true =>
   have e : readV b = (t, m, u, r, o, g, 0) := by
    unfold readV
    rw [h]
    show (if rightB t m u r o g = true then _ else _) = _
    rw [q]
    rfl
   rw [e]
   have hl := pack_Lay_ev t m u r o g F.1 F.2 (layOk_of F.1)
   rw [show layV t m u r o g = (layB t m u r o g, 0) by unfold layV; rw [if_pos q], B_state (by omega) h] at hl
   exact Ev.pos rfl (Ev.bind hl (Ev.pos rfl (Ev.pos rfl lv)))
theorem PackBack : sl28PackBack.Pure := by
 intro x b n hx hb hn
 obtain ⟨_, ⟨_, hm⟩, ⟨_, hu⟩, ⟨_, hr⟩, _⟩ := hx
 apply Ev.rounds
 have lv : Ev (fun k => (sl28lives.f k).bind fun t => some t) true := Ev.bind lives28 (Ev.now _)
 have no : Ev (fun k => sl28PackBack.j0 k b n true x.f0 x.f1 x.f2 x.f3 x.f4 x.f5) true := Ev.step (fun k => by rw [sl28PackBack.j0, if_pos (rfl : true = true)]) lv
 unfold sl28PackBack.f
 obtain ⟨few, hfew, hs⟩ := few25_ev x.f0 x.f1 x.f2 x.f3 x.f4 x.f5 (fun s h => (hu s h).1) (fun s h => (hr s h).1)
 refine Ev.bind hfew ?_
 cases few with
 | false => exact Ev.neg Bool.false_ne_true no
 | true =>
  have F := hs rfl
  have hm2 : ∀ s ∈ x.f1, s.f0.size ≤ 140737488351232 := fun s h => (hm s h).1
  refine Ev.pos rfl ?_
  by_cases c : (b.size : Int) > 3000
  ·rw [decide_eq_true c]
   exact no
  ·rw [decide_eq_false c]
   have j3 := j3_ev b (by omega)
   refine Ev.step (fun k => by show sl28PackBack.j0 (k + 1) b n false x.f0 x.f1 x.f2 x.f3 x.f4 x.f5 = _; rw [sl28PackBack.j0, if_neg Bool.false_ne_true]) ?_
   refine Ev.bind (pack_Lay_ev _ _ _ _ x.f4 _ F hm2 (layOk_of F)) ?_
   cases q : rightB x.f0 x.f1 x.f2 x.f3 x.f4 x.f5 with
   | false =>
    rw [show layV x.f0 x.f1 x.f2 x.f3 x.f4 x.f5 = ((⟨#[]⟩ : ByteArray), 5) by unfold layV; rw [if_neg (by rw [q]; exact Bool.false_ne_true)]]
    exact Ev.neg (by decide) j3
   | true =>
    rw [show layV x.f0 x.f1 x.f2 x.f3 x.f4 x.f5 = (layB x.f0 x.f1 x.f2 x.f3 x.f4 x.f5, 0) by unfold layV; rw [if_pos q]]
    have K := (layOk_of F q).size x.f4
    have l16 := undo16 q
    have hv := vState_lay F (by omega) (by omega) q
    obtain ⟨a, ha⟩ : ∃ a, layB x.f0 x.f1 x.f2 x.f3 x.f4 x.f5 = a := ⟨_, rfl⟩
    rw [ha] at K hv ⊢
    have e : readV a = (x.f0, x.f1, x.f2, x.f3, x.f4, x.f5, 0) := by
     unfold readV
     rw [hv]
     show (if rightB x.f0 x.f1 x.f2 x.f3 x.f4 x.f5 = true then _ else _) = _
     rw [q]
     rfl
    have hread : Ev (fun k => pack_Read.f k a) (x.f0, x.f1, x.f2, x.f3, x.f4, x.f5, 0) := by
     rw [← e]
     refine pack_Read_ev a (by omega) fun t m u r o g h => ?_
     rw [hv] at h
     injection h with h
     simp only [Prod.mk.injEq] at h
     obtain ⟨rfl, rfl, rfl, rfl, rfl, rfl⟩ := h
     exact ⟨F, hm2⟩
    refine Ev.pos rfl (Ev.bind hread (Ev.bind (Ev.to (ref25_Same_ev _ _ _ _ _ _ _ _ _ _ _ _ F) (same_State_refl _ _ _ _ _ _)) (Ev.pos rfl ?_)))
    have j2no : Ev (fun k => sl28PackBack.j2 k b n a false) true := Ev.step (fun k => by rw [sl28PackBack.j2, if_neg Bool.false_ne_true]) j3
    refine Ev.step (f := fun k => if n ≥ 0 then sl28PackBack.j2 k b n a (decide (n < (a.size : Int))) else sl28PackBack.j2 k b n a false) (fun k => by show sl28PackBack.j1 (k + 1) b n a false = _; rw [sl28PackBack.j1, if_neg Bool.false_ne_true]) ?_
    by_cases c0 : n ≥ 0
    ·refine Ev.pos c0 ?_
     by_cases c1 : n < (a.size : Int)
     ·rw [decide_eq_true c1]
      have hp : vState (a.extract 0 n.toNat) = .error 18 := P_state (by omega) (by omega) hv
      have hr2 := pack_Read_ev (a.extract 0 n.toNat) (by rw [ByteArray.size_extract]; omega) (fun t m u r o g h => by rw [hp] at h; cases h)
      have e2 : readV (a.extract 0 n.toNat) = ((⟨#[]⟩ : ByteArray), [], [], [], false, [], 18) := by
       unfold readV
       rw [hp]
      rw [e2] at hr2
      exact Ev.step (fun k => by rw [sl28PackBack.j2, if_pos rfl, if_pos c0, if_pos (by omega)]) (Ev.bind hr2 (Ev.pos rfl j3))
     ·rw [decide_eq_false c1]
      exact j2no
    ·exact Ev.neg c0 j2no
end Go.Proofs.Ytnndanfghlnpfaa.Pure
