/- Calls told line by line are parsed to the same; a text that tells a call is what that is told as. -/
import Derived.Test.YtednfgphhelkjaaDoorPx2
import Derived.Test.YtednfgphhelkjaaDoorPx4
import Derived.Test.YtednfgphhelkjaaDoorPx9
import Derived.Test.YtednfgphhelkjaaDoorPx10
import Derived.Test.YtednfgphhelkjaaDoorTraceAl
namespace Go.Proofs.YtednfgphhelkjaaDoor.Pure
open Go.RowKit Go.Proofs.YtednfgphhelkjaaDoor.P Go.Proofs.YtednfgphhelkjaaDoorW.PrintWords Go.Proofs.YtednfgphhelkjaaDoorW.PrintLast
abbrev tellC (c : S24) : List UInt8 := callT c.f0 c.f1 c.f2 c.f3
abbrev fineC (c : S24) : Prop := rightB c.f0 c.f1 c.f2 c.f3 = true
def linesL (L : List S24) : List UInt8 := L.flatMap fun c => tellC c ++ [10]
theorem linesL_cons (c : S24) (L : List S24) : linesL (c :: L) = tellC c ++ (10 :: linesL L) := by simp [linesL]
theorem linesL_len : ∀ L : List S24, (∀ c ∈ L, fineC c) → (linesL L).length ≤ 1101 * L.length
 | [], _ => by simp [linesL]
 | c :: L, h => by
  have h1 : (tellC c).length ≤ 1100 := callT_len c.f0 c.f1 c.f2 c.f3 (h c (by simp))
  have h2 := linesL_len L (fun x hx => h x (by simp [hx]))
  rw [linesL_cons, List.length_append, List.length_cons, List.length_cons]
  omega
theorem lnGo_ev : ∀ (L : List S24) (o : List UInt8), (∀ c ∈ L, fineC c) → o.length + 1101 * L.length ≤ 1000000 → Ev (fun k => lnGo k L o) (o ++ linesL L)
 | [], o, _, _ => Ev.end fun k => by rw [lnGo]; simp [linesL]
 | c :: L, o, h, hl => by
  have hc := h c (by simp)
  have h1 : (tellC c).length ≤ 1100 := callT_len c.f0 c.f1 c.f2 c.f3 hc
  simp only [List.length_cons] at hl
  have e := lnGo_ev L (o ++ tellC c ++ [10]) (fun x hx => h x (by simp [hx])) (by simp only [List.length_append, List.length_singleton]; omega)
  refine Ev.congr (fun k => by rw [lnGo]) ?_
  have ec := Call_ev c.f0 c.f1 c.f2 c.f3
  unfold callE at ec
  rw [if_pos hc] at ec
  refine Ev.bind ec (Ev.pos (by rw [tby_size]; show o.length + (tellC c).length + 1 ≤ 1099511627776; omega) ?_)
  refine Ev.to e ?_
  rw [linesL_cons]
  simp
theorem Lines_ev (L : List S24) (h : ∀ c ∈ L, fineC c) (hl : L.length ≤ 20) : Ev (fun k => trace_Lines.f k L) (tby (linesL L)) := by
 unfold trace_Lines.f
 refine Ev.pos (by omega) ?_
 obtain ⟨n, hn⟩ := lnGo_ev L [] h (by simp only [List.length_nil]; omega)
 exact ⟨n, fun k hk => by
  show Option.map (fun o => (⟨o.toArray⟩ : ByteArray)) (lnGo k L []) = _
  rw [show lnGo k L [] = _ from hn k hk]
  rfl⟩
theorem spl_lines : ∀ L : List S24, (∀ c ∈ L, fineC c) → spl 10 [] (linesL L) = L.map tellC ++ [[]]
 | [], _ => rfl
 | c :: L, h => by
  rw [linesL_cons, sq_at 10 _ _ [] (callT_ten _ _ _ _ (h c (by simp))), spl_lines L (fun x hx => h x (by simp [hx]))]
  rfl
theorem allL_back : ∀ (L out : List S24), (∀ c ∈ L, fineC c) → allL (L.map tellC ++ [[]]) out = (out ++ L, 0)
 | [], out, _ => by simp [allL]
 | c :: L, out, h => by
  have hc := h c (by simp)
  have e := prs_call c.f0 c.f1 c.f2 c.f3 hc
  have hne : tellC c ≠ [] := by
   intro z
   have := congrArg List.length z
   rw [show (tellC c).length = (four (wordK c.f0) (dec c.f1) (dec c.f2) (hexL c.f3.data.toList)).length from rfl, four_len] at this
   simp at this
  have er : recL (tellC c) = c := by unfold recL; rw [e]
  rw [List.map_cons, List.cons_append, allL, if_neg hne, e, if_pos rfl, er, allL_back L _ (fun x hx => h x (by simp [hx]))]
  simp
theorem rd_c (L : List S24) (i : Nat) (h : i < L.length) : rd_T24 L (i : Int) = L[i] := by
 unfold rd_T24
 rw [Int.toNat_natCast, List.getD_eq_getElem?_getD, List.getElem?_eq_getElem h]
 rfl
theorem back_l1 (L : List S24) (hL : L.length ≤ 20) (s : ByteArray) (hs : s.size ≤ 1000) : ∀ (d i : Nat), i + d = L.length → Ev (fun k => styluslaw45_TraceBack.l1 k L s L (i : Int)) true
 | 0, i, h => by
  have hz := data_length s
  have lv : Ev (fun _ => (styluslaw45_lives.f).bind fun t => some t) true := Ev.call (show styluslaw45_lives.f = some true from rfl) (Ev.now _)
  have e1 := Parse_ev s.data.toList (by omega)
  rw [tby_self] at e1
  refine Ev.step (fun k => by rw [styluslaw45_TraceBack.l1, if_neg (by omega)]) (Ev.bind e1 ?_)
  by_cases c : (prs s.data.toList).2.2.2.2 = 0
  ·obtain ⟨r1, r2⟩ := prs_ok _ c
   refine Ev.pos c (Ev.bind (Call_ev _ _ _ _) ?_)
   unfold callE
   rw [if_pos r1, r2, tby_self]
   exact Ev.pos rfl lv
  ·rw [prs_err _ c]
   exact Ev.neg (by decide) (Ev.pos rfl (Ev.pos (by decide +kernel) lv))
 | d + 1, i, h => by
  have e := back_l1 L hL s hs d (i + 1) (by omega)
  refine Ev.step (fun k => ?_) e
  rw [styluslaw45_TraceBack.l1, if_pos (by omega), if_pos (by omega), if_pos (by omega), if_neg (by simp), w64 (by omega) (by omega)]
  rfl
theorem back_l0 (L : List S24) (hL : L.length ≤ 20) (s : ByteArray) (hs : s.size ≤ 1000) : ∀ (d i : Nat), i + d = L.length → (∀ c ∈ L.take i, fineC c) → Ev (fun k => styluslaw45_TraceBack.l0 k L s (i : Int)) true
 | 0, i, h, hf => by
  rw [List.take_of_length_le (by omega)] at hf
  have h1 := linesL_len L hf
  have e2 := All_ev (linesL L) (by omega)
  rw [spl_lines L hf, allL_back L [] hf, List.nil_append] at e2
  refine Ev.step (fun k => by rw [styluslaw45_TraceBack.l0, if_neg (by omega)]) (Ev.bind (Lines_ev L hf hL) (Ev.bind e2 (Ev.pos rfl ?_)))
  refine Ev.step (fun k => by rw [styluslaw45_TraceBack.j2, if_neg (by simp)]) ?_
  exact back_l1 L hL s hs L.length 0 (by omega)
 | d + 1, i, h, hf => by
  have hi : i < L.length := by omega
  have lv : Ev (fun _ => (styluslaw45_lives.f).bind fun t => some t) true := Ev.call (show styluslaw45_lives.f = some true from rfl) (Ev.now _)
  refine Ev.step (fun k => by rw [styluslaw45_TraceBack.l0, if_pos (by omega), if_pos (by omega), rd_c L i hi]) ?_
  by_cases c : ((L[i]).f3.size : Int) > 100
  ·exact Ev.pos c lv
  refine Ev.neg c (Ev.call (ref_Right_is _ _ _ _) ?_)
  by_cases q : rightB (L[i]).f0 (L[i]).f1 (L[i]).f2 (L[i]).f3 = true
  ·refine Ev.pos q ?_
   rw [w64 (by omega) (by omega)]
   exact back_l0 L hL s hs d (i + 1) (by omega) (fun x hx => by
    rw [List.take_succ_eq_append_getElem hi] at hx
    rcases List.mem_append.1 hx with hx | hx
    ·exact hf x hx
    ·rw [List.mem_singleton] at hx
     subst hx
     exact q)
  ·exact Ev.neg q lv
theorem TraceBack : styluslaw45_TraceBack.Pure := by
 intro L s _ _
 apply Ev.rounds
 have no : Ev (fun k => styluslaw45_TraceBack.j0 k L s true) true := Ev.step (fun k => by rw [styluslaw45_TraceBack.j0, if_pos (rfl : true = true)]) (Ev.call (show styluslaw45_lives.f = some true from rfl) (Ev.now _))
 unfold styluslaw45_TraceBack.f
 by_cases c1 : (L.length : Int) > 20
 ·exact Ev.pos c1 no
 refine Ev.neg c1 ?_
 by_cases c2 : (s.size : Int) > 1000
 ·rw [show decide ((s.size : Int) > 1000) = true from decide_eq_true c2]
  exact no
 rw [show decide ((s.size : Int) > 1000) = false from decide_eq_false c2]
 refine Ev.step (fun k => by rw [styluslaw45_TraceBack.j0, if_neg Bool.false_ne_true]) ?_
 exact back_l0 L (by omega) s (by omega) L.length 0 (by omega) (fun c hc => by simp at hc)
end Go.Proofs.YtednfgphhelkjaaDoor.Pure
