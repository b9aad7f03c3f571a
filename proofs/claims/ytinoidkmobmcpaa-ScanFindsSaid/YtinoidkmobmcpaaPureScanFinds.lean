/- Frames one behind the other, each filled up or not, are found, all of them, whatever stands behind that begins no frame and fills nothing up. -/
import Derived.Test.YtinoidkmobmcpaaPx4
import Derived.Test.YtinoidkmobmcpaaPx5
import Derived.Test.YtinoidkmobmcpaaPx9
import Derived.Test.YtinoidkmobmcpaaScanLa
namespace Go.Proofs.Ytinoidkmobmcpaa.Pure
open Go.RowKit Go.Proofs.Ytinoidkmobmcpaa.P Go.Proofs.YtinoidkmobmcpaaW.PrintWords Go.Proofs.YtinoidkmobmcpaaW.PrintLast Go.Proofs.YtinoidkmobmcpaaW.PrintMore

theorem ScanFinds : styluslaw13_ScanFinds.Pure := by
  intro l x y _ _ _
  apply Ev.rounds
  obtain ⟨ep, q⟩ := x
  have lv : Ev (fun k => (styluslaw13_lives.f k).bind fun t => some t) true := Ev.bind lives13 (Ev.now _)
  have no : Ev (fun k => styluslaw13_ScanFinds.j0 k l y ep q true) true := Ev.step (fun k => by rw [styluslaw13_ScanFinds.j0, if_pos (rfl : true = true)]) lv
  obtain ⟨b, hb, ok⟩ := small_ev l ep q
  unfold styluslaw13_ScanFinds.f
  refine Ev.bind hb ?_
  cases b with
  | false => exact Ev.neg Bool.false_ne_true no
  | true =>
    refine Ev.pos rfl ?_
    have ok := ok rfl
    by_cases c0 : (y.size : Int) > 100
    · rw [decide_eq_true c0]; exact no
    rw [decide_eq_false c0]
    refine Ev.step (fun k => by rw [styluslaw13_ScanFinds.j0, if_neg Bool.false_ne_true]) (Ev.bind (laid_ev l ep q ok) ?_)
    have hlen := ok.2.1
    have hall := okP_all ok
    have hz := tailP_size ep l q 0
    have hbd := endL_bound 100 l 0 hall
    have hsz : (tailP ep l q 0).size ≤ 12 * 147 := by
      have : l.length * (47 + 100) ≤ 12 * 147 := Nat.mul_le_mul_right _ hlen
      omega
    have skip : Ev (fun k => styluslaw13_ScanFinds.j1 k l y ep q (tailP ep l q 0) true) true := Ev.step (fun k => by rw [styluslaw13_ScanFinds.j1, if_pos (rfl : true = true)]) lv
    have main : (0 < y.size → bt y 0 ≠ 83 ∧ bt y 0 ≠ 255) → Ev (fun k => styluslaw13_ScanFinds.j1 k l y ep q (tailP ep l q 0) false) true := by
      intro hy
      have htz : (tailP ep l q 0 ++ y).size = (tailP ep l q 0).size + y.size := ByteArray.size_append
      refine Ev.step (fun k => by rw [styluslaw13_ScanFinds.j1, if_neg Bool.false_ne_true, if_pos (by omega)]) ?_
      refine Ev.bind (scan_Run_ev _ (by omega) ep q) ?_
      obtain ⟨n', hn', hf⟩ := scL_found ep ⟨ok.2.2.1, ok.2.2.2.1⟩ l ((tailP ep l q 0 ++ y).size + 1) q ⟨#[]⟩ y (fun p hp => by have := hall p hp; omega) ok.2.2.2.2.1 (by have := ok.2.2.2.2.2; omega) (Nat.lt_succ_self _)
      have e0 : (⟨#[]⟩ : ByteArray) ++ (tailP ep l q (⟨#[]⟩ : ByteArray).size ++ y) = tailP ep l q 0 ++ y := ByteArray.empty_append
      rw [e0] at hf
      have hend : endL l (⟨#[]⟩ : ByteArray).size = (tailP ep l q 0).size := by
        show endL l 0 = _
        omega
      rw [hend, scL_stop ep _ n' (tailP ep l q 0) y hn' hy] at hf
      have hs : scOf (tailP ep l q 0 ++ y) ep q = foundP ep l q 0 ++ [(false, (⟨0, 0, ⟨#[]⟩⟩ : Fr), ((tailP ep l q 0).size : Int))] := hf
      have ho : scan_outs (scOf (tailP ep l q 0 ++ y) ep q) = l.mapIdx fun i p => (⟨ep, q + (i : Int), p.f0⟩ : Fr) := by rw [hs, outs_cons, outs_f, List.append_nil]
      have he : scan_endOf (scOf (tailP ep l q 0 ++ y) ep q) = ((tailP ep l q 0).size : Int) := by rw [hs, endOf_app _ _ (by simp), endOf_one]
      rw [ho, he]
      have hml : (l.mapIdx fun i p => (⟨ep, q + (i : Int), p.f0⟩ : Fr)).length = l.length := List.length_mapIdx
      refine Ev.pos (by show ((l.mapIdx fun i p => (⟨ep, q + (i : Int), p.f0⟩ : Fr)).length : Int) = _; rw [hml]) ?_
      show Ev (fun k => styluslaw13_ScanFinds.j2 k l ep q (l.mapIdx fun i p => (⟨ep, q + (i : Int), p.f0⟩ : Fr)) (((tailP ep l q 0).size : Int) != ((tailP ep l q 0).size : Int))) _
      rw [bne_self_eq_false]
      refine Ev.step (fun k => by rw [styluslaw13_ScanFinds.j2, if_neg Bool.false_ne_true]) ?_
      have go : ∀ d i : Nat, i + d = l.length → Ev (fun k => styluslaw13_ScanFinds.l0 k l ep q (l.mapIdx fun i p => (⟨ep, q + (i : Int), p.f0⟩ : Fr)) (i : Int)) true := by
        intro d
        induction d with
        | zero => exact fun i hi => Ev.step (fun k => by rw [styluslaw13_ScanFinds.l0, hml, if_neg (by omega)]) lv
        | succ d ih =>
          intro i hi
          have r1 : rd_T39 (l.mapIdx fun i p => (⟨ep, q + (i : Int), p.f0⟩ : Fr)) (i : Int) = ⟨ep, q + (i : Int), (rd_T41 l (i : Int)).f0⟩ := by
            unfold rd_T39 rd_T41
            rw [Int.toNat_natCast, List.getD_eq_getElem?_getD, List.getD_eq_getElem?_getD, List.getElem?_mapIdx, List.getElem?_eq_getElem (by omega)]
            rfl
          have g3 := ok.2.2.2.2.2
          have g2 := ok.2.2.2.2.1
          refine Ev.step (fun k => by rw [styluslaw13_ScanFinds.l0, hml, if_pos (show (i : Int) < (l.length : Int) by omega), if_pos (show (0 : Int) ≤ (i : Int) by omega), if_pos (show (i : Int) < (l.length : Int) by omega), r1, w64 (x := q + (i : Int)) (by omega) (by omega), if_neg (by simp), w64 (x := (i : Int) + 1) (by omega) (by omega)]) ?_
          exact ih (i + 1) (by omega)
      exact go l.length 0 (by omega)
    show Ev (fun k => if (y.size : Int) > 0 then (if 0 < (y.size : Int) then (if (bt y 0) = 83 then _ else _) else none) else _) true
    by_cases c1 : (y.size : Int) > 0
    · refine Ev.pos c1 (Ev.pos c1 ?_)
      by_cases c2 : bt y 0 = 83
      · exact Ev.pos c2 skip
      refine Ev.neg c2 ?_
      by_cases c3 : bt y 0 = 255
      · rw [show (bt y 0 == 255) = true from beq_iff_eq.mpr c3]
        exact skip
      · rw [show (bt y 0 == 255) = false from beq_eq_false_iff_ne.mpr c3]
        exact main fun _ => ⟨c2, c3⟩
    · exact Ev.neg c1 (main fun z => absurd z (by omega))

end Go.Proofs.Ytinoidkmobmcpaa.Pure
