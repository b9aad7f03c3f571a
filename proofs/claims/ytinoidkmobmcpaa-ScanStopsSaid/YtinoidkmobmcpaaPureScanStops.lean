/- Of frames of one of which a byte of the data is another one just those ahead of it are found, and they end where it begins. -/
import Derived.Test.YtinoidkmobmcpaaPx4
import Derived.Test.YtinoidkmobmcpaaPx10
import Derived.Test.YtinoidkmobmcpaaScanCh
namespace Go.Proofs.Ytinoidkmobmcpaa.Pure
open Go.RowKit Go.Proofs.Ytinoidkmobmcpaa.P Go.Proofs.YtinoidkmobmcpaaW.PrintWords Go.Proofs.YtinoidkmobmcpaaW.PrintLast Go.Proofs.YtinoidkmobmcpaaW.PrintMore

theorem ScanStops : styluslaw13_ScanStops.Pure := by
  intro l x _ hB
  apply Ev.rounds
  obtain ⟨which, at_, y⟩ := x
  have hy := wf_u8 hB.2.2
  have hat := wf_i64 hB.2.1
  obtain ⟨b, hb, ok⟩ := small_ev l 7 0
  unfold styluslaw13_ScanStops.f
  refine Ev.bind hb ?_
  by_cases G : styluslaw13_ScanStops.skip l b which at_ y
  · exact Ev.pos G lives13
  refine Ev.neg G ?_
  unfold styluslaw13_ScanStops.skip at G
  have hb1 : b = true := by
    cases b with
    | true => rfl
    | false => exact absurd (.inl rfl) G
  have ok := ok hb1
  have g1 : ¬ which < 0 := fun z => G (.inr (.inl z))
  have g2 : ¬ (l.length : Int) ≤ which := fun z => G (.inr (.inr (.inl z)))
  have g3 : ¬ at_ < 0 := fun z => G (.inr (.inr (.inr (.inl z))))
  have g4 : ¬ ((rd_T41 l which).f0.size : Int) ≤ at_ := fun z => G (.inr (.inr (.inr (.inr (.inl z)))))
  have g5 : ¬ y = 0 := fun z => G (.inr (.inr (.inr (.inr (.inr z)))))
  refine Ev.bind (laid_ev l 7 0 ok) ?_
  obtain ⟨m, rfl⟩ : ∃ m : Nat, which = (m : Int) := ⟨which.toNat, by omega⟩
  obtain ⟨a, rfl⟩ : ∃ a : Nat, at_ = (a : Int) := ⟨at_.toNat, by omega⟩
  have hlen := ok.2.1
  have hall := okP_all ok
  have hsplit : l = l.take m ++ rd_T41 l (m : Int) :: l.drop (m + 1) := by
    rw [← rd_drop l m (by omega), List.take_append_drop]
  have htl : (l.take m).length = m := by rw [List.length_take]; omega
  generalize rd_T41 l (m : Int) = p at hsplit g4
  generalize hl1 : l.take m = l1 at hsplit htl
  generalize l.drop (m + 1) = l2 at hsplit
  have hp : p.f0.size ≤ 100 := hall p (by rw [hsplit]; exact List.mem_append_right _ List.mem_cons_self)
  have hbd := endL_bound 100 l 0 hall
  have hz := tailP_size 7 l 0 0
  have hsz : (tailP 7 l 0 0).size ≤ 12 * 147 := by
    have : l.length * (47 + 100) ≤ 12 * 147 := Nat.mul_le_mul_right _ hlen
    omega
  have hz1 := tailP_size 7 l1 0 0
  rw [Nat.zero_add] at hz1
  -- the text in parts
  obtain ⟨rest, hrest⟩ : ∃ rest, tailP 7 l 0 0 = tailP 7 l1 0 0 ++ (laidOf 7 (m : Int) p.f0 ++ rest) := by
    refine ⟨fillN (padN p (endL l1 0 + (16 + p.f0.size))) ++ tailP 7 l2 ((m : Int) + 1) (endP p (endL l1 0)), ?_⟩
    rw [hsplit, tailP_app, htl, Int.zero_add]
    show _ ++ ((laidOf 7 (m : Int) p.f0 ++ fillN (padN p (endL l1 0 + (16 + p.f0.size)))) ++ tailP 7 l2 ((m : Int) + 1) (endP p (endL l1 0))) = _
    rw [ByteArray.append_assoc (a := laidOf 7 (m : Int) p.f0)]
  have hpl : rd (placesP l 0) (m : Int) = (endL l1 0 : Int) := by
    rw [hsplit, placesP_app]
    unfold rd
    rw [Int.toNat_natCast, List.getD_eq_getElem?_getD, List.getElem?_append_right (by rw [placesP_len]; omega), placesP_len, htl, Nat.sub_self]
    rfl
  have hplen := placesP_len l 0
  generalize hT1 : tailP 7 l1 0 0 = T1 at hz1 hrest
  have hT : (tailP 7 l 0 0).size = T1.size + (16 + p.f0.size + rest.size) := by rw [hrest, ByteArray.size_append, ByteArray.size_append, laidOf_size]
  show Ev (fun k => if (tailP 7 l 0 0).size ≤ 100000 ∧ (m : Int) < ((placesP l 0).length : Int) ∧ 0 ≤ rd (placesP l 0) (m : Int) ∧ (a : Int) ≤ 100000 ∧ rd (placesP l 0) (m : Int) + 16 + (a : Int) < ((tailP 7 l 0 0).size : Int) then (styluslaw13_ScanStops.told k (alterOf (tailP 7 l 0 0) (rd (placesP l 0) (m : Int) + 16 + (a : Int)) y) (m : Int) (rd (placesP l 0) (m : Int))) else none) true
  rw [hpl]
  refine Ev.pos ⟨by omega, by omega, by omega, by omega, by omega⟩ ?_
  rw [show (endL l1 0 : Int) + 16 + (a : Int) = ((T1.size + (16 + a) : Nat) : Int) by omega]
  have hal := fun j hj => alterOf_at (tailP 7 l 0 0) (T1.size + (16 + a)) y hy j hj
  have hals := alterOf_size (tailP 7 l 0 0) ((T1.size + (16 + a) : Nat) : Int) y
  generalize alterOf (tailP 7 l 0 0) ((T1.size + (16 + a) : Nat) : Int) y = T' at hal hals
  have bT1 : ∀ i : Nat, i < T1.size → bt (tailP 7 l 0 0) (i : Int) = bt T1 (i : Int) := fun i hi => by rw [hrest, cat_left _ _ _ hi]
  have bT2 : ∀ i : Nat, bt (tailP 7 l 0 0) ((T1.size + i : Nat) : Int) = bt (laidOf 7 (m : Int) p.f0 ++ rest) (i : Int) := fun i => by rw [hrest, cat_right]
  generalize hX : T'.extract T1.size T'.size = X
  have hXz : X.size = 16 + p.f0.size + rest.size := by rw [← hX, ByteArray.size_extract]; omega
  have bX : ∀ i : Nat, i < X.size → bt X (i : Int) = bt T' ((T1.size + i : Nat) : Int) := fun i hi => by rw [← hX, cat_piece _ _ _ _ (by omega) (Nat.le_refl _)]
  have eT : T' = T1 ++ X := by
    apply cat_ext
    · rw [ByteArray.size_append]; omega
    · intro i hi
      by_cases c : i < T1.size
      · rw [cat_left _ _ _ c, hal i (by omega), if_neg (by omega), bT1 i c]
      · have := cat_right T1 X (i - T1.size)
        rw [show T1.size + (i - T1.size) = i by omega] at this
        rw [this, bX _ (by omega), show T1.size + (i - T1.size) = i by omega]
  have one : frOne X = (0, 0, ⟨#[]⟩, 0, 19) := by
    refine frOne_changedY 7 (m : Int) p.f0 rest X (by omega) a (by omega) hXz (fun i hi => ?_) ?_
    · by_cases c : i < X.size
      · rw [bX i c, hal _ (by omega), if_neg (by omega), bT2]
      · unfold bt
        rw [dif_neg (by omega), dif_neg (by rw [ByteArray.size_append, laidOf_size]; omega)]
    · rw [bX _ (by omega), hal _ (by omega), if_pos rfl, bT2]
      have hd : bt (laidOf 7 (m : Int) p.f0 ++ rest) ((16 + a : Nat) : Int) = bt p.f0 (a : Int) := by
        obtain ⟨_, _, _, _, _, _, _, x7, _⟩ := laid_bytes 7 (m : Int) p.f0 rest
        have := cat_piece (laidOf 7 (m : Int) p.f0 ++ rest) 16 (16 + p.f0.size) a (by omega) (by rw [ByteArray.size_append, laidOf_size]; omega)
        rw [x7] at this
        exact this.symm
      rw [hd]
      exact xor_neA _ _ (bt_rangeA p.f0 _) hy g5
  have b0 : bt X 0 = 83 := by
    have e1 := bX 0 (by omega)
    have e2 := hal (T1.size + 0) (by omega)
    rw [if_neg (by omega), bT2] at e2
    obtain ⟨x0, _⟩ := laid_bytes 7 (m : Int) p.f0 rest
    exact e1.trans (e2.trans x0)
  have oneT : oneAt T' T1.size = (0, 0, ⟨#[]⟩, 0, 19) := by
    unfold oneAt
    rw [hX]
    exact one
  obtain ⟨n', hn', hf⟩ := scL_found 7 ⟨by decide, by decide⟩ l1 (T'.size + 1) 0 ⟨#[]⟩ X (fun q hq => by
    have := hall q (by rw [hsplit]; exact List.mem_append_left _ hq)
    omega) (by decide) (by omega) (by
    rw [ByteArray.size_append]
    show (tailP 7 l1 0 0).size + X.size < _
    rw [hT1]
    omega)
  have hf : scL (T'.size + 1) ((⟨#[]⟩ : ByteArray) ++ (tailP 7 l1 0 0 ++ X)) 7 0 0 = foundP 7 l1 0 0 ++ scL n' ((⟨#[]⟩ : ByteArray) ++ (tailP 7 l1 0 0 ++ X)) 7 (0 + l1.length) (endL l1 0) := hf
  rw [hT1, show (⟨#[]⟩ : ByteArray) ++ (T1 ++ X) = T1 ++ X from ByteArray.empty_append, ← eT, ← hz1] at hf
  have hstop : scL n' T' 7 (0 + l1.length) T1.size = [(false, (⟨0, 0, ⟨#[]⟩⟩ : Fr), (T1.size : Int))] := by
    cases n' with
    | zero => omega
    | succ n' =>
      have e2 : ¬ fillAt T' T1.size := by
        intro z
        have h1 := z.1
        have h2 := z.2.1
        have h3 : T1.size < upTo T1.size := by unfold upTo; omega
        have h4 := z.2.2 0 (by rw [ByteArray.size_extract]; omega)
        rw [cat_piece _ _ _ _ (by omega) (by omega), ← bX 0 (by omega)] at h4
        rw [show ((0 : Nat) : Int) = 0 from rfl, b0] at h4
        exact absurd h4 (by decide)
      rw [scL, oneT, if_neg (fun z => absurd z.1 (by decide)), if_neg e2]
  rw [hstop] at hf
  have hs : scOf T' 7 0 = foundP 7 l1 0 0 ++ [(false, (⟨0, 0, ⟨#[]⟩⟩ : Fr), (T1.size : Int))] := hf
  have ho : scan_outs (scOf T' 7 0) = l1.mapIdx fun i p => (⟨7, 0 + (i : Int), p.f0⟩ : Fr) := by rw [hs, outs_cons, outs_f, List.append_nil]
  have he : scan_endOf (scOf T' 7 0) = (T1.size : Int) := by rw [hs, endOf_app _ _ (by simp), endOf_one]
  unfold styluslaw13_ScanStops.told
  refine Ev.bind (scan_Run_ev T' (by omega) 7 0) ?_
  rw [ho, he]
  refine Ev.pos ⟨by show ((l1.mapIdx fun i p => (⟨7, 0 + (i : Int), p.f0⟩ : Fr)).length : Int) = _; rw [List.length_mapIdx, htl], by rw [hz1]⟩ ?_
  refine Ev.bind (scan_Why_ev T' (by omega) 7 0) ?_
  rw [he]
  refine Ev.pos ?_ lives13
  unfold whyAt
  rw [if_neg (by omega), Int.toNat_natCast, oneT]
  rfl

end Go.Proofs.Ytinoidkmobmcpaa.Pure
