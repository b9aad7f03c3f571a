/- A frame of whose data one byte is another one, or of which bytes lack, is none. -/
import Derived.Test.YtmgnbnkifofleaaPx8
import Derived.Test.YtmgnbnkifofleaaFrameCh
namespace Go.Proofs.Ytmgnbnkifofleaa.Pure
open Go.RowKit Go.Proofs.Ytmgnbnkifofleaa.P Go.Proofs.YtmgnbnkifofleaaW.PrintWords Go.Proofs.YtmgnbnkifofleaaW.PrintLast

theorem alter_size (s : ByteArray) (i y : Int) : (styluslaw12_FrameChanged.alter s i y).size = s.size := by
  unfold styluslaw12_FrameChanged.alter
  rw [strOfNums_size, List.length_set, bytesOf_length]
theorem bits_xor8 (a b : BitVec 8) : Go.bits .xor .u8 (a.toNat : Int) (b.toNat : Int) = ((a ^^^ b).toNat : Int) := by
  have h : ∀ c : BitVec 8, BitVec.ofInt 8 (c.toNat : Int) = c := fun c => by rw [BitVec.ofInt_natCast, BitVec.ofNat_toNat, BitVec.setWidth_eq]
  have hl : ∀ c : BitVec 8, ((c.toNat : Int)) % 256 = (c.toNat : Int) := fun c => by have := c.isLt; omega
  unfold Go.bits
  simp only [IntKind.bits]
  rw [Go.IntKind.wrap_u8, h, h]
  exact hl _
theorem of8 (x : Int) (h : 0 ≤ x ∧ x ≤ 255) : ∃ v : BitVec 8, x = (v.toNat : Int) := by
  refine ⟨BitVec.ofNat 8 x.toNat, ?_⟩
  rw [BitVec.toNat_ofNat]
  omega
theorem xor_byte (x y : Int) (hx : 0 ≤ x ∧ x ≤ 255) (hy : 0 ≤ y ∧ y ≤ 255) : 0 ≤ Go.bits .xor .u8 x y ∧ Go.bits .xor .u8 x y ≤ 255 := by
  obtain ⟨a, rfl⟩ := of8 x hx
  obtain ⟨b, rfl⟩ := of8 y hy
  rw [bits_xor8]
  have := (a ^^^ b).isLt
  omega
theorem xor_ne (x y : Int) (hx : 0 ≤ x ∧ x ≤ 255) (hy : 0 ≤ y ∧ y ≤ 255) (h : y ≠ 0) : Go.bits .xor .u8 x y ≠ x := by
  obtain ⟨a, rfl⟩ := of8 x hx
  obtain ⟨b, rfl⟩ := of8 y hy
  rw [bits_xor8]
  intro e
  apply h
  have e2 : a ^^^ b = a := BitVec.eq_of_toNat_eq (by omega)
  have e3 : b = 0#8 := by
    have := congrArg (fun v => a ^^^ v) e2
    simpa [← BitVec.xor_assoc] using this
  rw [e3]; rfl
theorem bytesOf_bytes (s : ByteArray) : Bytes (bytesOf s) := by
  intro x hx
  unfold bytesOf at hx
  obtain ⟨b, _, rfl⟩ := List.mem_map.1 hx
  have := b.toNat_lt
  omega
theorem bt_range (s : ByteArray) (i : Int) : 0 ≤ bt s i ∧ bt s i ≤ 255 := by
  unfold bt
  split
  · rename_i h
    have := (s[i.toNat]'h).toNat_lt
    omega
  · omega
theorem alter_at (s : ByteArray) (i : Nat) (y : Int) (hy : 0 ≤ y ∧ y ≤ 255) (j : Nat) (hj : j < s.size) :
    bt (styluslaw12_FrameChanged.alter s (i : Int) y) (j : Int) = if j = i then Go.bits .xor .u8 (bt s (i : Int)) y else bt s (j : Int) := by
  have hl := bytesOf_length s
  have hb : Bytes ((bytesOf s).set i (Go.bits .xor .u8 (bt s (i : Int)) y)) := by
    intro x hx
    rcases List.mem_or_eq_of_mem_set hx with h | h
    · exact bytesOf_bytes s x h
    · rw [h]
      have := xor_byte (bt s (i : Int)) y (bt_range s _) hy
      omega
  unfold styluslaw12_FrameChanged.alter
  rw [Int.toNat_natCast, bt_nums _ hb j (by rw [List.length_set]; omega), List.getElem_set]
  by_cases c : j = i
  · rw [if_pos c.symm, if_pos c]
  · rw [if_neg (fun z => c z.symm), if_neg c]
    have := rd_bytesOf s (j : Int)
    unfold rd at this
    rw [← this, Int.toNat_natCast, List.getD_eq_getElem?_getD, List.getElem?_eq_getElem (by omega)]
    rfl
theorem FrameChanged : styluslaw12_FrameChanged.Pure := by
  intro x z left hB hZ _
  apply Ev.rounds
  obtain ⟨e, q, d⟩ := x
  obtain ⟨at_, y⟩ := z
  unfold styluslaw12_FrameChanged.f
  by_cases h0 : (d.size : Int) > 1024
  · exact Ev.pos h0 lives12
  refine Ev.neg h0 (Ev.bind (frame_Lay_ev e q d) ?_)
  by_cases g0 : 0 ≤ e ∧ e ≤ 999999 ∧ 0 ≤ q ∧ q ≤ 2147483647
  · have hf : frLay e q d = (laidOf e q d, 0) := by unfold frLay; rw [if_neg (not_not_intro g0), if_neg (by omega)]
    rw [hf]
    have hl := laidOf_size e q d
    refine Ev.pos rfl ?_
    have hrest : Ev (fun k => styluslaw12_FrameChanged.rest k (laidOf e q d) d at_ y) true := by
      have hn : Ev (fun k => styluslaw12_FrameChanged.none_ k (laidOf e q d) d) true := by
        unfold styluslaw12_FrameChanged.none_
        exact Ev.pos (by rw [w64 (by omega) (by omega)]; omega) lives12
      unfold styluslaw12_FrameChanged.rest
      by_cases p0 : at_ < 0
      · exact Ev.pos p0 hn
      refine Ev.neg p0 ?_
      by_cases p1 : at_ ≥ (d.size : Int)
      · exact Ev.pos p1 hn
      refine Ev.neg p1 ?_
      by_cases p2 : y = 0
      · exact Ev.pos p2 hn
      refine Ev.neg p2 (Ev.neg (by rw [w64 (by omega) (by omega)]; omega) (Ev.pos (by omega) ?_))
      refine Ev.bind (frame_One_ev _ (by rw [alter_size]; omega)) ?_
      have hc : frOne (styluslaw12_FrameChanged.alter (laidOf e q d) (16 + at_) y) = (0, 0, ⟨#[]⟩, 0, 19) := by
        have hy := wf_u8 hZ.2
        obtain ⟨a, rfl⟩ : ∃ a : Nat, at_ = (a : Int) := ⟨at_.toNat, by omega⟩
        rw [show (16 + (a : Int)) = ((16 + a : Nat) : Int) by omega]
        have hal := fun j hj => alter_at (laidOf e q d) (16 + a) y hy j hj
        have hda : bt (laidOf e q d) ((16 + a : Nat) : Int) = bt d (a : Int) := by
          obtain ⟨_, _, _, _, _, _, _, x7, _⟩ := laid_bytes e q d ByteArray.empty
          rw [ByteArray.append_empty] at x7
          have := cat_piece (laidOf e q d) 16 (16 + d.size) a (by omega) (by omega)
          rw [x7] at this
          exact this.symm
        refine frOne_changed e q d _ (by omega) a (by omega) (by rw [alter_size]; omega) (fun j hj => ?_) ?_
        · by_cases c : j < (laidOf e q d).size
          · rw [hal j c, if_neg hj]
          · unfold bt
            rw [dif_neg (by rw [alter_size]; omega), dif_neg (by omega)]
        · rw [hal _ (by omega), if_pos rfl, hda]
          exact xor_ne _ _ (bt_range d _) hy p2
      rw [hc]
      exact Ev.pos rfl (Ev.pos rfl lives12)
    by_cases l0 : 0 ≤ left
    · refine Ev.pos l0 ?_
      by_cases l1 : left < ((laidOf e q d).size : Int)
      · refine Ev.pos l1 (Ev.bind (frame_One_ev _ (by rw [ByteArray.size_extract]; show min _ (laidOf e q d).size - 0 ≤ _; omega)) ?_)
        rw [show frOne ((laidOf e q d, (0 : Int)).1.extract 0 left.toNat) = (0, 0, ⟨#[]⟩, 0, 18) from frOne_short e q d (by omega) left.toNat (by omega)]
        exact Ev.pos rfl (Ev.pos rfl hrest)
      · exact Ev.neg l1 hrest
    · exact Ev.neg l0 hrest
  · have hf : frLay e q d = (⟨#[]⟩, 3) := by unfold frLay; rw [if_pos g0]
    rw [hf]
    exact Ev.neg (by decide) lives12

end Go.Proofs.Ytmgnbnkifofleaa.Pure
