/- A frame of whose data one byte is another one, with something behind: none stands there. -/
import Derived.Test.YtinoidkmobmcpaaPx0
import Derived.Test.YtinoidkmobmcpaaScanLa
import Derived.Test.YtinoidkmobmcpaaAlter
namespace Go.Proofs.Ytinoidkmobmcpaa.P
open Go.RowKit Go.Proofs.YtinoidkmobmcpaaW.PrintWords Go.Proofs.YtinoidkmobmcpaaW.PrintLast Go.Proofs.YtinoidkmobmcpaaW.PrintMore

theorem frOne_changedY (e q : Int) (d y s : ByteArray) (hd : d.size ≤ 1024) (a : Nat) (ha : a < d.size) (hz : s.size = 16 + d.size + y.size)
    (hs : ∀ i : Nat, i ≠ 16 + a → bt s (i : Int) = bt (laidOf e q d ++ y) (i : Int)) (hne : bt s ((16 + a : Nat) : Int) ≠ bt d (a : Int)) : frOne s = (0, 0, ⟨#[]⟩, 0, 19) := by
  have hl := laidOf_size e q d
  obtain ⟨x0, x1, x2, x3, x4, x5, x6, x7, _⟩ := laid_bytes e q d y
  have hly : (laidOf e q d ++ y).size = 16 + d.size + y.size := by rw [ByteArray.size_append, hl]
  have hb := ofB_range (crcAdd 0#32 (headOf e q (d.size : Int) ++ d))
  have m0 : (d.size : Int) % 65536 = d.size := by omega
  have m3 : sumOf e q d % 4294967296 = sumOf e q d := by unfold sumOf; omega
  rw [m0] at x2
  rw [m3] at x5
  have g2 : getN s 2 2 = ((d.size : Int), true) := by
    rw [← x2]
    unfold getN
    rw [if_pos (by omega), if_pos (by omega)]
    congr 2
    apply List.ext_getElem (by rw [bytesAt_length, bytesAt_length])
    intro i h1 h2
    rw [bytesAt_length] at h1
    rw [bytesAt_get, bytesAt_get]
    exact hs (2 + i) (by omega)
  have g12 : getN s 12 4 = (sumOf e q d, true) := by
    rw [← x5]
    unfold getN
    rw [if_pos (by omega), if_pos (by omega)]
    congr 2
    apply List.ext_getElem (by rw [bytesAt_length, bytesAt_length])
    intro i h1 h2
    rw [bytesAt_length] at h1
    rw [bytesAt_get, bytesAt_get]
    exact hs (12 + i) (by omega)
  have hh : s.extract 2 12 = headOf e q (d.size : Int) := by
    rw [← x6]
    apply cat_ext (by rw [ByteArray.size_extract, ByteArray.size_extract, hly]; omega)
    intro i hi
    rw [ByteArray.size_extract] at hi
    rw [cat_piece _ _ _ _ (by omega) (by omega), cat_piece _ _ _ _ (by omega) (by omega)]
    exact hs (2 + i) (by omega)
  have zd : (s.extract 16 (16 + d.size)).size = d.size := by rw [ByteArray.size_extract]; omega
  have hc := crc_oneA (headOf e q (d.size : Int)) d (s.extract 16 (16 + d.size)) a ha zd (fun i hi hne' => by
    rw [cat_piece _ _ _ _ (by omega) (by omega), hs (16 + i) (by omega)]
    have := cat_piece (laidOf e q d ++ y) 16 (16 + d.size) i (by omega) (by omega)
    rw [x7] at this
    exact this.symm) (by rw [cat_piece _ _ _ _ (by omega) (by omega)]; exact hne)
  have ht : (16 + (d.size : Int)).toNat = 16 + d.size := by omega
  have hbg : begins s := ⟨fun _ => (hs 0 (by omega)).trans x0, fun _ => (hs 1 (by omega)).trans x1⟩
  unfold frOne
  have n16 : ¬ s.size < 16 := by omega
  have nlong : ¬ (d.size : Int) > 1024 := by omega
  have nshort : ¬ 16 + (d.size : Int) > s.size := by omega
  rw [if_neg (not_not_intro hbg), if_neg n16]
  simp only [g2, g12]
  rw [if_neg nlong, if_neg nshort, ht, hh]
  have hx : ¬ ofB (crcAdd 0#32 (headOf e q (d.size : Int) ++ s.extract 16 (16 + d.size))) = sumOf e q d := fun z => hc (ofB_inj z)
  rw [if_pos hx]

theorem tailP_app (ep : Int) : ∀ (l l' : List Pt) (q : Int) (a : Nat), tailP ep (l ++ l') q a = tailP ep l q a ++ tailP ep l' (q + l.length) (endL l a)
  | [], l', q, a => by
    rw [show q + (([] : List Pt).length : Int) = q by simp]
    exact ByteArray.empty_append.symm
  | p :: l, l', q, a => by
    show pieceP ep q p a ++ tailP ep (l ++ l') (q + 1) (endP p a) = (pieceP ep q p a ++ tailP ep l (q + 1) (endP p a)) ++ tailP ep l' (q + ((p :: l).length : Int)) (endL l (endP p a))
    rw [tailP_app ep l l' (q + 1) (endP p a), ByteArray.append_assoc, List.length_cons, show q + 1 + (l.length : Int) = q + ((l.length + 1 : Nat) : Int) by omega]
theorem placesP_app : ∀ (l l' : List Pt) (a : Nat), placesP (l ++ l') a = placesP l a ++ placesP l' (endL l a)
  | [], _, _ => rfl
  | p :: l, l', a => by
    show (a : Int) :: placesP (l ++ l') (endP p a) = ((a : Int) :: placesP l (endP p a)) ++ placesP l' (endL l (endP p a))
    rw [placesP_app l l' (endP p a)]
    rfl
theorem placesP_len : ∀ (l : List Pt) (a : Nat), (placesP l a).length = l.length
  | [], _ => rfl
  | p :: l, a => by
    show (placesP l (endP p a)).length + 1 = l.length + 1
    rw [placesP_len l]
end Go.Proofs.Ytinoidkmobmcpaa.P
