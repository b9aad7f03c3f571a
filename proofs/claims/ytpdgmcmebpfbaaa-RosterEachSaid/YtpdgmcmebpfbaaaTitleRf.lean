/- The reference reads a name as the program does; names that are made are read as what they were made of. -/
import Derived.Test.YtpdgmcmebpfbaaaPx5
import Derived.Test.YtpdgmcmebpfbaaaTitleRd
namespace Go.Proofs.Ytpdgmcmebpfbaaa.P
open Go.RowKit Go.Proofs.YtpdgmcmebpfbaaaW.PrintWords Go.Proofs.YtpdgmcmebpfbaaaW.PrintLast
theorem ref_Read_j2 (s : ByteArray) (hs : s.size ≤ 140737488351232) (b : Bool) : Ev (fun k => stylusref08_Read.j2 k s b) (if b = true then (3, 0, 0, (⟨#[]⟩ : ByteArray)) else if pre xp s ∧ userOf (s.extract 2 s.size) = true then (4, 0, 0, s.extract 2 s.size) else (0, 0, 0, (⟨#[]⟩ : ByteArray))) := by
 cases b with
 | true =>
  rw [if_pos rfl]
  exact Ev.step (f := fun _ => some _) (fun k => by rw [stylusref08_Read.j2, if_pos (rfl : true = true)]) (Ev.now _)
 | false =>
  rw [if_neg Bool.false_ne_true]
  refine Ev.step (fun k => by rw [stylusref08_Read.j2, if_neg Bool.false_ne_true]) ?_
  by_cases h0 : (s.size : Int) > 2
  ·refine Ev.pos h0 (Ev.pos (by omega) (Ev.bind (ref_OfExport_ev _ (by rw [ByteArray.size_extract]; omega)) ?_))
   unfold ofExport
   by_cases hu : userOf (s.extract 2 s.size) = true
   ·rw [if_pos hu]
    by_cases hx : pre xp s
    ·refine Ev.pos (cat_list.2 ((pre_join (p := xp) (by show 2 ≤ _; omega)).2 hx)) ?_
     rw [if_pos (show pre xp s ∧ userOf (s.extract 2 s.size) = true from ⟨hx, hu⟩)]
     exact Ev.now _
    ·refine Ev.neg (fun z => hx ((pre_join (p := xp) (by show 2 ≤ _; omega)).1 (cat_list.1 z))) ?_
     rw [if_neg (show ¬ (pre xp s ∧ userOf (s.extract 2 s.size) = true) from fun z => hx z.1)]
     exact Ev.now _
   ·rw [if_neg hu, if_neg (show ¬ (pre xp s ∧ userOf (s.extract 2 s.size) = true) from fun z => hu z.2)]
    refine Ev.neg (fun z => ?_) (Ev.now _)
    have := congrArg ByteArray.size (cat_list.1 z)
    have e : (⟨#[]⟩ : ByteArray).size = 0 := rfl
    omega
  ·refine Ev.neg h0 ?_
   have hn : ¬ (pre xp s ∧ userOf (s.extract 2 s.size) = true) := by
    rintro ⟨hx, hu⟩
    have h2 : 2 ≤ s.size := hx.1
    unfold userOf at hu
    rw [Bool.and_eq_true] at hu
    have := of_decide_eq_true hu.1
    rw [ByteArray.size_extract] at this
    omega
   rw [if_neg hn]
   exact Ev.now _
theorem ref_Read_j1 (s : ByteArray) (hs : s.size ≤ 140737488351232) : Ev (fun k => stylusref08_Read.j1 k s) (if pre tmpp s ∧ mayOf s = true then (3, 0, 0, (⟨#[]⟩ : ByteArray)) else if pre xp s ∧ userOf (s.extract 2 s.size) = true then (4, 0, 0, s.extract 2 s.size) else (0, 0, 0, (⟨#[]⟩ : ByteArray))) := by
 refine Ev.step (fun k => by rw [stylusref08_Read.j1]) ?_
 have f := ref_Read_j2 s hs false
 rw [if_neg Bool.false_ne_true] at f
 by_cases h0 : (s.size : Int) ≥ 4
 ·refine Ev.pos h0 (Ev.pos (by decide) (Ev.pos (by omega) ?_))
  by_cases ht : (s.extract 0 4).toList = ([116, 109, 112, 45] : List UInt8)
  ·have hp : pre tmpp s := ⟨by show 4 ≤ _; omega, cat_list.1 (ht.trans (by decide +kernel))⟩
   refine Ev.pos ht (Ev.bind (ref_May_ev s hs) ?_)
   cases hm : mayOf s with
   | true => rw [if_pos ⟨hp, rfl⟩]; exact ref_Read_j2 s hs true
   | false => rw [if_neg (fun z => Bool.false_ne_true z.2)]; exact f
  ·have hp : ¬ pre tmpp s := fun z => ht ((cat_list.2 z.2).trans (by decide +kernel))
   rw [if_neg (fun z => hp z.1)]
   exact Ev.neg ht f
 ·have hp : ¬ pre tmpp s := fun z => by have : 4 ≤ s.size := z.1; omega
  rw [if_neg (fun z => hp z.1)]
  exact Ev.neg h0 f
theorem ofLog_parsed {s : ByteArray} (h15 : s.size = 15) (p1 : (parseOf (s.extract 4 10)).2 = true) (p2 : (parseOf (s.extract 11 15)).2 = true) :
  ofLog (parseOf (s.extract 4 10)).1 (parseOf (s.extract 11 15)).1 = ((lgp ++ s.extract 4 10) ++ dash) ++ s.extract 11 15 := by
 have z1 : (s.extract 4 10).size = 6 := by rw [ByteArray.size_extract]; omega
 have z2 : (s.extract 11 15).size = 4 := by rw [ByteArray.size_extract]; omega
 have d1 := (digits_parse p1).1
 have d2 := (digits_parse p2).1
 rw [z1] at d1
 rw [z2] at d2
 unfold ofLog
 rw [show (6 : Int) = ((6 : Nat) : Int) from rfl, show (4 : Int) = ((4 : Nat) : Int) from rfl, d1, d2, if_neg (by omega)]
theorem log_joined {s : ByteArray} (h15 : s.size = 15) : (((lgp ++ s.extract 4 10) ++ dash) ++ s.extract 11 15 = s) ↔ pre lgp s ∧ bt s 10 = 45 := by
 have z1 : (s.extract 4 10).size = 6 := by rw [ByteArray.size_extract]; omega
 have z2 : (s.extract 11 15).size = 4 := by rw [ByteArray.size_extract]; omega
 have y0 : lgp.size = 4 := rfl
 have yd : dash.size = 1 := rfl
 have y1 : (lgp ++ s.extract 4 10).size = 10 := by rw [ByteArray.size_append]; omega
 have y2 : ((lgp ++ s.extract 4 10) ++ dash).size = 11 := by rw [ByteArray.size_append]; omega
 constructor
 ·intro e
  refine ⟨⟨by omega, ?_⟩, ?_⟩
  ·conv => lhs; rw [← e]
   rw [ByteArray.append_assoc, ByteArray.append_assoc]
   exact ByteArray.extract_append_eq_left rfl
  ·have h1 : bt (((lgp ++ s.extract 4 10) ++ dash) ++ s.extract 11 15) ((10 : Nat) : Int) = bt dash ((0 : Nat) : Int) := by
    rw [cat_left _ _ _ (by omega)]
    have := cat_right (lgp ++ s.extract 4 10) dash 0
    rwa [y1] at this
   rw [e] at h1
   exact h1.trans (by decide +kernel)
 ·rintro ⟨hp, h45⟩
  have hd : dash = s.extract 10 11 := by
   apply cat_ext
   ·rw [yd, ByteArray.size_extract]; omega
   ·intro i hi
    have : i = 0 := by omega
    subst this
    rw [cat_piece _ _ _ _ (by omega) (by omega)]
    exact Eq.trans (by decide +kernel) h45.symm
  have hl : lgp = s.extract 0 4 := hp.2.symm
  rw [hl, hd, cut_join _ _ _ _ (by omega) (by omega) (by omega), cut_join _ _ _ _ (by omega) (by omega) (by omega), cut_join _ _ _ _ (by omega) (by omega) (by omega)]
  conv => lhs; rw [show 15 = s.size from h15.symm]
  exact ByteArray.extract_zero_size
theorem ref_Read_j0 (s : ByteArray) (hs : s.size ≤ 140737488351232) : Ev (fun k => stylusref08_Read.j0 k s) (if isLog s then (2, (parseOf (s.extract 4 10)).1, (parseOf (s.extract 11 15)).1, (⟨#[]⟩ : ByteArray))
  else if pre tmpp s ∧ mayOf s = true then (3, 0, 0, (⟨#[]⟩ : ByteArray)) else if pre xp s ∧ userOf (s.extract 2 s.size) = true then (4, 0, 0, s.extract 2 s.size) else (0, 0, 0, (⟨#[]⟩ : ByteArray))) := by
 refine Ev.step (fun k => by rw [stylusref08_Read.j0]) ?_
 have f := ref_Read_j1 s hs
 by_cases h15 : (s.size : Int) = 15
 ·have h15' : s.size = 15 := by omega
  refine Ev.pos h15 (Ev.pos (by decide) (Ev.pos (by omega) ?_))
  refine Ev.bind (ref_Parse_ev _ (by rw [ByteArray.size_extract]; omega)) (Ev.pos (by omega) (Ev.bind (ref_Parse_ev _ (by rw [ByteArray.size_extract]; omega)) ?_))
  have e11 : s.extract 11 s.size = s.extract 11 15 := by rw [h15']
  rw [e11]
  by_cases p1 : (parseOf (s.extract 4 10)).2 = true
  ·refine Ev.pos p1 ?_
   by_cases p2 : (parseOf (s.extract 11 15)).2 = true
   ·refine Ev.pos p2 (Ev.bind (ref_OfLog_ev _ _ (by have := parse_range (s.extract 4 10); omega) (by have := parse_range (s.extract 11 15); omega)) ?_)
    rw [ofLog_parsed h15' p1 p2]
    by_cases hj : pre lgp s ∧ bt s 10 = 45
    ·rw [if_pos (show isLog s from ⟨hj.1, h15', hj.2, p1, p2⟩)]
     exact Ev.pos (cat_list.2 ((log_joined h15').2 hj)) (Ev.now _)
    ·rw [if_neg (fun z : isLog s => hj ⟨z.1, z.2.2.1⟩)]
     exact Ev.neg (fun z => hj ((log_joined h15').1 (cat_list.1 z))) f
   ·rw [if_neg (fun z : isLog s => p2 z.2.2.2.2)]
    exact Ev.neg p2 f
  ·rw [if_neg (fun z : isLog s => p1 z.2.2.2.1)]
   exact Ev.neg p1 f
 ·rw [if_neg (fun z : isLog s => h15 (by have := z.2.1; omega))]
  exact Ev.neg h15 f
theorem ofCheck_parsed {s : ByteArray} (h12 : s.size = 12) (p1 : (parseOf (s.extract 6 12)).2 = true) : ofCheck (parseOf (s.extract 6 12)).1 = ckp ++ s.extract 6 12 := by
 have z1 : (s.extract 6 12).size = 6 := by rw [ByteArray.size_extract]; omega
 have d1 := (digits_parse p1).1
 rw [z1] at d1
 unfold ofCheck
 rw [show (6 : Int) = ((6 : Nat) : Int) from rfl, d1, if_neg (by omega)]
theorem ref_Read_ev (s : ByteArray) (hs : s.size ≤ 140737488351232) : Ev (fun k => stylusref08_Read.f k s) (tiRead s) := by
 unfold stylusref08_Read.f tiRead
 have f := ref_Read_j0 s hs
 by_cases h12 : (s.size : Int) = 12
 ·have h12' : s.size = 12 := by omega
  refine Ev.pos h12 (Ev.pos (by omega) (Ev.bind (ref_Parse_ev _ (by rw [ByteArray.size_extract]; omega)) ?_))
  have e6 : s.extract 6 s.size = s.extract 6 12 := by rw [h12']
  rw [e6]
  by_cases p1 : (parseOf (s.extract 6 12)).2 = true
  ·refine Ev.pos p1 (Ev.bind (ref_OfCheck_ev _ (by have := parse_range (s.extract 6 12); omega)) ?_)
   rw [ofCheck_parsed h12' p1]
   have hj := pre_join (p := ckp) (s := s) (by show 6 ≤ _; omega)
   rw [show s.extract ckp.size s.size = s.extract 6 12 from e6] at hj
   by_cases hp : pre ckp s
   ·rw [if_pos (show isCheck s from ⟨hp, h12', p1⟩)]
    exact Ev.pos (cat_list.2 (hj.2 hp)) (Ev.now _)
   ·rw [if_neg (fun z : isCheck s => hp z.1)]
    exact Ev.neg (fun z => hp (hj.1 (cat_list.1 z))) f
  ·rw [if_neg (fun z : isCheck s => p1 z.2.2)]
   exact Ev.neg p1 f
 ·rw [if_neg (fun z : isCheck s => h12 (by have := z.2.1; omega))]
  exact Ev.neg h12 f
end Go.Proofs.Ytpdgmcmebpfbaaa.P
