/- What an edit makes of a text, by the program and by the reference: one plain function. -/
import Derived.Test.YtnndanfghlnpfaaPx5
import Derived.Test.YtnndanfghlnpfaaPx6
import Derived.Test.YtnndanfghlnpfaaPx16
import Derived.Test.YtnndanfghlnpfaaEvKit
import Derived.Test.YtnndanfghlnpfaaUtfTh
namespace Go.Proofs.Ytnndanfghlnpfaa.P
open Go.RowKit Go.Proofs.YtnndanfghlnpfaaW.PrintWords Go.Proofs.YtnndanfghlnpfaaW.PrintLast
def cutIn (t : ByteArray) (p : Int) (o n : ByteArray) : ByteArray := (t.extract 0 p.toNat ++ n) ++ t.extract (p + o.size).toNat t.size
def applyOf (t : ByteArray) (p : Int) (o n : ByteArray) : ByteArray × Int :=
 if p < 0 ∨ p > t.size then ((⟨#[]⟩ : ByteArray), 3)
 else if ¬ (p + o.size ≤ t.size ∧ t.extract p.toNat (p + o.size).toNat = o) then ((⟨#[]⟩ : ByteArray), 8)
 else if ¬ (edge t p = true ∧ edge t (p + o.size) = true) then ((⟨#[]⟩ : ByteArray), 4)
 else if ¬ (valid o = true ∧ valid n = true) then ((⟨#[]⟩ : ByteArray), 5)
 else if (t.size : Int) - o.size + n.size > 4096 then ((⟨#[]⟩ : ByteArray), 6)
 else (cutIn t p o n, 0)
def spanOf (t : ByteArray) (p : Int) (o : ByteArray) : Int × Int × Bool :=
 if p < 0 ∨ p > t.size then (0, 0, false) else if p + o.size ≤ t.size then (p, p + o.size, true) else (p, p, true)
theorem edit_of_ev (t : ByteArray) (p : Int) (o n : ByteArray) (ht : t.size ≤ 140737488351232) (ho : o.size ≤ 140737488351232) :
  Ev (fun k => edit_of.f k t p o n) (spanOf t p o) := by
 unfold edit_of.f spanOf
 by_cases h0 : p < 0
 ·rw [if_pos (Or.inl h0)]
  exact Ev.pos h0 (Ev.step (f := fun _ => some _) (fun k => by rw [edit_of.j0, if_pos (rfl : true = true)]) (Ev.now _))
 ·refine Ev.neg h0 ?_
  by_cases h1 : p > t.size
  ·rw [if_pos (Or.inr h1), decide_eq_true h1]
   exact Ev.step (f := fun _ => some _) (fun k => by rw [edit_of.j0, if_pos (rfl : true = true)]) (Ev.now _)
  ·have hc : ¬ (p < 0 ∨ p > t.size) := by omega
   rw [if_neg hc, decide_eq_false h1]
   refine Ev.step (fun k => by rw [edit_of.j0, if_neg Bool.false_ne_true]) ?_
   rw [w64 (x := (t.size : Int) - p) (by omega) (by omega)]
   by_cases h2 : (o.size : Int) ≤ t.size - p
   ·have h3 : p + o.size ≤ t.size := by omega
    rw [if_pos h3]
    refine Ev.pos h2 ?_
    rw [w64 (x := p + (o.size : Int)) (by omega) (by omega)]
    exact Ev.now _
   ·have h3 : ¬ p + o.size ≤ t.size := by omega
    rw [if_neg h3]
    exact Ev.neg h2 (Ev.now _)
theorem fits_eq {t o : ByteArray} {p : Int} (h0 : 0 ≤ p) (h1 : p ≤ t.size) (h : ¬ p + o.size ≤ t.size) : ¬ (t.extract p.toNat p.toNat).toList = o.toList := by
 intro e
 have := congrArg ByteArray.size (tl.1 e)
 rw [ByteArray.size_extract] at this
 omega
theorem edit_Apply_j1 (t : ByteArray) (p : Int) (o n : ByteArray) (ht : t.size ≤ 100000) (ho : o.size ≤ 100000) (hn : n.size ≤ 100000) (h0 : 0 ≤ p) (h1 : p + o.size ≤ t.size) :
  Ev (fun k => edit_Apply.j1 k t false p o n p (p + o.size)) (if (t.size : Int) - o.size + n.size > 4096 then ((⟨#[]⟩ : ByteArray), 6) else (cutIn t p o n, 0)) := by
 refine Ev.step (fun k => by rw [edit_Apply.j1, if_neg Bool.false_ne_true]) ?_
 rw [w64 (x := (t.size : Int) - o.size) (by omega) (by omega), w64 (x := 4096 - (n.size : Int)) (by omega) (by omega)]
 by_cases h2 : (t.size : Int) - o.size + n.size > 4096
 ·rw [if_pos h2]
  exact Ev.pos (by omega) (Ev.now _)
 ·rw [if_neg h2]
  refine Ev.neg (by omega) (Ev.pos h0 (Ev.pos (by omega) (Ev.pos ?_ (Ev.pos (by omega) (Ev.pos h1 (Ev.pos ?_ (Ev.now _)))))))
  ·rw [ByteArray.size_extract]; omega
  ·rw [ByteArray.size_append, ByteArray.size_extract, ByteArray.size_extract]; omega
theorem edit_Apply_j0 (t : ByteArray) (p : Int) (o n : ByteArray) (ht : t.size ≤ 100000) (ho : o.size ≤ 100000) (hn : n.size ≤ 100000) (h0 : 0 ≤ p) (h1 : p + o.size ≤ t.size) :
  Ev (fun k => edit_Apply.j0 k t false p o n p (p + o.size)) (if ¬ (valid o = true ∧ valid n = true) then ((⟨#[]⟩ : ByteArray), 5)
   else if (t.size : Int) - o.size + n.size > 4096 then ((⟨#[]⟩ : ByteArray), 6) else (cutIn t p o n, 0)) := by
 refine Ev.step (fun k => by rw [edit_Apply.j0, if_neg Bool.false_ne_true]) ?_
 refine Ev.bind (utf_Valid_ev o (by omega)) ?_
 by_cases v0 : valid o = true
 ·refine Ev.pos v0 (Ev.bind (utf_Valid_ev n (by omega)) ?_)
  by_cases v1 : valid n = true
  ·rw [if_neg (not_not_intro ⟨v0, v1⟩), v1]
   exact edit_Apply_j1 t p o n ht ho hn h0 h1
  ·rw [if_pos (fun z => v1 z.2), Bool.eq_false_iff.2 v1]
   exact Ev.step (f := fun _ => some _) (fun k => by show edit_Apply.j1 (k + 1) _ true _ _ _ _ _ = _; rw [edit_Apply.j1, if_pos (rfl : true = true)]) (Ev.now _)
 ·rw [if_pos (fun z => v0 z.1)]
  exact Ev.neg v0 (Ev.step (f := fun _ => some _) (fun k => by rw [edit_Apply.j1, if_pos (rfl : true = true)]) (Ev.now _))
theorem edit_Apply_ev (t : ByteArray) (p : Int) (o n : ByteArray) (ht : t.size ≤ 100000) (ho : o.size ≤ 100000) (hn : n.size ≤ 100000) :
  Ev (fun k => edit_Apply.f k t p o n) (applyOf t p o n) := by
 unfold edit_Apply.f applyOf
 refine Ev.bind (edit_of_ev t p o n (by omega) (by omega)) ?_
 unfold spanOf
 by_cases hc : p < 0 ∨ p > t.size
 ·rw [if_pos hc, if_pos hc]
  exact Ev.neg (Bool.false_ne_true) (Ev.now _)
 ·rw [if_neg hc, if_neg hc]
  by_cases h3 : p + o.size ≤ t.size
  ·rw [if_pos h3]
   refine Ev.pos rfl (Ev.pos (by show 0 ≤ p; omega) (Ev.pos (by show p ≤ p + o.size; omega) (Ev.pos h3 ?_)))
   by_cases h4 : t.extract p.toNat (p + o.size).toNat = o
   ·refine Ev.pos (tl.2 h4) ?_
    rw [if_neg (not_not_intro ⟨h3, h4⟩)]
    refine Ev.bind (utf_Edge_ev t p) ?_
    by_cases e0 : edge t p = true
    ·refine Ev.pos e0 (Ev.bind (utf_Edge_ev t (p + o.size)) ?_)
     by_cases e1 : edge t (p + o.size) = true
     ·rw [if_neg (not_not_intro ⟨e0, e1⟩), e1]
      exact edit_Apply_j0 t p o n ht ho hn (by omega) h3
     ·rw [if_pos (fun z => e1 z.2), Bool.eq_false_iff.2 e1]
      exact Ev.step (f := fun _ => some _) (fun k => by show edit_Apply.j0 (k + 1) _ true _ _ _ _ _ = _; rw [edit_Apply.j0, if_pos (rfl : true = true)]) (Ev.now _)
    ·rw [if_pos (fun z => e0 z.1)]
     exact Ev.neg e0 (Ev.step (f := fun _ => some _) (fun k => by rw [edit_Apply.j0, if_pos (rfl : true = true)]) (Ev.now _))
   ·rw [if_pos (fun z => h4 z.2)]
    exact Ev.neg (fun z => h4 (tl.1 z)) (Ev.now _)
  ·rw [if_neg h3, if_pos (fun z => h3 z.1)]
   exact Ev.pos rfl (Ev.pos (by show 0 ≤ p; omega) (Ev.pos (Int.le_refl p) (Ev.pos (by show p ≤ _; omega) (Ev.neg (fits_eq (by omega) (by omega) h3) (Ev.now _)))))
theorem ref_Apply_j3 (t : ByteArray) (p : Int) (o n : ByteArray) (ht : t.size ≤ 100000) (ho : o.size ≤ 100000) (hn : n.size ≤ 100000) (h0 : 0 ≤ p) (h1 : p + o.size ≤ t.size) :
  Ev (fun k => sr21Apply.j3 k t (o.size : Int) false p o n) (if (t.size : Int) - o.size + n.size > 4096 then ((⟨#[]⟩ : ByteArray), 6) else (cutIn t p o n, 0)) := by
 refine Ev.step (fun k => by rw [sr21Apply.j3, if_neg Bool.false_ne_true]) ?_
 rw [w64 (x := (t.size : Int) - o.size) (by omega) (by omega), w64 (x := (t.size : Int) - o.size + (n.size : Int)) (by omega) (by omega), w64 (x := p + (o.size : Int)) (by omega) (by omega)]
 by_cases h2 : (t.size : Int) - o.size + n.size > 4096
 ·refine Ev.pos h2 ?_
  rw [if_pos h2]
  exact Ev.now _
 ·refine Ev.neg h2 ?_
  rw [if_neg h2]
  refine (Ev.pos h0 (Ev.pos (by omega) (Ev.pos ?_ (Ev.pos (by omega) (Ev.pos h1 (Ev.pos ?_ (Ev.now _)))))))
  ·rw [ByteArray.size_extract]; omega
  ·rw [ByteArray.size_append, ByteArray.size_extract, ByteArray.size_extract]; omega
theorem ref_Apply_j2 (t : ByteArray) (p : Int) (o n : ByteArray) (ht : t.size ≤ 100000) (ho : o.size ≤ 100000) (hn : n.size ≤ 100000) (h0 : 0 ≤ p) (h1 : p + o.size ≤ t.size) :
  Ev (fun k => sr21Apply.j2 k t (o.size : Int) false p o n) (if ¬ (valid o = true ∧ valid n = true) then ((⟨#[]⟩ : ByteArray), 5)
   else if (t.size : Int) - o.size + n.size > 4096 then ((⟨#[]⟩ : ByteArray), 6) else (cutIn t p o n, 0)) := by
 refine Ev.step (fun k => by rw [sr21Apply.j2, if_neg Bool.false_ne_true]) ?_
 refine Ev.bind (ref_Valid_ev o (by omega)) ?_
 by_cases v0 : valid o = true
 ·refine Ev.pos v0 (Ev.bind (ref_Valid_ev n (by omega)) ?_)
  by_cases v1 : valid n = true
  ·rw [if_neg (not_not_intro ⟨v0, v1⟩), v1]
   exact ref_Apply_j3 t p o n ht ho hn h0 h1
  ·rw [if_pos (fun z => v1 z.2), Bool.eq_false_iff.2 v1]
   exact Ev.step (f := fun _ => some _) (fun k => by show sr21Apply.j3 (k + 1) _ _ true _ _ _ = _; rw [sr21Apply.j3, if_pos (rfl : true = true)]) (Ev.now _)
 ·rw [if_pos (fun z => v0 z.1)]
  exact Ev.neg v0 (Ev.step (f := fun _ => some _) (fun k => by rw [sr21Apply.j3, if_pos (rfl : true = true)]) (Ev.now _))
theorem ref_Apply_j1 (t : ByteArray) (p : Int) (o n : ByteArray) (ht : t.size ≤ 100000) (ho : o.size ≤ 100000) (hn : n.size ≤ 100000) (h0 : 0 ≤ p) (h1 : p + o.size ≤ t.size) :
  Ev (fun k => sr21Apply.j1 k t (o.size : Int) false p o n) (if ¬ (edge t p = true ∧ edge t (p + o.size) = true) then ((⟨#[]⟩ : ByteArray), 4) else if ¬ (valid o = true ∧ valid n = true) then ((⟨#[]⟩ : ByteArray), 5)
   else if (t.size : Int) - o.size + n.size > 4096 then ((⟨#[]⟩ : ByteArray), 6) else (cutIn t p o n, 0)) := by
 refine Ev.step (fun k => by rw [sr21Apply.j1, if_neg Bool.false_ne_true]) ?_
 refine Ev.call (ref_Edge_is t p) ?_
 rw [w64 (x := p + (o.size : Int)) (by omega) (by omega)]
 by_cases e0 : edge t p = true
 ·refine Ev.pos e0 (Ev.call (ref_Edge_is t (p + o.size)) ?_)
  by_cases e1 : edge t (p + o.size) = true
  ·rw [if_neg (not_not_intro ⟨e0, e1⟩), e1]
   exact ref_Apply_j2 t p o n ht ho hn h0 h1
  ·rw [if_pos (fun z => e1 z.2), Bool.eq_false_iff.2 e1]
   exact Ev.step (f := fun _ => some _) (fun k => by show sr21Apply.j2 (k + 1) _ _ true _ _ _ = _; rw [sr21Apply.j2, if_pos (rfl : true = true)]) (Ev.now _)
 ·rw [if_pos (fun z => e0 z.1)]
  exact Ev.neg e0 (Ev.step (f := fun _ => some _) (fun k => by rw [sr21Apply.j2, if_pos (rfl : true = true)]) (Ev.now _))
theorem ref_Apply_ev (t : ByteArray) (p : Int) (o n : ByteArray) (ht : t.size ≤ 100000) (ho : o.size ≤ 100000) (hn : n.size ≤ 100000) :
  Ev (fun k => sr21Apply.f k t p o n) (applyOf t p o n) := by
 unfold sr21Apply.f applyOf
 have no : Ev (fun k => sr21Apply.j0 k t (o.size : Int) true p o n) ((⟨#[]⟩ : ByteArray), 3) :=
  Ev.step (f := fun _ => some _) (fun k => by rw [sr21Apply.j0, if_pos (rfl : true = true)]) (Ev.now _)
 by_cases h0 : p < 0
 ·rw [if_pos (Or.inl h0)]
  exact Ev.pos h0 no
 ·refine Ev.neg h0 ?_
  by_cases h1 : p > t.size
  ·rw [if_pos (Or.inr h1), decide_eq_true h1]
   exact no
  ·have hc : ¬ (p < 0 ∨ p > t.size) := by omega
   rw [if_neg hc, decide_eq_false h1]
   have no1 : Ev (fun k => sr21Apply.j1 k t (o.size : Int) true p o n) ((⟨#[]⟩ : ByteArray), 8) :=
    Ev.step (f := fun _ => some _) (fun k => by rw [sr21Apply.j1, if_pos (rfl : true = true)]) (Ev.now _)
   refine Ev.step (fun k => by rw [sr21Apply.j0, if_neg Bool.false_ne_true]) ?_
   rw [w64 (x := (t.size : Int) - p) (by omega) (by omega), w64 (x := p + (o.size : Int)) (by omega) (by omega)]
   by_cases h3 : p + o.size ≤ t.size
   ·refine Ev.neg (by omega) (Ev.pos (by omega) (Ev.pos (by omega) (Ev.pos h3 ?_)))
    by_cases h4 : t.extract p.toNat (p + o.size).toNat = o
    ·rw [if_neg (not_not_intro ⟨h3, h4⟩), bne_eq_false_iff_eq.2 (tl.2 h4)]
     exact ref_Apply_j1 t p o n ht ho hn (by omega) h3
    ·rw [if_pos (fun z => h4 z.2), bne_iff_ne.2 (fun z => h4 (tl.1 z))]
     exact no1
   ·rw [if_pos (fun z => h3 z.1)]
    exact Ev.pos (by omega) no1
/-- What an applied edit gives. -/
theorem applied {t o n : ByteArray} {p : Int} (h : (applyOf t p o n).2 = 0) : 0 ≤ p ∧ p + o.size ≤ t.size ∧ t.extract p.toNat (p + o.size).toNat = o ∧ edge t p = true ∧ edge t (p + o.size) = true ∧
  valid o = true ∧ valid n = true ∧ (applyOf t p o n) = (cutIn t p o n, 0) := by
 unfold applyOf at h ⊢
 by_cases h0 : p < 0 ∨ p > t.size
 ·rw [if_pos h0] at h; exact absurd h (by decide)
 rw [if_neg h0] at h ⊢
 by_cases h1 : p + o.size ≤ t.size ∧ t.extract p.toNat (p + o.size).toNat = o
 rotate_left
 ·rw [if_pos h1] at h; exact absurd h (by decide)
 rw [if_neg (not_not_intro h1)] at h ⊢
 by_cases h2 : edge t p = true ∧ edge t (p + o.size) = true
 rotate_left
 ·rw [if_pos h2] at h; exact absurd h (by decide)
 rw [if_neg (not_not_intro h2)] at h ⊢
 by_cases h3 : valid o = true ∧ valid n = true
 rotate_left
 ·rw [if_pos h3] at h; exact absurd h (by decide)
 rw [if_neg (not_not_intro h3)] at h ⊢
 by_cases h4 : (t.size : Int) - o.size + n.size > 4096
 ·rw [if_pos h4] at h; exact absurd h (by decide)
 rw [if_neg h4]
 exact ⟨by omega, h1.1, h1.2, h2.1, h2.2, h3.1, h3.2, rfl⟩
theorem unapplied {t o n : ByteArray} {p : Int} (h : ¬ (applyOf t p o n).2 = 0) : (applyOf t p o n).1.toList = ([] : List UInt8) := by
 unfold applyOf at h ⊢
 by_cases h0 : p < 0 ∨ p > t.size
 ·rw [if_pos h0]; decide +kernel
 rw [if_neg h0] at h ⊢
 by_cases h1 : p + o.size ≤ t.size ∧ t.extract p.toNat (p + o.size).toNat = o
 rotate_left
 ·rw [if_pos h1]; decide +kernel
 rw [if_neg (not_not_intro h1)] at h ⊢
 by_cases h2 : edge t p = true ∧ edge t (p + o.size) = true
 rotate_left
 ·rw [if_pos h2]; decide +kernel
 rw [if_neg (not_not_intro h2)] at h ⊢
 by_cases h3 : valid o = true ∧ valid n = true
 rotate_left
 ·rw [if_pos h3]; decide +kernel
 rw [if_neg (not_not_intro h3)] at h ⊢
 by_cases h4 : (t.size : Int) - o.size + n.size > 4096
 ·rw [if_pos h4]; decide +kernel
 rw [if_neg h4] at h
 exact absurd rfl h
/-! Marks. -/
end Go.Proofs.Ytnndanfghlnpfaa.P
