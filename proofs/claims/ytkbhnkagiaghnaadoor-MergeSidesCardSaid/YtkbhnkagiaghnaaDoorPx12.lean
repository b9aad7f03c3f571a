import Derived.Test.YtkbhnkagiaghnaaDoorPx0
import Derived.Test.YtkbhnkagiaghnaaDoorPx7
import Derived.Test.YtkbhnkagiaghnaaDoorPx10
namespace Go.Proofs.YtkbhnkagiaghnaaDoor.P
open Go.RowKit Go.Proofs.YtkbhnkagiaghnaaDoorW.PrintWords Go.Proofs.YtkbhnkagiaghnaaDoorW.PrintLast Go.Proofs.YtkbhnkagiaghnaaDoorW.PrintMore
attribute [local go_sem] max2_int min2_int max_two min_two max_three min_three max_four min_four   -- for this text's walks alone
set_option linter.unusedVariables false
set_option linter.unusedSimpArgs false
/-! ### stylusref52_text: function 23 -/
def stylusref52_text.l0 : Nat → List ByteArray → ByteArray → Int → Option (ByteArray)
 | 0, _, _, _ => none
 | k + 1, x0, x3, x4 => if x4 < (x0.length : Int) then (if 0 ≤ x4 then (if x3.size + (rdOf ByteArray.empty x0 x4).size ≤ 9223372036854775807 then (stylusref52_text.l0 k x0 (x3 ++ (rdOf ByteArray.empty x0 x4)) (wrap64 (x4 + 1))) else (none)) else (none)) else (some x3)
def stylusref52_text.f (k : Nat) (l0 : List ByteArray) : Option (ByteArray) := stylusref52_text.l0 k l0 (⟨#[]⟩ : ByteArray) 0
theorem stylusref52_text.mono_l : ∀ k, (∀ y0 y1 y2, LeO (stylusref52_text.l0 k y0 y1 y2) (stylusref52_text.l0 (k + 1) y0 y1 y2))
 | 0 => fun _ _ _ r h => by simp [stylusref52_text.l0] at h
 | k + 1 => by
  have ih0 := stylusref52_text.mono_l k
  ·intro y0 y1 y2
   unfold stylusref52_text.l0
   repeat' first
   | (with_reducible exact ih0 _ _ _)
   | (with_reducible exact LeO.refl _)
   | (with_reducible exact LeO.none _)
   | (with_reducible refine LeO.ite ?_ ?_)
   | (with_reducible refine LeO.bind ?_ (fun _ => ?_))
   | exact ih0 _ _ _
   | exact LeO.none _
   | refine LeO.ite ?_ ?_
   | refine LeO.bind ?_ (fun _ => ?_)
theorem stylusref52_text.mono : ∀ a0 k, LeO (stylusref52_text.f k a0) (stylusref52_text.f (k + 1) a0) := by
 intro a0 k
 have ih0 := stylusref52_text.mono_l k
 unfold stylusref52_text.f
 repeat' first
   | (with_reducible exact ih0 _ _ _)
   | (with_reducible exact LeO.refl _)
   | (with_reducible exact LeO.none _)
   | (with_reducible refine LeO.ite ?_ ?_)
   | (with_reducible refine LeO.bind ?_ (fun _ => ?_))
   | exact ih0 _ _ _
   | exact LeO.none _
   | refine LeO.ite ?_ ?_
   | refine LeO.bind ?_ (fun _ => ?_)
/-! ### stylusref52_ended: function 24 -/
def stylusref52_ended.l0 : Nat → List ByteArray → ByteArray → Int → Option (ByteArray)
 | 0, _, _, _ => none
 | k + 1, x0, x3, x4 => if x4 < (x0.length : Int) then (if 0 ≤ x4 then (if x3.size + (rdOf ByteArray.empty x0 x4).size ≤ 9223372036854775807 then (if (rdOf ByteArray.empty x0 x4).toList = ([] : List UInt8) then (if (x3 ++ (rdOf ByteArray.empty x0 x4)).size + 1 ≤ 9223372036854775807 then (stylusref52_ended.l0 k x0 ((x3 ++ (rdOf ByteArray.empty x0 x4)) ++ (⟨#[10]⟩ : ByteArray)) (wrap64 (x4 + 1))) else (none)) else (if 0 ≤ (wrap64 (((rdOf ByteArray.empty x0 x4).size : Int) - 1)) then (if (wrap64 (((rdOf ByteArray.empty x0 x4).size : Int) - 1)) < ((rdOf ByteArray.empty x0 x4).size : Int) then (if (bt (rdOf ByteArray.empty x0 x4) (wrap64 (((rdOf ByteArray.empty x0 x4).size : Int) - 1))) = 10 then (stylusref52_ended.l0 k x0 (x3 ++ (rdOf ByteArray.empty x0 x4)) (wrap64 (x4 + 1))) else (if (x3 ++ (rdOf ByteArray.empty x0 x4)).size + 1 ≤ 9223372036854775807 then (stylusref52_ended.l0 k x0 ((x3 ++ (rdOf ByteArray.empty x0 x4)) ++ (⟨#[10]⟩ : ByteArray)) (wrap64 (x4 + 1))) else (none))) else (none)) else (none))) else (none)) else (none)) else (some x3)
def stylusref52_ended.f (k : Nat) (l0 : List ByteArray) : Option (ByteArray) := stylusref52_ended.l0 k l0 (⟨#[]⟩ : ByteArray) 0
theorem stylusref52_ended.mono_l : ∀ k, (∀ y0 y1 y2, LeO (stylusref52_ended.l0 k y0 y1 y2) (stylusref52_ended.l0 (k + 1) y0 y1 y2))
 | 0 => fun _ _ _ r h => by simp [stylusref52_ended.l0] at h
 | k + 1 => by
  have ih0 := stylusref52_ended.mono_l k
  ·intro y0 y1 y2
   unfold stylusref52_ended.l0
   repeat' first
   | (with_reducible exact ih0 _ _ _)
   | (with_reducible exact LeO.refl _)
   | (with_reducible exact LeO.none _)
   | (with_reducible refine LeO.ite ?_ ?_)
   | (with_reducible refine LeO.bind ?_ (fun _ => ?_))
   | exact ih0 _ _ _
   | exact LeO.none _
   | refine LeO.ite ?_ ?_
   | refine LeO.bind ?_ (fun _ => ?_)
theorem stylusref52_ended.mono : ∀ a0 k, LeO (stylusref52_ended.f k a0) (stylusref52_ended.f (k + 1) a0) := by
 intro a0 k
 have ih0 := stylusref52_ended.mono_l k
 unfold stylusref52_ended.f
 repeat' first
   | (with_reducible exact ih0 _ _ _)
   | (with_reducible exact LeO.refl _)
   | (with_reducible exact LeO.none _)
   | (with_reducible refine LeO.ite ?_ ?_)
   | (with_reducible refine LeO.bind ?_ (fun _ => ?_))
   | exact ih0 _ _ _
   | exact LeO.none _
   | refine LeO.ite ?_ ?_
   | refine LeO.bind ?_ (fun _ => ?_)
/-! ### stylusref52_Merge: function 12 -/
def rmL1 : ByteArray := ⟨#[60, 60, 60, 60, 60, 60, 60, 10]⟩
def rmL2 : ByteArray := ⟨#[61, 61, 61, 61, 61, 61, 61, 10]⟩
def rmL3 : ByteArray := ⟨#[62, 62, 62, 62, 62, 62, 62, 10]⟩
def rmQ (k : Nat) (p : S31) : Option Bool := if p.f3 = true then some true else (stylusref51_Texts.f k p.f1 p.f2).bind fun e => if e = true then some true else stylusref51_Texts.f k p.f2 p.f0
def rmOne (k : Nat) (p : S31) (o : ByteArray) (t : Int) : Option (ByteArray × Int) :=
 (rmQ k p).bind fun q => if q = true then (stylusref52_text.f k p.f1).bind fun s => if o.size + s.size ≤ 1099511627776 then some (o ++ s, t) else none
 else (stylusref51_Texts.f k p.f1 p.f0).bind fun q2 => if q2 = true then (stylusref52_text.f k p.f2).bind fun s => if o.size + s.size ≤ 1099511627776 then some (o ++ s, t) else none
 else (stylusref52_ended.f k p.f1).bind fun s1 => (stylusref52_ended.f k p.f2).bind fun s2 => if o.size + s1.size + s2.size + 24 ≤ 1099511627776 ∧ 0 ≤ t ∧ t ≤ 1000000 then some (((((o ++ rmL1) ++ s1) ++ rmL2) ++ s2) ++ rmL3, t + 1) else none
def rmGo (k : Nat) : List S31 → ByteArray → Int → Option (ByteArray × Int)
 | [], o, t => some (o, t)
 | p :: l, o, t => (rmOne k p o t).bind fun x => rmGo k l x.1 x.2
theorem rmQ.mono (k : Nat) (p : S31) : LeO (rmQ k p) (rmQ (k + 1) p) := LeO.ite (LeO.refl _) (LeO.bind (stylusref51_Texts.mono _ _ _) fun _ => LeO.ite (LeO.refl _) (stylusref51_Texts.mono _ _ _))
theorem rmOne.mono (k : Nat) (p : S31) (o : ByteArray) (t : Int) : LeO (rmOne k p o t) (rmOne (k + 1) p o t) :=
 LeO.bind (rmQ.mono k p) fun _ => LeO.ite (LeO.bind (stylusref52_text.mono _ _) fun _ => LeO.refl _) (LeO.bind (stylusref51_Texts.mono _ _ _) fun _ => LeO.ite (LeO.bind (stylusref52_text.mono _ _) fun _ => LeO.refl _) (LeO.bind (stylusref52_ended.mono _ _) fun _ => LeO.bind (stylusref52_ended.mono _ _) fun _ => LeO.refl _))
theorem rmGo.mono (k : Nat) : ∀ l o t, LeO (rmGo k l o t) (rmGo (k + 1) l o t)
 | [], _, _ => LeO.refl _
 | _ :: l, _, _ => LeO.bind (rmOne.mono _ _ _ _) fun _ => rmGo.mono k l _ _
end Go.Proofs.YtkbhnkagiaghnaaDoor.P
