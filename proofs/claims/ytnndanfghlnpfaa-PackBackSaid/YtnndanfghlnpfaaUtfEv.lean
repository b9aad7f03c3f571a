/- Runes in bytes: what the program's and the reference's taking, and their looks at whole texts, come to: one plain function. -/
import Derived.Test.YtnndanfghlnpfaaPx4
import Derived.Test.YtnndanfghlnpfaaPx5
import Derived.Test.YtnndanfghlnpfaaPx12
import Derived.Test.YtnndanfghlnpfaaPx0
import Derived.Test.YtnndanfghlnpfaaEvKit
import Derived.Laws.BitsLemmas
import Derived.Laws.RangeAny
import Derived.Lib.Strings
namespace Go.Proofs.Ytnndanfghlnpfaa.P
open Go.RowKit Go.Proofs.YtnndanfghlnpfaaW.PrintWords Go.Proofs.YtnndanfghlnpfaaW.PrintLast
/-- Does the byte at a place go on? -/
def isOn (s : ByteArray) (i : Int) : Prop := i < s.size ∧ 128 ≤ bt s i ∧ bt s i ≤ 191
instance (s : ByteArray) (i : Int) : Decidable (isOn s i) := by unfold isOn; infer_instance
/-- The rune at a place that there is, and how many bytes it has; none: (0, 0). -/
def tk (s : ByteArray) (p : Int) : Int × Int :=
 if bt s p < 128 then (bt s p, 1)
 else if 192 ≤ bt s p ∧ bt s p < 224 ∧ isOn s (p + 1) then
  (if 128 ≤ (bt s p - 192) * 64 + (bt s (p + 1) - 128) then ((bt s p - 192) * 64 + (bt s (p + 1) - 128), 2) else (0, 0))
 else if 224 ≤ bt s p ∧ bt s p < 240 ∧ isOn s (p + 1) ∧ isOn s (p + 2) then
  (if 2048 ≤ ((bt s p - 224) * 64 + (bt s (p + 1) - 128)) * 64 + (bt s (p + 2) - 128) ∧ ¬ (55296 ≤ ((bt s p - 224) * 64 + (bt s (p + 1) - 128)) * 64 + (bt s (p + 2) - 128) ∧ ((bt s p - 224) * 64 + (bt s (p + 1) - 128)) * 64 + (bt s (p + 2) - 128) ≤ 57343) then
   (((bt s p - 224) * 64 + (bt s (p + 1) - 128)) * 64 + (bt s (p + 2) - 128), 3) else (0, 0))
 else if 240 ≤ bt s p ∧ bt s p < 248 ∧ isOn s (p + 1) ∧ isOn s (p + 2) ∧ isOn s (p + 3) then
  (if 65536 ≤ (((bt s p - 240) * 64 + (bt s (p + 1) - 128)) * 64 + (bt s (p + 2) - 128)) * 64 + (bt s (p + 3) - 128) ∧ (((bt s p - 240) * 64 + (bt s (p + 1) - 128)) * 64 + (bt s (p + 2) - 128)) * 64 + (bt s (p + 3) - 128) ≤ 1114111 then
   ((((bt s p - 240) * 64 + (bt s (p + 1) - 128)) * 64 + (bt s (p + 2) - 128)) * 64 + (bt s (p + 3) - 128), 4) else (0, 0))
 else (0, 0)
def take (s : ByteArray) (p : Int) : Int × Int := if 0 ≤ p ∧ p < s.size then tk s p else (0, 0)
theorem tk_len (s : ByteArray) (p : Int) : (tk s p).2 = 0 ∨ (1 ≤ (tk s p).2 ∧ (tk s p).2 ≤ 4 ∧ (p < s.size → p + (tk s p).2 ≤ s.size)) := by
 unfold tk isOn
 split
 ·right; simp; omega
 ·split
  ·split
   ·right; simp; omega
   ·left; rfl
  ·split
   ·split
    ·right; simp; omega
    ·left; rfl
   ·split
    ·split
     ·right; simp; omega
     ·left; rfl
    ·left; rfl
theorem byte_all {p : Int → Prop} (h : ∀ b : Fin 256, p ((b.val : Nat) : Int)) (s : ByteArray) (i : Int) : p (bt s i) := by
 have hr := bt_range s i
 have := h ⟨(bt s i).toNat, by omega⟩
 rwa [show ((((⟨(bt s i).toNat, by omega⟩ : Fin 256)).val : Nat) : Int) = bt s i from by simp; omega] at this
theorem w32 {x : Int} (h0 : -2147483648 ≤ x) (h1 : x ≤ 2147483647) : wrap32 x = x := by unfold wrap32; omega
theorem and192 (s : ByteArray) (i : Int) : Go.bits .and .u8 (bt s i) 192 = bt s i / 64 * 64 := byte_all (p := fun b => Go.bits .and .u8 b 192 = b / 64 * 64) (by decide +kernel) s i
theorem and63 (s : ByteArray) (i : Int) : Go.bits .and .u8 (bt s i) 63 = bt s i % 64 := byte_all (p := fun b => Go.bits .and .u8 b 63 = b % 64) (by decide +kernel) s i
theorem not192 (s : ByteArray) (i : Int) : Go.bits .andNot .u8 (bt s i) 192 = bt s i % 64 := byte_all (p := fun b => Go.bits .andNot .u8 b 192 = b % 64) (by decide +kernel) s i
theorem not224 (s : ByteArray) (i : Int) : Go.bits .andNot .u8 (bt s i) 224 = bt s i % 32 := byte_all (p := fun b => Go.bits .andNot .u8 b 224 = b % 32) (by decide +kernel) s i
theorem not240 (s : ByteArray) (i : Int) : Go.bits .andNot .u8 (bt s i) 240 = bt s i % 16 := byte_all (p := fun b => Go.bits .andNot .u8 b 240 = b % 16) (by decide +kernel) s i
theorem goesOn_is (s : ByteArray) (i : Int) : utf_goesOn.f (bt s i) = some (decide (128 ≤ bt s i ∧ bt s i ≤ 191)) := by
 have hr := bt_range s i
 unfold utf_goesOn.f
 rw [and192]
 congr 1
 rw [Bool.eq_iff_iff, beq_iff_eq, decide_eq_true_eq]
 omega
theorem isRune_is (c : Int) : utf_isRune.f c = some (decide (0 ≤ c ∧ c ≤ 1114111 ∧ (c < 55296 ∨ c > 57343))) := by
 unfold utf_isRune.f
 split
 ·split
  ·split
   ·congr 1; rw [eq_comm, decide_eq_true_eq]; omega
   ·congr 1; rw [decide_eq_decide]; omega
  ·congr 1; rw [eq_comm, decide_eq_false_iff_not]; omega
 ·congr 1; rw [eq_comm, decide_eq_false_iff_not]; omega
theorem width_is (c : Int) : utf_width.f c = some (if c < 128 then 1 else if c < 2048 then 2 else if c < 65536 then 3 else 4) := by
 unfold utf_width.f
 repeat' split
 all_goals rfl
theorem Take_done (s : ByteArray) (p n c : Int) : Ev (fun k => utf_Take.l0 k s p n c n) (if (0 ≤ c ∧ c ≤ 1114111 ∧ (c < 55296 ∨ c > 57343)) ∧ (if c < 128 then 1 else if c < 2048 then 2 else if c < 65536 then 3 else 4) = n then (c, n) else (0, 0)) := by
 refine Ev.step (f := fun _ => some _) (fun k => ?_) (Ev.now _)
 simp only [utf_Take.l0]
 rw [if_neg (by omega), isRune_is, width_is]
 simp only [Option.bind_some]
 by_cases h : 0 ≤ c ∧ c ≤ 1114111 ∧ (c < 55296 ∨ c > 57343)
 ·rw [if_pos (by simpa using h)]
  by_cases h2 : (if c < 128 then 1 else if c < 2048 then 2 else if c < 65536 then 3 else 4) = n
  ·rw [if_pos h2, if_pos ⟨h, h2⟩]
  ·rw [if_neg h2, if_neg (fun z => h2 z.2)]
 ·rw [if_neg (by simpa using h), if_neg (fun z => h z.1)]
theorem Take_on (s : ByteArray) (p n c j : Int) (hs : s.size ≤ 140737488351232) (h0 : 0 ≤ p) (hj0 : 1 ≤ j) (hj : j < n) (_hn : n ≤ 4) (hc0 : 0 ≤ c) (hc : c ≤ 1000000) (hon : isOn s (p + j)) {r : Int × Int}
  (e : Ev (fun k => utf_Take.l0 k s p n (c * 64 + (bt s (p + j) - 128)) (j + 1)) r) : Ev (fun k => utf_Take.l0 k s p n c j) r := by
 unfold isOn at hon
 refine Ev.step (fun k => ?_) e
 simp only [utf_Take.l0]
 rw [if_pos hj, w64 (x := p + j) (by omega) (by omega), if_pos (by omega), if_pos (by omega), goesOn_is, w64 (x := j + 1) (by omega) (by omega), and63, w32 (x := c * 64) (by omega) (by omega), w32 (x := bt s (p + j) % 64) (by omega) (by omega), Go.i32_or6 _ _ (by omega) (by omega) (by omega) (by omega) (by omega)]
 simp only [Option.bind_some]
 rw [if_pos (by simpa using hon.2)]
 congr 1
 omega
theorem Take_off (s : ByteArray) (p n c j : Int) (hs : s.size ≤ 140737488351232) (h0 : 0 ≤ p) (hj0 : 1 ≤ j) (hj : j < n) (_hn : n ≤ 4) (hb : p + j < s.size) (hon : ¬ isOn s (p + j)) : Ev (fun k => utf_Take.l0 k s p n c j) (0, 0) := by
 unfold isOn at hon
 refine Ev.step (f := fun _ => some (0, 0)) (fun k => ?_) (Ev.now _)
 simp only [utf_Take.l0]
 rw [if_pos hj, w64 (x := p + j) (by omega) (by omega), if_pos (by omega), if_pos (by omega), goesOn_is]
 simp only [Option.bind_some]
 rw [if_neg (by simp; omega)]
theorem utf_Take_ev (s : ByteArray) (p : Int) (hs : s.size ≤ 140737488351232) : Ev (fun k => utf_Take.f k s p) (take s p) := by
 have no : Ev (fun k => utf_Take.j0 k s p true) (0, 0) := Ev.step (f := fun _ => some _) (fun k => by rw [utf_Take.j0, if_pos rfl]) (Ev.now _)
 unfold utf_Take.f take
 by_cases h0 : p < 0
 ·rw [if_neg (by omega)]; exact Ev.pos h0 no
 ·by_cases h1 : p ≥ s.size
  ·rw [if_neg (by omega), decide_eq_true h1]; exact Ev.neg h0 no
  ·rw [if_pos (by omega), decide_eq_false h1]
   refine Ev.neg h0 (Ev.step (fun k => by rw [utf_Take.j0, if_neg Bool.false_ne_true]) ?_)
   refine Ev.pos (by omega) (Ev.pos (by omega) ?_)
   have hr := bt_range s p
   have no1 : ∀ a b, Ev (fun k => utf_Take.j1 k s p a b true) (0, 0) := fun a b => Ev.step (f := fun _ => some _) (fun k => by rw [utf_Take.j1, if_pos rfl]) (Ev.now _)
   have go1 : ∀ a b, ∀ r : Int × Int, Ev (fun k => utf_Take.l0 k s p a b 1) r → Ev (fun k => utf_Take.j1 k s p a b false) r := fun a b r e => Ev.step (fun k => by rw [utf_Take.j1, if_neg (by decide)]) e
   have short : ∀ n : Int, 1 ≤ n → n ≤ 4 → (decide (n > wrap64 ((s.size : Int) - p))) = decide ((s.size : Int) < p + n) := fun n hn hn4 => by
    rw [w64 (x := (s.size : Int) - p) (by omega) (by omega), decide_eq_decide]; omega
   unfold tk
   by_cases c1 : bt s p < 128
   ·rw [if_pos c1]
    refine Ev.call (a := (1, wrap32 (bt s p))) (by unfold utf_begins.f; rw [if_pos c1]) (Ev.neg (by simp) ?_)
    simp only
    rw [short 1 (by omega) (by omega), decide_eq_false (by omega), w32 (by omega) (by omega)]
    refine go1 _ _ _ (Ev.to (Take_done s p 1 (bt s p)) ?_)
    rw [if_pos ⟨by omega, if_pos c1⟩]
   ·rw [if_neg c1]
    by_cases c2 : bt s p < 192
    ·rw [if_neg (show ¬ (192 ≤ bt s p ∧ bt s p < 224 ∧ isOn s (p + 1)) from by omega), if_neg (show ¬ (224 ≤ bt s p ∧ bt s p < 240 ∧ isOn s (p + 1) ∧ isOn s (p + 2)) from by omega), if_neg (show ¬ (240 ≤ bt s p ∧ bt s p < 248 ∧ isOn s (p + 1) ∧ isOn s (p + 2) ∧ isOn s (p + 3)) from by omega)]
     refine Ev.call (a := (0, 0)) (by unfold utf_begins.f; rw [if_neg c1, if_pos c2]) (Ev.pos rfl (no1 _ _))
    ·by_cases c3 : bt s p < 224
     ·rw [show (if 224 ≤ bt s p ∧ bt s p < 240 ∧ isOn s (p + 1) ∧ isOn s (p + 2) then _ else _) = if 240 ≤ bt s p ∧ bt s p < 248 ∧ isOn s (p + 1) ∧ isOn s (p + 2) ∧ isOn s (p + 3) then _ else _ from if_neg (by omega), show (if 240 ≤ bt s p ∧ bt s p < 248 ∧ isOn s (p + 1) ∧ isOn s (p + 2) ∧ isOn s (p + 3) then _ else _) = ((0, 0) : Int × Int) from if_neg (by omega)]
      refine Ev.call (a := (2, bt s p % 64)) (by unfold utf_begins.f; rw [if_neg c1, if_neg c2, if_pos c3, not192, w32 (by omega) (by omega)]) (Ev.neg (by simp) ?_)
      simp only
      rw [short 2 (by omega) (by omega)]
      by_cases l : (s.size : Int) < p + 2
      ·rw [decide_eq_true l, if_neg (by unfold isOn; omega)]; exact no1 _ _
      ·rw [decide_eq_false l]
       refine go1 _ _ _ ?_
       by_cases o1 : isOn s (p + 1)
       ·have o1' := o1
        unfold isOn at o1'
        rw [if_pos ⟨by omega, c3, o1⟩]
        refine Take_on s p 2 _ 1 hs (by omega) (by omega) (by omega) (by omega) (by omega) (by omega) o1 (Ev.to (Take_done s p 2 _) ?_)
        rw [show bt s p % 64 = bt s p - 192 from by omega]
        by_cases z : 128 ≤ (bt s p - 192) * 64 + (bt s (p + 1) - 128)
        ·rw [if_pos z, if_pos ⟨by omega, by rw [if_neg (by omega), if_pos (by omega)]⟩]
        ·rw [if_neg z, if_neg (fun w => by rw [if_pos (by omega)] at w; omega)]
       ·rw [if_neg (fun z => o1 z.2.2)]
        exact Take_off s p 2 _ 1 hs (by omega) (by omega) (by omega) (by omega) (by omega) o1
     ·rw [if_neg (by omega)]
      by_cases c4 : bt s p < 240
      ·rw [show (if 240 ≤ bt s p ∧ bt s p < 248 ∧ isOn s (p + 1) ∧ isOn s (p + 2) ∧ isOn s (p + 3) then _ else _) = ((0, 0) : Int × Int) from if_neg (by omega)]
       refine Ev.call (a := (3, bt s p % 32)) (by unfold utf_begins.f; rw [if_neg c1, if_neg c2, if_neg c3, if_pos c4, not224, w32 (by omega) (by omega)]) (Ev.neg (by simp) ?_)
       simp only
       rw [short 3 (by omega) (by omega)]
       by_cases l : (s.size : Int) < p + 3
       ·rw [decide_eq_true l, if_neg (by unfold isOn; omega)]; exact no1 _ _
       ·rw [decide_eq_false l]
        refine go1 _ _ _ ?_
        by_cases o1 : isOn s (p + 1)
        ·have o1' := o1
         unfold isOn at o1'
         refine Take_on s p 3 _ 1 hs (by omega) (by omega) (by omega) (by omega) (by omega) (by omega) o1 ?_
         by_cases o2 : isOn s (p + 2)
         ·have o2' := o2
          unfold isOn at o2'
          rw [if_pos ⟨by omega, c4, o1, o2⟩]
          refine Take_on s p 3 _ 2 hs (by omega) (by omega) (by omega) (by omega) (by omega) (by omega) o2 (Ev.to (Take_done s p 3 _) ?_)
          rw [show bt s p % 32 = bt s p - 224 from by omega]
          generalize hc : ((bt s p - 224) * 64 + (bt s (p + 1) - 128)) * 64 + (bt s (p + 2) - 128) = c
          by_cases z : 2048 ≤ c ∧ ¬ (55296 ≤ c ∧ c ≤ 57343)
          ·rw [if_pos z, if_pos ⟨by omega, by rw [if_neg (by omega), if_neg (by omega), if_pos (by omega)]⟩]
          ·rw [if_neg z, if_neg (fun w => z ⟨by
            apply Classical.byContradiction; intro q
            by_cases q1 : c < 128
            ·rw [if_pos q1] at w; omega
            ·rw [if_neg q1, if_pos (by omega)] at w; omega, by omega⟩)]
         ·rw [if_neg (fun z => o2 z.2.2.2)]
          exact Take_off s p 3 _ 2 hs (by omega) (by omega) (by omega) (by omega) (by omega) o2
        ·rw [if_neg (fun z => o1 z.2.2.1)]
         exact Take_off s p 3 _ 1 hs (by omega) (by omega) (by omega) (by omega) (by omega) o1
      ·rw [if_neg (by omega)]
       by_cases c5 : bt s p < 248
       ·refine Ev.call (a := (4, bt s p % 16)) (by unfold utf_begins.f; rw [if_neg c1, if_neg c2, if_neg c3, if_neg c4, if_pos c5, not240, w32 (by omega) (by omega)]) (Ev.neg (by simp) ?_)
        simp only
        rw [short 4 (by omega) (by omega)]
        by_cases l : (s.size : Int) < p + 4
        ·rw [decide_eq_true l, if_neg (by unfold isOn; omega)]; exact no1 _ _
        ·rw [decide_eq_false l]
         refine go1 _ _ _ ?_
         by_cases o1 : isOn s (p + 1)
         ·have o1' := o1
          unfold isOn at o1'
          refine Take_on s p 4 _ 1 hs (by omega) (by omega) (by omega) (by omega) (by omega) (by omega) o1 ?_
          by_cases o2 : isOn s (p + 2)
          ·have o2' := o2
           unfold isOn at o2'
           refine Take_on s p 4 _ 2 hs (by omega) (by omega) (by omega) (by omega) (by omega) (by omega) o2 ?_
           by_cases o3 : isOn s (p + 3)
           ·have o3' := o3
            unfold isOn at o3'
            rw [if_pos ⟨by omega, c5, o1, o2, o3⟩]
            refine Take_on s p 4 _ 3 hs (by omega) (by omega) (by omega) (by omega) (by omega) (by omega) o3 (Ev.to (Take_done s p 4 _) ?_)
            rw [show bt s p % 16 = bt s p - 240 from by omega]
            generalize hc : (((bt s p - 240) * 64 + (bt s (p + 1) - 128)) * 64 + (bt s (p + 2) - 128)) * 64 + (bt s (p + 3) - 128) = c
            by_cases z : 65536 ≤ c ∧ c ≤ 1114111
            ·rw [if_pos z, if_pos ⟨by omega, by rw [if_neg (by omega), if_neg (by omega), if_neg (by omega)]⟩]
            ·rw [if_neg z, if_neg (fun w => z ⟨by
              apply Classical.byContradiction; intro q
              by_cases q1 : c < 128
              ·rw [if_pos q1] at w; omega
              ·by_cases q2 : c < 2048
               ·rw [if_neg q1, if_pos q2] at w; omega
               ·rw [if_neg q1, if_neg q2, if_pos (by omega)] at w; omega, by omega⟩)]
           ·rw [if_neg (fun z => o3 z.2.2.2.2)]
            exact Take_off s p 4 _ 3 hs (by omega) (by omega) (by omega) (by omega) (by omega) o3
          ·rw [if_neg (fun z => o2 z.2.2.2.1)]
           exact Take_off s p 4 _ 2 hs (by omega) (by omega) (by omega) (by omega) (by omega) o2
         ·rw [if_neg (fun z => o1 z.2.2.1)]
          exact Take_off s p 4 _ 1 hs (by omega) (by omega) (by omega) (by omega) (by omega) o1
       ·rw [if_neg (by omega)]
        refine Ev.call (a := (0, 0)) (by unfold utf_begins.f; rw [if_neg c1, if_neg c2, if_neg c3, if_neg c4, if_neg c5]) (Ev.pos rfl (no1 _ _))
theorem bt_eq (s : ByteArray) (n : Nat) (h : n < s.size) : bt s (n : Int) = ((s[n]'h).toNat : Int) := by
 unfold bt
 rw [dif_pos (show ((n : Int)).toNat < s.size from h)]
 rfl
/-! whole texts -/
theorem get_bt (s : ByteArray) (p k : Nat) (h : p + k < s.size) : ((s.get! (p + k)).toNat : Int) = bt s ((p : Int) + (k : Int)) := by
 have e : s.get! (p + k) = s[p + k]'h := by
  simp [ByteArray.get!, getElem!_pos, h]
  rfl
 rw [e, ← bt_eq s (p + k) h]
 congr 1
/-- The model's own decoding, by the plain taking. -/
theorem decode_tk (s : ByteArray) (p : Nat) (h : p < s.size) : Utf8.decode s p = if (tk s (p : Int)).2 = 0 then (65533, 1) else ((tk s (p : Int)).1.toNat, (tk s (p : Int)).2.toNat) := by
 have r0 := bt_range s (p : Int)
 have r1 := bt_range s ((p : Int) + 1)
 have r2 := bt_range s ((p : Int) + 2)
 have r3 := bt_range s ((p : Int) + 3)
 have g0 := get_bt s p 0 (by omega)
 have g1 := fun z => get_bt s p 1 z
 have g2 := fun z => get_bt s p 2 z
 have g3 := fun z => get_bt s p 3 z
 simp only [Int.natCast_zero, Int.add_zero] at g0
 generalize hb0 : (s.get! (p + 0)).toNat = b0 at g0
 generalize hb1 : (s.get! (p + 1)).toNat = b1 at g1
 generalize hb2 : (s.get! (p + 2)).toNat = b2 at g2
 generalize hb3 : (s.get! (p + 3)).toNat = b3 at g3
 simp only [Int.natCast_one] at g1
 have g2' : p + 2 < s.size → (b2 : Int) = bt s ((p : Int) + 2) := g2
 have g3' : p + 3 < s.size → (b3 : Int) = bt s ((p : Int) + 3) := g3
 have l1 : b1 < 256 := by rw [← hb1]; exact UInt8.toNat_lt _
 have l2 : b2 < 256 := by rw [← hb2]; exact UInt8.toNat_lt _
 have l3 : b3 < 256 := by rw [← hb3]; exact UInt8.toNat_lt _
 clear g2 g3
 have o1 : isOn s ((p : Int) + 1) ↔ p + 1 < s.size ∧ b1 / 64 = 2 := by
  unfold isOn
  constructor
  ·intro z; have := g1 (by omega); omega
  ·intro z; have := g1 z.1; omega
 have o2 : isOn s ((p : Int) + 2) ↔ p + 2 < s.size ∧ b2 / 64 = 2 := by
  unfold isOn
  constructor
  ·intro z; have := g2' (by omega); omega
  ·intro z; have := g2' z.1; omega
 have o3 : isOn s ((p : Int) + 3) ↔ p + 3 < s.size ∧ b3 / 64 = 2 := by
  unfold isOn
  constructor
  ·intro z; have := g3' (by omega); omega
  ·intro z; have := g3' z.1; omega
 unfold Utf8.decode
 simp only [hb0, hb1, hb2, hb3, Utf8.runeError, Utf8.valid]
 by_cases a1 : bt s (p : Int) < 128
 ·have e : tk s (p : Int) = (bt s (p : Int), 1) := by unfold tk; rw [if_pos a1]
  rw [if_pos (by omega), e, if_neg (by simp)]
  exact Prod.ext (by show b0 = Int.toNat _; omega) rfl
 rw [if_neg (by omega)]
 by_cases a2 : 192 ≤ bt s (p : Int) ∧ bt s (p : Int) < 224 ∧ isOn s ((p : Int) + 1)
 ·have ho := o1.mp a2.2.2
  have hg := g1 ho.1
  rw [if_pos (by simp only [Bool.and_eq_true, beq_iff_eq, decide_eq_true_eq]; exact ⟨by omega, ho.1, ho.2⟩)]
  by_cases z : 128 ≤ (bt s (p : Int) - 192) * 64 + (bt s ((p : Int) + 1) - 128)
  ·have e : tk s (p : Int) = ((bt s (p : Int) - 192) * 64 + (bt s ((p : Int) + 1) - 128), 2) := by unfold tk; rw [if_neg a1, if_pos a2, if_pos z]
   rw [if_pos (by omega), e, if_neg (by simp)]
   exact Prod.ext (by show _ = Int.toNat _; omega) rfl
  ·have e : tk s (p : Int) = (0, 0) := by unfold tk; rw [if_neg a1, if_pos a2, if_neg z]
   rw [if_neg (by omega), e, if_pos rfl]
 rw [if_neg (by simp only [Bool.and_eq_true, beq_iff_eq, decide_eq_true_eq]; intro z; exact a2 ⟨by omega, by omega, o1.mpr z.2⟩)]
 by_cases a3 : 224 ≤ bt s (p : Int) ∧ bt s (p : Int) < 240 ∧ isOn s ((p : Int) + 1) ∧ isOn s ((p : Int) + 2)
 ·have ho1 := o1.mp a3.2.2.1
  have ho2 := o2.mp a3.2.2.2
  have hg1 := g1 ho1.1
  have hg2 := g2' ho2.1
  rw [if_pos (by simp only [Bool.and_eq_true, beq_iff_eq, decide_eq_true_eq]; exact ⟨⟨by omega, ho1.1, ho1.2⟩, ho2.1, ho2.2⟩)]
  by_cases z : 2048 ≤ ((bt s (p : Int) - 224) * 64 + (bt s ((p : Int) + 1) - 128)) * 64 + (bt s ((p : Int) + 2) - 128) ∧ ¬ (55296 ≤ ((bt s (p : Int) - 224) * 64 + (bt s ((p : Int) + 1) - 128)) * 64 + (bt s ((p : Int) + 2) - 128) ∧ ((bt s (p : Int) - 224) * 64 + (bt s ((p : Int) + 1) - 128)) * 64 + (bt s ((p : Int) + 2) - 128) ≤ 57343)
  ·have e : tk s (p : Int) = (((bt s (p : Int) - 224) * 64 + (bt s ((p : Int) + 1) - 128)) * 64 + (bt s ((p : Int) + 2) - 128), 3) := by unfold tk; rw [if_neg a1, if_neg a2, if_pos a3, if_pos z]
   rw [if_pos (by simp only [Bool.and_eq_true, Bool.or_eq_true, decide_eq_true_eq]; omega), e, if_neg (by simp)]
   exact Prod.ext (by show _ = Int.toNat _; omega) rfl
  ·have e : tk s (p : Int) = (0, 0) := by unfold tk; rw [if_neg a1, if_neg a2, if_pos a3, if_neg z]
   rw [if_neg (by simp only [Bool.and_eq_true, Bool.or_eq_true, decide_eq_true_eq]; omega), e, if_pos rfl]
 rw [if_neg (by simp only [Bool.and_eq_true, beq_iff_eq, decide_eq_true_eq]; intro z; exact a3 ⟨by omega, by omega, o1.mpr z.1.2, o2.mpr z.2⟩)]
 by_cases a4 : 240 ≤ bt s (p : Int) ∧ bt s (p : Int) < 248 ∧ isOn s ((p : Int) + 1) ∧ isOn s ((p : Int) + 2) ∧ isOn s ((p : Int) + 3)
 ·have ho1 := o1.mp a4.2.2.1
  have ho2 := o2.mp a4.2.2.2.1
  have ho3 := o3.mp a4.2.2.2.2
  have hg1 := g1 ho1.1
  have hg2 := g2' ho2.1
  have hg3 := g3' ho3.1
  rw [if_pos (by simp only [Bool.and_eq_true, beq_iff_eq, decide_eq_true_eq]; exact ⟨⟨⟨by omega, ho1.1, ho1.2⟩, ho2.1, ho2.2⟩, ho3.1, ho3.2⟩)]
  by_cases z : 65536 ≤ (((bt s (p : Int) - 240) * 64 + (bt s ((p : Int) + 1) - 128)) * 64 + (bt s ((p : Int) + 2) - 128)) * 64 + (bt s ((p : Int) + 3) - 128) ∧ (((bt s (p : Int) - 240) * 64 + (bt s ((p : Int) + 1) - 128)) * 64 + (bt s ((p : Int) + 2) - 128)) * 64 + (bt s ((p : Int) + 3) - 128) ≤ 1114111
  ·have e : tk s (p : Int) = ((((bt s (p : Int) - 240) * 64 + (bt s ((p : Int) + 1) - 128)) * 64 + (bt s ((p : Int) + 2) - 128)) * 64 + (bt s ((p : Int) + 3) - 128), 4) := by unfold tk; rw [if_neg a1, if_neg a2, if_neg a3, if_pos a4, if_pos z]
   rw [if_pos (by simp only [Bool.and_eq_true, Bool.or_eq_true, decide_eq_true_eq]; omega), e, if_neg (by simp)]
   exact Prod.ext (by show _ = Int.toNat _; omega) rfl
  ·have e : tk s (p : Int) = (0, 0) := by unfold tk; rw [if_neg a1, if_neg a2, if_neg a3, if_pos a4, if_neg z]
   rw [if_neg (by simp only [Bool.and_eq_true, Bool.or_eq_true, decide_eq_true_eq]; omega), e, if_pos rfl]
 ·have e : tk s (p : Int) = (0, 0) := by unfold tk; rw [if_neg a1, if_neg a2, if_neg a3, if_neg a4]
  rw [if_neg (by simp only [Bool.and_eq_true, beq_iff_eq, decide_eq_true_eq]; intro z; exact a4 ⟨by omega, by omega, o1.mpr z.1.1.2, o2.mpr z.1.2, o3.mpr z.2⟩), e, if_pos rfl]
/-- The first place from p on at which no rune stands; -1: there is none. -/
def badFrom (s : ByteArray) : Nat → Nat → Int
 | 0, _ => -1
 | d + 1, p => if p < s.size then (if (tk s (p : Int)).2 = 0 then (p : Int) else badFrom s d (p + (tk s (p : Int)).2.toNat)) else -1
def badOf (s : ByteArray) : Int := badFrom s (s.size + 1) 0
def valid (s : ByteArray) : Bool := decide (badOf s < 0)
theorem take_tk (s : ByteArray) (p : Nat) (h : p < s.size) : take s (p : Int) = tk s (p : Int) := if_pos (by omega)
theorem utf_Bad_l0 (s : ByteArray) (hs : s.size ≤ 140737488351232) : ∀ (d p : Nat), s.size < p + d → Ev (fun k => utf_Bad.l0 k s p) (badFrom s d p)
 | 0, p, h => by
  refine Ev.step (f := fun _ => some (-1)) (fun k => ?_) (Ev.now _)
  simp only [utf_Bad.l0]
  rw [if_neg (by omega)]
 | d + 1, p, h => by
  simp only [badFrom]
  by_cases c : p < s.size
  ·rw [if_pos c]
   have hl := tk_len s (p : Int)
   have hd := decode_tk s p c
   refine Ev.step (f := fun k => if (Utf8.decode s p).1 = 65533 then ((utf_Take.f k s (p : Int)).bind fun b => (if b.2 = 0 then (some (p : Int)) else (utf_Bad.l0 k s (p + (Utf8.decode s p).2)))) else (utf_Bad.l0 k s (p + (Utf8.decode s p).2))) (fun k => by simp only [utf_Bad.l0]; rw [if_pos c]) ?_
   by_cases z : (tk s (p : Int)).2 = 0
   ·rw [if_pos z] at hd ⊢
    refine Ev.pos (by rw [hd]) (Ev.bind (utf_Take_ev s (p : Int) hs) ?_)
    rw [take_tk s p c]
    exact Ev.pos z (Ev.now _)
   ·rw [if_neg z] at hd ⊢
    have e : (Utf8.decode s p).2 = (tk s (p : Int)).2.toNat := by rw [hd]
    have ih := utf_Bad_l0 s hs d (p + (tk s (p : Int)).2.toNat) (by omega)
    rw [e]
    by_cases y : (Utf8.decode s p).1 = 65533
    ·refine Ev.pos y (Ev.bind (utf_Take_ev s (p : Int) hs) ?_)
     rw [take_tk s p c]
     exact Ev.neg z ih
    ·exact Ev.neg y ih
  ·rw [if_neg c]
   refine Ev.step (f := fun _ => some (-1)) (fun k => ?_) (Ev.now _)
   simp only [utf_Bad.l0]
   rw [if_neg c]
theorem utf_Valid_ev (s : ByteArray) (hs : s.size ≤ 140737488351232) : Ev (fun k => utf_Valid.f k s) (valid s) :=
 Ev.bind (utf_Bad_l0 s hs (s.size + 1) 0 (by omega)) (Ev.now _)
/-- May a rune begin, or the text end, at a place? -/
def edge (s : ByteArray) (p : Int) : Bool := decide (0 ≤ p ∧ p ≤ s.size ∧ (p = 0 ∨ p = s.size ∨ ¬ (128 ≤ bt s p ∧ bt s p ≤ 191)))
theorem utf_Edge_ev (s : ByteArray) (p : Int) : Ev (fun k => utf_Edge.f k s p) (edge s p) := by
 unfold utf_Edge.f edge
 have no : Ev (fun k => utf_Edge.j0 k s p true) false := Ev.step (f := fun _ => some _) (fun k => by rw [utf_Edge.j0, if_pos (rfl : true = true)]) (Ev.now _)
 by_cases h0 : p < 0
 ·refine Ev.pos h0 ?_
  rw [decide_eq_false (by omega)]; exact no
 refine Ev.neg h0 ?_
 by_cases h1 : p > s.size
 ·rw [decide_eq_true h1, decide_eq_false (by omega)]; exact no
 rw [decide_eq_false h1]
 refine Ev.step (fun k => by rw [utf_Edge.j0, if_neg Bool.false_ne_true]) ?_
 by_cases h2 : p = 0
 ·refine Ev.pos h2 ?_
  rw [decide_eq_true (by omega)]; exact Ev.now _
 refine Ev.neg h2 ?_
 by_cases h3 : p = s.size
 ·refine Ev.pos h3 ?_
  rw [decide_eq_true (by omega)]; exact Ev.now _
 refine Ev.neg h3 (Ev.pos (by omega) (Ev.pos (by omega) (Ev.call (goesOn_is s p) ?_)))
 by_cases h4 : 128 ≤ bt s p ∧ bt s p ≤ 191
 ·rw [decide_eq_true h4, decide_eq_false (by omega)]; exact Ev.now _
 ·rw [decide_eq_false h4, decide_eq_true (by omega)]; exact Ev.now _
end Go.Proofs.Ytnndanfghlnpfaa.P
