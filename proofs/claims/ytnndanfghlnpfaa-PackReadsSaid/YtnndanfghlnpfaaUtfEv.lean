/- Runes in bytes: what the program's and the reference's taking, and their looks at whole texts, come to: one plain function. -/
import Derived.Test.YtnndanfghlnpfaaPx4
import Derived.Test.YtnndanfghlnpfaaPx5
import Derived.Test.YtnndanfghlnpfaaPx12
import Derived.Test.YtnndanfghlnpfaaPx13
import Derived.Test.YtnndanfghlnpfaaPx14
import Derived.Test.YtnndanfghlnpfaaEvKit
import Derived.Laws.BitsLemmas
import Derived.Laws.RangeAny
import Derived.Lib.Strings
namespace Go.Proofs.Ytnndanfghlnpfaa.P
open Go.RowKit Go.Proofs.YtnndanfghlnpfaaW.PrintWords Go.Proofs.YtnndanfghlnpfaaW.PrintLast
/-- Does the byte at a place go on? -/
def isOn (s : ByteArray) (i : Int) : Prop := i < s.size ∧ 128 ≤ bt s i ∧ bt s i ≤ 191
instance (s : ByteArray) (i : Int) : Decidable (isOn s i) := by unfold isOn; infer_instance
/-- The rune at a place that there is, and how many bytes it has; none: (0, 0). -/
def tk (s : ByteArray) (p : Int) : Int × Int :=
 if bt s p < 128 then (bt s p, 1)
 else if 192 ≤ bt s p ∧ bt s p < 224 ∧ isOn s (p + 1) then
  (if 128 ≤ (bt s p - 192) * 64 + (bt s (p + 1) - 128) then ((bt s p - 192) * 64 + (bt s (p + 1) - 128), 2) else (0, 0))
 else if 224 ≤ bt s p ∧ bt s p < 240 ∧ isOn s (p + 1) ∧ isOn s (p + 2) then
  (if 2048 ≤ ((bt s p - 224) * 64 + (bt s (p + 1) - 128)) * 64 + (bt s (p + 2) - 128) ∧ ¬ (55296 ≤ ((bt s p - 224) * 64 + (bt s (p + 1) - 128)) * 64 + (bt s (p + 2) - 128) ∧ ((bt s p - 224) * 64 + (bt s (p + 1) - 128)) * 64 + (bt s (p + 2) - 128) ≤ 57343) then
   (((bt s p - 224) * 64 + (bt s (p + 1) - 128)) * 64 + (bt s (p + 2) - 128), 3) else (0, 0))
 else if 240 ≤ bt s p ∧ bt s p < 248 ∧ isOn s (p + 1) ∧ isOn s (p + 2) ∧ isOn s (p + 3) then
  (if 65536 ≤ (((bt s p - 240) * 64 + (bt s (p + 1) - 128)) * 64 + (bt s (p + 2) - 128)) * 64 + (bt s (p + 3) - 128) ∧ (((bt s p - 240) * 64 + (bt s (p + 1) - 128)) * 64 + (bt s (p + 2) - 128)) * 64 + (bt s (p + 3) - 128) ≤ 1114111 then
   ((((bt s p - 240) * 64 + (bt s (p + 1) - 128)) * 64 + (bt s (p + 2) - 128)) * 64 + (bt s (p + 3) - 128), 4) else (0, 0))
 else (0, 0)
def take (s : ByteArray) (p : Int) : Int × Int := if 0 ≤ p ∧ p < s.size then tk s p else (0, 0)
theorem tk_len (s : ByteArray) (p : Int) : (tk s p).2 = 0 ∨ (1 ≤ (tk s p).2 ∧ (tk s p).2 ≤ 4 ∧ (p < s.size → p + (tk s p).2 ≤ s.size)) := by
 unfold tk isOn
 split
 ·right; simp; omega
 ·split
  ·split
   ·right; simp; omega
   ·left; rfl
  ·split
   ·split
    ·right; simp; omega
    ·left; rfl
   ·split
    ·split
     ·right; simp; omega
     ·left; rfl
    ·left; rfl
theorem byte_all {p : Int → Prop} (h : ∀ b : Fin 256, p ((b.val : Nat) : Int)) (s : ByteArray) (i : Int) : p (bt s i) := by
 have hr := bt_range s i
 have := h ⟨(bt s i).toNat, by omega⟩
 rwa [show ((((⟨(bt s i).toNat, by omega⟩ : Fin 256)).val : Nat) : Int) = bt s i from by simp; omega] at this
theorem w32 {x : Int} (h0 : -2147483648 ≤ x) (h1 : x ≤ 2147483647) : wrap32 x = x := by unfold wrap32; omega
theorem and192 (s : ByteArray) (i : Int) : Go.bits .and .u8 (bt s i) 192 = bt s i / 64 * 64 := byte_all (p := fun b => Go.bits .and .u8 b 192 = b / 64 * 64) (by decide +kernel) s i
theorem and63 (s : ByteArray) (i : Int) : Go.bits .and .u8 (bt s i) 63 = bt s i % 64 := byte_all (p := fun b => Go.bits .and .u8 b 63 = b % 64) (by decide +kernel) s i
theorem not192 (s : ByteArray) (i : Int) : Go.bits .andNot .u8 (bt s i) 192 = bt s i % 64 := byte_all (p := fun b => Go.bits .andNot .u8 b 192 = b % 64) (by decide +kernel) s i
theorem not224 (s : ByteArray) (i : Int) : Go.bits .andNot .u8 (bt s i) 224 = bt s i % 32 := byte_all (p := fun b => Go.bits .andNot .u8 b 224 = b % 32) (by decide +kernel) s i
theorem not240 (s : ByteArray) (i : Int) : Go.bits .andNot .u8 (bt s i) 240 = bt s i % 16 := byte_all (p := fun b => Go.bits .andNot .u8 b 240 = b % 16) (by decide +kernel) s i
theorem goesOn_is (s : ByteArray) (i : Int) : utf_goesOn.f (bt s i) = some (decide (128 ≤ bt s i ∧ bt s i ≤ 191)) := by
 have hr := bt_range s i
 unfold utf_goesOn.f
 rw [and192]
 congr 1
 rw [Bool.eq_iff_iff, beq_iff_eq, decide_eq_true_eq]
 omega
theorem isRune_is (c : Int) : utf_isRune.f c = some (decide (0 ≤ c ∧ c ≤ 1114111 ∧ (c < 55296 ∨ c > 57343))) := by
 unfold utf_isRune.f
 split
 ·split
  ·split
   ·congr 1; rw [eq_comm, decide_eq_true_eq]; omega
   ·congr 1; rw [decide_eq_decide]; omega
  ·congr 1; rw [eq_comm, decide_eq_false_iff_not]; omega
 ·congr 1; rw [eq_comm, decide_eq_false_iff_not]; omega
theorem width_is (c : Int) : utf_width.f c = some (if c < 128 then 1 else if c < 2048 then 2 else if c < 65536 then 3 else 4) := by
 unfold utf_width.f
 repeat' split
 all_goals rfl
theorem Take_done (s : ByteArray) (p n c : Int) : Ev (fun k => utf_Take.l0 k s p n c n) (if (0 ≤ c ∧ c ≤ 1114111 ∧ (c < 55296 ∨ c > 57343)) ∧ (if c < 128 then 1 else if c < 2048 then 2 else if c < 65536 then 3 else 4) = n then (c, n) else (0, 0)) := by
 refine Ev.step (f := fun _ => some _) (fun k => ?_) (Ev.now _)
 simp only [utf_Take.l0]
 rw [if_neg (by omega), isRune_is, width_is]
 simp only [Option.bind_some]
 by_cases h : 0 ≤ c ∧ c ≤ 1114111 ∧ (c < 55296 ∨ c > 57343)
 ·rw [if_pos (by simpa using h)]
  by_cases h2 : (if c < 128 then 1 else if c < 2048 then 2 else if c < 65536 then 3 else 4) = n
  ·rw [if_pos h2, if_pos ⟨h, h2⟩]
  ·rw [if_neg h2, if_neg (fun z => h2 z.2)]
 ·rw [if_neg (by simpa using h), if_neg (fun z => h z.1)]
theorem Take_on (s : ByteArray) (p n c j : Int) (hs : s.size ≤ 140737488351232) (h0 : 0 ≤ p) (hj0 : 1 ≤ j) (hj : j < n) (_hn : n ≤ 4) (hc0 : 0 ≤ c) (hc : c ≤ 1000000) (hon : isOn s (p + j)) {r : Int × Int}
  (e : Ev (fun k => utf_Take.l0 k s p n (c * 64 + (bt s (p + j) - 128)) (j + 1)) r) : Ev (fun k => utf_Take.l0 k s p n c j) r := by
 unfold isOn at hon
 refine Ev.step (fun k => ?_) e
 simp only [utf_Take.l0]
 rw [if_pos hj, w64 (x := p + j) (by omega) (by omega), if_pos (by omega), if_pos (by omega), goesOn_is, w64 (x := j + 1) (by omega) (by omega), and63, w32 (x := c * 64) (by omega) (by omega), w32 (x := bt s (p + j) % 64) (by omega) (by omega), Go.i32_or6 _ _ (by omega) (by omega) (by omega) (by omega) (by omega)]
 simp only [Option.bind_some]
 rw [if_pos (by simpa using hon.2)]
 congr 1
 omega
theorem Take_off (s : ByteArray) (p n c j : Int) (hs : s.size ≤ 140737488351232) (h0 : 0 ≤ p) (hj0 : 1 ≤ j) (hj : j < n) (_hn : n ≤ 4) (hb : p + j < s.size) (hon : ¬ isOn s (p + j)) : Ev (fun k => utf_Take.l0 k s p n c j) (0, 0) := by
 unfold isOn at hon
 refine Ev.step (f := fun _ => some (0, 0)) (fun k => ?_) (Ev.now _)
 simp only [utf_Take.l0]
 rw [if_pos hj, w64 (x := p + j) (by omega) (by omega), if_pos (by omega), if_pos (by omega), goesOn_is]
 simp only [Option.bind_some]
 rw [if_neg (by simp; omega)]
theorem utf_Take_ev (s : ByteArray) (p : Int) (hs : s.size ≤ 140737488351232) : Ev (fun k => utf_Take.f k s p) (take s p) := by
 have no : Ev (fun k => utf_Take.j0 k s p true) (0, 0) := Ev.step (f := fun _ => some _) (fun k => by rw [utf_Take.j0, if_pos rfl]) (Ev.now _)
 unfold utf_Take.f take
 by_cases h0 : p < 0
 ·rw [if_neg (by omega)]; exact Ev.pos h0 no
 ·by_cases h1 : p ≥ s.size
  ·rw [if_neg (by omega), decide_eq_true h1]; exact Ev.neg h0 no
  ·rw [if_pos (by omega), decide_eq_false h1]
   refine Ev.neg h0 (Ev.step (fun k => by rw [utf_Take.j0, if_neg Bool.false_ne_true]) ?_)
   refine Ev.pos (by omega) (Ev.pos (by omega) ?_)
   have hr := bt_range s p
   have no1 : ∀ a b, Ev (fun k => utf_Take.j1 k s p a b true) (0, 0) := fun a b => Ev.step (f := fun _ => some _) (fun k => by rw [utf_Take.j1, if_pos rfl]) (Ev.now _)
   have go1 : ∀ a b, ∀ r : Int × Int, Ev (fun k => utf_Take.l0 k s p a b 1) r → Ev (fun k => utf_Take.j1 k s p a b false) r := fun a b r e => Ev.step (fun k => by rw [utf_Take.j1, if_neg (by decide)]) e
   have short : ∀ n : Int, 1 ≤ n → n ≤ 4 → (decide (n > wrap64 ((s.size : Int) - p))) = decide ((s.size : Int) < p + n) := fun n hn hn4 => by
    rw [w64 (x := (s.size : Int) - p) (by omega) (by omega), decide_eq_decide]; omega
   unfold tk
   by_cases c1 : bt s p < 128
   ·rw [if_pos c1]
    refine Ev.call (a := (1, wrap32 (bt s p))) (by unfold utf_begins.f; rw [if_pos c1]) (Ev.neg (by simp) ?_)
    simp only
    rw [short 1 (by omega) (by omega), decide_eq_false (by omega), w32 (by omega) (by omega)]
    refine go1 _ _ _ (Ev.to (Take_done s p 1 (bt s p)) ?_)
    rw [if_pos ⟨by omega, if_pos c1⟩]
   ·rw [if_neg c1]
    by_cases c2 : bt s p < 192
    ·rw [if_neg (show ¬ (192 ≤ bt s p ∧ bt s p < 224 ∧ isOn s (p + 1)) from by omega), if_neg (show ¬ (224 ≤ bt s p ∧ bt s p < 240 ∧ isOn s (p + 1) ∧ isOn s (p + 2)) from by omega), if_neg (show ¬ (240 ≤ bt s p ∧ bt s p < 248 ∧ isOn s (p + 1) ∧ isOn s (p + 2) ∧ isOn s (p + 3)) from by omega)]
     refine Ev.call (a := (0, 0)) (by unfold utf_begins.f; rw [if_neg c1, if_pos c2]) (Ev.pos rfl (no1 _ _))
    ·by_cases c3 : bt s p < 224
     ·rw [show (if 224 ≤ bt s p ∧ bt s p < 240 ∧ isOn s (p + 1) ∧ isOn s (p + 2) then _ else _) = if 240 ≤ bt s p ∧ bt s p < 248 ∧ isOn s (p + 1) ∧ isOn s (p + 2) ∧ isOn s (p + 3) then _ else _ from if_neg (by omega), show (if 240 ≤ bt s p ∧ bt s p < 248 ∧ isOn s (p + 1) ∧ isOn s (p + 2) ∧ isOn s (p + 3) then _ else _) = ((0, 0) : Int × Int) from if_neg (by omega)]
      refine Ev.call (a := (2, bt s p % 64)) (by unfold utf_begins.f; rw [if_neg c1, if_neg c2, if_pos c3, not192, w32 (by omega) (by omega)]) (Ev.neg (by simp) ?_)
      simp only
      rw [short 2 (by omega) (by omega)]
      by_cases l : (s.size : Int) < p + 2
      ·rw [decide_eq_true l, if_neg (by unfold isOn; omega)]; exact no1 _ _
      ·rw [decide_eq_false l]
       refine go1 _ _ _ ?_
       by_cases o1 : isOn s (p + 1)
       ·have o1' := o1
        unfold isOn at o1'
        rw [if_pos ⟨by omega, c3, o1⟩]
        refine Take_on s p 2 _ 1 hs (by omega) (by omega) (by omega) (by omega) (by omega) (by omega) o1 (Ev.to (Take_done s p 2 _) ?_)
        rw [show bt s p % 64 = bt s p - 192 from by omega]
        by_cases z : 128 ≤ (bt s p - 192) * 64 + (bt s (p + 1) - 128)
        ·rw [if_pos z, if_pos ⟨by omega, by rw [if_neg (by omega), if_pos (by omega)]⟩]
        ·rw [if_neg z, if_neg (fun w => by rw [if_pos (by omega)] at w; omega)]
       ·rw [if_neg (fun z => o1 z.2.2)]
        exact Take_off s p 2 _ 1 hs (by omega) (by omega) (by omega) (by omega) (by omega) o1
     ·rw [if_neg (by omega)]
      by_cases c4 : bt s p < 240
      ·rw [show (if 240 ≤ bt s p ∧ bt s p < 248 ∧ isOn s (p + 1) ∧ isOn s (p + 2) ∧ isOn s (p + 3) then _ else _) = ((0, 0) : Int × Int) from if_neg (by omega)]
       refine Ev.call (a := (3, bt s p % 32)) (by unfold utf_begins.f; rw [if_neg c1, if_neg c2, if_neg c3, if_pos c4, not224, w32 (by omega) (by omega)]) (Ev.neg (by simp) ?_)
       simp only
       rw [short 3 (by omega) (by omega)]
       by_cases l : (s.size : Int) < p + 3
       ·rw [decide_eq_true l, if_neg (by unfold isOn; omega)]; exact no1 _ _
       ·rw [decide_eq_false l]
        refine go1 _ _ _ ?_
        by_cases o1 : isOn s (p + 1)
        ·have o1' := o1
         unfold isOn at o1'
         refine Take_on s p 3 _ 1 hs (by omega) (by omega) (by omega) (by omega) (by omega) (by omega) o1 ?_
         by_cases o2 : isOn s (p + 2)
         ·have o2' := o2
          unfold isOn at o2'
          rw [if_pos ⟨by omega, c4, o1, o2⟩]
          refine Take_on s p 3 _ 2 hs (by omega) (by omega) (by omega) (by omega) (by omega) (by omega) o2 (Ev.to (Take_done s p 3 _) ?_)
          rw [show bt s p % 32 = bt s p - 224 from by omega]
          generalize hc : ((bt s p - 224) * 64 + (bt s (p + 1) - 128)) * 64 + (bt s (p + 2) - 128) = c
          by_cases z : 2048 ≤ c ∧ ¬ (55296 ≤ c ∧ c ≤ 57343)
          ·rw [if_pos z, if_pos ⟨by omega, by rw [if_neg (by omega), if_neg (by omega), if_pos (by omega)]⟩]
          ·rw [if_neg z, if_neg (fun w => z ⟨by
            apply Classical.byContradiction; intro q
            by_cases q1 : c < 128
            ·rw [if_pos q1] at w; omega
            ·rw [if_neg q1, if_pos (by omega)] at w; omega, by omega⟩)]
         ·rw [if_neg (fun z => o2 z.2.2.2)]
          exact Take_off s p 3 _ 2 hs (by omega) (by omega) (by omega) (by omega) (by omega) o2
        ·rw [if_neg (fun z => o1 z.2.2.1)]
         exact Take_off s p 3 _ 1 hs (by omega) (by omega) (by omega) (by omega) (by omega) o1
      ·rw [if_neg (by omega)]
       by_cases c5 : bt s p < 248
       ·refine Ev.call (a := (4, bt s p % 16)) (by unfold utf_begins.f; rw [if_neg c1, if_neg c2, if_neg c3, if_neg c4, if_pos c5, not240, w32 (by omega) (by omega)]) (Ev.neg (by simp) ?_)
        simp only
        rw [short 4 (by omega) (by omega)]
        by_cases l : (s.size : Int) < p + 4
        ·rw [decide_eq_true l, if_neg (by unfold isOn; omega)]; exact no1 _ _
        ·rw [decide_eq_false l]
         refine go1 _ _ _ ?_
         by_cases o1 : isOn s (p + 1)
         ·have o1' := o1
          unfold isOn at o1'
          refine Take_on s p 4 _ 1 hs (by omega) (by omega) (by omega) (by omega) (by omega) (by omega) o1 ?_
          by_cases o2 : isOn s (p + 2)
          ·have o2' := o2
           unfold isOn at o2'
           refine Take_on s p 4 _ 2 hs (by omega) (by omega) (by omega) (by omega) (by omega) (by omega) o2 ?_
           by_cases o3 : isOn s (p + 3)
           ·have o3' := o3
            unfold isOn at o3'
            rw [if_pos ⟨by omega, c5, o1, o2, o3⟩]
            refine Take_on s p 4 _ 3 hs (by omega) (by omega) (by omega) (by omega) (by omega) (by omega) o3 (Ev.to (Take_done s p 4 _) ?_)
            rw [show bt s p % 16 = bt s p - 240 from by omega]
            generalize hc : (((bt s p - 240) * 64 + (bt s (p + 1) - 128)) * 64 + (bt s (p + 2) - 128)) * 64 + (bt s (p + 3) - 128) = c
            by_cases z : 65536 ≤ c ∧ c ≤ 1114111
            ·rw [if_pos z, if_pos ⟨by omega, by rw [if_neg (by omega), if_neg (by omega), if_neg (by omega)]⟩]
            ·rw [if_neg z, if_neg (fun w => z ⟨by
              apply Classical.byContradiction; intro q
              by_cases q1 : c < 128
              ·rw [if_pos q1] at w; omega
              ·by_cases q2 : c < 2048
               ·rw [if_neg q1, if_pos q2] at w; omega
               ·rw [if_neg q1, if_neg q2, if_pos (by omega)] at w; omega, by omega⟩)]
           ·rw [if_neg (fun z => o3 z.2.2.2.2)]
            exact Take_off s p 4 _ 3 hs (by omega) (by omega) (by omega) (by omega) (by omega) o3
          ·rw [if_neg (fun z => o2 z.2.2.2.1)]
           exact Take_off s p 4 _ 2 hs (by omega) (by omega) (by omega) (by omega) (by omega) o2
         ·rw [if_neg (fun z => o1 z.2.2.1)]
          exact Take_off s p 4 _ 1 hs (by omega) (by omega) (by omega) (by omega) (by omega) o1
       ·rw [if_neg (by omega)]
        refine Ev.call (a := (0, 0)) (by unfold utf_begins.f; rw [if_neg c1, if_neg c2, if_neg c3, if_neg c4, if_neg c5]) (Ev.pos rfl (no1 _ _))
theorem ok_is (c : Int) : sr01ok.f c = some (decide (0 ≤ c ∧ c ≤ 1114111 ∧ (c < 55296 ∨ c > 57343))) := by
 unfold sr01ok.f
 split
 ·split
  ·split
   ·rename_i h1 h2 h3
    by_cases h4 : c ≤ 57343
    ·rw [decide_eq_true h4, decide_eq_false (by omega)]; rfl
    ·rw [decide_eq_false h4, decide_eq_true (by omega)]; rfl
   ·rw [decide_eq_true (by omega)]; rfl
  ·rw [decide_eq_false (by omega)]
 ·rw [decide_eq_false (by omega)]
theorem octets_is (c : Int) : sr01octets.f c = some (if c < 128 then 1 else if c < 2048 then 2 else if c < 65536 then 3 else 4) := by
 unfold sr01octets.f
 repeat' split
 all_goals rfl
/-- A rune's bytes. -/
def runeBytes (c : Int) : List Int :=
 if 0 ≤ c ∧ c ≤ 1114111 ∧ (c < 55296 ∨ c > 57343) then
  (if c < 128 then [c] else if c < 2048 then [192 + c / 64, 128 + c % 64] else if c < 65536 then [224 + c / 4096, 128 + c / 64 % 64, 128 + c % 64] else [240 + c / 262144, 128 + c / 4096 % 64, 128 + c / 64 % 64, 128 + c % 64])
 else []
theorem runeBytes_bytes (c : Int) : ∀ x ∈ runeBytes c, 0 ≤ x ∧ x < 256 := by
 intro x hx
 unfold runeBytes at hx
 split at hx
 ·repeat' (first | split at hx | (simp at hx; omega))
 ·simp at hx
theorem ref_Put_is (c : Int) (h0 : -2147483648 ≤ c) (h1 : c ≤ 2147483647) : sr01Put.f c = some (strOfNums (runeBytes c)) := by
 unfold sr01Put.f runeBytes
 rw [w64 (x := c) (by omega) (by omega), ok_is, octets_is]
 simp only [Option.bind_some]
 by_cases h : 0 ≤ c ∧ c ≤ 1114111 ∧ (c < 55296 ∨ c > 57343)
 ·rw [if_pos (by simpa using h), if_pos h, Int.tdiv_eq_ediv_of_nonneg h.1, Int.tdiv_eq_ediv_of_nonneg h.1, Int.tdiv_eq_ediv_of_nonneg h.1, Int.tmod_eq_emod_of_nonneg h.1,
   w64 (x := c / 64) (by omega) (by omega), w64 (x := c / 4096) (by omega) (by omega), w64 (x := c / 262144) (by omega) (by omega),
   Int.tmod_eq_emod_of_nonneg (show 0 ≤ c / 64 by omega), Int.tmod_eq_emod_of_nonneg (show 0 ≤ c / 4096 by omega),
   w64 (x := 192 + c / 64) (by omega) (by omega), w64 (x := 224 + c / 4096) (by omega) (by omega), w64 (x := 240 + c / 262144) (by omega) (by omega), w64 (x := 128 + c % 64) (by omega) (by omega), w64 (x := 128 + c / 64 % 64) (by omega) (by omega), w64 (x := 128 + c / 4096 % 64) (by omega) (by omega)]
  rw [show (128 + c % 64) % 256 = 128 + c % 64 from by omega, show (128 + c / 64 % 64) % 256 = 128 + c / 64 % 64 from by omega, show (128 + c / 4096 % 64) % 256 = 128 + c / 4096 % 64 from by omega]
  by_cases a1 : c < 128
  ·rw [if_pos a1, if_pos rfl, if_pos a1, show c % 256 = c from by omega]
  ·rw [if_neg a1, if_neg a1]
   by_cases a2 : c < 2048
   ·rw [if_pos a2, if_neg (by decide), if_pos rfl, if_pos a2, show (192 + c / 64) % 256 = 192 + c / 64 from by omega]
   ·rw [if_neg a2, if_neg a2]
    by_cases a3 : c < 65536
    ·rw [if_pos a3, if_neg (by decide), if_neg (by decide), if_pos rfl, if_pos a3, show (224 + c / 4096) % 256 = 224 + c / 4096 from by omega]
    ·rw [if_neg a3, if_neg (by decide), if_neg (by decide), if_neg (by decide), if_neg a3, show (240 + c / 262144) % 256 = 240 + c / 262144 from by omega]
 ·rw [if_neg (by simpa using h), if_neg h]
  rfl
theorem bt_eq (s : ByteArray) (n : Nat) (h : n < s.size) : bt s (n : Int) = ((s[n]'h).toNat : Int) := by
 unfold bt
 rw [dif_pos (show ((n : Int)).toNat < s.size from h)]
 rfl
theorem bt_extract (s : ByteArray) (i j m : Nat) (h : i + m < j) (hj : j ≤ s.size) : bt (s.extract i j) (m : Int) = bt s ((i + m : Nat) : Int) := by
 have hz : (s.extract i j).size = j - i := by rw [ByteArray.size_extract]; omega
 rw [bt_eq _ _ (by omega), bt_eq _ _ (by omega), ByteArray.getElem_extract]
/-- The bytes of a piece. -/
theorem extract_nums (s : ByteArray) (i n : Nat) (h : i + n ≤ s.size) (xs : List Int) (hb : ∀ x ∈ xs, 0 ≤ x ∧ x < 256) :
  (strOfNums xs).toList = (s.extract i (i + n)).toList ↔ xs = (List.range n).map fun m => bt s ((i + m : Nat) : Int) := by
 have hz : (s.extract i (i + n)).size = n := by rw [ByteArray.size_extract]; omega
 rw [ByteArray.toList_eq, ByteArray.toList_eq, strOfNums_data]
 constructor
 ·intro e
  have hl : xs.length = n := by
   have := congrArg List.length e
   rw [List.length_map, data_length] at this
   omega
  apply List.ext_getElem
  ·simp [hl]
  ·intro m h1 h2
   have h3 : m < (s.extract i (i + n)).data.toList.length := by rw [data_length]; omega
   have e2 : UInt8.ofNat xs[m].toNat = (s.extract i (i + n)).data.toList[m] := by
    have := congrArg (fun l => l[m]?) e
    simp only [List.getElem?_map, List.getElem?_eq_getElem h1, List.getElem?_eq_getElem h3, Option.map_some] at this
    exact Option.some.inj this
   have e3 := bt_extract s i (i + n) m (by omega) h
   have e4 : bt (s.extract i (i + n)) (m : Int) = (((s.extract i (i + n)).data.toList[m]).toNat : Int) := by
    unfold bt
    rw [dif_pos (by simp; omega)]
    rfl
   rw [← e2, UInt8.toNat_ofNat'] at e4
   have hx := hb xs[m] (List.getElem_mem h1)
   simp only [List.getElem_map, List.getElem_range]
   omega
 ·intro e
  subst e
  apply List.ext_getElem
  ·rw [List.length_map, List.length_map, List.length_range, data_length, hz]
  ·intro m h1 h2
   simp only [List.getElem_map, List.getElem_range]
   have hm : m < n := by simpa using h1
   rw [← bt_extract s i (i + n) m (by omega) h]
   apply UInt8.toNat_inj.mp
   have hr := bt_range (s.extract i (i + n)) (m : Int)
   have e4 : bt (s.extract i (i + n)) (m : Int) = (((s.extract i (i + n)).data.toList[m]).toNat : Int) := by
    unfold bt
    rw [dif_pos (by simp; omega)]
    rfl
   rw [UInt8.toNat_ofNat', e4]
   have := ((s.extract i (i + n)).data.toList[m]).toNat_lt
   simp
theorem number_step (s : ByteArray) (c j : Int) (hj0 : 0 ≤ j) (hj : j < s.size) (hs : s.size ≤ 4) (hc0 : 0 ≤ c) (hc : c ≤ 20000000) {r : Int} (e : Ev (fun k => sr01number.l0 k s (64 * c + bt s j % 64) (j + 1)) r) : Ev (fun k => sr01number.l0 k s c j) r := by
 have hr := bt_range s j
 refine Ev.step (fun k => ?_) e
 simp only [sr01number.l0]
 rw [if_pos hj, if_pos hj0, w64 (x := bt s j) (by omega) (by omega), Int.tmod_eq_emod_of_nonneg hr.1, w64 (x := 64 * c) (by omega) (by omega), w64 (by omega) (by omega), w64 (x := j + 1) (by omega) (by omega)]
theorem number_done (s : ByteArray) (c : Int) : Ev (fun k => sr01number.l0 k s c (s.size : Int)) c := by
 refine Ev.step (f := fun _ => some c) (fun k => ?_) (Ev.now _)
 simp only [sr01number.l0]
 rw [if_neg (by omega)]
/-- What so many bytes would be. -/
def numOf (s : ByteArray) (n : Nat) : Int :=
 if n = 1 then bt s 0
 else if n = 2 then (if bt s 0 - 192 < 0 then -1 else 64 * (bt s 0 - 192) + bt s 1 % 64)
 else if n = 3 then (if bt s 0 - 224 < 0 then -1 else 64 * (64 * (bt s 0 - 224) + bt s 1 % 64) + bt s 2 % 64)
 else (if bt s 0 - 240 < 0 then -1 else 64 * (64 * (64 * (bt s 0 - 240) + bt s 1 % 64) + bt s 2 % 64) + bt s 3 % 64)
theorem ref_number_ev (s : ByteArray) (n : Nat) (hz : s.size = n) (h1 : 1 ≤ n) (h4 : n ≤ 4) : Ev (fun k => sr01number.f k s) (numOf s n) := by
 have hr0 := bt_range s 0
 have hr1 := bt_range s 1
 have hr2 := bt_range s 2
 have minus : ∀ c : Int, c < 0 → Ev (fun k => sr01number.j0 k s c) (-1) := fun c hc => Ev.step (f := fun _ => some (-1)) (fun k => by rw [sr01number.j0, if_pos hc]) (Ev.now _)
 have on : ∀ (c r : Int), ¬ c < 0 → Ev (fun k => sr01number.l0 k s c 1) r → Ev (fun k => sr01number.j0 k s c) r := fun c r hc e => Ev.step (fun k => by rw [sr01number.j0, if_neg hc]) e
 unfold sr01number.f numOf
 refine Ev.pos (by omega) ?_
 rw [w64 (x := bt s 0) (by omega) (by omega), w64 (x := bt s 0 - 192) (by omega) (by omega), w64 (x := bt s 0 - 224) (by omega) (by omega), w64 (x := bt s 0 - 240) (by omega) (by omega)]
 have done : ∀ c : Int, Ev (fun k => sr01number.l0 k s c (n : Int)) c := fun c => by rw [← hz]; exact number_done s c
 rcases (show n = 1 ∨ n = 2 ∨ n = 3 ∨ n = 4 from by omega) with rfl | rfl | rfl | rfl
 ·refine Ev.pos (by omega) ?_
  rw [if_pos rfl]; exact Ev.now _
 ·refine Ev.neg (by omega) (Ev.pos (by omega) ?_)
  rw [if_neg (by decide), if_pos rfl]
  by_cases c : bt s 0 - 192 < 0
  ·rw [if_pos c]; exact minus _ c
  ·rw [if_neg c]
   exact on _ _ c (number_step s _ 1 (by omega) (by omega) (by omega) (by omega) (by omega) (done _))
 ·refine Ev.neg (by omega) (Ev.neg (by omega) (Ev.pos (by omega) ?_))
  rw [if_neg (by decide), if_neg (by decide), if_pos rfl]
  by_cases c : bt s 0 - 224 < 0
  ·rw [if_pos c]; exact minus _ c
  ·rw [if_neg c]
   exact on _ _ c (number_step s _ 1 (by omega) (by omega) (by omega) (by omega) (by omega) (number_step s _ 2 (by omega) (by omega) (by omega) (by omega) (by omega) (done _)))
 ·refine Ev.neg (by omega) (Ev.neg (by omega) (Ev.neg (by omega) ?_))
  rw [if_neg (by decide), if_neg (by decide), if_neg (by decide)]
  by_cases c : bt s 0 - 240 < 0
  ·rw [if_pos c]; exact minus _ c
  ·rw [if_neg c]
   exact on _ _ c (number_step s _ 1 (by omega) (by omega) (by omega) (by omega) (by omega) (number_step s _ 2 (by omega) (by omega) (by omega) (by omega) (by omega) (number_step s _ 3 (by omega) (by omega) (by omega) (by omega) (by omega) (done _))))
/-- What so many bytes at a place would be. -/
def numAt (s : ByteArray) (p : Int) (n : Nat) : Int :=
 if n = 1 then bt s p
 else if n = 2 then (if bt s p - 192 < 0 then -1 else 64 * (bt s p - 192) + bt s (p + 1) % 64)
 else if n = 3 then (if bt s p - 224 < 0 then -1 else 64 * (64 * (bt s p - 224) + bt s (p + 1) % 64) + bt s (p + 2) % 64)
 else (if bt s p - 240 < 0 then -1 else 64 * (64 * (64 * (bt s p - 240) + bt s (p + 1) % 64) + bt s (p + 2) % 64) + bt s (p + 3) % 64)
def bytesFrom (s : ByteArray) (p : Nat) (n : Nat) : List Int := (List.range n).map fun m => bt s ((p + m : Nat) : Int)
theorem numOf_extract (s : ByteArray) (p n : Nat) (h1 : 1 ≤ n) (h4 : n ≤ 4) (h : p + n ≤ s.size) : numOf (s.extract p (p + n)) n = numAt s (p : Int) n := by
 have e : ∀ m : Nat, m < n → bt (s.extract p (p + n)) (m : Int) = bt s ((p : Int) + (m : Int)) := fun m hm => by
  rw [bt_extract s p (p + n) m (by omega) h]
  congr 1
 have e0 := e 0 (by omega)
 simp only [Int.natCast_zero, Int.add_zero] at e0
 rcases (show n = 1 ∨ n = 2 ∨ n = 3 ∨ n = 4 from by omega) with rfl | rfl | rfl | rfl
 ·unfold numOf numAt; rw [if_pos rfl, if_pos rfl]; exact e0
 ·have e1 : bt (s.extract p (p + 2)) 1 = bt s ((p : Int) + 1) := e 1 (by omega)
  show (if bt (s.extract p (p + 2)) 0 - 192 < 0 then (-1 : Int) else 64 * (bt (s.extract p (p + 2)) 0 - 192) + bt (s.extract p (p + 2)) 1 % 64) = if bt s (p : Int) - 192 < 0 then (-1 : Int) else 64 * (bt s (p : Int) - 192) + bt s ((p : Int) + 1) % 64
  rw [e0, e1]
 ·have e1 : bt (s.extract p (p + 3)) 1 = bt s ((p : Int) + 1) := e 1 (by omega)
  have e2 : bt (s.extract p (p + 3)) 2 = bt s ((p : Int) + 2) := e 2 (by omega)
  show (if bt (s.extract p (p + 3)) 0 - 224 < 0 then (-1 : Int) else 64 * (64 * (bt (s.extract p (p + 3)) 0 - 224) + bt (s.extract p (p + 3)) 1 % 64) + bt (s.extract p (p + 3)) 2 % 64) = if bt s (p : Int) - 224 < 0 then (-1 : Int) else 64 * (64 * (bt s (p : Int) - 224) + bt s ((p : Int) + 1) % 64) + bt s ((p : Int) + 2) % 64
  rw [e0, e1, e2]
 ·have e1 : bt (s.extract p (p + 4)) 1 = bt s ((p : Int) + 1) := e 1 (by omega)
  have e2 : bt (s.extract p (p + 4)) 2 = bt s ((p : Int) + 2) := e 2 (by omega)
  have e3 : bt (s.extract p (p + 4)) 3 = bt s ((p : Int) + 3) := e 3 (by omega)
  show (if bt (s.extract p (p + 4)) 0 - 240 < 0 then (-1 : Int) else 64 * (64 * (64 * (bt (s.extract p (p + 4)) 0 - 240) + bt (s.extract p (p + 4)) 1 % 64) + bt (s.extract p (p + 4)) 2 % 64) + bt (s.extract p (p + 4)) 3 % 64) =
   if bt s (p : Int) - 240 < 0 then (-1 : Int) else 64 * (64 * (64 * (bt s (p : Int) - 240) + bt s ((p : Int) + 1) % 64) + bt s ((p : Int) + 2) % 64) + bt s ((p : Int) + 3) % 64
  rw [e0, e1, e2, e3]
theorem numAt_range (s : ByteArray) (p : Int) (n : Nat) : -1 ≤ numAt s p n ∧ numAt s p n ≤ 4194303 := by
 have r0 := bt_range s p
 unfold numAt
 repeat' split
 all_goals omega
theorem ref_short (s : ByteArray) (p n : Nat) (hs : s.size ≤ 140737488351232) (hp : p < s.size) (h : ¬ (n ≤ 4 ∧ p + n ≤ s.size)) : Ev (fun k => sr01Take.l0 k s (p : Int) (n : Int)) (0, 0) := by
 have no : Ev (fun k => sr01Take.j2 k s (p : Int) (n : Int) false) (0, 0) := Ev.step (f := fun _ => some _) (fun k => by rw [sr01Take.j2, if_neg Bool.false_ne_true]) (Ev.now _)
 by_cases c : (n : Int) ≤ 4
 ·refine Ev.step (f := fun k => sr01Take.j2 k s (p : Int) (n : Int) false) (fun k => ?_) no
  rw [sr01Take.l0, if_pos c, w64 (x := (s.size : Int) - (p : Int)) (by omega) (by omega), decide_eq_false (by omega)]
 ·refine Ev.step (f := fun k => sr01Take.j2 k s (p : Int) (n : Int) false) (fun k => ?_) no
  rw [sr01Take.l0, if_neg c]
theorem ref_try (s : ByteArray) (p n : Nat) (hs : s.size ≤ 140737488351232) (h1 : 1 ≤ n) (h4 : n ≤ 4) (h : p + n ≤ s.size) {r : Int × Int}
  (e : (0 ≤ numAt s (p : Int) n ∧ runeBytes (numAt s (p : Int) n) = bytesFrom s p n) ∧ r = (numAt s (p : Int) n, (n : Int)) ∨ ¬ (0 ≤ numAt s (p : Int) n ∧ runeBytes (numAt s (p : Int) n) = bytesFrom s p n) ∧ Ev (fun k => sr01Take.l0 k s (p : Int) ((n + 1 : Nat) : Int)) r) :
  Ev (fun k => sr01Take.l0 k s (p : Int) (n : Int)) r := by
 have hz : (s.extract p (p + n)).size = n := by rw [ByteArray.size_extract]; omega
 have hr := numAt_range s (p : Int) n
 have hnum := ref_number_ev (s.extract p (p + n)) n hz h1 h4
 rw [numOf_extract s p n h1 h4 h] at hnum
 have e1 : ((p : Int)).toNat = p := rfl
 have e2 : ((p : Int) + (n : Int)).toNat = p + n := by omega
 have nxt : wrap64 ((n : Int) + 1) = ((n + 1 : Nat) : Int) := by rw [w64 (by omega) (by omega)]; rfl
 refine Ev.step (f := fun k => sr01Take.j2 k s (p : Int) (n : Int) true) (fun k => ?_) ?_
 ·rw [sr01Take.l0, if_pos (by omega), w64 (x := (s.size : Int) - (p : Int)) (by omega) (by omega), decide_eq_true (by omega)]
 refine Ev.step (fun k => by rw [sr01Take.j2, if_pos (rfl : true = true)]) ?_
 rw [w64 (x := (p : Int) + (n : Int)) (by omega) (by omega), e1, e2, nxt]
 refine Ev.pos (by omega) (Ev.pos (by omega) (Ev.pos (by omega) (Ev.bind hnum ?_)))
 rcases e with ⟨⟨g0, g1⟩, rfl⟩ | ⟨g, e⟩
 ·refine Ev.pos g0 ?_
  rw [w32 (x := numAt s (p : Int) n) (by omega) (by omega)]
  refine Ev.call (ref_Put_is _ (by omega) (by omega)) (Ev.pos ?_ (Ev.now _))
  exact (extract_nums s p n h _ (runeBytes_bytes _)).mpr g1
 ·by_cases g0 : 0 ≤ numAt s (p : Int) n
  ·refine Ev.pos g0 ?_
   rw [w32 (x := numAt s (p : Int) n) (by omega) (by omega)]
   refine Ev.call (ref_Put_is _ (by omega) (by omega)) (Ev.neg ?_ e)
   intro z
   exact g ⟨g0, (extract_nums s p n h _ (runeBytes_bytes _)).mp z⟩
  ·exact Ev.neg g0 e
theorem match1 (b0 : Int) (h0 : 0 ≤ b0) (h1 : b0 ≤ 255) : runeBytes b0 = [b0] ↔ b0 < 128 := by
 unfold runeBytes
 rw [if_pos (by omega)]
 by_cases c : b0 < 128
 ·rw [if_pos c]; simp [c]
 ·rw [if_neg c, if_pos (by omega)]; simp [c]
theorem match2 (b0 b1 : Int) (h0 : 192 ≤ b0) (h1 : b0 ≤ 255) (g0 : 0 ≤ b1) (g1 : b1 ≤ 255) : runeBytes (64 * (b0 - 192) + b1 % 64) = [b0, b1] ↔ b0 < 224 ∧ (128 ≤ b1 ∧ b1 ≤ 191) ∧ 128 ≤ (b0 - 192) * 64 + (b1 - 128) := by
 unfold runeBytes
 rw [if_pos (by omega)]
 by_cases c : 64 * (b0 - 192) + b1 % 64 < 128
 ·rw [if_pos c]; simp; omega
 ·rw [if_neg c]
  by_cases d : 64 * (b0 - 192) + b1 % 64 < 2048
  ·rw [if_pos d]; simp only [List.cons.injEq, and_true]; omega
  ·rw [if_neg d, if_pos (by omega)]; simp; omega
theorem match3 (b0 b1 b2 : Int) (h0 : 224 ≤ b0) (h1 : b0 ≤ 255) (g0 : 0 ≤ b1) (g1 : b1 ≤ 255) (k0 : 0 ≤ b2) (k1 : b2 ≤ 255) : runeBytes (64 * (64 * (b0 - 224) + b1 % 64) + b2 % 64) = [b0, b1, b2] ↔
  b0 < 240 ∧ (128 ≤ b1 ∧ b1 ≤ 191) ∧ (128 ≤ b2 ∧ b2 ≤ 191) ∧ 2048 ≤ ((b0 - 224) * 64 + (b1 - 128)) * 64 + (b2 - 128) ∧ ¬ (55296 ≤ ((b0 - 224) * 64 + (b1 - 128)) * 64 + (b2 - 128) ∧ ((b0 - 224) * 64 + (b1 - 128)) * 64 + (b2 - 128) ≤ 57343) := by
 unfold runeBytes
 generalize hx : 64 * (64 * (b0 - 224) + b1 % 64) + b2 % 64 = x
 by_cases r : 0 ≤ x ∧ x ≤ 1114111 ∧ (x < 55296 ∨ x > 57343)
 ·rw [if_pos r]
  by_cases c : x < 128
  ·rw [if_pos c]; simp; omega
  ·rw [if_neg c]
   by_cases d : x < 2048
   ·rw [if_pos d]; simp; omega
   ·rw [if_neg d]
    by_cases e : x < 65536
    ·rw [if_pos e]; simp only [List.cons.injEq, and_true]; omega
    ·rw [if_neg e]; simp; omega
 ·rw [if_neg r]; simp; omega
theorem match4 (b0 b1 b2 b3 : Int) (h0 : 240 ≤ b0) (h1 : b0 ≤ 255) (g0 : 0 ≤ b1) (g1 : b1 ≤ 255) (k0 : 0 ≤ b2) (k1 : b2 ≤ 255) (l0 : 0 ≤ b3) (l1 : b3 ≤ 255) :
  runeBytes (64 * (64 * (64 * (b0 - 240) + b1 % 64) + b2 % 64) + b3 % 64) = [b0, b1, b2, b3] ↔
  b0 < 248 ∧ (128 ≤ b1 ∧ b1 ≤ 191) ∧ (128 ≤ b2 ∧ b2 ≤ 191) ∧ (128 ≤ b3 ∧ b3 ≤ 191) ∧ 65536 ≤ (((b0 - 240) * 64 + (b1 - 128)) * 64 + (b2 - 128)) * 64 + (b3 - 128) ∧ (((b0 - 240) * 64 + (b1 - 128)) * 64 + (b2 - 128)) * 64 + (b3 - 128) ≤ 1114111 := by
 unfold runeBytes
 generalize hx : 64 * (64 * (64 * (b0 - 240) + b1 % 64) + b2 % 64) + b3 % 64 = x
 by_cases r : 0 ≤ x ∧ x ≤ 1114111 ∧ (x < 55296 ∨ x > 57343)
 ·rw [if_pos r]
  by_cases c : x < 128
  ·rw [if_pos c]; simp; omega
  ·rw [if_neg c]
   by_cases d : x < 2048
   ·rw [if_pos d]; simp; omega
   ·rw [if_neg d]
    by_cases e : x < 65536
    ·rw [if_pos e]; simp; omega
    ·rw [if_neg e]; simp only [List.cons.injEq, and_true]; omega
 ·rw [if_neg r]; simp; omega
theorem ref_Take_ev (s : ByteArray) (p : Int) (hs : s.size ≤ 140737488351232) : Ev (fun k => sr01Take.f k s p) (take s p) := by
 have no : Ev (fun k => sr01Take.j0 k s p true) (0, 0) := Ev.step (f := fun _ => some _) (fun k => by rw [sr01Take.j0, if_pos (rfl : true = true)]) (Ev.now _)
 unfold sr01Take.f take
 by_cases h0 : p < 0
 ·rw [if_neg (by omega)]; exact Ev.pos h0 no
 ·by_cases h1 : p ≥ s.size
  ·rw [if_neg (by omega), decide_eq_true h1]; exact Ev.neg h0 no
  ·rw [if_pos (by omega), decide_eq_false h1]
   refine Ev.neg h0 (Ev.step (fun k => by rw [sr01Take.j0, if_neg Bool.false_ne_true]) ?_)
   obtain ⟨q, rfl⟩ : ∃ q : Nat, p = (q : Int) := ⟨p.toNat, by omega⟩
   have hq : q < s.size := by omega
   have r0 := bt_range s (q : Int)
   have r1 := bt_range s ((q : Int) + 1)
   have r2 := bt_range s ((q : Int) + 2)
   have r3 := bt_range s ((q : Int) + 3)
   have short := ref_short s q
   have end5 : Ev (fun k => sr01Take.l0 k s (q : Int) ((4 + 1 : Nat) : Int)) (0, 0) := short 5 hs hq (by omega)
   have f1 : bytesFrom s q 1 = [bt s (q : Int)] := by simp [bytesFrom, List.range_succ]
   have f2 : bytesFrom s q 2 = [bt s (q : Int), bt s ((q : Int) + 1)] := by simp [bytesFrom, List.range_succ]
   have f3 : bytesFrom s q 3 = [bt s (q : Int), bt s ((q : Int) + 1), bt s ((q : Int) + 2)] := by simp [bytesFrom, List.range_succ]
   have f4 : bytesFrom s q 4 = [bt s (q : Int), bt s ((q : Int) + 1), bt s ((q : Int) + 2), bt s ((q : Int) + 3)] := by simp [bytesFrom, List.range_succ]
   have n1 : numAt s (q : Int) 1 = bt s (q : Int) := if_pos rfl
   have n2 : numAt s (q : Int) 2 = if bt s (q : Int) - 192 < 0 then -1 else 64 * (bt s (q : Int) - 192) + bt s ((q : Int) + 1) % 64 := by unfold numAt; rw [if_neg (by decide), if_pos rfl]
   have n3 : numAt s (q : Int) 3 = if bt s (q : Int) - 224 < 0 then -1 else 64 * (64 * (bt s (q : Int) - 224) + bt s ((q : Int) + 1) % 64) + bt s ((q : Int) + 2) % 64 := by unfold numAt; rw [if_neg (by decide), if_neg (by decide), if_pos rfl]
   have n4 : numAt s (q : Int) 4 = if bt s (q : Int) - 240 < 0 then -1 else 64 * (64 * (64 * (bt s (q : Int) - 240) + bt s ((q : Int) + 1) % 64) + bt s ((q : Int) + 2) % 64) + bt s ((q : Int) + 3) % 64 := by unfold numAt; rw [if_neg (by decide), if_neg (by decide), if_neg (by decide)]
   -- what each number of bytes says
   have m1 : (0 ≤ numAt s (q : Int) 1 ∧ runeBytes (numAt s (q : Int) 1) = bytesFrom s q 1) ↔ bt s (q : Int) < 128 := by
    rw [n1, f1, match1 _ r0.1 r0.2]; omega
   have m2 : (0 ≤ numAt s (q : Int) 2 ∧ runeBytes (numAt s (q : Int) 2) = bytesFrom s q 2) ↔ 192 ≤ bt s (q : Int) ∧ bt s (q : Int) < 224 ∧ (128 ≤ bt s ((q : Int) + 1) ∧ bt s ((q : Int) + 1) ≤ 191) ∧ 128 ≤ (bt s (q : Int) - 192) * 64 + (bt s ((q : Int) + 1) - 128) := by
    rw [n2, f2]
    by_cases c : bt s (q : Int) - 192 < 0
    ·rw [if_pos c]; exact ⟨fun z => absurd z.1 (by decide), fun z => by omega⟩
    ·rw [if_neg c, match2 _ _ (by omega) r0.2 r1.1 r1.2]; omega
   have m3 : (0 ≤ numAt s (q : Int) 3 ∧ runeBytes (numAt s (q : Int) 3) = bytesFrom s q 3) ↔ 224 ≤ bt s (q : Int) ∧ bt s (q : Int) < 240 ∧ (128 ≤ bt s ((q : Int) + 1) ∧ bt s ((q : Int) + 1) ≤ 191) ∧ (128 ≤ bt s ((q : Int) + 2) ∧ bt s ((q : Int) + 2) ≤ 191) ∧
     2048 ≤ ((bt s (q : Int) - 224) * 64 + (bt s ((q : Int) + 1) - 128)) * 64 + (bt s ((q : Int) + 2) - 128) ∧ ¬ (55296 ≤ ((bt s (q : Int) - 224) * 64 + (bt s ((q : Int) + 1) - 128)) * 64 + (bt s ((q : Int) + 2) - 128) ∧ ((bt s (q : Int) - 224) * 64 + (bt s ((q : Int) + 1) - 128)) * 64 + (bt s ((q : Int) + 2) - 128) ≤ 57343) := by
    rw [n3, f3]
    by_cases c : bt s (q : Int) - 224 < 0
    ·rw [if_pos c]; exact ⟨fun z => absurd z.1 (by decide), fun z => by omega⟩
    ·rw [if_neg c, match3 _ _ _ (by omega) r0.2 r1.1 r1.2 r2.1 r2.2]; omega
   have m4 : (0 ≤ numAt s (q : Int) 4 ∧ runeBytes (numAt s (q : Int) 4) = bytesFrom s q 4) ↔ 240 ≤ bt s (q : Int) ∧ bt s (q : Int) < 248 ∧ (128 ≤ bt s ((q : Int) + 1) ∧ bt s ((q : Int) + 1) ≤ 191) ∧ (128 ≤ bt s ((q : Int) + 2) ∧ bt s ((q : Int) + 2) ≤ 191) ∧ (128 ≤ bt s ((q : Int) + 3) ∧ bt s ((q : Int) + 3) ≤ 191) ∧
     65536 ≤ (((bt s (q : Int) - 240) * 64 + (bt s ((q : Int) + 1) - 128)) * 64 + (bt s ((q : Int) + 2) - 128)) * 64 + (bt s ((q : Int) + 3) - 128) ∧ (((bt s (q : Int) - 240) * 64 + (bt s ((q : Int) + 1) - 128)) * 64 + (bt s ((q : Int) + 2) - 128)) * 64 + (bt s ((q : Int) + 3) - 128) ≤ 1114111 := by
    rw [n4, f4]
    by_cases c : bt s (q : Int) - 240 < 0
    ·rw [if_pos c]; exact ⟨fun z => absurd z.1 (by decide), fun z => by omega⟩
    ·rw [if_neg c, match4 _ _ _ _ (by omega) r0.2 r1.1 r1.2 r2.1 r2.2 r3.1 r3.2]; omega
   refine ref_try s q 1 hs (by omega) (by omega) (by omega) ?_
   unfold tk isOn
   by_cases c1 : bt s (q : Int) < 128
   ·left; exact ⟨m1.mpr c1, by rw [if_pos c1, n1]; rfl⟩
   right
   refine ⟨fun z => c1 (m1.mp z), ?_⟩
   rw [if_neg c1]
   rcases Nat.lt_or_ge s.size (q + 2) with l2 | l2
   ·rw [if_neg (by omega), if_neg (by omega), if_neg (by omega)]
    exact short 2 hs hq (by omega)
   refine ref_try s q 2 hs (by omega) (by omega) l2 ?_
   by_cases c2 : 192 ≤ bt s (q : Int) ∧ bt s (q : Int) < 224 ∧ (128 ≤ bt s ((q : Int) + 1) ∧ bt s ((q : Int) + 1) ≤ 191) ∧ 128 ≤ (bt s (q : Int) - 192) * 64 + (bt s ((q : Int) + 1) - 128)
   ·left
    refine ⟨m2.mpr c2, ?_⟩
    rw [if_pos ⟨c2.1, c2.2.1, by omega, c2.2.2.1⟩, if_pos c2.2.2.2, n2, if_neg (by omega)]
    rw [show (bt s (q : Int) - 192) * 64 + (bt s ((q : Int) + 1) - 128) = 64 * (bt s (q : Int) - 192) + bt s ((q : Int) + 1) % 64 from by omega]
    rfl
   right
   refine ⟨fun z => c2 (m2.mp z), ?_⟩
   by_cases b2 : 192 ≤ bt s (q : Int) ∧ bt s (q : Int) < 224 ∧ (q : Int) + 1 < s.size ∧ 128 ≤ bt s ((q : Int) + 1) ∧ bt s ((q : Int) + 1) ≤ 191
   ·rw [if_pos b2, if_neg (by omega)]
    by_cases l3 : q + 3 ≤ s.size
    ·refine ref_try s q 3 hs (by omega) (by omega) l3 (.inr ⟨fun z => by have := m3.mp z; omega, ?_⟩)
     by_cases l4 : q + 4 ≤ s.size
     ·exact ref_try s q 4 hs (by omega) (by omega) l4 (.inr ⟨fun z => by have := m4.mp z; omega, end5⟩)
     ·exact short 4 hs hq (by omega)
    ·exact short 3 hs hq (by omega)
   rw [if_neg b2]
   rcases Nat.lt_or_ge s.size (q + 3) with l3 | l3
   ·rw [if_neg (by omega), if_neg (by omega)]
    exact short 3 hs hq (by omega)
   refine ref_try s q 3 hs (by omega) (by omega) l3 ?_
   by_cases b3 : 224 ≤ bt s (q : Int) ∧ bt s (q : Int) < 240 ∧ ((q : Int) + 1 < s.size ∧ 128 ≤ bt s ((q : Int) + 1) ∧ bt s ((q : Int) + 1) ≤ 191) ∧ (q : Int) + 2 < s.size ∧ 128 ≤ bt s ((q : Int) + 2) ∧ bt s ((q : Int) + 2) ≤ 191
   ·rw [if_pos b3]
    split
    ·rename_i c3
     left
     refine ⟨m3.mpr ⟨b3.1, b3.2.1, b3.2.2.1.2, b3.2.2.2.2, c3.1, c3.2⟩, ?_⟩
     rw [n3, if_neg (by omega), show ((bt s (q : Int) - 224) * 64 + (bt s ((q : Int) + 1) - 128)) * 64 + (bt s ((q : Int) + 2) - 128) = 64 * (64 * (bt s (q : Int) - 224) + bt s ((q : Int) + 1) % 64) + bt s ((q : Int) + 2) % 64 from by omega]
     rfl
    ·rename_i c3
     right
     refine ⟨fun z => c3 ⟨(m3.mp z).2.2.2.2.1, (m3.mp z).2.2.2.2.2⟩, ?_⟩
     by_cases l4 : q + 4 ≤ s.size
     ·exact ref_try s q 4 hs (by omega) (by omega) l4 (.inr ⟨fun z => by have := m4.mp z; omega, end5⟩)
     ·exact short 4 hs hq (by omega)
   rw [if_neg b3]
   right
   refine ⟨fun z => b3 ⟨(m3.mp z).1, (m3.mp z).2.1, ⟨by omega, (m3.mp z).2.2.1⟩, by omega, (m3.mp z).2.2.2.1⟩, ?_⟩
   rcases Nat.lt_or_ge s.size (q + 4) with l4 | l4
   ·rw [if_neg (by omega)]
    exact short 4 hs hq (by omega)
   refine ref_try s q 4 hs (by omega) (by omega) l4 ?_
   by_cases b4 : 240 ≤ bt s (q : Int) ∧ bt s (q : Int) < 248 ∧ ((q : Int) + 1 < s.size ∧ 128 ≤ bt s ((q : Int) + 1) ∧ bt s ((q : Int) + 1) ≤ 191) ∧ ((q : Int) + 2 < s.size ∧ 128 ≤ bt s ((q : Int) + 2) ∧ bt s ((q : Int) + 2) ≤ 191) ∧ (q : Int) + 3 < s.size ∧ 128 ≤ bt s ((q : Int) + 3) ∧ bt s ((q : Int) + 3) ≤ 191
   ·rw [if_pos b4]
    split
    ·rename_i c4
     left
     refine ⟨m4.mpr ⟨b4.1, b4.2.1, b4.2.2.1.2, b4.2.2.2.1.2, b4.2.2.2.2.2, c4.1, c4.2⟩, ?_⟩
     rw [n4, if_neg (by omega), show (((bt s (q : Int) - 240) * 64 + (bt s ((q : Int) + 1) - 128)) * 64 + (bt s ((q : Int) + 2) - 128)) * 64 + (bt s ((q : Int) + 3) - 128) = 64 * (64 * (64 * (bt s (q : Int) - 240) + bt s ((q : Int) + 1) % 64) + bt s ((q : Int) + 2) % 64) + bt s ((q : Int) + 3) % 64 from by omega]
     rfl
    ·rename_i c4
     exact .inr ⟨fun z => c4 ⟨(m4.mp z).2.2.2.2.2.1, (m4.mp z).2.2.2.2.2.2⟩, end5⟩
   ·rw [if_neg b4]
    exact .inr ⟨fun z => b4 ⟨(m4.mp z).1, (m4.mp z).2.1, ⟨by omega, (m4.mp z).2.2.1⟩, ⟨by omega, (m4.mp z).2.2.2.1⟩, by omega, (m4.mp z).2.2.2.2.1⟩, end5⟩
/-! whole texts -/
theorem get_bt (s : ByteArray) (p k : Nat) (h : p + k < s.size) : ((s.get! (p + k)).toNat : Int) = bt s ((p : Int) + (k : Int)) := by
 have e : s.get! (p + k) = s[p + k]'h := by
  simp [ByteArray.get!, getElem!_pos, h]
  rfl
 rw [e, ← bt_eq s (p + k) h]
 congr 1
/-- The model's own decoding, by the plain taking. -/
theorem decode_tk (s : ByteArray) (p : Nat) (h : p < s.size) : Utf8.decode s p = if (tk s (p : Int)).2 = 0 then (65533, 1) else ((tk s (p : Int)).1.toNat, (tk s (p : Int)).2.toNat) := by
 have r0 := bt_range s (p : Int)
 have r1 := bt_range s ((p : Int) + 1)
 have r2 := bt_range s ((p : Int) + 2)
 have r3 := bt_range s ((p : Int) + 3)
 have g0 := get_bt s p 0 (by omega)
 have g1 := fun z => get_bt s p 1 z
 have g2 := fun z => get_bt s p 2 z
 have g3 := fun z => get_bt s p 3 z
 simp only [Int.natCast_zero, Int.add_zero] at g0
 generalize hb0 : (s.get! (p + 0)).toNat = b0 at g0
 generalize hb1 : (s.get! (p + 1)).toNat = b1 at g1
 generalize hb2 : (s.get! (p + 2)).toNat = b2 at g2
 generalize hb3 : (s.get! (p + 3)).toNat = b3 at g3
 simp only [Int.natCast_one] at g1
 have g2' : p + 2 < s.size → (b2 : Int) = bt s ((p : Int) + 2) := g2
 have g3' : p + 3 < s.size → (b3 : Int) = bt s ((p : Int) + 3) := g3
 have l1 : b1 < 256 := by rw [← hb1]; exact UInt8.toNat_lt _
 have l2 : b2 < 256 := by rw [← hb2]; exact UInt8.toNat_lt _
 have l3 : b3 < 256 := by rw [← hb3]; exact UInt8.toNat_lt _
 clear g2 g3
 have o1 : isOn s ((p : Int) + 1) ↔ p + 1 < s.size ∧ b1 / 64 = 2 := by
  unfold isOn
  constructor
  ·intro z; have := g1 (by omega); omega
  ·intro z; have := g1 z.1; omega
 have o2 : isOn s ((p : Int) + 2) ↔ p + 2 < s.size ∧ b2 / 64 = 2 := by
  unfold isOn
  constructor
  ·intro z; have := g2' (by omega); omega
  ·intro z; have := g2' z.1; omega
 have o3 : isOn s ((p : Int) + 3) ↔ p + 3 < s.size ∧ b3 / 64 = 2 := by
  unfold isOn
  constructor
  ·intro z; have := g3' (by omega); omega
  ·intro z; have := g3' z.1; omega
 unfold Utf8.decode
 simp only [hb0, hb1, hb2, hb3, Utf8.runeError, Utf8.valid]
 by_cases a1 : bt s (p : Int) < 128
 ·have e : tk s (p : Int) = (bt s (p : Int), 1) := by unfold tk; rw [if_pos a1]
  rw [if_pos (by omega), e, if_neg (by simp)]
  exact Prod.ext (by show b0 = Int.toNat _; omega) rfl
 rw [if_neg (by omega)]
 by_cases a2 : 192 ≤ bt s (p : Int) ∧ bt s (p : Int) < 224 ∧ isOn s ((p : Int) + 1)
 ·have ho := o1.mp a2.2.2
  have hg := g1 ho.1
  rw [if_pos (by simp only [Bool.and_eq_true, beq_iff_eq, decide_eq_true_eq]; exact ⟨by omega, ho.1, ho.2⟩)]
  by_cases z : 128 ≤ (bt s (p : Int) - 192) * 64 + (bt s ((p : Int) + 1) - 128)
  ·have e : tk s (p : Int) = ((bt s (p : Int) - 192) * 64 + (bt s ((p : Int) + 1) - 128), 2) := by unfold tk; rw [if_neg a1, if_pos a2, if_pos z]
   rw [if_pos (by omega), e, if_neg (by simp)]
   exact Prod.ext (by show _ = Int.toNat _; omega) rfl
  ·have e : tk s (p : Int) = (0, 0) := by unfold tk; rw [if_neg a1, if_pos a2, if_neg z]
   rw [if_neg (by omega), e, if_pos rfl]
 rw [if_neg (by simp only [Bool.and_eq_true, beq_iff_eq, decide_eq_true_eq]; intro z; exact a2 ⟨by omega, by omega, o1.mpr z.2⟩)]
 by_cases a3 : 224 ≤ bt s (p : Int) ∧ bt s (p : Int) < 240 ∧ isOn s ((p : Int) + 1) ∧ isOn s ((p : Int) + 2)
 ·have ho1 := o1.mp a3.2.2.1
  have ho2 := o2.mp a3.2.2.2
  have hg1 := g1 ho1.1
  have hg2 := g2' ho2.1
  rw [if_pos (by simp only [Bool.and_eq_true, beq_iff_eq, decide_eq_true_eq]; exact ⟨⟨by omega, ho1.1, ho1.2⟩, ho2.1, ho2.2⟩)]
  by_cases z : 2048 ≤ ((bt s (p : Int) - 224) * 64 + (bt s ((p : Int) + 1) - 128)) * 64 + (bt s ((p : Int) + 2) - 128) ∧ ¬ (55296 ≤ ((bt s (p : Int) - 224) * 64 + (bt s ((p : Int) + 1) - 128)) * 64 + (bt s ((p : Int) + 2) - 128) ∧ ((bt s (p : Int) - 224) * 64 + (bt s ((p : Int) + 1) - 128)) * 64 + (bt s ((p : Int) + 2) - 128) ≤ 57343)
  ·have e : tk s (p : Int) = (((bt s (p : Int) - 224) * 64 + (bt s ((p : Int) + 1) - 128)) * 64 + (bt s ((p : Int) + 2) - 128), 3) := by unfold tk; rw [if_neg a1, if_neg a2, if_pos a3, if_pos z]
   rw [if_pos (by simp only [Bool.and_eq_true, Bool.or_eq_true, decide_eq_true_eq]; omega), e, if_neg (by simp)]
   exact Prod.ext (by show _ = Int.toNat _; omega) rfl
  ·have e : tk s (p : Int) = (0, 0) := by unfold tk; rw [if_neg a1, if_neg a2, if_pos a3, if_neg z]
   rw [if_neg (by simp only [Bool.and_eq_true, Bool.or_eq_true, decide_eq_true_eq]; omega), e, if_pos rfl]
 rw [if_neg (by simp only [Bool.and_eq_true, beq_iff_eq, decide_eq_true_eq]; intro z; exact a3 ⟨by omega, by omega, o1.mpr z.1.2, o2.mpr z.2⟩)]
 by_cases a4 : 240 ≤ bt s (p : Int) ∧ bt s (p : Int) < 248 ∧ isOn s ((p : Int) + 1) ∧ isOn s ((p : Int) + 2) ∧ isOn s ((p : Int) + 3)
 ·have ho1 := o1.mp a4.2.2.1
  have ho2 := o2.mp a4.2.2.2.1
  have ho3 := o3.mp a4.2.2.2.2
  have hg1 := g1 ho1.1
  have hg2 := g2' ho2.1
  have hg3 := g3' ho3.1
  rw [if_pos (by simp only [Bool.and_eq_true, beq_iff_eq, decide_eq_true_eq]; exact ⟨⟨⟨by omega, ho1.1, ho1.2⟩, ho2.1, ho2.2⟩, ho3.1, ho3.2⟩)]
  by_cases z : 65536 ≤ (((bt s (p : Int) - 240) * 64 + (bt s ((p : Int) + 1) - 128)) * 64 + (bt s ((p : Int) + 2) - 128)) * 64 + (bt s ((p : Int) + 3) - 128) ∧ (((bt s (p : Int) - 240) * 64 + (bt s ((p : Int) + 1) - 128)) * 64 + (bt s ((p : Int) + 2) - 128)) * 64 + (bt s ((p : Int) + 3) - 128) ≤ 1114111
  ·have e : tk s (p : Int) = ((((bt s (p : Int) - 240) * 64 + (bt s ((p : Int) + 1) - 128)) * 64 + (bt s ((p : Int) + 2) - 128)) * 64 + (bt s ((p : Int) + 3) - 128), 4) := by unfold tk; rw [if_neg a1, if_neg a2, if_neg a3, if_pos a4, if_pos z]
   rw [if_pos (by simp only [Bool.and_eq_true, Bool.or_eq_true, decide_eq_true_eq]; omega), e, if_neg (by simp)]
   exact Prod.ext (by show _ = Int.toNat _; omega) rfl
  ·have e : tk s (p : Int) = (0, 0) := by unfold tk; rw [if_neg a1, if_neg a2, if_neg a3, if_pos a4, if_neg z]
   rw [if_neg (by simp only [Bool.and_eq_true, Bool.or_eq_true, decide_eq_true_eq]; omega), e, if_pos rfl]
 ·have e : tk s (p : Int) = (0, 0) := by unfold tk; rw [if_neg a1, if_neg a2, if_neg a3, if_neg a4]
  rw [if_neg (by simp only [Bool.and_eq_true, beq_iff_eq, decide_eq_true_eq]; intro z; exact a4 ⟨by omega, by omega, o1.mpr z.1.1.2, o2.mpr z.1.2, o3.mpr z.2⟩), e, if_pos rfl]
/-- The first place from p on at which no rune stands; -1: there is none. -/
def badFrom (s : ByteArray) : Nat → Nat → Int
 | 0, _ => -1
 | d + 1, p => if p < s.size then (if (tk s (p : Int)).2 = 0 then (p : Int) else badFrom s d (p + (tk s (p : Int)).2.toNat)) else -1
def badOf (s : ByteArray) : Int := badFrom s (s.size + 1) 0
def valid (s : ByteArray) : Bool := decide (badOf s < 0)
theorem take_tk (s : ByteArray) (p : Nat) (h : p < s.size) : take s (p : Int) = tk s (p : Int) := if_pos (by omega)
theorem utf_Bad_l0 (s : ByteArray) (hs : s.size ≤ 140737488351232) : ∀ (d p : Nat), s.size < p + d → Ev (fun k => utf_Bad.l0 k s p) (badFrom s d p)
 | 0, p, h => by
  refine Ev.step (f := fun _ => some (-1)) (fun k => ?_) (Ev.now _)
  simp only [utf_Bad.l0]
  rw [if_neg (by omega)]
 | d + 1, p, h => by
  simp only [badFrom]
  by_cases c : p < s.size
  ·rw [if_pos c]
   have hl := tk_len s (p : Int)
   have hd := decode_tk s p c
   refine Ev.step (f := fun k => if (Utf8.decode s p).1 = 65533 then ((utf_Take.f k s (p : Int)).bind fun b => (if b.2 = 0 then (some (p : Int)) else (utf_Bad.l0 k s (p + (Utf8.decode s p).2)))) else (utf_Bad.l0 k s (p + (Utf8.decode s p).2))) (fun k => by simp only [utf_Bad.l0]; rw [if_pos c]) ?_
   by_cases z : (tk s (p : Int)).2 = 0
   ·rw [if_pos z] at hd ⊢
    refine Ev.pos (by rw [hd]) (Ev.bind (utf_Take_ev s (p : Int) hs) ?_)
    rw [take_tk s p c]
    exact Ev.pos z (Ev.now _)
   ·rw [if_neg z] at hd ⊢
    have e : (Utf8.decode s p).2 = (tk s (p : Int)).2.toNat := by rw [hd]
    have ih := utf_Bad_l0 s hs d (p + (tk s (p : Int)).2.toNat) (by omega)
    rw [e]
    by_cases y : (Utf8.decode s p).1 = 65533
    ·refine Ev.pos y (Ev.bind (utf_Take_ev s (p : Int) hs) ?_)
     rw [take_tk s p c]
     exact Ev.neg z ih
    ·exact Ev.neg y ih
  ·rw [if_neg c]
   refine Ev.step (f := fun _ => some (-1)) (fun k => ?_) (Ev.now _)
   simp only [utf_Bad.l0]
   rw [if_neg c]
theorem utf_Valid_ev (s : ByteArray) (hs : s.size ≤ 140737488351232) : Ev (fun k => utf_Valid.f k s) (valid s) :=
 Ev.bind (utf_Bad_l0 s hs (s.size + 1) 0 (by omega)) (Ev.now _)
theorem ref_Bad_l0 (s : ByteArray) (hs : s.size ≤ 140737488351232) : ∀ (d p : Nat), s.size < p + d → Ev (fun k => sr01Bad.l0 k s (p : Int)) (badFrom s d p)
 | 0, p, h => by
  refine Ev.step (f := fun _ => some (-1)) (fun k => ?_) (Ev.now _)
  simp only [sr01Bad.l0]
  rw [if_neg (by omega)]
 | d + 1, p, h => by
  simp only [badFrom]
  by_cases c : p < s.size
  ·rw [if_pos c]
   have hl := tk_len s (p : Int)
   refine Ev.step (f := fun k => (sr01Take.f k s (p : Int)).bind fun b => (if b.2 = 0 then (some (p : Int)) else (sr01Bad.l0 k s (wrap64 ((p : Int) + b.2))))) (fun k => by simp only [sr01Bad.l0]; rw [if_pos (by omega)]) ?_
   refine Ev.bind (ref_Take_ev s (p : Int) hs) ?_
   rw [take_tk s p c]
   by_cases z : (tk s (p : Int)).2 = 0
   ·refine Ev.pos z ?_
    rw [if_pos z]; exact Ev.now _
   ·refine Ev.neg z ?_
    rw [if_neg z, w64 (by omega) (by omega), show (p : Int) + (tk s (p : Int)).2 = ((p + (tk s (p : Int)).2.toNat : Nat) : Int) from by omega]
    exact ref_Bad_l0 s hs d _ (by omega)
  ·rw [if_neg c]
   refine Ev.step (f := fun _ => some (-1)) (fun k => ?_) (Ev.now _)
   simp only [sr01Bad.l0]
   rw [if_neg (by omega)]
theorem ref_Valid_ev (s : ByteArray) (hs : s.size ≤ 140737488351232) : Ev (fun k => sr01Valid.f k s) (valid s) :=
 Ev.bind (ref_Bad_l0 s hs (s.size + 1) 0 (by omega)) (Ev.now _)
/-- May a rune begin, or the text end, at a place? -/
def edge (s : ByteArray) (p : Int) : Bool := decide (0 ≤ p ∧ p ≤ s.size ∧ (p = 0 ∨ p = s.size ∨ ¬ (128 ≤ bt s p ∧ bt s p ≤ 191)))
theorem utf_Edge_ev (s : ByteArray) (p : Int) : Ev (fun k => utf_Edge.f k s p) (edge s p) := by
 unfold utf_Edge.f edge
 have no : Ev (fun k => utf_Edge.j0 k s p true) false := Ev.step (f := fun _ => some _) (fun k => by rw [utf_Edge.j0, if_pos (rfl : true = true)]) (Ev.now _)
 by_cases h0 : p < 0
 ·refine Ev.pos h0 ?_
  rw [decide_eq_false (by omega)]; exact no
 refine Ev.neg h0 ?_
 by_cases h1 : p > s.size
 ·rw [decide_eq_true h1, decide_eq_false (by omega)]; exact no
 rw [decide_eq_false h1]
 refine Ev.step (fun k => by rw [utf_Edge.j0, if_neg Bool.false_ne_true]) ?_
 by_cases h2 : p = 0
 ·refine Ev.pos h2 ?_
  rw [decide_eq_true (by omega)]; exact Ev.now _
 refine Ev.neg h2 ?_
 by_cases h3 : p = s.size
 ·refine Ev.pos h3 ?_
  rw [decide_eq_true (by omega)]; exact Ev.now _
 refine Ev.neg h3 (Ev.pos (by omega) (Ev.pos (by omega) (Ev.call (goesOn_is s p) ?_)))
 by_cases h4 : 128 ≤ bt s p ∧ bt s p ≤ 191
 ·rw [decide_eq_true h4, decide_eq_false (by omega)]; exact Ev.now _
 ·rw [decide_eq_false h4, decide_eq_true (by omega)]; exact Ev.now _
theorem ref_Edge_is (s : ByteArray) (p : Int) : sr01Edge.f s p = some (edge s p) := by
 unfold sr01Edge.f edge sr01on.f
 by_cases h0 : p < 0
 ·rw [if_pos h0, decide_eq_false (by omega)]
 rw [if_neg h0]
 by_cases h1 : p > s.size
 ·rw [if_pos h1, decide_eq_false (by omega)]
 rw [if_neg h1]
 by_cases h2 : p = 0
 ·rw [if_pos h2, decide_eq_true (by omega)]
 rw [if_neg h2]
 by_cases h3 : p = s.size
 ·rw [if_pos h3, decide_eq_true (by omega)]
 rw [if_neg h3, if_pos (by omega), if_pos (by omega)]
 by_cases h4 : bt s p ≥ 128
 ·rw [if_pos h4]
  simp only [Option.bind_some]
  by_cases h5 : bt s p ≤ 191
  ·rw [decide_eq_true h5, decide_eq_false (by omega)]; rfl
  ·rw [decide_eq_false h5, decide_eq_true (by omega)]; rfl
 ·rw [if_neg h4, decide_eq_true (by omega)]; rfl
end Go.Proofs.Ytnndanfghlnpfaa.P
