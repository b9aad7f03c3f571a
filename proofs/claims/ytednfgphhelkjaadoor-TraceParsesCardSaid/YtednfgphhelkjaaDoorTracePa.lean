/- What a text tells as a call: the program's reading, and that it is the inverse of the text. -/
import Derived.Test.YtednfgphhelkjaaDoorPx2
import Derived.Test.YtednfgphhelkjaaDoorPx3
import Derived.Test.YtednfgphhelkjaaDoorTraceTx
namespace Go.Proofs.YtednfgphhelkjaaDoor.P
open Go.RowKit Go.Proofs.YtednfgphhelkjaaDoorW.PrintWords Go.Proofs.YtednfgphhelkjaaDoorW.PrintLast
def isD (b : UInt8) : Prop := 48 ≤ b.toNat ∧ b.toNat ≤ 57
def vn (l : List UInt8) : Nat := l.foldl (fun a b => a * 10 + (b.toNat - 48)) 0
theorem vn_append (l : List UInt8) (b : UInt8) : vn (l ++ [b]) = vn l * 10 + (b.toNat - 48) := by simp [vn]
theorem toNat_ofNat (n : Nat) (h : n < 256) : (UInt8.ofNat n).toNat = n := by rw [UInt8.toNat_ofNat']; omega
theorem dg_dig (n : Nat) : (∀ b ∈ dg n, isD b) ∧ vn (dg n) = n := by
 induction n using Nat.strongRecOn with
 | ind n ih =>
  have e := toNat_ofNat (48 + n % 10) (by omega)
  rw [dg]
  by_cases c : n < 10
  ·rw [if_pos c]
   refine ⟨fun b hb => ?_, ?_⟩
   ·rw [List.mem_singleton] at hb; subst hb; unfold isD; omega
   ·rw [show [UInt8.ofNat (48 + n % 10)] = [] ++ [UInt8.ofNat (48 + n % 10)] from rfl, vn_append, e, show vn [] = 0 from rfl]; omega
  ·rw [if_neg c]
   obtain ⟨h1, h2⟩ := ih (n / 10) (by omega)
   refine ⟨fun b hb => ?_, ?_⟩
   ·rcases List.mem_append.1 hb with hb | hb
    ·exact h1 b hb
    ·rw [List.mem_singleton] at hb; subst hb; unfold isD; omega
   ·rw [vn_append, h2, e]; omega
theorem dg_head (n : Nat) (h : 1 ≤ n) : ∃ c t, dg n = c :: t ∧ c.toNat ≠ 48 := by
 induction n using Nat.strongRecOn with
 | ind n ih =>
  rw [dg]
  by_cases c : n < 10
  ·rw [if_pos c]
   exact ⟨_, [], rfl, by rw [toNat_ofNat _ (by omega)]; omega⟩
  ·rw [if_neg c]
   obtain ⟨c, t, h1, h2⟩ := ih (n / 10) (by omega) (by omega)
   exact ⟨c, t ++ [UInt8.ofNat (48 + n % 10)], by rw [h1]; rfl, h2⟩
theorem byte_of (b : UInt8) (h : isD b) : UInt8.ofNat (48 + (b.toNat - 48)) = b := by
 unfold isD at h
 rw [show 48 + (b.toNat - 48) = b.toNat from by omega]
 exact UInt8.ofNat_toNat
theorem dg_one (b : UInt8) (h : isD b) : dg (b.toNat - 48) = [b] := by
 have h2 := h
 unfold isD at h2
 rw [dg, if_pos (by omega), Nat.mod_eq_of_lt (by omega), byte_of b h]
theorem dg_vn : ∀ (j : Nat) (l : List UInt8), l.length = j → (∀ b ∈ l, isD b) → ∀ c t, l = c :: t → c.toNat ≠ 48 → dg (vn l) = l ∧ 1 ≤ vn l
 | 0, l, hl, _, c, t, h, _ => by rw [h] at hl; simp at hl
 | j + 1, l, hl, hd, c, t, h, hc => by
  have hne : l ≠ [] := by rw [h]; simp
  have hlast := (List.dropLast_concat_getLast hne).symm
  have hb : isD (l.getLast hne) := hd _ (List.getLast_mem hne)
  have hb2 := hb
  unfold isD at hb2
  by_cases c1 : t = []
  ·subst c1
   subst h
   have hcd : isD c := hd c (by simp)
   have hcd2 := hcd
   unfold isD at hcd2
   have e : vn [c] = c.toNat - 48 := by simp [vn]
   rw [e]
   exact ⟨dg_one c hcd, by omega⟩
  ·have hh : ∃ t2, l.dropLast = c :: t2 := by
    rw [h]
    cases t with
    | nil => exact absurd rfl c1
    | cons d t => exact ⟨(d :: t).dropLast, rfl⟩
   obtain ⟨t2, ht2⟩ := hh
   obtain ⟨i1, i2⟩ := dg_vn j l.dropLast (by rw [List.length_dropLast]; omega) (fun b hb => hd b (List.dropLast_subset l hb)) c t2 ht2 hc
   rw [hlast, vn_append]
   refine ⟨?_, by omega⟩
   rw [dg, if_neg (by omega), show (vn l.dropLast * 10 + ((l.getLast hne).toNat - 48)) / 10 = vn l.dropLast from by omega, show 48 + (vn l.dropLast * 10 + ((l.getLast hne).toNat - 48)) % 10 = 48 + ((l.getLast hne).toNat - 48) from by omega, byte_of _ hb, i1]
def fo (l : List UInt8) (n : Int) : Int := l.foldl (fun a b => a * 10 + ((b.toNat : Int) - 48)) n
theorem fo_vn (l : List UInt8) (h : ∀ b ∈ l, isD b) : ∀ n : Nat, fo l n = ((l.foldl (fun a b => a * 10 + (b.toNat - 48)) n : Nat) : Int) := by
 induction l with
 | nil => intro n; rfl
 | cons b l ih =>
  intro n
  have hb := h b (by simp)
  unfold isD at hb
  show fo l ((n : Int) * 10 + ((b.toNat : Int) - 48)) = _
  rw [show ((n : Int) * 10 + ((b.toNat : Int) - 48)) = ((n * 10 + (b.toNat - 48) : Nat) : Int) from by omega]
  exact ih (fun c hc => h c (by simp [hc])) _
instance (b : UInt8) : Decidable (isD b) := inferInstanceAs (Decidable (_ ∧ _))
theorem numGo_is : ∀ (l : List UInt8) (i : Nat) (n : Int), i + l.length ≤ 12 → 0 ≤ n → n < ((10 ^ i : Nat) : Int) → numGo l n = if ∀ b ∈ l, isD b then (fo l n, true) else (0, false)
 | [], i, n, _, _, _ => by rw [if_pos (fun b hb => by simp at hb)]; rfl
 | b :: l, i, n, hi, h0, h1 => by
  rw [List.length_cons] at hi
  have hp : 10 ^ i ≤ 10 ^ 12 := Nat.pow_le_pow_right (by decide) (by omega)
  have hq : (10 ^ 12 : Nat) = 1000000000000 := by decide
  rw [numGo]
  by_cases c : isD b
  ·have c2 := c
   unfold isD at c2
   rw [if_neg (by omega), w64 (x := n * 10) (by omega) (by omega), w64 (by omega) (by omega), numGo_is l (i + 1) _ (by omega) (by omega) (by rw [Nat.pow_succ]; omega)]
   by_cases d : ∀ x ∈ l, isD x
   ·rw [if_pos d, if_pos (fun x hx => by rcases List.mem_cons.1 hx with rfl | hx; exact c; exact d x hx)]
    rfl
   ·rw [if_neg d, if_neg (fun z => d fun x hx => z x (by simp [hx]))]
  ·have c2 := c
   unfold isD at c2
   rw [if_pos (by omega), if_neg (fun z => c (z b (by simp)))]
/-- What digits without noughts ahead say. -/
def numP (s : ByteArray) : Int × Bool := if s.size = 0 ∨ 10 < s.size ∨ (1 < s.size ∧ bt s 0 = 48) then (0, false) else numGo s.data.toList 0
theorem numP_dg (n : Nat) (h : n ≤ 2147483647) : numP (tby (dg n)) = ((n : Int), true) := by
 obtain ⟨h1, h2⟩ := dg_dig n
 have hl := dg_len 9 n (by omega)
 unfold numP
 rw [tby_size, if_neg]
 ·rw [tby_data, numGo_is _ 0 0 (by omega) (by omega) (by decide), if_pos h1]
  have e := fo_vn (dg n) h1 0
  have e2 : ((dg n).foldl (fun a b => a * 10 + (b.toNat - 48)) 0) = n := h2
  rw [e2] at e
  exact congrArg (·, true) e
 ·rintro (h3 | h3 | ⟨h3, h4⟩)
  ·omega
  ·omega
  ·by_cases c : n < 10
   ·rw [dg, if_pos c] at h3; simp at h3
   ·obtain ⟨x, t, e1, e2⟩ := dg_head n (by omega)
    have e3 := tbt (tby (dg n)) 0 (by rw [tby_data]; omega)
    have e4 : ((tby (dg n)).data.toList)[0]'(by rw [tby_data]; omega) = x := by
     have : (tby (dg n)).data.toList = x :: t := by rw [tby_data, e1]
     simp only [this, List.getElem_cons_zero]
    rw [e4] at e3
    have h4' : bt (tby (dg n)) ((0 : Nat) : Int) = 48 := h4
    omega
theorem numP_of (s : ByteArray) (h : (numP s).2 = true) : 0 ≤ (numP s).1 ∧ s.data.toList = dg (numP s).1.toNat := by
 have hz := data_length s
 unfold numP at h ⊢
 by_cases c : s.size = 0 ∨ 10 < s.size ∨ (1 < s.size ∧ bt s 0 = 48)
 ·rw [if_pos c] at h; cases h
 ·rw [if_neg c] at h ⊢
  rw [numGo_is _ 0 0 (by omega) (by omega) (by decide)] at h ⊢
  by_cases d : ∀ b ∈ s.data.toList, isD b
  ·rw [if_pos d]
   have e := fo_vn s.data.toList d 0
   have e2 : fo s.data.toList 0 = ((vn s.data.toList : Nat) : Int) := e
   show 0 ≤ fo s.data.toList 0 ∧ s.data.toList = dg (fo s.data.toList 0).toNat
   rw [e2, Int.toNat_natCast]
   refine ⟨by omega, ?_⟩
   cases hs : s.data.toList with
   | nil => rw [hs] at hz; simp at hz; omega
   | cons x t =>
    by_cases q : t = []
    ·subst q
     have hx := d x (by rw [hs]; simp)
     rw [show vn [x] = x.toNat - 48 from by simp [vn]]
     exact (dg_one x hx).symm
    ·have hlen : 1 < s.size := by
      rw [← hz, hs, List.length_cons]
      have := List.length_pos_iff.2 q
      omega
     have e3 := tbt s 0 (by omega)
     have e4 : (s.data.toList)[0]'(by omega) = x := by simp only [hs, List.getElem_cons_zero]
     rw [e4] at e3
     have hx48 : x.toNat ≠ 48 := fun z => c (.inr (.inr ⟨hlen, by rw [show bt s 0 = bt s ((0 : Nat) : Int) from rfl, e3, z]; rfl⟩))
     have r := dg_vn _ (x :: t) rfl (by rw [hs] at d; exact d) x t rfl hx48
     exact r.1.symm
  ·rw [if_neg d] at h; cases h
/-- A digit's number. -/
def vh (c : UInt8) : Option Nat := if 48 ≤ c.toNat ∧ c.toNat ≤ 57 then some (c.toNat - 48) else if 97 ≤ c.toNat ∧ c.toNat ≤ 102 then some (c.toNat - 87) else none
theorem vh_hd (d : Nat) (h : d < 16) : vh (UInt8.ofNat (hd d)) = some d := by
 have hl := hd_lt d h
 unfold vh
 rw [toNat_ofNat _ (by omega)]
 unfold hd
 by_cases c : d < 10
 ·rw [if_pos c, if_pos (by omega)]; congr 1; omega
 ·rw [if_neg c, if_neg (by omega), if_pos (by omega)]; congr 1; omega
theorem vh_of (c : UInt8) (d : Nat) (h : vh c = some d) : d < 16 ∧ UInt8.ofNat (hd d) = c := by
 unfold vh at h
 have key : ∀ n : Nat, n = c.toNat → UInt8.ofNat n = c := fun n hn => by rw [hn]; exact UInt8.ofNat_toNat
 by_cases c1 : 48 ≤ c.toNat ∧ c.toNat ≤ 57
 ·rw [if_pos c1] at h
  have h := Option.some.inj h
  refine ⟨by omega, key _ ?_⟩
  unfold hd
  rw [if_pos (by omega)]
  omega
 ·rw [if_neg c1] at h
  by_cases c2 : 97 ≤ c.toNat ∧ c.toNat ≤ 102
  ·rw [if_pos c2] at h
   have h := Option.some.inj h
   refine ⟨by omega, key _ ?_⟩
   unfold hd
   rw [if_neg (by omega)]
   omega
  ·rw [if_neg c2] at h; cases h
def vhP (c : UInt8) : Int × Bool := match vh c with | some d => ((d : Int), true) | none => (0, false)
theorem w32s {x : Int} (h0 : -2147483648 ≤ x) (h1 : x ≤ 2147483647) : wrap32 x = x := by unfold wrap32; omega
theorem value_ev (c : UInt8) : Ev (fun k => trace_value.f k (c.toNat : Int)) (vhP c) := by
 have hb : c.toNat < 256 := c.toNat_lt
 have yes : 48 ≤ c.toNat ∧ c.toNat ≤ 57 → Ev (fun k => trace_value.j0 k (c.toNat : Int) true) (vhP c) := fun h => Ev.step (f := fun _ => some (vhP c)) (fun k => by
  rw [trace_value.j0, if_pos (rfl : true = true), w32s (by omega) (by omega)]
  unfold vhP vh
  rw [if_pos h]
  congr 2
  show _ = ((c.toNat - 48 : Nat) : Int)
  omega) (Ev.now _)
 have nope : ¬ (48 ≤ c.toNat ∧ c.toNat ≤ 57) → Ev (fun k => trace_value.j0 k (c.toNat : Int) false) (vhP c) := fun h => Ev.step (f := fun _ => some (vhP c)) (fun k => by
  rw [trace_value.j0, if_neg Bool.false_ne_true]
  unfold vhP vh
  rw [if_neg h]
  by_cases c2 : 97 ≤ c.toNat ∧ c.toNat ≤ 102
  ·rw [if_pos (by omega), if_pos (by omega), if_pos c2, w32s (by omega) (by omega)]
   congr 2
   show _ = ((c.toNat - 87 : Nat) : Int)
   omega
  ·rw [if_neg c2]
   by_cases c3 : (c.toNat : Int) ≥ 97
   ·rw [if_pos c3, if_neg (by omega)]
   ·rw [if_neg c3]) (Ev.now _)
 unfold trace_value.f
 by_cases c1 : (c.toNat : Int) ≥ 48
 ·refine Ev.pos c1 ?_
  by_cases c2 : (c.toNat : Int) ≤ 57
  ·rw [decide_eq_true c2]; exact yes (by omega)
  ·rw [decide_eq_false c2]; exact nope (by omega)
 ·exact Ev.neg c1 (nope (by omega))
/-- The bytes of digits, by twos. -/
def unL : List UInt8 → Option (List UInt8)
 | a :: b :: l => match vh a, vh b with
  | some x, some y => (unL l).map fun u => UInt8.ofNat (x * 16 + y) :: u
  | _, _ => none
 | _ => some []
def unR (o : List Int) (r : Option (List UInt8)) : List Int × Bool := match r with | some u => (o ++ u.map fun b => (b.toNat : Int), true) | none => ([], false)
theorem unGo_ev : ∀ (j : Nat) (l : List UInt8) (h : Int) (o : List Int), l.length = 2 * j → 0 ≤ h → h ≤ 15 → Ev (fun k => unGo k l h false o) (unR o (unL l))
 | 0, l, h, o, hl, _, _ => by
  have e : l = [] := List.eq_nil_of_length_eq_zero (by omega)
  subst e
  refine Ev.end fun k => ?_
  rw [unGo]
  simp [unR, unL]
 | j + 1, l, h, o, hl, h0, h1 => by
  match l, hl with
  | a :: b :: l, hl =>
   simp only [List.length_cons] at hl
   refine Ev.congr (fun k => by rw [unGo]) ?_
   refine Ev.bind (value_ev a) ?_
   unfold vhP
   cases ha : vh a with
   | none =>
    have e : unL (a :: b :: l) = none := by rw [unL, ha]
    rw [e]
    exact Ev.neg Bool.false_ne_true (Ev.now _)
   | some x =>
    obtain ⟨hx, _⟩ := vh_of a x ha
    refine Ev.pos rfl (Ev.pos ⟨by show 0 ≤ (x : Int); omega, by show (x : Int) ≤ 15; omega, h0, h1⟩ (Ev.neg Bool.false_ne_true ?_))
    refine Ev.congr (fun k => by rw [unGo]) ?_
    refine Ev.bind (value_ev b) ?_
    unfold vhP
    cases hb : vh b with
    | none =>
     have e : unL (a :: b :: l) = none := by rw [unL, ha, hb]
     rw [e]
     exact Ev.neg Bool.false_ne_true (Ev.now _)
    | some y =>
     obtain ⟨hy, _⟩ := vh_of b y hb
     refine Ev.pos rfl (Ev.pos ⟨by show 0 ≤ (y : Int); omega, by show (y : Int) ≤ 15; omega, by show 0 ≤ (x : Int); omega, by show (x : Int) ≤ 15; omega⟩ (Ev.pos rfl ?_))
     have r := unGo_ev j l (x : Int) (o ++ [(x : Int) * 16 + (y : Int)]) (by omega) (by omega) (by omega)
     refine Ev.to r ?_
     have e : unL (a :: b :: l) = (unL l).map fun u => UInt8.ofNat (x * 16 + y) :: u := by rw [unL, ha, hb]
     rw [e]
     cases unL l with
     | none => rfl
     | some u =>
      unfold unR
      simp only [Option.map_some, List.map_cons]
      rw [toNat_ofNat _ (by omega), List.append_assoc]
      congr 1
theorem unL_hx (l : List UInt8) : unL (hx l) = some l := by
 induction l with
 | nil => rfl
 | cons b l ih =>
  have hb : b.toNat < 256 := b.toNat_lt
  rw [hx_cons, unL, vh_hd _ (by omega), vh_hd _ (by omega)]
  simp only [ih, Option.map_some]
  rw [show b.toNat / 16 * 16 + b.toNat % 16 = b.toNat from by omega, UInt8.ofNat_toNat]
theorem hx_unL : ∀ (j : Nat) (l u : List UInt8), l.length = 2 * j → unL l = some u → hx u = l
 | 0, l, u, hl, h => by
  have e : l = [] := List.eq_nil_of_length_eq_zero (by omega)
  subst e
  obtain rfl : [] = u := Option.some.inj h
  rfl
 | j + 1, l, u, hl, h => by
  match l, hl with
  | a :: b :: l, hl =>
   simp only [List.length_cons] at hl
   rw [unL] at h
   cases ha : vh a with
   | none => rw [ha] at h; cases h
   | some x =>
    cases hb : vh b with
    | none => rw [ha, hb] at h; cases h
    | some y =>
     rw [ha, hb] at h
     obtain ⟨hx1, hx2⟩ := vh_of a x ha
     obtain ⟨hy1, hy2⟩ := vh_of b y hb
     simp only at h
     cases hu : unL l with
     | none => rw [hu] at h; cases h
     | some v =>
      rw [hu] at h
      obtain rfl : UInt8.ofNat (x * 16 + y) :: v = u := Option.some.inj h
      rw [hx_cons, toNat_ofNat _ (by omega), hx_unL j l v (by omega) hu, show (x * 16 + y) / 16 = x from by omega, show (x * 16 + y) % 16 = y from by omega, hx2, hy2]
/-- The bytes of x and digits. -/
def unP (l : List UInt8) : ByteArray × Bool := match l with
 | c :: t => if c = 120 ∧ t.length % 2 = 0 then (match unL t with | some u => (tby u, true) | none => (tby [], false)) else (tby [], false)
 | [] => (tby [], false)
theorem unP_hex (s : ByteArray) : unP (hexL s.data.toList) = (s, true) := by
 unfold unP hexL
 simp only
 rw [if_pos (by simp [hx_len]), unL_hx]
 simp only [tby_self]
theorem unP_of (l : List UInt8) (h : (unP l).2 = true) : l = hexL (unP l).1.data.toList := by
 match l, h with
 | [], h => cases h
 | c :: t, h =>
  unfold unP at h ⊢
  simp only at h ⊢
  by_cases d : c = 120 ∧ t.length % 2 = 0
  ·rw [if_pos d] at h ⊢
   cases hu : unL t with
   | none => rw [hu] at h; cases h
   | some u =>
    simp only [tby_data]
    unfold hexL
    rw [hx_unL (t.length / 2) t u (by omega) hu, d.1]
  ·rw [if_neg d] at h; cases h
theorem ex1 (c : UInt8) (t : List UInt8) : (tby (c :: t)).extract 1 (tby (c :: t)).size = tby t := by
 apply ByteArray.ext
 rw [ByteArray.data_extract]
 apply Array.ext'
 rw [Array.toList_extract]
 simp [tby, List.extract, ByteArray.size]
theorem ex0 (c : UInt8) (t : List UInt8) : ((tby (c :: t)).extract 0 1).toList = [c] := by
 rw [ByteArray.toList_eq, ByteArray.data_extract, Array.toList_extract]
 simp [tby, List.extract]
theorem cutx (l : List UInt8) (h : l.length ≤ 1000000) : strings_CutPrefix.f (tby l) (⟨#[120]⟩ : ByteArray) = some (match l with | c :: t => if c = 120 then (tby t, true) else (tby l, false) | [] => (tby l, false)) := by
 have s1 : (⟨#[120]⟩ : ByteArray).size = 1 := rfl
 have l1 : (⟨#[120]⟩ : ByteArray).toList = [120] := by decide +kernel
 unfold strings_CutPrefix.f stringslite_CutPrefix.f stringslite_HasPrefix.f
 rw [s1, l1, tby_size]
 match l, h with
 | [], _ => rfl
 | c :: t, h =>
  simp only [List.length_cons]
  rw [if_pos (by omega), if_pos (by omega), if_pos (by omega)]
  rw [show ((1 : Nat) : Int).toNat = 1 from rfl, ex0]
  simp only [Option.bind_some]
  by_cases d : c = 120
  ·rw [if_pos (by rw [d]; rfl), if_pos (by omega), if_pos (by omega), if_pos d]
   have := ex1 c t
   rw [tby_size, List.length_cons] at this
   rw [this]
   rfl
  ·rw [if_neg (by simp [d]), if_neg d]
   rfl
theorem unhex_ev (l : List UInt8) (h : l.length ≤ 1000000) : Ev (fun k => trace_unhex.f k (tby l)) (unP l) := by
 unfold trace_unhex.f
 refine Ev.call (cutx l h) ?_
 match l, h with
 | [], _ => exact Ev.neg (fun z => by cases z.1) (Ev.now _)
 | c :: t, h =>
  rw [List.length_cons] at h
  unfold unP
  simp only
  by_cases d : c = 120
  ·rw [if_pos d]
   simp only
   by_cases e : t.length % 2 = 0
   ·rw [if_pos ⟨d, e⟩]
    refine Ev.pos (by refine ⟨by trivial, ?_⟩; rw [tby_size]; exact e) (Ev.pos (by rw [tby_size]; omega) ?_)
    have r := unGo_ev (t.length / 2) t 0 [] (by omega) (by omega) (by omega)
    obtain ⟨n, hn⟩ := r
    refine ⟨n, fun k hk => ?_⟩
    simp only [tby_data]
    rw [show unGo k t 0 false [] = _ from hn k hk]
    unfold unR
    cases unL t with
    | none => rfl
    | some u =>
     simp only [Option.map_some, List.nil_append]
     rw [tby_nums, List.map_map]
     congr 3
     conv => rhs; rw [← List.map_id u]
     apply List.map_congr_left
     intro b _
     simp
   ·rw [if_neg (fun z => e z.2)]
    exact Ev.neg (fun z => e (by have := z.2; rw [tby_size] at this; exact this)) (Ev.now _)
  ·rw [if_neg d, if_neg (fun z => d z.1)]
   exact Ev.neg (fun z => by cases z.1) (Ev.now _)
theorem kindGo_of (s : ByteArray) : ∀ (l : List ByteArray) (i : Int), kindGo s l i = 0 ∨ ∃ j : Nat, j < l.length ∧ kindGo s l i = i + j + 1 ∧ l.getD j ByteArray.empty = s
 | [], i => .inl rfl
 | x :: l, i => by
  rw [kindGo]
  by_cases c : x = s
  ·rw [if_pos c]
   exact .inr ⟨0, by simp, by omega, by simpa using c⟩
  ·rw [if_neg c]
   rcases kindGo_of s l (i + 1) with h | ⟨j, h1, h2, h3⟩
   ·exact .inl h
   ·exact .inr ⟨j + 1, by rw [List.length_cons]; omega, by rw [h2]; omega, by simpa using h3⟩
def kindP (s : ByteArray) : Int := kindGo s wordsL 0
theorem kindP_of (s : ByteArray) (h : 1 ≤ kindP s) : s.data.toList = wordK (kindP s) := by
 unfold kindP at h ⊢
 rcases kindGo_of s wordsL 0 with e | ⟨j, h1, h2, h3⟩
 ·omega
 ·rw [h2]
  unfold wordK
  rw [show ((0 : Int) + j + 1 - 1).toNat = j from by omega, h3]
theorem kinds_all : ∀ i : Nat, i < 18 → kindGo (wordsL.getD i ByteArray.empty) wordsL 0 = (i : Int) + 1 := by decide +kernel
theorem kindP_word (k : Int) (h0 : 1 ≤ k) (h1 : k ≤ 18) : kindP (tby (wordK k)) = k := by
 unfold kindP wordK
 rw [tby_self, kinds_all (k - 1).toNat (by omega)]
 omega
theorem sq_join (c : UInt8) : ∀ (l acc : List UInt8), [c].intercalate (spl c acc l) = acc ++ l ∧ spl c acc l ≠ []
 | [], acc => by simp [spl, List.intercalate]
 | b :: l, acc => by
  rw [spl]
  by_cases h : b = c
  ·rw [if_pos h]
   obtain ⟨h1, h2⟩ := sq_join c l []
   refine ⟨?_, by simp⟩
   cases hs : spl c [] l with
   | nil => exact absurd hs h2
   | cons x t =>
    rw [hs] at h1
    have e : [c].intercalate (acc :: x :: t) = acc ++ c :: [c].intercalate (x :: t) := by simp [List.intercalate]
    rw [e, h1, h]
    rfl
  ·rw [if_neg h]
   obtain ⟨h1, h2⟩ := sq_join c l (acc ++ [b])
   exact ⟨by rw [h1]; simp, h2⟩
theorem sq_no (c : UInt8) : ∀ (l acc : List UInt8), c ∉ l → spl c acc l = [acc ++ l]
 | [], acc, _ => by simp [spl]
 | b :: l, acc, h => by
  rw [spl, if_neg (fun z => h (by simp [z])), sq_no c l _ (fun z => h (by simp [z]))]
  simp
theorem sq_at (c : UInt8) : ∀ (a b acc : List UInt8), c ∉ a → spl c acc (a ++ c :: b) = (acc ++ a) :: spl c [] b
 | [], b, acc, _ => by rw [List.nil_append, spl, if_pos rfl]; simp
 | x :: a, b, acc, h => by
  rw [List.cons_append, spl, if_neg (fun z => h (by simp [z])), sq_at c a b _ (fun z => h (by simp [z]))]
  simp
theorem sq_len (c : UInt8) : ∀ (l acc : List UInt8), (spl c acc l).length ≤ l.length + 1
 | [], acc => by simp [spl]
 | b :: l, acc => by
  rw [spl]
  split
  ·have := sq_len c l []; simp only [List.length_cons]; omega
  ·have := sq_len c l (acc ++ [b]); simp only [List.length_cons]; omega
theorem sq_mem (c : UInt8) : ∀ (l acc : List UInt8), ∀ x ∈ spl c acc l, x.length ≤ acc.length + l.length
 | [], acc, x, hx => by simp [spl] at hx; subst hx; simp
 | b :: l, acc, x, hx => by
  rw [spl] at hx
  simp only [List.length_cons]
  split at hx
  ·rcases List.mem_cons.1 hx with rfl | hx
   ·omega
   ·have := sq_mem c l [] x hx; simp only [List.length_nil] at this; omega
  ·have := sq_mem c l _ x hx; simp only [List.length_append, List.length_cons, List.length_nil] at this; omega
theorem four_spl (x y z u : List UInt8) (hx : 32 ∉ x) (hy : 32 ∉ y) (hz : 32 ∉ z) (hu : 32 ∉ u) : spl 32 [] (four x y z u) = [x, y, z, u] := by
 unfold four
 rw [sq_at 32 x _ [] hx, sq_at 32 y _ [] hy, sq_at 32 z _ [] hz, sq_no 32 u [] hu]
 simp
theorem spl_four (l x y z u : List UInt8) (h : spl 32 [] l = [x, y, z, u]) : l = four x y z u := by
 have e := (sq_join 32 l []).1
 rw [h, List.nil_append] at e
 rw [← e]
 simp [List.intercalate, four]
/-- The bytes of a call's text are none of the ones below 33 but the blank. -/
theorem hx_hi (l : List UInt8) : ∀ b ∈ hx l, 48 ≤ b.toNat := by
 rw [← hxn_map]
 intro b hb
 obtain ⟨n, hn, rfl⟩ := List.mem_map.1 hb
 have h1 := hxn_lt l n hn
 rw [toNat_ofNat _ (by omega)]
 clear hb h1
 induction l with
 | nil => simp [hxn] at hn
 | cons b l ih =>
  rw [hxn_cons] at hn
  have q : ∀ d, 48 ≤ hd d := fun d => by unfold hd; split <;> omega
  rcases List.mem_cons.1 hn with rfl | hn
  ·exact q _
  ·rcases List.mem_cons.1 hn with rfl | hn
   ·exact q _
   ·exact ih hn
theorem hexL_hi (l : List UInt8) : ∀ b ∈ hexL l, 48 ≤ b.toNat := by
 intro b hb
 rcases List.mem_cons.1 hb with rfl | hb
 ·decide
 ·exact hx_hi l b hb
theorem dec_hi (n : Int) (h : 0 ≤ n) : ∀ b ∈ dec n, 48 ≤ b.toNat := by
 unfold dec
 rw [if_neg (by omega)]
 intro b hb
 have := (dg_dig n.toNat).1 b hb
 unfold isD at this
 omega
theorem words_hi : ∀ x ∈ wordsL, ∀ b ∈ x.data.toList, 48 ≤ b.toNat := by decide +kernel
theorem wordK_hi (k : Int) : ∀ b ∈ wordK k, 48 ≤ b.toNat := by
 unfold wordK
 rw [List.getD_eq_getElem?_getD]
 cases h : wordsL[(k - 1).toNat]? with
 | none => intro b hb; simp at hb
 | some x => exact words_hi x (List.mem_of_getElem? h)
theorem not_in (l : List UInt8) (h : ∀ b ∈ l, 48 ≤ b.toNat) (c : UInt8) (hc : c.toNat < 48) : c ∉ l := fun z => by have := h c z; omega
theorem callT_spl (k a n : Int) (s : ByteArray) (h : rightB k a n s = true) : spl 32 [] (callT k a n s) = [wordK k, dec a, dec n, hexL s.data.toList] := by
 have h := of_decide_eq_true h
 exact four_spl _ _ _ _ (not_in _ (wordK_hi k) 32 (by decide)) (not_in _ (dec_hi a (by omega)) 32 (by decide)) (not_in _ (dec_hi n (by omega)) 32 (by decide)) (not_in _ (hexL_hi _) 32 (by decide))
abbrev errL : Int × Int × Int × ByteArray × Int := (0, 0, 0, (⟨#[]⟩ : ByteArray), 20)
/-- The call that a text tells. -/
def prs (l : List UInt8) : Int × Int × Int × ByteArray × Int := match spl 32 [] l with
 | [w, a, b, h] => if (numP (tby a)).2 = true ∧ (numP (tby b)).2 = true ∧ (unP h).2 = true ∧ rightB (kindP (tby w)) (numP (tby a)).1 (numP (tby b)).1 (unP h).1 = true then (kindP (tby w), (numP (tby a)).1, (numP (tby b)).1, (unP h).1, 0) else errL
 | _ => errL
theorem prs_no (l : List UInt8) (h : (spl 32 [] l).length ≠ 4) : prs l = errL := by
 unfold prs
 split
 ·rename_i e; rw [e] at h; exact absurd rfl h
 ·rfl
theorem prs_four (l w a b h : List UInt8) (e : spl 32 [] l = [w, a, b, h]) : prs l = if (numP (tby a)).2 = true ∧ (numP (tby b)).2 = true ∧ (unP h).2 = true ∧ rightB (kindP (tby w)) (numP (tby a)).1 (numP (tby b)).1 (unP h).1 = true then (kindP (tby w), (numP (tby a)).1, (numP (tby b)).1, (unP h).1, 0) else errL := by
 unfold prs
 rw [e]
theorem spl_of4 (l : List UInt8) (h : (spl 32 [] l).length = 4) : ∃ w a b u, spl 32 [] l = [w, a, b, u] := by
 match spl 32 [] l, h with
 | [w, a, b, u], _ => exact ⟨w, a, b, u, rfl⟩
theorem prs_ok (l : List UInt8) (h : (prs l).2.2.2.2 = 0) : rightB (prs l).1 (prs l).2.1 (prs l).2.2.1 (prs l).2.2.2.1 = true ∧ callT (prs l).1 (prs l).2.1 (prs l).2.2.1 (prs l).2.2.2.1 = l := by
 by_cases c : (spl 32 [] l).length = 4
 ·obtain ⟨w, a, b, u, e⟩ := spl_of4 l c
  rw [prs_four l w a b u e] at h ⊢
  by_cases d : (numP (tby a)).2 = true ∧ (numP (tby b)).2 = true ∧ (unP u).2 = true ∧ rightB (kindP (tby w)) (numP (tby a)).1 (numP (tby b)).1 (unP u).1 = true
  ·rw [if_pos d]
   obtain ⟨d1, d2, d3, d4⟩ := d
   refine ⟨d4, ?_⟩
   have r := of_decide_eq_true d4
   obtain ⟨a0, a1⟩ := numP_of (tby a) d1
   obtain ⟨b0, b1⟩ := numP_of (tby b) d2
   have u1 := unP_of u d3
   have w1 := kindP_of (tby w) r.1
   show four (wordK (kindP (tby w))) (dec (numP (tby a)).1) (dec (numP (tby b)).1) (hexL (unP u).1.data.toList) = l
   rw [spl_four l w a b u e, ← w1, ← u1]
   unfold dec
   rw [if_neg (by omega), if_neg (by omega), ← a1, ← b1]
   rfl
  ·rw [if_neg d] at h; exact absurd h (by decide)
 ·rw [prs_no l c] at h; exact absurd h (by decide)
theorem prs_err (l : List UInt8) (h : (prs l).2.2.2.2 ≠ 0) : prs l = errL := by
 by_cases c : (spl 32 [] l).length = 4
 ·obtain ⟨w, a, b, u, e⟩ := spl_of4 l c
  rw [prs_four l w a b u e] at h ⊢
  by_cases d : (numP (tby a)).2 = true ∧ (numP (tby b)).2 = true ∧ (unP u).2 = true ∧ rightB (kindP (tby w)) (numP (tby a)).1 (numP (tby b)).1 (unP u).1 = true
  ·rw [if_pos d] at h; exact absurd rfl h
  ·rw [if_neg d]
 ·exact prs_no l c
theorem prs_call (k a n : Int) (s : ByteArray) (h : rightB k a n s = true) : prs (callT k a n s) = (k, a, n, s, 0) := by
 rw [prs_four _ _ _ _ _ (callT_spl k a n s h)]
 have r := of_decide_eq_true h
 have e : ∀ x : Int, 0 ≤ x → x ≤ 2147483647 → numP (tby (dec x)) = (x, true) := fun x h0 h1 => by
  unfold dec
  rw [if_neg (by omega), numP_dg _ (by omega)]
  congr 1
  omega
 rw [e a (by omega) (by omega), e n (by omega) (by omega), unP_hex, kindP_word k (by omega) (by omega)]
 rw [if_pos ⟨rfl, rfl, rfl, h⟩]
theorem Parse_ev (l : List UInt8) (hl : l.length ≤ 100000) : Ev (fun k => trace_Parse.f k (tby l)) (prs l) := by
 have e0 : strings_Split.f (tby l) (⟨#[32]⟩ : ByteArray) = some ((spl 32 [] l).map tby) := by
  unfold strings_Split.f
  rw [if_pos (by rw [tby_size]; omega)]
  rfl
 unfold trace_Parse.f
 refine Ev.call e0 ?_
 by_cases c : (spl 32 [] l).length = 4
 ·obtain ⟨w, a, b, u, e⟩ := spl_of4 l c
  have hu := sq_mem 32 l [] u (by rw [e]; simp)
  rw [prs_four l w a b u e, e]
  simp only [List.map_cons, List.map_nil]
  refine Ev.pos (by rfl) (Ev.pos (by simp) (Ev.call (show trace_number.f _ = some (numP (tby a)) from rfl) (Ev.pos (by simp) (Ev.call (show trace_number.f _ = some (numP (tby b)) from rfl) (Ev.pos (by simp) (Ev.bind (unhex_ev u (by simp only [List.length_nil] at hu; omega)) (Ev.pos (by simp) (Ev.call (show trace_kind.f _ = some (kindP (tby w)) from rfl) ?_))))))))
  have no : ∀ p : Prop, [Decidable p] → ¬ p → Ev (fun _ : Nat => some errL) (if p then (kindP (tby w), (numP (tby a)).1, (numP (tby b)).1, (unP u).1, (0 : Int)) else errL) := fun p _ h => by rw [if_neg h]; exact Ev.now _
  by_cases c1 : (numP (tby a)).2 = true
  ·refine Ev.pos c1 ?_
   by_cases c2 : (numP (tby b)).2 = true
   ·refine Ev.pos c2 ?_
    by_cases c3 : (unP u).2 = true
    ·refine Ev.pos c3 (Ev.call (Right_is _ _ _ _) ?_)
     by_cases c4 : rightB (kindP (tby w)) (numP (tby a)).1 (numP (tby b)).1 (unP u).1 = true
     ·exact Ev.to (Ev.pos c4 (Ev.now _)) (if_pos ⟨c1, c2, c3, c4⟩).symm
     ·exact Ev.neg c4 (no _ (fun z => c4 z.2.2.2))
    ·exact Ev.neg c3 (no _ (fun z => c3 z.2.2.1))
   ·exact Ev.neg c2 (no _ (fun z => c2 z.2.1))
  ·exact Ev.neg c1 (no _ (fun z => c1 z.1))
 ·rw [prs_no l c]
  exact Ev.neg (by rw [List.length_map]; omega) (Ev.now _)
end Go.Proofs.YtednfgphhelkjaaDoor.P
