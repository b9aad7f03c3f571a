/- The state of bytes: what the program's reader takes. -/
import Derived.Test.YtnndanfghlnpfaaPx10
import Derived.Test.YtnndanfghlnpfaaPx11
import Derived.Test.YtnndanfghlnpfaaPackTh
import Derived.Test.YtnndanfghlnpfaaCat
namespace Go.Proofs.Ytnndanfghlnpfaa.P
open Go.RowKit Go.Proofs.YtnndanfghlnpfaaW.PrintWords Go.Proofs.YtnndanfghlnpfaaW.PrintLast
def eb {α β : Type} (x : Except Int α) (f : α → Except Int β) : Except Int β := match x with | .error c => .error c | .ok a => f a
def vNum (m : Nat) (s : ByteArray) (p : Int) : Except Int (Int × Int) := if (s.size : Int) - p < (m : Int) then .error 18 else .ok (le (bytesAt s p m), p + (m : Int))
def vText (s : ByteArray) (p : Int) : Except Int (ByteArray × Int) := eb (vNum 4 s p) fun n => if (s.size : Int) - n.2 < n.1 then .error 18 else .ok (s.extract n.2.toNat (n.2 + n.1).toNat, n.2 + n.1)
def vEd1 (s : ByteArray) : Nat → Int → List Ed → Except Int (List Ed × Int)
 | 0, p, out => .ok (out, p)
 | m + 1, p, out => eb (vNum 4 s p) fun a => eb (vText s a.2) fun b => eb (vText s b.2) fun c => vEd1 s m c.2 (out ++ [⟨a.1, b.1, c.1⟩])
def vEd (s : ByteArray) (p : Int) : Except Int (List Ed × Int) := eb (vNum 2 s p) fun n => vEd1 s n.1.toNat n.2 []
def vSt1 (s : ByteArray) : Nat → Int → List Stp → Except Int (List Stp × Int)
 | 0, p, out => .ok (out, p)
 | m + 1, p, out => eb (vEd s p) fun a => vSt1 s m a.2 (out ++ [⟨a.1⟩])
def vSt (s : ByteArray) (p : Int) : Except Int (List Stp × Int) := eb (vNum 2 s p) fun n => vSt1 s n.1.toNat n.2 []
def vFlag (s : ByteArray) (p : Int) : Except Int (Bool × Int) := if (s.size : Int) - p < 1 then .error 18 else if 1 < bt s p then .error 5 else .ok (bt s p == 1, p + 1)
def vMk1 (s : ByteArray) : Nat → Int → List Mk → Except Int (List Mk × Int)
 | 0, p, out => .ok (out, p)
 | m + 1, p, out => eb (vText s p) fun a => eb (vNum 4 s a.2) fun b => vMk1 s m b.2 (out ++ [⟨a.1, b.1⟩])
abbrev St := ByteArray × List Mk × List Stp × List Stp × Bool × List Ed
def vRest (s t : ByteArray) (ms : List Mk × Int) : Except Int St :=
 eb (vSt s ms.2) fun u => eb (vSt s u.2) fun r => eb (vFlag s r.2) fun f => eb (vEd s f.2) fun e => if e.2 < (s.size : Int) then .error 6 else .ok (t, ms.1, u.1, r.1, f.1, e.1)
def vState (s : ByteArray) : Except Int St := eb (vText s 0) fun t => eb (vNum 2 s t.2) fun n => eb (vMk1 s n.1.toNat n.2 []) (vRest s t.1)
structure At (s : ByteArray) (p : Int) : Prop where
 lo : 0 ≤ p
 hi : p ≤ (s.size : Int)
 big : (s.size : Int) ≤ 1099511627776
theorem vNum_ok {m : Nat} {s : ByteArray} {p : Int} {n q : Int} (A : At s p) (hm : m ≤ 4) (h : vNum m s p = .ok (n, q)) : At s q ∧ 0 ≤ n ∧ n < 4294967296 ∧ (m = 2 → n < 65536) ∧ q = p + (m : Int) := by
 unfold vNum at h
 split at h
 ·cases h
 ·rename_i c
  injection h with h
  injection h with h1 h2
  have r := le_range _ (bytesAt_bytes s p m)
  rw [bytesAt_length, h1] at r
  have a1 := A.lo
  have a2 := A.hi
  refine ⟨⟨by omega, by omega, A.big⟩, r.1, ?_, fun e => ?_, h2.symm⟩
  ·have : (256 : Nat) ^ m ≤ 256 ^ 4 := Nat.pow_le_pow_right (by decide) hm
   omega
  ·subst e
   omega
theorem vText_ok {s : ByteArray} {p : Int} {b : ByteArray} {q : Int} (A : At s p) (h : vText s p = .ok (b, q)) : At s q ∧ b.size ≤ s.size ∧ q = p + 4 + (b.size : Int) := by
 unfold vText at h
 cases hn : vNum 4 s p with
 | error c => rw [hn] at h; cases h
 | ok x =>
  obtain ⟨n, q1⟩ := x
  rw [hn] at h
  have k := vNum_ok A (by omega) hn
  have h' : (if (s.size : Int) - q1 < n then Except.error (18 : Int) else Except.ok (s.extract q1.toNat (q1 + n).toNat, q1 + n)) = Except.ok (b, q) := h
  split at h'
  ·cases h'
  ·rename_i c
   injection h' with h'
   injection h' with h1 h2
   have a1 := k.1.lo
   have a2 := k.1.hi
   have sz : b.size = n.toNat := by rw [← h1, ByteArray.size_extract]; omega
   exact ⟨⟨by omega, by omega, A.big⟩, by omega, by omega⟩
theorem vEd1_ok {s : ByteArray} : ∀ (m : Nat) (p : Int) (out l : List Ed) (q : Int), At s p → vEd1 s m p out = .ok (l, q) → At s q ∧ l.length = out.length + m ∧ p + 12 * (m : Int) ≤ q
 | 0, p, out, l, q, A, h => by
  rw [vEd1] at h
  injection h with h
  injection h with h1 h2
  subst h1
  subst h2
  exact ⟨A, by omega, by omega⟩
 | m + 1, p, out, l, q, A, h => by
  rw [vEd1] at h
  cases h1 : vNum 4 s p with
  | error c => rw [h1] at h; cases h
  | ok a =>
   obtain ⟨a, qa⟩ := a
   have k1 := vNum_ok A (by omega) h1
   rw [h1] at h
   replace h : eb (vText s qa) (fun b => eb (vText s b.2) fun c => vEd1 s m c.2 (out ++ [⟨a, b.1, c.1⟩])) = _ := h
   cases h2 : vText s qa with
   | error c => rw [h2] at h; cases h
   | ok b =>
    obtain ⟨b, qb⟩ := b
    have k2 := vText_ok k1.1 h2
    rw [h2] at h
    replace h : eb (vText s qb) (fun c => vEd1 s m c.2 (out ++ [⟨a, b, c.1⟩])) = _ := h
    cases h3 : vText s qb with
    | error c => rw [h3] at h; cases h
    | ok c =>
     obtain ⟨c, qc⟩ := c
     have k3 := vText_ok k2.1 h3
     rw [h3] at h
     replace h : vEd1 s m qc (out ++ [⟨a, b, c⟩]) = _ := h
     have k4 := vEd1_ok m qc _ l q k3.1 h
     rw [List.length_append] at k4
     have l1 : ([⟨a, b, c⟩] : List Ed).length = 1 := rfl
     have e1 := k1.2.2.2.2
     have e2 := k2.2.2
     have e3 := k3.2.2
     exact ⟨k4.1, by omega, by omega⟩
theorem vEd_ok {s : ByteArray} {p : Int} {l : List Ed} {q : Int} (A : At s p) (h : vEd s p = .ok (l, q)) : At s q ∧ p + 2 + 12 * (l.length : Int) ≤ q := by
 unfold vEd at h
 cases hn : vNum 2 s p with
 | error c => rw [hn] at h; cases h
 | ok x =>
  obtain ⟨n, q1⟩ := x
  have k := vNum_ok A (by omega) hn
  rw [hn] at h
  have k2 := vEd1_ok n.toNat q1 [] l q k.1 h
  have e1 := k.2.2.2.2
  have e2 := k2.2.1
  rw [List.length_nil, Nat.zero_add] at e2
  exact ⟨k2.1, by omega⟩
theorem vSt1_ok {s : ByteArray} : ∀ (m : Nat) (p : Int) (out l : List Stp) (q : Int), At s p → (∀ x ∈ out, 12 * x.f0.length ≤ s.size) → vSt1 s m p out = .ok (l, q) → At s q ∧ l.length = out.length + m ∧ p + 2 * (m : Int) ≤ q ∧ ∀ x ∈ l, 12 * x.f0.length ≤ s.size
 | 0, p, out, l, q, A, ho, h => by
  rw [vSt1] at h
  injection h with h
  injection h with h1 h2
  subst h1
  subst h2
  exact ⟨A, by omega, by omega, ho⟩
 | m + 1, p, out, l, q, A, ho, h => by
  rw [vSt1] at h
  cases h1 : vEd s p with
  | error c => rw [h1] at h; cases h
  | ok a =>
   obtain ⟨a, qa⟩ := a
   have k1 := vEd_ok A h1
   rw [h1] at h
   replace h : vSt1 s m qa (out ++ [⟨a⟩]) = _ := h
   have a1 := k1.1.hi
   have a2 := A.lo
   have k2 := k1.2
   have k4 := vSt1_ok m qa _ l q k1.1 (fun x hx => by
    rcases List.mem_append.1 hx with hx | hx
    ·exact ho x hx
    ·rw [List.mem_singleton] at hx
     subst hx
     show 12 * a.length ≤ s.size
     omega) h
   rw [List.length_append] at k4
   have l1 : ([⟨a⟩] : List Stp).length = 1 := rfl
   exact ⟨k4.1, by omega, by omega, k4.2.2.2⟩
theorem vSt_ok {s : ByteArray} {p : Int} {l : List Stp} {q : Int} (A : At s p) (h : vSt s p = .ok (l, q)) : At s q ∧ p + 2 + 2 * (l.length : Int) ≤ q ∧ ∀ x ∈ l, 12 * x.f0.length ≤ s.size := by
 unfold vSt at h
 cases hn : vNum 2 s p with
 | error c => rw [hn] at h; cases h
 | ok x =>
  obtain ⟨n, q1⟩ := x
  have k := vNum_ok A (by omega) hn
  rw [hn] at h
  have k2 := vSt1_ok n.toNat q1 [] l q k.1 (fun x hx => by cases hx) h
  have e1 := k.2.2.2.2
  have e2 := k2.2.1
  rw [List.length_nil, Nat.zero_add] at e2
  exact ⟨k2.1, by omega, k2.2.2.2⟩
theorem vFlag_ok {s : ByteArray} {p : Int} {f : Bool} {q : Int} (A : At s p) (h : vFlag s p = .ok (f, q)) : At s q := by
 unfold vFlag at h
 split at h
 ·cases h
 ·split at h
  ·cases h
  ·rename_i c _
   injection h with h
   injection h with h1 h2
   have a1 := A.lo
   exact ⟨by omega, by omega, A.big⟩
theorem vMk1_ok {s : ByteArray} : ∀ (m : Nat) (p : Int) (out l : List Mk) (q : Int), At s p → (∀ x ∈ out, x.f0.size ≤ s.size) → vMk1 s m p out = .ok (l, q) → At s q ∧ l.length = out.length + m ∧ p + 8 * (m : Int) ≤ q ∧ ∀ x ∈ l, x.f0.size ≤ s.size
 | 0, p, out, l, q, A, ho, h => by
  rw [vMk1] at h
  injection h with h
  injection h with h1 h2
  subst h1
  subst h2
  exact ⟨A, by omega, by omega, ho⟩
 | m + 1, p, out, l, q, A, ho, h => by
  rw [vMk1] at h
  cases h1 : vText s p with
  | error c => rw [h1] at h; cases h
  | ok a =>
   obtain ⟨a, qa⟩ := a
   have k1 := vText_ok A h1
   rw [h1] at h
   replace h : eb (vNum 4 s qa) (fun b => vMk1 s m b.2 (out ++ [⟨a, b.1⟩])) = _ := h
   cases h2 : vNum 4 s qa with
   | error c => rw [h2] at h; cases h
   | ok b =>
    obtain ⟨b, qb⟩ := b
    have k2 := vNum_ok k1.1 (by omega) h2
    rw [h2] at h
    replace h : vMk1 s m qb (out ++ [⟨a, b⟩]) = _ := h
    have k4 := vMk1_ok m qb _ l q k2.1 (fun x hx => by
     rcases List.mem_append.1 hx with hx | hx
     ·exact ho x hx
     ·rw [List.mem_singleton] at hx
      subst hx
      exact k1.2.1) h
    rw [List.length_append] at k4
    have l1 : ([⟨a, b⟩] : List Mk).length = 1 := rfl
    have e1 := k1.2.2
    have e2 := k2.2.2.2.2
    exact ⟨k4.1, by omega, by omega, k4.2.2.2⟩
def Err {α : Type} (x : Except Int α) : Prop := ∀ c, x = .error c → c ≠ 0
theorem Err.eb {α β : Type} {x : Except Int α} {f : α → Except Int β} (h : Err x) (k : ∀ a, Err (f a)) : Err (eb x f) := fun c e => by
 cases x with
 | error d =>
  have e' : (Except.error d : Except Int β) = .error c := e
  injection e' with e'
  exact h c (by rw [e'])
 | ok a => exact k a c e
theorem Err.ok {α : Type} (a : α) : Err (.ok a : Except Int α) := fun c e => by cases e
theorem Err.num (m : Nat) (s : ByteArray) (p : Int) : Err (vNum m s p) := fun c e => by
 unfold vNum at e
 split at e
 ·injection e with e; omega
 ·cases e
theorem Err.text (s : ByteArray) (p : Int) : Err (vText s p) := Err.eb (Err.num 4 s p) fun _ => fun c e => by
 split at e
 ·injection e with e; omega
 ·cases e
theorem Err.ed1 (s : ByteArray) : ∀ m p out, Err (vEd1 s m p out)
 | 0, p, out => by rw [vEd1]; exact Err.ok _
 | m + 1, p, out => by rw [vEd1]; exact Err.eb (Err.num 4 s p) fun a => Err.eb (Err.text s a.2) fun b => Err.eb (Err.text s b.2) fun _ => Err.ed1 s m _ _
theorem Err.ed (s : ByteArray) (p : Int) : Err (vEd s p) := Err.eb (Err.num 2 s p) fun _ => Err.ed1 s _ _ _
theorem Err.st1 (s : ByteArray) : ∀ m p out, Err (vSt1 s m p out)
 | 0, p, out => by rw [vSt1]; exact Err.ok _
 | m + 1, p, out => by rw [vSt1]; exact Err.eb (Err.ed s p) fun _ => Err.st1 s m _ _
theorem Err.st (s : ByteArray) (p : Int) : Err (vSt s p) := Err.eb (Err.num 2 s p) fun _ => Err.st1 s _ _ _
theorem Err.mk1 (s : ByteArray) : ∀ m p out, Err (vMk1 s m p out)
 | 0, p, out => by rw [vMk1]; exact Err.ok _
 | m + 1, p, out => by rw [vMk1]; exact Err.eb (Err.text s p) fun a => Err.eb (Err.num 4 s a.2) fun _ => Err.mk1 s m _ _
theorem Err.flag (s : ByteArray) (p : Int) : Err (vFlag s p) := fun c e => by
 unfold vFlag at e
 split at e
 ·injection e with e; omega
 ·split at e
  ·injection e with e; omega
  ·cases e
theorem Err.last {α : Type} {c : Prop} [Decidable c] (a : α) : Err (if c then (.error 6 : Except Int α) else .ok a) := fun d q => by
 split at q
 ·injection q with q
  omega
 ·cases q
theorem Err.state (s : ByteArray) : Err (vState s) := Err.eb (Err.text s 0) fun t => Err.eb (Err.num 2 s t.2) fun _ => Err.eb (Err.mk1 s _ _ _) fun ms => Err.eb (Err.st s ms.2) fun u => Err.eb (Err.st s u.2) fun r => Err.eb (Err.flag s r.2) fun f => Err.eb (Err.ed s f.2) fun _ => Err.last _
/-- A state that was read of few bytes is held to the numbers. -/
theorem vState_few {s : ByteArray} (hs : s.size ≤ 3000) {t : ByteArray} {m : List Mk} {u r : List Stp} {o : Bool} {g : List Ed} (h : vState s = .ok (t, m, u, r, o, g)) : Few25 t m u r g ∧ ∀ x ∈ m, x.f0.size ≤ 140737488351232 := by
 have A : At s 0 := ⟨by omega, by omega, by omega⟩
 unfold vState at h
 cases h1 : vText s 0 with
 | error c => rw [h1] at h; cases h
 | ok a =>
  obtain ⟨a, qa⟩ := a
  have k1 := vText_ok A h1
  rw [h1] at h
  replace h : eb (vNum 2 s qa) (fun n => eb (vMk1 s n.1.toNat n.2 []) (vRest s a)) = _ := h
  cases h2 : vNum 2 s qa with
  | error c => rw [h2] at h; cases h
  | ok n =>
   obtain ⟨n, qn⟩ := n
   have k2 := vNum_ok k1.1 (by omega) h2
   rw [h2] at h
   replace h : eb (vMk1 s n.toNat qn []) (vRest s a) = _ := h
   cases h3 : vMk1 s n.toNat qn [] with
   | error c => rw [h3] at h; cases h
   | ok ms =>
    obtain ⟨ms, qm⟩ := ms
    have k3 := vMk1_ok n.toNat qn [] ms qm k2.1 (fun x hx => by cases hx) h3
    rw [h3] at h
    replace h : vRest s a (ms, qm) = _ := h
    unfold vRest at h
    cases h4 : vSt s qm with
    | error c => rw [h4] at h; cases h
    | ok us =>
     obtain ⟨us, qu⟩ := us
     have k4 := vSt_ok k3.1 h4
     rw [h4] at h
     replace h : eb (vSt s qu) (fun r => eb (vFlag s r.2) fun f => eb (vEd s f.2) fun e => if e.2 < (s.size : Int) then .error 6 else .ok (a, ms, us, r.1, f.1, e.1)) = _ := h
     cases h5 : vSt s qu with
     | error c => rw [h5] at h; cases h
     | ok rs =>
      obtain ⟨rs, qr⟩ := rs
      have k5 := vSt_ok k4.1 h5
      rw [h5] at h
      replace h : eb (vFlag s qr) (fun f => eb (vEd s f.2) fun e => if e.2 < (s.size : Int) then .error 6 else .ok (a, ms, us, rs, f.1, e.1)) = _ := h
      cases h6 : vFlag s qr with
      | error c => rw [h6] at h; cases h
      | ok f =>
       obtain ⟨f, qf⟩ := f
       have k6 := vFlag_ok k5.1 h6
       rw [h6] at h
       replace h : eb (vEd s qf) (fun e => if e.2 < (s.size : Int) then .error 6 else .ok (a, ms, us, rs, f, e.1)) = _ := h
       cases h7 : vEd s qf with
       | error c => rw [h7] at h; cases h
       | ok es =>
        obtain ⟨es, qe⟩ := es
        have k7 := vEd_ok k6 h7
        rw [h7] at h
        replace h : (if qe < (s.size : Int) then Except.error (6 : Int) else Except.ok (a, ms, us, rs, f, es)) = Except.ok (t, m, u, r, o, g) := h
        split at h
        ·cases h
        ·injection h with h
         simp only [Prod.mk.injEq] at h
         obtain ⟨rfl, rfl, rfl, rfl, rfl, rfl⟩ := h
         have b1 := k3.1.hi
         have b2 := k4.1.hi
         have b3 := k5.1.hi
         have b4 := k7.1.hi
         have c1 := k2.1.lo
         have c2 := k3.1.lo
         have c3 := k4.1.lo
         have c4 := k6.lo
         have e3 := k3.2.1
         have d3 := k3.2.2.1
         have d4 := k4.2.1
         have d5 := k5.2.1
         have d7 := k7.2
         rw [List.length_nil, Nat.zero_add] at e3
         exact ⟨⟨by have := k1.2.1; omega, by omega, by omega, by omega, by omega, fun x hx => by have := k4.2.2 x hx; omega, fun x hx => by have := k5.2.2 x hx; omega⟩, fun x hx => by have := k3.2.2.2 x hx; omega⟩
theorem Ev.pk {α β : Type} {x : Nat → Option (Except Int α)} {f : Nat → α → Option (Except Int β)} {v : Except Int α} {g : α → Except Int β} (hx : Ev x v) (hf : ∀ a, v = .ok a → Ev (fun k => f k a) (g a)) : Ev (fun k => pk_bind (x k) (f k)) (eb v g) := by
 unfold pk_bind
 refine Ev.bind hx ?_
 cases v with
 | error c => exact Ev.now _
 | ok a => exact hf a rfl
theorem pk_take_is {s : ByteArray} {p n : Int} (A : At s p) (h0 : 0 ≤ n) (h1 : n ≤ 1099511627776) : pk_take s p n = some (if (s.size : Int) - p < n then .error 18 else .ok (s.extract p.toNat (p + n).toNat, p + n)) := by
 unfold pk_take
 rw [if_pos ⟨A.lo, A.hi, A.big, h0, h1⟩]
 split <;> rfl
theorem bytes_cut (s : ByteArray) (p : Int) (m : Nat) (h0 : 0 ≤ p) (h1 : p + (m : Int) ≤ s.size) : bytesAt (s.extract p.toNat (p + (m : Int)).toNat) 0 m = bytesAt s p m := by
 unfold bytesAt
 refine List.map_congr_left fun j hj => ?_
 rw [List.mem_range] at hj
 rw [Int.zero_add, cat_piece s p.toNat (p + (m : Int)).toNat j (by omega) (by omega)]
 congr 1
 omega
theorem getN_cut (s : ByteArray) (p : Int) (m : Nat) (h0 : 0 ≤ p) (h1 : p + (m : Int) ≤ s.size) : getN (s.extract p.toNat (p + (m : Int)).toNat) 0 m = (le (bytesAt s p m), true) := by
 unfold getN
 rw [if_pos ⟨by omega, by rw [ByteArray.size_extract]; omega⟩, bytes_cut s p m h0 h1]
theorem pk_place_ev (s : ByteArray) (p : Int) (A : At s p) : Ev (fun k => pk_place k s p) (vNum 4 s p) := by
 unfold pk_place
 rw [pk_take_is A (by omega) (by omega)]
 have a1 := A.lo
 have a3 := A.big
 unfold vNum
 by_cases c : (s.size : Int) - p < ((4 : Nat) : Int)
 ·rw [if_pos (show (s.size : Int) - p < 4 by omega), if_pos c]
  exact Ev.now _
 ·rw [if_neg (show ¬ (s.size : Int) - p < 4 by omega), if_neg c]
  show Ev (fun k => (num_Get32.f k (s.extract p.toNat (p + ((4 : Nat) : Int)).toNat) 0).bind fun n => some (Except.ok (n.1, p + 4))) _
  refine Ev.bind (num_Get32_ev _ 0 (by rw [ByteArray.size_extract]; omega)) ?_
  rw [getN_cut s p 4 a1 (by omega)]
  exact Ev.now _
theorem pk_count_ev (s : ByteArray) (p : Int) (A : At s p) : Ev (fun k => pk_count k s p) (vNum 2 s p) := by
 unfold pk_count
 rw [pk_take_is A (by omega) (by omega)]
 have a1 := A.lo
 have a3 := A.big
 unfold vNum
 by_cases c : (s.size : Int) - p < ((2 : Nat) : Int)
 ·rw [if_pos (show (s.size : Int) - p < 2 by omega), if_pos c]
  exact Ev.now _
 ·rw [if_neg (show ¬ (s.size : Int) - p < 2 by omega), if_neg c]
  show Ev (fun k => (num_Get16.f k (s.extract p.toNat (p + ((2 : Nat) : Int)).toNat) 0).bind fun n => some (Except.ok (n.1, p + 2))) _
  refine Ev.bind (num_Get16_ev _ 0 (by rw [ByteArray.size_extract]; omega)) ?_
  rw [getN_cut s p 2 a1 (by omega)]
  exact Ev.now _
theorem pk_text_ev (s : ByteArray) (p : Int) (A : At s p) : Ev (fun k => pk_text k s p) (vText s p) := by
 unfold pk_text vText
 refine Ev.pk (pk_place_ev s p A) fun n hn => ?_
 have k := vNum_ok A (by omega) hn
 rw [pk_take_is k.1 k.2.1 (by have := k.2.2.1; omega)]
 exact Ev.now _
theorem pk_flag_is (s : ByteArray) (p : Int) (A : At s p) : pk_flag s p = some (vFlag s p) := by
 unfold pk_flag vFlag
 rw [pk_take_is A (by omega) (by omega)]
 have a1 := A.lo
 split
 ·rfl
 ·rename_i c
  have e0 : bt (s.extract p.toNat (p + 1).toNat) 0 = bt s p := by
   have := cat_piece s p.toNat (p + 1).toNat 0 (by omega) (by omega)
   rw [Nat.add_zero] at this
   refine this.trans (congrArg (bt s) ?_)
   omega
  show (if 0 < (s.extract p.toNat (p + 1).toNat).size then (if 1 < bt (s.extract p.toNat (p + 1).toNat) 0 then some (Except.error 5) else some (.ok (bt (s.extract p.toNat (p + 1).toNat) 0 == 1, p + 1))) else none) = _
  rw [if_pos (by rw [ByteArray.size_extract]; omega), e0]
  split <;> rfl
theorem pk_edits1_ev (s : ByteArray) : ∀ (m : Nat) (p : Int) (out : List Ed), At s p → Ev (fun k => pk_edits1 k s m p out) (vEd1 s m p out)
 | 0, p, out, _ => by unfold pk_edits1 vEd1; exact Ev.now _
 | m + 1, p, out, A => by
  unfold pk_edits1 vEd1
  refine Ev.pk (pk_place_ev s p A) fun a ha => Ev.pk (pk_text_ev s _ (vNum_ok A (by omega) ha).1) fun b hb => ?_
  have k2 := vText_ok (vNum_ok A (by omega) ha).1 hb
  exact Ev.pk (pk_text_ev s _ k2.1) fun c hc => pk_edits1_ev s m _ _ (vText_ok k2.1 hc).1
theorem pk_edits_ev (s : ByteArray) (p : Int) (A : At s p) : Ev (fun k => pk_edits k s p) (vEd s p) := by
 unfold pk_edits vEd
 refine Ev.pk (pk_count_ev s p A) fun n hn => ?_
 have k := vNum_ok A (by omega) hn
 exact Ev.pos ⟨k.2.1, by have := k.2.2.2.1 rfl; omega⟩ (pk_edits1_ev s _ _ _ k.1)
theorem pk_steps1_ev (s : ByteArray) : ∀ (m : Nat) (p : Int) (out : List Stp), At s p → Ev (fun k => pk_steps1 k s m p out) (vSt1 s m p out)
 | 0, p, out, _ => by unfold pk_steps1 vSt1; exact Ev.now _
 | m + 1, p, out, A => by
  unfold pk_steps1 vSt1
  exact Ev.pk (pk_edits_ev s p A) fun a ha => pk_steps1_ev s m _ _ (vEd_ok A ha).1
theorem pk_steps_ev (s : ByteArray) (p : Int) (A : At s p) : Ev (fun k => pk_steps k s p) (vSt s p) := by
 unfold pk_steps vSt
 refine Ev.pk (pk_count_ev s p A) fun n hn => ?_
 have k := vNum_ok A (by omega) hn
 exact Ev.pos ⟨k.2.1, by have := k.2.2.2.1 rfl; omega⟩ (pk_steps1_ev s _ _ _ k.1)
theorem pk_marks1_ev (s : ByteArray) : ∀ (m : Nat) (p : Int) (out : List Mk), At s p → Ev (fun k => pk_marks1 k s m p out) (vMk1 s m p out)
 | 0, p, out, _ => by unfold pk_marks1 vMk1; exact Ev.now _
 | m + 1, p, out, A => by
  unfold pk_marks1 vMk1
  refine Ev.pk (pk_text_ev s p A) fun a ha => Ev.pk (pk_place_ev s _ (vText_ok A ha).1) fun b hb => ?_
  exact pk_marks1_ev s m _ _ (vNum_ok (vText_ok A ha).1 (by omega) hb).1
theorem pk_rest_ev (s t : ByteArray) (ms : List Mk × Int) (A : At s ms.2) : Ev (fun k => pk_rest k s t ms) (vRest s t ms) := by
 unfold pk_rest vRest
 refine Ev.pk (pk_steps_ev s _ A) fun u hu => Ev.pk (pk_steps_ev s _ (vSt_ok A hu).1) fun r hr => ?_
 have k2 := (vSt_ok (vSt_ok A hu).1 hr).1
 refine Ev.pk (x := fun _ => pk_flag s r.2) (by rw [pk_flag_is s _ k2]; exact Ev.now _) fun f hf => Ev.pk (pk_edits_ev s _ (vFlag_ok k2 hf)) fun e _ => ?_
 split
 ·exact Ev.now _
 ·exact Ev.now _
theorem pk_state_ev (s : ByteArray) (hs : (s.size : Int) ≤ 1099511627776) : Ev (fun k => pk_state k s) (vState s) := by
 have A : At s 0 := ⟨by omega, by omega, hs⟩
 unfold pk_state vState
 refine Ev.pk (pk_text_ev s 0 A) fun t ht => Ev.pk (pk_count_ev s _ (vText_ok A ht).1) fun n hn => ?_
 have k := vNum_ok (vText_ok A ht).1 (by omega) hn
 refine Ev.pos ⟨k.2.1, by have := k.2.2.2.1 rfl; omega⟩ (Ev.pk (pk_marks1_ev s _ _ _ k.1) fun ms hms => ?_)
 exact pk_rest_ev s _ ms (vMk1_ok _ _ _ _ _ k.1 (fun x hx => by cases hx) hms).1
/-- What is read of bytes. -/
def readV (s : ByteArray) : ByteArray × List Mk × List Stp × List Stp × Bool × List Ed × Int :=
 match vState s with
 | .error c => (⟨#[]⟩, [], [], [], false, [], c)
 | .ok x => if rightB x.1 x.2.1 x.2.2.1 x.2.2.2.1 x.2.2.2.2.1 x.2.2.2.2.2 = true then (x.1, x.2.1, x.2.2.1, x.2.2.2.1, x.2.2.2.2.1, x.2.2.2.2.2, 0) else (⟨#[]⟩, [], [], [], false, [], 5)
theorem pack_Read_ev (s : ByteArray) (hs : (s.size : Int) ≤ 1099511627776) (hF : ∀ t m u r o g, vState s = .ok (t, m, u, r, o, g) → Few25 t m u r g ∧ ∀ x ∈ m, x.f0.size ≤ 140737488351232) : Ev (fun k => pack_Read.f k s) (readV s) := by
 unfold pack_Read.f readV
 refine Ev.bind (pk_state_ev s hs) ?_
 cases h : vState s with
 | error c => exact Ev.now _
 | ok x =>
  obtain ⟨t, m, u, r, o, g⟩ := x
  have F := hF t m u r o g h
  refine Ev.bind (state_Right_ev t m u r o g F.1 F.2) ?_
  show Ev _ (if rightB t m u r o g = true then (t, m, u, r, o, g, (0 : Int)) else ((⟨#[]⟩ : ByteArray), [], [], [], false, [], 5))
  cases rightB t m u r o g with
  | false => exact Ev.neg Bool.false_ne_true (Ev.now _)
  | true => exact Ev.pos rfl (Ev.now _)
end Go.Proofs.Ytnndanfghlnpfaa.P
