/- The state of bytes: what the reference's reader takes. -/
import Derived.Test.YtnndanfghlnpfaaPx21
import Derived.Test.YtnndanfghlnpfaaPx22
import Derived.Test.YtnndanfghlnpfaaPx23
import Derived.Test.YtnndanfghlnpfaaPackRd
namespace Go.Proofs.Ytnndanfghlnpfaa.P
open Go.RowKit Go.Proofs.YtnndanfghlnpfaaW.PrintWords Go.Proofs.YtnndanfghlnpfaaW.PrintLast
/-- The reference's function tells what was taken, and where it goes on; or the error stands, whatever else. -/
def Tells {α : Type} (s : ByteArray) (v : Except Int (α × Int)) (F : Nat → Option (ByteArray × Int × Int × α)) : Prop :=
 match v with
 | .ok a => Ev F (s, a.2, 0, a.1)
 | .error c => c ≠ 0 ∧ ∃ q a, Ev F (s, q, c, a)
theorem ref_num_no (s : ByteArray) (p e : Int) (m : Int) (he : e ≠ 0) : Ev (fun k => sr28num.f k s p e m) (s, p, e, 0) := by
 unfold sr28num.f
 exact Ev.neg he (Ev.now _)
theorem ref_num_2 (s : ByteArray) (p : Int) (A : At s p) : Tells s (vNum 2 s p) (fun k => sr28num.f k s p 0 2) := by
 have a1 := A.lo
 have a2 := A.hi
 have a3 := A.big
 have h32 := ref_Get32_ev s p (by omega)
 have h16 := ref_Get16_ev s p (by omega)
 unfold vNum
 by_cases c : (s.size : Int) - p < ((2 : Nat) : Int)
 ·rw [if_pos c]
  rw [show getN s p 2 = (0, false) from if_neg (by omega)] at h16
  refine ⟨by decide, p, 0, ?_⟩
  unfold sr28num.f
  exact Ev.pos rfl (Ev.bind h32 (Ev.pos rfl (Ev.bind h16 (Ev.neg Bool.false_ne_true (Ev.now _)))))
 ·rw [if_neg c]
  rw [show getN s p 2 = (le (bytesAt s p 2), true) from if_pos (by omega)] at h16
  show Ev _ (s, p + ((2 : Nat) : Int), (0 : Int), le (bytesAt s p 2))
  unfold sr28num.f
  refine Ev.pos rfl (Ev.bind h32 (Ev.pos rfl (Ev.bind h16 (Ev.pos rfl ?_))))
  rw [w64 (x := p + 2) (by omega) (by omega)]
  exact Ev.now _
theorem ref_num_4 (s : ByteArray) (p : Int) (A : At s p) : Tells s (vNum 4 s p) (fun k => sr28num.f k s p 0 4) := by
 have a1 := A.lo
 have a2 := A.hi
 have a3 := A.big
 have h32 := ref_Get32_ev s p (by omega)
 unfold vNum
 by_cases c : (s.size : Int) - p < ((4 : Nat) : Int)
 ·rw [if_pos c]
  rw [show getN s p 4 = (0, false) from if_neg (by omega)] at h32
  refine ⟨by decide, p, 0, ?_⟩
  unfold sr28num.f
  exact Ev.pos rfl (Ev.bind h32 (Ev.neg (by decide) (Ev.neg Bool.false_ne_true (Ev.now _))))
 ·rw [if_neg c]
  rw [show getN s p 4 = (le (bytesAt s p 4), true) from if_pos (by omega)] at h32
  show Ev _ (s, p + ((4 : Nat) : Int), (0 : Int), le (bytesAt s p 4))
  unfold sr28num.f
  refine Ev.pos rfl (Ev.bind h32 (Ev.neg (by decide) (Ev.pos rfl ?_)))
  rw [w64 (x := p + 4) (by omega) (by omega)]
  exact Ev.now _
theorem ref_read_no (s : ByteArray) (p e : Int) (he : e ≠ 0) : Ev (fun k => sr28read.f k s p e) (s, p, e, (⟨#[]⟩ : ByteArray)) := by
 unfold sr28read.f
 exact Ev.bind (ref_num_no s p e 4 he) (Ev.neg he (Ev.now _))
theorem ref_read_ev (s : ByteArray) (p : Int) (A : At s p) : Tells s (vText s p) (fun k => sr28read.f k s p 0) := by
 have hn := ref_num_4 s p A
 unfold vText
 cases h : vNum 4 s p with
 | error c =>
  rw [h] at hn
  obtain ⟨hc, q, a, e⟩ := hn
  refine ⟨hc, q, ⟨#[]⟩, ?_⟩
  unfold sr28read.f
  exact Ev.bind e (Ev.neg hc (Ev.now _))
 | ok x =>
  obtain ⟨n, q⟩ := x
  have k := vNum_ok A (by omega) h
  have a1 := k.1.lo
  have a2 := k.1.hi
  have a3 := k.1.big
  rw [h] at hn
  replace hn : Ev (fun k => sr28num.f k s p 0 4) (s, q, 0, n) := hn
  by_cases c : (s.size : Int) - q < n
  ·show Tells s (if (s.size : Int) - q < n then Except.error (18 : Int) else _) _
   rw [if_pos c]
   refine ⟨by decide, q, ⟨#[]⟩, ?_⟩
   unfold sr28read.f
   refine Ev.bind hn (Ev.pos rfl (Ev.pos ?_ (Ev.now _)))
   show n > wrap64 ((s.size : Int) - q)
   rw [w64 (x := (s.size : Int) - q) (by omega) (by omega)]
   exact c
  ·show Tells s (if (s.size : Int) - q < n then Except.error (18 : Int) else Except.ok (s.extract q.toNat (q + n).toNat, q + n)) _
   rw [if_neg c]
   show Ev _ (s, q + n, (0 : Int), s.extract q.toNat (q + n).toNat)
   unfold sr28read.f
   refine Ev.bind hn (Ev.pos rfl ?_)
   have n0 := k.2.1
   have n1 := k.2.2.1
   show Ev (fun _ => if n > wrap64 ((s.size : Int) - q) then _ else if 0 ≤ q then if q ≤ wrap64 (q + n) then if wrap64 (q + n) ≤ (s.size : Int) then some (s, wrap64 (q + n), (0 : Int), s.extract q.toNat (wrap64 (q + n)).toNat) else none else none else none) _
   rw [w64 (x := (s.size : Int) - q) (by omega) (by omega), w64 (x := q + n) (by omega) (by omega)]
   exact Ev.neg (by omega) (Ev.pos a1 (Ev.pos (by omega) (Ev.pos (by omega) (Ev.now _))))
theorem list_stop (s : ByteArray) (out : List Ed) (n i p e : Int) (he : e ≠ 0) : Ev (fun k => sr28list.l0 k out n i s p e) (s, p, e, out) := by
 have no : Ev (fun k => sr28list.j1 k out n i false s p e) (s, p, e, out) := Ev.step (f := fun _ => some _) (fun k => by rw [sr28list.j1, if_neg Bool.false_ne_true]) (Ev.now _)
 have he2 : (e == 0) = false := beq_eq_false_iff_ne.2 he
 by_cases c : i < n
 ·exact Ev.step (fun k => by rw [sr28list.l0, if_pos c, he2]) no
 ·exact Ev.step (fun k => by rw [sr28list.l0, if_neg c]) no
theorem ref_list_l (s : ByteArray) (n : Nat) (hn : n ≤ 65536) : ∀ (m i : Nat) (out : List Ed) (p : Int), i + m = n → out.length = i → At s p → Tells s (vEd1 s m p out) (fun k => sr28list.l0 k out (n : Int) (i : Int) s p 0)
 | 0, i, out, p, hd, ho, A => by
  rw [vEd1]
  show Ev _ (s, p, (0 : Int), out)
  exact Ev.step (fun k => by rw [sr28list.l0, if_neg (by omega)]) (Ev.step (f := fun _ => some _) (fun k => by rw [sr28list.j1, if_neg Bool.false_ne_true]) (Ev.now _))
 | m + 1, i, out, p, hd, ho, A => by
  have start : ∀ {r}, Ev (fun k => sr28list.j1 k out (n : Int) (i : Int) true s p 0) r → Ev (fun k => sr28list.l0 k out (n : Int) (i : Int) s p 0) r := fun e => Ev.step (fun k => by rw [sr28list.l0, if_pos (by omega)]; rfl) e
  have hlen : out.length < 3518437208883 := by omega
  have hw : wrap64 ((i : Int) + 1) = ((i + 1 : Nat) : Int) := w64 (x := (i : Int) + 1) (by omega) (by omega)
  have h1 := ref_num_4 s p A
  rw [vEd1]
  cases e1 : vNum 4 s p with
  | error c =>
   rw [e1] at h1
   obtain ⟨hc, q, a, h1⟩ := h1
   refine ⟨hc, q, out ++ [⟨a, ⟨#[]⟩, ⟨#[]⟩⟩], start (Ev.step (fun k => by rw [sr28list.j1, if_pos rfl]) (Ev.bind h1 (Ev.bind (ref_read_no s q c hc) (Ev.bind (ref_read_no s q c hc) (Ev.pos hlen ?_)))))⟩
   exact list_stop s _ _ _ q c hc
  | ok x =>
   obtain ⟨a, qa⟩ := x
   have k1 := vNum_ok A (by omega) e1
   rw [e1] at h1
   replace h1 : Ev (fun k => sr28num.f k s p 0 4) (s, qa, 0, a) := h1
   have h2 := ref_read_ev s qa k1.1
   show Tells s (eb (vText s qa) fun b => eb (vText s b.2) fun c => vEd1 s m c.2 (out ++ [⟨a, b.1, c.1⟩])) _
   cases e2 : vText s qa with
   | error c =>
    rw [e2] at h2
    obtain ⟨hc, q, b, h2⟩ := h2
    refine ⟨hc, q, out ++ [⟨a, b, ⟨#[]⟩⟩], start (Ev.step (fun k => by rw [sr28list.j1, if_pos rfl]) (Ev.bind h1 (Ev.bind h2 (Ev.bind (ref_read_no s q c hc) (Ev.pos hlen ?_)))))⟩
    exact list_stop s _ _ _ q c hc
   | ok y =>
    obtain ⟨b, qb⟩ := y
    have k2 := vText_ok k1.1 e2
    rw [e2] at h2
    replace h2 : Ev (fun k => sr28read.f k s qa 0) (s, qb, 0, b) := h2
    have h3 := ref_read_ev s qb k2.1
    show Tells s (eb (vText s qb) fun c => vEd1 s m c.2 (out ++ [⟨a, b, c.1⟩])) _
    cases e3 : vText s qb with
    | error c =>
     rw [e3] at h3
     obtain ⟨hc, q, d, h3⟩ := h3
     refine ⟨hc, q, out ++ [⟨a, b, d⟩], start (Ev.step (fun k => by rw [sr28list.j1, if_pos rfl]) (Ev.bind h1 (Ev.bind h2 (Ev.bind h3 (Ev.pos hlen ?_)))))⟩
     exact list_stop s _ _ _ q c hc
    | ok z =>
     obtain ⟨d, qd⟩ := z
     have k3 := vText_ok k2.1 e3
     rw [e3] at h3
     replace h3 : Ev (fun k => sr28read.f k s qb 0) (s, qd, 0, d) := h3
     have rest := ref_list_l s n hn m (i + 1) (out ++ [⟨a, b, d⟩]) qd (by omega) (by simp; omega) k3.1
     show Tells s (vEd1 s m qd (out ++ [⟨a, b, d⟩])) _
     have go : ∀ {r}, Ev (fun k => sr28list.l0 k (out ++ [⟨a, b, d⟩]) (n : Int) ((i + 1 : Nat) : Int) s qd 0) r → Ev (fun k => sr28list.l0 k out (n : Int) (i : Int) s p 0) r := fun e => by
      rw [← hw] at e
      exact start (Ev.step (fun k => by rw [sr28list.j1, if_pos rfl]) (Ev.bind h1 (Ev.bind h2 (Ev.bind h3 (Ev.pos hlen e)))))
     cases e4 : vEd1 s m qd (out ++ [⟨a, b, d⟩]) with
     | error c =>
      rw [e4] at rest
      obtain ⟨hc, q, l, rest⟩ := rest
      exact ⟨hc, q, l, go rest⟩
     | ok r =>
      rw [e4] at rest
      exact go rest
theorem ref_list_no (s : ByteArray) (p e : Int) (he : e ≠ 0) : Ev (fun k => sr28list.f k s p e) (s, p, e, ([] : List Ed)) := by
 unfold sr28list.f
 exact Ev.bind (ref_num_no s p e 2 he) (list_stop s [] 0 0 p e he)
theorem ref_list_ev (s : ByteArray) (p : Int) (A : At s p) : Tells s (vEd s p) (fun k => sr28list.f k s p 0) := by
 have h1 := ref_num_2 s p A
 unfold vEd
 cases e1 : vNum 2 s p with
 | error c =>
  rw [e1] at h1
  obtain ⟨hc, q, a, h1⟩ := h1
  refine ⟨hc, q, [], ?_⟩
  unfold sr28list.f
  exact Ev.bind h1 (list_stop s [] _ _ q c hc)
 | ok x =>
  obtain ⟨n, q⟩ := x
  have k := vNum_ok A (by omega) e1
  rw [e1] at h1
  replace h1 : Ev (fun k => sr28num.f k s p 0 2) (s, q, 0, n) := h1
  obtain ⟨m, rfl⟩ : ∃ m : Nat, n = (m : Int) := ⟨n.toNat, by have := k.2.1; omega⟩
  have rest := ref_list_l s m (by have := k.2.2.2.1 rfl; omega) m 0 [] q (by omega) rfl k.1
  show Tells s (vEd1 s (m : Int).toNat q []) _
  rw [Int.toNat_natCast]
  unfold sr28list.f
  cases e4 : vEd1 s m q [] with
  | error c =>
   rw [e4] at rest
   obtain ⟨hc, q, l, rest⟩ := rest
   exact ⟨hc, q, l, Ev.bind h1 rest⟩
  | ok r =>
   rw [e4] at rest
   exact Ev.bind h1 rest
theorem stack_stop (s : ByteArray) (out : List Stp) (n i p e : Int) (he : e ≠ 0) : Ev (fun k => sr28stack.l0 k out n i s p e) (s, p, e, out) := by
 by_cases c : i < n
 ·exact Ev.step (f := fun _ => some _) (fun k => by rw [sr28stack.l0, if_pos c, if_neg he]) (Ev.now _)
 ·exact Ev.step (f := fun _ => some _) (fun k => by rw [sr28stack.l0, if_neg c]) (Ev.now _)
theorem ref_stack_l (s : ByteArray) (n : Nat) (hn : n ≤ 65536) : ∀ (m i : Nat) (out : List Stp) (p : Int), i + m = n → out.length = i → At s p → Tells s (vSt1 s m p out) (fun k => sr28stack.l0 k out (n : Int) (i : Int) s p 0)
 | 0, i, out, p, hd, ho, A => by
  rw [vSt1]
  show Ev _ (s, p, (0 : Int), out)
  exact Ev.step (f := fun _ => some _) (fun k => by rw [sr28stack.l0, if_neg (by omega)]) (Ev.now _)
 | m + 1, i, out, p, hd, ho, A => by
  have hlen : out.length < 5864062014805 := by omega
  have hw : wrap64 ((i : Int) + 1) = ((i + 1 : Nat) : Int) := w64 (x := (i : Int) + 1) (by omega) (by omega)
  have h1 := ref_list_ev s p A
  rw [vSt1]
  cases e1 : vEd s p with
  | error c =>
   rw [e1] at h1
   obtain ⟨hc, q, a, h1⟩ := h1
   refine ⟨hc, q, out ++ [⟨a⟩], Ev.step (fun k => by rw [sr28stack.l0, if_pos (by omega), if_pos rfl]) (Ev.bind h1 (Ev.pos hlen ?_))⟩
   exact stack_stop s _ _ _ q c hc
  | ok x =>
   obtain ⟨a, qa⟩ := x
   have k1 := vEd_ok A e1
   rw [e1] at h1
   replace h1 : Ev (fun k => sr28list.f k s p 0) (s, qa, 0, a) := h1
   have rest := ref_stack_l s n hn m (i + 1) (out ++ [⟨a⟩]) qa (by omega) (by simp; omega) k1.1
   show Tells s (vSt1 s m qa (out ++ [⟨a⟩])) _
   have go : ∀ {r}, Ev (fun k => sr28stack.l0 k (out ++ [⟨a⟩]) (n : Int) ((i + 1 : Nat) : Int) s qa 0) r → Ev (fun k => sr28stack.l0 k out (n : Int) (i : Int) s p 0) r := fun e => by
    rw [← hw] at e
    exact Ev.step (fun k => by rw [sr28stack.l0, if_pos (by omega), if_pos rfl]) (Ev.bind h1 (Ev.pos hlen e))
   cases e4 : vSt1 s m qa (out ++ [⟨a⟩]) with
   | error c =>
    rw [e4] at rest
    obtain ⟨hc, q, l, rest⟩ := rest
    exact ⟨hc, q, l, go rest⟩
   | ok r =>
    rw [e4] at rest
    exact go rest
theorem ref_stack_no (s : ByteArray) (p e : Int) (he : e ≠ 0) : Ev (fun k => sr28stack.f k s p e) (s, p, e, ([] : List Stp)) := by
 unfold sr28stack.f
 exact Ev.bind (ref_num_no s p e 2 he) (stack_stop s [] 0 0 p e he)
theorem ref_stack_ev (s : ByteArray) (p : Int) (A : At s p) : Tells s (vSt s p) (fun k => sr28stack.f k s p 0) := by
 have h1 := ref_num_2 s p A
 unfold vSt
 cases e1 : vNum 2 s p with
 | error c =>
  rw [e1] at h1
  obtain ⟨hc, q, a, h1⟩ := h1
  refine ⟨hc, q, [], ?_⟩
  unfold sr28stack.f
  exact Ev.bind h1 (stack_stop s [] _ _ q c hc)
 | ok x =>
  obtain ⟨n, q⟩ := x
  have k := vNum_ok A (by omega) e1
  rw [e1] at h1
  replace h1 : Ev (fun k => sr28num.f k s p 0 2) (s, q, 0, n) := h1
  obtain ⟨m, rfl⟩ : ∃ m : Nat, n = (m : Int) := ⟨n.toNat, by have := k.2.1; omega⟩
  have rest := ref_stack_l s m (by have := k.2.2.2.1 rfl; omega) m 0 [] q (by omega) rfl k.1
  show Tells s (vSt1 s (m : Int).toNat q []) _
  rw [Int.toNat_natCast]
  unfold sr28stack.f
  cases e4 : vSt1 s m q [] with
  | error c =>
   rw [e4] at rest
   obtain ⟨hc, q, l, rest⟩ := rest
   exact ⟨hc, q, l, Ev.bind h1 rest⟩
  | ok r =>
   rw [e4] at rest
   exact Ev.bind h1 rest
/-- What the reference reads: as readV says. -/
abbrev Rd := ByteArray × List Mk × List Stp × List Stp × Bool × List Ed × Int
def endV (v : Except Int St) : Rd :=
 match v with
 | .error c => (⟨#[]⟩, [], [], [], false, [], c)
 | .ok x => if rightB x.1 x.2.1 x.2.2.1 x.2.2.2.1 x.2.2.2.2.1 x.2.2.2.2.2 = true then (x.1, x.2.1, x.2.2.1, x.2.2.2.1, x.2.2.2.2.1, x.2.2.2.2.2, 0) else (⟨#[]⟩, [], [], [], false, [], 5)
theorem read_j6_no (s t : ByteArray) (m : List Mk) (u r : List Stp) (o : Bool) (p e : Int) (he : e ≠ 0) : Ev (fun k => sr28Read.j6 k s t m u r o s p e) (endV (.error e)) :=
 Ev.step (fun k => by rw [sr28Read.j6]) (Ev.bind (ref_list_no s p e he) (Ev.neg he (Ev.now _)))
theorem read_j2_no (s t : ByteArray) (m : List Mk) (u r : List Stp) (o : Bool) (p e : Int) (he : e ≠ 0) : Ev (fun k => sr28Read.j2 k s false t m u r o s p e) (endV (.error e)) :=
 Ev.step (fun k => by rw [sr28Read.j2, if_neg Bool.false_ne_true]) (Ev.step (fun k => by rw [sr28Read.j3, if_neg he]) (Ev.step (fun k => by rw [sr28Read.j4, if_neg Bool.false_ne_true]) (Ev.step (fun k => by rw [sr28Read.j5, if_neg he]) (read_j6_no s t m u r o p e he))))
theorem read_j1_no (s t : ByteArray) (m : List Mk) (n i p e : Int) (he : e ≠ 0) : Ev (fun k => sr28Read.j1 k s n i false t m false s p e) (endV (.error e)) :=
 Ev.step (fun k => by rw [sr28Read.j1, if_neg Bool.false_ne_true]) (Ev.bind (ref_stack_no s p e he) (Ev.bind (ref_stack_no s p e he) (Ev.neg he (read_j2_no s t m [] [] false p e he))))
theorem read_l0_no (s t : ByteArray) (m : List Mk) (n i p e : Int) (he : e ≠ 0) : Ev (fun k => sr28Read.l0 k s n i t m false s p e) (endV (.error e)) := by
 have he2 : (e == 0) = false := beq_eq_false_iff_ne.2 he
 by_cases c : i < n
 ·exact Ev.step (fun k => by rw [sr28Read.l0, if_pos c, he2]) (read_j1_no s t m n i p e he)
 ·exact Ev.step (fun k => by rw [sr28Read.l0, if_neg c]) (read_j1_no s t m n i p e he)
theorem read_rest (s t : ByteArray) (m : List Mk) (n i p : Int) (A : At s p) (hF : ∀ u r o g, vRest s t (m, p) = .ok (t, m, u, r, o, g) → Few25 t m u r g ∧ ∀ x ∈ m, x.f0.size ≤ 140737488351232) :
  Ev (fun k => sr28Read.j1 k s n i false t m false s p 0) (endV (vRest s t (m, p))) := by
 refine Ev.step (fun k => by rw [sr28Read.j1, if_neg Bool.false_ne_true]) ?_
 have h1 := ref_stack_ev s p A
 unfold vRest at hF ⊢
 cases e1 : vSt s p with
 | error c =>
  rw [e1] at h1
  obtain ⟨hc, q, a, h1⟩ := h1
  exact Ev.bind h1 (Ev.bind (ref_stack_no s q c hc) (Ev.neg hc (read_j2_no s t m a [] false q c hc)))
 | ok x =>
  obtain ⟨u, q1⟩ := x
  have k1 := vSt_ok A e1
  rw [e1] at h1 hF
  replace h1 : Ev (fun k => sr28stack.f k s p 0) (s, q1, 0, u) := h1
  refine Ev.bind h1 ?_
  have h2 := ref_stack_ev s q1 k1.1
  show Ev _ (endV (eb (vSt s q1) fun r => eb (vFlag s r.2) fun f => eb (vEd s f.2) fun e => if e.2 < (s.size : Int) then .error 6 else .ok (t, m, u, r.1, f.1, e.1)))
  replace hF : ∀ u' r o g, (eb (vSt s q1) fun r => eb (vFlag s r.2) fun f => eb (vEd s f.2) fun e => if e.2 < (s.size : Int) then (Except.error (6 : Int) : Except Int St) else .ok (t, m, u, r.1, f.1, e.1)) = .ok (t, m, u', r, o, g) → _ := hF
  cases e2 : vSt s q1 with
  | error c =>
   rw [e2] at h2
   obtain ⟨hc, q, a, h2⟩ := h2
   exact Ev.bind h2 (Ev.neg hc (read_j2_no s t m u a false q c hc))
  | ok y =>
   obtain ⟨r, q2⟩ := y
   have k2 := vSt_ok k1.1 e2
   have lo := k2.1.lo
   have hi := k2.1.hi
   have bg := k2.1.big
   rw [e2] at h2 hF
   replace h2 : Ev (fun k => sr28stack.f k s q1 0) (s, q2, 0, r) := h2
   refine Ev.bind h2 (Ev.pos rfl ?_)
   show Ev _ (endV (eb (vFlag s q2) fun f => eb (vEd s f.2) fun e => if e.2 < (s.size : Int) then .error 6 else .ok (t, m, u, r, f.1, e.1)))
   replace hF : ∀ u' r' o g, (eb (vFlag s q2) fun f => eb (vEd s f.2) fun e => if e.2 < (s.size : Int) then (Except.error (6 : Int) : Except Int St) else .ok (t, m, u, r, f.1, e.1)) = .ok (t, m, u', r', o, g) → _ := hF
   unfold vFlag at hF ⊢
   by_cases c1 : (s.size : Int) - q2 < 1
   ·rw [if_pos c1]
    have hq : (q2 == (s.size : Int)) = true := beq_iff_eq.2 (by omega)
    show Ev (fun k => sr28Read.j2 k s (q2 == (s.size : Int)) t m u r false s q2 0) _
    rw [hq]
    refine Ev.step (fun k => by rw [sr28Read.j2, if_pos rfl]) (Ev.step (fun k => by rw [sr28Read.j3, if_neg (by decide)]) (Ev.step (fun k => by rw [sr28Read.j4, if_neg Bool.false_ne_true]) (Ev.step (fun k => by rw [sr28Read.j5, if_neg (by decide)]) ?_)))
    exact read_j6_no s t m u r false q2 18 (by decide)
   ·rw [if_neg c1] at hF ⊢
    have hq : (q2 == (s.size : Int)) = false := beq_eq_false_iff_ne.2 (by omega)
    show Ev (fun k => sr28Read.j2 k s (q2 == (s.size : Int)) t m u r false s q2 0) _
    rw [hq]
    refine Ev.step (fun k => by rw [sr28Read.j2, if_neg Bool.false_ne_true]) (Ev.step (fun k => by rw [sr28Read.j3, if_pos rfl, if_pos lo, if_pos (by omega)]) ?_)
    by_cases c2 : 1 < bt s q2
    ·rw [if_pos c2, show decide (bt s q2 > 1) = true from decide_eq_true c2]
     refine Ev.step (fun k => by rw [sr28Read.j4, if_pos rfl]) (Ev.step (fun k => by rw [sr28Read.j5, if_neg (by decide)]) ?_)
     exact read_j6_no s t m u r false q2 5 (by decide)
    ·rw [if_neg c2] at hF ⊢
     rw [show decide (bt s q2 > 1) = false from decide_eq_false c2]
     refine Ev.step (fun k => by rw [sr28Read.j4, if_neg Bool.false_ne_true]) (Ev.step (fun k => by rw [sr28Read.j5, if_pos rfl, if_pos lo, if_pos (by omega), w64 (x := q2 + 1) (by omega) (by omega)]) ?_)
     have h3 := ref_list_ev s (q2 + 1) ⟨by omega, by omega, bg⟩
     refine Ev.step (fun k => by rw [sr28Read.j6]) ?_
     show Ev _ (endV (eb (vEd s (q2 + 1)) fun e => if e.2 < (s.size : Int) then .error 6 else .ok (t, m, u, r, bt s q2 == 1, e.1)))
     replace hF : ∀ u' r' o g, (eb (vEd s (q2 + 1)) fun e => if e.2 < (s.size : Int) then (Except.error (6 : Int) : Except Int St) else .ok (t, m, u, r, bt s q2 == 1, e.1)) = .ok (t, m, u', r', o, g) → _ := hF
     cases e3 : vEd s (q2 + 1) with
     | error c =>
      rw [e3] at h3
      obtain ⟨hc, q, a, h3⟩ := h3
      exact Ev.bind h3 (Ev.neg hc (Ev.now _))
     | ok z =>
      obtain ⟨g, q3⟩ := z
      rw [e3] at h3 hF
      replace h3 : Ev (fun k => sr28list.f k s (q2 + 1) 0) (s, q3, 0, g) := h3
      refine Ev.bind h3 (Ev.pos rfl ?_)
      show Ev _ (endV (if q3 < (s.size : Int) then .error 6 else .ok (t, m, u, r, bt s q2 == 1, g)))
      replace hF : ∀ u' r' o g', (if q3 < (s.size : Int) then (Except.error (6 : Int) : Except Int St) else .ok (t, m, u, r, bt s q2 == 1, g)) = .ok (t, m, u', r', o, g') → _ := hF
      by_cases c3 : q3 < (s.size : Int)
      ·rw [if_pos c3]
       exact Ev.pos c3 (Ev.now _)
      ·rw [if_neg c3] at hF ⊢
       have F := hF _ _ _ _ rfl
       refine Ev.neg c3 (Ev.bind (ref25_Right_ev t m u r (bt s q2 == 1) g F.1 F.2) ?_)
       show Ev _ (if rightB t m u r (bt s q2 == 1) g = true then (t, m, u, r, (bt s q2 == 1), g, (0 : Int)) else ((⟨#[]⟩ : ByteArray), [], [], [], false, [], 5))
       cases rightB t m u r (bt s q2 == 1) g with
       | false => exact Ev.neg Bool.false_ne_true (Ev.now _)
       | true => exact Ev.pos rfl (Ev.now _)
theorem ref_marks_l (s t : ByteArray) (n : Nat) (hn : n ≤ 65536) : ∀ (d i : Nat) (out : List Mk) (p : Int), i + d = n → out.length = i → At s p → (∀ m q u r o g, vMk1 s d p out = .ok (m, q) → vRest s t (m, q) = .ok (t, m, u, r, o, g) → Few25 t m u r g ∧ ∀ x ∈ m, x.f0.size ≤ 140737488351232) →
  Ev (fun k => sr28Read.l0 k s (n : Int) (i : Int) t out false s p 0) (endV (eb (vMk1 s d p out) (vRest s t)))
 | 0, i, out, p, hd, ho, A, hF => by
  rw [vMk1] at hF ⊢
  show Ev _ (endV (vRest s t (out, p)))
  exact Ev.step (fun k => by rw [sr28Read.l0, if_neg (by omega)]) (read_rest s t out _ _ p A fun u r o g h => hF out p u r o g rfl h)
 | d + 1, i, out, p, hd, ho, A, hF => by
  have hlen : out.length < 5864062014805 := by omega
  have hw : wrap64 ((i : Int) + 1) = ((i + 1 : Nat) : Int) := w64 (x := (i : Int) + 1) (by omega) (by omega)
  refine Ev.step (f := fun k => sr28Read.j1 k s (n : Int) (i : Int) true t out false s p 0) (fun k => by rw [sr28Read.l0, if_pos (by omega)]; rfl) ?_
  refine Ev.step (fun k => by rw [sr28Read.j1, if_pos rfl]) ?_
  have h1 := ref_read_ev s p A
  rw [vMk1] at hF ⊢
  cases e1 : vText s p with
  | error c =>
   rw [e1] at h1
   obtain ⟨hc, q, a, h1⟩ := h1
   exact Ev.bind h1 (Ev.bind (ref_num_no s q c 4 hc) (Ev.pos hlen (read_l0_no s t _ _ _ q c hc)))
  | ok x =>
   obtain ⟨a, qa⟩ := x
   have k1 := vText_ok A e1
   rw [e1] at h1 hF
   replace h1 : Ev (fun k => sr28read.f k s p 0) (s, qa, 0, a) := h1
   refine Ev.bind h1 ?_
   have h2 := ref_num_4 s qa k1.1
   show Ev _ (endV (eb (eb (vNum 4 s qa) fun b => vMk1 s d b.2 (out ++ [⟨a, b.1⟩])) (vRest s t)))
   replace hF : ∀ m q u r o g, (eb (vNum 4 s qa) fun b => vMk1 s d b.2 (out ++ [⟨a, b.1⟩])) = .ok (m, q) → _ := hF
   cases e2 : vNum 4 s qa with
   | error c =>
    rw [e2] at h2
    obtain ⟨hc, q, b, h2⟩ := h2
    exact Ev.bind h2 (Ev.pos hlen (read_l0_no s t _ _ _ q c hc))
   | ok y =>
    obtain ⟨b, qb⟩ := y
    have k2 := vNum_ok k1.1 (by omega) e2
    rw [e2] at h2 hF
    replace h2 : Ev (fun k => sr28num.f k s qa 0 4) (s, qb, 0, b) := h2
    refine Ev.bind h2 (Ev.pos hlen ?_)
    rw [hw]
    refine ref_marks_l s t n hn d (i + 1) (out ++ [(⟨a, b⟩ : Mk)]) qb (by omega) (by simp; omega) k2.1 (fun m' q' u r o g h => ?_)
    exact hF m' q' u r o g h
theorem ref_Read_ev (s : ByteArray) (hs : s.size ≤ 3000) : Ev (fun k => sr28Read.f k s) (readV s) := by
 have A : At s 0 := ⟨by omega, by omega, by omega⟩
 show Ev _ (endV (vState s))
 have hF := fun t m u r o g (h : vState s = .ok (t, m, u, r, o, g)) => vState_few hs h
 unfold sr28Read.f
 have h1 := ref_read_ev s 0 A
 unfold vState at hF ⊢
 cases e1 : vText s 0 with
 | error c =>
  rw [e1] at h1
  obtain ⟨hc, q, a, h1⟩ := h1
  exact Ev.bind h1 (Ev.bind (ref_num_no s q c 2 hc) (read_l0_no s a [] _ _ q c hc))
 | ok x =>
  obtain ⟨t, qa⟩ := x
  have k1 := vText_ok A e1
  rw [e1] at h1 hF
  replace h1 : Ev (fun k => sr28read.f k s 0 0) (s, qa, 0, t) := h1
  refine Ev.bind h1 ?_
  have h2 := ref_num_2 s qa k1.1
  show Ev _ (endV (eb (vNum 2 s qa) fun n => eb (vMk1 s n.1.toNat n.2 []) (vRest s t)))
  replace hF : ∀ t' m u r o g, (eb (vNum 2 s qa) fun n => eb (vMk1 s n.1.toNat n.2 []) (vRest s t)) = .ok (t', m, u, r, o, g) → _ := hF
  cases e2 : vNum 2 s qa with
  | error c =>
   rw [e2] at h2
   obtain ⟨hc, q, b, h2⟩ := h2
   exact Ev.bind h2 (read_l0_no s t [] _ _ q c hc)
  | ok y =>
   obtain ⟨n, q⟩ := y
   have k := vNum_ok k1.1 (by omega) e2
   rw [e2] at h2 hF
   replace h2 : Ev (fun k => sr28num.f k s qa 0 2) (s, q, 0, n) := h2
   obtain ⟨m, rfl⟩ : ∃ m : Nat, n = (m : Int) := ⟨n.toNat, by have := k.2.1; omega⟩
   refine Ev.bind h2 ?_
   show Ev _ (endV (eb (vMk1 s (m : Int).toNat q []) (vRest s t)))
   replace hF : ∀ t' m' u r o g, (eb (vMk1 s (m : Int).toNat q []) (vRest s t)) = .ok (t', m', u, r, o, g) → _ := hF
   rw [Int.toNat_natCast] at hF ⊢
   refine ref_marks_l s t m (by have := k.2.2.2.1 rfl; omega) m 0 [] q (by omega) rfl k.1 fun ms q' u r o g h3 h4 => ?_
   rw [h3] at hF
   exact hF t ms u r o g h4
end Go.Proofs.Ytnndanfghlnpfaa.P
