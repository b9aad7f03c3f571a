/- What is laid is read; what is read was laid; a beginning of it is too short. -/
import Derived.Test.YtnndanfghlnpfaaPx0
import Derived.Test.YtnndanfghlnpfaaPackRd
namespace Go.Proofs.Ytnndanfghlnpfaa.P
open Go.RowKit Go.Proofs.YtnndanfghlnpfaaW.PrintWords Go.Proofs.YtnndanfghlnpfaaW.PrintLast
/-- x stands in s at p. -/
def Has (s : ByteArray) (p : Nat) (x : ByteArray) : Prop := p + x.size ≤ s.size ∧ ∀ i, i < x.size → bt s ((p + i : Nat) : Int) = bt x (i : Int)
theorem hbt_left (a b : ByteArray) (i : Nat) (h : i < a.size) : bt (a ++ b) (i : Int) = bt a (i : Int) := cat_left a b i h
theorem hbt_right (a b : ByteArray) (i : Nat) (_h : i < b.size) : bt (a ++ b) ((a.size + i : Nat) : Int) = bt b (i : Int) := cat_right a b i
theorem Has.left {s a b : ByteArray} {p : Nat} (h : Has s p (a ++ b)) : Has s p a :=
 ⟨by have := h.1; rw [ByteArray.size_append] at this; omega, fun i hi => (h.2 i (by rw [ByteArray.size_append]; omega)).trans (hbt_left a b i hi)⟩
theorem Has.right {s a b : ByteArray} {p : Nat} (h : Has s p (a ++ b)) : Has s (p + a.size) b :=
 ⟨by have := h.1; rw [ByteArray.size_append] at this; omega, fun i hi => by
  have := h.2 (a.size + i) (by rw [ByteArray.size_append]; omega)
  rw [hbt_right a b i hi, ← Nat.add_assoc] at this
  exact this⟩
theorem Has.join {s a b : ByteArray} {p : Nat} (h : Has s p a) (k : Has s (p + a.size) b) : Has s p (a ++ b) :=
 ⟨by have := k.1; rw [ByteArray.size_append]; omega, fun i hi => by
  rw [ByteArray.size_append] at hi
  by_cases c : i < a.size
  ·rw [h.2 i c, hbt_left a b i c]
  ·have := k.2 (i - a.size) (by omega)
   rw [show p + a.size + (i - a.size) = p + i by omega] at this
   rw [this]
   have e := hbt_right a b (i - a.size) (by omega)
   rw [show a.size + (i - a.size) = i by omega] at e
   exact e.symm⟩
theorem Has.self (s : ByteArray) : Has s 0 s := ⟨by omega, fun i _ => by rw [Nat.zero_add]⟩
theorem Has.em (s : ByteArray) (p : Nat) (h : p ≤ s.size) : Has s p emB := ⟨by rw [em_size]; omega, fun i hi => by rw [em_size] at hi; omega⟩
theorem Has.cut {s x : ByteArray} {p : Nat} (h : Has s p x) : s.extract p (p + x.size) = x := piece_of s x p h.1 h.2
theorem Has.of_cut (s : ByteArray) (p q : Nat) (h1 : p ≤ q) (h2 : q ≤ s.size) : Has s p (s.extract p q) :=
 ⟨by rw [ByteArray.size_extract]; omega, fun i hi => by
  rw [ByteArray.size_extract] at hi
  exact (cat_piece s p q i (by omega) h2).symm⟩
theorem Has.bytes {s x : ByteArray} {p m : Nat} (h : Has s p x) (hm : m ≤ x.size) : bytesAt s (p : Int) m = bytesAt x 0 m := by
 unfold bytesAt
 refine List.map_congr_left fun j hj => ?_
 rw [List.mem_range] at hj
 have := h.2 j (by omega)
 rw [Int.zero_add]
 rw [← this]
 congr 1
theorem le_put32 (n : Int) (h0 : 0 ≤ n) (h1 : n < 4294967296) : le (bytesAt (put32 n) 0 4) = n := by
 have h := getN_put32 n
 unfold getN at h
 rw [if_pos ⟨by omega, by rw [put32_size]; decide⟩] at h
 injection h with h
 rw [h]
 omega
theorem le_put16 (n : Int) (h0 : 0 ≤ n) (h1 : n < 65536) : le (bytesAt (put16 n) 0 2) = n := by
 have h := getN_put16 n
 unfold getN at h
 rw [if_pos ⟨by omega, by rw [put16_size]; decide⟩] at h
 injection h with h
 rw [h]
 omega
theorem F_num4 {s : ByteArray} {p : Nat} {n : Int} (h : Has s p (put32 n)) (h0 : 0 ≤ n) (h1 : n < 4294967296) : vNum 4 s (p : Int) = .ok (n, ((p + 4 : Nat) : Int)) := by
 have a := h.1
 rw [put32_size] at a
 unfold vNum
 rw [if_neg (by omega), h.bytes (by rw [put32_size]; omega), le_put32 n h0 h1]
 rfl
theorem F_num2 {s : ByteArray} {p : Nat} {n : Int} (h : Has s p (put16 n)) (h0 : 0 ≤ n) (h1 : n < 65536) : vNum 2 s (p : Int) = .ok (n, ((p + 2 : Nat) : Int)) := by
 have a := h.1
 rw [put16_size] at a
 unfold vNum
 rw [if_neg (by omega), h.bytes (by rw [put16_size]; omega), le_put16 n h0 h1]
 rfl
theorem F_text {s b : ByteArray} {p : Nat} (h : Has s p (txtB b)) (hb : b.size < 4294967296) : vText s (p : Int) = .ok (b, ((p + (txtB b).size : Nat) : Int)) := by
 unfold txtB at h
 have h1 := F_num4 h.left (by omega) (by omega)
 have h2 := h.right
 rw [put32_size] at h2
 have a := h2.1
 unfold vText
 rw [h1]
 show (if (s.size : Int) - ((p + 4 : Nat) : Int) < (b.size : Int) then Except.error (18 : Int) else Except.ok (s.extract ((p + 4 : Nat) : Int).toNat (((p + 4 : Nat) : Int) + (b.size : Int)).toNat, ((p + 4 : Nat) : Int) + (b.size : Int))) = _
 rw [if_neg (by omega), txtB_size, show (((p + 4 : Nat) : Int)).toNat = p + 4 by omega, show (((p + 4 : Nat) : Int) + (b.size : Int)).toNat = p + 4 + b.size by omega, h2.cut]
 congr 2
 omega
/-- An edit whose numbers fit into four bytes. -/
def fitE (e : Ed) : Prop := 0 ≤ e.f0 ∧ e.f0 < 4294967296 ∧ e.f1.size < 4294967296 ∧ e.f2.size < 4294967296
theorem F_ed1 {s : ByteArray} : ∀ (l : List Ed) (p : Nat) (out : List Ed), Has s p (edB1 l) → (∀ e ∈ l, fitE e) → vEd1 s l.length (p : Int) out = .ok (out ++ l, ((p + (edB1 l).size : Nat) : Int))
 | [], p, out, _, _ => by rw [edB1, em_size, List.append_nil]; rfl
 | e :: r, p, out, h, hf => by
  have f := hf e (List.mem_cons_self ..)
  rw [edB1] at h
  have k1 := F_num4 h.left.left.left f.1 f.2.1
  have k2 := F_text (h.left.left.right) f.2.2.1
  have k3 := F_text (h.left.right) f.2.2.2
  have k4 := F_ed1 r _ (out ++ [⟨e.f0, e.f1, e.f2⟩]) h.right (fun x hx => hf x (List.mem_cons_of_mem _ hx))
  rw [put32_size] at k2
  rw [ByteArray.size_append, put32_size, ← Nat.add_assoc] at k3
  rw [ByteArray.size_append, ByteArray.size_append, put32_size, ← Nat.add_assoc, ← Nat.add_assoc] at k4
  rw [List.length_cons, vEd1, k1]
  show eb (vText s ((p + 4 : Nat) : Int)) _ = _
  rw [k2]
  show eb (vText s ((p + 4 + (txtB e.f1).size : Nat) : Int)) _ = _
  rw [k3]
  show vEd1 s r.length ((p + 4 + (txtB e.f1).size + (txtB e.f2).size : Nat) : Int) (out ++ [⟨e.f0, e.f1, e.f2⟩]) = _
  rw [k4, edB1_cons, txtB_size, txtB_size, List.append_assoc]
  have e1 : p + 4 + (4 + e.f1.size) + (4 + e.f2.size) + (edB1 r).size = p + (12 + e.f1.size + e.f2.size + (edB1 r).size) := by omega
  rw [e1]
  rfl
theorem F_ed {s : ByteArray} {l : List Ed} {p : Nat} (h : Has s p (edB l)) (hl : l.length < 65536) (hf : ∀ e ∈ l, fitE e) : vEd s (p : Int) = .ok (l, ((p + (edB l).size : Nat) : Int)) := by
 unfold edB at h
 have k1 := F_num2 h.left (by omega) (by omega)
 have k2 := F_ed1 l _ [] h.right hf
 rw [put16_size] at k2
 unfold vEd
 rw [k1]
 show vEd1 s ((l.length : Int)).toNat ((p + 2 : Nat) : Int) [] = _
 rw [Int.toNat_natCast, k2, edB_size, List.nil_append, ← Nat.add_assoc]
def fitS (s : Stp) : Prop := s.f0.length < 65536 ∧ ∀ e ∈ s.f0, fitE e
theorem F_st1 {s : ByteArray} : ∀ (l : List Stp) (p : Nat) (out : List Stp), Has s p (stB1 l) → (∀ x ∈ l, fitS x) → vSt1 s l.length (p : Int) out = .ok (out ++ l, ((p + (stB1 l).size : Nat) : Int))
 | [], p, out, _, _ => by rw [stB1, em_size, List.append_nil]; rfl
 | x :: r, p, out, h, hf => by
  have f := hf x (List.mem_cons_self ..)
  rw [stB1] at h
  have k1 := F_ed h.left f.1 f.2
  have k4 := F_st1 r _ (out ++ [⟨x.f0⟩]) h.right (fun x hx => hf x (List.mem_cons_of_mem _ hx))
  rw [List.length_cons, vSt1, k1]
  show vSt1 s r.length ((p + (edB x.f0).size : Nat) : Int) (out ++ [⟨x.f0⟩]) = _
  rw [k4, stB1_cons, edB_size, List.append_assoc]
  have e1 : p + (2 + (edB1 x.f0).size) + (stB1 r).size = p + (2 + (edB1 x.f0).size + (stB1 r).size) := by omega
  rw [e1]
  rfl
theorem F_st {s : ByteArray} {l : List Stp} {p : Nat} (h : Has s p (stB l)) (hl : l.length < 65536) (hf : ∀ x ∈ l, fitS x) : vSt s (p : Int) = .ok (l, ((p + (stB l).size : Nat) : Int)) := by
 unfold stB at h
 have k1 := F_num2 h.left (by omega) (by omega)
 have k2 := F_st1 l _ [] h.right hf
 rw [put16_size] at k2
 unfold vSt
 rw [k1]
 show vSt1 s ((l.length : Int)).toNat ((p + 2 : Nat) : Int) [] = _
 rw [Int.toNat_natCast, k2, stB_size, List.nil_append, ← Nat.add_assoc]
def fitM (m : Mk) : Prop := m.f0.size < 4294967296 ∧ 0 ≤ m.f1 ∧ m.f1 < 4294967296
theorem F_mk1 {s : ByteArray} : ∀ (l : List Mk) (p : Nat) (out : List Mk), Has s p (mkB1 l) → (∀ x ∈ l, fitM x) → vMk1 s l.length (p : Int) out = .ok (out ++ l, ((p + (mkB1 l).size : Nat) : Int))
 | [], p, out, _, _ => by rw [mkB1, em_size, List.append_nil]; rfl
 | x :: r, p, out, h, hf => by
  have f := hf x (List.mem_cons_self ..)
  rw [mkB1] at h
  have k1 := F_text h.left.left f.1
  have k2 := F_num4 h.left.right f.2.1 f.2.2
  have k4 := F_mk1 r _ (out ++ [⟨x.f0, x.f1⟩]) h.right (fun x hx => hf x (List.mem_cons_of_mem _ hx))
  rw [ByteArray.size_append, put32_size, ← Nat.add_assoc] at k4
  rw [List.length_cons, vMk1, k1]
  show eb (vNum 4 s ((p + (txtB x.f0).size : Nat) : Int)) _ = _
  rw [k2]
  show vMk1 s r.length ((p + (txtB x.f0).size + 4 : Nat) : Int) (out ++ [⟨x.f0, x.f1⟩]) = _
  rw [k4, mkB1_cons, txtB_size, List.append_assoc]
  have e1 : p + (4 + x.f0.size) + 4 + (mkB1 r).size = p + (8 + x.f0.size + (mkB1 r).size) := by omega
  rw [e1]
  rfl
theorem F_flag {s : ByteArray} {p : Nat} {o : Bool} (h : Has s p (opB o)) : vFlag s (p : Int) = .ok (o, ((p + 1 : Nat) : Int)) := by
 have a := h.1
 rw [opB_size] at a
 have b := h.2 0 (by rw [opB_size]; omega)
 rw [Nat.add_zero] at b
 unfold vFlag
 rw [if_neg (by omega), b]
 cases o
 ·rw [if_neg (by decide)]; rfl
 ·rw [if_neg (by decide)]; rfl
/-- What is laid is read. -/
theorem F_state (t : ByteArray) (m : List Mk) (u r : List Stp) (o : Bool) (g : List Ed) (ht : t.size < 4294967296) (hm : m.length < 65536) (hu : u.length < 65536) (hr : r.length < 65536) (hg : g.length < 65536)
  (fm : ∀ x ∈ m, fitM x) (fu : ∀ x ∈ u, fitS x) (fr : ∀ x ∈ r, fitS x) (fg : ∀ e ∈ g, fitE e) : vState (layB t m u r o g) = .ok (t, m, u, r, o, g) := by
 have h := Has.self (layB t m u r o g)
 obtain ⟨s, hs⟩ : ∃ s, layB t m u r o g = s := ⟨_, rfl⟩
 have sz : s.size = 6 + t.size + (mkB1 m).size + (stB u).size + (stB r).size + 1 + (edB g).size := by rw [← hs]; exact layB_size t m u r o g
 have h' : Has s 0 (((((headB t m ++ mkB1 m) ++ stB u) ++ stB r) ++ opB o) ++ edB g) := by
  have e : ((((headB t m ++ mkB1 m) ++ stB u) ++ stB r) ++ opB o) ++ edB g = s := hs
  rw [e]
  exact Has.self s
 rw [hs]
 clear h hs
 have h0 : Has s 0 (txtB t ++ put16 (m.length : Int)) := h'.left.left.left.left.left
 have z0 : (headB t m).size = 6 + t.size := by unfold headB; rw [ByteArray.size_append, txtB_size, put16_size]; omega
 have k1 := F_text h0.left ht
 have k2 := F_num2 h0.right (by omega) (by omega)
 have k3 := F_mk1 m _ [] h'.left.left.left.left.right fm
 have k4 := F_st h'.left.left.left.right hu fu
 have k5 := F_st h'.left.left.right hr fr
 have k6 := F_flag h'.left.right
 have k7 := F_ed h'.right hg fg
 simp only [Nat.zero_add, ByteArray.size_append, z0, txtB_size, opB_size] at k1 k2 k3 k4 k5 k6 k7
 unfold vState
 rw [show (0 : Int) = ((0 : Nat) : Int) from rfl, k1]
 show eb (vNum 2 s ((4 + t.size : Nat) : Int)) _ = _
 rw [k2]
 show eb (vMk1 s ((m.length : Int)).toNat ((4 + t.size + 2 : Nat) : Int) []) (vRest s t) = _
 rw [Int.toNat_natCast, show 4 + t.size + 2 = 6 + t.size by omega, k3, List.nil_append]
 show vRest s t (m, ((6 + t.size + (mkB1 m).size : Nat) : Int)) = _
 unfold vRest
 rw [show vSt s (m, ((6 + t.size + (mkB1 m).size : Nat) : Int)).2 = _ from k4]
 show eb (vSt s ((6 + t.size + (mkB1 m).size + (stB u).size : Nat) : Int)) _ = _
 rw [k5]
 show eb (vFlag s ((6 + t.size + (mkB1 m).size + (stB u).size + (stB r).size : Nat) : Int)) _ = _
 rw [k6]
 show eb (vEd s ((6 + t.size + (mkB1 m).size + (stB u).size + (stB r).size + 1 : Nat) : Int)) _ = _
 rw [k7]
 show (if ((6 + t.size + (mkB1 m).size + (stB u).size + (stB r).size + 1 + (edB g).size : Nat) : Int) < (s.size : Int) then Except.error (6 : Int) else Except.ok (t, m, u, r, o, g)) = _
 rw [if_neg (by omega)]
/-! What is read was laid. -/
theorem B_num4 {s : ByteArray} {p : Nat} {n q : Int} (h : vNum 4 s (p : Int) = .ok (n, q)) : Has s p (put32 n) ∧ q = ((p + 4 : Nat) : Int) := by
 unfold vNum at h
 split at h
 ·cases h
 ·injection h with h
  injection h with h1 h2
  have hp : p + 4 ≤ s.size := by omega
  have e := put32_get s p hp
  rw [getN_val s p 4 hp, h1] at e
  rw [e]
  exact ⟨Has.of_cut s p (p + 4) (by omega) hp, by omega⟩
theorem B_num2 {s : ByteArray} {p : Nat} {n q : Int} (h : vNum 2 s (p : Int) = .ok (n, q)) : Has s p (put16 n) ∧ q = ((p + 2 : Nat) : Int) := by
 unfold vNum at h
 split at h
 ·cases h
 ·injection h with h
  injection h with h1 h2
  have hp : p + 2 ≤ s.size := by omega
  have e := put16_get s p hp
  rw [getN_val s p 2 hp, h1] at e
  rw [e]
  exact ⟨Has.of_cut s p (p + 2) (by omega) hp, by omega⟩
theorem B_text {s : ByteArray} {p : Nat} {b : ByteArray} {q : Int} (A : At s (p : Int)) (h : vText s (p : Int) = .ok (b, q)) : Has s p (txtB b) ∧ q = ((p + (txtB b).size : Nat) : Int) := by
 have k := vText_ok A h
 unfold vText at h
 cases hn : vNum 4 s (p : Int) with
 | error c => rw [hn] at h; cases h
 | ok x =>
  obtain ⟨n, q1⟩ := x
  have kn := vNum_ok A (by omega) hn
  have kb := B_num4 hn
  rw [hn] at h
  have h' : (if (s.size : Int) - q1 < n then Except.error (18 : Int) else Except.ok (s.extract q1.toNat (q1 + n).toNat, q1 + n)) = Except.ok (b, q) := h
  split at h'
  ·cases h'
  ·injection h' with h'
   injection h' with h1 h2
   have e1 := kb.2
   have n0 := kn.2.1
   have hb : b.size = n.toNat := by have := k.2.2; omega
   have hh : Has s (p + 4) b := by
    rw [← h1, show q1.toNat = p + 4 by omega, show (q1 + n).toNat = p + 4 + n.toNat by omega]
    exact Has.of_cut s _ _ (by omega) (by omega)
   refine ⟨?_, by rw [txtB_size]; omega⟩
   unfold txtB
   rw [show (b.size : Int) = n by omega]
   exact kb.1.join (by rw [put32_size]; exact hh)
theorem B_ed1 {s : ByteArray} : ∀ (m p : Nat) (out l : List Ed) (q : Int), At s (p : Int) → vEd1 s m (p : Int) out = .ok (l, q) → ∃ l', l = out ++ l' ∧ l'.length = m ∧ Has s p (edB1 l') ∧ q = ((p + (edB1 l').size : Nat) : Int)
 | 0, p, out, l, q, A, h => by
  rw [vEd1] at h
  injection h with h
  injection h with h1 h2
  have := A.hi
  exact ⟨[], by rw [List.append_nil]; exact h1.symm, rfl, Has.em s p (by omega), by rw [edB1, em_size]; exact h2.symm⟩
 | m + 1, p, out, l, q, A, h => by
  rw [vEd1] at h
  cases h1 : vNum 4 s (p : Int) with
  | error c => rw [h1] at h; cases h
  | ok a =>
   obtain ⟨a, qa⟩ := a
   have k1 := vNum_ok A (by omega) h1
   have b1 := B_num4 h1
   rw [h1] at h
   replace h : eb (vText s qa) (fun b => eb (vText s b.2) fun c => vEd1 s m c.2 (out ++ [⟨a, b.1, c.1⟩])) = _ := h
   obtain ⟨b1, rfl⟩ := b1
   cases h2 : vText s ((p + 4 : Nat) : Int) with
   | error c => rw [h2] at h; cases h
   | ok b =>
    obtain ⟨b, qb⟩ := b
    have k2 := vText_ok k1.1 h2
    obtain ⟨b2, rfl⟩ := B_text k1.1 h2
    rw [h2] at h
    replace h : eb (vText s ((p + 4 + (txtB b).size : Nat) : Int)) (fun c => vEd1 s m c.2 (out ++ [⟨a, b, c.1⟩])) = _ := h
    cases h3 : vText s ((p + 4 + (txtB b).size : Nat) : Int) with
    | error c => rw [h3] at h; cases h
    | ok c =>
     obtain ⟨c, qc⟩ := c
     have k3 := vText_ok k2.1 h3
     obtain ⟨b3, rfl⟩ := B_text k2.1 h3
     rw [h3] at h
     replace h : vEd1 s m ((p + 4 + (txtB b).size + (txtB c).size : Nat) : Int) (out ++ [⟨a, b, c⟩]) = _ := h
     obtain ⟨l', rfl, e2, b4, rfl⟩ := B_ed1 m _ _ l q k3.1 h
     refine ⟨⟨a, b, c⟩ :: l', by rw [List.append_assoc]; rfl, by rw [List.length_cons, e2], ?_, ?_⟩
     ·rw [edB1]
      refine Has.join (Has.join (b1.join (by rw [put32_size]; exact b2)) ?_) ?_
      ·rw [ByteArray.size_append, put32_size, ← Nat.add_assoc]; exact b3
      ·rw [ByteArray.size_append, ByteArray.size_append, put32_size, ← Nat.add_assoc, ← Nat.add_assoc]; exact b4
     ·rw [edB1_cons, txtB_size, txtB_size]
      show _ = ((p + (12 + b.size + c.size + (edB1 l').size) : Nat) : Int)
      congr 1
      omega
theorem B_ed {s : ByteArray} {p : Nat} {l : List Ed} {q : Int} (A : At s (p : Int)) (h : vEd s (p : Int) = .ok (l, q)) : Has s p (edB l) ∧ q = ((p + (edB l).size : Nat) : Int) := by
 unfold vEd at h
 cases hn : vNum 2 s (p : Int) with
 | error c => rw [hn] at h; cases h
 | ok x =>
  obtain ⟨n, q1⟩ := x
  have k := vNum_ok A (by omega) hn
  obtain ⟨b1, rfl⟩ := B_num2 hn
  rw [hn] at h
  obtain ⟨l', rfl, e2, b4, rfl⟩ := B_ed1 n.toNat (p + 2) [] l q k.1 h
  have n0 := k.2.1
  refine ⟨?_, by rw [edB_size, Nat.add_assoc]⟩
  unfold edB
  rw [show (l.length : Int) = n by omega]
  exact b1.join (by rw [put16_size]; exact b4)
theorem B_st1 {s : ByteArray} : ∀ (m p : Nat) (out l : List Stp) (q : Int), At s (p : Int) → vSt1 s m (p : Int) out = .ok (l, q) → ∃ l', l = out ++ l' ∧ l'.length = m ∧ Has s p (stB1 l') ∧ q = ((p + (stB1 l').size : Nat) : Int)
 | 0, p, out, l, q, A, h => by
  rw [vSt1] at h
  injection h with h
  injection h with h1 h2
  have := A.hi
  exact ⟨[], by rw [List.append_nil]; exact h1.symm, rfl, Has.em s p (by omega), by rw [stB1, em_size]; exact h2.symm⟩
 | m + 1, p, out, l, q, A, h => by
  rw [vSt1] at h
  cases h1 : vEd s (p : Int) with
  | error c => rw [h1] at h; cases h
  | ok a =>
   obtain ⟨a, qa⟩ := a
   have k1 := vEd_ok A h1
   obtain ⟨b1, rfl⟩ := B_ed A h1
   rw [h1] at h
   replace h : vSt1 s m ((p + (edB a).size : Nat) : Int) (out ++ [⟨a⟩]) = _ := h
   obtain ⟨l', rfl, e2, b4, rfl⟩ := B_st1 m _ _ l q k1.1 h
   refine ⟨⟨a⟩ :: l', by rw [List.append_assoc]; rfl, by rw [List.length_cons, e2], ?_, ?_⟩
   ·rw [stB1]
    exact b1.join b4
   ·rw [stB1_cons, edB_size]
    show _ = ((p + (2 + (edB1 a).size + (stB1 l').size) : Nat) : Int)
    congr 1
    omega
theorem B_st {s : ByteArray} {p : Nat} {l : List Stp} {q : Int} (A : At s (p : Int)) (h : vSt s (p : Int) = .ok (l, q)) : Has s p (stB l) ∧ q = ((p + (stB l).size : Nat) : Int) := by
 unfold vSt at h
 cases hn : vNum 2 s (p : Int) with
 | error c => rw [hn] at h; cases h
 | ok x =>
  obtain ⟨n, q1⟩ := x
  have k := vNum_ok A (by omega) hn
  obtain ⟨b1, rfl⟩ := B_num2 hn
  rw [hn] at h
  obtain ⟨l', rfl, e2, b4, rfl⟩ := B_st1 n.toNat (p + 2) [] l q k.1 h
  have n0 := k.2.1
  refine ⟨?_, by rw [stB_size, Nat.add_assoc]⟩
  unfold stB
  rw [show (l.length : Int) = n by omega]
  exact b1.join (by rw [put16_size]; exact b4)
theorem B_mk1 {s : ByteArray} : ∀ (m p : Nat) (out l : List Mk) (q : Int), At s (p : Int) → vMk1 s m (p : Int) out = .ok (l, q) → ∃ l', l = out ++ l' ∧ l'.length = m ∧ Has s p (mkB1 l') ∧ q = ((p + (mkB1 l').size : Nat) : Int)
 | 0, p, out, l, q, A, h => by
  rw [vMk1] at h
  injection h with h
  injection h with h1 h2
  have := A.hi
  exact ⟨[], by rw [List.append_nil]; exact h1.symm, rfl, Has.em s p (by omega), by rw [mkB1, em_size]; exact h2.symm⟩
 | m + 1, p, out, l, q, A, h => by
  rw [vMk1] at h
  cases h1 : vText s (p : Int) with
  | error c => rw [h1] at h; cases h
  | ok a =>
   obtain ⟨a, qa⟩ := a
   have k1 := vText_ok A h1
   obtain ⟨b1, rfl⟩ := B_text A h1
   rw [h1] at h
   replace h : eb (vNum 4 s ((p + (txtB a).size : Nat) : Int)) (fun b => vMk1 s m b.2 (out ++ [⟨a, b.1⟩])) = _ := h
   cases h2 : vNum 4 s ((p + (txtB a).size : Nat) : Int) with
   | error c => rw [h2] at h; cases h
   | ok b =>
    obtain ⟨b, qb⟩ := b
    have k2 := vNum_ok k1.1 (by omega) h2
    obtain ⟨b2, rfl⟩ := B_num4 h2
    rw [h2] at h
    replace h : vMk1 s m ((p + (txtB a).size + 4 : Nat) : Int) (out ++ [⟨a, b⟩]) = _ := h
    obtain ⟨l', rfl, e2, b4, rfl⟩ := B_mk1 m _ _ l q k2.1 h
    refine ⟨⟨a, b⟩ :: l', by rw [List.append_assoc]; rfl, by rw [List.length_cons, e2], ?_, ?_⟩
    ·rw [mkB1]
     refine (b1.join b2).join ?_
     rw [ByteArray.size_append, put32_size, ← Nat.add_assoc]; exact b4
    ·rw [mkB1_cons, txtB_size]
     show _ = ((p + (8 + a.size + (mkB1 l').size) : Nat) : Int)
     congr 1
     omega
theorem B_flag {s : ByteArray} {p : Nat} {f : Bool} {q : Int} (h : vFlag s (p : Int) = .ok (f, q)) : Has s p (opB f) ∧ q = ((p + 1 : Nat) : Int) := by
 unfold vFlag at h
 split at h
 ·cases h
 ·split at h
  ·cases h
  ·rename_i c1 c2
   injection h with h
   injection h with h1 h2
   refine ⟨⟨by rw [opB_size]; omega, fun i hi => ?_⟩, by omega⟩
   rw [opB_size] at hi
   obtain rfl : i = 0 := by omega
   rw [Nat.add_zero]
   have r := bt_range s (p : Int)
   cases f with
   | true => rw [beq_iff_eq.1 h1]; rfl
   | false =>
    have := beq_eq_false_iff_ne.1 h1
    rw [show bt s (p : Int) = 0 by omega]; rfl
/-- What is read was laid. -/
theorem B_state {s : ByteArray} (hs : (s.size : Int) ≤ 1099511627776) {t : ByteArray} {m : List Mk} {u r : List Stp} {o : Bool} {g : List Ed} (h : vState s = .ok (t, m, u, r, o, g)) : layB t m u r o g = s := by
 have A : At s ((0 : Nat) : Int) := ⟨by omega, by omega, hs⟩
 unfold vState at h
 rw [show (0 : Int) = ((0 : Nat) : Int) from rfl] at h
 cases h1 : vText s ((0 : Nat) : Int) with
 | error c => rw [h1] at h; cases h
 | ok a =>
  obtain ⟨a, qa⟩ := a
  have k1 := vText_ok A h1
  obtain ⟨b1, rfl⟩ := B_text A h1
  rw [h1] at h
  replace h : eb (vNum 2 s ((0 + (txtB a).size : Nat) : Int)) (fun n => eb (vMk1 s n.1.toNat n.2 []) (vRest s a)) = _ := h
  cases h2 : vNum 2 s ((0 + (txtB a).size : Nat) : Int) with
  | error c => rw [h2] at h; cases h
  | ok n =>
   obtain ⟨n, qn⟩ := n
   have k2 := vNum_ok k1.1 (by omega) h2
   obtain ⟨b2, rfl⟩ := B_num2 h2
   rw [h2] at h
   replace h : eb (vMk1 s n.toNat ((0 + (txtB a).size + 2 : Nat) : Int) []) (vRest s a) = _ := h
   cases h3 : vMk1 s n.toNat ((0 + (txtB a).size + 2 : Nat) : Int) [] with
   | error c => rw [h3] at h; cases h
   | ok ms =>
    obtain ⟨ms, qm⟩ := ms
    have k3 := vMk1_ok n.toNat _ [] ms qm k2.1 (fun x hx => by cases hx) h3
    obtain ⟨ms', e3, l3, b3, rfl⟩ := B_mk1 n.toNat _ [] ms qm k2.1 h3
    rw [List.nil_append] at e3
    subst e3
    rw [h3] at h
    replace h : vRest s a (ms, ((0 + (txtB a).size + 2 + (mkB1 ms).size : Nat) : Int)) = _ := h
    unfold vRest at h
    replace h : eb (vSt s ((0 + (txtB a).size + 2 + (mkB1 ms).size : Nat) : Int)) (fun u => eb (vSt s u.2) fun r => eb (vFlag s r.2) fun f => eb (vEd s f.2) fun e => if e.2 < (s.size : Int) then .error 6 else .ok (a, ms, u.1, r.1, f.1, e.1)) = _ := h
    cases h4 : vSt s ((0 + (txtB a).size + 2 + (mkB1 ms).size : Nat) : Int) with
    | error c => rw [h4] at h; cases h
    | ok us =>
     obtain ⟨us, qu⟩ := us
     have k4 := vSt_ok k3.1 h4
     obtain ⟨b4, rfl⟩ := B_st k3.1 h4
     rw [h4] at h
     replace h : eb (vSt s ((0 + (txtB a).size + 2 + (mkB1 ms).size + (stB us).size : Nat) : Int)) (fun r => eb (vFlag s r.2) fun f => eb (vEd s f.2) fun e => if e.2 < (s.size : Int) then .error 6 else .ok (a, ms, us, r.1, f.1, e.1)) = _ := h
     cases h5 : vSt s ((0 + (txtB a).size + 2 + (mkB1 ms).size + (stB us).size : Nat) : Int) with
     | error c => rw [h5] at h; cases h
     | ok rs =>
      obtain ⟨rs, qr⟩ := rs
      have k5 := vSt_ok k4.1 h5
      obtain ⟨b5, rfl⟩ := B_st k4.1 h5
      rw [h5] at h
      replace h : eb (vFlag s ((0 + (txtB a).size + 2 + (mkB1 ms).size + (stB us).size + (stB rs).size : Nat) : Int)) (fun f => eb (vEd s f.2) fun e => if e.2 < (s.size : Int) then .error 6 else .ok (a, ms, us, rs, f.1, e.1)) = _ := h
      cases h6 : vFlag s ((0 + (txtB a).size + 2 + (mkB1 ms).size + (stB us).size + (stB rs).size : Nat) : Int) with
      | error c => rw [h6] at h; cases h
      | ok f =>
       obtain ⟨f, qf⟩ := f
       have k6 := vFlag_ok k5.1 h6
       obtain ⟨b6, rfl⟩ := B_flag h6
       rw [h6] at h
       replace h : eb (vEd s ((0 + (txtB a).size + 2 + (mkB1 ms).size + (stB us).size + (stB rs).size + 1 : Nat) : Int)) (fun e => if e.2 < (s.size : Int) then .error 6 else .ok (a, ms, us, rs, f, e.1)) = _ := h
       cases h7 : vEd s ((0 + (txtB a).size + 2 + (mkB1 ms).size + (stB us).size + (stB rs).size + 1 : Nat) : Int) with
       | error c => rw [h7] at h; cases h
       | ok es =>
        obtain ⟨es, qe⟩ := es
        obtain ⟨b7, rfl⟩ := B_ed k6 h7
        rw [h7] at h
        replace h : (if ((0 + (txtB a).size + 2 + (mkB1 ms).size + (stB us).size + (stB rs).size + 1 + (edB es).size : Nat) : Int) < (s.size : Int) then Except.error (6 : Int) else Except.ok (a, ms, us, rs, f, es)) = Except.ok (t, m, u, r, o, g) := h
        split at h
        ·cases h
        ·rename_i c
         injection h with h
         simp only [Prod.mk.injEq] at h
         obtain ⟨rfl, rfl, rfl, rfl, rfl, rfl⟩ := h
         have n0 := k2.2.1
         have hh : Has s 0 (layB a ms us rs f es) := by
          unfold layB headB
          rw [show (ms.length : Int) = n by omega]
          refine Has.join (Has.join (Has.join (Has.join (Has.join (b1.join b2) ?_) ?_) ?_) ?_) ?_
          all_goals simp only [ByteArray.size_append, put16_size, opB_size, ← Nat.add_assoc]
          ·exact b3
          ·exact b4
          ·exact b5
          ·exact b6
          ·exact b7
         have e := hh.cut
         have sz := layB_size a ms us rs f es
         have tz := txtB_size a
         have h1' := hh.1
         rw [show 0 + (layB a ms us rs f es).size = s.size by omega] at e
         rw [← e]
         exact ByteArray.extract_zero_size
/-! A beginning of what was laid is too short. -/
theorem cut_size (s : ByteArray) (n : Nat) (hn : n ≤ s.size) : (s.extract 0 n).size = n := by rw [ByteArray.size_extract]; omega
theorem cut_bt (s : ByteArray) (n i : Nat) (hn : n ≤ s.size) (hi : i < n) : bt (s.extract 0 n) (i : Int) = bt s (i : Int) := by
 have := cat_piece s 0 n i (by omega) hn
 rw [Nat.zero_add] at this
 exact this
theorem cut_bytes (s : ByteArray) (n m : Nat) (p : Int) (hn : n ≤ s.size) (h0 : 0 ≤ p) (h : p + (m : Int) ≤ (n : Int)) : bytesAt (s.extract 0 n) p m = bytesAt s p m := by
 unfold bytesAt
 refine List.map_congr_left fun j hj => ?_
 rw [List.mem_range] at hj
 have := cut_bt s n (p + (j : Int)).toNat hn (by omega)
 rw [show (((p + (j : Int)).toNat : Nat) : Int) = p + (j : Int) by omega] at this
 exact this
theorem cut_cut (s : ByteArray) (n a b : Nat) (hn : n ≤ s.size) (h : b ≤ n) : (s.extract 0 n).extract a b = s.extract a b := by
 have z := cut_size s n hn
 refine cat_ext (by rw [ByteArray.size_extract (a := s.extract 0 n), z, ByteArray.size_extract]; omega) fun i hi => ?_
 rw [ByteArray.size_extract, z] at hi
 rw [cat_piece (s.extract 0 n) a b i (by omega) (by omega), cat_piece s a b i (by omega) (by omega)]
 exact cut_bt s n (a + i) hn (by omega)
section
variable {s : ByteArray} {n : Nat}
theorem P_num {m : Nat} {p a q : Int} (hn : n ≤ s.size) (A : At s p) (h : vNum m s p = .ok (a, q)) : vNum m (s.extract 0 n) p = if q ≤ (n : Int) then .ok (a, q) else .error 18 := by
 have lo := A.lo
 unfold vNum at h ⊢
 rw [cut_size s n hn]
 split at h
 ·cases h
 ·injection h with h
  injection h with h1 h2
  by_cases c : q ≤ (n : Int)
  ·rw [if_neg (by omega), if_pos c, cut_bytes s n m p hn lo (by omega), h1, h2]
  ·rw [if_pos (by omega), if_neg c]
theorem P_text {p : Int} {b : ByteArray} {q : Int} (hn : n ≤ s.size) (A : At s p) (h : vText s p = .ok (b, q)) : vText (s.extract 0 n) p = if q ≤ (n : Int) then .ok (b, q) else .error 18 := by
 have k := vText_ok A h
 unfold vText at h ⊢
 cases h1 : vNum 4 s p with
 | error c => rw [h1] at h; cases h
 | ok x =>
  obtain ⟨l, q1⟩ := x
  have k1 := vNum_ok A (by omega) h1
  have P1 := P_num hn A h1
  have lo := k1.1.lo
  have e1 := k1.2.2.2.2
  have l0 := k1.2.1
  rw [h1] at h
  have h' : (if (s.size : Int) - q1 < l then Except.error (18 : Int) else Except.ok (s.extract q1.toNat (q1 + l).toNat, q1 + l)) = Except.ok (b, q) := h
  split at h'
  ·cases h'
  ·injection h' with h'
   injection h' with h2 h3
   rw [P1]
   by_cases c1 : q1 ≤ (n : Int)
   ·rw [if_pos c1]
    show (if ((s.extract 0 n).size : Int) - q1 < l then Except.error (18 : Int) else Except.ok ((s.extract 0 n).extract q1.toNat (q1 + l).toNat, q1 + l)) = _
    rw [cut_size s n hn]
    by_cases c : q ≤ (n : Int)
    ·rw [if_neg (by omega), if_pos c, cut_cut s n _ _ hn (by omega), h2, h3]
    ·rw [if_pos (by omega), if_neg c]
   ·rw [if_neg c1, if_neg (by omega)]
    rfl
theorem P_ed1 (hn : n ≤ s.size) : ∀ (m : Nat) (p : Int) (out l : List Ed) (q : Int), At s p → p ≤ (n : Int) → vEd1 s m p out = .ok (l, q) → vEd1 (s.extract 0 n) m p out = if q ≤ (n : Int) then .ok (l, q) else .error 18
 | 0, p, out, l, q, A, hp, h => by
  rw [vEd1] at h ⊢
  injection h with h
  injection h with h1 h2
  rw [if_pos (by omega), h1, h2]
 | m + 1, p, out, l, q, A, hp, h => by
  have kk := vEd1_ok (m + 1) p out l q A h
  rw [vEd1] at h ⊢
  cases h1 : vNum 4 s p with
  | error c => rw [h1] at h; cases h
  | ok a =>
   obtain ⟨a, qa⟩ := a
   have k1 := vNum_ok A (by omega) h1
   have P1 := P_num hn A h1
   rw [h1] at h
   replace h : eb (vText s qa) (fun b => eb (vText s b.2) fun c => vEd1 s m c.2 (out ++ [⟨a, b.1, c.1⟩])) = _ := h
   cases h2 : vText s qa with
   | error c => rw [h2] at h; cases h
   | ok b =>
    obtain ⟨b, qb⟩ := b
    have k2 := vText_ok k1.1 h2
    have P2 := P_text hn k1.1 h2
    rw [h2] at h
    replace h : eb (vText s qb) (fun c => vEd1 s m c.2 (out ++ [⟨a, b, c.1⟩])) = _ := h
    cases h3 : vText s qb with
    | error c => rw [h3] at h; cases h
    | ok c =>
     obtain ⟨c, qc⟩ := c
     have k3 := vText_ok k2.1 h3
     have P3 := P_text hn k2.1 h3
     rw [h3] at h
     replace h : vEd1 s m qc (out ++ [⟨a, b, c⟩]) = _ := h
     have k4 := vEd1_ok m qc _ l q k3.1 h
     have e2 := k2.2.2
     have e3 := k3.2.2
     have e4 := k4.2.2
     rw [P1]
     by_cases c1 : qa ≤ (n : Int)
     ·rw [if_pos c1]
      show eb (vText (s.extract 0 n) qa) _ = _
      rw [P2]
      by_cases c2 : qb ≤ (n : Int)
      ·rw [if_pos c2]
       show eb (vText (s.extract 0 n) qb) _ = _
       rw [P3]
       by_cases c3 : qc ≤ (n : Int)
       ·rw [if_pos c3]
        exact P_ed1 hn m qc _ l q k3.1 c3 h
       ·rw [if_neg c3, if_neg (by omega)]
        rfl
      ·rw [if_neg c2, if_neg (by omega)]
       rfl
     ·rw [if_neg c1, if_neg (by omega)]
      rfl
theorem P_ed {p : Int} {l : List Ed} {q : Int} (hn : n ≤ s.size) (A : At s p) (h : vEd s p = .ok (l, q)) : vEd (s.extract 0 n) p = if q ≤ (n : Int) then .ok (l, q) else .error 18 := by
 unfold vEd at h ⊢
 cases h1 : vNum 2 s p with
 | error c => rw [h1] at h; cases h
 | ok x =>
  obtain ⟨m, q1⟩ := x
  have k := vNum_ok A (by omega) h1
  have P1 := P_num hn A h1
  rw [h1] at h
  replace h : vEd1 s m.toNat q1 [] = _ := h
  have k2 := vEd1_ok _ _ _ _ _ k.1 h
  have e2 := k2.2.2
  rw [P1]
  by_cases c1 : q1 ≤ (n : Int)
  ·rw [if_pos c1]
   exact P_ed1 hn _ _ _ _ _ k.1 c1 h
  ·rw [if_neg c1, if_neg (by omega)]
   rfl
theorem P_st1 (hn : n ≤ s.size) : ∀ (m : Nat) (p : Int) (out l : List Stp) (q : Int), At s p → p ≤ (n : Int) → (∀ x ∈ out, 12 * x.f0.length ≤ s.size) → vSt1 s m p out = .ok (l, q) → vSt1 (s.extract 0 n) m p out = if q ≤ (n : Int) then .ok (l, q) else .error 18
 | 0, p, out, l, q, A, hp, _, h => by
  rw [vSt1] at h ⊢
  injection h with h
  injection h with h1 h2
  rw [if_pos (by omega), h1, h2]
 | m + 1, p, out, l, q, A, hp, ho, h => by
  rw [vSt1] at h ⊢
  cases h1 : vEd s p with
  | error c => rw [h1] at h; cases h
  | ok a =>
   obtain ⟨a, qa⟩ := a
   have k1 := vEd_ok A h1
   have P1 := P_ed hn A h1
   rw [h1] at h
   replace h : vSt1 s m qa (out ++ [⟨a⟩]) = _ := h
   have a1 := k1.1.hi
   have a2 := A.lo
   have k2 := k1.2
   have ho' : ∀ x ∈ out ++ [(⟨a⟩ : Stp)], 12 * x.f0.length ≤ s.size := fun x hx => by
    rcases List.mem_append.1 hx with hx | hx
    ·exact ho x hx
    ·rw [List.mem_singleton] at hx
     subst hx
     show 12 * a.length ≤ s.size
     omega
   have k4 := vSt1_ok m qa _ l q k1.1 ho' h
   have e4 := k4.2.2.1
   rw [P1]
   by_cases c1 : qa ≤ (n : Int)
   ·rw [if_pos c1]
    exact P_st1 hn m qa _ l q k1.1 c1 ho' h
   ·rw [if_neg c1, if_neg (by omega)]
    rfl
theorem P_st {p : Int} {l : List Stp} {q : Int} (hn : n ≤ s.size) (A : At s p) (h : vSt s p = .ok (l, q)) : vSt (s.extract 0 n) p = if q ≤ (n : Int) then .ok (l, q) else .error 18 := by
 unfold vSt at h ⊢
 cases h1 : vNum 2 s p with
 | error c => rw [h1] at h; cases h
 | ok x =>
  obtain ⟨m, q1⟩ := x
  have k := vNum_ok A (by omega) h1
  have P1 := P_num hn A h1
  rw [h1] at h
  replace h : vSt1 s m.toNat q1 [] = _ := h
  have k2 := vSt1_ok _ _ _ _ _ k.1 (fun x hx => by cases hx) h
  have e2 := k2.2.2.1
  rw [P1]
  by_cases c1 : q1 ≤ (n : Int)
  ·rw [if_pos c1]
   exact P_st1 hn _ _ _ _ _ k.1 c1 (fun x hx => by cases hx) h
  ·rw [if_neg c1, if_neg (by omega)]
   rfl
theorem P_mk1 (hn : n ≤ s.size) : ∀ (m : Nat) (p : Int) (out l : List Mk) (q : Int), At s p → p ≤ (n : Int) → (∀ x ∈ out, x.f0.size ≤ s.size) → vMk1 s m p out = .ok (l, q) → vMk1 (s.extract 0 n) m p out = if q ≤ (n : Int) then .ok (l, q) else .error 18
 | 0, p, out, l, q, A, hp, _, h => by
  rw [vMk1] at h ⊢
  injection h with h
  injection h with h1 h2
  rw [if_pos (by omega), h1, h2]
 | m + 1, p, out, l, q, A, hp, ho, h => by
  rw [vMk1] at h ⊢
  cases h1 : vText s p with
  | error c => rw [h1] at h; cases h
  | ok a =>
   obtain ⟨a, qa⟩ := a
   have k1 := vText_ok A h1
   have P1 := P_text hn A h1
   rw [h1] at h
   replace h : eb (vNum 4 s qa) (fun b => vMk1 s m b.2 (out ++ [⟨a, b.1⟩])) = _ := h
   cases h2 : vNum 4 s qa with
   | error c => rw [h2] at h; cases h
   | ok b =>
    obtain ⟨b, qb⟩ := b
    have k2 := vNum_ok k1.1 (by omega) h2
    have P2 := P_num hn k1.1 h2
    rw [h2] at h
    replace h : vMk1 s m qb (out ++ [⟨a, b⟩]) = _ := h
    have ho' : ∀ x ∈ out ++ [(⟨a, b⟩ : Mk)], x.f0.size ≤ s.size := fun x hx => by
     rcases List.mem_append.1 hx with hx | hx
     ·exact ho x hx
     ·rw [List.mem_singleton] at hx
      subst hx
      exact k1.2.1
    have k4 := vMk1_ok m qb _ l q k2.1 ho' h
    have e2 := k2.2.2.2.2
    have e4 := k4.2.2.1
    rw [P1]
    by_cases c1 : qa ≤ (n : Int)
    ·rw [if_pos c1]
     show eb (vNum 4 (s.extract 0 n) qa) _ = _
     rw [P2]
     by_cases c2 : qb ≤ (n : Int)
     ·rw [if_pos c2]
      exact P_mk1 hn m qb _ l q k2.1 c2 ho' h
     ·rw [if_neg c2, if_neg (by omega)]
      rfl
    ·rw [if_neg c1, if_neg (by omega)]
     rfl
theorem P_flag {p : Int} {f : Bool} {q : Int} (hn : n ≤ s.size) (A : At s p) (h : vFlag s p = .ok (f, q)) : vFlag (s.extract 0 n) p = if q ≤ (n : Int) then .ok (f, q) else .error 18 := by
 have lo := A.lo
 unfold vFlag at h ⊢
 rw [cut_size s n hn]
 split at h
 ·cases h
 ·split at h
  ·cases h
  ·rename_i c1 c2
   injection h with h
   injection h with h1 h2
   by_cases c : q ≤ (n : Int)
   ·have e := cut_bt s n p.toNat hn (by omega)
    rw [show ((p.toNat : Nat) : Int) = p by omega] at e
    rw [if_neg (by omega), e, if_neg c2, if_pos c, h1, h2]
   ·rw [if_pos (by omega), if_neg c]
/-- A beginning of what can be read can't. -/
theorem P_state (hs : (s.size : Int) ≤ 1099511627776) (hn : n < s.size) {x : St} (h : vState s = .ok x) : vState (s.extract 0 n) = .error 18 := by
 have A : At s 0 := ⟨by omega, by omega, hs⟩
 have hn' : n ≤ s.size := by omega
 unfold vState at h ⊢
 cases h1 : vText s 0 with
 | error c => rw [h1] at h; cases h
 | ok a =>
  obtain ⟨a, qa⟩ := a
  have k1 := vText_ok A h1
  rw [P_text hn' A h1]
  by_cases c1 : qa ≤ (n : Int)
  rotate_left
  ·rw [if_neg c1]; rfl
  rw [if_pos c1]
  rw [h1] at h
  replace h : eb (vNum 2 s qa) (fun n => eb (vMk1 s n.1.toNat n.2 []) (vRest s a)) = _ := h
  show eb (vNum 2 (s.extract 0 n) qa) (fun k => eb (vMk1 (s.extract 0 n) k.1.toNat k.2 []) (vRest (s.extract 0 n) a)) = _
  cases h2 : vNum 2 s qa with
  | error c => rw [h2] at h; cases h
  | ok b =>
   obtain ⟨b, qb⟩ := b
   have k2 := vNum_ok k1.1 (by omega) h2
   rw [P_num hn' k1.1 h2]
   by_cases c2 : qb ≤ (n : Int)
   rotate_left
   ·rw [if_neg c2]; rfl
   rw [if_pos c2]
   rw [h2] at h
   replace h : eb (vMk1 s b.toNat qb []) (vRest s a) = _ := h
   show eb (vMk1 (s.extract 0 n) b.toNat qb []) (vRest (s.extract 0 n) a) = _
   cases h3 : vMk1 s b.toNat qb [] with
   | error c => rw [h3] at h; cases h
   | ok ms =>
    obtain ⟨ms, qm⟩ := ms
    have k3 := vMk1_ok b.toNat qb [] ms qm k2.1 (fun x hx => by cases hx) h3
    rw [P_mk1 hn' _ _ _ _ _ k2.1 c2 (fun x hx => by cases hx) h3]
    by_cases c3 : qm ≤ (n : Int)
    rotate_left
    ·rw [if_neg c3]; rfl
    rw [if_pos c3]
    rw [h3] at h
    replace h : vRest s a (ms, qm) = _ := h
    show vRest (s.extract 0 n) a (ms, qm) = _
    unfold vRest at h ⊢
    cases h4 : vSt s qm with
    | error c => rw [show vSt s (ms, qm).2 = _ from h4] at h; cases h
    | ok us =>
     obtain ⟨us, qu⟩ := us
     have k4 := vSt_ok k3.1 h4
     rw [show vSt (s.extract 0 n) (ms, qm).2 = _ from P_st hn' k3.1 h4]
     by_cases c4 : qu ≤ (n : Int)
     rotate_left
     ·rw [if_neg c4]; rfl
     rw [if_pos c4]
     rw [show vSt s (ms, qm).2 = _ from h4] at h
     replace h : eb (vSt s qu) (fun r => eb (vFlag s r.2) fun f => eb (vEd s f.2) fun e => if e.2 < (s.size : Int) then .error 6 else .ok (a, ms, us, r.1, f.1, e.1)) = _ := h
     show eb (vSt (s.extract 0 n) qu) _ = _
     cases h5 : vSt s qu with
     | error c => rw [h5] at h; cases h
     | ok rs =>
      obtain ⟨rs, qr⟩ := rs
      have k5 := vSt_ok k4.1 h5
      rw [P_st hn' k4.1 h5]
      by_cases c5 : qr ≤ (n : Int)
      rotate_left
      ·rw [if_neg c5]; rfl
      rw [if_pos c5]
      rw [h5] at h
      replace h : eb (vFlag s qr) (fun f => eb (vEd s f.2) fun e => if e.2 < (s.size : Int) then .error 6 else .ok (a, ms, us, rs, f.1, e.1)) = _ := h
      show eb (vFlag (s.extract 0 n) qr) _ = _
      cases h6 : vFlag s qr with
      | error c => rw [h6] at h; cases h
      | ok f =>
       obtain ⟨f, qf⟩ := f
       have k6 := vFlag_ok k5.1 h6
       rw [P_flag hn' k5.1 h6]
       by_cases c6 : qf ≤ (n : Int)
       rotate_left
       ·rw [if_neg c6]; rfl
       rw [if_pos c6]
       rw [h6] at h
       replace h : eb (vEd s qf) (fun e => if e.2 < (s.size : Int) then .error 6 else .ok (a, ms, us, rs, f, e.1)) = _ := h
       show eb (vEd (s.extract 0 n) qf) _ = _
       cases h7 : vEd s qf with
       | error c => rw [h7] at h; cases h
       | ok es =>
        obtain ⟨es, qe⟩ := es
        have k7 := vEd_ok k6 h7
        rw [P_ed hn' k6 h7]
        by_cases c7 : qe ≤ (n : Int)
        rotate_left
        ·rw [if_neg c7]; rfl
        rw [h7] at h
        replace h : (if qe < (s.size : Int) then Except.error (6 : Int) else Except.ok (a, ms, us, rs, f, es)) = Except.ok x := h
        rw [if_pos (by omega)] at h
        cases h
end
end Go.Proofs.Ytnndanfghlnpfaa.P
