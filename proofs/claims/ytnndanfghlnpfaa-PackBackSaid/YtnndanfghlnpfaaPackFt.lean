/- The places of a right state's edits are within its texts: they fit into four bytes. -/
import Derived.Test.YtnndanfghlnpfaaPx0
import Derived.Test.YtnndanfghlnpfaaPackBk
namespace Go.Proofs.Ytnndanfghlnpfaa.P
open Go.RowKit Go.Proofs.YtnndanfghlnpfaaW.PrintWords Go.Proofs.YtnndanfghlnpfaaW.PrintLast
theorem run_at : ∀ (E : List Ed) (t : ByteArray), t.size ≤ 5000 → (runOf E t).2 = 0 → ∀ e ∈ E, 0 ≤ e.f0 ∧ e.f0 ≤ 5000
 | [], _, _, _, e, h => by cases h
 | x :: E, t, ht, h, e, he => by
  rw [runOf] at h
  by_cases c : (applyOf t x.f0 x.f1 x.f2).2 = 0
  ·rw [if_pos c] at h
   have a := applied c
   rcases List.mem_cons.1 he with rfl | he
   ·exact ⟨a.1, by have := a.2.1; omega⟩
   ·exact run_at E _ (by have := applyOf_size t x.f0 x.f1 x.f2; omega) h e he
  ·rw [if_neg c] at h
   exact absurd h c
theorem right_at {E : List Ed} {t : ByteArray} (ht : t.size ≤ 5000) (h : rightOf E t = true) : ∀ e ∈ E, 0 ≤ e.f0 ∧ e.f0 ≤ 5000 := run_at E t ht (of_decide_eq_true h).2.2
theorem back_at {E : List Ed} (h : ∀ e ∈ backOf E, 0 ≤ e.f0 ∧ e.f0 ≤ 5000) : ∀ e ∈ E, 0 ≤ e.f0 ∧ e.f0 ≤ 5000 := fun e he =>
 h (backEd e) (by unfold backOf; rw [List.mem_reverse]; exact List.mem_map_of_mem he)
theorem goes_at (f : List Ed → List Ed) (hf : ∀ E, (∀ e ∈ f E, 0 ≤ e.f0 ∧ e.f0 ≤ 5000) → ∀ e ∈ E, 0 ≤ e.f0 ∧ e.f0 ≤ 5000) : ∀ (l : List Stp) (t : ByteArray), t.size ≤ 5000 → goesR f t l = true → ∀ s ∈ l, ∀ e ∈ s.f0, 0 ≤ e.f0 ∧ e.f0 ≤ 5000
 | [], _, _, _, s, h => by cases h
 | x :: l, t, ht, h, s, hs => by
  rw [goesR] at h
  by_cases c : rightOf (f x.f0) t = true
  ·rw [if_pos c] at h
   rcases List.mem_cons.1 hs with rfl | hs
   ·exact hf _ (right_at ht c)
   ·exact goes_at f hf l _ (runOf_size _ _ ht) h s hs
  ·rw [if_neg c] at h
   cases h
theorem undo_at {l : List Stp} {t : ByteArray} (ht : t.size ≤ 5000) (h : undoB l t = true) : ∀ s ∈ l, ∀ e ∈ s.f0, 0 ≤ e.f0 ∧ e.f0 ≤ 5000 := fun s hs => by
 unfold undoB at h
 rw [Bool.and_eq_true] at h
 exact goes_at backOf (fun _ => back_at) l.reverse t ht h.2 s (List.mem_reverse.2 hs)
theorem redo_at {l : List Stp} {t : ByteArray} (ht : t.size ≤ 5000) (h : redoB l t = true) : ∀ s ∈ l, ∀ e ∈ s.f0, 0 ≤ e.f0 ∧ e.f0 ≤ 5000 := fun s hs => by
 unfold redoB at h
 rw [Bool.and_eq_true] at h
 exact goes_at (fun E => E) (fun _ h => h) l.reverse t ht h.2 s (List.mem_reverse.2 hs)
theorem walkM_at (t : ByteArray) : ∀ (l : List Mk) (p : ByteArray), walkM t p l = true → ∀ m ∈ l, 0 ≤ m.f1 ∧ m.f1 ≤ t.size
 | [], _, _, m, h => by cases h
 | x :: r, p, h, m, hm => by
  rw [walkM, Bool.and_eq_true, Bool.and_eq_true, Bool.and_eq_true] at h
  rcases List.mem_cons.1 hm with rfl | hm
  ·have h1 := of_decide_eq_true h.2.2.1
   exact ⟨h1.1, h1.2.1⟩
  ·exact walkM_at t r x.f0 h.2.2.2 m hm
theorem rights_at {t : ByteArray} {m : List Mk} {u r : List Stp} {o : Bool} {g : List Ed} (h : rightB t m u r o g = true) :
  (∀ x ∈ m, 0 ≤ x.f1 ∧ x.f1 ≤ 4096) ∧ (∀ s ∈ u, ∀ e ∈ s.f0, 0 ≤ e.f0 ∧ e.f0 ≤ 5000) ∧ (∀ s ∈ r, ∀ e ∈ s.f0, 0 ≤ e.f0 ∧ e.f0 ≤ 5000) ∧ ∀ e ∈ g, 0 ≤ e.f0 ∧ e.f0 ≤ 5000 := by
 have R := rights_of h
 have ht : t.size ≤ 5000 := by have := R.text; omega
 unfold rightB at h
 rw [Bool.and_eq_true, Bool.and_eq_true, Bool.and_eq_true, Bool.and_eq_true, Bool.and_eq_true, Bool.and_eq_true] at h
 obtain ⟨_, _, h3, _, _, _, h7⟩ := h
 unfold marksB at h3
 rw [Bool.and_eq_true] at h3
 refine ⟨fun x hx => by have := walkM_at t m _ h3.2 x hx; have := R.text; omega, ?_⟩
 by_cases c : g.length = 0
 ·rw [if_pos c, Bool.and_eq_true] at h7
  obtain rfl := List.eq_nil_of_length_eq_zero c
  exact ⟨undo_at ht h7.1, redo_at ht h7.2, fun e he => by cases he⟩
 ·rw [if_neg c, Bool.and_eq_true, Bool.and_eq_true, Bool.and_eq_true, Bool.and_eq_true] at h7
  exact ⟨undo_at (runOf_size _ _ ht) h7.2.2.1, redo_at ht h7.2.2.2, back_at (right_at ht h7.2.1)⟩
/-- A right state is read as what was laid of it. -/
theorem vState_lay {t : ByteArray} {m : List Mk} {u r : List Stp} {o : Bool} {g : List Ed} (F : Few25 t m u r g) (hu : u.length < 65536) (hr : r.length < 65536) (h : rightB t m u r o g = true) : vState (layB t m u r o g) = .ok (t, m, u, r, o, g) := by
 have R := rights_of h
 have A := rights_at h
 have fe : ∀ l : List Ed, l.all okE = true → (∀ e ∈ l, 0 ≤ e.f0 ∧ e.f0 ≤ 5000) → ∀ e ∈ l, fitE e := fun l hl ha e he => by
  have k1 := of_decide_eq_true (List.all_eq_true.1 hl e he)
  have k2 := ha e he
  exact ⟨k2.1, by omega, by omega, by omega⟩
 have fs : ∀ l : List Stp, l.all okT = true → (∀ s ∈ l, s.f0.length ≤ 400) → (∀ s ∈ l, ∀ e ∈ s.f0, 0 ≤ e.f0 ∧ e.f0 ≤ 5000) → ∀ s ∈ l, fitS s := fun l hl hn ha s hs =>
  ⟨by have := hn s hs; omega, fe s.f0 (List.all_eq_true.1 hl s hs) (ha s hs)⟩
 refine F_state t m u r o g (by have := R.text; omega) (by have := R.marks; omega) hu hr (by have := F.group; omega) (fun x hx => ?_) (fs u R.ue F.us A.2.1) (fs r R.re F.rs A.2.2.1) (fe g R.ge A.2.2.2)
 have k1 := R.names x hx
 have k2 := A.1 x hx
 exact ⟨by omega, k2.1, by omega⟩
theorem undo16 {t : ByteArray} {m : List Mk} {u r : List Stp} {o : Bool} {g : List Ed} (h : rightB t m u r o g = true) : u.length ≤ 16 ∧ r.length ≤ 16 := by
 unfold rightB at h
 rw [Bool.and_eq_true, Bool.and_eq_true, Bool.and_eq_true, Bool.and_eq_true, Bool.and_eq_true, Bool.and_eq_true] at h
 obtain ⟨_, _, _, _, _, _, h7⟩ := h
 have key : ∀ x y : ByteArray, undoB u x = true → redoB r y = true → u.length ≤ 16 ∧ r.length ≤ 16 := fun x y a b => by
  unfold undoB at a
  unfold redoB at b
  rw [Bool.and_eq_true] at a b
  exact ⟨of_decide_eq_true a.1, of_decide_eq_true b.1⟩
 split at h7
 ·rw [Bool.and_eq_true] at h7
  exact key _ _ h7.1 h7.2
 ·rw [Bool.and_eq_true, Bool.and_eq_true, Bool.and_eq_true, Bool.and_eq_true] at h7
  exact key _ _ h7.2.2.1 h7.2.2.2
end Go.Proofs.Ytnndanfghlnpfaa.P
