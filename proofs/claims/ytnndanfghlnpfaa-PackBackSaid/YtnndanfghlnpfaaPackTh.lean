/- A right state's bytes are not many. -/
import Derived.Test.YtnndanfghlnpfaaPx0
import Derived.Test.YtnndanfghlnpfaaPackEv
namespace Go.Proofs.Ytnndanfghlnpfaa.P
open Go.RowKit Go.Proofs.YtnndanfghlnpfaaW.PrintWords Go.Proofs.YtnndanfghlnpfaaW.PrintLast
theorem walkM_names (t : ByteArray) : ∀ (l : List Mk) (p : ByteArray), walkM t p l = true → ∀ m ∈ l, m.f0.size ≤ 8
 | [], _, _, m, h => by cases h
 | x :: r, p, h, m, hm => by
  rw [walkM, Bool.and_eq_true, Bool.and_eq_true, Bool.and_eq_true] at h
  rcases List.mem_cons.1 hm with rfl | hm
  ·have h1 := h.1
   unfold mayMark at h1
   split at h1
   ·omega
   ·split at h1
    ·cases h1
    ·omega
  ·exact walkM_names t r x.f0 h.2.2.2 m hm
structure RightsB (t : ByteArray) (m : List Mk) (u r : List Stp) (g : List Ed) : Prop where
 text : t.size ≤ 4096
 marks : m.length ≤ 16
 names : ∀ x ∈ m, x.f0.size ≤ 8
 ge : g.all okE = true
 ue : u.all okT = true
 re : r.all okT = true
theorem rights_of {t : ByteArray} {m : List Mk} {u r : List Stp} {o : Bool} {g : List Ed} (h : rightB t m u r o g = true) : RightsB t m u r g := by
 unfold rightB at h
 rw [Bool.and_eq_true, Bool.and_eq_true, Bool.and_eq_true, Bool.and_eq_true, Bool.and_eq_true, Bool.and_eq_true] at h
 obtain ⟨h1, _, h3, h4, h5, h6, _⟩ := h
 unfold marksB at h3
 rw [Bool.and_eq_true] at h3
 exact ⟨of_decide_eq_true h1, of_decide_eq_true h3.1, walkM_names t m _ h3.2, h4, h5, h6⟩
theorem layOk_of {t : ByteArray} {m : List Mk} {u r : List Stp} {o : Bool} {g : List Ed} (F : Few25 t m u r g) (h : rightB t m u r o g = true) : LayOk t m u r g := by
 have R := rights_of h
 refine ⟨by have := R.marks; omega, by have := F.undo; omega, by have := F.redo; omega, by have := F.group; omega, fun s hs => by have := F.us s hs; omega, fun s hs => by have := F.rs s hs; omega, fun o => ?_⟩
 have h1 := mkB1_le 8 m R.names
 have h2 := stB1_le 400 u R.ue F.us
 have h3 := stB1_le 400 r R.re F.rs
 have h4 := edB1_le g R.ge
 have m1 := R.marks
 have m2 := F.undo
 have m3 := F.redo
 have m4 := F.group
 have m5 := R.text
 rw [layB_size, stB_size, stB_size, edB_size]
 omega
end Go.Proofs.Ytnndanfghlnpfaa.P
