/- What an argument of any depth reads as: numbers, texts, structs, slices of them, one in the other. -/
import Derived.Test.YtpdgmcmebpfbaaaPx0
import Derived.Deep.Slices
import Derived.ChangeArms
import Derived.Carry
import Derived.ProofKit
import Derived.OpenShut
import Derived.SizedLaws
namespace Go.Proofs.Ytpdgmcmebpfbaaa.P
open Go.RowKit Go.Deep Go.Proofs.YtpdgmcmebpfbaaaW.PrintWords Go.Proofs.YtpdgmcmebpfbaaaW.PrintLast Go.Proofs.YtpdgmcmebpfbaaaW.PrintMore
/-- Each reading of a value of type t is one of the kind d, within its bounds. -/
def Opens {α : Type} (P : Program) (t : TypeId) (d : Kd α) (B : α → Prop) : Prop :=
 P.cellsOf t = d.sz ∧ ∀ (H : Type) (enc : TypeId × Value → H) (w : World) (held : Bool) (fuel : Nat) (cs : List Value) (x : DataW H × List MemPlace),
  DataW.trod enc P w 0 (fun _ => true) held fuel t cs = some x → (x.1.weights P t).all (· ≤ reachBytes) = true → ∃ a : α, d.K w a cs ∧ B a
theorem weights_at {H : Type} {P : Program} {ts : List TypeId} {ds : List (DataW H)} (h : (DataW.weightsEach P ts ds).all (· ≤ reachBytes) = true) (j : Nat) {t : TypeId} {d : DataW H} (ht : ts[j]? = some t) (hd : ds[j]? = some d) : (d.weights P t).all (· ≤ reachBytes) = true :=
 List.all_eq_true.2 fun n hn => List.all_eq_true.1 h _ (DataW.weights_mem_each ht hd n hn)
theorem weights_all {H : Type} {P : Program} {e : TypeId} : ∀ {ds : List (DataW H)} {d : DataW H}, d ∈ ds → (DataW.weightsAll P e ds).all (· ≤ reachBytes) = true → (d.weights P e).all (· ≤ reachBytes) = true
 | [], _, h, _ => absurd h (by simp)
 | x :: l, d, h, hw => by
  rw [DataW.weightsAll, List.all_append, Bool.and_eq_true] at hw
  rcases List.mem_cons.1 h with rfl | h
  ·exact hw.1
  ·exact weights_all h hw.2
theorem opens_string {P : Program} {t : TypeId} (ht : P.underlying t = some .string) (hc : P.cellsOf t = 1) : Opens P t Kd.string (fun s => s.size ≤ 140737488351232) :=
 ⟨hc, fun H enc w held fuel cs x h hw => by
  obtain ⟨n, rfl, rfl, hs⟩ := DataW.trod_string ht h
  have h1 : n.data.toList.length ≤ reachBytes := of_decide_eq_true (List.all_eq_true.1 hw _ (by simp [DataW.weights]))
  refine ⟨n, rfl, ?_⟩
  have h2 : n.data.toList.length = n.size := by simp
  have h3 : reachBytes = 140737488351232 := rfl
  omega⟩
theorem opens_slice {α : Type} {P : Program} {t e : TypeId} {d : Kd α} {B : α → Prop} (z : α) (ht : P.underlying t = some (.slice e)) (hc : P.cellsOf t = 1) (hb : (P.bytesOf e == 0) = false) (he : Opens P e d B) :
  Opens P t (Kd.slice e d) (fun xs => xs.length ≤ 140737488351232 ∧ ∀ x ∈ xs, B x) :=
 ⟨hc, fun H enc w held fuel cs x h hw => by
  rcases open_slice ht h with ⟨rfl, _⟩ | ⟨a, len, cap, m, n, D, Pl, rfl, _, hl, hm, hmm, rfl, hx⟩
  ·exact ⟨[], ⟨none, 0, rfl, Nat.le_refl _, rfl, Nat.zero_le _, fun hp => absurd hp (Nat.lt_irrefl 0)⟩, Nat.zero_le _, fun x hx => absurd hx (by simp)⟩
  ·have hlm : len ≤ m := by rw [hmm]; split <;> omega
   simp only [DataW.weights, ht, List.all_cons, List.all_append, Bool.and_eq_true, List.length_map, List.length_range] at hw
   have h3 : reachBytes = 140737488351232 := rfl
   have hbp : 1 ≤ P.bytesOf e := by have h_ := beq_eq_false_iff_ne.1 hb; omega
   have hlr : len ≤ 140737488351232 := by
    have h1 : len * 1 ≤ (len + (m - len)) * P.bytesOf e := Nat.mul_le_mul (by omega) hbp
    have h2 : (len + (m - len)) * P.bytesOf e ≤ reachBytes := of_decide_eq_true hw.1
    omega
   haveI : Inhabited α := ⟨z⟩
   obtain ⟨f, hf⟩ := choose_lt (α := α) (n := len) (p := fun i a' => ∃ cs', w.cells? 0 (a.add (i * P.cellsOf e)) (P.cellsOf e) = some cs' ∧ d.K w a' cs' ∧ B a') (fun i hi => by
    obtain ⟨cs', h1, h2⟩ := hx i (by omega)
    obtain ⟨a', h3, h4⟩ := he.2 H enc w held n cs' _ h2 (weights_all (List.mem_map.2 ⟨i, List.mem_range.2 hi, rfl⟩) hw.2.1)
    exact ⟨a', cs', h1, h3, h4⟩)
   have hlen : ((List.range len).map f).length = len := by simp
   refine ⟨(List.range len).map f, ⟨some a, cap, by rw [hlen], by rw [hlen]; exact hl, hlen.trans hlen.symm, by rw [hlen]; exact Nat.le_trans hl hm, fun _ => ⟨a, rfl, fun j p hj => ?_⟩⟩, by rw [hlen]; exact hlr, fun y hy => ?_⟩
   ·have hj' : j < len := by have := (List.getElem?_eq_some_iff.1 hj).1; simpa using this
    obtain ⟨cs', h1, h2, _⟩ := hf j hj'
    have hp : f j = p := by simpa [hj'] using hj
    subst hp
    obtain ⟨_, h3, h4⟩ := World.cells?_some h1
    rw [he.1] at h3 h4
    refine ⟨cs', h3, h2, fun i u hu => ?_⟩
    have hi : i < d.sz := by have := (List.getElem?_eq_some_iff.1 hu).1; omega
    have h5 := h4 i hi
    rw [hu] at h5
    rw [← h5, Addr.add_add]
   ·obtain ⟨i, hi, rfl⟩ := List.mem_map.1 hy
    obtain ⟨_, _, _, hB⟩ := hf i (by simpa using hi)
    exact hB⟩
theorem Opens.imp {α : Type} {P : Program} {t : TypeId} {d : Kd α} {B C : α → Prop} (h : Opens P t d B) (hi : ∀ a, B a → C a) : Opens P t d C :=
 ⟨h.1, fun H enc w held fuel cs x hx hw => by obtain ⟨a, h1, h2⟩ := h.2 H enc w held fuel cs x hx hw; exact ⟨a, h1, hi a h2⟩⟩
end Go.Proofs.Ytpdgmcmebpfbaaa.P
