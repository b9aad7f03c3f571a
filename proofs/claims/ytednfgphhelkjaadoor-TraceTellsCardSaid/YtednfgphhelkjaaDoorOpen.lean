/- What an argument of any depth reads as: numbers, texts, structs, slices of them, one in the other. -/
import Derived.Test.YtednfgphhelkjaaDoorPx0
import Derived.Deep.Slices
import Derived.ChangeArms
import Derived.Carry
import Derived.ProofKit
import Derived.OpenShut
import Derived.SizedLaws
namespace Go.Proofs.YtednfgphhelkjaaDoor.P
open Go.RowKit Go.Deep Go.Proofs.YtednfgphhelkjaaDoorW.PrintWords Go.Proofs.YtednfgphhelkjaaDoorW.PrintLast Go.Proofs.YtednfgphhelkjaaDoorW.PrintMore
/-- Each reading of a value of type t is one of the kind d, within its bounds. -/
def Opens {α : Type} (P : Program) (t : TypeId) (d : Kd α) (B : α → Prop) : Prop :=
 P.cellsOf t = d.sz ∧ ∀ (H : Type) (enc : TypeId × Value → H) (w : World) (held : Bool) (fuel : Nat) (cs : List Value) (x : DataW H × List MemPlace),
  DataW.trod enc P w 0 (fun _ => true) held fuel t cs = some x → (x.1.weights P t).all (· ≤ reachBytes) = true → ∃ a : α, d.K w a cs ∧ B a
theorem weights_at {H : Type} {P : Program} {ts : List TypeId} {ds : List (DataW H)} (h : (DataW.weightsEach P ts ds).all (· ≤ reachBytes) = true) (j : Nat) {t : TypeId} {d : DataW H} (ht : ts[j]? = some t) (hd : ds[j]? = some d) : (d.weights P t).all (· ≤ reachBytes) = true :=
 List.all_eq_true.2 fun n hn => List.all_eq_true.1 h _ (DataW.weights_mem_each ht hd n hn)
theorem opens_int {P : Program} {t : TypeId} (k : IntKind) (ht : P.underlying t = some (.int k)) (hc : P.cellsOf t = 1) : Opens P t (Kd.int k) (fun n => (Lit.int k n).wf = true) :=
 ⟨hc, fun H enc w held fuel cs x h _ => by
  obtain ⟨n, rfl, _, hw⟩ := DataW.trod_int ht h
  exact ⟨n, rfl, hw⟩⟩
theorem opens_string {P : Program} {t : TypeId} (ht : P.underlying t = some .string) (hc : P.cellsOf t = 1) : Opens P t Kd.string (fun s => s.size ≤ 140737488351232) :=
 ⟨hc, fun H enc w held fuel cs x h hw => by
  obtain ⟨n, rfl, rfl, hs⟩ := DataW.trod_string ht h
  have h1 : n.data.toList.length ≤ reachBytes := of_decide_eq_true (List.all_eq_true.1 hw _ (by simp [DataW.weights]))
  refine ⟨n, rfl, ?_⟩
  have h2 : n.data.toList.length = n.size := by simp
  have h3 : reachBytes = 140737488351232 := rfl
  omega⟩
/-- Fields from a place on. -/
def OpensF {α : Type} (P : Program) (fs : List Field) (off : Nat) (d : Kd α) (B : α → Prop) : Prop :=
 ∀ (H : Type) (enc : TypeId × Value → H) (w : World) (held : Bool) (n : Nat) (cs : List Value), off + d.sz ≤ cs.length →
  (∀ f ∈ fs, ∃ y, DataW.trod enc P w 0 (fun _ => true) held n f.type ((cs.drop f.offset).take (P.cellsOf f.type)) = some y ∧ (y.1.weights P f.type).all (· ≤ reachBytes) = true) → ∃ a : α, d.K w a ((cs.drop off).take d.sz) ∧ B a
theorem opensF_one {α : Type} {P : Program} {f : Field} {off : Nat} {d : Kd α} {B : α → Prop} (ho : f.offset = off) (h : Opens P f.type d B) : OpensF P [f] off d B := by
 intro H enc w held n cs hl hf
 obtain ⟨y, hy, hw⟩ := hf f (by simp)
 rw [ho, h.1] at hy
 exact h.2 H enc w held n _ y hy hw
theorem opensF_cons {α β : Type} {P : Program} {f : Field} {fs : List Field} {off : Nat} {d : Kd α} {e : Kd β} {B : α → Prop} {C : β → Prop} (ho : f.offset = off) (h : Opens P f.type d B) (hs : OpensF P fs (off + d.sz) e C) :
  OpensF P (f :: fs) off (Kd.pair d e) (fun p => B p.1 ∧ C p.2) := by
 intro H enc w held n cs hl hf
 have hsz : (Kd.pair d e).sz = d.sz + e.sz := rfl
 rw [hsz] at hl
 obtain ⟨y, hy, hw⟩ := hf f (by simp)
 rw [ho, h.1] at hy
 obtain ⟨a, ha, hB⟩ := h.2 H enc w held n _ y hy hw
 obtain ⟨b, hb, hC⟩ := hs H enc w held n cs (by omega) (fun g hg => hf g (by simp [hg]))
 refine ⟨(a, b), ⟨(cs.drop off).take d.sz, (cs.drop (off + d.sz)).take e.sz, ?_, ha, hb⟩, hB, hC⟩
 rw [hsz, List.take_add, List.drop_drop]
theorem opens_struct {α β : Type} {P : Program} {t : TypeId} {fs : Array Field} {d : Kd α} {B : α → Prop} (proj : β → α) (mk : α → β) (hm : ∀ a, proj (mk a) = a) (ht : P.underlying t = some (.struct fs)) (hc : P.cellsOf t = d.sz) (h : OpensF P fs.toList 0 d B) :
  Opens P t (Kd.iso d proj) (fun x => B (proj x)) :=
 ⟨hc, fun H enc w held fuel cs x hx hw => by
  obtain ⟨xs, n, _, rfl, hl, hlen, hf⟩ := DataW.trod_struct ht hx
  obtain ⟨a, ha, hB⟩ := h H enc w held n cs (by rw [hl, hc]; omega) (fun f hf' => by
   obtain ⟨i, hi, he⟩ := List.getElem_of_mem hf'
   have h1 : fs[i]? = some f := by simpa [Array.getElem?_toList] using (List.getElem?_eq_some_iff.2 ⟨hi, he⟩)
   have h2 := hf i f h1
   have hi' : i < xs.length := by rw [hlen]; simpa using hi
   exact ⟨xs[i], by rw [h2, List.getElem?_eq_getElem hi'], by
    simp only [DataW.weights, ht] at hw
    refine weights_at hw i ?_ ?_
    ·rw [List.getElem?_map, Array.getElem?_toList, h1]; rfl
    ·rw [List.getElem?_map, List.getElem?_eq_getElem hi']; rfl⟩)
  rw [List.drop_zero, List.take_of_length_le (by rw [hl, hc]; exact Nat.le_refl _)] at ha
  exact ⟨mk a, by show d.K w (proj (mk a)) cs; rw [hm]; exact ha, by show B (proj (mk a)); rw [hm]; exact hB⟩⟩
end Go.Proofs.YtednfgphhelkjaaDoor.P
