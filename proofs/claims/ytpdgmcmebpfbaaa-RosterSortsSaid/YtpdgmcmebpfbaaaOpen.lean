/- What an argument of any depth reads as: numbers, texts, structs, slices of them, one in the other. -/
import Derived.Test.YtpdgmcmebpfbaaaPx0
import Derived.Deep.Slices
import Derived.ChangeArms
import Derived.Carry
import Derived.ProofKit
import Derived.OpenShut
import Derived.SizedLaws
namespace Go.Proofs.Ytpdgmcmebpfbaaa.P
open Go.RowKit Go.Deep Go.Proofs.YtpdgmcmebpfbaaaW.PrintWords Go.Proofs.YtpdgmcmebpfbaaaW.PrintLast Go.Proofs.YtpdgmcmebpfbaaaW.PrintMore

/-- Each reading of a value of type t is one of the kind d, within its bounds. -/
def Opens {α : Type} (P : Program) (t : TypeId) (d : Kd α) (B : α → Prop) : Prop :=
  P.cellsOf t = d.sz ∧ ∀ (H : Type) (enc : TypeId × Value → H) (w : World) (held : Bool) (fuel : Nat) (cs : List Value) (x : DataW H × List MemPlace),
    DataW.trod enc P w 0 (fun _ => true) held fuel t cs = some x → (x.1.weights P t).all (· ≤ reachBytes) = true → ∃ a : α, d.K w a cs ∧ B a
theorem weights_at {H : Type} {P : Program} {ts : List TypeId} {ds : List (DataW H)} (h : (DataW.weightsEach P ts ds).all (· ≤ reachBytes) = true) (j : Nat) {t : TypeId} {d : DataW H} (ht : ts[j]? = some t) (hd : ds[j]? = some d) : (d.weights P t).all (· ≤ reachBytes) = true :=
  List.all_eq_true.2 fun n hn => List.all_eq_true.1 h _ (DataW.weights_mem_each ht hd n hn)
theorem weights_all {H : Type} {P : Program} {e : TypeId} : ∀ {ds : List (DataW H)} {d : DataW H}, d ∈ ds → (DataW.weightsAll P e ds).all (· ≤ reachBytes) = true → (d.weights P e).all (· ≤ reachBytes) = true
  | [], _, h, _ => absurd h (by simp)
  | x :: l, d, h, hw => by
    rw [DataW.weightsAll, List.all_append, Bool.and_eq_true] at hw
    rcases List.mem_cons.1 h with rfl | h
    · exact hw.1
    · exact weights_all h hw.2
theorem opens_int {P : Program} {t : TypeId} (k : IntKind) (ht : P.underlying t = some (.int k)) (hc : P.cellsOf t = 1) : Opens P t (Kd.int k) (fun n => (Lit.int k n).wf = true) :=
  ⟨hc, fun H enc w held fuel cs x h _ => by
    obtain ⟨n, rfl, _, hw⟩ := DataW.trod_int ht h
    exact ⟨n, rfl, hw⟩⟩
theorem opens_bool {P : Program} {t : TypeId} (ht : P.underlying t = some .bool) (hc : P.cellsOf t = 1) : Opens P t Kd.bool (fun _ => True) :=
  ⟨hc, fun H enc w held fuel cs x h hw => by
    obtain ⟨n, rfl, _⟩ := DataW.trod_bool ht h
    exact ⟨n, rfl, trivial⟩⟩
theorem opens_string {P : Program} {t : TypeId} (ht : P.underlying t = some .string) (hc : P.cellsOf t = 1) : Opens P t Kd.string (fun s => s.size ≤ 140737488351232) :=
  ⟨hc, fun H enc w held fuel cs x h hw => by
    obtain ⟨n, rfl, rfl, hs⟩ := DataW.trod_string ht h
    have h1 : n.data.toList.length ≤ reachBytes := of_decide_eq_true (List.all_eq_true.1 hw _ (by simp [DataW.weights]))
    refine ⟨n, rfl, ?_⟩
    have h2 : n.data.toList.length = n.size := by simp
    have h3 : reachBytes = 140737488351232 := rfl
    omega⟩
theorem opens_slice {α : Type} {P : Program} {t e : TypeId} {d : Kd α} {B : α → Prop} (z : α) (ht : P.underlying t = some (.slice e)) (hc : P.cellsOf t = 1) (hb : (P.bytesOf e == 0) = false) (he : Opens P e d B) :
    Opens P t (Kd.slice e d) (fun xs => xs.length ≤ 140737488351232 ∧ ∀ x ∈ xs, B x) :=
  ⟨hc, fun H enc w held fuel cs x h hw => by
    rcases open_slice ht h with ⟨rfl, _⟩ | ⟨a, len, cap, m, n, D, Pl, rfl, _, hl, hm, hmm, rfl, hx⟩
    · exact ⟨[], ⟨none, 0, rfl, Nat.le_refl _, rfl, Nat.zero_le _, fun hp => absurd hp (Nat.lt_irrefl 0)⟩, Nat.zero_le _, fun x hx => absurd hx (by simp)⟩
    · have hlm : len ≤ m := by rw [hmm]; split <;> omega
      simp only [DataW.weights, ht, List.all_cons, List.all_append, Bool.and_eq_true, List.length_map, List.length_range] at hw
      have h3 : reachBytes = 140737488351232 := rfl
      have hbp : 1 ≤ P.bytesOf e := by have h_ := beq_eq_false_iff_ne.1 hb; omega
      have hlr : len ≤ 140737488351232 := by
        have h1 : len * 1 ≤ (len + (m - len)) * P.bytesOf e := Nat.mul_le_mul (by omega) hbp
        have h2 : (len + (m - len)) * P.bytesOf e ≤ reachBytes := of_decide_eq_true hw.1
        omega
      haveI : Inhabited α := ⟨z⟩
      obtain ⟨f, hf⟩ := choose_lt (α := α) (n := len) (p := fun i a' => ∃ cs', w.cells? 0 (a.add (i * P.cellsOf e)) (P.cellsOf e) = some cs' ∧ d.K w a' cs' ∧ B a') (fun i hi => by
        obtain ⟨cs', h1, h2⟩ := hx i (by omega)
        obtain ⟨a', h3, h4⟩ := he.2 H enc w held n cs' _ h2 (weights_all (List.mem_map.2 ⟨i, List.mem_range.2 hi, rfl⟩) hw.2.1)
        exact ⟨a', cs', h1, h3, h4⟩)
      have hlen : ((List.range len).map f).length = len := by simp
      refine ⟨(List.range len).map f, ⟨some a, cap, by rw [hlen], by rw [hlen]; exact hl, hlen.trans hlen.symm, by rw [hlen]; exact Nat.le_trans hl hm, fun _ => ⟨a, rfl, fun j p hj => ?_⟩⟩, by rw [hlen]; exact hlr, fun y hy => ?_⟩
      · have hj' : j < len := by have := (List.getElem?_eq_some_iff.1 hj).1; simpa using this
        obtain ⟨cs', h1, h2, _⟩ := hf j hj'
        have hp : f j = p := by simpa [hj'] using hj
        subst hp
        obtain ⟨_, h3, h4⟩ := World.cells?_some h1
        rw [he.1] at h3 h4
        refine ⟨cs', h3, h2, fun i u hu => ?_⟩
        have hi : i < d.sz := by have := (List.getElem?_eq_some_iff.1 hu).1; omega
        have h5 := h4 i hi
        rw [hu] at h5
        rw [← h5, Addr.add_add]
      · obtain ⟨i, hi, rfl⟩ := List.mem_map.1 hy
        obtain ⟨_, _, _, hB⟩ := hf i (by simpa using hi)
        exact hB⟩
/-- Fields from a place on. -/
def OpensF {α : Type} (P : Program) (fs : List Field) (off : Nat) (d : Kd α) (B : α → Prop) : Prop :=
  ∀ (H : Type) (enc : TypeId × Value → H) (w : World) (held : Bool) (n : Nat) (cs : List Value), off + d.sz ≤ cs.length →
    (∀ f ∈ fs, ∃ y, DataW.trod enc P w 0 (fun _ => true) held n f.type ((cs.drop f.offset).take (P.cellsOf f.type)) = some y ∧ (y.1.weights P f.type).all (· ≤ reachBytes) = true) → ∃ a : α, d.K w a ((cs.drop off).take d.sz) ∧ B a
theorem opensF_one {α : Type} {P : Program} {f : Field} {off : Nat} {d : Kd α} {B : α → Prop} (ho : f.offset = off) (h : Opens P f.type d B) : OpensF P [f] off d B := by
  intro H enc w held n cs hl hf
  obtain ⟨y, hy, hw⟩ := hf f (by simp)
  rw [ho, h.1] at hy
  exact h.2 H enc w held n _ y hy hw
theorem opensF_cons {α β : Type} {P : Program} {f : Field} {fs : List Field} {off : Nat} {d : Kd α} {e : Kd β} {B : α → Prop} {C : β → Prop} (ho : f.offset = off) (h : Opens P f.type d B) (hs : OpensF P fs (off + d.sz) e C) :
    OpensF P (f :: fs) off (Kd.pair d e) (fun p => B p.1 ∧ C p.2) := by
  intro H enc w held n cs hl hf
  have hsz : (Kd.pair d e).sz = d.sz + e.sz := rfl
  rw [hsz] at hl
  obtain ⟨y, hy, hw⟩ := hf f (by simp)
  rw [ho, h.1] at hy
  obtain ⟨a, ha, hB⟩ := h.2 H enc w held n _ y hy hw
  obtain ⟨b, hb, hC⟩ := hs H enc w held n cs (by omega) (fun g hg => hf g (by simp [hg]))
  refine ⟨(a, b), ⟨(cs.drop off).take d.sz, (cs.drop (off + d.sz)).take e.sz, ?_, ha, hb⟩, hB, hC⟩
  rw [hsz, List.take_add, List.drop_drop]
theorem opens_struct {α β : Type} {P : Program} {t : TypeId} {fs : Array Field} {d : Kd α} {B : α → Prop} (proj : β → α) (mk : α → β) (hm : ∀ a, proj (mk a) = a) (ht : P.underlying t = some (.struct fs)) (hc : P.cellsOf t = d.sz) (h : OpensF P fs.toList 0 d B) :
    Opens P t (Kd.iso d proj) (fun x => B (proj x)) :=
  ⟨hc, fun H enc w held fuel cs x hx hw => by
    obtain ⟨xs, n, _, rfl, hl, hlen, hf⟩ := DataW.trod_struct ht hx
    obtain ⟨a, ha, hB⟩ := h H enc w held n cs (by rw [hl, hc]; omega) (fun f hf' => by
      obtain ⟨i, hi, he⟩ := List.getElem_of_mem hf'
      have h1 : fs[i]? = some f := by simpa [Array.getElem?_toList] using (List.getElem?_eq_some_iff.2 ⟨hi, he⟩)
      have h2 := hf i f h1
      have hi' : i < xs.length := by rw [hlen]; simpa using hi
      exact ⟨xs[i], by rw [h2, List.getElem?_eq_getElem hi'], by
        simp only [DataW.weights, ht] at hw
        refine weights_at hw i ?_ ?_
        · rw [List.getElem?_map, Array.getElem?_toList, h1]; rfl
        · rw [List.getElem?_map, List.getElem?_eq_getElem hi']; rfl⟩)
    rw [List.drop_zero, List.take_of_length_le (by rw [hl, hc]; exact Nat.le_refl _)] at ha
    exact ⟨mk a, by show d.K w (proj (mk a)) cs; rw [hm]; exact ha, by show B (proj (mk a)); rw [hm]; exact hB⟩⟩
theorem okWide_arr {P : Program} {w : World} {r : Reach} {base : Nat} {t e : TypeId} {n : Nat} {v : Value} (ht : P.underlying t = some (.array n e)) (h : Value.okWide P w r base t v) : ∃ cs, v = .agg cs ∧ cs.size = P.cellsOf t := by
  simp only [Value.okWide, ht] at h
  obtain ⟨cs, h1, h2, _⟩ := h
  exact ⟨cs, h1, h2⟩
/-- An array's elements, as fields. -/
def arrF (P : Program) (e : TypeId) (n : Nat) : List Field := (List.range n).map fun i => { name := "", type := e, offset := i * P.cellsOf e, embedded := false, tag := "", pkgPath := "", byteOffset := 0 }
theorem opens_array {α β : Type} {P : Program} {t e : TypeId} {n : Nat} {d : Kd α} {B : α → Prop} (proj : β → α) (mk : α → β) (hm : ∀ a, proj (mk a) = a) (ht : P.underlying t = some (.array n e)) (hc : P.cellsOf t = d.sz) (h : OpensF P (arrF P e n) 0 d B) :
    Opens P t (Kd.iso d proj) (fun x => B (proj x)) :=
  ⟨hc, fun H enc w held fuel cs x hx hw => by
    obtain ⟨xs, m, _, rfl, hl, hlen, hf⟩ := DataW.trod_array ht hx
    obtain ⟨a, ha, hB⟩ := h H enc w held m cs (by rw [hl, hc]; omega) (fun f hf' => by
      obtain ⟨i, hi, rfl⟩ := List.mem_map.1 hf'
      have hi2 : i < n := by simpa using hi
      have h2 := hf i hi2
      exact ⟨xs[i], by rw [h2, List.getElem?_eq_getElem (by omega)], by
        simp only [DataW.weights, ht] at hw
        exact weights_all (List.mem_map.2 ⟨xs[i]'(by omega), List.getElem_mem _, rfl⟩) hw⟩)
    rw [List.drop_zero, List.take_of_length_le (by rw [hl, hc]; exact Nat.le_refl _)] at ha
    exact ⟨mk a, by show d.K w (proj (mk a)) cs; rw [hm]; exact ha, by show B (proj (mk a)); rw [hm]; exact hB⟩⟩
theorem Opens.imp {α : Type} {P : Program} {t : TypeId} {d : Kd α} {B C : α → Prop} (h : Opens P t d B) (hi : ∀ a, B a → C a) : Opens P t d C :=
  ⟨h.1, fun H enc w held fuel cs x hx hw => by obtain ⟨a, h1, h2⟩ := h.2 H enc w held fuel cs x hx hw; exact ⟨a, h1, hi a h2⟩⟩
end Go.Proofs.Ytpdgmcmebpfbaaa.P
