/- Texts in their order: rising lists, each once. -/
import Derived.Test.YtpdgmcmebpfbaaaPx7
import Derived.Test.YtpdgmcmebpfbaaaTitleRf
namespace Go.Proofs.Ytpdgmcmebpfbaaa.P
open Go.RowKit Go.Proofs.YtpdgmcmebpfbaaaW.PrintWords Go.Proofs.YtpdgmcmebpfbaaaW.PrintLast
abbrev lessL (x y : List UInt8) : Bool := Op.bytesLess x y
theorem lessL_tot (x y : List UInt8) : (lessL x y || x == y) = !lessL y x := stylusref31_add.leqL x y
theorem lessL_irr (x : List UInt8) : lessL x x = false := by
 have := lessL_tot x x
 cases h : lessL x x
 ·rfl
 ·rw [h] at this; simp at this
theorem lessL_trans : ∀ {x y z : List UInt8}, lessL x y = true → lessL y z = true → lessL x z = true := by
 intro x y z h1 h2
 simp only [Go.Proofs.bytesLess_eq, decide_eq_true_eq] at *
 exact List.lt_trans h1 h2
theorem lessL_of {x y : List UInt8} (h : lessL y x = false) (hne : x ≠ y) : lessL x y = true := by
 have := lessL_tot x y
 rw [h] at this
 simpa [hne] using this
theorem lessL_leT {x y z : List UInt8} (h : lessL y x = false) (h2 : lessL y z = true) : lessL x z = true := by
 by_cases e : x = y
 ·rw [e]; exact h2
 ·exact lessL_trans (lessL_of h e) h2
theorem le_less (x y : List UInt8) : decide (x ≤ y) = !lessL y x := by
 rw [lessL, Go.Proofs.bytesLess_eq]
 by_cases h : y < x
 ·rw [decide_eq_true h, decide_eq_false (fun z => z h)]; rfl
 ·rw [decide_eq_false h, decide_eq_true (show x ≤ y from h)]; rfl
theorem rise_unique {α : Type} {R : α → α → Prop} (irr : ∀ a, ¬ R a a) (tr : ∀ {a b c}, R a b → R b c → R a c) : ∀ {l1 l2 : List α}, l1.Pairwise R → l2.Pairwise R → (∀ x, x ∈ l1 ↔ x ∈ l2) → l1 = l2
 | [], [], _, _, _ => rfl
 | [], b :: r, _, _, h => absurd ((h b).2 (List.mem_cons_self ..)) (by simp)
 | a :: r, [], _, _, h => absurd ((h a).1 (List.mem_cons_self ..)) (by simp)
 | a :: r1, b :: r2, h1, h2, h => by
  obtain ⟨p1, q1⟩ := List.pairwise_cons.1 h1
  obtain ⟨p2, q2⟩ := List.pairwise_cons.1 h2
  have e : a = b := by
   rcases List.mem_cons.1 ((h a).1 (List.mem_cons_self ..)) with e | m1
   ·exact e
   ·rcases List.mem_cons.1 ((h b).2 (List.mem_cons_self ..)) with e | m2
    ·exact e.symm
    ·exact absurd (tr (p2 a m1) (p1 b m2)) (irr b)
  subst e
  rw [rise_unique irr tr q1 q2 (fun x => ⟨fun m => ?_, fun m => ?_⟩)]
  ·rcases List.mem_cons.1 ((h x).1 (List.mem_cons_of_mem _ m)) with e | m2
   ·subst e; exact absurd (p1 x m) (irr x)
   ·exact m2
  ·rcases List.mem_cons.1 ((h x).2 (List.mem_cons_of_mem _ m)) with e | m2
   ·subst e; exact absurd (p2 x m) (irr x)
   ·exact m2
theorem compact_rise (d : Array (List UInt8)) (hs : ∀ i j, i < j → j < d.size → lessL d[j]! d[i]! = false) : ∀ m, m ≤ d.size → (Lib.compactUpTo d m).Pairwise (fun a b => lessL a b = true) ∧ ∀ x, x ∈ Lib.compactUpTo d m ↔ ∃ j, j < m ∧ x = d[j]! := by
 intro m
 induction m with
 | zero => intro _; exact ⟨by simp [Lib.compactUpTo], fun x => by simp [Lib.compactUpTo]⟩
 | succ m ih =>
  intro hm
  obtain ⟨h1, h2⟩ := ih (by omega)
  rw [Lib.compactUpTo_succ]
  by_cases hk : Lib.keeps d m = true
  ·rw [if_pos hk]
   refine ⟨List.pairwise_append.2 ⟨h1, by simp, fun a ha b hb => ?_⟩, fun x => ?_⟩
   ·obtain rfl := List.mem_singleton.1 hb
    obtain ⟨j, hj, rfl⟩ := (h2 a).1 ha
    have hne : d[m]! ≠ d[m - 1]! := by
     rcases of_decide_eq_true hk with e | e
     ·omega
     ·exact e
    have hl : lessL d[m - 1]! d[m]! = true := lessL_of (hs (m - 1) m (by omega) (by omega)) (fun e => hne e.symm)
    by_cases e : j = m - 1
    ·rw [e]; exact hl
    ·exact lessL_leT (hs j (m - 1) (by omega) (by omega)) hl
   ·rw [List.mem_append, h2 x, List.mem_singleton]
    constructor
    ·rintro (⟨j, hj, rfl⟩ | rfl)
     ·exact ⟨j, by omega, rfl⟩
     ·exact ⟨m, by omega, rfl⟩
    ·rintro ⟨j, hj, rfl⟩
     by_cases e : j = m
     ·exact .inr (by rw [e])
     ·exact .inl ⟨j, by omega, rfl⟩
  ·rw [if_neg hk, List.append_nil]
   refine ⟨h1, fun x => ?_⟩
   rw [h2 x]
   have hk2 : ¬ (m = 0 ∨ d[m]! ≠ d[m - 1]!) := fun z => hk (decide_eq_true z)
   have h0 : m ≠ 0 := fun e => hk2 (.inl e)
   have he : d[m]! = d[m - 1]! := Classical.byContradiction fun e => hk2 (.inr e)
   constructor
   ·rintro ⟨j, hj, rfl⟩
    exact ⟨j, by omega, rfl⟩
   ·rintro ⟨j, hj, rfl⟩
    by_cases e : j = m
    ·exact ⟨m - 1, by omega, by rw [e, he]⟩
    ·exact ⟨j, by omega, rfl⟩
/-- Sorted and each once: rising, with the same members. -/
theorem compact_sort (us : List (List UInt8)) : (Lib.compact (us.mergeSort fun x y => decide (x ≤ y))).Pairwise (fun a b => lessL a b = true) ∧ ∀ x, x ∈ Lib.compact (us.mergeSort fun x y => decide (x ≤ y)) ↔ x ∈ us := by
 have hp : (us.mergeSort fun x y => decide (x ≤ y)).Pairwise (fun x y => (decide (x ≤ y)) = true) := List.pairwise_mergeSort (le := fun x y => decide (x ≤ y)) (fun a b c h1 h2 => by
  rw [le_less] at *
  cases h : lessL c a
  ·rfl
  ·simp only [Bool.not_eq_true'] at h1 h2
   exact absurd (lessL_leT h2 h) (by rw [h1]; decide)) (fun a b => by
  rw [le_less, le_less]
  cases h : lessL b a
  ·rfl
  ·cases h3 : lessL a b
   ·rfl
   ·exact absurd (lessL_trans h h3) (by rw [lessL_irr]; decide)) us
 obtain ⟨zs, hz⟩ : ∃ zs, (us.mergeSort fun x y => decide (x ≤ y)) = zs := ⟨_, rfl⟩
 have hm : ∀ x, x ∈ zs ↔ x ∈ us := fun x => by rw [← hz]; exact List.mem_mergeSort
 rw [hz] at hp ⊢
 have hs : ∀ i j, i < j → j < zs.toArray.size → lessL zs.toArray[j]! zs.toArray[i]! = false := by
  intro i j hij hj
  have hj' : j < zs.length := by simpa using hj
  have := List.pairwise_iff_getElem.1 hp i j (by omega) hj' hij
  rw [le_less] at this
  rw [getElem!_pos zs.toArray j hj, getElem!_pos zs.toArray i (by omega)]
  simpa using this
 obtain ⟨r1, r2⟩ := compact_rise zs.toArray hs zs.length (by simp)
 refine ⟨r1, fun x => (r2 x).trans (Iff.trans ?_ (hm x))⟩
 constructor
 ·rintro ⟨j, hj, rfl⟩
  rw [getElem!_pos zs.toArray j (by simpa using hj)]
  simp
 ·intro h
  obtain ⟨j, hj, rfl⟩ := List.mem_iff_getElem.1 h
  exact ⟨j, hj, by rw [getElem!_pos zs.toArray j (by simpa using hj)]; simp⟩
/-! a rising list of texts -/
abbrev lessT (a b : ByteArray) : Prop := Op.bytesLess a.toList b.toList = true
def txAdd (s : ByteArray) : List ByteArray → List ByteArray
 | [] => [s]
 | a :: r => if s = a then a :: r else if lessT s a then s :: a :: r else a :: txAdd s r
def txOf (xs : List ByteArray) : List ByteArray := xs.foldl (fun l s => txAdd s l) []
theorem lessT_irr (a : ByteArray) : ¬ lessT a a := by
 intro h
 have := lessL_irr a.toList
 rw [show lessL a.toList a.toList = true from h] at this
 cases this
theorem lessT_trans {a b c : ByteArray} (h1 : lessT a b) (h2 : lessT b c) : lessT a c := lessL_trans h1 h2
theorem lessT_of {a b : ByteArray} (h : ¬ lessT b a) (hne : a ≠ b) : lessT a b := lessL_of (Bool.eq_false_iff.2 h) (fun e => hne (cat_list.1 e))
theorem mem_txAdd (n x : ByteArray) (l : List ByteArray) : x ∈ txAdd n l ↔ x = n ∨ x ∈ l := by
 induction l with
 | nil => simp [txAdd]
 | cons a r ih =>
  unfold txAdd
  split
  ·rename_i h
   subst h
   simp
  ·split
   ·simp
   ·simp only [List.mem_cons, ih]
    constructor
    ·rintro (h | h | h) <;> simp [h]
    ·rintro (h | h | h) <;> simp [h]
theorem rise_txAdd (n : ByteArray) (l : List ByteArray) (h : l.Pairwise lessT) : (txAdd n l).Pairwise lessT := by
 induction l with
 | nil => simp [txAdd]
 | cons a r ih =>
  obtain ⟨h1, h2⟩ := List.pairwise_cons.1 h
  unfold txAdd
  split
  ·exact h
  ·split
   ·rename_i h3 h4
    exact List.pairwise_cons.2 ⟨fun b hb => by
     rcases List.mem_cons.1 hb with rfl | hb
     ·exact h4
     ·exact lessT_trans h4 (h1 b hb), h⟩
   ·rename_i h3 h4
    exact List.pairwise_cons.2 ⟨fun b hb => by
     rcases (mem_txAdd n b r).1 hb with rfl | hb
     ·exact lessT_of h4 (fun e => h3 e.symm)
     ·exact h1 b hb, ih h2⟩
theorem txOf_fold (xs l : List ByteArray) (h : l.Pairwise lessT) : (xs.foldl (fun l n => txAdd n l) l).Pairwise lessT ∧ ∀ x, x ∈ xs.foldl (fun l n => txAdd n l) l ↔ x ∈ l ∨ x ∈ xs := by
 induction xs generalizing l with
 | nil => exact ⟨h, fun x => by simp⟩
 | cons a r ih =>
  obtain ⟨h1, h2⟩ := ih (txAdd a l) (rise_txAdd a l h)
  refine ⟨h1, fun x => ?_⟩
  rw [List.foldl_cons, h2 x, mem_txAdd, List.mem_cons]
  constructor
  ·rintro ((h | h) | h) <;> simp [h]
  ·rintro (h | h | h) <;> simp [h]
theorem txOf_rise (xs : List ByteArray) : (txOf xs).Pairwise lessT := (txOf_fold xs [] List.Pairwise.nil).1
theorem mem_txOf (xs : List ByteArray) (x : ByteArray) : x ∈ txOf xs ↔ x ∈ xs := by
 rw [txOf, (txOf_fold xs [] List.Pairwise.nil).2 x]
 simp
theorem pickOf_rise (l : List ByteArray) : (pickOf l).Pairwise lessT ∧ ∀ x, x ∈ pickOf l ↔ x ∈ l := by
 obtain ⟨h1, h2⟩ := compact_sort (l.map fun s => s.data.toList)
 unfold pickOf
 refine ⟨List.pairwise_map.2 (h1.imp fun {a b} h => by show Op.bytesLess _ _ = true; rw [ByteArray.toList_eq, ByteArray.toList_eq]; exact h), fun x => ?_⟩
 rw [List.mem_map]
 constructor
 ·rintro ⟨u, hu, rfl⟩
  obtain ⟨s, hs, rfl⟩ := List.mem_map.1 ((h2 u).1 hu)
  exact (show (⟨s.data.toList.toArray⟩ : ByteArray) = s from by simp) ▸ hs
 ·intro h
  exact ⟨x.data.toList, (h2 _).2 (List.mem_map.2 ⟨x, h, rfl⟩), by simp⟩
theorem pickOf_txOf (l : List ByteArray) : pickOf l = txOf l :=
 rise_unique lessT_irr lessT_trans (pickOf_rise l).1 (txOf_rise l) fun x => ((pickOf_rise l).2 x).trans (mem_txOf l x).symm
end Go.Proofs.Ytpdgmcmebpfbaaa.P
