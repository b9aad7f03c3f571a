/- A range over a function whose iterator keeps one number of its own in a cell (block C), for a body that never leaves. No program in sight. -/
import Derived.RangeFuncNested
import Derived.RangeFuncCalls
namespace RangeSeq
open Go Go.RowKit
variable {F : Fence} {n : Nat} {P : Program}
/-- What new blocks, and a turn of block C, leave true. -/
def StableBut {β : Type} (C : Nat) (J : β → World → Prop) : Prop := ∀ s W W', J s W → (W.grownBy W' none ∨ W.grownBy W' (some C)) → J s W'
/-- The iterator's contract: it hands on the values xs, one behind the other, and is done. -/
def Gives {α : Type} (F : Fence) (n : Nat) (P : Program) (g : Nat) (lb : Array Value) (encs : α → Array Value) (Kp : World → World → Prop) (C : Nat) (xs : List α) (w : World) : Prop :=
 ∀ (l : Nat) (J : List α → World → Prop) (W : World), Below w.heap.size w W → StableBut C J →
  (∀ pre x W1, J pre W1 → pre.length < xs.length → YieldAt F (n - 1) P l (encs x) W1 fun e W' => e = .returned (.bool true) ∧ J (pre ++ [x]) W' ∧ Kp W1 W') →
  J [] W → CallsIn F n P g (#[.func (.yield l) #[] #[]] ++ lb) W fun e W' => (∃ v, e = .returned v) ∧ J xs W'
/-- How a round ends: it goes on. -/
def goesOn {α : Type} (B : Nat) (Kp : World → World → Prop) (I : List α → World → Prop) (ys : List α) (W : World) : Exit → Act → World → Prop
 | .normal, _, W' => KeepsFrom B W W' ∧ Kp W W' ∧ I ys W'
 | _, _, _ => False
theorem range_gives {α : Type} {g : Operand} {ps : Array Tmp} {assign body : Code} {Q : Exit → Act → World → Prop} {a : Act} {w : World} {C : Nat} (hC : C < w.heap.size)
  (hro : F.round = none) (h1 : 1 ≤ n) {gf : Nat} {lb : Array Value} (hg : a.eval g = .func (.func gf) #[] lb) (hFg : F.fn gf) (eg : ∀ args w, (callFunc gf args).run P w = .ok (.enter gf args) w)
  {encs : α → Array Value} {Kp : World → World → Prop} {xs : List α} (hseq : Gives F (n - 1) P gf lb encs Kp C xs w)
  (hKt : ∀ {X Y Z : World}, Kp X Y → Kp Y Z → Kp X Z) (hKb : ∀ (W : World) (k : Nat) (o o' : Obj), w.heap.size ≤ k → W.heap[k]? = some o → o.isCells = false → Kp W (W.putObj k o')) (hps : ∀ x, (encs x).size = ps.size)
  (I : List α → World → Prop) (hI : OwnFrom w.heap.size I) (hIC : StableBut C I) (h0 : I [] w) (Ax : α → Act → World → Prop) (hAx : ∀ x a', OwnFrom w.heap.size (fun (_ : Unit) W => Ax x a' W))
  (hassign : ∀ (l : Nat) (pre : List α) (x : α) (W : World) (K : Act → World → Prop), I pre W → (∀ a' W', KeepsFrom w.heap.size W W' → Kp W W' → I pre W' → Ax x a' W' → K a' W') →
   assign.wpIn (F.inRound l) (n - 1 - 1) P (Exit.then K (fun _ _ _ => False)) { tmps := (ps.zip (encs x)).foldl (fun t (p, v) => t.setIfInBounds p v) a.tmps, defers := [] } W)
  (hbody : ∀ (l : Nat) (pre : List α) (x : α) (a' : Act) (W : World), I pre W → pre.length < xs.length → Ax x a' W → body.wpIn (F.inRound l) (n - 1 - 1) P (goesOn w.heap.size Kp I (pre ++ [x]) W) a' W)
  (hdone : ∀ (D : Nat) (W : World), w.heap.size ≤ D → I xs W → W.heap[D]? = some (.deferred (some [])) → Q .normal { a with defers := { target := .collected D, args := #[] } :: a.defers } W) :
  (Code.rangeFunc g ps assign body).wpIn F n P Q a w := by
 apply wpIn_rangeFunc
 intro fn hfn
 rw [hro]
 -- the two blocks of book-keeping: the rounds' deferred calls at m, the loop's record at m + 1
 generalize hm : w.heap.size = m at *
 let rec_ : LoopState → Option Code → Loop := fun st pe => { state := st, pending := pe, fn, tmps := a.tmps, params := ps, assign, body, defers := m }
 let Book : LoopState → World → Prop := fun st W => W.heap[m + 1]? = some (.loop (rec_ st none)) ∧ W.heap[m]? = some (.deferred (some []))
 obtain ⟨U, hU⟩ : ∃ U, (w.alloc (.deferred (some []))).alloc (.loop (rec_ .ready none)) = U := ⟨_, rfl⟩
 have bookU : Book .ready U := by
  subst hU
  constructor
  ·have e := World.alloc_heap_new (w.alloc (.deferred (some []))) (.loop (rec_ .ready none))
   rwa [World.size_alloc, hm] at e
  ·refine (Below.heap_alloc _ _ _ (by simp [hm])).trans ?_
   have e := World.alloc_heap_new w (.deferred (some []))
   rwa [hm] at e
 have beU : Below m w U := by
  subst hU
  exact (((Below.refl m w).alloc (Nat.le_of_eq hm.symm) _).alloc (by simp [hm]) _)
 have iU : I [] U := by
  subst hU
  exact hI.alloc _ (hI.alloc _ h0)
 have bookSt : ∀ {st : LoopState} {X Y : World} {row : Option Nat}, Book st X → X.grownBy Y row → (row = none ∨ row = some C) → Book st Y := by
  intro st X Y row hb hgr hrow
  have far : ∀ k, m ≤ k → some k ≠ row := by
   intro k hk e
   rcases hrow with rfl | rfl
   ·cases e
   ·injection e with e
    omega
  exact ⟨(hgr.block _ (Array.getElem?_eq_some_iff.1 hb.1).1 (far _ (by omega))).trans hb.1, (hgr.block _ (Array.getElem?_eq_some_iff.1 hb.2).1 (far _ (Nat.le_refl _))).trans hb.2⟩
 refine ⟨m + 1, [{ target := .collected m, args := #[] }], U, { target := .fn (.func gf) lb, args := #[.func (.yield (m + 1)) #[] #[]] }, U, gf, #[.func (.yield (m + 1)) #[] #[]] ++ lb, U, ?_, ?_, ?_, ?_, fun _ => h1, ?_⟩
 ·subst hU
  subst hm
  exact run_enterLoop_outer _ _ _ _ _
 ·simp only [resolve, hg]
  simp [go_sem]
 ·intro f' e
  simp [Target.leads] at e
  subst e
  exact hFg
 ·simp [invoke, go_sem, eg]
 ·refine (hseq (m + 1) (fun pre W => I pre W ∧ Book .ready W) U (by rw [hm]; exact beU) (fun s X Y hs hgr => ⟨hIC s X Y hs.1 hgr, ?_⟩) ?_ ⟨iU, bookU⟩).mono ?_
  ·rcases hgr with hgr | hgr
   ·exact bookSt hs.2 hgr (.inl rfl)
   ·exact bookSt hs.2 hgr (.inr rfl)
  ·rintro pre x W ⟨hi, hbk⟩ hlen
   refine ⟨fn, _, assign, body, run_yield hbk.1 (hps x), roundIn_of_wpIn hfn (hassign _ pre x W _ hi ?_)⟩
   intro a' V hkf hkp hiV haV
   have bV : Book .ready V := ⟨hkf.same _ _ (by omega) hbk.1 rfl, hkf.same _ _ (Nat.le_refl _) hbk.2 rfl⟩
   refine ⟨_, run_beginRound bV.1 rfl, ?_⟩
   have bB : Book .busy (V.putObj (m + 1) (.loop (rec_ .busy none))) := ⟨World.putObj_heap_same (Array.getElem?_eq_some_iff.1 bV.1).1, (World.putObj_heap_other (by omega)).trans bV.2⟩
   refine wpIn_mono (hbody (m + 1) pre x a' _ (hI.putObj _ hiV (by omega) bV.1 rfl) hlen ((hAx x a').putObj (s := ()) _ haV (by omega) bV.1 rfl)) ?_
   intro e a3 X hp
   cases e with
   | normal =>
    obtain ⟨kf, kp, ix⟩ := hp
    have bX : Book .busy X := ⟨kf.same _ _ (by omega) bB.1 rfl, kf.same _ _ (Nat.le_refl _) bB.2 rfl⟩
    refine ⟨_, _, run_endRound none bX.1, rfl, ⟨hI.putObj _ ix (by omega) bX.1 rfl, World.putObj_heap_same (Array.getElem?_eq_some_iff.1 bX.1).1, (World.putObj_heap_other (by omega)).trans bX.2⟩, ?_⟩
    exact hKt hkp (hKt (hKt (hKb _ _ _ _ (by omega) bV.1 rfl) kp) (hKb _ _ _ _ (by omega) bX.1 rfl))
   | _ => exact hp.elim
  ·rintro e X ⟨⟨v, rfl⟩, hi, hbk⟩
   exact ⟨none, _, run_endLoop hbk.1 (by simp [rec_]), hdone m _ (Nat.le_refl _) (hI.putObj _ hi (by omega) hbk.1 rfl) ((World.putObj_heap_other (by omega)).trans hbk.2)⟩
end RangeSeq
