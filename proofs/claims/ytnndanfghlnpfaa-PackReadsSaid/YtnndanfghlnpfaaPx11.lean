import Derived.Test.YtnndanfghlnpfaaPx0
import Derived.Defers
import Derived.Recover
import Derived.Test.YtnndanfghlnpfaaPx8
import Derived.Test.YtnndanfghlnpfaaPx10
namespace Go.Proofs.Ytnndanfghlnpfaa.P
open Go.RowKit Go.Proofs.YtnndanfghlnpfaaW.PrintWords Go.Proofs.YtnndanfghlnpfaaW.PrintLast Go.Proofs.YtnndanfghlnpfaaW.PrintMore
attribute [local go_sem] max2_int min2_int max_two min_two max_three min_three max_four min_four   -- for this text's walks alone
set_option linter.unusedVariables false
set_option linter.unusedSimpArgs false
/-! ### pack_Read: function 10 -/
def pk_out {α : Type} (e : Ending) (P : α → Prop) : Except Int α → Prop
 | .error c => e = .panicked [{ v := .iface 29 (.int .i64 c), recovered := false }]
 | .ok a => P a
def pk_bind {α β : Type} (x : Option (Except Int α)) (f : α → Option (Except Int β)) : Option (Except Int β) :=
 x.bind fun | .error c => some (.error c) | .ok a => f a
theorem pk_bind.mono {α β : Type} {x y : Option (Except Int α)} {f g : α → Option (Except Int β)} (h : LeO x y) (hf : ∀ a, LeO (f a) (g a)) : LeO (pk_bind x f) (pk_bind y g) :=
 LeO.bind h fun | .error _ => LeO.refl _ | .ok a => hf a
theorem pk_bind.ok {α β : Type} {x : Option (Except Int α)} {f : α → Option (Except Int β)} {r : β} (h : pk_bind x f = some (.ok r)) : ∃ a, x = some (.ok a) ∧ f a = some (.ok r) := by
 obtain ⟨a, ha, hb⟩ := Option.bind_eq_some_iff.mp h
 cases a with
 | error c => cases hb
 | ok a => exact ⟨a, ha, hb⟩
theorem pk_bind.error {α β : Type} {x : Option (Except Int α)} {f : α → Option (Except Int β)} {c : Int} (h : pk_bind x f = some (.error c)) : x = some (.error c) ∨ ∃ a, x = some (.ok a) ∧ f a = some (.error c) := by
 obtain ⟨a, ha, hb⟩ := Option.bind_eq_some_iff.mp h
 cases a with
 | error c => cases hb; exact .inl ha
 | ok a => exact .inr ⟨a, ha, hb⟩
def rd_at (g : Nat) (s : ByteArray) (p : Int) (w : World) : Prop := w.heap[g]? = some (.cells #[.string s, .int .i64 p] 61 (0, 0))
def rd_fr (g : Nat) (w w' : World) : Prop := Below g w w' ∧ KeepBut w w' g none
theorem rd_fr.refl {g : Nat} {w : World} : rd_fr g w w := ⟨Below.refl _ _, KeepBut.refl _ _ _⟩
theorem rd_fr.trans {g : Nat} {w w1 w2 : World} (h : rd_fr g w w1) (k : rd_fr g w1 w2) : rd_fr g w w2 := ⟨h.1.trans k.1, h.2.trans k.2 (.inl rfl)⟩
theorem rd_fr.full {g : Nat} {w w' : World} (hg : g ≤ w.heap.size) (hb : Below w.heap.size w w') : rd_fr g w w' := ⟨hb.mono hg, KeepBut.of_below hb _ _⟩
theorem rd_at.le {g : Nat} {s : ByteArray} {p : Int} {w : World} (h : rd_at g s p w) : g ≤ w.heap.size := Nat.le_of_lt (blk_lt h)
theorem rd_at.below {g : Nat} {s : ByteArray} {p : Int} {w w' : World} (h : rd_at g s p w) (hb : Below w.heap.size w w') : rd_at g s p w' := (hb.block _ (blk_lt h)).trans h
def pk_take (s : ByteArray) (p n : Int) : Option (Except Int (ByteArray × Int)) :=
 if 0 ≤ p ∧ p ≤ (s.size : Int) ∧ (s.size : Int) ≤ 1099511627776 ∧ 0 ≤ n ∧ n ≤ 1099511627776 then (if (s.size : Int) - p < n then some (.error 18) else some (.ok (s.extract p.toNat (p + n).toNat, p + n))) else none
set_option maxHeartbeats 4000000 in
set_option maxRecDepth 100000 in
theorem pk_take.calls (g : Nat) (s : ByteArray) (p n : Int) (o : Except Int (ByteArray × Int)) (w : World) (hg : rd_at g s p w) (h : pk_take s p n = some o) :
  Calls Try.prog 82 #[.pointer (some ⟨g, 0, none⟩), .int .i64 n] w fun e w' => pk_out e (fun r => e = .returned (.string r.1) ∧ rd_at g s r.2 w') o ∧ rd_fr g w w' := by
 unfold pk_take at h
 split at h
 rotate_left
 ·cases h
 rename_i hb
 obtain ⟨b0, b1, b2, b3, b4⟩ := hb
 have w1 : wrap64 ((s.size : Int) - p) = (s.size : Int) - p := by unfold wrap64; omega
 have y0 := (blk_cell hg 0).trans rfl
 have y1 := (blk_cell hg 1).trans rfl
 have yf := blk_frozen hg 1
 have HG := aS_ hg
 split at h
 ·rename_i hlt
  obtain rfl := Option.some.inj h
  have d0 : decide ((s.size : Int) - p < n) = true := decide_eq_true hlt
  clear h hg b0 b1 b2 b3 b4 hlt
  have hpan : ∀ w : World, (Instr.panic (.iface 29 (.int .i64 18))).run Try.prog w = .halt (.panic (.iface 29 (.int .i64 18))) w := fun _ => rfl
  go_enter Try.func82, Try.ntmps82
  go_wp2
  repeat (go_quiet (fail); try go_wp2)
  exact ⟨rfl, rfl, rd_fr.full HG.out.le (wN (Below.refl _ _) _)⟩
 ·rename_i hlt
  obtain rfl := Option.some.inj h
  have d0 : decide ((s.size : Int) - p < n) = false := decide_eq_false hlt
  have w2 : wrap64 (p + n) = p + n := by unfold wrap64; omega
  have e0 : (0 ≤ p) = True := eq_true b0
  have e1 : (p ≤ p + n) = True := eq_true (by omega)
  have e2 : (p + n ≤ (s.size : Int)) = True := eq_true (by omega)
  have e3 : decide (0 ≤ p) = true := decide_eq_true b0
  have e4 : decide (p ≤ p + n) = true := decide_eq_true (by omega)
  have e5 : decide (p + n ≤ (s.size : Int)) = true := decide_eq_true (by omega)
  clear h hg b0 b1 b2 b3 b4 hlt
  go_enter Try.func82, Try.ntmps82
  go_wp2
  repeat (go_quiet (fail); try go_wp2)
  go_ret
  exact ⟨⟨rfl, blk_put (bN HG.out _) 1 _ rfl⟩, (wN (Below.refl _ _) _).setCell (p := ⟨g, 1, none⟩) (Nat.le_refl _) _, (keep_drewN (KeepBut.refl w g none) _).set_ 1 _⟩
def pk_place (k : Nat) (s : ByteArray) (p : Int) : Option (Except Int (Int × Int)) := pk_bind (pk_take s p 4) fun t => (num_Get32.f k t.1 0).bind fun n => some (.ok (n.1, t.2))
def pk_count (k : Nat) (s : ByteArray) (p : Int) : Option (Except Int (Int × Int)) := pk_bind (pk_take s p 2) fun t => (num_Get16.f k t.1 0).bind fun n => some (.ok (n.1, t.2))
def pk_text (k : Nat) (s : ByteArray) (p : Int) : Option (Except Int (ByteArray × Int)) := pk_bind (pk_place k s p) fun n => pk_take s n.2 n.1
def pk_flag (s : ByteArray) (p : Int) : Option (Except Int (Bool × Int)) := pk_bind (pk_take s p 1) fun t => if 0 < t.1.size then (if 1 < bt t.1 0 then some (.error 5) else some (.ok (bt t.1 0 == 1, t.2))) else none
theorem pk_place.mono (k : Nat) (s : ByteArray) (p : Int) : LeO (pk_place k s p) (pk_place (k + 1) s p) := pk_bind.mono (LeO.refl _) fun _ => LeO.bind (num_Get32.mono _ _ _) fun _ => LeO.refl _
theorem pk_count.mono (k : Nat) (s : ByteArray) (p : Int) : LeO (pk_count k s p) (pk_count (k + 1) s p) := pk_bind.mono (LeO.refl _) fun _ => LeO.bind (num_Get16.mono _ _ _) fun _ => LeO.refl _
theorem pk_text.mono (k : Nat) (s : ByteArray) (p : Int) : LeO (pk_text k s p) (pk_text (k + 1) s p) := pk_bind.mono (pk_place.mono k s p) fun _ => LeO.refl _
set_option maxHeartbeats 4000000 in
set_option maxRecDepth 100000 in
theorem pk_place.calls (k g : Nat) (s : ByteArray) (p : Int) (o : Except Int (Int × Int)) (w : World) (hg : rd_at g s p w) (h : pk_place k s p = some o) :
  Calls Try.prog 59 #[.pointer (some ⟨g, 0, none⟩)] w fun e w' => pk_out e (fun r => e = .returned (.int .i64 r.1) ∧ rd_at g s r.2 w') o ∧ rd_fr g w w' := by
 have HG := aS_ hg
 clear hg
 cases o with
 | error c =>
  rcases pk_bind.error h with h1 | ⟨a, _, h2⟩
  rotate_left
  ·obtain ⟨n, _, h2⟩ := Option.bind_eq_some_iff.mp h2
   cases h2
  have H1 := aS_ h1
  clear h h1
  go_enter Try.func59, Try.ntmps59
  go_wp2_with (go_at_call 82; refine (pk_take.calls g s p 4 (.error c) _ HG.out H1.out).mono ?_; rintro e w2 ⟨rfl, hf⟩; have HF := aS_ hf; clear hf)
  exact ⟨rfl, rfl, HF.out⟩
 | ok r =>
  obtain ⟨a, h1, h2⟩ := pk_bind.ok h
  obtain ⟨⟨n, ok⟩, hn, h3⟩ := Option.bind_eq_some_iff.mp h2
  obtain rfl := Except.ok.inj (Option.some.inj h3)
  have H1 := aS_ h1
  have H2 := aS_ hn
  clear h h1 h2 h3 hn
  go_enter Try.func59, Try.ntmps59
  go_wp2_with (first
   | (go_at_call 82; refine (pk_take.calls g s p 4 (.ok a) _ HG.out H1.out).mono ?_; rintro e w2 ⟨⟨rfl, hg2⟩, hf⟩; have HG2 := aS_ hg2; have HF := aS_ hf; clear hg2 hf)
   | (go_at_call 84; refine (num_Get32.calls k a.1 0 n ok _ H2.out).mono ?_; rintro e w3 ⟨rfl, hb⟩; have HB := aS_ hb; clear hb))
  go_ret
  exact ⟨⟨rfl, HG2.out.below HB.out⟩, HF.out.trans (rd_fr.full HG2.out.le HB.out)⟩
set_option maxHeartbeats 4000000 in
set_option maxRecDepth 100000 in
theorem pk_count.calls (k g : Nat) (s : ByteArray) (p : Int) (o : Except Int (Int × Int)) (w : World) (hg : rd_at g s p w) (h : pk_count k s p = some o) :
  Calls Try.prog 58 #[.pointer (some ⟨g, 0, none⟩)] w fun e w' => pk_out e (fun r => e = .returned (.int .i64 r.1) ∧ rd_at g s r.2 w') o ∧ rd_fr g w w' := by
 have HG := aS_ hg
 clear hg
 cases o with
 | error c =>
  rcases pk_bind.error h with h1 | ⟨a, _, h2⟩
  rotate_left
  ·obtain ⟨n, _, h2⟩ := Option.bind_eq_some_iff.mp h2
   cases h2
  have H1 := aS_ h1
  clear h h1
  go_enter Try.func58, Try.ntmps58
  go_wp2_with (go_at_call 82; refine (pk_take.calls g s p 2 (.error c) _ HG.out H1.out).mono ?_; rintro e w2 ⟨rfl, hf⟩; have HF := aS_ hf; clear hf)
  exact ⟨rfl, rfl, HF.out⟩
 | ok r =>
  obtain ⟨a, h1, h2⟩ := pk_bind.ok h
  obtain ⟨⟨n, ok⟩, hn, h3⟩ := Option.bind_eq_some_iff.mp h2
  obtain rfl := Except.ok.inj (Option.some.inj h3)
  have H1 := aS_ h1
  have H2 := aS_ hn
  clear h h1 h2 h3 hn
  go_enter Try.func58, Try.ntmps58
  go_wp2_with (first
   | (go_at_call 82; refine (pk_take.calls g s p 2 (.ok a) _ HG.out H1.out).mono ?_; rintro e w2 ⟨⟨rfl, hg2⟩, hf⟩; have HG2 := aS_ hg2; have HF := aS_ hf; clear hg2 hf)
   | (go_at_call 83; refine (num_Get16.calls k a.1 0 n ok _ H2.out).mono ?_; rintro e w3 ⟨rfl, hb⟩; have HB := aS_ hb; clear hb))
  go_ret
  exact ⟨⟨rfl, HG2.out.below HB.out⟩, HF.out.trans (rd_fr.full HG2.out.le HB.out)⟩
set_option maxHeartbeats 4000000 in
set_option maxRecDepth 100000 in
theorem pk_text.calls (k g : Nat) (s : ByteArray) (p : Int) (o : Except Int (ByteArray × Int)) (w : World) (hg : rd_at g s p w) (h : pk_text k s p = some o) :
  Calls Try.prog 57 #[.pointer (some ⟨g, 0, none⟩)] w fun e w' => pk_out e (fun r => e = .returned (.string r.1) ∧ rd_at g s r.2 w') o ∧ rd_fr g w w' := by
 have HG := aS_ hg
 clear hg
 cases o with
 | error c =>
  rcases pk_bind.error h with h1 | ⟨a, h1, h2⟩
  ·have H1 := aS_ h1
   clear h h1
   go_enter Try.func57, Try.ntmps57
   go_wp2_with (go_at_call 59; refine (pk_place.calls k g s p (.error c) _ HG.out H1.out).mono ?_; rintro e w2 ⟨rfl, hf⟩; have HF := aS_ hf; clear hf)
   exact ⟨rfl, rfl, HF.out⟩
  ·have H1 := aS_ h1
   have H2 := aS_ h2
   clear h h1 h2
   go_enter Try.func57, Try.ntmps57
   go_wp2_with (first
    | (go_at_call 59; refine (pk_place.calls k g s p (.ok a) _ HG.out H1.out).mono ?_; rintro e w2 ⟨⟨rfl, hg2⟩, hf⟩; have HG2 := aS_ hg2; have HF := aS_ hf; clear hg2 hf)
    | (go_at_call 82; refine (pk_take.calls g s a.2 a.1 (.error c) _ HG2.out H2.out).mono ?_; rintro e w3 ⟨rfl, hf⟩; have HF2 := aS_ (HF.out.trans hf); clear hf))
   exact ⟨rfl, rfl, HF2.out⟩
 | ok r =>
  obtain ⟨a, h1, h2⟩ := pk_bind.ok h
  have H1 := aS_ h1
  have H2 := aS_ h2
  clear h h1 h2
  go_enter Try.func57, Try.ntmps57
  go_wp2_with (first
   | (go_at_call 59; refine (pk_place.calls k g s p (.ok a) _ HG.out H1.out).mono ?_; rintro e w2 ⟨⟨rfl, hg2⟩, hf⟩; have HG2 := aS_ hg2; have HF := aS_ hf; clear hg2 hf)
   | (go_at_call 82; refine (pk_take.calls g s a.2 a.1 (.ok r) _ HG2.out H2.out).mono ?_; rintro e w3 ⟨⟨rfl, hg3⟩, hf⟩; have HG3 := aS_ hg3; have HF2 := aS_ (HF.out.trans hf); clear hg3 hf))
  go_ret
  exact ⟨⟨rfl, HG3.out⟩, HF2.out⟩
set_option maxHeartbeats 4000000 in
set_option maxRecDepth 100000 in
theorem pk_flag.calls (g : Nat) (s : ByteArray) (p : Int) (o : Except Int (Bool × Int)) (w : World) (hg : rd_at g s p w) (h : pk_flag s p = some o) :
  Calls Try.prog 61 #[.pointer (some ⟨g, 0, none⟩)] w fun e w' => pk_out e (fun r => e = .returned (.bool r.1) ∧ rd_at g s r.2 w') o ∧ rd_fr g w w' := by
 have HG := aS_ hg
 clear hg
 have hpan : ∀ w : World, (Instr.panic (.iface 29 (.int .i64 5))).run Try.prog w = .halt (.panic (.iface 29 (.int .i64 5))) w := fun _ => rfl
 cases o with
 | error c =>
  rcases pk_bind.error h with h1 | ⟨a, h1, h2⟩
  ·have H1 := aS_ h1
   clear h h1
   go_enter Try.func61, Try.ntmps61
   go_wp2_with (go_at_call 82; refine (pk_take.calls g s p 1 (.error c) _ HG.out H1.out).mono ?_; rintro e w2 ⟨rfl, hf⟩; have HF := aS_ hf; clear hf)
   exact ⟨rfl, rfl, HF.out⟩
  ·split at h2
   rotate_left
   ·cases h2
   rename_i hz
   split at h2
   rotate_left
   ·cases h2
   rename_i hgt
   obtain rfl := Except.error.inj (Option.some.inj h2)
   have H1 := aS_ h1
   have d0 : decide (1 < bt a.1 0) = true := decide_eq_true hgt
   have d1 : ((0 : Int) < (a.1.size : Int)) = True := eq_true (by omega)
   have d2 : decide ((0 : Int) < (a.1.size : Int)) = true := decide_eq_true (by omega)
   have d3 : 0 < a.1.size := hz
   have d4 : ∀ h : 0 < a.1.size, ((a.1[0]'h).toNat : Int) = bt a.1 0 := bt_at a.1 0
   clear h h1 h2 hz hgt
   go_enter Try.func61, Try.ntmps61
   go_wp2_with (go_at_call 82; refine (pk_take.calls g s p 1 (.ok a) _ HG.out H1.out).mono ?_; rintro e w2 ⟨⟨rfl, hg2⟩, hf⟩; have HF := aS_ hf; clear hg2 hf)
   exact ⟨rfl, rfl, HF.out⟩
 | ok r =>
  obtain ⟨a, h1, h2⟩ := pk_bind.ok h
  split at h2
  rotate_left
  ·cases h2
  rename_i hz
  split at h2
  ·cases h2
  rename_i hgt
  obtain rfl := Except.ok.inj (Option.some.inj h2)
  have H1 := aS_ h1
  have d0 : decide (1 < bt a.1 0) = false := decide_eq_false hgt
  have d1 : ((0 : Int) < (a.1.size : Int)) = True := eq_true (by omega)
  have d2 : decide ((0 : Int) < (a.1.size : Int)) = true := decide_eq_true (by omega)
  have d3 : 0 < a.1.size := hz
  have d4 : ∀ h : 0 < a.1.size, ((a.1[0]'h).toNat : Int) = bt a.1 0 := bt_at a.1 0
  clear h h1 h2 hz hgt
  go_enter Try.func61, Try.ntmps61
  go_wp2_with (go_at_call 82; refine (pk_take.calls g s p 1 (.ok a) _ HG.out H1.out).mono ?_; rintro e w2 ⟨⟨rfl, hg2⟩, hf⟩; have HG2 := aS_ hg2; have HF := aS_ hf; clear hg2 hf)
  go_ret
  exact ⟨⟨rfl, HG2.out⟩, HF.out⟩
theorem rd_ne {g B : Nat} (h : g < B) : ∀ k, B ≤ k → k ≠ g := fun _ hk e => by omega
theorem rd_fr.over {g : Nat} {w W w1 : World} (h : rd_fr g w W) (hg : g ≤ w.heap.size) (hb : Below w.heap.size W w1) : rd_fr g w w1 :=
 ⟨h.1.trans (hb.mono hg), Nat.le_trans h.2.1 hb.size, fun i hi hne _ => (hb.block i hi).trans (h.2.2 i hi hne (by simp))⟩
theorem rd_at.over {g : Nat} {s : ByteArray} {p : Int} {w W w1 : World} (h : rd_at g s p W) (hg : g < w.heap.size) (hb : Below w.heap.size W w1) : rd_at g s p w1 := (hb.block _ hg).trans h
def pk_edits1 (k : Nat) (s : ByteArray) : Nat → Int → List S88 → Option (Except Int (List S88 × Int))
 | 0, p, out => some (.ok (out, p))
 | m + 1, p, out => pk_bind (pk_place k s p) fun a => pk_bind (pk_text k s a.2) fun b => pk_bind (pk_text k s b.2) fun c => pk_edits1 k s m c.2 (out ++ [⟨a.1, b.1, c.1⟩])
def pk_edits (k : Nat) (s : ByteArray) (p : Int) : Option (Except Int (List S88 × Int)) := pk_bind (pk_count k s p) fun n => if 0 ≤ n.1 ∧ n.1 ≤ 1000000 then pk_edits1 k s n.1.toNat n.2 [] else none
theorem pk_edits1.mono (k : Nat) (s : ByteArray) : ∀ m p out, LeO (pk_edits1 k s m p out) (pk_edits1 (k + 1) s m p out)
 | 0, _, _ => LeO.refl _
 | m + 1, _, _ => pk_bind.mono (pk_place.mono k s _) fun _ => pk_bind.mono (pk_text.mono k s _) fun _ => pk_bind.mono (pk_text.mono k s _) fun _ => pk_edits1.mono k s m _ _
theorem pk_edits.mono (k : Nat) (s : ByteArray) (p : Int) : LeO (pk_edits k s p) (pk_edits (k + 1) s p) := pk_bind.mono (pk_count.mono k s _) fun _ => LeO.ite (pk_edits1.mono k s _ _ _) (LeO.refl _)
set_option maxHeartbeats 8000000 in
set_option maxRecDepth 100000 in
theorem pk_edits.calls (k g : Nat) (s : ByteArray) (p : Int) (o : Except Int (List S88 × Int)) (w : World) (hg : rd_at g s p w) (h : pk_edits k s p = some o) :
  Calls Try.prog 62 #[.pointer (some ⟨g, 0, none⟩)] w fun e w' => pk_out e (fun r => ∃ v, e = .returned v ∧ rd_at g s r.2 w' ∧ Kd.R k88 88 w' w.heap.size (fun k => w.heap.size ≤ k) v r.1) o ∧ rd_fr g w w' := by
 have HG := aS_ hg
 have HGB := aS_ (blk_lt hg)
 clear hg
 obtain ⟨x, hx, h⟩ := Option.bind_eq_some_iff.mp h
 cases x with
 | error c =>
  obtain rfl := Option.some.inj h
  have H1 := aS_ hx
  clear h hx
  go_enter Try.func62, Try.ntmps62
  go_wp2_with (go_at_call 58; refine (pk_count.calls k g s p (.error c) _ HG.out H1.out).mono ?_; rintro e w2 ⟨rfl, hf⟩; have HF := aS_ hf; clear hf)
  exact ⟨rfl, rfl, HF.out⟩
 | ok n =>
  obtain ⟨n, q0⟩ := n
  replace h : (if 0 ≤ n ∧ n ≤ 1000000 then pk_edits1 k s n.toNat q0 [] else none) = some o := h
  split at h
  rotate_left
  ·cases h
  rename_i hn
  obtain ⟨m, rfl⟩ : ∃ m : Nat, n = (m : Int) := ⟨n.toNat, by omega⟩
  rw [Int.toNat_natCast] at h
  have HM := aS_ (show m ≤ 1000000 by omega)
  have H1 := aS_ hx
  have H0 := aS_ h
  clear h hx hn
  go_enter Try.func62, Try.ntmps62
  go_wp2_with (go_at_call 58; refine (pk_count.calls k g s p (.ok ((m : Int), q0)) _ HG.out H1.out).mono ?_; rintro e w2 ⟨⟨rfl, hg2⟩, hf⟩; have HG2 := aS_ hg2; have HF := aS_ hf; clear hg2 hf)
  go_loopg [3, 8] m (fun kq v3 v8 wx => ∃ (i : Nat) (q : Int) (out : List S88), v8 = .int .i64 (i : Int) ∧ Aside0 (i + kq = m) ∧ Aside0 (out.length = i) ∧ Aside0 (pk_edits1 k s kq q out = some o) ∧ Aside0 (rd_at g s q wx) ∧ Aside0 (Kd.R k88 88 wx w.heap.size (fun k => w.heap.size ≤ k) v3 out) ∧ Aside0 (rd_fr g w wx))
  case atStart => exact ⟨0, q0, [], rfl, ⟨Nat.zero_add _⟩, ⟨rfl⟩, H0, HG2, ⟨Kd.R_nil _ _ _ _ _⟩, HF⟩
  case round =>
   clear HG HG2 HF H0 H1
   obtain ⟨i, q, out, rfl, HI, HLEN, HQ, HG, HO, HF⟩ := hrel
   cases gk with
   | zero =>
    obtain rfl : i = m := by have := HI.out; omega
    have c0 : decide ((i : Int) < (i : Int)) = false := decide_eq_false (by omega)
    obtain rfl := Option.some.inj HQ.out
    clear HQ
    go_wp2_with fail
    go_ret
    exact ⟨⟨_, rfl, HG.out, HO.out⟩, HF.out⟩
   | succ k1 =>
    have c0 : decide (i < m) = true := decide_eq_true (by have := HI.out; omega)
    obtain ⟨x, h1, hq⟩ := Option.bind_eq_some_iff.mp HQ.out
    clear HQ
    cases x with
    | error c =>
     obtain rfl := Option.some.inj hq
     have H1 := aS_ h1
     clear h1 hq
     go_wp2_with (go_at_call 59; refine (pk_place.calls k g s q (.error c) _ HG.out H1.out).mono ?_; rintro e w3 ⟨rfl, hf⟩; replace HF := aS_ (HF.out.trans hf); clear hf)
     exact ⟨rfl, rfl, HF.out⟩
    | ok a =>
     obtain ⟨at_, qa⟩ := a
     obtain ⟨x, h2, hq⟩ := Option.bind_eq_some_iff.mp hq
     have H1 := aS_ h1
     clear h1
     cases x with
     | error c =>
      obtain rfl := Option.some.inj hq
      have H2 := aS_ h2
      clear h2 hq
      go_wp2_with (first
       | (go_at_call 59; refine (pk_place.calls k g s q (.ok (at_, qa)) _ HG.out H1.out).mono ?_; rintro e w3 ⟨⟨rfl, hg⟩, hf⟩; replace HG := aS_ hg; replace HF := aS_ (HF.out.trans hf); clear hg hf)
       | (go_at_call 57; refine (pk_text.calls k g s qa (.error c) _ HG.out H2.out).mono ?_; rintro e w3 ⟨rfl, hf⟩; replace HF := aS_ (HF.out.trans hf); clear hf))
      exact ⟨rfl, rfl, HF.out⟩
     | ok b =>
      obtain ⟨old, qb⟩ := b
      obtain ⟨x, h3, hq⟩ := Option.bind_eq_some_iff.mp hq
      have H2 := aS_ h2
      clear h2
      cases x with
      | error c =>
       obtain rfl := Option.some.inj hq
       have H3 := aS_ h3
       clear h3 hq
       go_wp2_with (first
        | (go_at_call 59; refine (pk_place.calls k g s q (.ok (at_, qa)) _ HG.out H1.out).mono ?_; rintro e w3 ⟨⟨rfl, hg⟩, hf⟩; have HGa := aS_ hg; replace HF := aS_ (HF.out.trans hf); clear hg hf)
        | (go_at_call 57; refine (pk_text.calls k g s qa (.ok (old, qb)) _ HGa.out H2.out).mono ?_; rintro e w3 ⟨⟨rfl, hg⟩, hf⟩; have HGb := aS_ hg; clear HGa; replace HF := aS_ (HF.out.trans hf); clear hg hf)
        | (go_at_call 57; refine (pk_text.calls k g s qb (.error c) _ HGb.out H3.out).mono ?_; rintro e w3 ⟨rfl, hf⟩; replace HF := aS_ (HF.out.trans hf); clear hf))
       exact ⟨rfl, rfl, HF.out⟩
      | ok c =>
       obtain ⟨new_, qc⟩ := c
       have H3 := aS_ h3
       have HZ := aS_ hq
       clear h3 hq
       have ws : wrap64 ((i : Int) + 1) = ((i + 1 : Nat) : Int) := by
        have := HI.out
        have := HM.out
        unfold wrap64
        omega
       go_wp2_with (first
        | (go_at_call 59; refine (pk_place.calls k g s q (.ok (at_, qa)) _ HG.out H1.out).mono ?_; rintro e w3 ⟨⟨rfl, hg⟩, hf⟩; have HGa := aS_ hg; replace HO := aS_ (Kd.R_keep HO.out hf.2 (rd_ne HGB.out)); replace HF := aS_ (HF.out.trans hf); clear hg hf)
        | (go_at_call 57; refine (pk_text.calls k g s qa (.ok (old, qb)) _ HGa.out H2.out).mono ?_; rintro e w4 ⟨⟨rfl, hg⟩, hf⟩; have HGb := aS_ hg; clear HGa; replace HO := aS_ (Kd.R_keep HO.out hf.2 (rd_ne HGB.out)); replace HF := aS_ (HF.out.trans hf); clear hg hf)
        | (go_at_call 57; refine (pk_text.calls k g s qb (.ok (new_, qc)) _ HGb.out H3.out).mono ?_; rintro e w5 ⟨⟨rfl, hg⟩, hf⟩; have HGc := aS_ hg; clear HGb; replace HO := aS_ (Kd.R_keep HO.out hf.2 (rd_ne HGB.out)); replace HF := aS_ (HF.out.trans hf); clear hg hf)
        | ((with_reducible refine gate_builtin (b := .append) (xs := #[.tmp 14, .tmp 20]) rfl ?_); at_builtin; refine Kd.R_append k88 (w0 := w5) w.heap.size rfl (.tmp 14) (.tmp 20) 24 88 (.agg #[(.int .i64 0), (.string ⟨#[]⟩), (.string ⟨#[]⟩)]) 40 rfl Try.underlying24 info88 rfl (by decide) (by omega) _ out (⟨at_, old, new_⟩ : S88) [.int .i64 at_, .string old, .string new_] (fun k => w.heap.size ≤ k) (fun _ => False) rfl rfl ?aP (fun _ hk => hk.elim) ?aF HO.out ?aB ?aS ?aL ?_; (case aP => exact k88_mkM _ _ _ (⟨at_, old, new_⟩ : S88)); (case aF => exact fun k hk => Nat.le_trans HF.out.1.size hk); (case aB => exact Below.refl _ _); (case aS => exact HF.out.1.size); (case aL => have := HLEN.out; have := HI.out; have := HM.out; omega); intro v1 w6 ho hb _ _; replace HO := aS_ ho; have HGd := aS_ (HGc.out.over HGB.out hb); replace HF := aS_ (HF.out.over (Nat.le_of_lt HGB.out) hb); clear ho hb))
       go_roundg k1
       case measure => omega
       case rel => exact ⟨i + 1, qc, out ++ [⟨at_, old, new_⟩], congrArg (Value.int .i64) ws, ⟨by have := HI.out; omega⟩, ⟨by have := HLEN.out; simp; omega⟩, HZ, HGd, HO, HF⟩
def pk_steps1 (k : Nat) (s : ByteArray) : Nat → Int → List S38 → Option (Except Int (List S38 × Int))
 | 0, p, out => some (.ok (out, p))
 | m + 1, p, out => pk_bind (pk_edits k s p) fun a => pk_steps1 k s m a.2 (out ++ [⟨a.1⟩])
def pk_steps (k : Nat) (s : ByteArray) (p : Int) : Option (Except Int (List S38 × Int)) := pk_bind (pk_count k s p) fun n => if 0 ≤ n.1 ∧ n.1 ≤ 1000000 then pk_steps1 k s n.1.toNat n.2 [] else none
theorem pk_steps1.mono (k : Nat) (s : ByteArray) : ∀ m p out, LeO (pk_steps1 k s m p out) (pk_steps1 (k + 1) s m p out)
 | 0, _, _ => LeO.refl _
 | m + 1, _, _ => pk_bind.mono (pk_edits.mono k s _) fun _ => pk_steps1.mono k s m _ _
theorem pk_steps.mono (k : Nat) (s : ByteArray) (p : Int) : LeO (pk_steps k s p) (pk_steps (k + 1) s p) := pk_bind.mono (pk_count.mono k s _) fun _ => LeO.ite (pk_steps1.mono k s _ _ _) (LeO.refl _)
set_option maxHeartbeats 8000000 in
set_option maxRecDepth 100000 in
theorem pk_steps.calls (k g : Nat) (s : ByteArray) (p : Int) (o : Except Int (List S38 × Int)) (w : World) (hg : rd_at g s p w) (h : pk_steps k s p = some o) :
  Calls Try.prog 60 #[.pointer (some ⟨g, 0, none⟩)] w fun e w' => pk_out e (fun r => ∃ v, e = .returned v ∧ rd_at g s r.2 w' ∧ Kd.S k38 38 w' w.heap.size (fun k => w.heap.size ≤ k) v r.1) o ∧ rd_fr g w w' := by
 have HG := aS_ hg
 have HGB := aS_ (blk_lt hg)
 clear hg
 obtain ⟨x, hx, h⟩ := Option.bind_eq_some_iff.mp h
 cases x with
 | error c =>
  obtain rfl := Option.some.inj h
  have H1 := aS_ hx
  clear h hx
  go_enter Try.func60, Try.ntmps60
  go_wp2_with (go_at_call 58; refine (pk_count.calls k g s p (.error c) _ HG.out H1.out).mono ?_; rintro e w2 ⟨rfl, hf⟩; have HF := aS_ hf; clear hf)
  exact ⟨rfl, rfl, HF.out⟩
 | ok n =>
  obtain ⟨n, q0⟩ := n
  replace h : (if 0 ≤ n ∧ n ≤ 1000000 then pk_steps1 k s n.toNat q0 [] else none) = some o := h
  split at h
  rotate_left
  ·cases h
  rename_i hn
  obtain ⟨m, rfl⟩ : ∃ m : Nat, n = (m : Int) := ⟨n.toNat, by omega⟩
  rw [Int.toNat_natCast] at h
  have HM := aS_ (show m ≤ 1000000 by omega)
  have H1 := aS_ hx
  have H0 := aS_ h
  clear h hx hn
  go_enter Try.func60, Try.ntmps60
  go_wp2_with (go_at_call 58; refine (pk_count.calls k g s p (.ok ((m : Int), q0)) _ HG.out H1.out).mono ?_; rintro e w2 ⟨⟨rfl, hg2⟩, hf⟩; have HG2 := aS_ hg2; have HF := aS_ hf; clear hg2 hf)
  go_loopg [3, 6] m (fun kq v3 v6 wx => ∃ (i : Nat) (q : Int) (out : List S38), v6 = .int .i64 (i : Int) ∧ Aside0 (i + kq = m) ∧ Aside0 (out.length = i) ∧ Aside0 (pk_steps1 k s kq q out = some o) ∧ Aside0 (rd_at g s q wx) ∧ Aside0 (Kd.S k38 38 wx w.heap.size (fun k => w.heap.size ≤ k) v3 out) ∧ Aside0 (rd_fr g w wx))
  case atStart => exact ⟨0, q0, [], rfl, ⟨Nat.zero_add _⟩, ⟨rfl⟩, H0, HG2, ⟨Kd.S_nil _ _ _ _ _⟩, HF⟩
  case round =>
   clear HG HG2 HF H0 H1
   obtain ⟨i, q, out, rfl, HI, HLEN, HQ, HG, HO, HF⟩ := hrel
   cases gk with
   | zero =>
    obtain rfl : i = m := by have := HI.out; omega
    have c0 : decide ((i : Int) < (i : Int)) = false := decide_eq_false (by omega)
    obtain rfl := Option.some.inj HQ.out
    clear HQ
    go_wp2_with fail
    go_ret
    exact ⟨⟨_, rfl, HG.out, HO.out⟩, HF.out⟩
   | succ k1 =>
    have c0 : decide (i < m) = true := decide_eq_true (by have := HI.out; omega)
    obtain ⟨x, h1, hq⟩ := Option.bind_eq_some_iff.mp HQ.out
    clear HQ
    cases x with
    | error c =>
     obtain rfl := Option.some.inj hq
     have H1 := aS_ h1
     clear h1 hq
     go_wp2_with (go_at_call 62; refine (pk_edits.calls k g s q (.error c) _ HG.out H1.out).mono ?_; rintro e w3 ⟨rfl, hf⟩; replace HF := aS_ (HF.out.trans hf); clear hf)
     exact ⟨rfl, rfl, HF.out⟩
    | ok a =>
     obtain ⟨es, qa⟩ := a
     have H1 := aS_ h1
     have HZ := aS_ hq
     clear h1 hq
     have ws : wrap64 ((i : Int) + 1) = ((i + 1 : Nat) : Int) := by
      have := HI.out
      have := HM.out
      unfold wrap64
      omega
     go_wp2_with (first
      | (go_at_call 62; refine (pk_edits.calls k g s q (.ok (es, qa)) _ HG.out H1.out).mono ?_; rintro e w5 ⟨⟨ve, rfl, hg, hr⟩, hf⟩; obtain ⟨Ae, ce, rfl⟩ := Kd.R_slice hr; have HGc := aS_ hg; have HV := aS_ hr; have HVW := aS_ HF.out.1.size; replace HO := aS_ (Kd.S_keep (Kd.S_mono (ok' := fun k => w.heap.size ≤ k ∧ k < wr.heap.size) (Kd.S_bound HO.out) (fun k hk => ⟨hk.1, hk.2.2.1⟩)) hf.2 (fun k hk => rd_ne HGB.out k hk.1)); replace HF := aS_ (HF.out.trans hf); clear hg hr hf)
      | ((with_reducible refine gate_builtin (b := .append) (xs := #[.tmp 8, .tmp 12]) rfl ?_); at_builtin; refine Kd.S_append k38 (w0 := w5) w.heap.size rfl (.tmp 8) (.tmp 12) 23 38 (.agg #[(.slice none 0 0)]) 24 rfl Try.underlying23 info38 rfl (by decide) (by omega) _ out (⟨es⟩ : S38) [.slice Ae es.length ce] (fun k => w.heap.size ≤ k) (fun k => some k = (Value.slice Ae es.length ce).ownBlock) rfl rfl ?aP ?aK ?aF ?aO ?aB ?aS ?aL ?_; (case aP => exact k38_mkM _ _ _ (⟨es⟩ : S38) (Kd.R_lower (Kd.R_tight rfl HV.out) HVW.out)); (case aK => exact fun k hk => ⟨Nat.le_trans HVW.out (Kd.R_base HV.out k hk.symm), fun e => by have := Kd.R_base HV.out k hk.symm; have := ((Kd.S_R HO.out).1 k e.symm).2; omega⟩); (case aF => exact fun k hk => Nat.le_trans HF.out.1.size hk); (case aO => exact Kd.S_mono HO.out (fun k hk => ⟨hk.1, fun e => by have := Kd.R_base HV.out k e.symm; have := hk.2; omega⟩)); (case aB => exact Below.refl _ _); (case aS => exact HF.out.1.size); (case aL => have := HLEN.out; have := HI.out; have := HM.out; omega); intro v1 w6 ho hb _ _; replace HO := aS_ ho; have HGd := aS_ (HGc.out.over HGB.out hb); replace HF := aS_ (HF.out.over (Nat.le_of_lt HGB.out) hb); clear ho hb))
     go_roundg k1
     case measure => omega
     case rel => exact ⟨i + 1, qa, out ++ [⟨es⟩], congrArg (Value.int .i64) ws, ⟨by have := HI.out; omega⟩, ⟨by have := HLEN.out; simp; omega⟩, HZ, HGd, HO, HF⟩
section
variable {P : Program} {ops : Array Oper} {Q : Exit → Act → World → Prop}
theorem pk_dies {oi : Oper} {N : Option Tmp} {a : Act} {w : World} {K : Act → World → Prop} {f : FuncId} {fn : Func} {xs_ : Array Operand} {ts : Array TypeId} (hf : P.funcs[f]? = some fn) (hname : (fn.name == "runtime.NumGoroutine") = false) (hb : fn.body.isSome = true) (args : Array Value)
  (hw : Region.wanted oi (yielded ops a.tmps) = true) (_hN : oi.dst = N) (hop : oi.op = .call { callee := .value (.func f), args := xs_, argTypes := ts }) (hargs : xs_.map a.eval = args)
  (h : Calls P f args w fun e w' => ∃ ch, e = .panicked ch ∧ Q (.panic ch) a w') : if Region.wanted oi (yielded ops a.tmps) = true then Oper.wp P oi a w K Q else K (a.put N undef) w := by
 have he := enters_ hf hname hb args w
 have hrun : (execOp a.eval oi).run P w = .ok (.enter f args) w := by
  unfold execOp
  simp [hop, resolve, Deferred.ofValue, invoke, Act.eval, hargs, he]
 rw [if_pos hw]
 unfold Oper.wp
 rw [hrun, Oper.upon_enter]
 refine h.mono fun e w'' hh => ?_
 obtain ⟨v, rfl, hk⟩ := hh
 exact hk
end
theorem rd_fr.over2 {g B : Nat} {w W w1 : World} (h : rd_fr g w W) (hg : g < B) (hw : w.heap.size ≤ B) (hb : Below B W w1) : rd_fr g w w1 :=
 ⟨h.1.trans (hb.mono (Nat.le_of_lt hg)), Nat.le_trans h.2.1 hb.size, fun i hi hne _ => (hb.block i (Nat.lt_of_lt_of_le hi hw)).trans (h.2.2 i hi hne (by simp))⟩
theorem rd_fr.set {g gs : Nat} {w W : World} (h : rd_fr g w W) (hw : w.heap.size ≤ gs) (hg : g ≤ gs) (j : Nat) (u : Value) : rd_fr g w (W.setCell ⟨gs, j, none⟩ u) :=
 ⟨h.1.setCell (p := ⟨gs, j, none⟩) hg _, keep_far h.2 (p := ⟨gs, j, none⟩) hw u⟩
theorem rd_fr.drew {g : Nat} {w W : World} (h : rd_fr g w W) : rd_fr g w W.drew := ⟨below_drew h.1, keep_drew h.2⟩
theorem set_size (W : World) (p : Addr) (u : Value) : W.heap.size ≤ (W.setCell p u).heap.size := Nat.le_of_eq (by simp)
theorem far_B {gs B : Nat} (h : gs < B) : ∀ k, B ≤ k → k ≠ gs := fun _ hk e => by omega
theorem rd_fr.drewN {g : Nat} {w W : World} (h : rd_fr g w W) (n : Nat) : rd_fr g w (W.drewN n) := ⟨wN h.1 n, keep_drewN h.2 n⟩
theorem pk_results {P : Program} {fn : Func} {p : Tmp} {ty : TypeId} (h : fn.results = #[.cell p ty]) (tmps : Array Value) (w : World) (g : Nat) (t : TypeId) (cs : Array Value) (fr : Nat × Nat) (d : TypeDesc)
  (hp : tmps.getD p undef = .pointer (some ⟨g, 0, none⟩)) (hg : w.heap[g]? = some (.cells cs t fr))
  (hu : P.underlying ty = some d) (hd : (match d with | .struct _ | .array _ _ => true | _ => false) = true) (hi : (P.info? ty).map (·.size) = some cs.size) :
  (results fn tmps).run P w = .ok (.agg cs) w := by
 have hp' : tmps[p]?.getD undef = .pointer (some ⟨g, 0, none⟩) := by simpa using hp
 simp [results, h, hp', asAddr, run_loadVar_row w g t ty cs fr d hg hu hd hi]
theorem rd_at.set {g gs : Nat} {s : ByteArray} {p : Int} {W : World} (h : rd_at g s p W) (hne : g ≠ gs) (j : Nat) (u : Value) : rd_at g s p (W.setCell ⟨gs, j, none⟩ u) := blk_far h (p := ⟨gs, j, none⟩) hne _
theorem pk_steps.atB (k g : Nat) (s : ByteArray) (p : Int) (r : List S38 × Int) (B : Nat) (w : World) (hB : B ≤ w.heap.size) (hg : rd_at g s p w) (h : pk_steps k s p = some (.ok r)) :
  Calls Try.prog 60 #[.pointer (some ⟨g, 0, none⟩)] w fun e w' => (∃ A c, e = .returned (.slice A r.1.length c) ∧ rd_at g s r.2 w' ∧ Kd.S k38 38 w' B (fun k => B ≤ k ∧ k < w'.heap.size) (.slice A r.1.length c) r.1) ∧ rd_fr g w w' := by
 refine (pk_steps.calls k g s p (.ok r) w hg h).mono ?_
 rintro e w' ⟨⟨v, rfl, h1, h2⟩, hf⟩
 obtain ⟨A, c, rfl⟩ := Kd.S_slice h2
 exact ⟨⟨A, c, rfl, h1, Kd.S_lower (Kd.S_mono (Kd.S_bound h2) (fun k hk => ⟨Nat.le_trans hB hk.1, hk.2.2.1⟩)) hB⟩, hf⟩
theorem pk_edits.atB (k g : Nat) (s : ByteArray) (p : Int) (r : List S88 × Int) (B : Nat) (w : World) (hB : B ≤ w.heap.size) (hg : rd_at g s p w) (h : pk_edits k s p = some (.ok r)) :
  Calls Try.prog 62 #[.pointer (some ⟨g, 0, none⟩)] w fun e w' => (∃ A c, e = .returned (.slice A r.1.length c) ∧ rd_at g s r.2 w' ∧ Kd.R k88 88 w' B (fun k => B ≤ k) (.slice A r.1.length c) r.1) ∧ rd_fr g w w' := by
 refine (pk_edits.calls k g s p (.ok r) w hg h).mono ?_
 rintro e w' ⟨⟨v, rfl, h1, h2⟩, hf⟩
 obtain ⟨A, c, rfl⟩ := Kd.R_slice h2
 exact ⟨⟨A, c, rfl, h1, Kd.R_lower (Kd.R_mono h2 (fun k hk => Nat.le_trans hB hk)) hB⟩, hf⟩
def pk_marks1 (k : Nat) (s : ByteArray) : Nat → Int → List S49 → Option (Except Int (List S49 × Int))
 | 0, p, out => some (.ok (out, p))
 | m + 1, p, out => pk_bind (pk_text k s p) fun a => pk_bind (pk_place k s a.2) fun b => pk_marks1 k s m b.2 (out ++ [⟨a.1, b.1⟩])
theorem pk_marks1.mono (k : Nat) (s : ByteArray) : ∀ m p out, LeO (pk_marks1 k s m p out) (pk_marks1 (k + 1) s m p out)
 | 0, _, _ => LeO.refl _
 | m + 1, _, _ => pk_bind.mono (pk_text.mono k s _) fun _ => pk_bind.mono (pk_place.mono k s _) fun _ => pk_marks1.mono k s m _ _
def pk_rest (k : Nat) (s : ByteArray) (t : ByteArray) (ms : List S49 × Int) : Option (Except Int (ByteArray × List S49 × List S38 × List S38 × Bool × List S88)) :=
 pk_bind (pk_steps k s ms.2) fun u => pk_bind (pk_steps k s u.2) fun r => pk_bind (pk_flag s r.2) fun f => pk_bind (pk_edits k s f.2) fun e => if e.2 < (s.size : Int) then some (.error 6) else some (.ok (t, ms.1, u.1, r.1, f.1, e.1))
theorem pk_rest.mono (k : Nat) (s t : ByteArray) (ms : List S49 × Int) : LeO (pk_rest k s t ms) (pk_rest (k + 1) s t ms) :=
 pk_bind.mono (pk_steps.mono k s _) fun _ => pk_bind.mono (pk_steps.mono k s _) fun _ => pk_bind.mono (LeO.refl _) fun _ => pk_bind.mono (pk_edits.mono k s _) fun _ => LeO.refl _
def pk_state (k : Nat) (s : ByteArray) : Option (Except Int (ByteArray × List S49 × List S38 × List S38 × Bool × List S88)) :=
 pk_bind (pk_text k s 0) fun t => pk_bind (pk_count k s t.2) fun n => if 0 ≤ n.1 ∧ n.1 ≤ 1000000 then pk_bind (pk_marks1 k s n.1.toNat n.2 []) (pk_rest k s t.1) else none
theorem pk_state.mono (k : Nat) (s : ByteArray) : LeO (pk_state k s) (pk_state (k + 1) s) :=
 pk_bind.mono (pk_text.mono k s _) fun _ => pk_bind.mono (pk_count.mono k s _) fun _ => LeO.ite (pk_bind.mono (pk_marks1.mono k s _ _ _) fun _ => pk_rest.mono k s _ _) (LeO.refl _)
/-- What the reader's state is, handed back. -/
def pk_said (w w' : World) (e : Ending) (r : ByteArray × List S49 × List S38 × List S38 × Bool × List S88) : Prop :=
 ∃ A1 c1 A2 c2 A3 c3 A5 c5, e = .returned (.agg #[.string r.1, .slice A1 r.2.1.length c1, .slice A2 r.2.2.1.length c2, .slice A3 r.2.2.2.1.length c3, .bool r.2.2.2.2.1, .slice A5 r.2.2.2.2.2.length c5]) ∧ Kd.R k49 49 w' w.heap.size (fun _ => True) (.slice A1 r.2.1.length c1) r.2.1 ∧
  Kd.S k38 38 w' w.heap.size (fun k => some k ≠ (Value.slice A3 r.2.2.2.1.length c3).ownBlock ∧ some k ≠ (Value.slice A5 r.2.2.2.2.2.length c5).ownBlock) (.slice A2 r.2.2.1.length c2) r.2.2.1 ∧
  Kd.S k38 38 w' w.heap.size (fun k => some k ≠ (Value.slice A2 r.2.2.1.length c2).ownBlock ∧ some k ≠ (Value.slice A5 r.2.2.2.2.2.length c5).ownBlock) (.slice A3 r.2.2.2.1.length c3) r.2.2.2.1 ∧
  Kd.R k88 88 w' w.heap.size (fun _ => True) (.slice A5 r.2.2.2.2.2.length c5) r.2.2.2.2.2
set_option maxHeartbeats 16000000 in
set_option maxRecDepth 100000 in
theorem pk_state.calls (k g : Nat) (s : ByteArray) (o : Except Int (ByteArray × List S49 × List S38 × List S38 × Bool × List S88)) (w : World) (hg : rd_at g s 0 w) (h : pk_state k s = some o) :
  Calls Try.prog 28 #[.pointer (some ⟨g, 0, none⟩)] w fun e w' => pk_out e (pk_said w w' e) o ∧ rd_fr g w w' := by
 have HGW := aS_ (blk_lt hg)
 have hg1 : rd_at g s 0 (w.alloc (.cells #[.string (⟨#[]⟩ : ByteArray), .slice none 0 0, .slice none 0 0, .slice none 0 0, .bool false, .slice none 0 0] 26)) := hg.below (wA (Below.refl _ _) _)
 have HG := aS_ hg1
 have KA := aS_ (heap_alloc_new w (.cells #[.string (⟨#[]⟩ : ByteArray), .slice none 0 0, .slice none 0 0, .slice none 0 0, .bool false, .slice none 0 0] 26))
 have HF := aS_ (rd_fr.full (g := g) hg.le (wA (Below.refl w.heap.size w) (.cells #[.string (⟨#[]⟩ : ByteArray), .slice none 0 0, .slice none 0 0, .slice none 0 0, .bool false, .slice none 0 0] 26)))
 clear hg hg1
 obtain ⟨x, hx, h⟩ := Option.bind_eq_some_iff.mp h
 cases x with
 | error c =>
  obtain rfl := Option.some.inj h
  have H1 := aS_ hx
  clear h hx
  go_enter Try.func28, Try.ntmps28
  go_wp2_with (go_at_call 57; refine (pk_text.calls k g s 0 (.error c) _ HG.out H1.out).mono ?_; rintro e w2 ⟨rfl, hf⟩; replace HF := aS_ (HF.out.trans hf); clear hf)
  exact ⟨rfl, rfl, HF.out⟩
 | ok a =>
  obtain ⟨tx, q1⟩ := a
  have H1 := aS_ hx
  have H0 := aS_ h
  clear h hx
  go_enter Try.func28, Try.ntmps28
  go_upto_region 2 with (go_at_call 57; refine (pk_text.calls k g s 0 (.ok (tx, q1)) _ HG.out H1.out).mono ?_; rintro e w2 ⟨⟨rfl, hg⟩, hf⟩; replace HG := aS_ hg; replace KA := aS_ (hf.2.blk KA.out (Nat.ne_of_gt HGW.out) (by simp)); replace HF := aS_ (HF.out.trans hf); clear hg hf)
  obtain ⟨wb, hwb⟩ : ∃ x : World, w2.alloc (.cells #[.string tx, .slice none 0 0, .slice none 0 0, .slice none 0 0, .bool false, .slice none 0 0] 26) = x := ⟨_, rfl⟩
  obtain ⟨gs, hgs⟩ : ∃ x : Nat, w2.heap.size = x := ⟨_, rfl⟩
  obtain ⟨B, hB⟩ : ∃ x : Nat, wb.heap.size = x := ⟨_, rfl⟩
  rw [hwb, hgs]
  have hBs : B = gs + 1 := by rw [← hB, ← hwb, ← hgs]; simp
  have hga : w.heap.size < gs := by rw [← hgs]; exact blk_lt KA.out
  have hgw : g < w.heap.size := HGW.out
  have HGB := aS_ (show g < B by omega)
  have HSB := aS_ (show gs < B by omega)
  have HAB := aS_ (show w.heap.size < B by omega)
  have HWB := aS_ (show w.heap.size ≤ B by omega)
  have HNS := aS_ (show gs ≠ g by omega)
  have HNA := aS_ (show w.heap.size ≠ g by omega)
  have HWG := aS_ (show w.heap.size ≤ gs by omega)
  have HGG := aS_ (show g ≤ gs by omega)
  have HNN := aS_ (show w.heap.size ≠ gs by omega)
  have HWS := aS_ (show B ≤ wb.heap.size by omega)
  have KS : wb.heap[gs]? = some (.cells #[.string tx, .slice none 0 0, .slice none 0 0, .slice none 0 0, .bool false, .slice none 0 0] 26 (0, 0)) := by rw [← hwb, ← hgs]; exact heap_alloc_new w2 _
  replace KS := aS_ KS
  replace KA := aS_ (bA KA.out (.cells #[.string tx, .slice none 0 0, .slice none 0 0, .slice none 0 0, .bool false, .slice none 0 0] 26))
  replace HG := aS_ (HG.out.below (wA (Below.refl _ _) (.cells #[.string tx, .slice none 0 0, .slice none 0 0, .slice none 0 0, .bool false, .slice none 0 0] 26)))
  replace HF := aS_ (HF.out.trans (rd_fr.full (g := g) (by omega) (wA (Below.refl w2.heap.size w2) (.cells #[.string tx, .slice none 0 0, .slice none 0 0, .slice none 0 0, .bool false, .slice none 0 0] 26))))
  rw [hwb] at KA HG HF
  clear hwb hgs hB hBs hga hgw H1
  obtain ⟨x, hx, h⟩ := Option.bind_eq_some_iff.mp H0.out
  clear H0
  cases x with
  | error c =>
   obtain rfl := Option.some.inj h
   have H1 := aS_ hx
   clear h hx
   go_wp2_with (go_at_call 58; refine (pk_count.calls k g s q1 (.error c) _ HG.out H1.out).mono ?_; rintro e w2 ⟨rfl, hf⟩; replace HF := aS_ (HF.out.trans hf); clear hf)
   exact ⟨rfl, rfl, HF.out⟩
  | ok n =>
   obtain ⟨n, q2⟩ := n
   replace h : (if 0 ≤ n ∧ n ≤ 1000000 then pk_bind (pk_marks1 k s n.toNat q2 []) (pk_rest k s tx) else none) = some o := h
   split at h
   rotate_left
   ·cases h
   rename_i hn
   obtain ⟨m, rfl⟩ : ∃ m : Nat, n = (m : Int) := ⟨n.toNat, by omega⟩
   rw [Int.toNat_natCast] at h
   have HM := aS_ (show m ≤ 1000000 by omega)
   have H1 := aS_ hx
   have H0 := aS_ h
   clear h hx hn
   go_wp2_with (go_at_call 58; refine (pk_count.calls k g s q1 (.ok ((m : Int), q2)) _ HG.out H1.out).mono ?_; rintro e w3 ⟨⟨rfl, hg⟩, hf⟩; replace HG := aS_ hg; replace KS := aS_ (hf.2.blk KS.out HNS.out (by simp)); replace KA := aS_ (hf.2.blk KA.out HNA.out (by simp)); replace HWS := aS_ (Nat.le_trans HWS.out hf.1.size); replace HF := aS_ (HF.out.trans hf); clear hg hf)
   clear H1
   go_loopg [10] m (fun kq v10 wx => ∃ (i : Nat) (q : Int) (ms : List S49) (A1 : Option Addr) (c1 : Nat), v10 = .int .i64 (i : Int) ∧ Aside0 (i + kq = m) ∧ Aside0 (ms.length = i) ∧ Aside0 (pk_bind (pk_marks1 k s kq q ms) (pk_rest k s tx) = some o) ∧ Aside0 (rd_at g s q wx) ∧ Aside0 (wx.heap[gs]? = some (.cells #[.string tx, .slice A1 ms.length c1, .slice none 0 0, .slice none 0 0, .bool false, .slice none 0 0] 26 (0, 0))) ∧ Aside0 (wx.heap[w.heap.size]? = some (.cells #[.string (⟨#[]⟩ : ByteArray), .slice none 0 0, .slice none 0 0, .slice none 0 0, .bool false, .slice none 0 0] 26 (0, 0))) ∧ Aside0 (B ≤ wx.heap.size) ∧ Aside0 (Kd.R k49 49 wx B (fun k => B ≤ k) (.slice A1 ms.length c1) ms) ∧ Aside0 (rd_fr g w wx))
   case atStart => exact ⟨0, q2, [], none, 0, rfl, ⟨Nat.zero_add _⟩, ⟨rfl⟩, H0, HG, KS, KA, HWS, ⟨Kd.R_nil _ _ _ _ _⟩, HF⟩
   case round =>
    clear HG HF H0 KS KA HWS
    obtain ⟨i, q, ms, A1, c1, rfl, HI, HLEN, HQ, HG, KS, KA, HWS, HO, HF⟩ := hrel
    cases gk with
    | zero =>
     obtain rfl : i = m := by have := HI.out; omega
     have c0 : decide (i < i) = false := decide_eq_false (by omega)
     have hq : pk_rest k s tx (ms, q) = some o := HQ.out
     clear HQ
     obtain ⟨x, hx, hq⟩ := Option.bind_eq_some_iff.mp hq
     cases x with
     | error c =>
      obtain rfl := Option.some.inj hq
      have HX1 := aS_ hx
      clear hx hq
      go_wp2_with (first
       | (go_at_call 60; (refine (pk_steps.calls k g s q (.error c) _ HG.out HX1.out).mono ?_; rintro e wd ⟨rfl, hf⟩; replace HF := aS_ (HF.out.trans hf); clear hf)))
      exact ⟨rfl, rfl, HF.out⟩
     | ok y =>
      obtain ⟨us, q3⟩ := y
      have HX1 := aS_ hx
      clear hx
      obtain ⟨x, hx, hq⟩ := Option.bind_eq_some_iff.mp hq
      cases x with
      | error c =>
       obtain rfl := Option.some.inj hq
       have HX2 := aS_ hx
       clear hx hq
       go_wp2_with (first
        | (go_at_call 60; (refine (pk_steps.atB k g s q (us, q3) B _ HWS.out HG.out HX1.out).mono ?_; rintro e w4 ⟨⟨A2, c2, rfl, hg, hu⟩, hf⟩; replace KS := aS_ (hf.2.blk KS.out HNS.out (by simp)); replace KA := aS_ (hf.2.blk KA.out HNA.out (by simp)); replace HO := aS_ (Kd.R_keep HO.out hf.2 (rd_ne HGB.out)); replace HWS := aS_ (Nat.le_trans HWS.out hf.1.size); replace HF := aS_ (HF.out.trans hf); replace HG := aS_ hg; have HU := aS_ hu; have HB4 := HWS; clear hg hu hf; have zs2 := (blk_cell KS.out 2).trans rfl; have zf2 := blk_frozen KS.out 2))
        | (go_at_call 60; (replace HG := aS_ (HG.out.set (Ne.symm HNS.out) 2 (.slice A2 us.length c2)); replace KS := aS_ (blk_put KS.out 2 (.slice A2 us.length c2) rfl); replace KA := aS_ (blk_far KA.out (p := ⟨gs, 2, none⟩) HNN.out (.slice A2 us.length c2)); replace HO := aS_ (Kd.R_far HO.out (p := ⟨gs, 2, none⟩) (fun k hk => far_B HSB.out k hk) (.slice A2 us.length c2)); replace HU := aS_ (Kd.S_far HU.out (p := ⟨gs, 2, none⟩) (fun k hk => far_B HSB.out k hk.1) (.slice A2 us.length c2)); replace HWS := aS_ (Nat.le_trans HWS.out (set_size _ ⟨gs, 2, none⟩ (.slice A2 us.length c2))); replace HF := aS_ (HF.out.set HWG.out HGG.out 2 (.slice A2 us.length c2)); refine (pk_steps.calls k g s q3 (.error c) _ HG.out HX2.out).mono ?_; rintro e wd ⟨rfl, hf⟩; replace HF := aS_ (HF.out.trans hf); clear hf)))
       exact ⟨rfl, rfl, HF.out⟩
      | ok y =>
       obtain ⟨rs, q4⟩ := y
       have HX2 := aS_ hx
       clear hx
       obtain ⟨x, hx, hq⟩ := Option.bind_eq_some_iff.mp hq
       cases x with
       | error c =>
        obtain rfl := Option.some.inj hq
        have HX3 := aS_ hx
        clear hx hq
        go_wp2_with (first
         | (go_at_call 60; (refine (pk_steps.atB k g s q (us, q3) B _ HWS.out HG.out HX1.out).mono ?_; rintro e w4 ⟨⟨A2, c2, rfl, hg, hu⟩, hf⟩; replace KS := aS_ (hf.2.blk KS.out HNS.out (by simp)); replace KA := aS_ (hf.2.blk KA.out HNA.out (by simp)); replace HO := aS_ (Kd.R_keep HO.out hf.2 (rd_ne HGB.out)); replace HWS := aS_ (Nat.le_trans HWS.out hf.1.size); replace HF := aS_ (HF.out.trans hf); replace HG := aS_ hg; have HU := aS_ hu; have HB4 := HWS; clear hg hu hf; have zs2 := (blk_cell KS.out 2).trans rfl; have zf2 := blk_frozen KS.out 2))
         | (go_at_call 60; (replace HG := aS_ (HG.out.set (Ne.symm HNS.out) 2 (.slice A2 us.length c2)); replace KS := aS_ (blk_put KS.out 2 (.slice A2 us.length c2) rfl); replace KA := aS_ (blk_far KA.out (p := ⟨gs, 2, none⟩) HNN.out (.slice A2 us.length c2)); replace HO := aS_ (Kd.R_far HO.out (p := ⟨gs, 2, none⟩) (fun k hk => far_B HSB.out k hk) (.slice A2 us.length c2)); replace HU := aS_ (Kd.S_far HU.out (p := ⟨gs, 2, none⟩) (fun k hk => far_B HSB.out k hk.1) (.slice A2 us.length c2)); replace HWS := aS_ (Nat.le_trans HWS.out (set_size _ ⟨gs, 2, none⟩ (.slice A2 us.length c2))); replace HF := aS_ (HF.out.set HWG.out HGG.out 2 (.slice A2 us.length c2)); refine (pk_steps.atB k g s q3 (rs, q4) w4.heap.size _ (set_size w4 ⟨gs, 2, none⟩ (.slice A2 us.length c2)) HG.out HX2.out).mono ?_; rintro e w5 ⟨⟨A3, c3, rfl, hg, hu⟩, hf⟩; have HL45 := aS_ (Nat.le_trans (set_size w4 ⟨gs, 2, none⟩ (.slice A2 us.length c2)) hf.1.size : w4.heap.size ≤ w5.heap.size); replace KS := aS_ (hf.2.blk KS.out HNS.out (by simp)); replace KA := aS_ (hf.2.blk KA.out HNA.out (by simp)); replace HO := aS_ (Kd.R_keep HO.out hf.2 (rd_ne HGB.out)); replace HU := aS_ (Kd.S_keep HU.out hf.2 (fun k hk => rd_ne HGB.out k hk.1)); replace HWS := aS_ (Nat.le_trans HWS.out hf.1.size); replace HF := aS_ (HF.out.trans hf); replace HG := aS_ hg; have HR := aS_ hu; have HB5 := aS_ (Nat.le_trans HB4.out HL45.out); clear hg hu hf; have zs3 := (blk_cell KS.out 3).trans rfl; have zf3 := blk_frozen KS.out 3))
         | (go_at_call 61; (replace HG := aS_ (HG.out.set (Ne.symm HNS.out) 3 (.slice A3 rs.length c3)); replace KS := aS_ (blk_put KS.out 3 (.slice A3 rs.length c3) rfl); replace KA := aS_ (blk_far KA.out (p := ⟨gs, 3, none⟩) HNN.out (.slice A3 rs.length c3)); replace HO := aS_ (Kd.R_far HO.out (p := ⟨gs, 3, none⟩) (fun k hk => far_B HSB.out k hk) (.slice A3 rs.length c3)); replace HU := aS_ (Kd.S_far HU.out (p := ⟨gs, 3, none⟩) (fun k hk => far_B HSB.out k hk.1) (.slice A3 rs.length c3)); replace HR := aS_ (Kd.S_far HR.out (p := ⟨gs, 3, none⟩) (fun k hk => far_B (Nat.lt_of_lt_of_le HSB.out HB4.out) k hk.1) (.slice A3 rs.length c3)); replace HWS := aS_ (Nat.le_trans HWS.out (set_size _ ⟨gs, 3, none⟩ (.slice A3 rs.length c3))); replace HF := aS_ (HF.out.set HWG.out HGG.out 3 (.slice A3 rs.length c3)); refine (pk_flag.calls g s q4 (.error c) _ HG.out HX3.out).mono ?_; rintro e wd ⟨rfl, hf⟩; replace HF := aS_ (HF.out.trans hf); clear hf)))
        exact ⟨rfl, rfl, HF.out⟩
       | ok y =>
        obtain ⟨op, q5⟩ := y
        have HX3 := aS_ hx
        clear hx
        obtain ⟨x, hx, hq⟩ := Option.bind_eq_some_iff.mp hq
        cases x with
        | error c =>
         obtain rfl := Option.some.inj hq
         have HX4 := aS_ hx
         clear hx hq
         go_wp2_with (first
          | (go_at_call 60; (refine (pk_steps.atB k g s q (us, q3) B _ HWS.out HG.out HX1.out).mono ?_; rintro e w4 ⟨⟨A2, c2, rfl, hg, hu⟩, hf⟩; replace KS := aS_ (hf.2.blk KS.out HNS.out (by simp)); replace KA := aS_ (hf.2.blk KA.out HNA.out (by simp)); replace HO := aS_ (Kd.R_keep HO.out hf.2 (rd_ne HGB.out)); replace HWS := aS_ (Nat.le_trans HWS.out hf.1.size); replace HF := aS_ (HF.out.trans hf); replace HG := aS_ hg; have HU := aS_ hu; have HB4 := HWS; clear hg hu hf; have zs2 := (blk_cell KS.out 2).trans rfl; have zf2 := blk_frozen KS.out 2))
          | (go_at_call 60; (replace HG := aS_ (HG.out.set (Ne.symm HNS.out) 2 (.slice A2 us.length c2)); replace KS := aS_ (blk_put KS.out 2 (.slice A2 us.length c2) rfl); replace KA := aS_ (blk_far KA.out (p := ⟨gs, 2, none⟩) HNN.out (.slice A2 us.length c2)); replace HO := aS_ (Kd.R_far HO.out (p := ⟨gs, 2, none⟩) (fun k hk => far_B HSB.out k hk) (.slice A2 us.length c2)); replace HU := aS_ (Kd.S_far HU.out (p := ⟨gs, 2, none⟩) (fun k hk => far_B HSB.out k hk.1) (.slice A2 us.length c2)); replace HWS := aS_ (Nat.le_trans HWS.out (set_size _ ⟨gs, 2, none⟩ (.slice A2 us.length c2))); replace HF := aS_ (HF.out.set HWG.out HGG.out 2 (.slice A2 us.length c2)); refine (pk_steps.atB k g s q3 (rs, q4) w4.heap.size _ (set_size w4 ⟨gs, 2, none⟩ (.slice A2 us.length c2)) HG.out HX2.out).mono ?_; rintro e w5 ⟨⟨A3, c3, rfl, hg, hu⟩, hf⟩; have HL45 := aS_ (Nat.le_trans (set_size w4 ⟨gs, 2, none⟩ (.slice A2 us.length c2)) hf.1.size : w4.heap.size ≤ w5.heap.size); replace KS := aS_ (hf.2.blk KS.out HNS.out (by simp)); replace KA := aS_ (hf.2.blk KA.out HNA.out (by simp)); replace HO := aS_ (Kd.R_keep HO.out hf.2 (rd_ne HGB.out)); replace HU := aS_ (Kd.S_keep HU.out hf.2 (fun k hk => rd_ne HGB.out k hk.1)); replace HWS := aS_ (Nat.le_trans HWS.out hf.1.size); replace HF := aS_ (HF.out.trans hf); replace HG := aS_ hg; have HR := aS_ hu; have HB5 := aS_ (Nat.le_trans HB4.out HL45.out); clear hg hu hf; have zs3 := (blk_cell KS.out 3).trans rfl; have zf3 := blk_frozen KS.out 3))
          | (go_at_call 61; (replace HG := aS_ (HG.out.set (Ne.symm HNS.out) 3 (.slice A3 rs.length c3)); replace KS := aS_ (blk_put KS.out 3 (.slice A3 rs.length c3) rfl); replace KA := aS_ (blk_far KA.out (p := ⟨gs, 3, none⟩) HNN.out (.slice A3 rs.length c3)); replace HO := aS_ (Kd.R_far HO.out (p := ⟨gs, 3, none⟩) (fun k hk => far_B HSB.out k hk) (.slice A3 rs.length c3)); replace HU := aS_ (Kd.S_far HU.out (p := ⟨gs, 3, none⟩) (fun k hk => far_B HSB.out k hk.1) (.slice A3 rs.length c3)); replace HR := aS_ (Kd.S_far HR.out (p := ⟨gs, 3, none⟩) (fun k hk => far_B (Nat.lt_of_lt_of_le HSB.out HB4.out) k hk.1) (.slice A3 rs.length c3)); replace HWS := aS_ (Nat.le_trans HWS.out (set_size _ ⟨gs, 3, none⟩ (.slice A3 rs.length c3))); replace HF := aS_ (HF.out.set HWG.out HGG.out 3 (.slice A3 rs.length c3)); refine (pk_flag.calls g s q4 (.ok (op, q5)) _ HG.out HX3.out).mono ?_; rintro e w6 ⟨⟨rfl, hg⟩, hf⟩; have HL56 := aS_ (Nat.le_trans (set_size w5 ⟨gs, 3, none⟩ (.slice A3 rs.length c3)) hf.1.size : w5.heap.size ≤ w6.heap.size); replace KS := aS_ (hf.2.blk KS.out HNS.out (by simp)); replace KA := aS_ (hf.2.blk KA.out HNA.out (by simp)); replace HO := aS_ (Kd.R_keep HO.out hf.2 (rd_ne HGB.out)); replace HU := aS_ (Kd.S_keep HU.out hf.2 (fun k hk => rd_ne HGB.out k hk.1)); replace HR := aS_ (Kd.S_keep HR.out hf.2 (fun k hk => rd_ne (Nat.lt_of_lt_of_le HGB.out HB4.out) k hk.1)); replace HWS := aS_ (Nat.le_trans HWS.out hf.1.size); replace HF := aS_ (HF.out.trans hf); replace HG := aS_ hg; clear hg hf; have zs4 := (blk_cell KS.out 4).trans rfl; have zf4 := blk_frozen KS.out 4))
          | (go_at_call 62; (replace HG := aS_ (HG.out.set (Ne.symm HNS.out) 4 (.bool op)); replace KS := aS_ (blk_put KS.out 4 (.bool op) rfl); replace KA := aS_ (blk_far KA.out (p := ⟨gs, 4, none⟩) HNN.out (.bool op)); replace HO := aS_ (Kd.R_far HO.out (p := ⟨gs, 4, none⟩) (fun k hk => far_B HSB.out k hk) (.bool op)); replace HU := aS_ (Kd.S_far HU.out (p := ⟨gs, 4, none⟩) (fun k hk => far_B HSB.out k hk.1) (.bool op)); replace HR := aS_ (Kd.S_far HR.out (p := ⟨gs, 4, none⟩) (fun k hk => far_B (Nat.lt_of_lt_of_le HSB.out HB4.out) k hk.1) (.bool op)); replace HWS := aS_ (Nat.le_trans HWS.out (set_size _ ⟨gs, 4, none⟩ (.bool op))); replace HF := aS_ (HF.out.set HWG.out HGG.out 4 (.bool op)); refine (pk_edits.calls k g s q5 (.error c) _ HG.out HX4.out).mono ?_; rintro e wd ⟨rfl, hf⟩; replace HF := aS_ (HF.out.trans hf); clear hf)))
         exact ⟨rfl, rfl, HF.out⟩
        | ok y =>
         obtain ⟨es, q6⟩ := y
         have HX4 := aS_ hx
         clear hx
         go_upto_region 11 with (first
          | (go_at_call 60; (refine (pk_steps.atB k g s q (us, q3) B _ HWS.out HG.out HX1.out).mono ?_; rintro e w4 ⟨⟨A2, c2, rfl, hg, hu⟩, hf⟩; replace KS := aS_ (hf.2.blk KS.out HNS.out (by simp)); replace KA := aS_ (hf.2.blk KA.out HNA.out (by simp)); replace HO := aS_ (Kd.R_keep HO.out hf.2 (rd_ne HGB.out)); replace HWS := aS_ (Nat.le_trans HWS.out hf.1.size); replace HF := aS_ (HF.out.trans hf); replace HG := aS_ hg; have HU := aS_ hu; have HB4 := HWS; clear hg hu hf; have zs2 := (blk_cell KS.out 2).trans rfl; have zf2 := blk_frozen KS.out 2))
          | (go_at_call 60; (replace HG := aS_ (HG.out.set (Ne.symm HNS.out) 2 (.slice A2 us.length c2)); replace KS := aS_ (blk_put KS.out 2 (.slice A2 us.length c2) rfl); replace KA := aS_ (blk_far KA.out (p := ⟨gs, 2, none⟩) HNN.out (.slice A2 us.length c2)); replace HO := aS_ (Kd.R_far HO.out (p := ⟨gs, 2, none⟩) (fun k hk => far_B HSB.out k hk) (.slice A2 us.length c2)); replace HU := aS_ (Kd.S_far HU.out (p := ⟨gs, 2, none⟩) (fun k hk => far_B HSB.out k hk.1) (.slice A2 us.length c2)); replace HWS := aS_ (Nat.le_trans HWS.out (set_size _ ⟨gs, 2, none⟩ (.slice A2 us.length c2))); replace HF := aS_ (HF.out.set HWG.out HGG.out 2 (.slice A2 us.length c2)); refine (pk_steps.atB k g s q3 (rs, q4) w4.heap.size _ (set_size w4 ⟨gs, 2, none⟩ (.slice A2 us.length c2)) HG.out HX2.out).mono ?_; rintro e w5 ⟨⟨A3, c3, rfl, hg, hu⟩, hf⟩; have HL45 := aS_ (Nat.le_trans (set_size w4 ⟨gs, 2, none⟩ (.slice A2 us.length c2)) hf.1.size : w4.heap.size ≤ w5.heap.size); replace KS := aS_ (hf.2.blk KS.out HNS.out (by simp)); replace KA := aS_ (hf.2.blk KA.out HNA.out (by simp)); replace HO := aS_ (Kd.R_keep HO.out hf.2 (rd_ne HGB.out)); replace HU := aS_ (Kd.S_keep HU.out hf.2 (fun k hk => rd_ne HGB.out k hk.1)); replace HWS := aS_ (Nat.le_trans HWS.out hf.1.size); replace HF := aS_ (HF.out.trans hf); replace HG := aS_ hg; have HR := aS_ hu; have HB5 := aS_ (Nat.le_trans HB4.out HL45.out); clear hg hu hf; have zs3 := (blk_cell KS.out 3).trans rfl; have zf3 := blk_frozen KS.out 3))
          | (go_at_call 61; (replace HG := aS_ (HG.out.set (Ne.symm HNS.out) 3 (.slice A3 rs.length c3)); replace KS := aS_ (blk_put KS.out 3 (.slice A3 rs.length c3) rfl); replace KA := aS_ (blk_far KA.out (p := ⟨gs, 3, none⟩) HNN.out (.slice A3 rs.length c3)); replace HO := aS_ (Kd.R_far HO.out (p := ⟨gs, 3, none⟩) (fun k hk => far_B HSB.out k hk) (.slice A3 rs.length c3)); replace HU := aS_ (Kd.S_far HU.out (p := ⟨gs, 3, none⟩) (fun k hk => far_B HSB.out k hk.1) (.slice A3 rs.length c3)); replace HR := aS_ (Kd.S_far HR.out (p := ⟨gs, 3, none⟩) (fun k hk => far_B (Nat.lt_of_lt_of_le HSB.out HB4.out) k hk.1) (.slice A3 rs.length c3)); replace HWS := aS_ (Nat.le_trans HWS.out (set_size _ ⟨gs, 3, none⟩ (.slice A3 rs.length c3))); replace HF := aS_ (HF.out.set HWG.out HGG.out 3 (.slice A3 rs.length c3)); refine (pk_flag.calls g s q4 (.ok (op, q5)) _ HG.out HX3.out).mono ?_; rintro e w6 ⟨⟨rfl, hg⟩, hf⟩; have HL56 := aS_ (Nat.le_trans (set_size w5 ⟨gs, 3, none⟩ (.slice A3 rs.length c3)) hf.1.size : w5.heap.size ≤ w6.heap.size); replace KS := aS_ (hf.2.blk KS.out HNS.out (by simp)); replace KA := aS_ (hf.2.blk KA.out HNA.out (by simp)); replace HO := aS_ (Kd.R_keep HO.out hf.2 (rd_ne HGB.out)); replace HU := aS_ (Kd.S_keep HU.out hf.2 (fun k hk => rd_ne HGB.out k hk.1)); replace HR := aS_ (Kd.S_keep HR.out hf.2 (fun k hk => rd_ne (Nat.lt_of_lt_of_le HGB.out HB4.out) k hk.1)); replace HWS := aS_ (Nat.le_trans HWS.out hf.1.size); replace HF := aS_ (HF.out.trans hf); replace HG := aS_ hg; clear hg hf; have zs4 := (blk_cell KS.out 4).trans rfl; have zf4 := blk_frozen KS.out 4))
          | (go_at_call 62; (replace HG := aS_ (HG.out.set (Ne.symm HNS.out) 4 (.bool op)); replace KS := aS_ (blk_put KS.out 4 (.bool op) rfl); replace KA := aS_ (blk_far KA.out (p := ⟨gs, 4, none⟩) HNN.out (.bool op)); replace HO := aS_ (Kd.R_far HO.out (p := ⟨gs, 4, none⟩) (fun k hk => far_B HSB.out k hk) (.bool op)); replace HU := aS_ (Kd.S_far HU.out (p := ⟨gs, 4, none⟩) (fun k hk => far_B HSB.out k hk.1) (.bool op)); replace HR := aS_ (Kd.S_far HR.out (p := ⟨gs, 4, none⟩) (fun k hk => far_B (Nat.lt_of_lt_of_le HSB.out HB4.out) k hk.1) (.bool op)); replace HWS := aS_ (Nat.le_trans HWS.out (set_size _ ⟨gs, 4, none⟩ (.bool op))); replace HF := aS_ (HF.out.set HWG.out HGG.out 4 (.bool op)); refine (pk_edits.atB k g s q5 (es, q6) w5.heap.size _ (Nat.le_trans HL56.out (set_size w6 ⟨gs, 4, none⟩ (.bool op))) HG.out HX4.out).mono ?_; rintro e w7 ⟨⟨A5, c5, rfl, hg, hu⟩, hf⟩; replace KS := aS_ (hf.2.blk KS.out HNS.out (by simp)); replace KA := aS_ (hf.2.blk KA.out HNA.out (by simp)); replace HO := aS_ (Kd.R_keep HO.out hf.2 (rd_ne HGB.out)); replace HU := aS_ (Kd.S_keep HU.out hf.2 (fun k hk => rd_ne HGB.out k hk.1)); replace HR := aS_ (Kd.S_keep HR.out hf.2 (fun k hk => rd_ne (Nat.lt_of_lt_of_le HGB.out HB4.out) k hk.1)); replace HWS := aS_ (Nat.le_trans HWS.out hf.1.size); replace HF := aS_ (HF.out.trans hf); replace HG := aS_ hg; have HE := aS_ hu; clear hg hu hf; have zs5 := (blk_cell KS.out 5).trans rfl; have zf5 := blk_frozen KS.out 5)))
         replace HG := aS_ (HG.out.set (Ne.symm HNS.out) 5 (.slice A5 es.length c5))
         replace KS := aS_ (blk_put KS.out 5 (.slice A5 es.length c5) rfl)
         replace KA := aS_ (blk_far KA.out (p := ⟨gs, 5, none⟩) HNN.out (.slice A5 es.length c5))
         replace HO := aS_ (Kd.R_far HO.out (p := ⟨gs, 5, none⟩) (fun k hk => far_B HSB.out k hk) (.slice A5 es.length c5))
         replace HU := aS_ (Kd.S_far HU.out (p := ⟨gs, 5, none⟩) (fun k hk => far_B HSB.out k hk.1) (.slice A5 es.length c5))
         replace HR := aS_ (Kd.S_far HR.out (p := ⟨gs, 5, none⟩) (fun k hk => far_B (Nat.lt_of_lt_of_le HSB.out HB4.out) k hk.1) (.slice A5 es.length c5))
         replace HE := aS_ (Kd.R_far HE.out (p := ⟨gs, 5, none⟩) (fun k hk => far_B (Nat.lt_of_lt_of_le HSB.out HB5.out) k hk) (.slice A5 es.length c5))
         replace HWS := aS_ (Nat.le_trans HWS.out (set_size _ ⟨gs, 5, none⟩ (.slice A5 es.length c5)))
         replace HF := aS_ (HF.out.set HWG.out HGG.out 5 (.slice A5 es.length c5))
         have y0 := (blk_cell HG.out 0).trans rfl
         have y1 := (blk_cell HG.out 1).trans rfl
         replace hq : (if q6 < (s.size : Int) then some (.error 6) else some (.ok (tx, ms, us, rs, op, es))) = some o := hq
         split at hq
         ·rename_i hlt
          obtain rfl := Option.some.inj hq
          have d0 : decide (q6 < (s.size : Int)) = true := decide_eq_true hlt
          clear hq hlt
          have hpan : ∀ w : World, (Instr.panic (.iface 29 (.int .i64 6))).run Try.prog w = .halt (.panic (.iface 29 (.int .i64 6))) w := fun _ => rfl
          go_wp2
          repeat (go_quiet (fail); try go_wp2)
          exact ⟨rfl, rfl, HF.out.drewN _⟩
         ·rename_i hlt
          obtain rfl := Option.some.inj hq
          have d0 : decide (q6 < (s.size : Int)) = false := decide_eq_false hlt
          clear hq hlt zs2 zs3 zs4 zs5 zf2 zf3 zf4 zf5
          have z0 := (blk_cell KS.out 0).trans rfl
          have z1 := (blk_cell KS.out 1).trans rfl
          have z2 := (blk_cell KS.out 2).trans rfl
          have z3 := (blk_cell KS.out 3).trans rfl
          have z4 := (blk_cell KS.out 4).trans rfl
          have z5 := (blk_cell KS.out 5).trans rfl
          have x0 := (blk_cell KA.out 0).trans rfl
          have x1 := (blk_cell KA.out 1).trans rfl
          have x2 := (blk_cell KA.out 2).trans rfl
          have x3 := (blk_cell KA.out 3).trans rfl
          have x4 := (blk_cell KA.out 4).trans rfl
          have x5 := (blk_cell KA.out 5).trans rfl
          have f0 := blk_frozen KA.out 0
          have f1 := blk_frozen KA.out 1
          have f2 := blk_frozen KA.out 2
          have f3 := blk_frozen KA.out 3
          have f4 := blk_frozen KA.out 4
          have f5 := blk_frozen KA.out 5
          have hn1 := HNN.out
          have hn2 := Ne.symm HNN.out
          go_wp2
          repeat (go_quiet (fail); try go_wp2)
          have HK : ∀ W : World, KeepBut W ((((((W.setCell ⟨w.heap.size, 0, none⟩ (.string tx)).setCell ⟨w.heap.size, 1, none⟩ (.slice A1 ms.length c1)).setCell ⟨w.heap.size, 2, none⟩ (.slice A2 us.length c2)).setCell ⟨w.heap.size, 3, none⟩ (.slice A3 rs.length c3)).setCell ⟨w.heap.size, 4, none⟩ (.bool op)).setCell ⟨w.heap.size, 5, none⟩ (.slice A5 es.length c5)) w.heap.size none := fun W => ((((((KeepBut.refl W w.heap.size none).set_ 0 _).set_ 1 _).set_ 2 _).set_ 3 _).set_ 4 _).set_ 5 _
          have b4 := HB4.out
          have b5 := HB5.out
          have b45 := HL45.out
          have bw := HAB.out
          have hur : ∀ k, k < w4.heap.size → some k ≠ (Value.slice A3 rs.length c3).ownBlock := fun k hk e => by have := Kd.S_base HR.out k e.symm; omega
          have hue : ∀ k, k < w5.heap.size → some k ≠ (Value.slice A5 es.length c5).ownBlock := fun k hk e => by have := Kd.R_base HE.out k e.symm; omega
          have hru : ∀ k, w4.heap.size ≤ k → some k ≠ (Value.slice A2 us.length c2).ownBlock := fun k hk e => by have := ((Kd.S_R HU.out).1 k e.symm).2; omega
          refine bodyPost_ret (pk_results rfl _ _ w.heap.size 26 #[.string tx, .slice A1 ms.length c1, .slice A2 us.length c2, .slice A3 rs.length c3, .bool op, .slice A5 es.length c5] (0, 0) _ rfl (by refine blk_put (cs := #[.string tx, .slice A1 ms.length c1, .slice A2 us.length c2, .slice A3 rs.length c3, .bool op, .slice none 0 0]) ?_ 5 _ rfl; refine blk_put (cs := #[.string tx, .slice A1 ms.length c1, .slice A2 us.length c2, .slice A3 rs.length c3, .bool false, .slice none 0 0]) ?_ 4 _ rfl; refine blk_put (cs := #[.string tx, .slice A1 ms.length c1, .slice A2 us.length c2, .slice none 0 0, .bool false, .slice none 0 0]) ?_ 3 _ rfl; refine blk_put (cs := #[.string tx, .slice A1 ms.length c1, .slice none 0 0, .slice none 0 0, .bool false, .slice none 0 0]) ?_ 2 _ rfl; refine blk_put (cs := #[.string tx, .slice none 0 0, .slice none 0 0, .slice none 0 0, .bool false, .slice none 0 0]) ?_ 1 _ rfl; refine blk_put (cs := #[.string (⟨#[]⟩ : ByteArray), .slice none 0 0, .slice none 0 0, .slice none 0 0, .bool false, .slice none 0 0]) ?_ 0 _ rfl; exact bN KA.out _) Try.underlying26 rfl (by kernel_rfl)) rfl ?_
          refine ⟨⟨A1, c1, A2, c2, A3, c3, A5, c5, rfl, ?_, ?_, ?_, ?_⟩, ?_⟩
          ·exact Kd.R_lower (Kd.R_mono (Kd.R_keep (Kd.R_drewN HO.out _) (HK _) (fun k hk => by omega)) (fun _ _ => trivial)) (Nat.le_of_lt bw)
          ·exact Kd.S_lower (Kd.S_mono (Kd.S_keep (Kd.S_drewN HU.out _) (HK _) (fun k hk => by omega)) (fun k hk => ⟨hur k hk.2, hue k (Nat.lt_of_lt_of_le hk.2 b45)⟩)) (Nat.le_of_lt bw)
          ·exact Kd.S_lower (Kd.S_mono (Kd.S_keep (Kd.S_drewN HR.out _) (HK _) (fun k hk => by omega)) (fun k hk => ⟨hru k hk.1, hue k hk.2⟩)) (by omega)
          ·exact Kd.R_lower (Kd.R_mono (Kd.R_keep (Kd.R_drewN HE.out _) (HK _) (fun k hk => by omega)) (fun _ _ => trivial)) (by omega)
          ·have hg := Nat.le_of_lt HGW.out
           exact ((((((HF.out.drewN _).set (Nat.le_refl _) hg 0 _).set (Nat.le_refl _) hg 1 _).set (Nat.le_refl _) hg 2 _).set (Nat.le_refl _) hg 3 _).set (Nat.le_refl _) hg 4 _).set (Nat.le_refl _) hg 5 _
    | succ k1 =>
     have c0 : decide (i < m) = true := decide_eq_true (by have := HI.out; omega)
     obtain ⟨x, hx, hrest⟩ := Option.bind_eq_some_iff.mp HQ.out
     clear HQ
     obtain ⟨y, hy, hx⟩ := Option.bind_eq_some_iff.mp hx
     cases y with
     | error c =>
      obtain rfl := Option.some.inj hx
      obtain rfl := Option.some.inj hrest
      have HP := aS_ hy
      clear hx hrest hy
      go_wp2_with (go_at_call 57; refine (pk_text.calls k g s q (.error c) _ HG.out HP.out).mono ?_; rintro e w4 ⟨rfl, hf⟩; replace HF := aS_ (HF.out.trans hf); clear hf)
      exact ⟨rfl, rfl, HF.out⟩
     | ok a =>
      obtain ⟨nm, qa⟩ := a
      have HT := aS_ hy
      clear hy
      obtain ⟨y, hy, hx⟩ := Option.bind_eq_some_iff.mp hx
      have HP := aS_ hy
      clear hy
      go_upto_region 5 with (go_at_call 57; refine (pk_text.calls k g s q (.ok (nm, qa)) _ HG.out HT.out).mono ?_; rintro e w4 ⟨⟨rfl, hg⟩, hf⟩; replace HG := aS_ hg; replace KS := aS_ (hf.2.blk KS.out HNS.out (by simp)); replace KA := aS_ (hf.2.blk KA.out HNA.out (by simp)); replace HWS := aS_ (Nat.le_trans HWS.out hf.1.size); replace HO := aS_ (Kd.R_keep HO.out hf.2 (rd_ne HGB.out)); replace HF := aS_ (HF.out.trans hf); clear hg hf)
      replace HG := aS_ (show rd_at g s qa w4.drew from bD HG.out)
      replace KS := aS_ (bD KS.out)
      replace KA := aS_ (bD KA.out)
      replace HWS := aS_ (show B ≤ w4.drew.heap.size from HWS.out)
      replace HO := aS_ (Kd.R_drew HO.out)
      replace HF := aS_ HF.out.drew
      cases y with
      | error c =>
       obtain rfl := Option.some.inj hx
       obtain rfl := Option.some.inj hrest
       clear hx hrest
       refine start_ (n := 10) (S := fun w' => w'.cell? ⟨gs, 1, none⟩ = some (.slice A1 ms.length c1)) (ds := [9]) #[false, false, false, false, false, false, false, false, false, false] (by kernel_rfl) rfl rfl ((blk_cell (KS.out) 1).trans rfl) (fun hHeld => ?_)
       refine pure_ (i := 0) (N := some 14) (v := ?_) (a' := ?_) #[true, false, false, false, false, false, false, false, false, false] rfl rfl (by kernel_rfl) (fun _ _ _ h => h) (Or.inl ⟨by rfl, ?_⟩) ?_ ?_
       rotate_left
       ·intro w'
        go_simp
        with_reducible rfl
       rotate_left
       ·simp only [Act.put, List.setIfInBounds_toArray, List.set_cons_zero, List.set_cons_succ, i64_w, i32_w]
        rfl
       refine pure_ (i := 2) (N := some 16) (v := ?_) (a' := ?_) #[true, false, true, false, false, false, false, false, false, false] rfl rfl (by kernel_rfl) (fun _ _ _ h => h) (Or.inl ⟨by rfl, ?_⟩) ?_ ?_
       rotate_left
       ·intro w'
        go_simp
        with_reducible rfl
       rotate_left
       ·simp only [Act.put, List.setIfInBounds_toArray, List.set_cons_zero, List.set_cons_succ, i64_w, i32_w]
        rfl
       refine pure_ (i := 3) (N := some 17) (v := ?_) (a' := ?_) #[true, false, true, true, false, false, false, false, false, false] rfl rfl (by kernel_rfl) (fun _ _ _ h => h) (Or.inl ⟨by rfl, ?_⟩) ?_ ?_
       rotate_left
       ·intro w'
        go_simp
        with_reducible rfl
       rotate_left
       ·simp only [Act.put, List.setIfInBounds_toArray, List.set_cons_zero, List.set_cons_succ, i64_w, i32_w]
        rfl
       refine take_ (i := 1) (N := some 15) (v := ?_) (a' := ?_) #[true, true, true, true, false, false, false, false, false, false] rfl rfl (by kernel_rfl) (fun _ _ _ h => h) (Or.inl ⟨by rfl, ?_⟩) hHeld ?_ ?_
       rotate_left
       ·intro w' s0
        go_simp
        with_reducible rfl
       rotate_left
       ·simp only [Act.put, List.setIfInBounds_toArray, List.set_cons_zero, List.set_cons_succ, i64_w, i32_w]
        rfl
       refine one_ (i := 4) (N := some 18) #[true, true, true, true, true, false, false, false, false, false] rfl rfl (by kernel_rfl) (by decide) (fun K hK => ?_)
       refine pk_dies Try.func59 (by kernel_rfl) rfl #[.pointer (some ⟨g, 0, none⟩)] (by rfl) rfl rfl (by simp only [List.map_toArray, List.map_cons, List.map_nil]; rfl) ?_
       refine (pk_place.calls k g s qa (.error c) _ HG.out HP.out).mono ?_
       rintro e w5 ⟨rfl, hf⟩
       exact ⟨_, rfl, rfl, rfl, HF.out.trans hf⟩
      | ok b =>
       obtain ⟨at_, qb⟩ := b
       have HZ : pk_bind (pk_marks1 k s k1 qb (ms ++ [⟨nm, at_⟩])) (pk_rest k s tx) = some o := by
        have hx' : pk_marks1 k s k1 qb (ms ++ [⟨nm, at_⟩]) = some x := hx
        unfold pk_bind
        rw [hx']
        exact hrest
       replace HZ := aS_ HZ
       clear hx hrest
       refine start_ (n := 10) (S := fun w' => w'.cell? ⟨gs, 1, none⟩ = some (.slice A1 ms.length c1)) (ds := [9]) #[false, false, false, false, false, false, false, false, false, false] (by kernel_rfl) rfl rfl ((blk_cell (KS.out) 1).trans rfl) (fun hHeld => ?_)
       refine pure_ (i := 0) (N := some 14) (v := ?_) (a' := ?_) #[true, false, false, false, false, false, false, false, false, false] rfl rfl (by kernel_rfl) (fun _ _ _ h => h) (Or.inl ⟨by rfl, ?_⟩) ?_ ?_
       rotate_left
       ·intro w'
        go_simp
        with_reducible rfl
       rotate_left
       ·simp only [Act.put, List.setIfInBounds_toArray, List.set_cons_zero, List.set_cons_succ, i64_w, i32_w]
        rfl
       refine pure_ (i := 2) (N := some 16) (v := ?_) (a' := ?_) #[true, false, true, false, false, false, false, false, false, false] rfl rfl (by kernel_rfl) (fun _ _ _ h => h) (Or.inl ⟨by rfl, ?_⟩) ?_ ?_
       rotate_left
       ·intro w'
        go_simp
        with_reducible rfl
       rotate_left
       ·simp only [Act.put, List.setIfInBounds_toArray, List.set_cons_zero, List.set_cons_succ, i64_w, i32_w]
        rfl
       refine pure_ (i := 3) (N := some 17) (v := ?_) (a' := ?_) #[true, false, true, true, false, false, false, false, false, false] rfl rfl (by kernel_rfl) (fun _ _ _ h => h) (Or.inl ⟨by rfl, ?_⟩) ?_ ?_
       rotate_left
       ·intro w'
        go_simp
        with_reducible rfl
       rotate_left
       ·simp only [Act.put, List.setIfInBounds_toArray, List.set_cons_zero, List.set_cons_succ, i64_w, i32_w]
        rfl
       refine take_ (i := 1) (N := some 15) (v := ?_) (a' := ?_) #[true, true, true, true, false, false, false, false, false, false] rfl rfl (by kernel_rfl) (fun _ _ _ h => h) (Or.inl ⟨by rfl, ?_⟩) hHeld ?_ ?_
       rotate_left
       ·intro w' s0
        go_simp
        with_reducible rfl
       rotate_left
       ·simp only [Act.put, List.setIfInBounds_toArray, List.set_cons_zero, List.set_cons_succ, i64_w, i32_w]
        rfl
       refine one_ (i := 4) (N := some 18) #[true, true, true, true, true, false, false, false, false, false] rfl rfl (by kernel_rfl) (by decide) (fun K hK => ?_)
       refine goes_ Try.func59 (by kernel_rfl) rfl #[.pointer (some ⟨g, 0, none⟩)] (by rfl) rfl rfl (by simp only [List.map_toArray, List.map_cons, List.map_nil]; rfl) ?_
       refine (pk_place.calls k g s qa (.ok (at_, qb)) _ HG.out HP.out).mono ?_
       rintro e w5 ⟨⟨rfl, hg⟩, hf⟩
       refine ⟨_, rfl, ?_⟩
       replace HG := aS_ hg
       replace KS := aS_ (hf.2.blk KS.out HNS.out (by simp))
       replace KA := aS_ (hf.2.blk KA.out HNA.out (by simp))
       replace HO := aS_ (Kd.R_keep HO.out hf.2 (rd_ne HGB.out))
       replace HF := aS_ (HF.out.trans hf)
       have hsz_ := hf.1.size
       clear hg hf
       have HBW := aS_ (Nat.le_trans HWS.out hsz_)
       clear hsz_
       refine hK.out _ _ ((blk_cell (KS.out) 1).trans rfl) (fun hHeld => ?_)
       clear hK K
       refine norm_ (a' := ?_) ?_ ?_
       rotate_left
       ·show Act.put _ (some 18) _ = _
        simp only [Act.put, List.setIfInBounds_toArray, List.set_cons_zero, List.set_cons_succ, i64_w, i32_w]
        rfl
       refine pure_ (i := 5) (N := some 19) (v := ?_) (a' := ?_) #[true, true, true, true, true, true, false, false, false, false] rfl rfl (by kernel_rfl) (fun _ _ _ h => h) (Or.inl ⟨by rfl, ?_⟩) ?_ ?_
       rotate_left
       ·intro w'
        go_simp
        with_reducible rfl
       rotate_left
       ·simp only [Act.put, List.setIfInBounds_toArray, List.set_cons_zero, List.set_cons_succ, i64_w, i32_w]
        rfl
       refine one_ (i := 6) (N := some 20) #[true, true, true, true, true, true, true, false, false, false] rfl rfl (by kernel_rfl) (by decide) (fun K hK => ?_)
       refine value_ (w1 := ?_) (v := ?_) (by rfl) rfl ?_ ?_
       rotate_left 2
       ·go_simp
        constructor
        ·rfl
        ·rfl
       refine hK.out _ _ ((blk_cell (bA KS.out _) 1).trans rfl) (fun hHeld => ?_)
       clear hK K
       refine norm_ (a' := ?_) ?_ ?_
       rotate_left
       ·show Act.put _ (some 20) _ = _
        simp only [Act.put, List.setIfInBounds_toArray, List.set_cons_zero, List.set_cons_succ, i64_w, i32_w]
        rfl
       refine one_ (i := 7) (N := some 21) #[true, true, true, true, true, true, true, true, false, false] rfl rfl (by kernel_rfl) (by decide) (fun K hK => ?_)
       refine Kd.R_append_step k49 (w0 := w5) B (by rfl) (.tmp 15) (.tmp 20) 22 49 (.agg #[(.string ⟨#[]⟩), (.int .i64 0)]) 24 rfl Try.underlying22 info49 rfl (by decide) (by omega) _ ms (⟨nm, at_⟩ : S49) [.string nm, .int .i64 at_] (fun k => B ≤ k) (fun _ => False) rfl rfl ?aP (fun _ hk => hk.elim) ?aF HO.out ?aB ?aS ?aL ?_
       case aP => exact k49_mkM _ _ _ (⟨nm, at_⟩ : S49)
       case aF => exact fun k hk => Nat.le_trans HBW.out hk
       case aB => exact Below.refl _ _
       case aS => exact HBW.out
       case aL => have := HLEN.out; have := HI.out; have := HM.out; omega
       intro v1 w6 ho hb _ _
       obtain ⟨A2, c2, rfl⟩ := Kd.R_slice ho
       replace HO := aS_ ho
       replace HG := aS_ (show rd_at g s qb w6 from (hb.block _ HGB.out).trans HG.out)
       replace KS := aS_ ((hb.block _ HSB.out).trans KS.out)
       replace KA := aS_ ((hb.block _ HAB.out).trans KA.out)
       replace HF := aS_ (HF.out.over2 HGB.out HWB.out hb)
       replace HWS := aS_ (Nat.le_trans HBW.out hb.size)
       clear ho hb
       have zc := (blk_cell KS.out 1).trans rfl
       have zf := blk_frozen KS.out 1
       refine hK.out _ _ ((blk_cell (KS.out) 1).trans rfl) (fun hHeld => ?_)
       clear hK K
       refine norm_ (a' := ?_) ?_ ?_
       rotate_left
       ·show Act.put _ (some 21) _ = _
        simp only [Act.put, List.setIfInBounds_toArray, List.set_cons_zero, List.set_cons_succ, i64_w, i32_w]
        rfl
       refine pure_ (i := 8) (N := some 22) (v := ?_) (a' := ?_) #[true, true, true, true, true, true, true, true, true, false] rfl rfl (by kernel_rfl) (fun _ _ _ h => h) (Or.inl ⟨by rfl, ?_⟩) ?_ ?_
       rotate_left
       ·intro w'
        go_simp
        with_reducible rfl
       rotate_left
       ·simp only [Act.put, List.setIfInBounds_toArray, List.set_cons_zero, List.set_cons_succ, i64_w, i32_w]
        rfl
       refine last_ (i := 9) (N := none) #[true, true, true, true, true, true, true, true, true, true] rfl rfl (by kernel_rfl) (by decide) (fun K hK => ?_)
       refine skip_ (w1 := ?_) (by rfl) rfl ?_ ?_
       rotate_left
       ·go_simp
        rfl
       refine hK.out _ _ ?_
       clear hK K
       refine done_ (by kernel_rfl) ?_
       have ws : wrap64 ((i : Int) + 1) = ((i + 1 : Nat) : Int) := by
        have := HI.out
        have := HM.out
        unfold wrap64
        omega
       have hl : (ms ++ [(⟨nm, at_⟩ : S49)]).length = ms.length + 1 := by simp
       go_wp2_with fail
       go_roundg k1
       case measure => omega
       case rel => exact ⟨i + 1, qb, ms ++ [⟨nm, at_⟩], A2, c2, congrArg (Value.int .i64) ws, ⟨by have := HI.out; omega⟩, ⟨by have := HLEN.out; simp; omega⟩, HZ, ⟨HG.out.set (Ne.symm HNS.out) 1 _⟩, ⟨by rw [hl]; exact blk_put KS.out 1 _ rfl⟩, ⟨blk_far KA.out (p := ⟨gs, 1, none⟩) HNN.out _⟩, ⟨Nat.le_trans HWS.out (Nat.le_of_eq (by simp))⟩, ⟨Kd.R_far HO.out (p := ⟨gs, 1, none⟩) (fun k hk => far_B HSB.out k hk) _⟩, ⟨HF.out.set HWG.out HGG.out 1 _⟩⟩
theorem pk_ta (c : Int) (w : World) : (Instr.typeAssert (.iface 29 (.int .i64 c)) 20 29 true).run Try.prog w = .ok (.tuple #[.int .i64 c, .bool true]) w := by kernel_rfl
theorem pk_tn (w : World) : (Instr.typeAssert .nilIface 20 29 true).run Try.prog w = .ok (.tuple #[.int .i64 0, .bool false]) w := by kernel_rfl
set_option maxHeartbeats 4000000 in
set_option maxRecDepth 100000 in
theorem pk_idle (a b : Nat) (w : World) :
  CallsD Try.prog 27 #[.pointer (some ⟨a, 0, none⟩), .pointer (some ⟨b, 0, none⟩)] .returning w fun e u' w' =>
   e = .returned (.tuple #[]) ∧ u' = .returning ∧ w' = w := by
 refine callsD_of_wpS Try.func27 rfl fun c₀ cs hu => ?_
 apply wpS_seq
 apply wpS_region
 simp [wpOpsS, go_sem, recoverD, hu, Try.ntmps27, Exit.thenS, pk_tn]
 refine wpS_of_wp ?_
 simp only [← List.toArray_replicate, List.setIfInBounds_toArray, List.replicate, List.set_cons_zero, List.set_cons_succ, List.append_toArray, List.cons_append, List.nil_append]
 go_wp2
 cases c₀
 simp_all [bodyPostS, results, Try.results27]
set_option maxHeartbeats 4000000 in
set_option maxRecDepth 100000 in
theorem pk_catch (c : Int) (a b : Nat) (x0 x1 x2 x3 x4 x5 : Value) (d : Int) (older : List PanicEntry) (w : World) (ha : w.heap[a]? = some (.cells #[x0, x1, x2, x3, x4, x5] 26 (0, 0))) (hb : w.heap[b]? = some (.cells #[.int .i64 d] 29 (0, 0))) (hne : a ≠ b) :
  CallsD Try.prog 27 #[.pointer (some ⟨a, 0, none⟩), .pointer (some ⟨b, 0, none⟩)] (.panicking ({ v := .iface 29 (.int .i64 c), recovered := false } :: older)) w fun e u' w' =>
   e = .returned (.tuple #[]) ∧ u' = .panicking ({ v := .iface 29 (.int .i64 c), recovered := true } :: older) ∧ w'.heap[a]? = some (.cells #[.string (⟨#[]⟩ : ByteArray), .slice none 0 0, .slice none 0 0, .slice none 0 0, .bool false, .slice none 0 0] 26 (0, 0)) ∧ w'.heap[b]? = some (.cells #[.int .i64 c] 29 (0, 0)) ∧ (∀ B, B ≤ a → B ≤ b → Below B w w') := by
 refine callsD_of_wpS Try.func27 rfl fun c₀ cs hu => ?_
 apply wpS_seq
 apply wpS_region
 simp [wpOpsS, go_sem, recoverD, hu, Try.ntmps27, Exit.thenS, pk_ta]
 refine wpS_of_wp ?_
 simp only [← List.toArray_replicate, List.setIfInBounds_toArray, List.replicate, List.set_cons_zero, List.set_cons_succ, List.append_toArray, List.cons_append, List.nil_append]
 have y0 := (blk_cell ha 0).trans rfl
 have y1 := (blk_cell ha 1).trans rfl
 have y2 := (blk_cell ha 2).trans rfl
 have y3 := (blk_cell ha 3).trans rfl
 have y4 := (blk_cell ha 4).trans rfl
 have y5 := (blk_cell ha 5).trans rfl
 have f0 := blk_frozen ha 0
 have f1 := blk_frozen ha 1
 have f2 := blk_frozen ha 2
 have f3 := blk_frozen ha 3
 have f4 := blk_frozen ha 4
 have f5 := blk_frozen ha 5
 have b0 := (blk_cell hb 0).trans rfl
 have bf := blk_frozen hb 0
 have hne2 := Ne.symm hne
 have HA := aS_ ha
 have HB := aS_ hb
 clear ha hb
 go_wp2
 simp [bodyPostS, results, Try.results27]
 refine ⟨?_, ?_, ?_⟩
 ·refine blk_far (p := ⟨b, 0, none⟩) ?_ hne _
  refine blk_put (cs := #[.string (⟨#[]⟩ : ByteArray), .slice none 0 0, .slice none 0 0, .slice none 0 0, .bool false, x5]) ?_ 5 _ rfl
  refine blk_put (cs := #[.string (⟨#[]⟩ : ByteArray), .slice none 0 0, .slice none 0 0, .slice none 0 0, x4, x5]) ?_ 4 _ rfl
  refine blk_put (cs := #[.string (⟨#[]⟩ : ByteArray), .slice none 0 0, .slice none 0 0, x3, x4, x5]) ?_ 3 _ rfl
  refine blk_put (cs := #[.string (⟨#[]⟩ : ByteArray), .slice none 0 0, x2, x3, x4, x5]) ?_ 2 _ rfl
  refine blk_put (cs := #[.string (⟨#[]⟩ : ByteArray), x1, x2, x3, x4, x5]) ?_ 1 _ rfl
  refine blk_put (cs := #[x0, x1, x2, x3, x4, x5]) ?_ 0 _ rfl
  exact HA.out
 ·refine blk_put (cs := #[.int .i64 d]) ?_ 0 _ rfl
  refine blk_far (p := ⟨a, 5, none⟩) ?_ hne2 _
  refine blk_far (p := ⟨a, 4, none⟩) ?_ hne2 _
  refine blk_far (p := ⟨a, 3, none⟩) ?_ hne2 _
  refine blk_far (p := ⟨a, 2, none⟩) ?_ hne2 _
  refine blk_far (p := ⟨a, 1, none⟩) ?_ hne2 _
  refine blk_far (p := ⟨a, 0, none⟩) ?_ hne2 _
  exact HB.out
 ·intro B h1 h2
  exact (((((((Below.refl B w).setCell (p := ⟨a, 0, none⟩) h1 _).setCell (p := ⟨a, 1, none⟩) h1 _).setCell (p := ⟨a, 2, none⟩) h1 _).setCell (p := ⟨a, 3, none⟩) h1 _).setCell (p := ⟨a, 4, none⟩) h1 _).setCell (p := ⟨a, 5, none⟩) h1 _).setCell (p := ⟨b, 0, none⟩) h2 _
theorem pk_final (tm : Array Value) (a b : Nat) (x0 x1 x2 x3 x4 x5 : Value) (c : Int) (w : World) (h2 : tm.getD 2 undef = .pointer (some ⟨a, 0, none⟩)) (h3 : tm.getD 3 undef = .pointer (some ⟨b, 0, none⟩)) (ha : w.heap[a]? = some (.cells #[x0, x1, x2, x3, x4, x5] 26 (0, 0))) (hb : w.heap[b]? = some (.cells #[.int .i64 c] 29 (0, 0))) :
  (results Try.f10 tm).run Try.prog w = .ok (.tuple #[.agg #[x0, x1, x2, x3, x4, x5], .int .i64 c]) w := by
 have h2' : tm[2]?.getD undef = .pointer (some ⟨a, 0, none⟩) := by simpa using h2
 have h3' : tm[3]?.getD undef = .pointer (some ⟨b, 0, none⟩) := by simpa using h3
 have hc := (blk_cell hb 0).trans rfl
 have hr : Try.f10.results = #[.cell 2 26, .cell 3 29] := rfl
 have hu := Try.underlying29
 have h1 := run_loadVar_row (P := Try.prog) w a 26 26 #[x0, x1, x2, x3, x4, x5] (0, 0) _ ha Try.underlying26 rfl (by kernel_rfl)
 have h4 : (loadVar 29 ⟨b, 0, none⟩).run Try.prog w = .ok (.int .i64 c) w := by simp [loadVar, go_sem, hu, hc]
 simp [results, hr, h2', h3', asAddr, h1, h4]
def pack_Read.f (k : Nat) (a0 : ByteArray) : Option (ByteArray × List S49 × List S38 × List S38 × Bool × List S88 × Int) :=
 (pk_state k a0).bind fun
  | .error c => some ((⟨#[]⟩ : ByteArray), [], [], [], false, [], c)
  | .ok x => (state_Right.f k x.1 x.2.1 x.2.2.1 x.2.2.2.1 x.2.2.2.2.1 x.2.2.2.2.2).bind fun b => if b = true then some (x.1, x.2.1, x.2.2.1, x.2.2.2.1, x.2.2.2.2.1, x.2.2.2.2.2, 0) else some ((⟨#[]⟩ : ByteArray), [], [], [], false, [], 5)
theorem pack_Read.mono : ∀ a0 k, LeO (pack_Read.f k a0) (pack_Read.f (k + 1) a0) := fun a0 k =>
 LeO.bind (pk_state.mono k a0) fun
  | .error _ => LeO.refl _
  | .ok _ => LeO.bind (state_Right.mono _ _ _ _ _ _ _) fun _ => LeO.refl _
set_option maxHeartbeats 16000000 in
set_option maxRecDepth 100000 in
theorem pack_Read.calls (k : Nat) (a0 : ByteArray) (r1 : ByteArray) (r2 : List S49) (r3 : List S38) (r4 : List S38) (r5 : Bool) (r6 : List S88) (r7 : Int) (w : World) (h : pack_Read.f k a0 = some (r1, r2, r3, r4, r5, r6, r7)) :
  Calls Try.prog 10 #[.string a0] w fun e w' => ∃ v1_ v2_ v3_ v5_ : Value, e = .returned (.tuple #[.agg #[.string r1, v1_, v2_, v3_, .bool r5, v5_], .int .i64 r7]) ∧ Kd.R k49 49 w' w.heap.size (fun _ => True) v1_ r2 ∧ Kd.S k38 38 w' w.heap.size (fun k_ => some k_ ≠ (v3_ : Value).ownBlock ∧ some k_ ≠ (v5_ : Value).ownBlock) v2_ r3 ∧ Kd.S k38 38 w' w.heap.size (fun k_ => some k_ ≠ (v2_ : Value).ownBlock ∧ some k_ ≠ (v5_ : Value).ownBlock) v3_ r4 ∧ Kd.R k88 88 w' w.heap.size (fun _ => True) v5_ r6 ∧ Below w.heap.size w w' := by
 have hmf : ∀ (fn : Fn) (first cap : Array Value) (w : World), (Instr.makeFunc fn first cap).run Try.prog w = .ok (.func fn first cap) w := fun _ _ _ _ => rfl
 obtain ⟨x, hx, h⟩ := Option.bind_eq_some_iff.mp h
 have HX := aS_ hx
 clear hx
 obtain ⟨wd, hwd⟩ : ∃ W : World, ((w.alloc (.cells #[.string (⟨#[]⟩ : ByteArray), .slice none 0 0, .slice none 0 0, .slice none 0 0, .bool false, .slice none 0 0] 26)).alloc (.cells #[.int .i64 0] 29)).alloc (.cells #[.string a0, .int .i64 0] 61) = W := ⟨_, rfl⟩
 have HN : Aside0 (wd.heap[w.heap.size]? = some (.cells #[.string (⟨#[]⟩ : ByteArray), .slice none 0 0, .slice none 0 0, .slice none 0 0, .bool false, .slice none 0 0] 26 (0, 0))) := ⟨by subst hwd; exact bA (bA (heap_alloc_new w _) _) _⟩
 have HM : Aside0 (wd.heap[w.heap.size + 1]? = some (.cells #[.int .i64 0] 29 (0, 0))) := ⟨by subst hwd; refine bA ?_ _; simpa using heap_alloc_new (w.alloc (.cells #[.string (⟨#[]⟩ : ByteArray), .slice none 0 0, .slice none 0 0, .slice none 0 0, .bool false, .slice none 0 0] 26)) (.cells #[.int .i64 0] 29)⟩
 have HG : Aside0 (rd_at (w.heap.size + 1 + 1) a0 0 wd) := ⟨by subst hwd; unfold rd_at; simpa using heap_alloc_new ((w.alloc (.cells #[.string (⟨#[]⟩ : ByteArray), .slice none 0 0, .slice none 0 0, .slice none 0 0, .bool false, .slice none 0 0] 26)).alloc (.cells #[.int .i64 0] 29)) (.cells #[.string a0, .int .i64 0] 61)⟩
 have HB : Aside0 (Below w.heap.size w wd) := ⟨by subst hwd; exact wA (wA (wA (Below.refl _ _) _) _) _⟩
 have HSZ : Aside0 (w.heap.size + 2 < wd.heap.size) := ⟨by subst hwd; simp⟩
 have HNE := aS_ (show w.heap.size ≠ w.heap.size + 1 by omega)
 have HNE2 := aS_ (show w.heap.size + 1 ≠ w.heap.size by omega)
 cases x with
 | error c =>
  obtain ⟨rfl, rfl, rfl, rfl, rfl, rfl, rfl⟩ : r1 = (⟨#[]⟩ : ByteArray) ∧ r2 = [] ∧ r3 = [] ∧ r4 = [] ∧ r5 = false ∧ r6 = [] ∧ r7 = c := by
   have h' := Option.some.inj h
   simp only [Prod.mk.injEq] at h'
   exact ⟨h'.1.symm, h'.2.1.symm, h'.2.2.1.symm, h'.2.2.2.1.symm, h'.2.2.2.2.1.symm, h'.2.2.2.2.2.1.symm, h'.2.2.2.2.2.2.symm⟩
  clear h
  go_enter_defers Try.func10, Try.ntmps10
  go_wp2_with (go_at_call 28; refine (pk_state.calls k (w.heap.size + 1 + 1) a0 (.error r7) _ HG.out HX.out).mono ?_; rintro e w2 ⟨rfl, hf⟩; replace HN := aS_ (hf.2.blk HN.out (by omega) (by simp)); replace HM := aS_ (hf.2.blk HM.out (by omega) (by simp)); replace HB := aS_ (HB.out.trans (hf.1.mono (by omega))); clear hf)
  refine leaves_cons (f := 27) (args := #[.pointer (some ⟨w.heap.size, 0, none⟩), .pointer (some ⟨w.heap.size + 1, 0, none⟩)]) (by simp) (by simp [go_sem]) ?_
  refine (pk_catch r7 _ _ _ _ _ _ _ _ _ _ _ HN.out HM.out HNE.out).mono ?_
  rintro e u' w3 ⟨rfl, rfl, h1, h2, h3⟩
  exact ⟨_, pk_final _ _ _ _ _ _ _ _ _ _ _ rfl rfl h1 h2, ⟨_, _, _, _, rfl, Kd.R_nil _ _ _ _ _, Kd.S_nil _ _ _ _ _, Kd.S_nil _ _ _ _ _, Kd.R_nil _ _ _ _ _, HB.out.trans (h3 _ (Nat.le_refl _) (Nat.le_succ _))⟩⟩
 | ok x =>
  obtain ⟨tx, ms, us, rs, op, es⟩ := x
  obtain ⟨b, hb, h⟩ := Option.bind_eq_some_iff.mp h
  have HR := aS_ hb
  clear hb
  have hn0 := HNE.out
  have hn1 := HNE2.out
  cases b with
  | false =>
   obtain ⟨rfl, rfl, rfl, rfl, rfl, rfl, rfl⟩ : r1 = (⟨#[]⟩ : ByteArray) ∧ r2 = [] ∧ r3 = [] ∧ r4 = [] ∧ r5 = false ∧ r6 = [] ∧ r7 = 5 := by
    have h' := Option.some.inj h
    simp only [Prod.mk.injEq] at h'
    exact ⟨h'.1.symm, h'.2.1.symm, h'.2.2.1.symm, h'.2.2.2.1.symm, h'.2.2.2.2.1.symm, h'.2.2.2.2.2.1.symm, h'.2.2.2.2.2.2.symm⟩
   clear h
   go_enter_defers Try.func10, Try.ntmps10
   go_upto_region 3 with (go_at_call 28; refine (pk_state.calls k (w.heap.size + 1 + 1) a0 (.ok (tx, ms, us, rs, op, es)) _ HG.out HX.out).mono ?_; rintro e w2 ⟨⟨A1, c1, A2, c2, A3, c3, A5, c5, rfl, hr1, hr2, hr3, hr5⟩, hf⟩; replace HN := aS_ (hf.2.blk HN.out (by omega) (by simp)); replace HM := aS_ (hf.2.blk HM.out (by omega) (by simp)); replace HB := aS_ (HB.out.trans (hf.1.mono (by omega))); have HR1 := aS_ hr1; have HR2 := aS_ hr2; have HR3 := aS_ hr3; have HR5 := aS_ hr5; clear hf hr1 hr2 hr3 hr5; have xn0 := (blk_cell HN.out 0).trans rfl; have fxn0 := blk_frozen HN.out 0; have xn1 := (blk_cell HN.out 1).trans rfl; have fxn1 := blk_frozen HN.out 1; have xn2 := (blk_cell HN.out 2).trans rfl; have fxn2 := blk_frozen HN.out 2; have xn3 := (blk_cell HN.out 3).trans rfl; have fxn3 := blk_frozen HN.out 3; have xn4 := (blk_cell HN.out 4).trans rfl; have fxn4 := blk_frozen HN.out 4; have xn5 := (blk_cell HN.out 5).trans rfl; have fxn5 := blk_frozen HN.out 5)
   obtain ⟨w3, hw3⟩ : ∃ W : World, ((((((w2.setCell ⟨w.heap.size, 0, none⟩ (.string tx)).setCell ⟨w.heap.size, 1, none⟩ (.slice A1 ms.length c1)).setCell ⟨w.heap.size, 2, none⟩ (.slice A2 us.length c2)).setCell ⟨w.heap.size, 3, none⟩ (.slice A3 rs.length c3)).setCell ⟨w.heap.size, 4, none⟩ (.bool op)).setCell ⟨w.heap.size, 5, none⟩ (.slice A5 es.length c5)) = W := ⟨_, rfl⟩
   have HK : KeepBut w2 w3 w.heap.size none := by rw [← hw3]; exact (((((((KeepBut.refl w2 w.heap.size none).set_ 0 _).set_ 1 _).set_ 2 _).set_ 3 _).set_ 4 _).set_ 5 _)
   have KN : w3.heap[w.heap.size]? = some (.cells #[.string tx, .slice A1 ms.length c1, .slice A2 us.length c2, .slice A3 rs.length c3, .bool op, .slice A5 es.length c5] 26 (0, 0)) := by
    rw [← hw3]
    refine blk_put (cs := #[.string tx, .slice A1 ms.length c1, .slice A2 us.length c2, .slice A3 rs.length c3, .bool op, .slice none 0 0]) ?_ 5 _ rfl
    refine blk_put (cs := #[.string tx, .slice A1 ms.length c1, .slice A2 us.length c2, .slice A3 rs.length c3, .bool false, .slice none 0 0]) ?_ 4 _ rfl
    refine blk_put (cs := #[.string tx, .slice A1 ms.length c1, .slice A2 us.length c2, .slice none 0 0, .bool false, .slice none 0 0]) ?_ 3 _ rfl
    refine blk_put (cs := #[.string tx, .slice A1 ms.length c1, .slice none 0 0, .slice none 0 0, .bool false, .slice none 0 0]) ?_ 2 _ rfl
    refine blk_put (cs := #[.string tx, .slice none 0 0, .slice none 0 0, .slice none 0 0, .bool false, .slice none 0 0]) ?_ 1 _ rfl
    refine blk_put (cs := #[.string (⟨#[]⟩ : ByteArray), .slice none 0 0, .slice none 0 0, .slice none 0 0, .bool false, .slice none 0 0]) ?_ 0 _ rfl
    exact HN.out
   have KM : w3.heap[w.heap.size + 1]? = some (.cells #[.int .i64 0] 29 (0, 0)) := by
    rw [← hw3]
    refine blk_far (p := ⟨w.heap.size, 5, none⟩) ?_ HNE2.out _
    refine blk_far (p := ⟨w.heap.size, 4, none⟩) ?_ HNE2.out _
    refine blk_far (p := ⟨w.heap.size, 3, none⟩) ?_ HNE2.out _
    refine blk_far (p := ⟨w.heap.size, 2, none⟩) ?_ HNE2.out _
    refine blk_far (p := ⟨w.heap.size, 1, none⟩) ?_ HNE2.out _
    refine blk_far (p := ⟨w.heap.size, 0, none⟩) ?_ HNE2.out _
    exact HM.out
   have KB : Below w.heap.size w w3 := by rw [← hw3]; exact ((((((HB.out.setCell (p := ⟨w.heap.size, 0, none⟩) (Nat.le_refl _) _).setCell (p := ⟨w.heap.size, 1, none⟩) (Nat.le_refl _) _).setCell (p := ⟨w.heap.size, 2, none⟩) (Nat.le_refl _) _).setCell (p := ⟨w.heap.size, 3, none⟩) (Nat.le_refl _) _).setCell (p := ⟨w.heap.size, 4, none⟩) (Nat.le_refl _) _).setCell (p := ⟨w.heap.size, 5, none⟩) (Nat.le_refl _) _)
   have hsz := HSZ.out
   have R1 := aS_ (Kd.R_keep (Kd.R_mono (ok' := fun k => wd.heap.size ≤ k) (Kd.R_bound HR1.out) (fun k hk => hk.2.1)) HK (fun k hk => by omega))
   have R2 := aS_ (Kd.S_keep (Kd.S_mono (ok' := fun k => wd.heap.size ≤ k ∧ some k ≠ (Value.slice A3 rs.length c3).ownBlock ∧ some k ≠ (Value.slice A5 es.length c5).ownBlock) (Kd.S_bound HR2.out) (fun k hk => ⟨hk.2.1, hk.1⟩)) HK (fun k hk => by omega))
   have R3 := aS_ (Kd.S_keep (Kd.S_mono (ok' := fun k => wd.heap.size ≤ k ∧ some k ≠ (Value.slice A2 us.length c2).ownBlock ∧ some k ≠ (Value.slice A5 es.length c5).ownBlock) (Kd.S_bound HR3.out) (fun k hk => ⟨hk.2.1, hk.1⟩)) HK (fun k hk => by omega))
   have R5 := aS_ (Kd.R_keep (Kd.R_mono (ok' := fun k => wd.heap.size ≤ k) (Kd.R_bound HR5.out) (fun k hk => hk.2.1)) HK (fun k hk => by omega))
   replace KN := aS_ KN
   replace KM := aS_ KM
   replace KB := aS_ KB
   rw [hw3]
   clear hw3 HK HN HM HB HR1 HR2 HR3 HR5 hsz hwd xn0 fxn0 xn1 fxn1 xn2 fxn2 xn3 fxn3 xn4 fxn4 xn5 fxn5
   have nb0 := (blk_cell KN.out 0).trans rfl
   have fnb0 := blk_frozen KN.out 0
   have nb1 := (blk_cell KN.out 1).trans rfl
   have fnb1 := blk_frozen KN.out 1
   have nb2 := (blk_cell KN.out 2).trans rfl
   have fnb2 := blk_frozen KN.out 2
   have nb3 := (blk_cell KN.out 3).trans rfl
   have fnb3 := blk_frozen KN.out 3
   have nb4 := (blk_cell KN.out 4).trans rfl
   have fnb4 := blk_frozen KN.out 4
   have nb5 := (blk_cell KN.out 5).trans rfl
   have fnb5 := blk_frozen KN.out 5
   go_wp2_with (go_at_call 13; refine (state_Right.calls k tx A1 c1 ms A2 c2 us A3 c3 rs op A5 c5 es false _ (Kd.R_reads' R1.out).2.2 (Kd.R_reads' R1.out).2.1 (Kd.S_reads' R2.out).2.2 (Kd.S_reads' R2.out).2.1 (Kd.S_reads' R3.out).2.2 (Kd.S_reads' R3.out).2.1 (Kd.R_reads' R5.out).2.2 (Kd.R_reads' R5.out).2.1 HR.out).mono ?_; rintro e w4 ⟨rfl, hb⟩; replace KN := aS_ (blk_below KN.out hb); replace KM := aS_ (blk_below KM.out hb); replace KB := aS_ (below_step KB.out hb); replace R1 := aS_ (Kd.R_below R1.out hb); replace R2 := aS_ (Kd.S_below R2.out hb); replace R3 := aS_ (Kd.S_below R3.out hb); replace R5 := aS_ (Kd.R_below R5.out hb); clear hb; have nc0 := (blk_cell KN.out 0).trans rfl; have fnc0 := blk_frozen KN.out 0; have nc1 := (blk_cell KN.out 1).trans rfl; have fnc1 := blk_frozen KN.out 1; have nc2 := (blk_cell KN.out 2).trans rfl; have fnc2 := blk_frozen KN.out 2; have nc3 := (blk_cell KN.out 3).trans rfl; have fnc3 := blk_frozen KN.out 3; have nc4 := (blk_cell KN.out 4).trans rfl; have fnc4 := blk_frozen KN.out 4; have nc5 := (blk_cell KN.out 5).trans rfl; have fnc5 := blk_frozen KN.out 5; have mc := (blk_cell KM.out 0).trans rfl; have mf := blk_frozen KM.out 0)
   obtain ⟨w6, hw6⟩ : ∃ W : World, (((((((w4.setCell ⟨w.heap.size, 0, none⟩ (.string (⟨#[]⟩ : ByteArray))).setCell ⟨w.heap.size, 1, none⟩ (.slice none 0 0)).setCell ⟨w.heap.size, 2, none⟩ (.slice none 0 0)).setCell ⟨w.heap.size, 3, none⟩ (.slice none 0 0)).setCell ⟨w.heap.size, 4, none⟩ (.bool false)).setCell ⟨w.heap.size, 5, none⟩ (.slice none 0 0)).setCell ⟨w.heap.size + 1, 0, none⟩ (.int .i64 5)) = W := ⟨_, rfl⟩
   rw [hw6]
   have FN : w6.heap[w.heap.size]? = some (.cells #[.string (⟨#[]⟩ : ByteArray), .slice none 0 0, .slice none 0 0, .slice none 0 0, .bool false, .slice none 0 0] 26 (0, 0)) := by
    rw [← hw6]
    refine blk_far (p := ⟨w.heap.size + 1, 0, none⟩) ?_ HNE.out _
    refine blk_put (cs := #[.string (⟨#[]⟩ : ByteArray), .slice none 0 0, .slice none 0 0, .slice none 0 0, .bool false, .slice A5 es.length c5]) ?_ 5 _ rfl
    refine blk_put (cs := #[.string (⟨#[]⟩ : ByteArray), .slice none 0 0, .slice none 0 0, .slice none 0 0, .bool op, .slice A5 es.length c5]) ?_ 4 _ rfl
    refine blk_put (cs := #[.string (⟨#[]⟩ : ByteArray), .slice none 0 0, .slice none 0 0, .slice A3 rs.length c3, .bool op, .slice A5 es.length c5]) ?_ 3 _ rfl
    refine blk_put (cs := #[.string (⟨#[]⟩ : ByteArray), .slice none 0 0, .slice A2 us.length c2, .slice A3 rs.length c3, .bool op, .slice A5 es.length c5]) ?_ 2 _ rfl
    refine blk_put (cs := #[.string (⟨#[]⟩ : ByteArray), .slice A1 ms.length c1, .slice A2 us.length c2, .slice A3 rs.length c3, .bool op, .slice A5 es.length c5]) ?_ 1 _ rfl
    refine blk_put (cs := #[.string tx, .slice A1 ms.length c1, .slice A2 us.length c2, .slice A3 rs.length c3, .bool op, .slice A5 es.length c5]) ?_ 0 _ rfl
    exact KN.out
   have FM : w6.heap[w.heap.size + 1]? = some (.cells #[.int .i64 5] 29 (0, 0)) := by
    rw [← hw6]
    refine blk_put (cs := #[.int .i64 0]) ?_ 0 _ rfl
    refine blk_far (p := ⟨w.heap.size, 5, none⟩) ?_ HNE2.out _
    refine blk_far (p := ⟨w.heap.size, 4, none⟩) ?_ HNE2.out _
    refine blk_far (p := ⟨w.heap.size, 3, none⟩) ?_ HNE2.out _
    refine blk_far (p := ⟨w.heap.size, 2, none⟩) ?_ HNE2.out _
    refine blk_far (p := ⟨w.heap.size, 1, none⟩) ?_ HNE2.out _
    refine blk_far (p := ⟨w.heap.size, 0, none⟩) ?_ HNE2.out _
    exact KM.out
   have FB : Below w.heap.size w w6 := by rw [← hw6]; exact (((((((KB.out.setCell (p := ⟨w.heap.size, 0, none⟩) (Nat.le_refl _) _).setCell (p := ⟨w.heap.size, 1, none⟩) (Nat.le_refl _) _).setCell (p := ⟨w.heap.size, 2, none⟩) (Nat.le_refl _) _).setCell (p := ⟨w.heap.size, 3, none⟩) (Nat.le_refl _) _).setCell (p := ⟨w.heap.size, 4, none⟩) (Nat.le_refl _) _).setCell (p := ⟨w.heap.size, 5, none⟩) (Nat.le_refl _) _).setCell (p := ⟨w.heap.size + 1, 0, none⟩) (Nat.le_succ _) _)
   clear hw6
   refine leaves_cons (f := 27) (args := #[.pointer (some ⟨w.heap.size, 0, none⟩), .pointer (some ⟨w.heap.size + 1, 0, none⟩)]) (by simp) (by simp [go_sem]) ?_
   refine (pk_idle _ _ _).mono ?_
   rintro e u' w5 ⟨rfl, rfl, rfl⟩
   exact ⟨_, pk_final _ _ _ _ _ _ _ _ _ _ _ rfl rfl FN FM, ⟨_, _, _, _, rfl, Kd.R_nil _ _ _ _ _, Kd.S_nil _ _ _ _ _, Kd.S_nil _ _ _ _ _, Kd.R_nil _ _ _ _ _, FB⟩⟩
  | true =>
   obtain ⟨rfl, rfl, rfl, rfl, rfl, rfl, rfl⟩ : tx = r1 ∧ ms = r2 ∧ us = r3 ∧ rs = r4 ∧ op = r5 ∧ es = r6 ∧ 0 = r7 := by
    have h' := Option.some.inj h
    simp only [Prod.mk.injEq] at h'
    exact h'
   clear h
   go_enter_defers Try.func10, Try.ntmps10
   go_upto_region 3 with (go_at_call 28; refine (pk_state.calls k (w.heap.size + 1 + 1) a0 (.ok (tx, ms, us, rs, op, es)) _ HG.out HX.out).mono ?_; rintro e w2 ⟨⟨A1, c1, A2, c2, A3, c3, A5, c5, rfl, hr1, hr2, hr3, hr5⟩, hf⟩; replace HN := aS_ (hf.2.blk HN.out (by omega) (by simp)); replace HM := aS_ (hf.2.blk HM.out (by omega) (by simp)); replace HB := aS_ (HB.out.trans (hf.1.mono (by omega))); have HR1 := aS_ hr1; have HR2 := aS_ hr2; have HR3 := aS_ hr3; have HR5 := aS_ hr5; clear hf hr1 hr2 hr3 hr5; have xn0 := (blk_cell HN.out 0).trans rfl; have fxn0 := blk_frozen HN.out 0; have xn1 := (blk_cell HN.out 1).trans rfl; have fxn1 := blk_frozen HN.out 1; have xn2 := (blk_cell HN.out 2).trans rfl; have fxn2 := blk_frozen HN.out 2; have xn3 := (blk_cell HN.out 3).trans rfl; have fxn3 := blk_frozen HN.out 3; have xn4 := (blk_cell HN.out 4).trans rfl; have fxn4 := blk_frozen HN.out 4; have xn5 := (blk_cell HN.out 5).trans rfl; have fxn5 := blk_frozen HN.out 5)
   obtain ⟨w3, hw3⟩ : ∃ W : World, ((((((w2.setCell ⟨w.heap.size, 0, none⟩ (.string tx)).setCell ⟨w.heap.size, 1, none⟩ (.slice A1 ms.length c1)).setCell ⟨w.heap.size, 2, none⟩ (.slice A2 us.length c2)).setCell ⟨w.heap.size, 3, none⟩ (.slice A3 rs.length c3)).setCell ⟨w.heap.size, 4, none⟩ (.bool op)).setCell ⟨w.heap.size, 5, none⟩ (.slice A5 es.length c5)) = W := ⟨_, rfl⟩
   have HK : KeepBut w2 w3 w.heap.size none := by rw [← hw3]; exact (((((((KeepBut.refl w2 w.heap.size none).set_ 0 _).set_ 1 _).set_ 2 _).set_ 3 _).set_ 4 _).set_ 5 _)
   have KN : w3.heap[w.heap.size]? = some (.cells #[.string tx, .slice A1 ms.length c1, .slice A2 us.length c2, .slice A3 rs.length c3, .bool op, .slice A5 es.length c5] 26 (0, 0)) := by
    rw [← hw3]
    refine blk_put (cs := #[.string tx, .slice A1 ms.length c1, .slice A2 us.length c2, .slice A3 rs.length c3, .bool op, .slice none 0 0]) ?_ 5 _ rfl
    refine blk_put (cs := #[.string tx, .slice A1 ms.length c1, .slice A2 us.length c2, .slice A3 rs.length c3, .bool false, .slice none 0 0]) ?_ 4 _ rfl
    refine blk_put (cs := #[.string tx, .slice A1 ms.length c1, .slice A2 us.length c2, .slice none 0 0, .bool false, .slice none 0 0]) ?_ 3 _ rfl
    refine blk_put (cs := #[.string tx, .slice A1 ms.length c1, .slice none 0 0, .slice none 0 0, .bool false, .slice none 0 0]) ?_ 2 _ rfl
    refine blk_put (cs := #[.string tx, .slice none 0 0, .slice none 0 0, .slice none 0 0, .bool false, .slice none 0 0]) ?_ 1 _ rfl
    refine blk_put (cs := #[.string (⟨#[]⟩ : ByteArray), .slice none 0 0, .slice none 0 0, .slice none 0 0, .bool false, .slice none 0 0]) ?_ 0 _ rfl
    exact HN.out
   have KM : w3.heap[w.heap.size + 1]? = some (.cells #[.int .i64 0] 29 (0, 0)) := by
    rw [← hw3]
    refine blk_far (p := ⟨w.heap.size, 5, none⟩) ?_ HNE2.out _
    refine blk_far (p := ⟨w.heap.size, 4, none⟩) ?_ HNE2.out _
    refine blk_far (p := ⟨w.heap.size, 3, none⟩) ?_ HNE2.out _
    refine blk_far (p := ⟨w.heap.size, 2, none⟩) ?_ HNE2.out _
    refine blk_far (p := ⟨w.heap.size, 1, none⟩) ?_ HNE2.out _
    refine blk_far (p := ⟨w.heap.size, 0, none⟩) ?_ HNE2.out _
    exact HM.out
   have KB : Below w.heap.size w w3 := by rw [← hw3]; exact ((((((HB.out.setCell (p := ⟨w.heap.size, 0, none⟩) (Nat.le_refl _) _).setCell (p := ⟨w.heap.size, 1, none⟩) (Nat.le_refl _) _).setCell (p := ⟨w.heap.size, 2, none⟩) (Nat.le_refl _) _).setCell (p := ⟨w.heap.size, 3, none⟩) (Nat.le_refl _) _).setCell (p := ⟨w.heap.size, 4, none⟩) (Nat.le_refl _) _).setCell (p := ⟨w.heap.size, 5, none⟩) (Nat.le_refl _) _)
   have hsz := HSZ.out
   have R1 := aS_ (Kd.R_keep (Kd.R_mono (ok' := fun k => wd.heap.size ≤ k) (Kd.R_bound HR1.out) (fun k hk => hk.2.1)) HK (fun k hk => by omega))
   have R2 := aS_ (Kd.S_keep (Kd.S_mono (ok' := fun k => wd.heap.size ≤ k ∧ some k ≠ (Value.slice A3 rs.length c3).ownBlock ∧ some k ≠ (Value.slice A5 es.length c5).ownBlock) (Kd.S_bound HR2.out) (fun k hk => ⟨hk.2.1, hk.1⟩)) HK (fun k hk => by omega))
   have R3 := aS_ (Kd.S_keep (Kd.S_mono (ok' := fun k => wd.heap.size ≤ k ∧ some k ≠ (Value.slice A2 us.length c2).ownBlock ∧ some k ≠ (Value.slice A5 es.length c5).ownBlock) (Kd.S_bound HR3.out) (fun k hk => ⟨hk.2.1, hk.1⟩)) HK (fun k hk => by omega))
   have R5 := aS_ (Kd.R_keep (Kd.R_mono (ok' := fun k => wd.heap.size ≤ k) (Kd.R_bound HR5.out) (fun k hk => hk.2.1)) HK (fun k hk => by omega))
   replace KN := aS_ KN
   replace KM := aS_ KM
   replace KB := aS_ KB
   rw [hw3]
   clear hw3 HK HN HM HB HR1 HR2 HR3 HR5 hsz hwd xn0 fxn0 xn1 fxn1 xn2 fxn2 xn3 fxn3 xn4 fxn4 xn5 fxn5
   have nb0 := (blk_cell KN.out 0).trans rfl
   have fnb0 := blk_frozen KN.out 0
   have nb1 := (blk_cell KN.out 1).trans rfl
   have fnb1 := blk_frozen KN.out 1
   have nb2 := (blk_cell KN.out 2).trans rfl
   have fnb2 := blk_frozen KN.out 2
   have nb3 := (blk_cell KN.out 3).trans rfl
   have fnb3 := blk_frozen KN.out 3
   have nb4 := (blk_cell KN.out 4).trans rfl
   have fnb4 := blk_frozen KN.out 4
   have nb5 := (blk_cell KN.out 5).trans rfl
   have fnb5 := blk_frozen KN.out 5
   go_wp2_with (go_at_call 13; refine (state_Right.calls k tx A1 c1 ms A2 c2 us A3 c3 rs op A5 c5 es true _ (Kd.R_reads' R1.out).2.2 (Kd.R_reads' R1.out).2.1 (Kd.S_reads' R2.out).2.2 (Kd.S_reads' R2.out).2.1 (Kd.S_reads' R3.out).2.2 (Kd.S_reads' R3.out).2.1 (Kd.R_reads' R5.out).2.2 (Kd.R_reads' R5.out).2.1 HR.out).mono ?_; rintro e w4 ⟨rfl, hb⟩; replace KN := aS_ (blk_below KN.out hb); replace KM := aS_ (blk_below KM.out hb); replace KB := aS_ (below_step KB.out hb); replace R1 := aS_ (Kd.R_below R1.out hb); replace R2 := aS_ (Kd.S_below R2.out hb); replace R3 := aS_ (Kd.S_below R3.out hb); replace R5 := aS_ (Kd.R_below R5.out hb); clear hb; have nc0 := (blk_cell KN.out 0).trans rfl; have fnc0 := blk_frozen KN.out 0; have nc1 := (blk_cell KN.out 1).trans rfl; have fnc1 := blk_frozen KN.out 1; have nc2 := (blk_cell KN.out 2).trans rfl; have fnc2 := blk_frozen KN.out 2; have nc3 := (blk_cell KN.out 3).trans rfl; have fnc3 := blk_frozen KN.out 3; have nc4 := (blk_cell KN.out 4).trans rfl; have fnc4 := blk_frozen KN.out 4; have nc5 := (blk_cell KN.out 5).trans rfl; have fnc5 := blk_frozen KN.out 5; have mc := (blk_cell KM.out 0).trans rfl; have mf := blk_frozen KM.out 0)
   obtain ⟨w6, hw6⟩ : ∃ W : World, (((((((w4.setCell ⟨w.heap.size, 0, none⟩ (.string tx)).setCell ⟨w.heap.size, 1, none⟩ (.slice A1 ms.length c1)).setCell ⟨w.heap.size, 2, none⟩ (.slice A2 us.length c2)).setCell ⟨w.heap.size, 3, none⟩ (.slice A3 rs.length c3)).setCell ⟨w.heap.size, 4, none⟩ (.bool op)).setCell ⟨w.heap.size, 5, none⟩ (.slice A5 es.length c5)).setCell ⟨w.heap.size + 1, 0, none⟩ (.int .i64 0)) = W := ⟨_, rfl⟩
   rw [hw6]
   have FN : w6.heap[w.heap.size]? = some (.cells #[.string tx, .slice A1 ms.length c1, .slice A2 us.length c2, .slice A3 rs.length c3, .bool op, .slice A5 es.length c5] 26 (0, 0)) := by
    rw [← hw6]
    refine blk_far (p := ⟨w.heap.size + 1, 0, none⟩) ?_ HNE.out _
    refine blk_put (cs := #[.string tx, .slice A1 ms.length c1, .slice A2 us.length c2, .slice A3 rs.length c3, .bool op, .slice A5 es.length c5]) ?_ 5 _ rfl
    refine blk_put (cs := #[.string tx, .slice A1 ms.length c1, .slice A2 us.length c2, .slice A3 rs.length c3, .bool op, .slice A5 es.length c5]) ?_ 4 _ rfl
    refine blk_put (cs := #[.string tx, .slice A1 ms.length c1, .slice A2 us.length c2, .slice A3 rs.length c3, .bool op, .slice A5 es.length c5]) ?_ 3 _ rfl
    refine blk_put (cs := #[.string tx, .slice A1 ms.length c1, .slice A2 us.length c2, .slice A3 rs.length c3, .bool op, .slice A5 es.length c5]) ?_ 2 _ rfl
    refine blk_put (cs := #[.string tx, .slice A1 ms.length c1, .slice A2 us.length c2, .slice A3 rs.length c3, .bool op, .slice A5 es.length c5]) ?_ 1 _ rfl
    refine blk_put (cs := #[.string tx, .slice A1 ms.length c1, .slice A2 us.length c2, .slice A3 rs.length c3, .bool op, .slice A5 es.length c5]) ?_ 0 _ rfl
    exact KN.out
   have FM : w6.heap[w.heap.size + 1]? = some (.cells #[.int .i64 0] 29 (0, 0)) := by
    rw [← hw6]
    refine blk_put (cs := #[.int .i64 0]) ?_ 0 _ rfl
    refine blk_far (p := ⟨w.heap.size, 5, none⟩) ?_ HNE2.out _
    refine blk_far (p := ⟨w.heap.size, 4, none⟩) ?_ HNE2.out _
    refine blk_far (p := ⟨w.heap.size, 3, none⟩) ?_ HNE2.out _
    refine blk_far (p := ⟨w.heap.size, 2, none⟩) ?_ HNE2.out _
    refine blk_far (p := ⟨w.heap.size, 1, none⟩) ?_ HNE2.out _
    refine blk_far (p := ⟨w.heap.size, 0, none⟩) ?_ HNE2.out _
    exact KM.out
   have FB : Below w.heap.size w w6 := by rw [← hw6]; exact (((((((KB.out.setCell (p := ⟨w.heap.size, 0, none⟩) (Nat.le_refl _) _).setCell (p := ⟨w.heap.size, 1, none⟩) (Nat.le_refl _) _).setCell (p := ⟨w.heap.size, 2, none⟩) (Nat.le_refl _) _).setCell (p := ⟨w.heap.size, 3, none⟩) (Nat.le_refl _) _).setCell (p := ⟨w.heap.size, 4, none⟩) (Nat.le_refl _) _).setCell (p := ⟨w.heap.size, 5, none⟩) (Nat.le_refl _) _).setCell (p := ⟨w.heap.size + 1, 0, none⟩) (Nat.le_succ _) _)
   have HK : KeepBut w4 ((((((w4.setCell ⟨w.heap.size, 0, none⟩ (.string tx)).setCell ⟨w.heap.size, 1, none⟩ (.slice A1 ms.length c1)).setCell ⟨w.heap.size, 2, none⟩ (.slice A2 us.length c2)).setCell ⟨w.heap.size, 3, none⟩ (.slice A3 rs.length c3)).setCell ⟨w.heap.size, 4, none⟩ (.bool op)).setCell ⟨w.heap.size, 5, none⟩ (.slice A5 es.length c5)) w.heap.size none := (((((((KeepBut.refl w4 w.heap.size none).set_ 0 _).set_ 1 _).set_ 2 _).set_ 3 _).set_ 4 _).set_ 5 _)
   have hsz := HSZ.out
   have Q1 : Kd.R k49 49 w6 w.heap.size (fun _ => True) (.slice A1 ms.length c1) ms := by rw [← hw6]; exact Kd.R_lower (Kd.R_mono (Kd.R_far (Kd.R_keep R1.out HK (fun k hk => by omega)) (p := ⟨w.heap.size + 1, 0, none⟩) (fun k hk => by show k ≠ w.heap.size + 1; omega) _) (fun _ _ => trivial)) (by omega)
   have Q2 : Kd.S k38 38 w6 w.heap.size (fun k => some k ≠ (Value.slice A3 rs.length c3).ownBlock ∧ some k ≠ (Value.slice A5 es.length c5).ownBlock) (.slice A2 us.length c2) us := by rw [← hw6]; exact Kd.S_lower (Kd.S_mono (Kd.S_far (Kd.S_keep R2.out HK (fun k hk => by omega)) (p := ⟨w.heap.size + 1, 0, none⟩) (fun k hk => by show k ≠ w.heap.size + 1; omega) _) (fun _ hk => hk.2)) (by omega)
   have Q3 : Kd.S k38 38 w6 w.heap.size (fun k => some k ≠ (Value.slice A2 us.length c2).ownBlock ∧ some k ≠ (Value.slice A5 es.length c5).ownBlock) (.slice A3 rs.length c3) rs := by rw [← hw6]; exact Kd.S_lower (Kd.S_mono (Kd.S_far (Kd.S_keep R3.out HK (fun k hk => by omega)) (p := ⟨w.heap.size + 1, 0, none⟩) (fun k hk => by show k ≠ w.heap.size + 1; omega) _) (fun _ hk => hk.2)) (by omega)
   have Q5 : Kd.R k88 88 w6 w.heap.size (fun _ => True) (.slice A5 es.length c5) es := by rw [← hw6]; exact Kd.R_lower (Kd.R_mono (Kd.R_far (Kd.R_keep R5.out HK (fun k hk => by omega)) (p := ⟨w.heap.size + 1, 0, none⟩) (fun k hk => by show k ≠ w.heap.size + 1; omega) _) (fun _ _ => trivial)) (by omega)
   clear hw6
   refine leaves_cons (f := 27) (args := #[.pointer (some ⟨w.heap.size, 0, none⟩), .pointer (some ⟨w.heap.size + 1, 0, none⟩)]) (by simp) (by simp [go_sem]) ?_
   refine (pk_idle _ _ _).mono ?_
   rintro e u' w5 ⟨rfl, rfl, rfl⟩
   exact ⟨_, pk_final _ _ _ _ _ _ _ _ _ _ _ rfl rfl FN FM, ⟨_, _, _, _, rfl, Q1, Q2, Q3, Q5, FB⟩⟩
end Go.Proofs.Ytnndanfghlnpfaa.P
