/- Small words for 'from some number of rounds on'. -/
import Derived.Test.YtpdgmcmebpfbaaaPx0
namespace Go.Proofs.Ytpdgmcmebpfbaaa.P
open Go.RowKit Go.Proofs.YtpdgmcmebpfbaaaW.PrintWords Go.Proofs.YtpdgmcmebpfbaaaW.PrintLast
theorem Ev.pos {α : Type} {c : Prop} [Decidable c] {f g : Nat → Option α} {r : α} (h : c) (e : Ev f r) : Ev (fun n => if c then f n else g n) r :=
 Ev.congr (fun _ => if_pos h) e
theorem Ev.neg {α : Type} {c : Prop} [Decidable c] {f g : Nat → Option α} {r : α} (h : ¬ c) (e : Ev g r) : Ev (fun n => if c then f n else g n) r :=
 Ev.congr (fun _ => if_neg h) e
/-- A call that takes no rounds. -/
theorem Ev.call {α β : Type} {x : Option α} {f : Nat → α → Option β} {a : α} {r : β} (h : x = some a) (k : Ev (fun n => f n a) r) : Ev (fun n => x.bind (f n)) r :=
 Ev.bind (g := fun _ => x) ⟨0, fun _ _ => h⟩ k
theorem Ev.to {α : Type} {f : Nat → Option α} {a r : α} (e : Ev f a) (h : a = r) : Ev f r := h ▸ e
theorem Ev.at {α : Type} {f : Nat → Option α} {r : α} (k : Nat) (h : ∀ n, f (k + n) = some r) : Ev f r :=
 ⟨k, fun n hn => by have := h (n - k); rwa [Nat.add_sub_cancel' hn] at this⟩
/-- Where all that follows tells the same by two spellings. -/
theorem Ev.end {α : Type} {f : Nat → Option α} {r : α} (h : ∀ n, f n = some r) : Ev f r := ⟨0, fun n _ => h n⟩
theorem w64 {x : Int} (h0 : -9223372036854775808 ≤ x) (h1 : x ≤ 9223372036854775807) : wrap64 x = x := by unfold wrap64; omega
end Go.Proofs.Ytpdgmcmebpfbaaa.P
