import Derived.Test.YtnndanfghlnpfaaProg
import Derived.Below
import Derived.Deep.Draws
import Derived.Deep.AppendLies
import Derived.Maps.AppendAt
import Derived.OwnWalk
import Derived.Laws.BytesArg
import Derived.Laws.MakeOwn
import Derived.Laws.OwnMore
import Derived.Deep.OwnRows
import Derived.Tactics
import Derived.Lib.ConvBytes
import Derived.Laws.Slices
import Derived.WalkKit
import Derived.KernelRfl
import Derived.RowKit3
import Derived.Deep.LoopGhost
import Derived.Deep.QuietTactic
import Derived.BigQuiet
import Derived.WideLaws
import Derived.Deep.DeepCutAuto
import Derived.Deep.CutBlock
import Derived.Deep.RegionHeld3
import Derived.Laws.Rows
import Derived.Lib.AppendStr
import Derived.ArgAppend
import Derived.Laws.IdiomCopy
import Derived.OrdersHeld
import Derived.Laws.BitsLemmas
import Derived.RowKit
import Derived.Test.YtnndanfghlnpfaaWWords
import Derived.Test.YtnndanfghlnpfaaWLast
import Derived.Test.YtnndanfghlnpfaaWTab
import Derived.Test.YtnndanfghlnpfaaWQPut
import Derived.Test.YtnndanfghlnpfaaWApart
import Derived.Test.YtnndanfghlnpfaaWFoot
import Derived.Test.YtnndanfghlnpfaaWKept
import Derived.Test.YtnndanfghlnpfaaWShare
import Derived.Test.YtnndanfghlnpfaaWN
import Derived.Test.YtnndanfghlnpfaaWEqStruct
import Derived.Test.YtnndanfghlnpfaaWRepsOne
import Derived.Test.YtnndanfghlnpfaaWInv
import Derived.Test.YtnndanfghlnpfaaWGuard
import Derived.Test.YtnndanfghlnpfaaWNEv
import Derived.Test.YtnndanfghlnpfaaWMore
namespace Go.Proofs.Ytnndanfghlnpfaa.P
open Go.RowKit Go.Proofs.YtnndanfghlnpfaaW.PrintWords Go.Proofs.YtnndanfghlnpfaaW.PrintLast Go.Proofs.YtnndanfghlnpfaaW.PrintMore
attribute [local go_sem] max2_int min2_int max_two min_two max_three min_three max_four min_four   -- for this text's walks alone
set_option linter.unusedVariables false
set_option linter.unusedSimpArgs false
def errW : Option Int → Value
 | none => .nilIface
 | some c => .iface 0 (.int .i64 c)
theorem errW_none : errW none = .nilIface := rfl
theorem errW_some (c : Int) : errW (some c) = .iface 0 (.int .i64 c) := rfl
theorem info5 : (Try.prog.info? 5).map (fun i => (i.zero, i.size, i.bytes)) = some (some (.int .u8 0), 1, 1) := by kernel_rfl
theorem info38 : (Try.prog.info? 38).map (fun i => (i.zero, i.size, i.bytes)) = some (some (.agg #[(.slice none 0 0)]), 1, 24) := by kernel_rfl
theorem info49 : (Try.prog.info? 49).map (fun i => (i.zero, i.size, i.bytes)) = some (some (.agg #[(.string ⟨#[]⟩), (.int .i64 0)]), 2, 24) := by kernel_rfl
theorem info88 : (Try.prog.info? 88).map (fun i => (i.zero, i.size, i.bytes)) = some (some (.agg #[(.int .i64 0), (.string ⟨#[]⟩), (.string ⟨#[]⟩)]), 3, 40) := by kernel_rfl
/-! #### struct type 88 -/
structure S88 where
 f0 : Int
 f1 : ByteArray
 f2 : ByteArray
def z88 : S88 := ⟨(0 : Int), (⟨#[]⟩ : ByteArray), (⟨#[]⟩ : ByteArray)⟩
def k88 : Kd S88 := Kd.iso (Kd.pair (Kd.int .i64) (Kd.pair Kd.string Kd.string)) (fun x : S88 => (x.f0, x.f1, x.f2))
theorem k88_open {w : World} {x : S88} {cs : List Value} (h : k88.K w x cs) : cs = [.int .i64 x.f0, .string x.f1, .string x.f2] := by
 obtain ⟨_, _, rfl, rfl, ⟨_, _, rfl, rfl, rfl⟩⟩ := h
 exact rfl
theorem k88_mkM (w : World) (base : Nat) (ok : Nat → Prop) (x : S88)  : k88.M w base ok x [.int .i64 x.f0, .string x.f1, .string x.f2] := ⟨[.int .i64 x.f0], [.string x.f1, .string x.f2], rfl, rfl, ⟨[.string x.f1], [.string x.f2], rfl, rfl, rfl⟩⟩
def rd_T88 (xs : List S88) (i : Int) : S88 := xs.getD i.toNat z88
theorem at_T88 {w : World} {A : Option Addr} {n : Nat} {xs : List S88} (h : Kd.C k88 w A n xs) (i : Int) (h0 : 0 ≤ i) (h1 : i < n) : ∃ ad , A = some ad ∧ w.cell? (ad.add (i.toNat * 3)) = some (.int .i64 (rd_T88 xs i).f0) ∧ w.cell? ⟨(ad.add (i.toNat * 3)).block, (ad.add (i.toNat * 3)).off + 1, none⟩ = some (.string (rd_T88 xs i).f1) ∧ w.cell? ⟨(ad.add (i.toNat * 3)).block, (ad.add (i.toNat * 3)).off + 2, none⟩ = some (.string (rd_T88 xs i).f2) := by
 obtain ⟨ad, c, e, _, hK, hc0⟩ := Kd.C_get h z88 i h0 h1
 have hc : ∀ j u, c[j]? = some u → w.cell? (ad.add (i.toNat * 3 + j)) = some u := hc0
 obtain rfl := k88_open hK
 exact ⟨ad, e, hc 0 _ rfl, by rw [← add_field _ _ 1 (by omega)]; exact hc 1 _ rfl, by rw [← add_field _ _ 2 (by omega)]; exact hc 2 _ rfl⟩
/-! #### struct type 38 -/
structure S38 where
 f0 : (List S88)
def z38 : S38 := ⟨([] : List S88)⟩
def k38 : Kd S38 := Kd.iso (Kd.slice 88 k88) (fun x : S38 => x.f0)
theorem k38_open {w : World} {x : S38} {cs : List Value} (h : k38.K w x cs) : ∃ A0 c0, cs = [.slice A0 x.f0.length c0] ∧ x.f0.length ≤ c0 ∧ k88.C w A0 x.f0.length x.f0 := by
 obtain ⟨A0, c0, rfl, l0, g0⟩ := h
 exact ⟨A0, c0, rfl, l0, g0⟩
theorem k38_mk (w : World) (x : S38) {A0 : Option Addr} {c0 : Nat} (l0 : x.f0.length ≤ c0) (g0 : k88.C w A0 x.f0.length x.f0) : k38.K w x [.slice A0 x.f0.length c0] := ⟨A0, c0, rfl, l0, g0⟩
theorem k38_mkM (w : World) (base : Nat) (ok : Nat → Prop) (x : S38) {v0 : Value} (g0 : k88.R 88 w base ok v0 x.f0) : k38.M w base ok x [v0] := ⟨v0, rfl, g0⟩
theorem k38_mkF (W : World) (ok : Nat → Prop) (x : S38) {A0 : Option Addr} {c0 : Nat} (l0 : x.f0.length ≤ c0) (g0 : Kd.F k88 W ok A0 x.f0.length x.f0) : Kd.FK k38 W ok x [.slice A0 x.f0.length c0] := fun W2 hW => k38_mk W2 x l0 (g0 W2 hW)
def rd_T38 (xs : List S38) (i : Int) : S38 := xs.getD i.toNat z38
theorem at_T38 {w : World} {A : Option Addr} {n : Nat} {xs : List S38} (h : Kd.C k38 w A n xs) (i : Int) (h0 : 0 ≤ i) (h1 : i < n) : ∃ ad A0 c0, A = some ad ∧ w.cell? (ad.add i.toNat) = some (.slice A0 (rd_T38 xs i).f0.length c0) ∧ (rd_T38 xs i).f0.length ≤ c0 ∧ k88.C w A0 (rd_T38 xs i).f0.length (rd_T38 xs i).f0 := by
 obtain ⟨ad, c, e, _, hK, hc0⟩ := Kd.C_get h z38 i h0 h1
 have hc : ∀ j u, c[j]? = some u → w.cell? (ad.add (i.toNat * 1 + j)) = some u := hc0
 obtain ⟨A0, c0, rfl, l0, g0⟩ := k38_open hK
 exact ⟨ad, A0, c0, e, by have hq := hc 0 _ rfl; rwa [Nat.mul_one, Nat.add_zero] at hq, l0, g0⟩
/-! #### struct type 49 -/
structure S49 where
 f0 : ByteArray
 f1 : Int
def z49 : S49 := ⟨(⟨#[]⟩ : ByteArray), (0 : Int)⟩
def k49 : Kd S49 := Kd.iso (Kd.pair Kd.string (Kd.int .i64)) (fun x : S49 => (x.f0, x.f1))
theorem k49_open {w : World} {x : S49} {cs : List Value} (h : k49.K w x cs) : cs = [.string x.f0, .int .i64 x.f1] := by
 obtain ⟨_, _, rfl, rfl, rfl⟩ := h
 exact rfl
theorem k49_mkM (w : World) (base : Nat) (ok : Nat → Prop) (x : S49)  : k49.M w base ok x [.string x.f0, .int .i64 x.f1] := ⟨[.string x.f0], [.int .i64 x.f1], rfl, rfl, rfl⟩
def rd_T49 (xs : List S49) (i : Int) : S49 := xs.getD i.toNat z49
theorem at_T49 {w : World} {A : Option Addr} {n : Nat} {xs : List S49} (h : Kd.C k49 w A n xs) (i : Int) (h0 : 0 ≤ i) (h1 : i < n) : ∃ ad , A = some ad ∧ w.cell? (ad.add (i.toNat * 2)) = some (.string (rd_T49 xs i).f0) ∧ w.cell? ⟨(ad.add (i.toNat * 2)).block, (ad.add (i.toNat * 2)).off + 1, none⟩ = some (.int .i64 (rd_T49 xs i).f1) := by
 obtain ⟨ad, c, e, _, hK, hc0⟩ := Kd.C_get h z49 i h0 h1
 have hc : ∀ j u, c[j]? = some u → w.cell? (ad.add (i.toNat * 2 + j)) = some u := hc0
 obtain rfl := k49_open hK
 exact ⟨ad, e, hc 0 _ rfl, by rw [← add_field _ _ 1 (by omega)]; exact hc 1 _ rfl⟩
/-! #### struct type 26 -/
structure S26 where
 f0 : ByteArray
 f1 : (List S49)
 f2 : (List S38)
 f3 : (List S38)
 f4 : Bool
 f5 : (List S88)
theorem aS_ {p : Prop} (h : p) : Aside0 p := ⟨h⟩
abbrev bN := @blk_drewN
abbrev bD := @blk_drew
abbrev bA := @blk_alloc
abbrev wA := @below_alloc
abbrev wN := @pw_below_drewN
abbrev w1_ := @below_drew1
abbrev wS := @below_set
theorem c1_ {w : World} {g t : Nat} {a0 : Value} (h : w.heap[g]? = some (.cells #[a0] t (0, 0))) : w.cell? ⟨g, 0, none⟩ = some a0 ∧ w.frozen? ⟨g, 0, none⟩ = false := ⟨(blk_cell h 0).trans rfl, blk_frozen h 0⟩
theorem c2_ {w : World} {g t : Nat} {a0 a1 : Value} (h : w.heap[g]? = some (.cells #[a0, a1] t (0, 0))) : w.cell? ⟨g, 0, none⟩ = some a0 ∧ w.cell? ⟨g, 1, none⟩ = some a1 ∧ w.frozen? ⟨g, 0, none⟩ = false ∧ w.frozen? ⟨g, 1, none⟩ = false := ⟨(blk_cell h 0).trans rfl, (blk_cell h 1).trans rfl, blk_frozen h 0, blk_frozen h 1⟩
theorem c3_ {w : World} {g t : Nat} {a0 a1 a2 : Value} (h : w.heap[g]? = some (.cells #[a0, a1, a2] t (0, 0))) : w.cell? ⟨g, 0, none⟩ = some a0 ∧ w.cell? ⟨g, 1, none⟩ = some a1 ∧ w.cell? ⟨g, 2, none⟩ = some a2 ∧ w.frozen? ⟨g, 0, none⟩ = false ∧ w.frozen? ⟨g, 1, none⟩ = false ∧ w.frozen? ⟨g, 2, none⟩ = false := ⟨(blk_cell h 0).trans rfl, (blk_cell h 1).trans rfl, (blk_cell h 2).trans rfl, blk_frozen h 0, blk_frozen h 1, blk_frozen h 2⟩
theorem c4_ {w : World} {g t : Nat} {a0 a1 a2 a3 : Value} (h : w.heap[g]? = some (.cells #[a0, a1, a2, a3] t (0, 0))) : w.cell? ⟨g, 0, none⟩ = some a0 ∧ w.cell? ⟨g, 1, none⟩ = some a1 ∧ w.cell? ⟨g, 2, none⟩ = some a2 ∧ w.cell? ⟨g, 3, none⟩ = some a3 ∧ w.frozen? ⟨g, 0, none⟩ = false ∧ w.frozen? ⟨g, 1, none⟩ = false ∧ w.frozen? ⟨g, 2, none⟩ = false ∧ w.frozen? ⟨g, 3, none⟩ = false := ⟨(blk_cell h 0).trans rfl, (blk_cell h 1).trans rfl, (blk_cell h 2).trans rfl, (blk_cell h 3).trans rfl, blk_frozen h 0, blk_frozen h 1, blk_frozen h 2, blk_frozen h 3⟩
theorem c5_ {w : World} {g t : Nat} {a0 a1 a2 a3 a4 : Value} (h : w.heap[g]? = some (.cells #[a0, a1, a2, a3, a4] t (0, 0))) : w.cell? ⟨g, 0, none⟩ = some a0 ∧ w.cell? ⟨g, 1, none⟩ = some a1 ∧ w.cell? ⟨g, 2, none⟩ = some a2 ∧ w.cell? ⟨g, 3, none⟩ = some a3 ∧ w.cell? ⟨g, 4, none⟩ = some a4 ∧ w.frozen? ⟨g, 0, none⟩ = false ∧ w.frozen? ⟨g, 1, none⟩ = false ∧ w.frozen? ⟨g, 2, none⟩ = false ∧ w.frozen? ⟨g, 3, none⟩ = false ∧ w.frozen? ⟨g, 4, none⟩ = false := ⟨(blk_cell h 0).trans rfl, (blk_cell h 1).trans rfl, (blk_cell h 2).trans rfl, (blk_cell h 3).trans rfl, (blk_cell h 4).trans rfl, blk_frozen h 0, blk_frozen h 1, blk_frozen h 2, blk_frozen h 3, blk_frozen h 4⟩
theorem c6_ {w : World} {g t : Nat} {a0 a1 a2 a3 a4 a5 : Value} (h : w.heap[g]? = some (.cells #[a0, a1, a2, a3, a4, a5] t (0, 0))) : w.cell? ⟨g, 0, none⟩ = some a0 ∧ w.cell? ⟨g, 1, none⟩ = some a1 ∧ w.cell? ⟨g, 2, none⟩ = some a2 ∧ w.cell? ⟨g, 3, none⟩ = some a3 ∧ w.cell? ⟨g, 4, none⟩ = some a4 ∧ w.cell? ⟨g, 5, none⟩ = some a5 ∧ w.frozen? ⟨g, 0, none⟩ = false ∧ w.frozen? ⟨g, 1, none⟩ = false ∧ w.frozen? ⟨g, 2, none⟩ = false ∧ w.frozen? ⟨g, 3, none⟩ = false ∧ w.frozen? ⟨g, 4, none⟩ = false ∧ w.frozen? ⟨g, 5, none⟩ = false := ⟨(blk_cell h 0).trans rfl, (blk_cell h 1).trans rfl, (blk_cell h 2).trans rfl, (blk_cell h 3).trans rfl, (blk_cell h 4).trans rfl, (blk_cell h 5).trans rfl, blk_frozen h 0, blk_frozen h 1, blk_frozen h 2, blk_frozen h 3, blk_frozen h 4, blk_frozen h 5⟩
theorem c7_ {w : World} {g t : Nat} {a0 a1 a2 a3 a4 a5 a6 : Value} (h : w.heap[g]? = some (.cells #[a0, a1, a2, a3, a4, a5, a6] t (0, 0))) : w.cell? ⟨g, 0, none⟩ = some a0 ∧ w.cell? ⟨g, 1, none⟩ = some a1 ∧ w.cell? ⟨g, 2, none⟩ = some a2 ∧ w.cell? ⟨g, 3, none⟩ = some a3 ∧ w.cell? ⟨g, 4, none⟩ = some a4 ∧ w.cell? ⟨g, 5, none⟩ = some a5 ∧ w.cell? ⟨g, 6, none⟩ = some a6 ∧ w.frozen? ⟨g, 0, none⟩ = false ∧ w.frozen? ⟨g, 1, none⟩ = false ∧ w.frozen? ⟨g, 2, none⟩ = false ∧ w.frozen? ⟨g, 3, none⟩ = false ∧ w.frozen? ⟨g, 4, none⟩ = false ∧ w.frozen? ⟨g, 5, none⟩ = false ∧ w.frozen? ⟨g, 6, none⟩ = false := ⟨(blk_cell h 0).trans rfl, (blk_cell h 1).trans rfl, (blk_cell h 2).trans rfl, (blk_cell h 3).trans rfl, (blk_cell h 4).trans rfl, (blk_cell h 5).trans rfl, (blk_cell h 6).trans rfl, blk_frozen h 0, blk_frozen h 1, blk_frozen h 2, blk_frozen h 3, blk_frozen h 4, blk_frozen h 5, blk_frozen h 6⟩
/-- W is w behind draws and new blocks. -/
class Kp (w W : World) : Prop where
  b : Below w.heap.size w W
instance Kp.i0 (w : World) : Kp w w := ⟨Below.refl _ _⟩
instance Kp.i1 (w W : World) [k : Kp w W] (n : Nat) : Kp w (W.drewN n) := ⟨pw_below_drewN k.b n⟩
instance Kp.i2 (w W : World) [k : Kp w W] : Kp w W.drew := ⟨below_drew k.b⟩
instance Kp.i3 (w W : World) [k : Kp w W] (o : Obj) : Kp w (W.alloc o) := ⟨below_alloc k.b o⟩
theorem bk {w W : World} {g : Nat} {o : Obj} (h : w.heap[g]? = some o) [k : Kp w W] : W.heap[g]? = some o := blk_below h k.b
theorem rk {α : Type} {d : Kd α} {e base : Nat} {ok : Nat → Prop} {w W : World} {v : Value} {xs : List α} (h : Kd.R d e w base ok v xs) [k : Kp w W] : Kd.R d e W base ok v xs := Kd.R_below h k.b
theorem sk {α : Type} {d : Kd α} {e base : Nat} {ok : Nat → Prop} {w W : World} {v : Value} {xs : List α} (h : Kd.S d e w base ok v xs) [k : Kp w W] : Kd.S d e W base ok v xs := Kd.S_below h k.b
class Ge (B g : Nat) : Prop where
  out : B ≤ g
class Nq (a b : Nat) : Prop where
  out : a ≠ b
/-- W is W0 behind draws, new blocks and stores behind w. -/
class Bw (w W0 W : World) : Prop where
  b : Below w.heap.size w W0 → Below w.heap.size w W
instance Bw.i0 (w W : World) : Bw w W W := ⟨fun h => h⟩
instance Bw.i1 (w W0 W : World) [k : Bw w W0 W] (n : Nat) : Bw w W0 (W.drewN n) := ⟨fun h => pw_below_drewN (k.b h) n⟩
instance Bw.i2 (w W0 W : World) [k : Bw w W0 W] : Bw w W0 W.drew := ⟨fun h => below_drew (k.b h)⟩
instance Bw.i3 (w W0 W : World) [k : Bw w W0 W] (o : Obj) : Bw w W0 (W.alloc o) := ⟨fun h => below_alloc (k.b h) o⟩
instance Bw.i4 (w W0 W : World) (g j : Nat) (u : Value) [k : Bw w W0 W] [e : Ge w.heap.size g] : Bw w W0 (W.setCell ⟨g, j, none⟩ u) := ⟨fun h => below_set (k.b h) e.out⟩
theorem wk {w W0 W : World} (h : Below w.heap.size w W0) [k : Bw w W0 W] : Below w.heap.size w W := k.b h
/-- Block g of W is as it was in w. -/
class Kq (g : Nat) (w W : World) : Prop where
  b : ∀ o, w.heap[g]? = some o → W.heap[g]? = some o
instance Kq.i0 (g : Nat) (w : World) : Kq g w w := ⟨fun _ h => h⟩
instance Kq.i1 (g : Nat) (w W : World) [k : Kq g w W] (n : Nat) : Kq g w (W.drewN n) := ⟨fun o h => k.b o h⟩
instance Kq.i2 (g : Nat) (w W : World) [k : Kq g w W] : Kq g w W.drew := ⟨fun o h => k.b o h⟩
instance Kq.i3 (g : Nat) (w W : World) [k : Kq g w W] (x : Obj) : Kq g w (W.alloc x) := ⟨fun o h => blk_alloc (k.b o h) x⟩
instance Kq.i4 (g : Nat) (w W : World) (g' j : Nat) (u : Value) [k : Kq g w W] [e : Nq g g'] : Kq g w (W.setCell ⟨g', j, none⟩ u) := ⟨fun o h => (Below.heap_setCell W ⟨g', j, none⟩ u g e.out).trans (k.b o h)⟩
theorem bq {g : Nat} {w W : World} {o : Obj} (h : w.heap[g]? = some o) [k : Kq g w W] : W.heap[g]? = some o := k.b o h
/-- The cells of block g of W behind draws, new blocks and stores, those in w being cs. -/
class Ko (g : Nat) (cs : Array Value) (w W : World) (cs' : outParam (Array Value)) : Prop where
  b : ∀ t, w.heap[g]? = some (.cells cs t (0, 0)) → W.heap[g]? = some (.cells cs' t (0, 0))
instance Ko.i0 (g : Nat) (cs : Array Value) (w : World) : Ko g cs w w cs := ⟨fun _ h => h⟩
instance Ko.i1 (g : Nat) (cs cs' : Array Value) (w W : World) [k : Ko g cs w W cs'] (n : Nat) : Ko g cs w (W.drewN n) cs' := ⟨fun t h => k.b t h⟩
instance Ko.i2 (g : Nat) (cs cs' : Array Value) (w W : World) [k : Ko g cs w W cs'] : Ko g cs w W.drew cs' := ⟨fun t h => k.b t h⟩
instance Ko.i3 (g : Nat) (cs cs' : Array Value) (w W : World) [k : Ko g cs w W cs'] (x : Obj) : Ko g cs w (W.alloc x) cs' := ⟨fun t h => blk_alloc (k.b t h) x⟩
instance Ko.i4 (g : Nat) (cs cs' : Array Value) (w W : World) (g' j : Nat) (u : Value) [k : Ko g cs w W cs'] [e : Nq g g'] : Ko g cs w (W.setCell ⟨g', j, none⟩ u) cs' := ⟨fun t h => (Below.heap_setCell W ⟨g', j, none⟩ u g e.out).trans (k.b t h)⟩
instance Ko.i5 (g : Nat) (cs cs' : Array Value) (w W : World) (j : Nat) (u : Value) [k : Ko g cs w W cs'] : Ko g cs w (W.setCell ⟨g, j, none⟩ u) (cs'.setIfInBounds j u) := ⟨fun t h => blk_put (k.b t h) j u rfl⟩
theorem bp {g t : Nat} {cs cs' : Array Value} {w W : World} {o : Obj} (h : w.heap[g]? = some (.cells cs t (0, 0))) [k : Ko g cs w W cs'] (e : Obj.cells cs' t (0, 0) = o := by rfl) : W.heap[g]? = some o := e ▸ k.b t h
theorem t0 {p : Prop} (h : p := by first | rfl | (simp; done) | (simp [*]; done)) : p := h
theorem t1 {p : Prop} (h : p := by first | rfl | (simp [errW_none, errW_some] <;> rfl) | (simp [*, errW_none, errW_some] <;> rfl)) : p := h
theorem t2 {p q : Prop} (k : Aside0 q) (h : q → p := by intro _; first | omega | exact Nat.le_refl _) : p := h k.out
theorem t3 {p : Prop} (h : p := by first | omega | exact Nat.le_refl _) : p := h
theorem ge_ {w W : World} {g : Nat} (hg : g = W.heap.size) (h : Below w.heap.size w W) : Ge w.heap.size g := ⟨hg ▸ below_size h⟩
theorem nq_ {W : World} {g g' : Nat} {o : Obj} (hg : g' = W.heap.size) (h : W.heap[g]? = some o) : Nq g g' := ⟨by rw [hg]; exact Nat.ne_of_lt (blk_lt h)⟩
theorem nr_ {g g' : Nat} (h : Nq g g') : Nq g' g := ⟨Ne.symm h.out⟩
theorem bb_ {w W W1 : World} {g : Nat} {o : Obj} (h : Aside0 (w.heap[g]? = some o)) (hb : Below W.heap.size W W1) [k : Kp w W] : Aside0 (W1.heap[g]? = some o) := ⟨blk_below (bk h.out) hb⟩
theorem bw_ {w W W1 W0 : World} (h : Aside0 (Below w.heap.size w W0)) (hb : Below W.heap.size W W1) [k : Bw w W0 W] : Aside0 (Below w.heap.size w W1) := ⟨below_step (wk h.out) hb⟩
theorem rb_ {α : Type} {d : Kd α} {e base : Nat} {ok : Nat → Prop} {w W W1 : World} {v : Value} {xs : List α} (h : Aside0 (Kd.R d e w base ok v xs)) (hb : Below W.heap.size W W1) [k : Kp w W] : Aside0 (Kd.R d e W1 base ok v xs) := ⟨Kd.R_below (rk h.out) hb⟩
theorem sb_ {α : Type} {d : Kd α} {e base : Nat} {ok : Nat → Prop} {w W W1 : World} {v : Value} {xs : List α} (h : Aside0 (Kd.S d e w base ok v xs)) (hb : Below W.heap.size W W1) [k : Kp w W] : Aside0 (Kd.S d e W1 base ok v xs) := ⟨Kd.S_below (sk h.out) hb⟩
theorem vk {α : Type} {d : Kd α} {e base : Nat} {ok : Nat → Prop} {w W : World} {v : Value} {xs : List α} (h : Kd.V d e w base ok v xs) [k : Kp w W] : Kd.V d e W base ok v xs := Kd.V_below h k.b
theorem nk {α : Type} {d : Kd α} {e base : Nat} {ok : Nat → Prop} {w W : World} {v : Value} {xs : List α} (h : Kd.N d e w base ok v xs) [k : Kp w W] : Kd.N d e W base ok v xs := Kd.N_below h k.b
section
variable {P : Program} {ops : Array Oper} {Q : Exit → Act → World → Prop} {rest : List Oper} {o : Oper} {a : Act} {W : World}
theorem bx_ (N : Tmp) (cs : Array Value) (t : TypeId) (h : ∀ g, g = W.heap.size → ∀ w1, w1.heap[g]? = some (.cells cs t (0, 0)) → Below W.heap.size W w1 → wpList P ops Q rest (a.put o.dst (.pointer (some ⟨g, 0, none⟩))) w1) (hd : o.dst = some N := by with_reducible rfl) (hg : o.guard = none := by rfl) (hr : (execOp a.eval o).run P W = .ok (.value (.pointer (some ⟨W.heap.size, 0, none⟩))) (W.alloc (.cells cs t (0, 0))) := by first | (go_simp; done) | (go_simp; rfl)) : wpList P ops Q (o :: rest) a W := box_event hg hd hr h
theorem cl_ {f : FuncId} {fn : Func} {xs : Array Operand} {ts : Array TypeId} (N : Option Tmp) (hf : P.funcs[f]? = some fn) (args : Array Value) (h : Calls P f args W fun e w' => ∃ v, e = .returned v ∧ wpList P ops Q rest (a.put N v) w') (hop : o.op = .call { callee := .value (.func f), args := xs, argTypes := ts } := by with_reducible rfl) (hd : o.dst = N := by rfl) (hg : o.guard = none := by rfl) (hname : (fn.name == "runtime.NumGoroutine") = false := by kernel_rfl) (hb : fn.body.isSome = true := by rfl) (hargs : xs.map a.eval = args := by (try simp only [List.map_toArray, List.map_cons, List.map_nil]); first | done | rfl | (simp only [List.length_drop, List.length_take]; rfl)) : wpList P ops Q (o :: rest) a W := goesL_ N hd hg hf hname hb args hop hargs h
end
end Go.Proofs.Ytnndanfghlnpfaa.P
