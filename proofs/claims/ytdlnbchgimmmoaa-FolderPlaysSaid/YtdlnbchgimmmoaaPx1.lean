-- Laid by a program of this session (wip/tools/fork_print.py over the kit's print) out of Lean's print of the translation. Lean checks it.
import Derived.Test.YtdlnbchgimmmoaaPx0
import Derived.Maps.OwnSet
import Derived.Test.YtdlnbchgimmmoaaShelf
namespace Go.Proofs.Ytdlnbchgimmmoaa.P
open Go.RowKit Go.Proofs.YtdlnbchgimmmoaaW.PrintWords Go.Proofs.YtdlnbchgimmmoaaW.PrintLast Go.Proofs.YtdlnbchgimmmoaaW.PrintMore
attribute [local go_sem] max2_int min2_int max_two min_two max_three min_three max_four min_four   -- for this text's walks alone
set_option linter.unusedVariables false
set_option linter.unusedSimpArgs false

/-! ### folder_names_apply: function 41 -/
-- IMPORT Derived.Maps.OwnSet
-- a folder's names: a list, as a map's datum; a change of them
/-- But for S's blocks, and new ones, all is as it was. -/
structure Kep (w W : World) (S : Nat → Prop) : Prop where
  k : Kept w W S
  b : Below 0 w W
theorem Kep.refl (w : World) (S : Nat → Prop) : Kep w w S := ⟨Kept.refl w S, Below.refl 0 w⟩
section
variable {w W W2 : World} {S S2 : Nat → Prop}
theorem Kep.mono (h : Kep w W S) (hs : ∀ k, S k → S2 k) : Kep w W S2 := ⟨h.k.mono hs, h.b⟩
theorem Kep.of_grown {row : Option Nat} (hg : W.grownBy W2 row) (h : Kep w W S) (hr : ∀ k, row = some k → S k ∨ w.heap.size ≤ k) : Kep w W2 S := ⟨Kept.of_grown hg h.k hr, h.b.grown hg (Nat.zero_le _) (fun _ _ => Nat.zero_le _)⟩
theorem Kep.below (h : Kep w W S) (hb : Below W.heap.size W W2) : Kep w W2 S := ⟨h.k.below hb, h.b.trans (hb.mono (Nat.zero_le _))⟩
theorem Kep.alloc (h : Kep w W S) (o : Obj) : Kep w (W.alloc o) S := h.below (below_alloc (Below.refl _ _) o)
theorem Kep.drew (h : Kep w W S) : Kep w W.drew S := h.below (below_drew (Below.refl _ _))
theorem Kep.setCell (h : Kep w W S) {p : Addr} (hp : S p.block ∨ w.heap.size ≤ p.block) (u : Value) : Kep w (W.setCell p u) S := ⟨h.k.setCell hp u, h.b.setCell (Nat.zero_le _) u⟩
theorem Kep.then_ (h : Kep w W S) (k : Kep W W2 S2) (hs : ∀ k, S2 k → S k ∨ w.heap.size ≤ k) : Kep w W2 S := ⟨h.k.then_ k.k hs, h.b.trans k.b⟩
theorem Kep.out (h : Kep w W S) {B : Nat} (hB : B ≤ w.heap.size) (hs : ∀ k, S k → B ≤ k) : Below B w W := ⟨h.b.os, h.b.tape, h.b.output, h.b.size, fun k hk => h.k.2 k (Nat.lt_of_lt_of_le hk hB) (fun hS => absurd (hs k hS) (by omega))⟩
theorem Kep.of_below (h : Below w.heap.size w W) (S : Nat → Prop) : Kep w W S := ⟨Kept.of_below h S, h.mono (Nat.zero_le _)⟩
end
abbrev Nms := List (List UInt8 × Int)
def Dt (L : Nms) : DataW Unit := .map (L.map fun p => (Lit.string p.1, DataW.lit (.int .i64 p.2)))
def nmDel (L : Nms) (s : List UInt8) : Nms := L.filter fun p => !(p.1 == s)
def nmIns (x : List UInt8 × Int) : Nms → Nms
  | [] => [x]
  | y :: r => if bytesBefore x.1 y.1 = true then x :: y :: r else y :: nmIns x r
def nmPut (L : Nms) (s : List UInt8) (v : Int) : Nms := nmIns (s, v) (nmDel L s)
def nmHas (L : Nms) (s : List UInt8) : Bool := L.any fun p => p.1 == s
def nmGet (L : Nms) (s : List UInt8) : Int := match L.find? (fun p => p.1 == s) with | some p => p.2 | none => 0
structure Chg where
  f0 : Bool
  f1 : ByteArray
  f2 : Bool
  f3 : ByteArray
  f4 : Int
def Chg.ok (c : Chg) : Prop := c.f1.size ≤ maxLen ∧ c.f3.size ≤ maxLen ∧ (Lit.int .i64 c.f4).wf = true
def nmStep (L : Nms) (c : Chg) : Nms :=
  let L1 := if c.f0 = true then nmDel L c.f1.data.toList else L
  if c.f2 = true then nmPut L1 c.f3.data.toList c.f4 else L1
theorem Dt_filter (L : Nms) (s : List UInt8) : (L.map fun p => (Lit.string p.1, DataW.lit (H := Unit) (.int .i64 p.2))).filter (fun p => !p.1.sameKey (.string s)) = (nmDel L s).map fun p => (Lit.string p.1, DataW.lit (.int .i64 p.2)) := by
  unfold nmDel
  rw [List.filter_map]
  rfl
theorem Dt_insert (x : List UInt8 × Int) (L : Nms) : DataW.insert (Lit.string x.1, DataW.lit (H := Unit) (.int .i64 x.2)) (L.map fun p => (Lit.string p.1, DataW.lit (.int .i64 p.2))) = (nmIns x L).map fun p => (Lit.string p.1, DataW.lit (.int .i64 p.2)) := by
  induction L with
  | nil => rfl
  | cons y r ih =>
    by_cases h : bytesBefore x.1 y.1 = true
    · simp [DataW.insert, nmIns, Lit.before, h]
    · simp [DataW.insert, nmIns, Lit.before, h, ih]
theorem Dt_del (L : Nms) (s : List UInt8) : (Dt L).del (.string s) = Dt (nmDel L s) := by
  show DataW.map _ = DataW.map _
  rw [Dt_filter]
theorem Dt_put (L : Nms) (s : List UInt8) (v : Int) : (Dt L).put (.string s) (.lit (.int .i64 v)) = Dt (nmPut L s v) := by
  show DataW.map _ = DataW.map _
  rw [Dt_filter]
  exact congrArg DataW.map (Dt_insert (s, v) (nmDel L s))
theorem Dt_has (L : Nms) (s : List UInt8) : Maps.has (Dt L) (.string s) = nmHas L s := by
  show List.any (L.map _) _ = _
  rw [List.any_map]
  rfl
theorem Dt_get (L : Nms) (s : List UInt8) : (Dt L).atKey (.string s) (.lit (.int .i64 0)) = .lit (.int .i64 (nmGet L s)) := by
  unfold nmGet Dt DataW.atKey
  simp only [List.find?_map]
  have e : ((fun p : Lit × DataW Unit => p.1.sameKey (.string s)) ∘ fun p : List UInt8 × Int => (Lit.string p.1, DataW.lit (.int .i64 p.2))) = fun p => p.1 == s := rfl
  rw [e]
  cases L.find? (fun p => p.1 == s) <;> rfl
theorem Dt_size (L : Nms) : Maps.size (Dt L) = L.length := by
  show (L.map _).length = _
  rw [List.length_map]
/-- A map's bound, as small as it can be. -/
theorem own_tight {P : Program} {k : TypeId} {R : Value → Option (DataW Unit × List MemPlace)} {w : World} {b n : Nat} {L : Nms} (h : w.ownsMap P k R b n (Dt L)) : w.ownsMap P k R b L.length (Dt L) := by
  have hz := Dt_size L
  obtain ⟨es, clock, hb, F, _, hD⟩ := h
  refine ⟨es, clock, hb, F, ?_, hD⟩
  rw [hD] at hz
  have : ((es.toList.map (Go.WideElems.rg P k R)).foldr DataW.insert []).length = L.length := hz
  rw [length_sorted] at this
  simp at this
  omega
abbrev Nm (w : World) (b : Nat) (L : Nms) : Prop := w.ownsMap Try.prog 9 (plainElem Try.prog 3) b L.length (Dt L)
theorem nm_law : Maps.Keyed Try.prog 9 := Maps.string_keyed Try.underlying9
theorem nm_zero (w : World) : (zeroValue 3).run Try.prog w = .ok (.int .i64 0) w := by kernel_rfl
theorem nm_key (s : ByteArray) (h : s.size ≤ maxLen) : keyOf Try.prog 9 (.string s) = some (.string s.data.toList) := Go.WideMaps.keyOf_string_mk Try.underlying9 h
theorem grown_two {W W1 W2 : World} {b : Nat} (h1 : W.grownBy W1 (some b)) (h2 : W1.grownBy W2 (some b)) : W.grownBy W2 (some b) := h1.trans h2
theorem nm_put {W W1 W2 : World} {b n : Nat} {L : Nms} {s : List UInt8} {v : Int} (h : W1.ownsMap Try.prog 9 (plainElem Try.prog 3) b n ((Dt L).put (.string s) (.lit (.int .i64 v)))) : Nm W1 b (nmPut L s v) := by
  rw [Dt_put] at h
  exact own_tight h
theorem nm_del {W1 : World} {b n : Nat} {L : Nms} {s : List UInt8} (h : W1.ownsMap Try.prog 9 (plainElem Try.prog 3) b n ((Dt L).del (.string s))) : Nm W1 b (nmDel L s) := by
  rw [Dt_del] at h
  exact own_tight h
theorem nmDel_le (L : Nms) (s : List UInt8) : (nmDel L s).length ≤ L.length := List.length_filter_le _ _
theorem nmIns_length (x : List UInt8 × Int) (L : Nms) : (nmIns x L).length = L.length + 1 := by
  induction L with
  | nil => rfl
  | cons y r ih =>
    unfold nmIns
    split
    · rfl
    · simp [ih]
theorem nmPut_le (L : Nms) (s : List UInt8) (v : Int) : (nmPut L s v).length ≤ L.length + 1 := by
  unfold nmPut
  rw [nmIns_length]
  have := nmDel_le L s
  omega
theorem nmStep_le (L : Nms) (c : Chg) : (nmStep L c).length ≤ L.length + 1 := by
  unfold nmStep
  have h1 := nmDel_le L c.f1.data.toList
  have h2 : (if c.f0 = true then nmDel L c.f1.data.toList else L).length ≤ L.length := by split <;> omega
  dsimp only
  split
  · have := nmPut_le (if c.f0 = true then nmDel L c.f1.data.toList else L) c.f3.data.toList c.f4
    omega
  · omega
abbrev Chg.val (c : Chg) : Value := .agg #[.bool c.f0, .string c.f1, .bool c.f2, .string c.f3, .int .i64 c.f4]
set_option maxHeartbeats 4000000 in
set_option maxRecDepth 100000 in
theorem folder_names_apply.calls (b : Nat) (L : Nms) (c : Chg) (hc : c.ok) (hl : L.length ≤ 1000000) (w : World) (h : Nm w b L) :
    Calls Try.prog 41 #[.map (some b), .agg #[.bool c.f0, .string c.f1, .bool c.f2, .string c.f3, .int .i64 c.f4]] w fun e w' => (∃ v, e = .returned v) ∧ Nm w' b (nmStep L c) ∧ w.grownBy w' (some b) := by
  obtain ⟨d0, s1, d2, s3, i4⟩ := c
  obtain ⟨h1, h3, h4⟩ := hc
  dsimp only at h1 h3 h4 ⊢
  have hk1 := nm_key s1 h1
  have hk3 := nm_key s3 h3
  have hB := World.grownBy_alloc w (.cells #[.bool d0, .string s1, .bool d2, .string s3, .int .i64 i4] 60) (some b)
  have h0 := h.alloc (.cells #[.bool d0, .string s1, .bool d2, .string s3, .int .i64 i4] 60)
  have hd := nmDel_le L s1.data.toList
  have hne : some w.heap.size ≠ some b := fun e => by have := h.lt; injection e with e; omega
  cases d0 with
  | false =>
    cases d2 with
    | false =>
      go_enter Try.func41, Try.ntmps41
      go_wp2
      go_end0
      exact ⟨⟨_, rfl⟩, h0, hB⟩
    | true =>
      go_enter Try.func41, Try.ntmps41
      go_wp2_with (first
        | (at_mapUpdate; refine wpList_mapUpdate_own _ rfl _ _ _ 49 rfl 9 3 nm_law Try.underlying49 _ b L.length _ rfl h0 (by unfold maxLen; omega) _ _ _ rfl rfl hk3 _ [] (plainElem_int Try.underlying3 h4) ?_; intro w1 hown1 hgrow1)
        | go_in)
      go_end0
      exact ⟨⟨_, rfl⟩, nm_put (W := w) (W2 := w) hown1, hB.trans hgrow1⟩
  | true =>
    cases d2 with
    | false =>
      go_enter Try.func41, Try.ntmps41
      go_wp2_with (first
        | (at_delete; refine wpList_delete_own _ rfl _ _ 49 9 rfl 3 nm_law Try.underlying49 _ b L.length _ rfl h0 _ _ rfl hk1 ?_; intro w1 hown1 hturn1; have KB := blk_grown (heap_alloc_new w _) hturn1.grown hne; have c2 := (blk_cell KB 2).trans rfl; have c3 := (blk_cell KB 3).trans rfl; have c4 := (blk_cell KB 4).trans rfl)
        | go_in)
      go_end0
      exact ⟨⟨_, rfl⟩, nm_del hown1, hB.trans hturn1.grown⟩
    | true =>
      go_enter Try.func41, Try.ntmps41
      go_wp2_with (first
        | (at_delete; refine wpList_delete_own _ rfl _ _ 49 9 rfl 3 nm_law Try.underlying49 _ b L.length _ rfl h0 _ _ rfl hk1 ?_; intro w1 hown1 hturn1; have hown1' := nm_del hown1; have KB := blk_grown (heap_alloc_new w _) hturn1.grown hne; have c2 := (blk_cell KB 2).trans rfl; have c3 := (blk_cell KB 3).trans rfl; have c4 := (blk_cell KB 4).trans rfl)
        | (at_mapUpdate; refine wpList_mapUpdate_own _ rfl _ _ _ 49 rfl 9 3 nm_law Try.underlying49 _ b (nmDel L s1.data.toList).length _ rfl hown1' (by unfold maxLen; omega) _ _ _ rfl rfl hk3 _ [] (plainElem_int Try.underlying3 h4) ?_; intro w2 hown2 hgrow2)
        | go_in)
      go_end0
      exact ⟨⟨_, rfl⟩, nm_put (W := w) (W2 := w) hown2, (hB.trans hturn1.grown).trans hgrow2⟩

/-! ### folder_Folder_do: function 25 -/
-- NEEDS (stylus/folder.names).apply
def kChg : Kd Chg := Kd.iso (Kd.pair Kd.bool (Kd.pair Kd.string (Kd.pair Kd.bool (Kd.pair Kd.string (Kd.int .i64))))) (fun x : Chg => (x.f0, x.f1, x.f2, x.f3, x.f4))
theorem kChg_sz : kChg.sz = 5 := rfl
theorem kChg_heap : Kd.Heap kChg := Kd.heap_iso _ (Kd.heap_pair Kd.heap_bool (Kd.heap_pair Kd.heap_string (Kd.heap_pair Kd.heap_bool (Kd.heap_pair Kd.heap_string (Kd.heap_int .i64)))))
theorem kChg_open {w : World} {x : Chg} {cs : List Value} (h : kChg.K w x cs) : cs = [.bool x.f0, .string x.f1, .bool x.f2, .string x.f3, .int .i64 x.f4] := by
  obtain ⟨_, _, rfl, rfl, _, _, rfl, rfl, _, _, rfl, rfl, _, _, rfl, rfl, rfl⟩ := h
  exact rfl
theorem kChg_mkM (w : World) (base : Nat) (ok : Nat → Prop) (x : Chg) : kChg.M w base ok x [.bool x.f0, .string x.f1, .bool x.f2, .string x.f3, .int .i64 x.f4] :=
  ⟨[.bool x.f0], [.string x.f1, .bool x.f2, .string x.f3, .int .i64 x.f4], rfl, rfl, ⟨[.string x.f1], [.bool x.f2, .string x.f3, .int .i64 x.f4], rfl, rfl, ⟨[.bool x.f2], [.string x.f3, .int .i64 x.f4], rfl, rfl, ⟨[.string x.f3], [.int .i64 x.f4], rfl, rfl, rfl⟩⟩⟩⟩
theorem infoChg : (Try.prog.info? 60).map (fun i => (i.zero, i.size, i.bytes)) = some (some (.agg #[.bool false, .string ⟨#[]⟩, .bool false, .string ⟨#[]⟩, .int .i64 0]), 5, 56) := by kernel_rfl
/-- A folder in block b: what lasts, what is seen, what waits; all its blocks are S's. -/
def Fo (W : World) (S : Nat → Prop) (b : Nat) (L0 L : Nms) (cs : List Chg) : Prop :=
  ∃ kb nb A c, W.heap[b]? = some (.cells #[.map (some kb), .map (some nb), .slice A cs.length c, .bool true] 52 (0, 0)) ∧ (S b ∧ S kb ∧ S nb) ∧ kb ≠ nb ∧ Nm W kb L0 ∧ Nm W nb L ∧ Kd.R kChg 60 W 0 S (.slice A cs.length c) cs ∧ ∀ x ∈ cs, x.ok
theorem nm_blk {W : World} {b g : Nat} {L : Nms} {cs : Array Value} {t : TypeId} {f : Nat × Nat} (h : Nm W b L) (hg : W.heap[g]? = some (.cells cs t f)) : g ≠ b := by
  rintro rfl
  obtain ⟨es, clock, hb, _⟩ := h
  rw [hg] at hb
  cases hb
theorem nm_own {W : World} {b e base : Nat} {ok : Nat → Prop} {v : Value} {xs : List Chg} {L : Nms} (h : Nm W b L) (hR : Kd.R kChg e W base ok v xs) : some b ≠ v.ownBlock := fun he => by
  obtain ⟨cells, hc⟩ := Kd.R_typed hR b he.symm
  exact nm_blk h hc rfl
theorem R_off {W : World} {b e base : Nat} {ok : Nat → Prop} {v : Value} {xs : List Chg} {L : Nms} (h : Nm W b L) (hR : Kd.R kChg e W base ok v xs) : Kd.R kChg e W base (fun k => ok k ∧ k ≠ b) v xs :=
  Kd.R_mono (Kd.R_bound hR) (fun k hk => ⟨hk.1, by
    obtain ⟨_, _, _, q, _, cells, hc⟩ := hk
    exact nm_blk h hc⟩)
theorem R_not {W : World} {g e t base : Nat} {ok : Nat → Prop} {v : Value} {xs : List Chg} {cells : Array Value} (hR : Kd.R kChg e W base ok v xs) (hb : W.heap[g]? = some (.cells cells t (0, 0))) (ht : e ≠ t) (hE : ∀ q, q ∈ kChg.E → q ≠ t) : Kd.R kChg e W base (fun k => ok k ∧ k ≠ g) v xs :=
  Kd.R_types hR hb (fun q hq => (List.mem_cons.1 hq).elim (fun h => h ▸ ht) (hE q))
theorem kChg_E : ∀ q, q ∈ kChg.E → False := by
  intro q hq
  exact absurd hq (by simp [kChg, Kd.iso, Kd.pair, Kd.bool, Kd.string, Kd.int, Kd.scalar])
theorem chg_one {W : World} {g : Nat} (x : Chg) (hb : W.heap[g]? = some (.cells #[.bool x.f0, .string x.f1, .bool x.f2, .string x.f3, .int .i64 x.f4] 60 (0, 0))) :
    ReadsRow (fun (x : Chg) (cs : List Value) => cs = [.bool x.f0, .string x.f1, .bool x.f2, .string x.f3, .int .i64 x.f4]) kChg.sz W (some ⟨g, 0, none⟩) 1 [x] := by
  refine ⟨rfl, by decide, fun _ => ⟨_, rfl, fun j p hj => ?_⟩⟩
  cases j with
  | succ j => simp at hj
  | zero =>
    simp only [List.getElem?_cons_zero, Option.some.injEq] at hj
    subst hj
    refine ⟨_, rfl, rfl, fun i u hi => ?_⟩
    rw [add_plain]
    simp only [Nat.zero_mul, Nat.zero_add]
    rw [blk_cell hb i]
    simpa using hi
theorem do_ok {S : Nat → Prop} {n k : Nat} (h : n ≤ k) : S k ∨ n ≤ k := .inr h
set_option maxHeartbeats 8000000 in
set_option maxRecDepth 100000 in
theorem folder_Folder_do.calls (S : Nat → Prop) (b : Nat) (L0 L : Nms) (cs : List Chg) (c : Chg) (hc : c.ok) (hl : L.length ≤ 1000000) (hl2 : cs.length ≤ 1000000) (w : World) (h : Fo w S b L0 L cs) :
    Calls Try.prog 25 #[.pointer (some ⟨b, 0, none⟩), .agg #[.bool c.f0, .string c.f1, .bool c.f2, .string c.f3, .int .i64 c.f4]] w fun e w' => (∃ v, e = .returned v) ∧ Fo w' (fun k => S k ∨ w.heap.size ≤ k) b L0 (nmStep L c) (cs ++ [c]) ∧ Kep w w' S := by
  have huF := Try.underlying52
  have huC := Try.underlying60
  obtain ⟨kb, nb, A, cap, hb, ⟨Sb, Skb, Snb⟩, hne, hk, hn, hR, hok⟩ := h
  have HL := Aside0.mk hl
  have HL2 := Aside0.mk hl2
  have HC := Aside0.mk hc
  have HK := Aside0.mk (hk.alloc (.cells #[.bool c.f0, .string c.f1, .bool c.f2, .string c.f3, .int .i64 c.f4] 60))
  have HN := Aside0.mk (hn.alloc (.cells #[.bool c.f0, .string c.f1, .bool c.f2, .string c.f3, .int .i64 c.f4] 60))
  have KG := Aside0.mk (blk_alloc hb (.cells #[.bool c.f0, .string c.f1, .bool c.f2, .string c.f3, .int .i64 c.f4] 60))
  have KX := Aside0.mk (heap_alloc_new w (.cells #[.bool c.f0, .string c.f1, .bool c.f2, .string c.f3, .int .i64 c.f4] 60))
  have HR := Aside0.mk (Kd.R_alloc (Kd.R_elderB hR w.heap.size (Nat.le_refl _)) (.cells #[.bool c.f0, .string c.f1, .bool c.f2, .string c.f3, .int .i64 c.f4] 60))
  have HP := Aside0.mk (Kep.alloc (Kep.refl w S) (.cells #[.bool c.f0, .string c.f1, .bool c.f2, .string c.f3, .int .i64 c.f4] 60))
  have HNE := Aside0.mk hne
  have HS := Aside0.mk (And.intro Sb (And.intro Skb Snb))
  have HOK := Aside0.mk hok
  clear hl hl2 hc hk hn hR hb hne Sb Skb Snb hok
  obtain ⟨d0, s1, d2, s3, i4⟩ := c
  dsimp only at KX KG HK HN HR HP ⊢
  go_enter Try.func25, Try.ntmps25
  go_upto_region 1 with fail
  refine start_ (n := 6) (S := fun w' => w'.cell? ⟨b, 1, none⟩ = some (.map (some nb)) ∧ w'.cell? ⟨w.heap.size, 0, none⟩ = some (.bool d0) ∧ w'.cell? ⟨w.heap.size, 1, none⟩ = some (.string s1) ∧ w'.cell? ⟨w.heap.size, 2, none⟩ = some (.bool d2) ∧ w'.cell? ⟨w.heap.size, 3, none⟩ = some (.string s3) ∧ w'.cell? ⟨w.heap.size, 4, none⟩ = some (.int .i64 i4)) (ds := []) #[false, false, false, false, false, false] (by kernel_rfl) rfl rfl ⟨(blk_cell (blk_drew KG.out) 1).trans rfl, (blk_cell (blk_drew KX.out) 0).trans rfl, (blk_cell (blk_drew KX.out) 1).trans rfl, (blk_cell (blk_drew KX.out) 2).trans rfl, (blk_cell (blk_drew KX.out) 3).trans rfl, (blk_cell (blk_drew KX.out) 4).trans rfl⟩ (fun hHeld => ?_)
  refine pure_ (i := 0) (N := some 4) (v := ?_) (a' := ?_) #[true, false, false, false, false, false] rfl rfl (by kernel_rfl) (fun _ _ _ h => h) (Or.inl ⟨by rfl, ?_⟩) ?_ ?_
  rotate_left
  · intro w'
    go_simp
    with_reducible rfl
  rotate_left
  · simp only [Act.put, List.setIfInBounds_toArray, List.set_cons_zero, List.set_cons_succ, i64_w, i32_w]
    rfl
  refine pure_ (i := 1) (N := some 5) (v := ?_) (a' := ?_) #[true, true, false, false, false, false] rfl rfl (by kernel_rfl) (fun _ _ _ h => h) (Or.inl ⟨by rfl, ?_⟩) ?_ ?_
  rotate_left
  · intro w'
    go_simp
    with_reducible rfl
  rotate_left
  · simp only [Act.put, List.setIfInBounds_toArray, List.set_cons_zero, List.set_cons_succ, i64_w, i32_w]
    rfl
  refine pure_ (i := 2) (N := some 6) (v := ?_) (a' := ?_) #[true, true, true, false, false, false] rfl rfl (by kernel_rfl) (fun _ _ _ h => h) (Or.inl ⟨by rfl, ?_⟩) ?_ ?_
  rotate_left
  · intro w'
    go_simp
    with_reducible rfl
  rotate_left
  · simp only [Act.put, List.setIfInBounds_toArray, List.set_cons_zero, List.set_cons_succ, i64_w, i32_w]
    rfl
  refine take_ (i := 3) (N := some 7) (v := ?_) (a' := ?_) #[true, true, true, true, false, false] rfl rfl (by kernel_rfl) (fun _ _ _ h => h) (Or.inl ⟨by rfl, ?_⟩) hHeld ?_ ?_
  rotate_left
  · rintro w' ⟨s0, s1, s2, s3, s4, s5⟩
    go_simp
    with_reducible rfl
  rotate_left
  · simp only [Act.put, List.setIfInBounds_toArray, List.set_cons_zero, List.set_cons_succ, i64_w, i32_w]
    rfl
  refine take_ (i := 4) (N := some 8) (v := ?_) (a' := ?_) #[true, true, true, true, true, false] rfl rfl (by kernel_rfl) (fun _ _ _ h => h) (Or.inl ⟨by rfl, ?_⟩) hHeld ?_ ?_
  rotate_left
  · rintro w' ⟨s0, s1, s2, s3, s4, s5⟩
    go_simp
    with_reducible rfl
  rotate_left
  · simp only [Act.put, List.setIfInBounds_toArray, List.set_cons_zero, List.set_cons_succ, i64_w, i32_w]
    rfl
  refine one_ (i := 5) (N := some 9) #[true, true, true, true, true, true] rfl rfl (by kernel_rfl) (by decide) (fun K hK => ?_)
  refine goes_ Try.func41 (by kernel_rfl) rfl #[.map (some nb), .agg #[.bool d0, .string s1, .bool d2, .string s3, .int .i64 i4]] (by rfl) rfl rfl (by (try simp only [List.map_toArray, List.map_cons, List.map_nil]); first | done | rfl) ?_
  with_reducible refine (folder_names_apply.calls nb L ⟨d0, s1, d2, s3, i4⟩ HC.out HL.out _ HN.out.drew).mono ?_
  rintro e w5 ⟨⟨v9, rfl⟩, hn5, hg5⟩
  refine ⟨_, rfl, ?_⟩
  have HR5 := Aside0.mk (Kd.R_grown (Kd.R_drew (R_off HN.out HR.out)) hg5 (fun k hk e => hk.2 (Option.some.inj e)))
  have HK5 := Aside0.mk (World.ownsMap.kept HK.out.drew hg5 (fun e => HNE.out (Option.some.inj e)))
  have KG5 := Aside0.mk (blk_grown (blk_drew KG.out) hg5 (fun e => nm_blk HN.out KG.out (Option.some.inj e)))
  have KX5 := Aside0.mk (blk_grown (blk_drew KX.out) hg5 (fun e => nm_blk HN.out KX.out (Option.some.inj e)))
  have HP5 := Aside0.mk (Kep.of_grown hg5 (HP.out.drew) (fun k e => .inl (by rw [← Option.some.inj e]; exact HS.out.2.2)))
  have HN5 := Aside0.mk hn5
  clear hn5 hg5 KG KX HN HK HR HP
  have KG := KG5
  have KX := KX5
  have HN := HN5
  have HK := HK5
  have HR := HR5
  have HP := HP5
  clear KG5 KX5 HN5 HK5 HR5 HP5
  refine hK.out _ _ ⟨(blk_cell (KG.out) 1).trans rfl, (blk_cell (KX.out) 0).trans rfl, (blk_cell (KX.out) 1).trans rfl, (blk_cell (KX.out) 2).trans rfl, (blk_cell (KX.out) 3).trans rfl, (blk_cell (KX.out) 4).trans rfl⟩ (fun hHeld => ?_)
  clear hK K
  refine norm_ (a' := ?_) ?_ ?_
  rotate_left
  · show Act.put _ (some 9) _ = _
    simp only [Act.put, List.setIfInBounds_toArray, List.set_cons_zero, List.set_cons_succ, i64_w, i32_w]
    rfl
  refine done_ (by kernel_rfl) ?_
  have HR8 := Aside0.mk (show Kd.R kChg 60 w5 0 (fun k => (S k ∨ w.heap.size ≤ k) ∧ k ≠ kb ∧ k ≠ nb ∧ k ≠ b ∧ k ≠ w.heap.size) (.slice A cs.length cap) cs from
    Kd.R_mono (R_not (R_off HK.out HR.out) KG.out (by decide) (fun q hq => (kChg_E q hq).elim)) (fun k hk => ⟨.inl hk.1.1.1.1, hk.1.2, hk.1.1.2, hk.2, hk.1.1.1.2⟩))
  have HFR := Aside0.mk (show ∀ k, w5.heap.size ≤ k → (S k ∨ w.heap.size ≤ k) ∧ k ≠ kb ∧ k ≠ nb ∧ k ≠ b ∧ k ≠ w.heap.size from fun k hk =>
    have h1 := HK.out.lt
    have h2 := HN.out.lt
    have h3 := blk_lt KG.out
    have h4 := blk_lt KX.out
    have h5 := HP.out.k.1
    ⟨.inr (by omega), by omega, by omega, by omega, by omega⟩)
  clear HR
  go_upto_region 2 with fail
  refine start_ (n := 11) (S := fun w' => w'.cell? ⟨b, 2, none⟩ = some (.slice A cs.length cap) ∧ w'.cell? ⟨w.heap.size, 0, none⟩ = some (.bool d0) ∧ w'.cell? ⟨w.heap.size, 1, none⟩ = some (.string s1) ∧ w'.cell? ⟨w.heap.size, 2, none⟩ = some (.bool d2) ∧ w'.cell? ⟨w.heap.size, 3, none⟩ = some (.string s3) ∧ w'.cell? ⟨w.heap.size, 4, none⟩ = some (.int .i64 i4)) (ds := [7, 10]) #[false, false, false, false, false, false, false, false, false, false, false] (by kernel_rfl) rfl rfl ⟨(blk_cell (blk_drew KG.out) 2).trans rfl, (blk_cell (blk_drew KX.out) 0).trans rfl, (blk_cell (blk_drew KX.out) 1).trans rfl, (blk_cell (blk_drew KX.out) 2).trans rfl, (blk_cell (blk_drew KX.out) 3).trans rfl, (blk_cell (blk_drew KX.out) 4).trans rfl⟩ (fun hHeld => ?_)
  refine pure_ (i := 0) (N := some 10) (v := ?_) (a' := ?_) #[true, false, false, false, false, false, false, false, false, false, false] rfl rfl (by kernel_rfl) (fun _ _ _ h => h) (Or.inl ⟨by rfl, ?_⟩) ?_ ?_
  rotate_left
  · intro w'
    go_simp
    with_reducible rfl
  rotate_left
  · simp only [Act.put, List.setIfInBounds_toArray, List.set_cons_zero, List.set_cons_succ, i64_w, i32_w]
    rfl
  refine pure_ (i := 1) (N := some 11) (v := ?_) (a' := ?_) #[true, true, false, false, false, false, false, false, false, false, false] rfl rfl (by kernel_rfl) (fun _ _ _ h => h) (Or.inl ⟨by rfl, ?_⟩) ?_ ?_
  rotate_left
  · intro w'
    go_simp
    with_reducible rfl
  rotate_left
  · simp only [Act.put, List.setIfInBounds_toArray, List.set_cons_zero, List.set_cons_succ, i64_w, i32_w]
    rfl
  refine pure_ (i := 2) (N := some 12) (v := ?_) (a' := ?_) #[true, true, true, false, false, false, false, false, false, false, false] rfl rfl (by kernel_rfl) (fun _ _ _ h => h) (Or.inl ⟨by rfl, ?_⟩) ?_ ?_
  rotate_left
  · intro w'
    go_simp
    with_reducible rfl
  rotate_left
  · simp only [Act.put, List.setIfInBounds_toArray, List.set_cons_zero, List.set_cons_succ, i64_w, i32_w]
    rfl
  refine pure_ (i := 3) (N := some 13) (v := ?_) (a' := ?_) #[true, true, true, true, false, false, false, false, false, false, false] rfl rfl (by kernel_rfl) (fun _ _ _ h => h) (Or.inl ⟨by rfl, ?_⟩) ?_ ?_
  rotate_left
  · intro w'
    go_simp
    with_reducible rfl
  rotate_left
  · simp only [Act.put, List.setIfInBounds_toArray, List.set_cons_zero, List.set_cons_succ, i64_w, i32_w]
    rfl
  refine take_ (i := 4) (N := some 14) (v := ?_) (a' := ?_) #[true, true, true, true, true, false, false, false, false, false, false] rfl rfl (by kernel_rfl) (fun _ _ _ h => h) (Or.inl ⟨by rfl, ?_⟩) hHeld ?_ ?_
  rotate_left
  · rintro w' ⟨s0, s1, s2, s3, s4, s5⟩
    go_simp
    with_reducible rfl
  rotate_left
  · simp only [Act.put, List.setIfInBounds_toArray, List.set_cons_zero, List.set_cons_succ, i64_w, i32_w]
    rfl
  refine take_ (i := 5) (N := some 15) (v := ?_) (a' := ?_) #[true, true, true, true, true, true, false, false, false, false, false] rfl rfl (by kernel_rfl) (fun _ _ _ h => h) (Or.inl ⟨by rfl, ?_⟩) hHeld ?_ ?_
  rotate_left
  · rintro w' ⟨s0, s1, s2, s3, s4, s5⟩
    go_simp
    with_reducible rfl
  rotate_left
  · simp only [Act.put, List.setIfInBounds_toArray, List.set_cons_zero, List.set_cons_succ, i64_w, i32_w]
    rfl
  refine one_ (i := 6) (N := some 16) #[true, true, true, true, true, true, true, false, false, false, false] rfl rfl (by kernel_rfl) (by decide) (fun K hK => ?_)
  refine value_ (w1 := ?_) (v := ?_) (by rfl) rfl ?_ ?_
  rotate_left 2
  · go_simp
    constructor
    · rfl
    · rfl
  refine hK.out _ _ ⟨(blk_cell (blk_alloc (blk_drew KG.out) _) 2).trans rfl, (blk_cell (blk_alloc (blk_drew KX.out) _) 0).trans rfl, (blk_cell (blk_alloc (blk_drew KX.out) _) 1).trans rfl, (blk_cell (blk_alloc (blk_drew KX.out) _) 2).trans rfl, (blk_cell (blk_alloc (blk_drew KX.out) _) 3).trans rfl, (blk_cell (blk_alloc (blk_drew KX.out) _) 4).trans rfl⟩ (fun hHeld => ?_)
  clear hK K
  refine norm_ (a' := ?_) ?_ ?_
  rotate_left
  · show Act.put _ (some 16) _ = _
    simp only [Act.put, List.setIfInBounds_toArray, List.set_cons_zero, List.set_cons_succ, i64_w, i32_w]
    rfl
  refine last_ (i := 7) (N := some 17) #[true, true, true, true, true, true, true, true, false, false, false] rfl rfl (by kernel_rfl) (by decide) (fun K hK => ?_)
  refine Kd.R_append_rows_step kChg (Rr := fun (x : Chg) (cs : List Value) => cs = [.bool x.f0, .string x.f1, .bool x.f2, .string x.f3, .int .i64 x.f4]) (w0 := w5) 0 (by rfl) (.tmp 14) (.tmp 16) 50 60 (.agg #[.bool false, .string ⟨#[]⟩, .bool false, .string ⟨#[]⟩, .int .i64 0]) 56 rfl Try.underlying50 infoChg rfl (by decide) (by omega) (.slice A cs.length cap) cs [(⟨d0, s1, d2, s3, i4⟩ : Chg)] (some ⟨w5.heap.size, 0, none⟩) 1 1 (fun k => (S k ∨ w.heap.size ≤ k) ∧ k ≠ kb ∧ k ≠ nb ∧ k ≠ b ∧ k ≠ w.heap.size) (fun _ => False) rfl rfl (Kd.R_drew (Kd.R_alloc HR8.out _)) (chg_one (⟨d0, s1, d2, s3, i4⟩ : Chg) (blk_drew (heap_alloc_new w5 _))) (fun x c hx => hx ▸ kChg_mkM _ _ _ x) (fun _ hk => hk.elim) (fun k hk => HFR.out k (Nat.le_trans (by simp) hk)) ((below_drew (below_alloc (Below.refl _ _) _)).mono (Nat.zero_le _)) (Nat.zero_le _) (by have := HL2.out; omega) ?_
  intro v17 w6 hR6 _ hg6 hat6
  have KG6 := Aside0.mk (blk_grown (blk_drew (blk_alloc KG.out _)) hg6 (fun e => (HR8.out.1 _ e.symm).2.2.2.1 rfl))
  have HK6 := Aside0.mk (World.ownsMap.kept (HK.out.alloc _).drew hg6 (fun e => (HR8.out.1 _ e.symm).2.1 rfl))
  have HN6 := Aside0.mk (World.ownsMap.kept (HN.out.alloc _).drew hg6 (fun e => (HR8.out.1 _ e.symm).2.2.1 rfl))
  have HP6 := Aside0.mk (Kep.of_grown hg6 (HP.out.alloc _).drew (fun k e => (HR8.out.1 k e).1))
  have HR6 := Aside0.mk hR6
  clear hR6 hg6 hat6
  refine hK.out _ _ ?_
  clear hK K
  refine norm_ (a' := ?_) ?_ ?_
  rotate_left
  · show Act.put _ (some 17) _ = _
    simp only [Act.put, List.setIfInBounds_toArray, List.set_cons_zero, List.set_cons_succ, i64_w, i32_w]
    rfl
  refine pure_ (i := 8) (N := some 18) (v := ?_) (a' := ?_) #[true, true, true, true, true, true, true, true, true, false, false] rfl rfl (by kernel_rfl) (fun _ _ _ h => h) (Or.inl ⟨by rfl, ?_⟩) ?_ ?_
  rotate_left
  · intro w'
    go_simp
    with_reducible rfl
  rotate_left
  · simp only [Act.put, List.setIfInBounds_toArray, List.set_cons_zero, List.set_cons_succ, i64_w, i32_w]
    rfl
  refine pure_ (i := 9) (N := some 19) (v := ?_) (a' := ?_) #[true, true, true, true, true, true, true, true, true, true, false] rfl rfl (by kernel_rfl) (fun _ _ _ h => h) (Or.inl ⟨by rfl, ?_⟩) ?_ ?_
  rotate_left
  · intro w'
    go_simp
    with_reducible rfl
  rotate_left
  · simp only [Act.put, List.setIfInBounds_toArray, List.set_cons_zero, List.set_cons_succ, i64_w, i32_w]
    rfl
  refine last_ (i := 10) (N := none) #[true, true, true, true, true, true, true, true, true, true, true] rfl rfl (by kernel_rfl) (by decide) (fun K hK => ?_)
  have hs_ := (blk_cell KG6.out 2).trans rfl
  have hf_ := blk_frozen KG6.out 2
  obtain ⟨A17, c17, rfl⟩ := Kd.R_slice HR6.out
  rw [List.length_append] at HR6 ⊢
  refine skip_ (w1 := ?_) (by rfl) rfl ?_ ?_
  rotate_left
  · go_simp
    rfl
  refine hK.out _ _ ?_
  clear hK K
  refine done_ (by kernel_rfl) ?_
  have KG7 := Aside0.mk (blk_put (cs' := #[.map (some kb), .map (some nb), .slice A17 (cs.length + [(⟨d0, s1, d2, s3, i4⟩ : Chg)].length) c17, .bool true]) KG6.out 2 (.slice A17 (cs.length + [(⟨d0, s1, d2, s3, i4⟩ : Chg)].length) c17) rfl)
  have HK7 := Aside0.mk (HK6.out.setCell (a := ⟨b, 2, none⟩) (fun e => nm_blk HK6.out KG6.out e.symm) (.slice A17 (cs.length + [(⟨d0, s1, d2, s3, i4⟩ : Chg)].length) c17))
  have HN7 := Aside0.mk (HN6.out.setCell (a := ⟨b, 2, none⟩) (fun e => nm_blk HN6.out KG6.out e.symm) (.slice A17 (cs.length + [(⟨d0, s1, d2, s3, i4⟩ : Chg)].length) c17))
  have HR7 := Aside0.mk (Kd.R_mono (Kd.R_far HR6.out (p := ⟨b, 2, none⟩) (fun k hk => hk.2.2.2.1) (.slice A17 (cs.length + [(⟨d0, s1, d2, s3, i4⟩ : Chg)].length) c17)) (fun k hk => hk.1))
  have HP7 := Aside0.mk (HP6.out.setCell (p := ⟨b, 2, none⟩) (.inl HS.out.1) (.slice A17 (cs.length + [(⟨d0, s1, d2, s3, i4⟩ : Chg)].length) c17))
  generalize w6.setCell ⟨b, 2, none⟩ (.slice A17 (cs.length + 1) c17) = w7 at *
  go_wp2_with fail
  go_end0
  refine ⟨⟨_, rfl⟩, ⟨kb, nb, A17, c17, ?_, ⟨.inl HS.out.1, .inl HS.out.2.1, .inl HS.out.2.2⟩, HNE.out, HK7.out, HN7.out, ?_, ?_⟩, HP7.out⟩
  · rw [List.length_append]
    exact KG7.out
  · rw [List.length_append]
    exact HR7.out
  · intro x hx
    rcases List.mem_append.1 hx with hx | hx
    · exact HOK.out x hx
    · rw [List.mem_singleton.1 hx]
      exact HC.out

/-! ### folder_Folder_none: function 24 -/
-- NEEDS (*stylus/folder.Folder).do
theorem Fo.wide {W : World} {S S' : Nat → Prop} {b : Nat} {L0 L : Nms} {cs : List Chg} (h : Fo W S b L0 L cs) (hS : ∀ k, S k → S' k) : Fo W S' b L0 L cs := by
  obtain ⟨kb, nb, A, cap, hb, ⟨Sb, Skb, Snb⟩, hne, hk, hn, hR, hok⟩ := h
  exact ⟨kb, nb, A, cap, hb, ⟨hS _ Sb, hS _ Skb, hS _ Snb⟩, hne, hk, hn, Kd.R_mono hR hS, hok⟩
theorem Fo.cell {W : World} {S : Nat → Prop} {b : Nat} {L0 L : Nms} {cs : List Chg} (h : Fo W S b L0 L cs) : W.cell? ⟨b, 3, none⟩ = some (.bool true) := by
  obtain ⟨kb, nb, A, cap, hb, _⟩ := h
  exact (blk_cell hb 3).trans rfl
/-- A folder that no call made. -/
def Nob (w : World) (p : Value) : Prop := p = .pointer none ∨ ∃ b, p = .pointer (some ⟨b, 0, none⟩) ∧ w.cell? ⟨b, 3, none⟩ = some (.bool false)
theorem folder_Folder_none.made (b : Nat) (w : World) (h : w.cell? ⟨b, 3, none⟩ = some (.bool true)) :
    Calls Try.prog 24 #[.pointer (some ⟨b, 0, none⟩)] w fun e w' => e = .returned (.bool false) ∧ w' = w := by
  have huF := Try.underlying52
  have huP := Try.underlying25
  go_enter Try.func24, Try.ntmps24
  go_wp2
  go_ret
  exact ⟨rfl, rfl⟩
theorem folder_Folder_none.calls (p : Value) (w : World) (h : Nob w p) :
    Calls Try.prog 24 #[p] w fun e w' => e = .returned (.bool true) ∧ w' = w := by
  have huF := Try.underlying52
  have huP := Try.underlying25
  rcases h with rfl | ⟨b, rfl, h⟩
  · go_enter Try.func24, Try.ntmps24
    go_wp2
    go_ret
    exact ⟨rfl, rfl⟩
  · go_enter Try.func24, Try.ntmps24
    go_wp2
    go_ret
    exact ⟨rfl, rfl⟩

/-! ### folder_New: function 7 -/
-- NEEDS (*stylus/folder.Folder).none
theorem nm_made (w : World) : Nm (w.alloc (.map #[] 0)) w.heap.size [] := World.ownsMap_made _ _ _ _
theorem folder_New.calls (w : World) :
    Calls Try.prog 7 #[] w fun e w' => e = .returned (.pointer (some ⟨w.heap.size + 1 + 1, 0, none⟩)) ∧ Fo w' (fun k => w.heap.size ≤ k) (w.heap.size + 1 + 1) [] [] [] ∧ Below w.heap.size w w' := by
  have huF := Try.underlying52
  have hmm := @run_makeMap Try.prog
  go_enter Try.func7, Try.ntmps7
  go_wp2
  go_ret
  refine ⟨rfl, ⟨w.heap.size, w.heap.size + 1, none, 0, ?_, ⟨by omega, by omega, by omega⟩, by omega, ?_, ?_, ?_, fun x hx => by simp at hx⟩, below_alloc (below_alloc (below_alloc (Below.refl _ _) _) _) _⟩
  · have := heap_alloc_new ((w.alloc (.map #[] 0)).alloc (.map #[] 0)) (.cells #[.map (some w.heap.size), .map (some (w.heap.size + 1)), .slice none 0 0, .bool true] 52)
    simpa using this
  · exact (World.ownsMap.alloc (World.ownsMap.alloc (nm_made w) _) _)
  · have := nm_made (w.alloc (.map #[] 0))
    rw [World.size_alloc] at this
    exact World.ownsMap.alloc this _
  · exact Kd.R_nil _ _ _ _ _

/-! ### folder_Folder_Find: function 12 -/
-- NEEDS (*stylus/folder.Folder).none
theorem folder_Folder_Find.nob (p : Value) (s : ByteArray) (w : World) (h : Nob w p) :
    Calls Try.prog 12 #[p, .string s] w fun e w' => e = .returned (.tuple #[.int .i64 0, .bool false]) ∧ w' = w := by
  go_enter Try.func12, Try.ntmps12
  go_wp2_with (go_at_call 24; (with_reducible refine (folder_Folder_none.calls p w h).mono ?_); rintro e w2 ⟨rfl, rfl⟩)
  go_ret2
  exact ⟨rfl, rfl⟩
set_option maxHeartbeats 4000000 in
theorem folder_Folder_Find.calls (S : Nat → Prop) (b : Nat) (L0 L : Nms) (cs : List Chg) (s : ByteArray) (hs : s.size ≤ maxLen) (w : World) (h : Fo w S b L0 L cs) :
    Calls Try.prog 12 #[.pointer (some ⟨b, 0, none⟩), .string s] w fun e w' => (e = .returned (.tuple #[.int .i64 (nmGet L s.data.toList), .bool (nmHas L s.data.toList)]) ∧ (Lit.int .i64 (nmGet L s.data.toList)).wf = true) ∧ w' = w := by
  have huF := Try.underlying52
  have hkey := nm_key s hs
  have hm := folder_Folder_none.made b w h.cell
  obtain ⟨kb, nb, A, cap, hb, _, _, _, hn, _, _⟩ := h
  have c1 := (blk_cell hb 1).trans rfl
  have HB := Aside0.mk hb
  clear hb
  go_enter Try.func12, Try.ntmps12
  go_wp2_with (first
    | (go_at_call 24; (with_reducible refine hm.mono ?_); clear hm; rintro e w2 ⟨rfl, rfl⟩)
    | (at_lookup; refine wpList_lookup_own_ok_int _ rfl _ _ 49 rfl 9 3 .i64 nm_law Try.underlying49 Try.underlying3 (nm_zero _) nb L.length (Dt L) rfl hn _ _ rfl hkey ?_; intro c hat hwc; rw [Dt_has]; rw [Dt_get] at hat; injection hat with hat; injection hat with _ hat; subst hat))
  go_ret2
  first | exact ⟨⟨rfl, hwc⟩, rfl⟩ | exact ⟨rfl, rfl⟩ | exact rfl

/-! ### folder_Folder_Put: function 8 -/
-- NEEDS (*stylus/folder.Folder).Find
theorem folder_Folder_Put.nob (p : Value) (s : ByteArray) (v : Int) (w : World) (h : Nob w p) :
    Calls Try.prog 8 #[p, .string s, .int .i64 v] w fun e w' => e = .returned (.bool false) ∧ w' = w := by
  go_enter Try.func8, Try.ntmps8
  go_wp2_with (first
    | (go_at_call 12; (with_reducible refine (folder_Folder_Find.nob p s _ h).mono ?_); rintro e w2 ⟨rfl, rfl⟩)
    | (go_at_call 24; (with_reducible refine (folder_Folder_none.calls p _ h).mono ?_); rintro e w2 ⟨rfl, rfl⟩))
  go_ret
  exact ⟨rfl, rfl⟩
set_option maxHeartbeats 4000000 in
theorem folder_Folder_Put.calls (S : Nat → Prop) (b : Nat) (L0 L : Nms) (cs : List Chg) (s : ByteArray) (v : Int) (hs : s.size ≤ maxLen) (hv : (Lit.int .i64 v).wf = true) (hl : L.length ≤ 1000000) (hl2 : cs.length ≤ 1000000) (w : World) (h : Fo w S b L0 L cs) :
    Calls Try.prog 8 #[.pointer (some ⟨b, 0, none⟩), .string s, .int .i64 v] w fun e w' => e = .returned (.bool (!nmHas L s.data.toList)) ∧
      Fo w' (fun k => S k ∨ w.heap.size ≤ k) b L0 (if nmHas L s.data.toList = true then L else nmPut L s.data.toList v) (if nmHas L s.data.toList = true then cs else cs ++ [⟨false, ⟨#[]⟩, true, s, v⟩]) ∧ Kep w w' S := by
  have HF := Aside0.mk (folder_Folder_Find.calls S b L0 L cs s hs w h)
  have HM := Aside0.mk (folder_Folder_none.made b w h.cell)
  have HW := Aside0.mk (h.wide (S' := fun k => S k ∨ w.heap.size ≤ k) (fun k hk => .inl hk))
  have HD := Aside0.mk (folder_Folder_do.calls S b L0 L cs ⟨false, ⟨#[]⟩, true, s, v⟩ ⟨Nat.zero_le _, hs, hv⟩ hl hl2 w h)
  clear h hl hl2 hs
  cases hh : nmHas L s.data.toList with
  | true =>
    go_enter Try.func8, Try.ntmps8
    go_wp2_with (go_at_call 12; (with_reducible refine HF.out.mono ?_); rintro e w2 ⟨⟨rfl, _⟩, rfl⟩; rw [hh])
    go_ret
    exact ⟨rfl, HW.out, Kep.refl _ _⟩
  | false =>
    go_enter Try.func8, Try.ntmps8
    go_wp2_with (first
      | (go_at_call 12; (with_reducible refine HF.out.mono ?_); rintro e w2 ⟨⟨rfl, _⟩, rfl⟩; rw [hh])
      | (go_at_call 24; (with_reducible refine HM.out.mono ?_); rintro e w2 ⟨rfl, rfl⟩)
      | (go_at_call 25; (with_reducible refine HD.out.mono ?_); rintro e w3 ⟨⟨v3, rfl⟩, hf3, hk3⟩))
    go_ret
    exact ⟨rfl, hf3, hk3⟩

/-! ### folder_Folder_settle: function 26 -/
-- NEEDS (*stylus/folder.Folder).none
-- IMPORT Derived.Test.YtdlnbchgimmmoaaShelf
def zChg : Chg := ⟨false, ⟨#[]⟩, false, ⟨#[]⟩, 0⟩
def rdChg (xs : List Chg) (i : Int) : Chg := xs.getD i.toNat zChg
theorem at_Chg {w : World} {A : Option Addr} {n : Nat} {xs : List Chg} (h : Kd.C kChg w A n xs) (i : Int) (h0 : 0 ≤ i) (h1 : i < n) : ∃ ad, A = some ad ∧ w.cell? (ad.add (i.toNat * 5)) = some (.bool (rdChg xs i).f0) ∧
    w.cell? ⟨(ad.add (i.toNat * 5)).block, (ad.add (i.toNat * 5)).off + 1, none⟩ = some (.string (rdChg xs i).f1) ∧ w.cell? ⟨(ad.add (i.toNat * 5)).block, (ad.add (i.toNat * 5)).off + 2, none⟩ = some (.bool (rdChg xs i).f2) ∧
    w.cell? ⟨(ad.add (i.toNat * 5)).block, (ad.add (i.toNat * 5)).off + 3, none⟩ = some (.string (rdChg xs i).f3) ∧ w.cell? ⟨(ad.add (i.toNat * 5)).block, (ad.add (i.toNat * 5)).off + 4, none⟩ = some (.int .i64 (rdChg xs i).f4) := by
  obtain ⟨ad, c, e, _, hK, hc0⟩ := Kd.C_get h zChg i h0 h1
  have hc : ∀ j u, c[j]? = some u → w.cell? (ad.add (i.toNat * 5 + j)) = some u := hc0
  obtain rfl := kChg_open hK
  exact ⟨ad, e, hc 0 _ rfl, by rw [← add_field _ _ 1 (by omega)]; exact hc 1 _ rfl, by rw [← add_field _ _ 2 (by omega)]; exact hc 2 _ rfl, by rw [← add_field _ _ 3 (by omega)]; exact hc 3 _ rfl, by rw [← add_field _ _ 4 (by omega)]; exact hc 4 _ rfl⟩
theorem chg_cut (W : World) (A : Option Addr) (n c m : Nat) (h : m ≤ n) (hc : n ≤ c) : (Instr.slice 50 (.slice A n c) none (some (.int .i64 (m : Int))) none).run Try.prog W = .ok (.slice A m c) W := by
  have hu := Try.underlying50
  have h2 : m ≤ c := Nat.le_trans h hc
  have ha : Option.map (fun x : Addr => x.add 0) A = A := by cases A <;> simp [Addr.add]
  simp [Instr.slice, Instr.sliceBounds, Instr.sliceBound, asIntOf, hu, h, h2, ha]
theorem nm_clone (b : Nat) (L : Nms) (w : World) (h : Nm w b L) :
    Calls Try.prog 27 #[.map (some b)] w fun e w' => e = .returned (.map (some w.heap.size)) ∧ Nm w' w.heap.size L ∧ Nm w' b L ∧ Below w.heap.size w w' := by
  have hcon := AnyW.maps_Clone_owns Try.cloneM 9 (plainElem Try.prog 3) b L.length (Dt L) w h
  exact hcon
def nmRun (L : Nms) (cs : List Chg) : Nms := cs.foldl nmStep L
theorem nmRun_le (L : Nms) (cs : List Chg) : (nmRun L cs).length ≤ L.length + cs.length := by
  induction cs generalizing L with
  | nil => exact Nat.le_refl _
  | cons c r ih =>
    have h1 := ih (nmStep L c)
    have h2 := nmStep_le L c
    show (nmRun (nmStep L c) r).length ≤ _
    simp only [List.length_cons]
    omega
theorem nmRun_snoc (L : Nms) (cs : List Chg) (i : Nat) (h : i < cs.length) : nmRun L (cs.take (i + 1)) = nmStep (nmRun L (cs.take i)) (rdChg cs (i : Int)) := by
  rw [List.take_succ_eq_append_getElem h]
  unfold nmRun
  rw [List.foldl_append]
  simp [rdChg, List.getD_eq_getElem?_getD, List.getElem?_eq_getElem h]
theorem rdChg_mem (x : List Chg) (i : Nat) (h : i < x.length) : rdChg x (i : Int) ∈ x := by
  simp [rdChg, List.getD_eq_getElem?_getD, List.getElem?_eq_getElem h]
set_option maxHeartbeats 8000000 in
set_option maxRecDepth 100000 in
theorem folder_Folder_settle.calls (S : Nat → Prop) (b : Nat) (L0 L : Nms) (cs : List Chg) (n : Nat) (hn' : n ≤ cs.length) (hl : L0.length + cs.length ≤ 1000000) (w : World) (h : Fo w S b L0 L cs) :
    Calls Try.prog 26 #[.pointer (some ⟨b, 0, none⟩), .int .i64 (n : Int)] w fun e w' => (∃ v, e = .returned v) ∧ Fo w' (fun k => S k ∨ w.heap.size ≤ k) b (nmRun L0 (cs.take n)) (nmRun L0 (cs.take n)) [] ∧ Kep w w' S := by
  have huF := Try.underlying52
  have huC := Try.underlying60
  obtain ⟨kb, nb, A, cap, hb, ⟨Sb, Skb, Snb⟩, hne, hk, hn, hR, hok⟩ := h
  have hcap : cs.length ≤ cap := (Kd.R_reads' hR).2.1
  have hsl := fun W => chg_cut W A cs.length cap n hn' hcap
  have c2 := (blk_cell hb 2).trans rfl
  have hn6 : n ≤ 1000000 := by omega
  have HL := Aside0.mk hl
  have HN' := Aside0.mk hn'
  have HK := Aside0.mk (show Nm w kb (nmRun L0 (cs.take 0)) by rw [List.take_zero]; exact hk)
  have HN := Aside0.mk hn
  have KG := Aside0.mk hb
  have HR := Aside0.mk hR
  have HP := Aside0.mk (Kep.refl w S)
  have HNE := Aside0.mk hne
  have HS := Aside0.mk (And.intro Sb (And.intro Skb Snb))
  have HOK := Aside0.mk hok
  clear hl hk hn hR hb hne Sb Skb Snb hok hn' hcap
  go_enter Try.func26, Try.ntmps26
  go_wp2_with fail
  go_loopw [13] (fun x wr => ∃ i : Nat, x = .int .i64 i ∧ i ≤ n ∧ Aside0 (wr.heap[b]? = some (.cells #[.map (some kb), .map (some nb), .slice A cs.length cap, .bool true] 52 (0, 0))) ∧ Aside0 (Nm wr kb (nmRun L0 (cs.take i))) ∧ Aside0 (Nm wr nb L) ∧ Aside0 (Kd.R kChg 60 wr 0 S (.slice A cs.length cap) cs) ∧ Aside0 (Kep w wr S)) (fun x _ => n - (intOf x).toNat)
  case atStart => exact ⟨0, rfl, Nat.zero_le _, KG, HK, HN, HR, HP⟩
  case round =>
    obtain ⟨i, rfl, hi, KG, HK, HN, HR, HP⟩ := hrel
    by_cases q : i < n
    · have p0 : (0 : Int) ≤ (i : Int) := Int.natCast_nonneg _
      have q0 : (i : Int) < (n : Int) := by omega
      have q1 : (i : Int) < ((cs.length : Nat) : Int) := by have := HN'.out; omega
      obtain ⟨ad0, e0, hx0, hx1, hx2, hx3, hx4⟩ := at_Chg (Kd.R_reads' HR.out).2.2 (i : Int) p0 q1
      cases e0
      simp only [Int.toNat_natCast] at hx0 hx1 hx2 hx3 hx4
      have HX := Aside0.mk (nmRun_snoc L0 cs i (by have := HN'.out; omega))
      have HC := Aside0.mk (HOK.out _ (rdChg_mem cs i (by have := HN'.out; omega)))
      have HLL := Aside0.mk (show (nmRun L0 (cs.take i)).length ≤ 1000000 by have h1 := nmRun_le L0 (cs.take i); have h2 := HL.out; have h3 := List.length_take_le i cs; have h4 := HN'.out; omega)
      clear q1
      generalize rdChg cs (i : Int) = c at *
      have KX := Aside0.mk (heap_alloc_new wr (.cells #[.bool c.f0, .string c.f1, .bool c.f2, .string c.f3, .int .i64 c.f4] 60))
      have KG1 := Aside0.mk (blk_alloc KG.out (.cells #[.bool c.f0, .string c.f1, .bool c.f2, .string c.f3, .int .i64 c.f4] 60))
      have HK1 := Aside0.mk (HK.out.alloc (.cells #[.bool c.f0, .string c.f1, .bool c.f2, .string c.f3, .int .i64 c.f4] 60))
      have HN1 := Aside0.mk (HN.out.alloc (.cells #[.bool c.f0, .string c.f1, .bool c.f2, .string c.f3, .int .i64 c.f4] 60))
      have HR1 := Aside0.mk (Kd.R_alloc HR.out (.cells #[.bool c.f0, .string c.f1, .bool c.f2, .string c.f3, .int .i64 c.f4] 60))
      have HP1 := Aside0.mk (HP.out.alloc (.cells #[.bool c.f0, .string c.f1, .bool c.f2, .string c.f3, .int .i64 c.f4] 60))
      clear KG HK HN HR HP
      go_upto_region 3 with fail
      refine start_ (n := 6) (S := fun w' => w'.cell? ⟨b, 0, none⟩ = some (.map (some kb)) ∧ w'.cell? ⟨wr.heap.size, 0, none⟩ = some (.bool c.f0) ∧ w'.cell? ⟨wr.heap.size, 1, none⟩ = some (.string c.f1) ∧ w'.cell? ⟨wr.heap.size, 2, none⟩ = some (.bool c.f2) ∧ w'.cell? ⟨wr.heap.size, 3, none⟩ = some (.string c.f3) ∧ w'.cell? ⟨wr.heap.size, 4, none⟩ = some (.int .i64 c.f4)) (ds := []) #[false, false, false, false, false, false] (by kernel_rfl) rfl rfl ⟨(blk_cell (blk_drew KG1.out) 0).trans rfl, (blk_cell (blk_drew KX.out) 0).trans rfl, (blk_cell (blk_drew KX.out) 1).trans rfl, (blk_cell (blk_drew KX.out) 2).trans rfl, (blk_cell (blk_drew KX.out) 3).trans rfl, (blk_cell (blk_drew KX.out) 4).trans rfl⟩ (fun hHeld => ?_)
      refine pure_ (i := 0) (N := some 17) (v := ?_) (a' := ?_) #[true, false, false, false, false, false] rfl rfl (by kernel_rfl) (fun _ _ _ h => h) (Or.inl ⟨by rfl, ?_⟩) ?_ ?_
      rotate_left
      · intro w'
        go_simp
        with_reducible rfl
      rotate_left
      · simp only [Act.put, List.setIfInBounds_toArray, List.set_cons_zero, List.set_cons_succ, i64_w, i32_w]
        rfl
      refine pure_ (i := 1) (N := some 18) (v := ?_) (a' := ?_) #[true, true, false, false, false, false] rfl rfl (by kernel_rfl) (fun _ _ _ h => h) (Or.inl ⟨by rfl, ?_⟩) ?_ ?_
      rotate_left
      · intro w'
        go_simp
        with_reducible rfl
      rotate_left
      · simp only [Act.put, List.setIfInBounds_toArray, List.set_cons_zero, List.set_cons_succ, i64_w, i32_w]
        rfl
      refine pure_ (i := 2) (N := some 19) (v := ?_) (a' := ?_) #[true, true, true, false, false, false] rfl rfl (by kernel_rfl) (fun _ _ _ h => h) (Or.inl ⟨by rfl, ?_⟩) ?_ ?_
      rotate_left
      · intro w'
        go_simp
        with_reducible rfl
      rotate_left
      · simp only [Act.put, List.setIfInBounds_toArray, List.set_cons_zero, List.set_cons_succ, i64_w, i32_w]
        rfl
      refine take_ (i := 3) (N := some 20) (v := ?_) (a' := ?_) #[true, true, true, true, false, false] rfl rfl (by kernel_rfl) (fun _ _ _ h => h) (Or.inl ⟨by rfl, ?_⟩) hHeld ?_ ?_
      rotate_left
      · rintro w' ⟨s0, s1, s2, s3, s4, s5⟩
        go_simp
        with_reducible rfl
      rotate_left
      · simp only [Act.put, List.setIfInBounds_toArray, List.set_cons_zero, List.set_cons_succ, i64_w, i32_w]
        rfl
      refine take_ (i := 4) (N := some 21) (v := ?_) (a' := ?_) #[true, true, true, true, true, false] rfl rfl (by kernel_rfl) (fun _ _ _ h => h) (Or.inl ⟨by rfl, ?_⟩) hHeld ?_ ?_
      rotate_left
      · rintro w' ⟨s0, s1, s2, s3, s4, s5⟩
        go_simp
        with_reducible rfl
      rotate_left
      · simp only [Act.put, List.setIfInBounds_toArray, List.set_cons_zero, List.set_cons_succ, i64_w, i32_w]
        rfl
      refine one_ (i := 5) (N := some 22) #[true, true, true, true, true, true] rfl rfl (by kernel_rfl) (by decide) (fun K hK => ?_)
      refine goes_ Try.func41 (by kernel_rfl) rfl #[.map (some kb), .agg #[.bool c.f0, .string c.f1, .bool c.f2, .string c.f3, .int .i64 c.f4]] (by rfl) rfl rfl (by (try simp only [List.map_toArray, List.map_cons, List.map_nil]); first | done | rfl) ?_
      with_reducible refine (folder_names_apply.calls kb (nmRun L0 (cs.take i)) c HC.out HLL.out _ HK1.out.drew).mono ?_
      rintro e w5 ⟨⟨v9, rfl⟩, hk5, hg5⟩
      refine ⟨_, rfl, ?_⟩
      have HR := Aside0.mk (Kd.R_mono (Kd.R_grown (Kd.R_drew (R_off HK1.out HR1.out)) hg5 (fun k hk e => hk.2 (Option.some.inj e))) (fun k hk => hk.1))
      have HN := Aside0.mk (World.ownsMap.kept HN1.out.drew hg5 (fun e => HNE.out (Option.some.inj e).symm))
      have KG := Aside0.mk (blk_grown (blk_drew KG1.out) hg5 (fun e => nm_blk HK1.out KG1.out (Option.some.inj e)))
      have KX5 := Aside0.mk (blk_grown (blk_drew KX.out) hg5 (fun e => nm_blk HK1.out KX.out (Option.some.inj e)))
      have HP := Aside0.mk (Kep.of_grown hg5 (HP1.out.drew) (fun k e => .inl (by rw [← Option.some.inj e]; exact HS.out.2.1)))
      have HK := Aside0.mk hk5
      clear hk5 hg5 KG1 HK1 HN1 HR1 HP1
      refine hK.out _ _ ⟨(blk_cell (KG.out) 0).trans rfl, (blk_cell (KX5.out) 0).trans rfl, (blk_cell (KX5.out) 1).trans rfl, (blk_cell (KX5.out) 2).trans rfl, (blk_cell (KX5.out) 3).trans rfl, (blk_cell (KX5.out) 4).trans rfl⟩ (fun hHeld => ?_)
      clear hK K
      refine norm_ (a' := ?_) ?_ ?_
      rotate_left
      · show Act.put _ (some 22) _ = _
        simp only [Act.put, List.setIfInBounds_toArray, List.set_cons_zero, List.set_cons_succ, i64_w, i32_w]
        rfl
      refine done_ (by kernel_rfl) ?_
      go_wp2_with fail
      go_roundw
      case rel => exact ⟨i + 1, by go_num, by omega, KG, ⟨by rw [HX.out]; exact HK.out⟩, HN, HR, HP⟩
      case measure => simp [intOf]; omega
    · obtain rfl : i = n := by omega
      have c0 := (blk_cell KG.out 0).trans rfl
      have hcl := Aside0.mk (nm_clone kb _ wr HK.out)
      go_wp2_with (go_at_call 27; (with_reducible refine hcl.out.mono ?_); clear hcl; rintro e w5 ⟨rfl, hn5, hk5, hb5⟩; have HN5 := Aside0.mk hn5; have HK5 := Aside0.mk hk5; have HB5 := Aside0.mk hb5; have KG5 := Aside0.mk (blk_below KG.out hb5); have s1 := (blk_cell KG5.out 1).trans rfl; have s2 := (blk_cell KG5.out 2).trans rfl; have f1 := blk_frozen KG5.out 1; have f2 := blk_frozen KG5.out 2; clear hn5 hk5 hb5)
      go_end0
      have hbw : b < wr.heap.size := blk_lt KG.out
      have hkw := HK.out.lt
      have hP5 := (HP.out).below HB5.out
      have hws := HP.out.k.1
      have e6 := blk_put (cs' := #[.map (some kb), .map (some wr.heap.size), .slice A cs.length cap, .bool true]) KG5.out 1 (.map (some wr.heap.size)) rfl
      have e7 := blk_put (cs' := #[.map (some kb), .map (some wr.heap.size), .slice none 0 0, .bool true]) e6 2 (.slice none 0 0) rfl
      refine ⟨⟨_, rfl⟩, ⟨kb, wr.heap.size, none, 0, e7, ⟨.inl HS.out.1, .inl HS.out.2.1, .inr hws⟩, by omega, ?_, ?_, Kd.R_nil _ _ _ _ _, fun x hx => by simp at hx⟩, ?_⟩
      · exact (HK5.out.setCell (a := ⟨b, 1, none⟩) (fun e => nm_blk HK.out KG.out e.symm) _).setCell (a := ⟨b, 2, none⟩) (fun e => nm_blk HK.out KG.out e.symm) _
      · exact (HN5.out.setCell (a := ⟨b, 1, none⟩) (fun e => by have h : wr.heap.size = b := e; omega) _).setCell (a := ⟨b, 2, none⟩) (fun e => by have h : wr.heap.size = b := e; omega) _
      · exact (hP5.setCell (p := ⟨b, 1, none⟩) (.inl HS.out.1) _).setCell (p := ⟨b, 2, none⟩) (.inl HS.out.1) _

/-! ### folder_Folder_Sync: function 9 -/
-- NEEDS (*stylus/folder.Folder).settle
theorem folder_Folder_Sync.nob (p : Value) (w : World) (h : Nob w p) :
    Calls Try.prog 9 #[p] w fun e w' => (∃ v, e = .returned v) ∧ w' = w := by
  go_enter Try.func9, Try.ntmps9
  go_wp2_with (go_at_call 24; (with_reducible refine (folder_Folder_none.calls p _ h).mono ?_); rintro e w2 ⟨rfl, rfl⟩)
  go_end0
  exact ⟨⟨_, rfl⟩, rfl⟩
theorem folder_Folder_Sync.calls (S : Nat → Prop) (b : Nat) (L0 L : Nms) (cs : List Chg) (hl : L0.length + cs.length ≤ 1000000) (w : World) (h : Fo w S b L0 L cs) :
    Calls Try.prog 9 #[.pointer (some ⟨b, 0, none⟩)] w fun e w' => (∃ v, e = .returned v) ∧ Fo w' (fun k => S k ∨ w.heap.size ≤ k) b (nmRun L0 cs) (nmRun L0 cs) [] ∧ Kep w w' S := by
  have huF := Try.underlying52
  have hm := folder_Folder_none.made b w h.cell
  have hs := folder_Folder_settle.calls S b L0 L cs cs.length (Nat.le_refl _) hl w h
  rw [List.take_length] at hs
  have HS := Aside0.mk hs
  obtain ⟨kb, nb, A, cap, hb, _⟩ := h
  have c2 := (blk_cell hb 2).trans rfl
  clear hb hs
  go_enter Try.func9, Try.ntmps9
  go_wp2_with (first
    | (go_at_call 24; (with_reducible refine hm.mono ?_); clear hm; rintro e w2 ⟨rfl, rfl⟩)
    | (go_at_call 26; (with_reducible refine HS.out.mono ?_); rintro e w3 ⟨⟨v3, rfl⟩, hf3, hk3⟩))
  go_end0
  exact ⟨⟨_, rfl⟩, hf3, hk3⟩

/-! ### folder_Folder_Move: function 10 -/
-- NEEDS (*stylus/folder.Folder).Put
theorem folder_Folder_Move.nob (p : Value) (s t : ByteArray) (w : World) (h : Nob w p) :
    Calls Try.prog 10 #[p, .string s, .string t] w fun e w' => e = .returned (.bool false) ∧ w' = w := by
  go_enter Try.func10, Try.ntmps10
  go_wp2_with (go_at_call 12; (with_reducible refine (folder_Folder_Find.nob p s _ h).mono ?_); rintro e w2 ⟨rfl, rfl⟩)
  go_ret
  exact ⟨rfl, rfl⟩
def mvL (L : Nms) (s t : List UInt8) : Nms := if nmHas L s = true ∧ s ≠ t then nmPut (nmDel L s) t (nmGet L s) else L
def mvC (L : Nms) (cs : List Chg) (s t : ByteArray) : List Chg := if nmHas L s.data.toList = true ∧ s.data.toList ≠ t.data.toList then cs ++ [⟨true, s, true, t, nmGet L s.data.toList⟩] else cs
set_option maxHeartbeats 4000000 in
theorem folder_Folder_Move.calls (S : Nat → Prop) (b : Nat) (L0 L : Nms) (cs : List Chg) (s t : ByteArray) (hs : s.size ≤ maxLen) (ht : t.size ≤ maxLen) (hl : L.length ≤ 1000000) (hl2 : cs.length ≤ 1000000) (w : World) (h : Fo w S b L0 L cs) :
    Calls Try.prog 10 #[.pointer (some ⟨b, 0, none⟩), .string s, .string t] w fun e w' => e = .returned (.bool (nmHas L s.data.toList)) ∧
      Fo w' (fun k => S k ∨ w.heap.size ≤ k) b L0 (mvL L s.data.toList t.data.toList) (mvC L cs s t) ∧ Kep w w' S := by
  have HF := Aside0.mk (folder_Folder_Find.calls S b L0 L cs s hs w h)
  have HW := Aside0.mk (h.wide (S' := fun k => S k ∨ w.heap.size ≤ k) (fun k hk => .inl hk))
  have HD := Aside0.mk (fun hv => folder_Folder_do.calls S b L0 L cs ⟨true, s, true, t, nmGet L s.data.toList⟩ ⟨hs, ht, hv⟩ hl hl2 w h)
  clear h hl hl2 hs ht
  cases hh : nmHas L s.data.toList with
  | false =>
    go_enter Try.func10, Try.ntmps10
    go_wp2_with (go_at_call 12; (with_reducible refine HF.out.mono ?_); rintro e w2 ⟨⟨rfl, _⟩, rfl⟩; rw [hh])
    go_ret
    exact ⟨rfl, by unfold mvL mvC; rw [if_neg (fun h => by rw [hh] at h; exact absurd h.1 Bool.false_ne_true), if_neg (fun h => by rw [hh] at h; exact absurd h.1 Bool.false_ne_true)]; exact HW.out, Kep.refl _ _⟩
  | true =>
    by_cases he : s.toList = t.toList
    · have hb : (s.toList == t.toList) = true := beq_iff_eq.2 he
      have he' : s.data.toList = t.data.toList := by rw [← ByteArray.toList_eq, ← ByteArray.toList_eq]; exact he
      have HE := Aside0.mk he'
      clear he he'
      go_enter Try.func10, Try.ntmps10
      go_wp2_with (go_at_call 12; (with_reducible refine HF.out.mono ?_); rintro e w2 ⟨⟨rfl, _⟩, rfl⟩; rw [hh])
      go_ret
      exact ⟨rfl, by unfold mvL mvC; rw [if_neg (fun h => h.2 HE.out), if_neg (fun h => h.2 HE.out)]; exact HW.out, Kep.refl _ _⟩
    · have hb : (s.toList == t.toList) = false := beq_eq_false_iff_ne.2 he
      have he' : s.data.toList ≠ t.data.toList := fun e => he (by rw [ByteArray.toList_eq, ByteArray.toList_eq]; exact e)
      have HE := Aside0.mk he'
      clear he he'
      go_enter Try.func10, Try.ntmps10
      go_wp2_with (first
        | (go_at_call 12; (with_reducible refine HF.out.mono ?_); rintro e w2 ⟨⟨rfl, hwv⟩, rfl⟩; rw [hh]; have HV := Aside0.mk hwv; clear hwv)
        | (go_at_call 25; (with_reducible refine (HD.out HV.out).mono ?_); rintro e w3 ⟨⟨v3, rfl⟩, hf3, hk3⟩))
      go_ret
      exact ⟨rfl, by unfold mvL mvC; rw [if_pos ⟨hh, HE.out⟩, if_pos ⟨hh, HE.out⟩]; exact hf3, hk3⟩

/-! ### folder_Folder_Crash: function 11 -/
-- NEEDS (*stylus/folder.Folder).settle
theorem folder_Folder_Crash.nob (p : Value) (c : Int) (w : World) (h : Nob w p) :
    Calls Try.prog 11 #[p, .int .i64 c] w fun e w' => e = .returned (.int .i64 0) ∧ w' = w := by
  go_enter Try.func11, Try.ntmps11
  go_wp2_with (go_at_call 24; (with_reducible refine (folder_Folder_none.calls p _ h).mono ?_); rintro e w2 ⟨rfl, rfl⟩)
  go_ret
  exact ⟨rfl, rfl⟩
def crI (c : Int) (m : Nat) : Int := if Int.tmod c ((m : Int) + 1) < 0 then Int.tmod c ((m : Int) + 1) + ((m : Int) + 1) else Int.tmod c ((m : Int) + 1)
theorem crI_tmod (c : Int) (m : Nat) : -(m : Int) ≤ Int.tmod c ((m : Int) + 1) ∧ Int.tmod c ((m : Int) + 1) ≤ (m : Int) := by
  rcases Int.le_total 0 c with h | h
  · have h1 := Int.tmod_lt_of_pos c (show (0 : Int) < (m : Int) + 1 by omega)
    have h2 := Int.tmod_nonneg ((m : Int) + 1) h
    omega
  · have h1 := Int.tmod_lt_of_pos (-c) (show (0 : Int) < (m : Int) + 1 by omega)
    have h2 := Int.tmod_nonneg ((m : Int) + 1) (show 0 ≤ -c by omega)
    rw [Int.neg_tmod] at h1 h2
    omega
theorem crI_le (c : Int) (m : Nat) : 0 ≤ crI c m ∧ crI c m ≤ (m : Int) := by
  have h := crI_tmod c m
  unfold crI
  split <;> omega
theorem settle_int (S : Nat → Prop) (b : Nat) (L0 L : Nms) (cs : List Chg) (k : Int) (h0 : 0 ≤ k) (h1 : k ≤ (cs.length : Int)) (hl : L0.length + cs.length ≤ 1000000) (w : World) (h : Fo w S b L0 L cs) :
    Calls Try.prog 26 #[.pointer (some ⟨b, 0, none⟩), .int .i64 k] w fun e w' => (∃ v, e = .returned v) ∧ Fo w' (fun k => S k ∨ w.heap.size ≤ k) b (nmRun L0 (cs.take k.toNat)) (nmRun L0 (cs.take k.toNat)) [] ∧ Kep w w' S := by
  obtain ⟨n, rfl⟩ := Int.eq_ofNat_of_zero_le h0
  exact folder_Folder_settle.calls S b L0 L cs n (by omega) hl w h
set_option maxHeartbeats 4000000 in
theorem folder_Folder_Crash.calls (S : Nat → Prop) (b : Nat) (L0 L : Nms) (cs : List Chg) (c : Int) (hl : L0.length + cs.length ≤ 1000000) (w : World) (h : Fo w S b L0 L cs) :
    Calls Try.prog 11 #[.pointer (some ⟨b, 0, none⟩), .int .i64 c] w fun e w' => e = .returned (.int .i64 (crI c cs.length)) ∧ Fo w' (fun k => S k ∨ w.heap.size ≤ k) b (nmRun L0 (cs.take (crI c cs.length).toNat)) (nmRun L0 (cs.take (crI c cs.length).toNat)) [] ∧ Kep w w' S := by
  have huF := Try.underlying52
  have hm := folder_Folder_none.made b w h.cell
  have hr := crI_le c cs.length
  have hs := settle_int S b L0 L cs (crI c cs.length) hr.1 hr.2 hl w h
  obtain ⟨kb, nb, A, cap, hb, _⟩ := h
  have c2 := (blk_cell hb 2).trans rfl
  have ht := crI_tmod c cs.length
  have hw : wrap64 ((cs.length : Int) + 1) = (cs.length : Int) + 1 := by unfold wrap64; omega
  have hz : ((cs.length : Int) + 1 = 0) = False := eq_false (by omega)
  clear hb hr
  by_cases hneg : Int.tmod c ((cs.length : Int) + 1) < 0
  · have hw2 : wrap64 (Int.tmod c ((cs.length : Int) + 1) + ((cs.length : Int) + 1)) = Int.tmod c ((cs.length : Int) + 1) + ((cs.length : Int) + 1) := by unfold wrap64; omega
    have hd : decide (Int.tmod c ((cs.length : Int) + 1) < 0) = true := decide_eq_true hneg
    have hcr : crI c cs.length = Int.tmod c ((cs.length : Int) + 1) + ((cs.length : Int) + 1) := if_pos hneg
    have HS := Aside0.mk hs
    have HCR := Aside0.mk hcr
    have HW3 := Aside0.mk (show wrap64 (crI c cs.length) = crI c cs.length by have := crI_le c cs.length; unfold wrap64; omega)
    clear hs hcr hneg ht hl
    go_enter Try.func11, Try.ntmps11
    go_wp2_with (first
      | (go_at_call 24; (with_reducible refine hm.mono ?_); clear hm; rintro e w2 ⟨rfl, rfl⟩)
      | (go_at_call 26; rw [← HCR.out]; (with_reducible refine HS.out.mono ?_); rintro e w3 ⟨⟨v3, rfl⟩, hf3, hk3⟩))
    go_ret
    exact ⟨by show Ending.returned (.int .i64 (wrap64 _)) = _; rw [HW3.out], hf3, hk3⟩
  · have hd : decide (Int.tmod c ((cs.length : Int) + 1) < 0) = false := decide_eq_false hneg
    have hcr : crI c cs.length = Int.tmod c ((cs.length : Int) + 1) := if_neg hneg
    have HS := Aside0.mk hs
    have HCR := Aside0.mk hcr
    clear hs hcr hneg ht hl
    go_enter Try.func11, Try.ntmps11
    go_wp2_with (first
      | (go_at_call 24; (with_reducible refine hm.mono ?_); clear hm; rintro e w2 ⟨rfl, rfl⟩)
      | (go_at_call 26; rw [← HCR.out]; (with_reducible refine HS.out.mono ?_); rintro e w3 ⟨⟨v3, rfl⟩, hf3, hk3⟩))
    go_ret
    exact ⟨rfl, hf3, hk3⟩

end Go.Proofs.Ytdlnbchgimmmoaa.P
