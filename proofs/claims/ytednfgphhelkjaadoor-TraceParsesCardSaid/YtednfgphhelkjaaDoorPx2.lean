import Derived.Test.YtednfgphhelkjaaDoorPx0
import Derived.Laws.RangeAny
import Derived.Lib.Bytealg
import Derived.OwnWalk
import Derived.Test.YtednfgphhelkjaaDoorShelf
namespace Go.Proofs.YtednfgphhelkjaaDoor.P
open Go.RowKit Go.Proofs.YtednfgphhelkjaaDoorW.PrintWords Go.Proofs.YtednfgphhelkjaaDoorW.PrintLast Go.Proofs.YtednfgphhelkjaaDoorW.PrintMore
attribute [local go_sem] max2_int min2_int max_two min_two max_three min_three max_four min_four   -- for this text's walks alone
set_option linter.unusedVariables false
set_option linter.unusedSimpArgs false
/-! ### strings_Join: function 29 -/
def strings_Join.f (l : List ByteArray) (sep : ByteArray) : Option ByteArray :=
 if l.length ≤ 1000000 ∧ (Lib.join (l.map (·.data.toList)) sep.data.toList).length ≤ 1099511627776 then some ⟨(Lib.join (l.map (·.data.toList)) sep.data.toList).toArray⟩ else none
theorem join_at {w : World} {A : Option Addr} {l : List ByteArray} (h : Kd.C Kd.string w A l.length l) (hp : 0 < l.length) : ∃ bk o, A = some ⟨bk, o, none⟩ ∧ bk < w.heap.size ∧ ∀ (j : Nat) x, l[j]? = some x → w.cell? ⟨bk, o + j, none⟩ = some (.string x) := by
 obtain ⟨_, _, h3⟩ := h
 obtain ⟨ad, rfl, hc⟩ := h3 hp
 have key : ∀ (j : Nat) x, l[j]? = some x → w.cell? (ad.add j) = some (.string x) := by
  intro j x hx
  obtain ⟨c, hcl, hR, hcc⟩ := hc j x hx
  obtain rfl : c = [.string x] := hR
  have := hcc 0 _ rfl
  have e : Kd.string.sz = 1 := rfl
  rwa [e, Nat.mul_one, Nat.add_zero] at this
 have h0 := key 0 _ (List.getElem?_eq_getElem hp)
 obtain ⟨bk, o, sp⟩ := ad
 have hsp : sp = none := by
  cases sp with
  | none => rfl
  | some s =>
   exfalso
   simp only [Addr.add, if_pos] at h0
   unfold World.cell? at h0
   split at h0
   ·simp at h0
   ·cases h0
 subst hsp
 refine ⟨bk, o, rfl, ?_, fun j x hx => ?_⟩
 ·rcases Nat.lt_or_ge bk w.heap.size with q | q
  ·exact q
  ·exfalso
   simp only [Addr.add, if_pos] at h0
   unfold World.cell? at h0
   rw [Array.getElem?_eq_none (by exact q)] at h0
   cases h0
 ·have := key j x hx
  rcases Nat.eq_zero_or_pos j with rfl | hj
  ·exact this
  ·unfold Addr.add at this
   rw [if_neg (by omega)] at this
   exact this
theorem strings_Join.calls (A0 : Option Addr) (c0 : Nat) (l0 : List ByteArray) (a1 : ByteArray) (r : ByteArray) (w : World) (hr0 : Kd.C Kd.string w A0 l0.length l0) (hc0 : l0.length ≤ c0) (h : strings_Join.f l0 a1 = some r) :
  Calls Tryd.prog 29 #[.slice A0 l0.length c0, .string a1] w fun e w' => e = .returned (.string r) ∧ Below w.heap.size w w' := by
 unfold strings_Join.f at h
 split at h
 ·rename_i hb
  obtain rfl := Option.some.inj h
  rcases Nat.eq_zero_or_pos l0.length with hz | hp
  ·obtain rfl := List.length_eq_zero_iff.mp hz
   refine (Tryd.strings_Join_none A0 c0 a1 w).mono ?_
   rintro e w' ⟨rfl, rfl⟩
   exact ⟨rfl, Below.refl _ _⟩
  ·obtain ⟨bk, o, rfl, hlt, hcells⟩ := join_at hr0 hp
   exact Tryd.strings_Join bk o c0 l0 a1 w hcells hlt (by omega) hc0 (by omega)
 ·cases h
/-! ### strings_Split: function 17 -/
def spl (c : UInt8) : List UInt8 → List UInt8 → List (List UInt8)
 | acc, [] => [acc]
 | acc, b :: l => if b = c then acc :: spl c [] l else spl c (acc ++ [b]) l
theorem spl_len (c : UInt8) : ∀ (l acc : List UInt8), (spl c acc l).length = l.count c + 1
 | [], _ => rfl
 | b :: l, acc => by
  rw [spl]
  split
  ·rename_i h
   subst h
   rw [List.length_cons, spl_len, List.count_cons_self]
  ·rename_i h
   rw [spl_len, List.count_cons_of_ne h]
theorem spl_idx (c b : UInt8) (l : List UInt8) : Lib.indexByte (b :: l) c = if b = c then 0 else if Lib.indexByte l c = -1 then -1 else Lib.indexByte l c + 1 := by
 rw [Lib.indexByte]
 simp only [beq_iff_eq]
theorem spl_ge (c : UInt8) : ∀ l : List UInt8, -1 ≤ Lib.indexByte l c ∧ Lib.indexByte l c < l.length
 | [] => by simp [Lib.indexByte]
 | b :: l => by
  have h := spl_ge c l
  rw [spl_idx, List.length_cons]
  split
  ·omega
  ·split <;> omega
theorem spl_no (c : UInt8) : ∀ (l acc : List UInt8), Lib.indexByte l c = -1 → spl c acc l = [acc ++ l] ∧ l.count c = 0
 | [], acc, _ => ⟨by rw [spl, List.append_nil], rfl⟩
 | b :: l, acc, h => by
  have hr := spl_ge c l
  rw [spl_idx] at h
  by_cases e : b = c
  ·rw [if_pos e] at h; omega
  rw [if_neg e] at h
  have h2 : Lib.indexByte l c = -1 := by
   split at h
   ·assumption
   ·omega
  obtain ⟨h3, h4⟩ := spl_no c l (acc ++ [b]) h2
  exact ⟨by rw [spl, if_neg e, h3, List.append_assoc]; rfl, by rw [List.count_cons_of_ne e, h4]⟩
theorem spl_at (c : UInt8) : ∀ (l acc : List UInt8) (i : Nat), Lib.indexByte l c = (i : Int) → spl c acc l = (acc ++ l.take i) :: spl c [] (l.drop (i + 1))
 | [], acc, i, h => by rw [Lib.indexByte] at h; omega
 | b :: l, acc, i, h => by
  have hr := spl_ge c l
  rw [spl_idx] at h
  by_cases e : b = c
  ·rw [if_pos e] at h
   obtain rfl : i = 0 := by omega
   rw [spl, if_pos e, List.take_zero, List.append_nil]
   rfl
  rw [if_neg e] at h
  obtain ⟨j, rfl⟩ : ∃ j, i = j + 1 := by
   rcases i with _ | j
   ·split at h <;> omega
   ·exact ⟨j, rfl⟩
  have h2 : Lib.indexByte l c = (j : Int) := by
   split at h
   ·omega
   ·omega
  rw [spl, if_neg e, spl_at c l (acc ++ [b]) j h2, List.append_assoc]
  rfl
def spB (c : UInt8) (s : ByteArray) : List ByteArray := (spl c [] s.data.toList).map fun l => ⟨l.toArray⟩
theorem spB_len (c : UInt8) (s : ByteArray) : (spB c s).length = s.data.toList.count c + 1 := by unfold spB; rw [List.length_map, spl_len]
theorem spB_no (c : UInt8) (s : ByteArray) (h : Lib.indexByte s.data.toList c = -1) : spB c s = [s] := by
 unfold spB
 rw [(spl_no c _ [] h).1]
 simp
theorem spB_at (c : UInt8) (s : ByteArray) (i : Nat) (h : Lib.indexByte s.data.toList c = (i : Int)) : spB c s = s.extract 0 i :: spB c (s.extract (i + 1) s.size) := by
 have e : ∀ a b, (s.extract a b).data.toList = (s.data.toList.take b).drop a := fun a b => by simp [List.extract_eq_take_drop, List.drop_take]
 unfold spB
 have e2 : (s.extract (i + 1) s.size).data.toList = s.data.toList.drop (i + 1) := by rw [e, List.take_of_length_le (by rw [data_length]; exact Nat.le_refl _)]
 rw [spl_at c _ [] i h, List.map_cons, e2]
 congr 1
 apply ByteArray.ext
 apply Array.ext'
 rw [e 0 i]
 simp
def strings_Split.f (a0 a1 : ByteArray) : Option (List ByteArray) := if a0.size ≤ 1000000 then (match a1.data.toList with | [c] => some (spB c a0) | _ => none) else none
theorem split_w {x : Int} (h0 : 0 ≤ x) (h1 : x ≤ 10000000) : wrap64 x = x := by unfold wrap64; omega
theorem split_info : (Tryd.prog.info? 9).map (fun i => (i.zero, i.size, i.bytes)) = some (some (.string ⟨#[]⟩), 1, 16) := by kernel_rfl
theorem split_made (n : Nat) : (madeCells #[Value.string ⟨#[]⟩] n).toList = encs Value.string (List.replicate n ⟨#[]⟩) := by
 rw [toList_madeCells_one]
 simp [encs]
structure SpSt (w : World) (g n : Nat) (L : List ByteArray) (W : World) : Prop where
 row : W.ownsRow w.heap.size 9 1 (.slice (some ⟨g, 0, none⟩) n n) n (encs Value.string L)
 len : L.length = n
 low : Below w.heap.size w W
theorem SpSt.put {w W : World} {g n : Nat} {L : List ByteArray} (h : SpSt w g n L W) (i : Nat) (x : ByteArray) : SpSt w g n (L.set i x) (W.setCell ⟨g, i, none⟩ (.string x)) := by
 obtain ⟨h1, h2, h3⟩ := h
 subst h2
 have h4 := own_put_of (enc := Value.string) h1 (i : Int) x
 rw [Int.toNat_natCast] at h4
 refine ⟨by rw [List.length_set] at h4; exact h4, by rw [List.length_set], h3.setCell (p := ⟨g, i, none⟩) ?_ _⟩
 exact own_base h1 g rfl
set_option maxHeartbeats 16000000 in
set_option maxRecDepth 100000 in
theorem split_gen (c : UInt8) (s : ByteArray) (hs : s.size ≤ 1000000) (w : World) :
  Calls Tryd.prog 36 #[.string s, .string ⟨#[c]⟩, .int .i64 0, .int .i64 (-1)] w fun e w' => ∃ g, e = .returned (.slice (some ⟨g, 0, none⟩) (spB c s).length (spB c s).length) ∧ SpSt w g (spB c s).length (spB c s) w' := by
 obtain ⟨i0, hi0, hzz⟩ := Option.map_eq_some_iff.1 split_info
 simp only [Prod.mk.injEq] at hzz
 obtain ⟨hz0, hz1, hz2⟩ := hzz
 have hle : s.data.toList.count c ≤ s.size := by have := List.count_le_length (l := s.data.toList) (a := c); rw [data_length] at this; exact this
 obtain ⟨n, hn⟩ : ∃ n, s.data.toList.count c = n := ⟨_, rfl⟩
 have hlen := spB_len c s
 rw [hn] at hlen hle
 have HN := Aside0.mk hn
 have HS := Aside0.mk hs
 have HL := Aside0.mk hle
 have HLEN := Aside0.mk hlen
 have e0 : ([c] == ([] : List UInt8)) = false := by simp
 have w1 : wrap64 ((n : Int) + 1) = (n : Int) + 1 := by unfold wrap64; omega
 have w2 : wrap64 ((s.size : Int) + 1) = (s.size : Int) + 1 := by unfold wrap64; omega
 have w3 : wrap64 ((n : Int) + 1 - 1) = (n : Int) := by unfold wrap64; omega
 have w5 : wrap64 (n : Int) = (n : Int) := by unfold wrap64; omega
 have c1 : ((s.size : Int) + 1 < (n : Int) + 1) = False := eq_false (by omega)
 have c2 : (s.size < n) = False := eq_false (by omega)
 have hmk : ∀ W : World, (Instr.makeSlice 40 (.int .i64 ((n : Int) + 1)) (.int .i64 ((n : Int) + 1))).run Tryd.prog W = .ok (.slice (some ⟨W.heap.size, 0, none⟩) (n + 1) (n + 1)) (W.alloc (.cells (madeCells #[.string ⟨#[]⟩] (n + 1)) 9)) := fun W =>
  run_make_row' 40 9 (.string ⟨#[]⟩) 16 Tryd.underlying40 split_info rfl .i64 .i64 (n + 1) (by omega) (by omega) W
 have HST : Aside0 (SpSt w w.heap.size (n + 1) (List.replicate (n + 1) ⟨#[]⟩) (w.alloc (.cells (madeCells #[.string ⟨#[]⟩] (n + 1)) 9))) := ⟨⟨by
  have h := World.ownsRow_lit (base := w.heap.size) (e := 9) (size := 1) w (madeCells #[.string ⟨#[]⟩] (n + 1)) (n + 1) (Nat.le_refl _) (by unfold maxLen; omega) (by simp [size_madeCells])
  rwa [split_made] at h, by simp, below_alloc (Below.refl _ _) _⟩⟩
 clear hn hs hle hlen
 go_enter Tryd.func36, Tryd.ntmps36
 go_wp2_with (go_at_call 48; (refine (Tryd.strings_Count_one s c _).mono ?_); rintro e w4 ⟨rfl, rfl⟩; rw [show Lib.countByte s.data.toList c = n from HN.out])
 obtain ⟨W0, hW0⟩ : ∃ Z : World, w4.alloc (.cells (madeCells #[.string ⟨#[]⟩] (n + 1)) 9) = Z := ⟨_, rfl⟩
 rw [hW0] at HST ⊢
 obtain ⟨g, hg⟩ : ∃ g, w4.heap.size = g := ⟨_, rfl⟩
 have HST : Aside0 (SpSt w4 g (n + 1) (List.replicate (n + 1) ⟨#[]⟩) W0) := ⟨by rw [← hg]; exact HST.out⟩
 rw [hg]
 try simp only [w5, w1, w2]
 clear hW0 hg hmk w1 w2 w3 w5 c1 c2
 go_loopg [0, 10] n (fun kq v0 v10 wx => ∃ (i : Nat) (t : ByteArray) (dn : List ByteArray), v0 = .string t ∧ v10 = .int .i64 (i : Int) ∧ Aside0 (i + kq = n) ∧ Aside0 (dn.length = i) ∧ Aside0 (dn ++ spB c t = spB c s) ∧ Aside0 (t.size ≤ 1000000) ∧ Aside0 (SpSt w4 g (n + 1) (dn ++ List.replicate (n + 1 - i) ⟨#[]⟩) wx))
 case atStart => exact ⟨0, s, [], rfl, rfl, ⟨Nat.zero_add _⟩, ⟨rfl⟩, ⟨rfl⟩, HS, HST⟩
 case round =>
  clear HST
  obtain ⟨i, t, dn, rfl, rfl, HI, HD, HE, HT, HST⟩ := hrel
  have hcnt : i + t.data.toList.count c = n := by
   have h1 := congrArg List.length HE.out
   rw [List.length_append, spB_len, HLEN.out, HD.out] at h1
   omega
  have hin : i < n + 1 := by omega
  have HIN := Aside0.mk hin
  have hL : (dn ++ List.replicate (n + 1 - i) (⟨#[]⟩ : ByteArray))[i]? = some ⟨#[]⟩ := by
   rw [List.getElem?_append_right (by rw [HD.out]; exact Nat.le_refl _), HD.out, Nat.sub_self, List.getElem?_replicate, if_pos (by omega)]
  have x0 : wr.cell? ⟨g, i, none⟩ = some (.string ⟨#[]⟩) := by
   have h1 := HST.out.row.cellAt i (by omega)
   rw [h1]
   simp only [encs, List.getElem?_map, hL]
   rfl
  have f0 := HST.out.row.frozenAt i
  have hset : ∀ x : ByteArray, (dn ++ List.replicate (n + 1 - i) (⟨#[]⟩ : ByteArray)).set i x = (dn ++ [x]) ++ List.replicate (n + 1 - (i + 1)) ⟨#[]⟩ := by
   intro x
   obtain ⟨m, hm⟩ : ∃ m, n + 1 - i = m + 1 := ⟨n - i, by omega⟩
   rw [hm, List.replicate_succ, List.set_append, if_neg (by rw [HD.out]; omega), HD.out, Nat.sub_self, List.set_cons_zero, show n + 1 - (i + 1) = m by omega, List.append_assoc]
   rfl
  have HSET := Aside0.mk hset
  have HCNT := Aside0.mk hcnt
  clear hset hL hcnt
  have p0 : (0 : Int) ≤ (i : Int) := by omega
  have q0 : (i : Int) < (n : Int) + 1 := by omega
  have q1 : i < n + 1 := hin
  cases gk with
  | zero =>
   obtain rfl : i = n := by have := HI.out; omega
   have c0 : decide ((i : Int) < (i : Int)) = false := decide_eq_false (by omega)
   have HFIN : Aside0 ((dn ++ [t]) ++ List.replicate (i + 1 - (i + 1)) (⟨#[]⟩ : ByteArray) = spB c s) := ⟨by
    have h0 : t.data.toList.count c = 0 := by have := HCNT.out; omega
    have h1 : Lib.indexByte t.data.toList c = -1 := by
     have hr := spl_ge c t.data.toList
     rcases Int.lt_or_le (Lib.indexByte t.data.toList c) 0 with h | h
     ·omega
     ·exfalso
      obtain ⟨j, hj⟩ : ∃ j : Nat, Lib.indexByte t.data.toList c = (j : Int) := ⟨(Lib.indexByte t.data.toList c).toNat, by omega⟩
      have h2 := congrArg List.length (spl_at c t.data.toList [] j hj)
      rw [spl_len, List.length_cons, spl_len, h0] at h2
      omega
    rw [Nat.sub_self, List.replicate_zero, List.append_nil, ← HE.out, spB_no c t h1]⟩
   have d1 : (0 : Int) ≤ (i : Int) + 1 := by omega
   have a3 : (0 : Int) ≤ (i : Int) + 1 ∧ (i : Int) + 1 ≤ 10000000 := by have := HS.out; have := HL.out; omega
   have v3 := split_w a3.1 a3.2
   clear hin a3
   go_wp2_with fail
   go_ret
   refine ⟨g, ?_, ?_⟩
   ·rw [HLEN.out]; first | rfl | simp
   ·have h1 := HST.out.put i t
    rw [HSET.out, HFIN.out] at h1
    rw [HLEN.out]
    exact h1
  | succ k1 =>
   have hi : i < n := by have := HI.out; omega
   have c0 : decide ((i : Int) < (n : Int)) = true := decide_eq_true (by omega)
   have c0n : decide (i < n) = true := decide_eq_true hi
   have hr := spl_ge c t.data.toList
   rw [data_length] at hr
   obtain ⟨m, hm⟩ : ∃ m : Nat, Lib.indexByte t.data.toList c = (m : Int) := by
    refine ⟨(Lib.indexByte t.data.toList c).toNat, ?_⟩
    rcases Int.lt_or_le (Lib.indexByte t.data.toList c) 0 with h | h
    ·exfalso
     have := (spl_no c t.data.toList [] (by omega)).2
     have := HCNT.out
     omega
    ·omega
   rw [hm] at hr
   have HM := Aside0.mk hm
   have hat := spB_at c t m hm
   have HE2 : Aside0 ((dn ++ [t.extract 0 m]) ++ spB c (t.extract (m + 1) t.size) = spB c s) := ⟨by rw [← HE.out, hat, List.append_assoc]; rfl⟩
   have HT2 : Aside0 ((t.extract (m + 1) t.size).size ≤ 1000000) := ⟨by rw [ByteArray.size_extract]; have := HT.out; omega⟩
   have HHI := Aside0.mk hi
   have m0 : decide ((m : Int) < 0) = false := decide_eq_false (by omega)
   clear hat hm
   have m1 : m ≤ 1000000 := by have := HT.out; omega
   have i1 : i ≤ 1000000 := by have := HS.out; have := HL.out; omega
   have g1 : (m : Int) ≤ (t.size : Int) := by omega
   have g2 : (m : Int) + 1 ≤ (t.size : Int) := by omega
   have g3 : (0 : Int) ≤ (m : Int) + 1 := by omega
   have g4 : (0 : Int) ≤ (m : Int) := by omega
   have g5 : m ≤ t.size := by omega
   have g6 : m + 1 ≤ t.size := by omega
   have a1 : (0 : Int) ≤ (m : Int) ∧ (m : Int) ≤ 10000000 := by omega
   have a2 : (0 : Int) ≤ (m : Int) + 1 ∧ (m : Int) + 1 ≤ 10000000 := by omega
   have a3 : (0 : Int) ≤ (i : Int) + 1 ∧ (i : Int) + 1 ≤ 10000000 := by omega
   have v1 := split_w a1.1 a1.2
   have v2 := split_w a2.1 a2.2
   have v3 := split_w a3.1 a3.2
   clear hr hi m1 i1 a1 a2 a3
   go_wp2_with (go_at_call 49; (refine (Tryd.strings_Index_one t c _).mono ?_); rintro e w5 ⟨rfl, rfl⟩; rw [HM.out])
   go_roundg k1
   case measure => omega
   case rel => exact ⟨i + 1, t.extract (m + 1) t.size, dn ++ [t.extract 0 m], by first | rfl | simp, by first | rfl | rw [v3]; rfl, ⟨by have := HI.out; omega⟩, ⟨by rw [List.length_append, HD.out]; rfl⟩, HE2, HT2, ⟨by have h1 := HST.out.put i (t.extract 0 m); rw [HSET.out] at h1; exact h1⟩⟩
theorem strings_Split.calls (a0 : ByteArray) (a1 : ByteArray) (r : List ByteArray) (w : World) (h : strings_Split.f a0 a1 = some r) :
  Calls Tryd.prog 17 #[.string a0, .string a1] w fun e w' => ∃ v0_ : Value, e = .returned (v0_) ∧ Kd.R Kd.string 9 w' w.heap.size (fun _ => True) v0_ r ∧ Below w.heap.size w w' := by
 unfold strings_Split.f at h
 split at h
 rotate_left
 ·cases h
 rename_i hs
 split at h
 rotate_left
 ·cases h
 rename_i c hc
 obtain rfl := Option.some.inj h
 obtain rfl : a1 = ⟨#[c]⟩ := ByteArray.ext (Array.ext' (by rw [hc]))
 have HG := Aside0.mk (split_gen c a0 hs w)
 clear h hc hs
 go_enter Tryd.func17, Tryd.ntmps17
 go_wp2_with (go_at_call 36; (with_reducible refine HG.out.mono ?_); rintro e w2 ⟨g, rfl, hst⟩; have HST := Aside0.mk hst; clear hst)
 go_ret
 refine ⟨_, rfl, ?_, HST.out.low⟩
 exact Kd.R_of_own (enc := Value.string) (by exact HST.out.row) (fun _ _ => trivial)
/-! ### trace_number: function 18 -/
def numGo : List UInt8 → Int → Int × Bool
 | [], n => (n, true)
 | b :: l, n => if (b.toNat : Int) < 48 ∨ 57 < (b.toNat : Int) then (0, false) else numGo l (wrap64 (wrap64 (n * 10) + ((b.toNat : Int) - 48)))
def trace_number.f (a0 : ByteArray) : Option (Int × Bool) := some (if a0.size = 0 ∨ 10 < a0.size ∨ (1 < a0.size ∧ bt a0 0 = 48) then (0, false) else numGo a0.data.toList 0)
theorem num_below (w : World) (s : ByteArray) (pos : Nat) : Below w.heap.size w (w.iter s pos) := below_alloc (Below.refl _ _) _
theorem num_drop (s : ByteArray) (i : Nat) (h : i < s.size) : s.data.toList.drop i = s[i] :: s.data.toList.drop (i + 1) := by
 rw [List.drop_eq_getElem_cons (by rw [data_length]; exact h)]
 rfl
set_option maxHeartbeats 16000000 in
set_option maxRecDepth 100000 in
/-- The digits of a text that is not told at once. -/
theorem num_walk (a0 : ByteArray) (r1 : Int) (r2 : Bool) (w : World) (hz : a0.size ≤ 10) (hp : 0 < a0.size) (h2 : 1 < a0.size → ¬ ((a0[0]'hp).toNat : Int) = 48) (h : numGo a0.data.toList 0 = (r1, r2)) :
  Calls Tryd.prog 18 #[.string a0] w fun e w' => e = .returned (.tuple #[.int .i64 r1, .bool r2]) ∧ Below w.heap.size w w' := by
 have huS := Tryd.underlying9
 have hu1 := Tryd.underlying21
 have hu2 := Tryd.underlying3
 have e0 : (a0.toList == ([] : List UInt8)) = false := by
  rw [beq_eq_false_iff_ne, ByteArray.toList_eq]
  intro z
  have := congrArg List.length z
  rw [data_length, List.length_nil] at this
  omega
 have e1 : decide ((10 : Int) < (a0.size : Int)) = false := decide_eq_false (by omega)
 have HQ0 := Aside0.mk h
 have HZ := Aside0.mk hz
 have HP := Aside0.mk hp
 have H2 := Aside0.mk h2
 clear h h2 hz
 go_enter Tryd.func18, Tryd.ntmps18
 go_upto_region 1 with fail
 go_cut [23] (fun v23 wx => v23 = .bool false ∧ Aside0 (wx = w))
 case first =>
  by_cases c : 1 < a0.size
  ·have c0 : decide ((1 : Int) < (a0.size : Int)) = true := decide_eq_true (by omega)
   have c1 : ((((a0[0]'hp).toNat : Nat) : Int) == 48) = false := beq_eq_false_iff_ne.mpr (H2.out c)
   have p0 : (0 : Int) < (a0.size : Int) := by omega
   clear c
   go_wp2_with fail
   go_meet
   exact ⟨rfl, ⟨rfl⟩⟩
  ·have c0 : decide ((1 : Int) < (a0.size : Int)) = false := decide_eq_false (by omega)
   clear c
   go_wp2_with fail
   go_meet
   exact ⟨rfl, ⟨rfl⟩⟩
 obtain ⟨rfl, HW⟩ := hcut
 obtain rfl := HW.out
 clear HW
 go_wp2_with fail
 go_loopg [4] (a0.size + 1) (fun kq v4 wx => ∃ (pos : Nat) (n : Int), v4 = .int .i64 n ∧ Aside0 (pos + kq = a0.size + 1) ∧ Aside0 (pos ≤ a0.size) ∧ Aside0 (numGo (a0.data.toList.drop pos) n = (r1, r2)) ∧ Aside0 (wx = wc.iter a0 pos))
 case atStart => exact ⟨0, 0, rfl, ⟨Nat.zero_add _⟩, ⟨Nat.zero_le _⟩, HQ0, ⟨rfl⟩⟩
 case round =>
  obtain ⟨pos, n, rfl, HI, HL, HQ, HE⟩ := hrel
  obtain rfl := HE.out
  have KB := Aside0.mk (num_below wc a0 pos)
  have KB1 := fun q => num_below wc a0 q
  have KBn := Aside0.mk KB1
  clear KB1
  cases gk with
  | zero => exact absurd HI.out (by have := HL.out; omega)
  | succ k1 =>
   by_cases q : pos < a0.size
   ·have hq := HQ.out
    rw [num_drop a0 pos q, numGo] at hq
    by_cases ha : (a0[pos]'q).toNat < 128
    ·have hn := fun ty => run_next_ascii (P := Tryd.prog) wc a0 pos ty q ha
     obtain ⟨x, hx⟩ : ∃ x : Nat, (a0[pos]'q).toNat = x := ⟨_, rfl⟩
     rw [hx] at hq hn ha
     clear hx
     have w1 : wrap32 ((x : Int) - 48) = (x : Int) - 48 := by unfold wrap32; omega
     have w2 : IntKind.i32.wrap ((x : Int) - 48) = (x : Int) - 48 := by rw [IntKind.wrap_i32]; omega
     have w3 : IntKind.i64.wrap ((x : Int) - 48) = (x : Int) - 48 := by rw [IntKind.wrap_i64]; omega
     have w4 : wrap64 ((x : Int) - 48) = (x : Int) - 48 := by unfold wrap64; omega
     by_cases c1 : (x : Int) < 48
     ·rw [if_pos (.inl c1)] at hq
      have HR := Aside0.mk hq
      have d1 : decide ((x : Int) < 48) = true := decide_eq_true c1
      have d2 : decide (x < 48) = true := decide_eq_true (by omega)
      clear hq c1 ha w1 w2 w3 w4
      go_wp2_with fail
      go_ret2
      have h1 := HR.out
      simp only [Prod.mk.injEq] at h1
      obtain ⟨rfl, rfl⟩ := h1
      exact ⟨rfl, KBn.out _⟩
     ·by_cases c2 : 57 < (x : Int)
      ·rw [if_pos (.inr c2)] at hq
       have HR := Aside0.mk hq
       have d1 : decide ((x : Int) < 48) = false := decide_eq_false c1
       have d2 : decide (x < 48) = false := decide_eq_false (by omega)
       have d3 : decide ((57 : Int) < (x : Int)) = true := decide_eq_true c2
       have d4 : decide (57 < x) = true := decide_eq_true (by omega)
       clear hq c1 c2 ha w1 w2 w3 w4
       go_wp2_with fail
       go_ret2
       have h1 := HR.out
       simp only [Prod.mk.injEq] at h1
       obtain ⟨rfl, rfl⟩ := h1
       exact ⟨rfl, KBn.out _⟩
      ·rw [if_neg (by omega)] at hq
       have HR := Aside0.mk hq
       have d1 : decide ((x : Int) < 48) = false := decide_eq_false c1
       have d2 : decide (x < 48) = false := decide_eq_false (by omega)
       have d3 : decide ((57 : Int) < (x : Int)) = false := decide_eq_false c2
       have d4 : decide (57 < x) = false := decide_eq_false (by omega)
       have HX := Aside0.mk (And.intro c1 c2)
       have Hq := Aside0.mk q
       clear hq c1 c2 ha
       go_wp2_with fail
       go_roundg k1
       case measure => omega
       case rel => exact ⟨pos + 1, _, rfl, ⟨by have := HI.out; omega⟩, ⟨Hq.out⟩, HR, ⟨rfl⟩⟩
    ·have hn := fun ty => run_next_any (P := Tryd.prog) wc a0 pos ty q
     have hd := decode_high a0 pos q (by omega)
     rw [if_pos (.inr (by omega))] at hq
     have HR := Aside0.mk hq
     obtain ⟨x, hx⟩ : ∃ x : Nat, (Utf8.decode a0 pos).1 = x := ⟨_, rfl⟩
     rw [hx] at hn hd
     have d1 : decide ((x : Int) < 48) = false := decide_eq_false (by omega)
     have d2 : decide (x < 48) = false := decide_eq_false (by omega)
     have d3 : decide ((57 : Int) < (x : Int)) = true := decide_eq_true (by omega)
     have d4 : decide (57 < x) = true := decide_eq_true (by omega)
     clear hq ha hd hx
     go_wp2_with fail
     go_ret2
     have h1 := HR.out
     simp only [Prod.mk.injEq] at h1
     obtain ⟨rfl, rfl⟩ := h1
     exact ⟨rfl, KBn.out _⟩
   ·have hn := fun ty => run_next_end (P := Tryd.prog) wc a0 pos ty q
    have hq := HQ.out
    rw [List.drop_eq_nil_of_le (by rw [data_length]; omega), numGo] at hq
    have HR := Aside0.mk hq
    clear hq
    go_wp2_with fail
    go_ret2
    have h1 := HR.out
    simp only [Prod.mk.injEq] at h1
    obtain ⟨rfl, rfl⟩ := h1
    exact ⟨rfl, KB.out⟩
set_option maxHeartbeats 16000000 in
set_option maxRecDepth 100000 in
theorem trace_number.calls (a0 : ByteArray) (r1 : Int) (r2 : Bool) (w : World) (h : trace_number.f a0 = some (r1, r2)) :
  Calls Tryd.prog 18 #[.string a0] w fun e w' => e = .returned (.tuple #[.int .i64 r1, .bool r2]) ∧ Below w.heap.size w w' := by
 unfold trace_number.f at h
 have h := Option.some.inj h
 have hb : ∀ hp : 0 < a0.size, bt a0 0 = ((a0[0]'hp).toNat : Int) := fun hp => by unfold bt; rw [dif_pos (show (0 : Int).toNat < a0.size from hp)]; rfl
 by_cases c : a0.size = 0 ∨ 10 < a0.size ∨ (1 < a0.size ∧ bt a0 0 = 48)
 rotate_left
 ·rw [if_neg c] at h
  exact num_walk a0 r1 r2 w (by omega) (by omega) (fun h1 h2 => c (.inr (.inr ⟨h1, by rw [hb (by omega)]; exact h2⟩))) h
 ·rw [if_pos c] at h
  simp only [Prod.mk.injEq] at h
  obtain ⟨rfl, rfl⟩ := h
  by_cases c1 : a0.size = 0
  ·have e0 : (a0.toList == ([] : List UInt8)) = true := by
    rw [beq_iff_eq, ByteArray.toList_eq]
    exact List.length_eq_zero_iff.mp (by rw [data_length]; exact c1)
   clear c c1 hb
   go_enter Tryd.func18, Tryd.ntmps18
   go_wp2
   go_ret2
   exact ⟨rfl, Below.refl _ _⟩
  ·have e0 : (a0.toList == ([] : List UInt8)) = false := by
    rw [beq_eq_false_iff_ne, ByteArray.toList_eq]
    intro z
    have := congrArg List.length z
    rw [data_length, List.length_nil] at this
    exact c1 this
   by_cases c2 : 10 < a0.size
   ·have e1 : decide ((10 : Int) < (a0.size : Int)) = true := decide_eq_true (by omega)
    clear c c1 c2 hb
    go_enter Tryd.func18, Tryd.ntmps18
    go_wp2
    go_ret2
    exact ⟨rfl, Below.refl _ _⟩
   ·have hp : 0 < a0.size := by omega
    have e1 : decide ((10 : Int) < (a0.size : Int)) = false := decide_eq_false (by omega)
    have e2 : decide ((1 : Int) < (a0.size : Int)) = true := decide_eq_true (by omega)
    have e3 : ((((a0[0]'hp).toNat : Nat) : Int) == 48) = true := beq_iff_eq.mpr (by rw [← hb hp]; omega)
    have p0 : (0 : Int) < (a0.size : Int) := by omega
    clear c c1 c2 hb
    go_enter Tryd.func18, Tryd.ntmps18
    go_wp2
    go_ret2
    exact ⟨rfl, Below.refl _ _⟩
/-! ### stringslite_HasPrefix: function 57 -/
def stringslite_HasPrefix.f (a0 : ByteArray) (a1 : ByteArray) : Option (Bool) := if (a0.size : Int) ≥ (a1.size : Int) then (if 0 ≤ (a1.size : Int) then (if (a1.size : Int) ≤ (a0.size : Int) then (some ((a0.extract 0 ((a1.size : Int) : Int).toNat).toList == a1.toList)) else (none)) else (none)) else (some false)
set_option maxHeartbeats 8000000 in
set_option maxRecDepth 100000 in
theorem stringslite_HasPrefix.calls (a0 : ByteArray) (a1 : ByteArray) (r : Bool) (w : World) (h : stringslite_HasPrefix.f a0 a1 = some r) :
  Calls Tryd.prog 57 #[.string a0, .string a1] w fun e w' => e = .returned (.bool r) ∧ Drawn0 w w' := by
 have H : (if (a0.size : Int) ≥ (a1.size : Int) then (if 0 ≤ (a1.size : Int) then (if (a1.size : Int) ≤ (a0.size : Int) then (some ((a0.extract 0 ((a1.size : Int) : Int).toNat).toList == a1.toList)) else (none)) else (none)) else (some false)) = some r := h
 clear h
 by_cases c3 : (a0.size : Int) ≥ (a1.size : Int)
 ·rw [if_pos c3] at H
  have c3b0 : decide ((a1.size : Int) ≤ (a0.size : Int)) = true := decide_eq_true c3
  have c3b1 : decide (a1.size ≤ a0.size) = true := decide_eq_true (Int.ofNat_le.mp c3)
  clear c3
  by_cases c4 : 0 ≤ (a1.size : Int)
  ·rw [if_pos c4] at H
   have c4b0 := eq_true c4
   have c4b1 : decide (0 ≤ (a1.size : Int)) = true := decide_eq_true c4
   clear c4
   by_cases c5 : (a1.size : Int) ≤ (a0.size : Int)
   ·rw [if_pos c5] at H
    have c5b0 := eq_true c5
    have c5b1 : decide ((a1.size : Int) ≤ (a0.size : Int)) = true := decide_eq_true c5
    clear c5
    obtain rfl := Option.some.inj H
    go_enter Tryd.func57, Tryd.ntmps57
    go_wp2
    go_ret
    exact ⟨by first | rfl | (simp; done) | (simp [*]; done), by repeat (first | exact Drawn0.refl _ | apply Drawn0.step)⟩
   ·rw [if_neg c5] at H
    exact absurd H (by simp)
  ·rw [if_neg c4] at H
   exact absurd H (by simp)
 ·rw [if_neg c3] at H
  have c3b0 : decide ((a1.size : Int) ≤ (a0.size : Int)) = false := decide_eq_false c3
  have c3b1 : decide (a1.size ≤ a0.size) = false := decide_eq_false (fun h => c3 (Int.ofNat_le.mpr h))
  clear c3
  obtain rfl := Option.some.inj H
  go_enter Tryd.func57, Tryd.ntmps57
  go_wp2
  go_ret
  exact ⟨by first | rfl | (simp; done) | (simp [*]; done), by repeat (first | exact Drawn0.refl _ | apply Drawn0.step)⟩
/-! ### stringslite_CutPrefix: function 50 -/
def stringslite_CutPrefix.f (a0 : ByteArray) (a1 : ByteArray) : Option (ByteArray × Bool) := (stringslite_HasPrefix.f a0 a1).bind fun t101 => (if t101 = true then (if 0 ≤ (a1.size : Int) then (if (a1.size : Int) ≤ (a0.size : Int) then (some (a0.extract ((a1.size : Int) : Int).toNat a0.size, true)) else (none)) else (none)) else (some (a0, false)))
set_option maxHeartbeats 8000000 in
set_option maxRecDepth 100000 in
theorem stringslite_CutPrefix.calls (a0 : ByteArray) (a1 : ByteArray) (r1 : ByteArray) (r2 : Bool) (w : World) (h : stringslite_CutPrefix.f a0 a1 = some (r1, r2)) :
  Calls Tryd.prog 50 #[.string a0, .string a1] w fun e w' => e = .returned (.tuple #[.string r1, .bool r2]) ∧ Drawn0 w w' := by
 have H : ((stringslite_HasPrefix.f a0 a1).bind fun t101 => (if t101 = true then (if 0 ≤ (a1.size : Int) then (if (a1.size : Int) ≤ (a0.size : Int) then (some (a0.extract ((a1.size : Int) : Int).toNat a0.size, true)) else (none)) else (none)) else (some (a0, false)))) = some (r1, r2) := h
 clear h
 replace H := Option.bind_eq_some_iff.mp H
 obtain ⟨t101, A30, H⟩ := H
 replace H : (if t101 = true then (if 0 ≤ (a1.size : Int) then (if (a1.size : Int) ≤ (a0.size : Int) then (some (a0.extract ((a1.size : Int) : Int).toNat a0.size, true)) else (none)) else (none)) else (some (a0, false))) = some (r1, r2) := H
 have A3 := Aside0.mk A30
 clear A30
 by_cases c4 : t101 = true
 ·subst c4
  have H1 : (if 0 ≤ (a1.size : Int) then (if (a1.size : Int) ≤ (a0.size : Int) then (some (a0.extract ((a1.size : Int) : Int).toNat a0.size, true)) else (none)) else (none)) = some (r1, r2) := by rw [if_pos rfl] at H; exact H
  clear H
  have H := H1
  clear H1
  by_cases c5 : 0 ≤ (a1.size : Int)
  ·rw [if_pos c5] at H
   have c5b0 := eq_true c5
   have c5b1 : decide (0 ≤ (a1.size : Int)) = true := decide_eq_true c5
   clear c5
   by_cases c6 : (a1.size : Int) ≤ (a0.size : Int)
   ·rw [if_pos c6] at H
    have c6b0 := eq_true c6
    have c6b1 : decide ((a1.size : Int) ≤ (a0.size : Int)) = true := decide_eq_true c6
    clear c6
    simp only [Option.some.injEq, Prod.mk.injEq] at H
    obtain ⟨rfl, rfl⟩ := H
    go_enter Tryd.func50, Tryd.ntmps50
    go_wp2_with (first | ((with_reducible refine gate_callee (f := 57) rfl ?_); refine goesL_ (some 8) rfl rfl Tryd.func57 (by kernel_rfl) rfl #[.string a0, .string a1] rfl (by (try simp only [List.map_toArray, List.map_cons, List.map_nil]); first | done | rfl | (simp only [List.length_drop, List.length_take]; rfl)) ?_; (with_reducible refine (stringslite_HasPrefix.calls a0 a1 true _ A3.out).mono ?_); rintro e w' ⟨rfl, ⟨nd, rfl⟩⟩; refine ⟨_, rfl, ?_⟩))
    go_ret2
    exact ⟨by first | rfl | (simp; done) | (simp [*]; done), by repeat (first | exact Drawn0.refl _ | apply Drawn0.step)⟩
   ·rw [if_neg c6] at H
    exact absurd H (by simp)
  ·rw [if_neg c5] at H
   exact absurd H (by simp)
 ·replace c4 := Bool.eq_false_iff.mpr c4
  subst c4
  have H1 : (some (a0, false)) = some (r1, r2) := by rw [if_neg (show ¬ (false = true) by decide)] at H; exact H
  clear H
  have H := H1
  clear H1
  simp only [Option.some.injEq, Prod.mk.injEq] at H
  obtain ⟨rfl, rfl⟩ := H
  go_enter Tryd.func50, Tryd.ntmps50
  go_wp2_with (first | ((with_reducible refine gate_callee (f := 57) rfl ?_); refine goesL_ (some 8) rfl rfl Tryd.func57 (by kernel_rfl) rfl #[.string a0, .string a1] rfl (by (try simp only [List.map_toArray, List.map_cons, List.map_nil]); first | done | rfl | (simp only [List.length_drop, List.length_take]; rfl)) ?_; (with_reducible refine (stringslite_HasPrefix.calls a0 a1 false _ A3.out).mono ?_); rintro e w' ⟨rfl, ⟨nd, rfl⟩⟩; refine ⟨_, rfl, ?_⟩))
  go_ret2
  exact ⟨by first | rfl | (simp; done) | (simp [*]; done), by repeat (first | exact Drawn0.refl _ | apply Drawn0.step)⟩
/-! ### strings_CutPrefix: function 37 -/
def strings_CutPrefix.f (a0 : ByteArray) (a1 : ByteArray) : Option (ByteArray × Bool) := (stringslite_CutPrefix.f a0 a1).bind fun bt102 => (some (bt102.1, bt102.2))
set_option maxHeartbeats 8000000 in
set_option maxRecDepth 100000 in
theorem strings_CutPrefix.calls (a0 : ByteArray) (a1 : ByteArray) (r1 : ByteArray) (r2 : Bool) (w : World) (h : strings_CutPrefix.f a0 a1 = some (r1, r2)) :
  Calls Tryd.prog 37 #[.string a0, .string a1] w fun e w' => e = .returned (.tuple #[.string r1, .bool r2]) ∧ Drawn0 w w' := by
 have H : ((stringslite_CutPrefix.f a0 a1).bind fun bt102 => (some (bt102.1, bt102.2))) = some (r1, r2) := h
 clear h
 replace H := Option.bind_eq_some_iff.mp H
 obtain ⟨⟨t102, t103⟩, A30, H⟩ := H
 replace H : (some (t102, t103)) = some (r1, r2) := H
 have A3 := Aside0.mk A30
 clear A30
 simp only [Option.some.injEq, Prod.mk.injEq] at H
 obtain ⟨rfl, rfl⟩ := H
 go_enter Tryd.func37, Tryd.ntmps37
 go_wp2_with (first | ((with_reducible refine gate_callee (f := 50) rfl ?_); refine goesL_ (some 8) rfl rfl Tryd.func50 (by kernel_rfl) rfl #[.string a0, .string a1] rfl (by (try simp only [List.map_toArray, List.map_cons, List.map_nil]); first | done | rfl | (simp only [List.length_drop, List.length_take]; rfl)) ?_; (with_reducible refine (stringslite_CutPrefix.calls a0 a1 t102 t103 _ A3.out).mono ?_); rintro e w' ⟨rfl, ⟨nd, rfl⟩⟩; refine ⟨_, rfl, ?_⟩))
 go_ret2
 exact ⟨by first | rfl | (simp; done) | (simp [*]; done), by repeat (first | exact Drawn0.refl _ | apply Drawn0.step)⟩
/-! ### trace_value: function 38 -/
def trace_value.j0 : Nat → Int → Bool → Option (Int × Bool)
 | 0, _, _ => none
 | k + 1, x0, x4 => if x4 = true then (some ((wrap32 (x0 - 48)) % 256, true)) else (if x0 ≥ 97 then (if x0 ≤ 102 then (some ((((wrap32 (x0 - 97)) % 256) + 10) % 256, true)) else (some (0, false))) else (some (0, false)))
def trace_value.f (k : Nat) (a0 : Int) : Option (Int × Bool) := if a0 ≥ 48 then (trace_value.j0 k a0 (decide (a0 ≤ 57))) else (trace_value.j0 k a0 false)
theorem trace_value.mono_l : ∀ k, (∀ y0 y1, LeO (trace_value.j0 k y0 y1) (trace_value.j0 (k + 1) y0 y1))
 | 0 => fun _ _ r h => by simp [trace_value.j0] at h
 | k + 1 => by
  have ih0 := trace_value.mono_l k
  ·intro y0 y1
   unfold trace_value.j0
   repeat' first
   | (with_reducible exact ih0 _ _)
   | (with_reducible exact LeO.refl _)
   | (with_reducible exact LeO.none _)
   | (with_reducible refine LeO.ite ?_ ?_)
   | (with_reducible refine LeO.bind ?_ (fun _ => ?_))
   | exact ih0 _ _
   | exact LeO.none _
   | refine LeO.ite ?_ ?_
   | refine LeO.bind ?_ (fun _ => ?_)
theorem trace_value.mono : ∀ a0 k, LeO (trace_value.f k a0) (trace_value.f (k + 1) a0) := by
 intro a0 k
 have ih0 := trace_value.mono_l k
 unfold trace_value.f
 repeat' first
   | (with_reducible exact ih0 _ _)
   | (with_reducible exact LeO.refl _)
   | (with_reducible exact LeO.none _)
   | (with_reducible refine LeO.ite ?_ ?_)
   | (with_reducible refine LeO.bind ?_ (fun _ => ?_))
   | exact ih0 _ _
   | exact LeO.none _
   | refine LeO.ite ?_ ?_
   | refine LeO.bind ?_ (fun _ => ?_)
set_option maxHeartbeats 8000000 in
set_option maxRecDepth 100000 in
theorem trace_value.calls (k : Nat) (a0 : Int) (r1 : Int) (r2 : Bool) (w : World) (h : trace_value.f k a0 = some (r1, r2)) :
  Calls Tryd.prog 38 #[.int .i32 a0] w fun e w' => e = .returned (.tuple #[.int .u8 r1, .bool r2]) ∧ Drawn0 w w' := by
 have H : (if a0 ≥ 48 then (trace_value.j0 k a0 (decide (a0 ≤ 57))) else (trace_value.j0 k a0 false)) = some (r1, r2) := h
 clear h
 have HC2 := Aside0.mk H
 clear H
 go_enter Tryd.func38, Tryd.ntmps38
 go_upto_region 1 with (fail)
 go_cut [4] (fun v4 wc => ∃ (kq : Nat) (x4_1 : Bool), v4 = .bool x4_1 ∧ Aside0 (trace_value.j0 kq a0 x4_1 = some (r1, r2)) ∧ Aside0 (kq ≤ k) ∧ Drawn0 w wc)
 case first =>
  have H := HC2.out
  clear HC2
  by_cases c3 : a0 ≥ 48
  ·rw [if_pos c3] at H
   have c3b0 : decide (48 ≤ a0) = true := decide_eq_true c3
   clear c3
   (first | rw [c3b0] | (simp only [i64_w, i32_w]; rw [c3b0]) | skip)
   have H' := Aside0.mk H
   clear H
   go_wp2
   go_meet
   case rel => exact ⟨_, (decide (a0 ≤ 57)), (by first | rfl | (simp; done) | (simp [*]; done)), H', ⟨by first | omega | exact Nat.le_refl _⟩, by repeat (first | exact Drawn0.refl _ | apply Drawn0.step)⟩
  ·rw [if_neg c3] at H
   have c3b0 : decide (48 ≤ a0) = false := decide_eq_false c3
   clear c3
   (first | rw [c3b0] | (simp only [i64_w, i32_w]; rw [c3b0]) | skip)
   have H' := Aside0.mk H
   clear H
   go_wp2
   go_meet
   case rel => exact ⟨_, (false), (by first | rfl | (simp; done) | (simp [*]; done)), H', ⟨by first | omega | exact Nat.le_refl _⟩, by repeat (first | exact Drawn0.refl _ | apply Drawn0.step)⟩
 case rest =>
  clear HC2
  try clear p2
  try clear c3
  try clear c3b0
  obtain ⟨kq, x4_1, rfl, HA, HJ1, ⟨mc1, rfl⟩⟩ := hcut
  cases kq with
  | zero => exact absurd HA.out (by simp [trace_value.j0])
  | succ kj1 =>
   have H := HA.out
   clear HA
   simp only [trace_value.j0] at H
   by_cases c4 : x4_1 = true
   ·subst c4
    have H1 : (some ((wrap32 (a0 - 48)) % 256, true)) = some (r1, r2) := by rw [if_pos rfl] at H; exact H
    clear H
    have H := H1
    clear H1
    simp only [Option.some.injEq, Prod.mk.injEq] at H
    obtain ⟨rfl, rfl⟩ := H
    go_wp2
    go_ret2
    exact ⟨by first | rfl | (simp; done) | (simp [*]; done), by repeat (first | exact Drawn0.refl _ | apply Drawn0.step)⟩
   ·replace c4 := Bool.eq_false_iff.mpr c4
    subst c4
    have H1 : (if a0 ≥ 97 then (if a0 ≤ 102 then (some ((((wrap32 (a0 - 97)) % 256) + 10) % 256, true)) else (some (0, false))) else (some (0, false))) = some (r1, r2) := by rw [if_neg (show ¬ (false = true) by decide)] at H; exact H
    clear H
    have H := H1
    clear H1
    by_cases c5 : a0 ≥ 97
    ·rw [if_pos c5] at H
     have c5b0 : decide (97 ≤ a0) = true := decide_eq_true c5
     clear c5
     by_cases c6 : a0 ≤ 102
     ·rw [if_pos c6] at H
      have c6b0 : decide (a0 ≤ 102) = true := decide_eq_true c6
      clear c6
      simp only [Option.some.injEq, Prod.mk.injEq] at H
      obtain ⟨rfl, rfl⟩ := H
      go_wp2
      go_ret2
      exact ⟨by first | rfl | (simp; done) | (simp [*]; done), by repeat (first | exact Drawn0.refl _ | apply Drawn0.step)⟩
     ·rw [if_neg c6] at H
      have c6b0 : decide (a0 ≤ 102) = false := decide_eq_false c6
      clear c6
      simp only [Option.some.injEq, Prod.mk.injEq] at H
      obtain ⟨rfl, rfl⟩ := H
      go_wp2
      go_ret2
      exact ⟨by first | rfl | (simp; done) | (simp [*]; done), by repeat (first | exact Drawn0.refl _ | apply Drawn0.step)⟩
    ·rw [if_neg c5] at H
     have c5b0 : decide (97 ≤ a0) = false := decide_eq_false c5
     clear c5
     simp only [Option.some.injEq, Prod.mk.injEq] at H
     obtain ⟨rfl, rfl⟩ := H
     go_wp2
     go_ret2
     exact ⟨by first | rfl | (simp; done) | (simp [*]; done), by repeat (first | exact Drawn0.refl _ | apply Drawn0.step)⟩
end Go.Proofs.YtednfgphhelkjaaDoor.P
