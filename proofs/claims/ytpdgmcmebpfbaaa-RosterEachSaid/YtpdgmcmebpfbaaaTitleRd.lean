/- What a name is read as: the program's and the reference's reading come to one function. -/
import Derived.Test.YtpdgmcmebpfbaaaPx1
import Derived.Test.YtpdgmcmebpfbaaaPx2
import Derived.Test.YtpdgmcmebpfbaaaTitleEv
namespace Go.Proofs.Ytpdgmcmebpfbaaa.P
open Go.RowKit Go.Proofs.YtpdgmcmebpfbaaaW.PrintWords Go.Proofs.YtpdgmcmebpfbaaaW.PrintLast
theorem parseL_digits : ∀ (l : List UInt8) (a n : Int), parseL l a = some n → ∀ b ∈ l, 48 ≤ b.toNat ∧ b.toNat ≤ 57
 | [], _, _, _ => fun b hb => by simp at hb
 | c :: l, a, n, h => by
  unfold parseL at h
  by_cases hc : 48 ≤ c.toNat ∧ c.toNat ≤ 57
  ·rw [if_pos hc] at h
   intro b hb
   rcases List.mem_cons.1 hb with rfl | hb
   ·exact hc
   ·exact parseL_digits l _ n h b hb
  ·rw [if_neg hc] at h; cases h
theorem digs_parse (j : Nat) : ∀ (l : List UInt8) (n : Int), l.length = j → parseL l 0 = some n → digs j n = l.map (fun b => (b.toNat : Int)) ∧ cut10 j n = 0 ∧ 0 ≤ n := by
 induction j with
 | zero =>
  intro l n hl h
  have hn : l = [] := List.eq_nil_of_length_eq_zero hl
  subst hn
  have : (0 : Int) = n := Option.some.inj h
  subst this
  exact ⟨rfl, rfl, Int.le_refl 0⟩
 | succ j ih =>
  intro l n hl h
  have hne : l ≠ [] := by intro z; rw [z] at hl; simp at hl
  have hlast := (List.dropLast_concat_getLast hne).symm
  rw [hlast, parseL_append] at h
  obtain ⟨m, hm, h2⟩ := Option.bind_eq_some_iff.1 h
  obtain ⟨g1, g2, g3⟩ := ih l.dropLast m (by rw [List.length_dropLast]; omega) hm
  unfold parseL at h2
  by_cases hc : 48 ≤ (l.getLast hne).toNat ∧ (l.getLast hne).toNat ≤ 57
  ·rw [if_pos hc] at h2
   have e : (10 * m + ((l.getLast hne).toNat - 48 : Int)) = n := Option.some.inj h2
   have q : n / 10 = m := by omega
   have r : 48 + n % 10 = ((l.getLast hne).toNat : Int) := by omega
   refine ⟨?_, by rw [cut10, q]; exact g2, by omega⟩
   rw [digs, q, r, g1]
   conv => rhs; rw [hlast]
   rw [List.map_append]
   rfl
  ·rw [if_neg hc] at h2; cases h2
theorem nums_bytes (s : ByteArray) : strOfNums (s.data.toList.map (fun b => (b.toNat : Int))) = s := by
 apply ByteArray.ext
 apply Array.ext'
 rw [strOfNums_data, List.map_map]
 conv => rhs; rw [← List.map_id s.data.toList]
 apply List.map_congr_left
 intro b _
 simp
/-- What parses is just the digits of what it says. -/
theorem digits_parse {d : ByteArray} (h : (parseOf d).2 = true) : digitsOf (parseOf d).1 (d.size : Int) = d ∧ 1 ≤ d.size ∧ d.size ≤ 9 ∧ 0 ≤ (parseOf d).1 ∧ ∃ n, parseL d.data.toList 0 = some n ∧ (parseOf d).1 = n := by
 unfold parseOf at h ⊢
 by_cases c : d.size = 0 ∨ 9 < d.size
 ·rw [if_pos c] at h; exact absurd h Bool.false_ne_true
 ·rw [if_neg c] at h ⊢
  cases hp : parseL d.data.toList 0 with
  | none => rw [hp] at h; exact absurd h Bool.false_ne_true
  | some n =>
   obtain ⟨g1, g2, g3⟩ := digs_parse d.size d.data.toList n (by rw [data_length]) hp
   refine ⟨?_, by omega, by omega, g3, n, rfl, rfl⟩
   show digitsOf n (d.size : Int) = d
   unfold digitsOf
   rw [if_pos ⟨g3, by omega, by omega, by rw [show ((d.size : Int)).toNat = d.size from rfl]; exact g2⟩, show ((d.size : Int)).toNat = d.size from rfl, g1, nums_bytes]
def pre (p s : ByteArray) : Prop := p.size ≤ s.size ∧ s.extract 0 p.size = p
instance (p s : ByteArray) : Decidable (pre p s) := by unfold pre; infer_instance
theorem hasPrefix_is (s p : ByteArray) : stringslite_HasPrefix.f s p = some (decide (pre p s)) := by
 unfold stringslite_HasPrefix.f
 by_cases h : (s.size : Int) ≥ (p.size : Int)
 ·rw [if_pos h, if_pos (by omega), if_pos h, show ((p.size : Int)).toNat = p.size from rfl]
  congr 1
  by_cases c : s.extract 0 p.size = p
  ·rw [decide_eq_true (show pre p s from ⟨by omega, c⟩), beq_iff_eq.2 (cat_list.2 c)]
  ·rw [decide_eq_false (show ¬ pre p s from fun z => c z.2), beq_eq_false_iff_ne.2 (fun z => c (cat_list.1 z))]
 ·rw [if_neg h, decide_eq_false (show ¬ pre p s from fun z => h (by have := z.1; omega))]
theorem strings_HasPrefix_is (s p : ByteArray) : strings_HasPrefix.f s p = some (decide (pre p s)) := by
 unfold strings_HasPrefix.f
 rw [hasPrefix_is]
 rfl
def cutp (p s : ByteArray) : ByteArray × Bool := if pre p s then (s.extract p.size s.size, true) else (s, false)
theorem cutPrefix_is (s p : ByteArray) : strings_CutPrefix.f s p = some (cutp p s) := by
 unfold strings_CutPrefix.f stringslite_CutPrefix.f cutp
 rw [hasPrefix_is]
 simp only [Option.bind_some]
 by_cases h : pre p s
 ·rw [if_pos (decide_eq_true h), if_pos (by omega), if_pos (by have := h.1; omega), if_pos h, show ((p.size : Int)).toNat = p.size from rfl]
  rfl
 ·rw [if_neg (fun z => h (of_decide_eq_true z)), if_neg h]
  rfl
theorem pre_join {p s : ByteArray} (h : p.size ≤ s.size) : p ++ s.extract p.size s.size = s ↔ pre p s := by
 constructor
 ·intro e
  refine ⟨h, ?_⟩
  conv => lhs; rw [← e]
  exact ByteArray.extract_append_eq_left rfl
 ·intro hp
  conv => lhs; rw [show p = s.extract 0 p.size from hp.2.symm]
  rw [ByteArray.size_extract, show min p.size s.size - 0 = p.size by omega, cut_join _ _ _ _ (by omega) h (Nat.le_refl _)]
  exact ByteArray.extract_zero_size
/-! A checkpoint's name, a part's name. -/
def isCheck (s : ByteArray) : Prop := pre ckp s ∧ s.size = 12 ∧ (parseOf (s.extract 6 12)).2 = true
instance (s : ByteArray) : Decidable (isCheck s) := by unfold isCheck; infer_instance
def isLog (s : ByteArray) : Prop := pre lgp s ∧ s.size = 15 ∧ bt s 10 = 45 ∧ (parseOf (s.extract 4 10)).2 = true ∧ (parseOf (s.extract 11 15)).2 = true
instance (s : ByteArray) : Decidable (isLog s) := by unfold isLog; infer_instance
def tiRead (s : ByteArray) : Int × Int × Int × ByteArray :=
 if isCheck s then (1, (parseOf (s.extract 6 12)).1, 0, ⟨#[]⟩)
 else if isLog s then (2, (parseOf (s.extract 4 10)).1, (parseOf (s.extract 11 15)).1, ⟨#[]⟩)
 else if pre tmpp s ∧ mayOf s = true then (3, 0, 0, ⟨#[]⟩)
 else if pre xp s ∧ userOf (s.extract 2 s.size) = true then (4, 0, 0, s.extract 2 s.size)
 else (0, 0, 0, ⟨#[]⟩)
theorem title_check_ev (s : ByteArray) (hs : s.size ≤ 140737488351232) : ∃ r, Ev (fun k => title_check.f k s) r ∧ r.2.2.2.2 = decide (isCheck s) ∧ (isCheck s → (r.1, r.2.1, r.2.2.1, r.2.2.2.1) = (1, (parseOf (s.extract 6 12)).1, 0, (⟨#[]⟩ : ByteArray))) := by
 have hz : (cutp ckp s).1.size ≤ 140737488351232 := by
  unfold cutp
  split
  ·show (s.extract _ _).size ≤ _; rw [ByteArray.size_extract]; omega
  ·exact hs
 have st : ∀ r, Ev (fun k => (num_Parse.f k (cutp ckp s).1).bind fun bt111 => (if (cutp ckp s).2 = true then (if bt111.2 = true then (some ((1 : Int), bt111.1, (0 : Int), (⟨#[]⟩ : ByteArray), (((cutp ckp s).1.size : Int) == 6))) else (some (1, bt111.1, 0, (⟨#[]⟩ : ByteArray), false))) else (some (1, bt111.1, 0, (⟨#[]⟩ : ByteArray), false)))) r → Ev (fun k => title_check.f k s) r := fun r hr => by
  unfold title_check.f
  exact Ev.call (rfl : title_front.f 1 = some ckp) (Ev.call (cutPrefix_is s ckp) hr)
 by_cases hp : pre ckp s
 ·have hc : cutp ckp s = (s.extract 6 s.size, true) := if_pos hp
  rw [hc] at st hz
  have h6 : 6 ≤ s.size := hp.1
  by_cases h1 : (parseOf (s.extract 6 s.size)).2 = true
  ·refine ⟨_, st _ (Ev.bind (num_Parse_ev _ hz) (Ev.pos rfl (Ev.pos h1 (Ev.now _)))), ?_, ?_⟩
   ·show (((s.extract 6 s.size).size : Int) == 6) = _
    by_cases h2 : s.size = 12
    ·have : isCheck s := ⟨hp, h2, by rw [← h2]; exact h1⟩
     rw [decide_eq_true this, beq_iff_eq]
     rw [ByteArray.size_extract]; omega
    ·rw [decide_eq_false (fun z : isCheck s => h2 z.2.1), beq_eq_false_iff_ne]
     rw [ByteArray.size_extract]; omega
   ·intro hi
    rw [hi.2.1]
  ·refine ⟨_, st _ (Ev.bind (num_Parse_ev _ hz) (Ev.pos rfl (Ev.neg h1 (Ev.now _)))), ?_, ?_⟩
   ·rw [decide_eq_false (fun z : isCheck s => h1 (by rw [z.2.1]; exact z.2.2))]
   ·intro hi; exact absurd (by rw [hi.2.1]; exact hi.2.2) h1
 ·have hc : cutp ckp s = (s, false) := if_neg hp
  rw [hc] at st hz
  refine ⟨_, st _ (Ev.bind (num_Parse_ev _ hz) (Ev.neg Bool.false_ne_true (Ev.now _))), ?_, ?_⟩
  ·rw [decide_eq_false (fun z : isCheck s => hp z.1)]
  ·intro hi; exact absurd hi.1 hp
theorem ext2 (s : ByteArray) (a b i j : Nat) (hij : i ≤ j) (h : a + j ≤ b) (hb : b ≤ s.size) : (s.extract a b).extract i j = s.extract (a + i) (a + j) := by
 have z0 : (s.extract a b).size = b - a := by rw [ByteArray.size_extract]; omega
 have z1 : ((s.extract a b).extract i j).size = j - i := by rw [ByteArray.size_extract]; omega
 apply cat_ext
 ·rw [z1, ByteArray.size_extract]; omega
 ·intro k hk
  rw [z1] at hk
  rw [cat_piece _ _ _ _ (by omega) (by omega), cat_piece _ _ _ _ (by omega) (by omega), cat_piece _ _ _ _ (by omega) (by omega), Nat.add_assoc]
theorem dig_bt {d : ByteArray} (h : (parseOf d).2 = true) (k : Nat) (hk : k < d.size) : 48 ≤ bt d (k : Int) ∧ bt d (k : Int) ≤ 57 := by
 obtain ⟨_, _, _, _, n, hn, _⟩ := digits_parse h
 have hl : k < d.data.toList.length := by rw [data_length]; exact hk
 have := parseL_digits _ _ _ hn _ (List.getElem_mem hl)
 rw [bt_list d k hl]
 omega
theorem cut10_zero (j : Nat) : ∀ n, 0 ≤ n → cut10 j n = 0 → n < ((10 ^ j : Nat) : Int) := by
 induction j with
 | zero => intro n _ h; have : n = 0 := h; subst this; decide
 | succ j ih =>
  intro n h0 h
  have := ih (n / 10) (by omega) h
  rw [Nat.pow_succ]
  omega
theorem parse_range (d : ByteArray) : 0 ≤ (parseOf d).1 ∧ (parseOf d).1 ≤ 9223372036854775807 := by
 by_cases h : (parseOf d).2 = true
 ·obtain ⟨h1, h2, h3, h4, n, hn, e⟩ := digits_parse h
  obtain ⟨_, g2, g3⟩ := digs_parse d.size d.data.toList n (by rw [data_length]) hn
  have h5 := cut10_zero d.size n g3 g2
  have h6 : 10 ^ d.size ≤ 10 ^ 9 := Nat.pow_le_pow_right (by decide) h3
  have h7 : (10 ^ 9 : Nat) = 1000000000 := by decide
  omega
 ·unfold parseOf at h ⊢
  split
  ·exact ⟨by decide, by decide⟩
  ·rename_i c
   rw [if_neg c] at h
   cases hp : parseL d.data.toList 0 with
   | none => exact ⟨by decide, by decide⟩
   | some n => rw [hp] at h; exact absurd rfl h
theorem cut_is (s : ByteArray) (hs : s.size ≤ 140737488351232) : strings_Cut.f s (⟨#[45]⟩ : ByteArray) = some (strings_Cut.of s (Lib.indexByte s.data.toList 45)) := by
 unfold strings_Cut.f
 rw [if_pos (by decide +kernel), if_pos hs]
theorem get_bt {s : ByteArray} {k : Nat} {c : UInt8} (h : s.data.toList[k]? = some c) : k < s.size ∧ bt s (k : Int) = (c.toNat : Int) := by
 obtain ⟨hk, e⟩ := List.getElem?_eq_some_iff.1 h
 refine ⟨by rwa [data_length] at hk, ?_⟩
 rw [bt_list s k hk, e]
theorem bt_get {s : ByteArray} {k : Nat} (h : k < s.size) (e : bt s (k : Int) = 45) : s.data.toList[k]? = some 45 := by
 have hk : k < s.data.toList.length := by rw [data_length]; exact h
 rw [List.getElem?_eq_getElem hk]
 congr 1
 have := bt_list s k hk
 apply UInt8.toNat_inj.1
 have e2 : (45 : UInt8).toNat = 45 := rfl
 omega
/-- The first of a byte, where it stands at a place and none stands ahead. -/
theorem index_at {s : ByteArray} {o : Nat} (ho : o < s.size) (h0 : bt s (o : Int) = 45) (h1 : ∀ k : Nat, k < o → bt s (k : Int) ≠ 45) : Lib.indexByte s.data.toList 45 = o := by
 have hr := strings_Cut.idx s.data.toList 45
 by_cases hn : Lib.indexByte s.data.toList 45 = -1
 ·exact absurd (bt_get ho h0) (Lib.indexByte_none hn o)
 ·obtain ⟨q, hq⟩ : ∃ q : Nat, Lib.indexByte s.data.toList 45 = q := ⟨(Lib.indexByte s.data.toList 45).toNat, by omega⟩
  obtain ⟨g0, g1⟩ := Lib.indexByte_some hq
  rw [hq]
  by_cases c : q < o
  ·exact absurd (get_bt g0).2 (h1 q c)
  ·by_cases c2 : o < q
   ·exact absurd (bt_get ho h0) (g1 o c2)
   ·omega
theorem title_log_ev (s : ByteArray) (hs : s.size ≤ 140737488351232) : ∃ r, Ev (fun k => title_log.f k s) r ∧ r.2.2.2.2 = decide (isLog s) ∧ (isLog s → (r.1, r.2.1, r.2.2.1, r.2.2.2.1) = (2, (parseOf (s.extract 4 10)).1, (parseOf (s.extract 11 15)).1, (⟨#[]⟩ : ByteArray))) := by
 have hz : (cutp lgp s).1.size ≤ 140737488351232 := by
  unfold cutp
  split
  ·show (s.extract _ _).size ≤ _; rw [ByteArray.size_extract]; omega
  ·exact hs
 obtain ⟨c, hc⟩ : ∃ c, strings_Cut.of (cutp lgp s).1 (Lib.indexByte (cutp lgp s).1.data.toList 45) = c := ⟨_, rfl⟩
 have hc1 : c.1.size ≤ 140737488351232 ∧ c.2.1.size ≤ 140737488351232 := by
  rw [← hc]
  unfold strings_Cut.of
  split
  ·exact ⟨by show (ByteArray.extract _ _ _).size ≤ _; rw [ByteArray.size_extract]; omega, by show (ByteArray.extract _ _ _).size ≤ _; rw [ByteArray.size_extract]; omega⟩
  ·exact ⟨hz, Nat.zero_le _⟩
 have st : Ev (fun k => title_log.f k s) (2, (parseOf c.1).1, (parseOf c.2.1).1, (⟨#[]⟩ : ByteArray), (cutp lgp s).2 && (c.2.2 && ((parseOf c.1).2 && ((parseOf c.2.1).2 && (decide ((c.1.size : Int) = 6) && decide ((c.2.1.size : Int) = 4)))))) := by
  unfold title_log.f
  refine Ev.call (rfl : title_front.f 2 = some lgp) (Ev.call (cutPrefix_is s lgp) (Ev.call (cut_is _ hz) ?_))
  rw [hc]
  refine Ev.bind (num_Parse_ev _ hc1.1) (Ev.bind (num_Parse_ev _ hc1.2) (Ev.end fun _ => ?_))
  cases (cutp lgp s).2 <;> cases c.2.2 <;> cases (parseOf c.1).2 <;> cases (parseOf c.2.1).2 <;> by_cases h6 : (c.1.size : Int) = 6 <;> simp [h6] <;> rfl
 refine ⟨_, st, ?_, ?_⟩
 ·show _ = decide (isLog s)
  by_cases hp : pre lgp s
  ·have hcp : cutp lgp s = (s.extract 4 s.size, true) := if_pos hp
   have h4 : 4 ≤ s.size := hp.1
   rw [hcp] at hc ⊢
   have zR : (s.extract 4 s.size).size = s.size - 4 := by rw [ByteArray.size_extract]; omega
   by_cases hl : isLog s
   ·obtain ⟨_, h15, h45, p1, p2⟩ := hl
    have hi : Lib.indexByte (s.extract 4 s.size).data.toList 45 = ((6 : Nat) : Int) := by
     refine index_at (by omega) ?_ (fun k hk => ?_)
     ·rw [cat_piece _ _ _ _ (by omega) (by omega)]; exact h45
     ·rw [cat_piece _ _ _ _ (by omega) (by omega)]
      have := dig_bt p1 k (by rw [ByteArray.size_extract]; omega)
      rw [cat_piece _ _ _ _ (by omega) (by omega)] at this
      omega
    have hc' : c = (s.extract 4 10, s.extract 11 15, true) := by
     rw [← hc]
     show strings_Cut.of (s.extract 4 s.size) _ = _
     rw [hi]
     unfold strings_Cut.of
     rw [if_pos (by omega)]
     rw [show (((6 : Nat) : Int)).toNat = 6 from rfl, show (((6 : Nat) : Int) + 1).toNat = 7 from rfl, zR, ext2 _ _ _ _ _ (by omega) (by omega) (by omega), ext2 _ _ _ _ _ (by omega) (by omega) (by omega)]
     rw [show 4 + (s.size - 4) = 15 by omega]
    rw [hc', decide_eq_true (show isLog s from ⟨hp, h15, h45, p1, p2⟩)]
    show (true && (true && ((parseOf (s.extract 4 10)).2 && ((parseOf (s.extract 11 15)).2 && (decide (((s.extract 4 10).size : Int) = 6) && decide (((s.extract 11 15).size : Int) = 4)))))) = true
    rw [p1, p2, decide_eq_true (show ((s.extract 4 10).size : Int) = 6 by rw [ByteArray.size_extract]; omega), decide_eq_true (show ((s.extract 11 15).size : Int) = 4 by rw [ByteArray.size_extract]; omega)]
    rfl
   ·rw [decide_eq_false hl]
    rw [← Bool.not_eq_true]
    intro hf
    simp only [Bool.and_eq_true, decide_eq_true_eq] at hf
    obtain ⟨_, f2, f3, f4, f5, f6⟩ := hf
    apply hl
    have hr := strings_Cut.idx (s.extract 4 s.size).data.toList 45
    rw [data_length, zR] at hr
    by_cases hi0 : 0 ≤ Lib.indexByte (s.extract 4 s.size).data.toList 45
    ·obtain ⟨q, hq⟩ : ∃ q : Nat, Lib.indexByte (s.extract 4 s.size).data.toList 45 = q := ⟨_, (Int.toNat_of_nonneg hi0).symm⟩
     have hc' : c = ((s.extract 4 s.size).extract 0 q, (s.extract 4 s.size).extract (q + 1) (s.size - 4), true) := by
      rw [← hc]
      show strings_Cut.of (s.extract 4 s.size) _ = _
      rw [hq]
      unfold strings_Cut.of
      rw [if_pos (by omega), show ((q : Int)).toNat = q from rfl, show ((q : Int) + 1).toNat = q + 1 by omega, zR]
     rw [hc'] at f3 f4 f5 f6
     simp only at f3 f4 f5 f6
     rw [hq] at hr
     rw [ByteArray.size_extract, zR] at f5
     have q6 : q = 6 := by omega
     subst q6
     rw [ByteArray.size_extract, zR] at f6
     have h15 : s.size = 15 := by omega
     rw [ext2 _ _ _ _ _ (by omega) (by omega) (by omega)] at f3
     rw [ext2 _ _ _ _ _ (by omega) (by omega) (by omega)] at f4
     refine ⟨hp, h15, ?_, f3, ?_⟩
     ·have g := (get_bt (Lib.indexByte_some hq).1).2
      rw [cat_piece _ _ _ _ (by omega) (by omega)] at g
      exact g
     ·rw [show 4 + (s.size - 4) = 15 by omega] at f4; exact f4
    ·have hc' : c.2.2 = false := by
      rw [← hc]
      unfold strings_Cut.of
      rw [if_neg hi0]
     rw [hc'] at f2
     exact absurd f2 Bool.false_ne_true
  ·have hcp : cutp lgp s = (s, false) := if_neg hp
   rw [hcp, decide_eq_false (fun z : isLog s => hp z.1)]
   rfl
 ·rintro ⟨hp, h15, h45, p1, p2⟩
  have hcp : cutp lgp s = (s.extract 4 s.size, true) := if_pos hp
  rw [hcp] at hc
  have zR : (s.extract 4 s.size).size = s.size - 4 := by rw [ByteArray.size_extract]; omega
  have hi : Lib.indexByte (s.extract 4 s.size).data.toList 45 = ((6 : Nat) : Int) := by
   refine index_at (by omega) ?_ (fun k hk => ?_)
   ·rw [cat_piece _ _ _ _ (by omega) (by omega)]; exact h45
   ·rw [cat_piece _ _ _ _ (by omega) (by omega)]
    have := dig_bt p1 k (by rw [ByteArray.size_extract]; omega)
    rw [cat_piece _ _ _ _ (by omega) (by omega)] at this
    omega
  have hc' : c = (s.extract 4 10, s.extract 11 15, true) := by
   rw [← hc]
   show strings_Cut.of (s.extract 4 s.size) _ = _
   rw [hi]
   unfold strings_Cut.of
   rw [if_pos (by omega)]
   rw [show (((6 : Nat) : Int)).toNat = 6 from rfl, show (((6 : Nat) : Int) + 1).toNat = 7 from rfl, zR, ext2 _ _ _ _ _ (by omega) (by omega) (by omega), ext2 _ _ _ _ _ (by omega) (by omega) (by omega)]
   rw [show 4 + (s.size - 4) = 15 by omega]
  rw [hc']
theorem title_Read_ev (s : ByteArray) (hs : s.size ≤ 140737488351232) : Ev (fun k => title_Read.f k s) (tiRead s) := by
 unfold title_Read.f tiRead
 obtain ⟨r, hr, r2, r3⟩ := title_check_ev s hs
 refine Ev.bind hr ?_
 by_cases c0 : isCheck s
 ·rw [if_pos c0]
  refine Ev.pos (by rw [r2]; exact decide_eq_true c0) ?_
  rw [← r3 c0]
  exact Ev.now _
 rw [if_neg c0]
 refine Ev.neg (by rw [r2, decide_eq_false c0]; exact Bool.false_ne_true) ?_
 obtain ⟨q, hq, q2, q3⟩ := title_log_ev s hs
 refine Ev.bind hq ?_
 by_cases c1 : isLog s
 ·rw [if_pos c1]
  refine Ev.pos (by rw [q2]; exact decide_eq_true c1) ?_
  rw [← q3 c1]
  exact Ev.now _
 rw [if_neg c1]
 refine Ev.neg (by rw [q2, decide_eq_false c1]; exact Bool.false_ne_true) ?_
 refine Ev.call (rfl : title_front.f 3 = some tmpp) (Ev.call (strings_HasPrefix_is s tmpp) ?_)
 have j0f : Ev (fun k => title_Read.j0 k s false) (if pre xp s ∧ userOf (s.extract 2 s.size) = true then (4, 0, 0, s.extract 2 s.size) else (0, 0, 0, (⟨#[]⟩ : ByteArray))) := by
  refine Ev.step (fun k => by rw [title_Read.j0, if_neg Bool.false_ne_true]) ?_
  refine Ev.call (rfl : title_front.f 4 = some xp) (Ev.call (cutPrefix_is s xp) ?_)
  by_cases hx : pre xp s
  ·have hcx : cutp xp s = (s.extract 2 s.size, true) := if_pos hx
   rw [hcx]
   refine Ev.pos rfl (Ev.bind (title_User_ev _ (by show (s.extract 2 s.size).size ≤ _; rw [ByteArray.size_extract]; omega)) ?_)
   by_cases hu : userOf (s.extract 2 s.size) = true
   ·refine Ev.pos hu ?_; rw [if_pos ⟨hx, hu⟩]; exact Ev.now _
   ·refine Ev.neg hu ?_; rw [if_neg (fun z => hu z.2)]; exact Ev.now _
  ·have hcx : cutp xp s = (s, false) := if_neg hx
   rw [hcx, if_neg (fun z => hx z.1)]
   exact Ev.neg Bool.false_ne_true (Ev.now _)
 by_cases ht : pre tmpp s
 ·refine Ev.pos (decide_eq_true ht) (Ev.bind (title_May_ev s hs) ?_)
  by_cases hm : mayOf s = true
  ·rw [if_pos ⟨ht, hm⟩, hm]
   exact Ev.step (f := fun _ => some _) (fun k => by rw [title_Read.j0, if_pos (rfl : true = true)]) (Ev.now _)
  ·rw [if_neg (fun z => hm z.2), Bool.eq_false_iff.2 hm]
   exact j0f
 ·rw [if_neg (fun z => ht z.1)]
  exact Ev.neg (fun z => ht (of_decide_eq_true z)) j0f
end Go.Proofs.Ytpdgmcmebpfbaaa.P
