/- Hunks: what matches, what lies between, and what that makes: the program's and the reference's. -/
import Derived.Test.YtgcilgjkihmclaaDoorPx1
import Derived.Test.YtgcilgjkihmclaaDoorPx2
import Derived.Test.YtgcilgjkihmclaaDoorPx3
import Derived.Test.YtgcilgjkihmclaaDoorPx4
import Derived.Test.YtgcilgjkihmclaaDoorEvKit
namespace Go.Proofs.YtgcilgjkihmclaaDoor.P
open Go.RowKit Go.Proofs.YtgcilgjkihmclaaDoorW.PrintWords Go.Proofs.YtgcilgjkihmclaaDoorW.PrintLast

theorem txt_eq (x y : ByteArray) : x.toList = y.toList ↔ x = y := by
  have h := toList_eq x y
  rw [Bool.eq_iff_iff, beq_iff_eq, decide_eq_true_iff] at h
  exact h
theorem rd51 (l : List ByteArray) (i : Nat) (h : i < l.length) : rdOf ByteArray.empty l (i : Int) = l[i] := by simp [rdOf, List.getD_eq_getElem?_getD, List.getElem?_eq_getElem h]
theorem rdI (l : List Int) (i : Nat) (h : i < l.length) : rd l (i : Int) = l[i] := by simp [rd, List.getD_eq_getElem?_getD, List.getElem?_eq_getElem h]
theorem rd40 (l : List S29) (i : Nat) (h : i < l.length) : rd_T29 l (i : Int) = l[i] := by simp [rd_T29, List.getD_eq_getElem?_getD, List.getElem?_eq_getElem h]
theorem few51_l (l : List ByteArray) (hl : l.length ≤ 60) : ∀ (d i : Nat), i + d = l.length → ∃ b, Ev (fun k => styluslaw51_few.l0 k l (i : Int)) b
  | 0, i, hd => ⟨true, Ev.step (f := fun _ => some true) (fun k => by rw [styluslaw51_few.l0, if_neg (by omega)]) (Ev.now _)⟩
  | d + 1, i, hd => by
    by_cases c : ((rdOf ByteArray.empty l (i : Int)).size : Int) > 100
    · exact ⟨false, Ev.step (f := fun _ => some false) (fun k => by rw [styluslaw51_few.l0, if_pos (by omega), if_pos (by omega), if_pos c]) (Ev.now _)⟩
    obtain ⟨b, e⟩ := few51_l l hl d (i + 1) (by omega)
    exact ⟨b, Ev.step (fun k => by rw [styluslaw51_few.l0, if_pos (by omega), if_pos (by omega), if_neg c, w64 (x := (i : Int) + 1) (by omega) (by omega)]; rfl) e⟩
theorem few51_ev (l : List ByteArray) : ∃ b, Ev (fun k => styluslaw51_few.f k l) b ∧ (b = true → l.length ≤ 60) := by
  unfold styluslaw51_few.f
  by_cases h : (l.length : Int) > 60
  · exact ⟨false, Ev.pos h (Ev.now _), fun z => by cases z⟩
  · obtain ⟨b, e⟩ := few51_l l (by omega) l.length 0 (by omega)
    exact ⟨b, Ev.neg h e, fun _ => by omega⟩
theorem Texts_l (x y : List ByteArray) (hxy : x.length = y.length) (hl : x.length ≤ 1000000) : ∀ (d i : Nat), i + d = x.length → Ev (fun k => stylusref51_Texts.l0 k x y (i : Int)) (decide (x.drop i = y.drop i))
  | 0, i, hd => by
    rw [List.drop_eq_nil_of_le (by omega), List.drop_eq_nil_of_le (by omega), decide_eq_true rfl]
    exact Ev.step (f := fun _ => some true) (fun k => by rw [stylusref51_Texts.l0, if_neg (by omega)]) (Ev.now _)
  | d + 1, i, hd => by
    have h1 : i < x.length := by omega
    have h2 : i < y.length := by omega
    rw [List.drop_eq_getElem_cons h1, List.drop_eq_getElem_cons h2]
    by_cases q : x[i] = y[i]
    · have e : decide (x[i] :: x.drop (i + 1) = y[i] :: y.drop (i + 1)) = decide (x.drop (i + 1) = y.drop (i + 1)) := by rw [q]; exact decide_eq_decide.2 ⟨fun h => (List.cons.inj h).2, fun h => by rw [h]⟩
      rw [e]
      exact Ev.step (fun k => by rw [stylusref51_Texts.l0, if_pos (by omega), if_pos (by omega), if_pos (by omega), rd51 x i h1, rd51 y i h2, if_pos ((txt_eq _ _).2 q), w64 (x := (i : Int) + 1) (by omega) (by omega)]; rfl) (Texts_l x y hxy hl d (i + 1) (by omega))
    · rw [decide_eq_false (fun h => q (List.cons.inj h).1)]
      exact Ev.step (f := fun _ => some false) (fun k => by rw [stylusref51_Texts.l0, if_pos (by omega), if_pos (by omega), if_pos (by omega), rd51 x i h1, rd51 y i h2, if_neg (fun z => q ((txt_eq _ _).1 z))]) (Ev.now _)
theorem Texts_ev (x y : List ByteArray) (hl : x.length ≤ 1000000) : Ev (fun k => stylusref51_Texts.f k x y) (decide (x = y)) := by
  unfold stylusref51_Texts.f
  by_cases h : x.length = y.length
  · have := Texts_l x y h hl x.length 0 (by omega)
    rw [List.drop_zero, List.drop_zero] at this
    exact Ev.pos (by omega) this
  · rw [decide_eq_false (fun z => h (by rw [z]))]
    exact Ev.neg (by omega) (Ev.now _)
/-- The matches: rising, within, and of the same lines. -/
def Fits (a b : List ByteArray) : List Int → Nat → Nat → Prop
  | [], i, s => i = a.length ∧ s ≤ b.length
  | j :: m, i, s => if 0 ≤ j then (s ≤ j.toNat ∧ j.toNat < b.length ∧ i < a.length ∧ a[i]? = b[j.toNat]? ∧ Fits a b m (i + 1) (j.toNat + 1)) else (i < a.length ∧ Fits a b m (i + 1) s)
theorem Fits.lower {a b : List ByteArray} : ∀ {m : List Int} {i s s' : Nat}, s' ≤ s → Fits a b m i s → Fits a b m i s'
  | [], _, _, _, h, h2 => ⟨h2.1, Nat.le_trans h h2.2⟩
  | j :: m, i, s, s', h, h2 => by
    rw [Fits] at h2 ⊢
    split
    · rename_i h3
      rw [if_pos h3] at h2
      exact ⟨Nat.le_trans h h2.1, h2.2⟩
    · rename_i h3
      rw [if_neg h3] at h2
      exact ⟨h2.1, Fits.lower h h2.2⟩
theorem mt_fits (a b : List ByteArray) : ∀ (d i j : Nat), (a.length - i) + (b.length - j) = d → i ≤ a.length → j ≤ b.length → Fits a b (mt (a.drop i) (b.drop j) (j : Int)) i j := by
  intro d
  induction d using Nat.strongRecOn with
  | ind d ih =>
    intro i j hd hi hj
    by_cases qi : i < a.length
    · by_cases qj : j < b.length
      · rw [mt_step a b i j qi qj]
        split
        · rename_i q
          rw [Fits, if_pos (Int.natCast_nonneg _), Int.toNat_natCast]
          rw [rd51 a i qi, rd51 b j qj] at q
          exact ⟨Nat.le_refl _, qj, qi, by rw [List.getElem?_eq_getElem qi, List.getElem?_eq_getElem qj, q], ih _ (by omega) (i + 1) (j + 1) rfl (by omega) (by omega)⟩
        · split
          · rw [Fits, if_neg (by omega)]
            exact ⟨qi, ih _ (by omega) (i + 1) j rfl (by omega) hj⟩
          · exact Fits.lower (Nat.le_succ _) (ih _ (by omega) i (j + 1) rfl hi (by omega))
      · obtain rfl : j = b.length := by omega
        rw [List.drop_length, mt_end, List.length_drop, show a.length - i = (a.length - (i + 1)) + 1 by omega, List.replicate_succ, Fits, if_neg (by omega)]
        refine ⟨qi, ?_⟩
        have h := ih ((a.length - (i + 1)) + (b.length - b.length)) (by omega) (i + 1) b.length rfl (by omega) (Nat.le_refl _)
        rw [List.drop_length, mt_end, List.length_drop] at h
        exact h
    · obtain rfl : i = a.length := by omega
      rw [List.drop_length]
      exact ⟨rfl, hj⟩
theorem dfL_len (b : List ByteArray) : ∀ (m : List Int) (i at_ s : Nat), (dfL b m i at_ s).length ≤ m.length + 1
  | [], i, at_, s => dfOne_len _ _ _ _ _
  | j :: m, i, at_, s => by
    rw [dfL]
    split
    · rw [List.length_append]
      have h1 := dfOne_len b at_ s i j.toNat
      have h2 := dfL_len b m (i + 1) (i + 1) (j.toNat + 1)
      rw [List.length_cons]
      omega
    · have h2 := dfL_len b m (i + 1) at_ s
      rw [List.length_cons]
      omega
theorem dfL_add (b : List ByteArray) : ∀ (m : List Int) (i at_ s : Nat), ∀ x ∈ dfL b m i at_ s, x.f2.length ≤ b.length
  | [], i, at_, s => fun x hx => by
    rw [dfL] at hx
    unfold dfOne at hx
    split at hx
    · rw [List.mem_singleton] at hx
      subst hx
      show ((b.take b.length).drop s).length ≤ _
      rw [List.length_drop, List.length_take]; omega
    · cases hx
  | j :: m, i, at_, s => fun x hx => by
    rw [dfL] at hx
    split at hx
    · rcases List.mem_append.1 hx with hx | hx
      · unfold dfOne at hx
        split at hx
        · rw [List.mem_singleton] at hx
          subst hx
          show ((b.take j.toNat).drop s).length ≤ _
          rw [List.length_drop, List.length_take]; omega
        · cases hx
      · exact dfL_add b m _ _ _ x hx
    · exact dfL_add b m _ _ _ x hx
theorem diffL_len (a b : List ByteArray) : (diffL a b).length ≤ a.length + 1 := by
  have := dfL_len b (mt a b 0) 0 0 0
  rw [mt_length] at this
  exact this
/-- How many lines match. -/
def cnt : List Int → Nat
  | [] => 0
  | j :: m => (if 0 ≤ j then 1 else 0) + cnt m
theorem cnt_none : ∀ n : Nat, cnt (List.replicate n (-1)) = 0
  | 0 => rfl
  | n + 1 => by rw [List.replicate_succ, cnt, if_neg (by omega), cnt_none n]
theorem cnt_mt : ∀ (a b : List ByteArray) (j : Nat), cnt (mt a b (j : Int)) = lcs a b
  | [], b, j => rfl
  | x :: a, [], j => by rw [mt_end, cnt_none, lcs_end]
  | x :: a, y :: b, j => by
    rw [mt_cons, lcs_cons]
    split
    · rw [cnt, if_pos (Int.natCast_nonneg _)]
      have h := cnt_mt a b (j + 1)
      rw [show ((j : Int) + 1) = ((j + 1 : Nat) : Int) from rfl, h]; omega
    · split
      · rename_i c
        rw [cnt, if_neg (by omega), cnt_mt a (y :: b) j]; omega
      · rename_i c
        have h := cnt_mt (x :: a) b (j + 1)
        rw [show ((j : Int) + 1) = ((j + 1 : Nat) : Int) from rfl, h]; omega
theorem cnt_le : ∀ m : List Int, cnt m ≤ m.length
  | [] => Nat.le_refl _
  | j :: m => by
    have := cnt_le m
    rw [cnt, List.length_cons]
    split <;> omega
def s1 : List S29 → Int
  | [] => 0
  | x :: l => x.f1 + s1 l
def s2 : List S29 → Int
  | [] => 0
  | x :: l => (x.f2.length : Int) + s2 l
theorem s1_app : ∀ x y, s1 (x ++ y) = s1 x + s1 y
  | [], y => by rw [List.nil_append, s1]; omega
  | u :: x, y => by rw [List.cons_append, s1, s1, s1_app x y]; omega
theorem s2_app : ∀ x y, s2 (x ++ y) = s2 x + s2 y
  | [], y => by rw [List.nil_append, s2]; omega
  | u :: x, y => by rw [List.cons_append, s2, s2, s2_app x y]; omega
theorem dfOne_s (b : List ByteArray) (at_ s i j : Nat) (h1 : at_ ≤ i) (h2 : s ≤ j) (h3 : j ≤ b.length) : s1 (dfOne b at_ s i j) = (i : Int) - (at_ : Int) ∧ s2 (dfOne b at_ s i j) = (j : Int) - (s : Int) := by
  unfold dfOne
  split
  · refine ⟨by rw [s1, s1]; exact Int.add_zero _, ?_⟩
    rw [s2, s2]
    show ((((b.take j).drop s).length : Nat) : Int) + 0 = _
    rw [List.length_drop, List.length_take]; omega
  · exact ⟨by rw [s1]; omega, by rw [s2]; omega⟩
theorem dfL_s (a b : List ByteArray) : ∀ (m : List Int) (i at_ s : Nat), Fits a b m i s → at_ ≤ i → s1 (dfL b m i at_ s) = (a.length : Int) - (at_ : Int) - (cnt m : Int) ∧ s2 (dfL b m i at_ s) = (b.length : Int) - (s : Int) - (cnt m : Int)
  | [], i, at_, s, hf, h => by
    obtain ⟨rfl, hs⟩ := hf
    have := dfOne_s b at_ s a.length b.length h hs (Nat.le_refl _)
    rw [dfL, cnt, this.1, this.2]; omega
  | j :: m, i, at_, s, hf, h => by
    rw [Fits] at hf
    rw [dfL, cnt]
    split
    · rename_i q
      rw [if_pos q] at hf
      have h1 := dfOne_s b at_ s i j.toNat h hf.1 (Nat.le_of_lt hf.2.1)
      have h2 := dfL_s a b m (i + 1) (i + 1) (j.toNat + 1) hf.2.2.2.2 (Nat.le_refl _)
      rw [s1_app, s2_app, h1.1, h1.2, h2.1, h2.2]; omega
    · rename_i q
      rw [if_neg q] at hf
      have h2 := dfL_s a b m (i + 1) at_ s hf.2 (by omega)
      rw [h2.1, h2.2]; omega
theorem dfL_dels (b : List ByteArray) : ∀ (m : List Int) (i at_ s : Nat), at_ ≤ i → ∀ x ∈ dfL b m i at_ s, 0 ≤ x.f1
  | [], i, at_, s, h => fun x hx => by
    rw [dfL] at hx
    unfold dfOne at hx
    split at hx
    · rw [List.mem_singleton] at hx
      subst hx
      show (0 : Int) ≤ (i : Int) - (at_ : Int)
      omega
    · cases hx
  | j :: m, i, at_, s, h => fun x hx => by
    rw [dfL] at hx
    split at hx
    · rcases List.mem_append.1 hx with hx | hx
      · unfold dfOne at hx
        split at hx
        · rw [List.mem_singleton] at hx
          subst hx
          show (0 : Int) ≤ (i : Int) - (at_ : Int)
          omega
        · cases hx
      · exact dfL_dels b m _ _ _ (Nat.le_refl _) x hx
    · exact dfL_dels b m _ _ _ (by omega) x hx
theorem diffL_s (a b : List ByteArray) : s1 (diffL a b) = (a.length : Int) - (lcs a b : Int) ∧ s2 (diffL a b) = (b.length : Int) - (lcs a b : Int) := by
  have hf := mt_fits a b _ 0 0 rfl (Nat.zero_le _) (Nat.zero_le _)
  have h := dfL_s a b (mt a b 0) 0 0 0 (by simpa using hf) (Nat.le_refl _)
  rw [show (0 : Int) = ((0 : Nat) : Int) from rfl, cnt_mt] at h
  unfold diffL
  rw [show (0 : Int) = ((0 : Nat) : Int) from rfl, h.1, h.2]; omega
theorem s1_pos : ∀ l : List S29, (∀ x ∈ l, 0 ≤ x.f1) → 0 ≤ s1 l
  | [], _ => Int.le_refl _
  | x :: l, h => by
    have h1 := h x (List.mem_cons_self ..)
    have h2 := s1_pos l (fun y hy => h y (List.mem_cons_of_mem _ hy))
    rw [s1]; omega
theorem s2_pos : ∀ l : List S29, 0 ≤ s2 l
  | [] => Int.le_refl _
  | x :: l => by
    have h2 := s2_pos l
    rw [s2]; omega
theorem Size_l (H : List S29) (hH : ∀ x ∈ H, 0 ≤ x.f1) (hl : H.length ≤ 1000000) : ∀ (l : List S29) (n : Nat) (p q : Int), H.drop n = l → n ≤ H.length → 0 ≤ p → 0 ≤ q → p + s1 l ≤ 1000000 → q + s2 l ≤ 1000000 → Ev (fun k => hunks_Size.l0 k p q H (H.length : Int) (n : Int)) (p + s1 l, q + s2 l)
  | [], n, p, q, hd, hn, hp, hq, h1, h2 => by
    rw [s1, s2, Int.add_zero, Int.add_zero]
    have : H.length ≤ n := by
      have := congrArg List.length hd
      rw [List.length_drop] at this
      simp at this
      omega
    exact Ev.step (f := fun _ => some (p, q)) (fun k => by rw [hunks_Size.l0, if_neg (by omega)]) (Ev.now _)
  | x :: l, n, p, q, hd, hn, hp, hq, h1, h2 => by
    have hln : n < H.length := by
      rcases Nat.lt_or_ge n H.length with h | h
      · exact h
      · rw [List.drop_eq_nil_of_le h] at hd; cases hd
    have hx : H[n] = x := by rw [List.drop_eq_getElem_cons hln] at hd; exact (List.cons.inj hd).1
    have hd2 : H.drop (n + 1) = l := by rw [List.drop_eq_getElem_cons hln] at hd; exact (List.cons.inj hd).2
    have hx0 : 0 ≤ x.f1 := hH x (hx ▸ List.getElem_mem hln)
    have hl0 : 0 ≤ s1 l := s1_pos l (fun y hy => hH y (List.mem_of_mem_drop (hd2 ▸ hy)))
    have hl2 := s2_pos l
    rw [s1] at h1 ⊢
    rw [s2] at h2 ⊢
    have h := Size_l H hH hl l (n + 1) (p + x.f1) (q + (x.f2.length : Int)) hd2 hln (by omega) (by omega) (by omega) (by omega)
    rw [Int.add_assoc, Int.add_assoc] at h
    exact Ev.step (fun k => by rw [hunks_Size.l0, if_pos (by omega), if_pos (by omega), if_pos (by omega), rd40 H n hln, hx, w64 (x := p + x.f1) (by omega) (by omega), w64 (x := q + (x.f2.length : Int)) (by omega) (by omega), w64 (x := (n : Int) + 1) (by omega) (by omega)]; rfl) h
theorem Size_ev (a b : List ByteArray) (ha : a.length ≤ 200) (hb : b.length ≤ 200) : Ev (fun k => hunks_Size.f k (diffL a b)) ((a.length : Int) - (lcs a b : Int), (b.length : Int) - (lcs a b : Int)) := by
  have hl := diffL_len a b
  have hs := diffL_s a b
  have h := Size_l (diffL a b) (dfL_dels b _ _ _ _ (Nat.le_refl _)) (by omega) (diffL a b) 0 0 0 rfl (Nat.zero_le _) (Int.le_refl _) (Int.le_refl _) (by rw [hs.1]; omega) (by rw [hs.2]; omega)
  rw [hs.1, hs.2, Int.zero_add, Int.zero_add] at h
  exact h
theorem apply_end (a b : List ByteArray) (_ha : a.length ≤ 1000000) (hb : b.length ≤ 1000000) (H : List S29) (n p : Nat) (out : List ByteArray) (hn : H.length ≤ n) (hp : p ≤ a.length) (ho : out ++ a.drop p = b) : Ev (fun k => hunks_Apply.l0 k a out (p : Int) H (H.length : Int) (n : Int)) (b, 0) := by
  have hl := congrArg List.length ho
  rw [List.length_append] at hl
  refine Ev.step (f := fun _ => some (b, 0)) (fun k => ?_) (Ev.now _)
  rw [hunks_Apply.l0, if_neg (by omega), if_pos (by omega), if_pos (by omega), Int.toNat_natCast, if_pos (by omega), ho]
theorem apply_one (a b : List ByteArray) (ha : a.length ≤ 1000000) (hb : b.length ≤ 1000000) (H : List S29) (hH : H.length ≤ 1000000) (rest : List S29) (i at_ s j n p : Nat) (out : List ByteArray) (hd : H.drop n = dfOne b at_ s i j ++ rest) (hp : p ≤ at_) (h1 : at_ ≤ i) (hi : i ≤ a.length) (h2 : s ≤ j) (hj : j ≤ b.length) (ho : out ++ (a.take at_).drop p = b.take s) :
    ∃ (out' : List ByteArray) (p' n' : Nat), H.drop n' = rest ∧ p' ≤ i ∧ out' ++ (a.take i).drop p' = b.take j ∧ ∀ r, Ev (fun k => hunks_Apply.l0 k a out' (p' : Int) H (H.length : Int) (n' : Int)) r → Ev (fun k => hunks_Apply.l0 k a out (p : Int) H (H.length : Int) (n : Int)) r := by
  unfold dfOne at hd
  by_cases c : at_ < i ∨ s < j
  · rw [if_pos c, List.singleton_append] at hd
    have hln : n < H.length := by
      rcases Nat.lt_or_ge n H.length with h | h
      · exact h
      · rw [List.drop_eq_nil_of_le h] at hd; cases hd
    have hx : H[n] = ⟨(at_ : Int), (i : Int) - (at_ : Int), (b.take j).drop s⟩ := by rw [List.drop_eq_getElem_cons hln] at hd; exact (List.cons.inj hd).1
    have hd2 : H.drop (n + 1) = rest := by rw [List.drop_eq_getElem_cons hln] at hd; exact (List.cons.inj hd).2
    have ho2 : (out ++ (a.take at_).drop p) ++ (b.take j).drop s = b.take j := by
      rw [ho]
      have := List.take_append_drop s (b.take j)
      rw [List.take_take, Nat.min_eq_left h2] at this
      exact this
    have hl := congrArg List.length ho
    have hl2 := congrArg List.length ho2
    rw [List.length_append, List.length_take] at hl
    rw [List.length_append, List.length_append, List.length_take] at hl2
    refine ⟨b.take j, i, n + 1, hd2, Nat.le_refl _, ?_, fun r e => ?_⟩
    · rw [List.drop_eq_nil_of_le (by rw [List.length_take]; omega), List.append_nil]
    · refine Ev.step (fun k => ?_) e
      rw [hunks_Apply.l0, if_pos (by omega), if_pos (by omega), if_pos (by omega), rd40 H n hln, hx]
      dsimp only
      rw [if_neg (by omega), if_neg (by omega), if_neg (by omega), w64 (x := (a.length : Int) - (at_ : Int)) (by omega) (by omega), if_neg (by omega), if_pos (by omega), if_pos (by omega), if_pos (by omega), Int.toNat_natCast, Int.toNat_natCast, if_pos (by omega), Option.bind_some, if_pos (by rw [List.length_append]; omega), ho2, w64 (x := (at_ : Int) + ((i : Int) - (at_ : Int))) (by omega) (by omega), w64 (x := (n : Int) + 1) (by omega) (by omega), show (at_ : Int) + ((i : Int) - (at_ : Int)) = (i : Int) by omega]
      rfl
  · rw [if_neg c, List.nil_append] at hd
    obtain rfl : at_ = i := by omega
    obtain rfl : s = j := by omega
    exact ⟨out, p, n, hd, hp, ho, fun r e => e⟩
theorem apply_l (a b : List ByteArray) (ha : a.length ≤ 1000000) (hb : b.length ≤ 1000000) (H : List S29) (hH : H.length ≤ 1000000) : ∀ (m : List Int) (i at_ s n p : Nat) (out : List ByteArray), Fits a b m i s → H.drop n = dfL b m i at_ s → p ≤ at_ → at_ ≤ i → i ≤ a.length → out ++ (a.take at_).drop p = b.take s → Ev (fun k => hunks_Apply.l0 k a out (p : Int) H (H.length : Int) (n : Int)) (b, 0)
  | [], i, at_, s, n, p, out, hf, hd, hp, h1, hi, ho => by
    obtain ⟨rfl, hs⟩ := hf
    rw [dfL, ← List.append_nil (dfOne _ _ _ _ _)] at hd
    obtain ⟨out', p', n', e1, e2, e3, e4⟩ := apply_one a b ha hb H hH [] a.length at_ s b.length n p out hd hp h1 (Nat.le_refl _) hs (Nat.le_refl _) ho
    refine e4 _ (apply_end a b ha hb H n' p' out' (by simpa using e1) e2 ?_)
    rw [List.take_length, List.take_length] at e3
    exact e3
  | j :: m, i, at_, s, n, p, out, hf, hd, hp, h1, hi, ho => by
    rw [Fits] at hf
    rw [dfL] at hd
    by_cases q : 0 ≤ j
    · rw [if_pos q] at hf hd
      obtain ⟨f1, f2, f3, f4, f5⟩ := hf
      obtain ⟨out', p', n', e1, e2, e3, e4⟩ := apply_one a b ha hb H hH _ i at_ s j.toNat n p out hd hp h1 hi f1 (Nat.le_of_lt f2) ho
      refine e4 _ (apply_l a b ha hb H hH m (i + 1) (i + 1) (j.toNat + 1) n' p' out' f5 e1 (by omega) (Nat.le_refl _) f3 ?_)
      rw [List.take_succ_eq_append_getElem f3, List.take_succ_eq_append_getElem f2, List.drop_append_of_le_length (by rw [List.length_take]; omega), ← List.append_assoc, e3]
      rw [List.getElem?_eq_getElem f3, List.getElem?_eq_getElem f2] at f4
      rw [Option.some.inj f4]
    · rw [if_neg q] at hf hd
      exact apply_l a b ha hb H hH m (i + 1) at_ s n p out hf.2 hd hp (by omega) hf.1 ho
theorem Apply_ev (a b : List ByteArray) (ha : a.length ≤ 200) (hb : b.length ≤ 200) : Ev (fun k => hunks_Apply.f k a (diffL a b)) (b, 0) := by
  have hl := diffL_len a b
  have hf := mt_fits a b _ 0 0 rfl (Nat.zero_le _) (Nat.zero_le _)
  exact apply_l a b (by omega) (by omega) (diffL a b) (by omega) (mt a b 0) 0 0 0 0 0 [] (by simpa using hf) rfl (Nat.le_refl _) (Nat.le_refl _) (Nat.zero_le _) (by simp)
end Go.Proofs.YtgcilgjkihmclaaDoor.P
