/- What a text tells as a call: the reference's reading comes to the program's. -/
import Derived.Test.YtednfgphhelkjaaDoorPx2
import Derived.Test.YtednfgphhelkjaaDoorPx6
import Derived.Test.YtednfgphhelkjaaDoorPx7
import Derived.Test.YtednfgphhelkjaaDoorTracePa
namespace Go.Proofs.YtednfgphhelkjaaDoor.P
open Go.RowKit Go.Proofs.YtednfgphhelkjaaDoorW.PrintWords Go.Proofs.YtednfgphhelkjaaDoorW.PrintLast
theorem ex_one (s : ByteArray) (i : Nat) (h : i < s.data.toList.length) : s.extract i (i + 1) = tby [s.data.toList[i]] := by
 apply ByteArray.ext
 rw [ByteArray.data_extract]
 apply Array.ext'
 rw [Array.toList_extract]
 show (s.data.toList.drop i).take (i + 1 - i) = [s.data.toList[i]]
 rw [show i + 1 - i = 1 from by omega, List.drop_eq_getElem_cons h]
 rfl
theorem words_l0 (s : ByteArray) (hs : s.size ≤ 100000) : ∀ (d i : Nat) (pre : List (List UInt8)) (cur : List UInt8), i + d = s.data.toList.length → pre.length ≤ i → cur.length ≤ i →
  Ev (fun k => stylusref45_words.l0 k s ((pre ++ [cur]).map tby) (i : Int)) ((pre ++ spl 32 cur (s.data.toList.drop i)).map tby)
 | 0, i, pre, cur, h, h1, h2 => by
  have hz := data_length s
  rw [List.drop_of_length_le (by omega), spl]
  refine Ev.step (f := fun _ => some ((pre ++ [cur]).map tby)) (fun k => ?_) (Ev.now _)
  rw [stylusref45_words.l0, if_neg (by omega)]
 | d + 1, i, pre, cur, h, h1, h2 => by
  have hz := data_length s
  have hi : i < s.data.toList.length := by omega
  have hb := tbt s i hi
  have hw : wrap64 ((i : Int) + 1) = ((i + 1 : Nat) : Int) := w64 (by omega) (by omega)
  rw [List.drop_eq_getElem_cons hi, spl]
  by_cases c : s.data.toList[i] = 32
  ·rw [if_pos c]
   have e := words_l0 s hs d (i + 1) (pre ++ [cur]) [] (by omega) (by rw [List.length_append]; simp; omega) (by simp)
   rw [List.append_assoc pre [cur] (spl 32 [] _)] at e
   refine Ev.step (fun k => ?_) e
   rw [stylusref45_words.l0, if_pos (by omega), if_pos (by omega), if_pos (by rw [hb, c]; rfl), if_pos (by rw [List.length_map, List.length_append]; simp; omega), hw]
   rw [List.map_append (l₁ := pre ++ [cur])]
   rfl
  ·rw [if_neg c]
   have e := words_l0 s hs d (i + 1) pre (cur ++ [s.data.toList[i]]) (by omega) (by omega) (by rw [List.length_append]; simp; omega)
   refine Ev.step (fun k => ?_) e
   have hl : (((pre ++ [cur]).map tby).length : Int) = (pre.length : Int) + 1 := by simp
   have hr : rdOf ByteArray.empty ((pre ++ [cur]).map tby) (pre.length : Int) = tby cur := by
    unfold rdOf
    rw [Int.toNat_natCast, List.getD_eq_getElem?_getD, List.map_append, List.getElem?_append_right (by simp)]
    simp
   have hset : ((pre ++ [cur]).map tby).set pre.length (tby (cur ++ [s.data.toList[i]])) = (pre ++ [cur ++ [s.data.toList[i]]]).map tby := by
    rw [List.map_append, List.set_append_right _ _ (by simp)]
    simp
   rw [stylusref45_words.l0, if_pos (by omega), if_pos (by omega), if_neg (by rw [hb]; intro z; exact c (UInt8.toNat_inj.1 (show (s.data.toList[i]).toNat = (32 : UInt8).toNat from by rw [show (32 : UInt8).toNat = 32 from rfl]; omega)))]
   rw [hl, show wrap64 ((pre.length : Int) + 1 - 1) = (pre.length : Int) from by rw [w64 (by omega) (by omega)]; omega]
   rw [if_pos (by omega), if_pos (by omega), hw, if_pos (by omega), if_pos (by omega), hr, Int.toNat_natCast, Int.toNat_natCast, Int.toNat_natCast, ex_one s i hi, tby_append, if_pos (by rw [tby_size, tby_size, List.length_singleton]; omega), hset]
theorem words_ev (l : List UInt8) (h : l.length ≤ 100000) : Ev (fun k => stylusref45_words.f k (tby l)) ((spl 32 [] l).map tby) := by
 have e := words_l0 (tby l) (by rw [tby_size]; omega) l.length 0 [] [] (by rw [tby_data]; omega) (by simp) (by simp)
 exact e
def nrGo : List UInt8 → Nat → Int → Int
 | [], _, n => n
 | b :: l, i, n => if isD b ∧ i ≤ 9 then nrGo l (i + 1) (10 * n + ((b.toNat : Int) - 48)) else -1
def numR (l : List UInt8) : Int := if l = [] then -1 else nrGo l 0 0
theorem number_l0 (s : ByteArray) (hs : s.size ≤ 100000) : ∀ (d i : Nat) (n : Int), i + d = s.data.toList.length → i ≤ 10 → 0 ≤ n → n < ((10 ^ i : Nat) : Int) →
  Ev (fun k => stylusref45_number.l0 k s n (i : Int)) (if s.data.toList = [] then -1 else nrGo (s.data.toList.drop i) i n)
 | 0, i, n, h, _, _, _ => by
  have hz := data_length s
  rw [List.drop_of_length_le (by omega), nrGo]
  refine Ev.step (f := fun _ => some (if s.data.toList = [] then -1 else n)) (fun k => ?_) (Ev.now _)
  rw [stylusref45_number.l0, if_neg (by omega), ByteArray.toList_eq]
  by_cases c : s.data.toList = []
  ·rw [if_pos c, if_pos c]
  ·rw [if_neg c, if_neg c]
 | d + 1, i, n, h, h10, h0, h1 => by
  have hz := data_length s
  have hi : i < s.data.toList.length := by omega
  have hb := tbt s i hi
  have hlt : (s.data.toList[i]).toNat < 256 := (s.data.toList[i]).toNat_lt
  have hne : s.data.toList ≠ [] := by intro z; rw [z] at hi; simp at hi
  have hp : 10 ^ i ≤ 10 ^ 10 := Nat.pow_le_pow_right (by decide) h10
  have hq : (10 ^ 10 : Nat) = 10000000000 := by decide
  rw [if_neg hne, List.drop_eq_getElem_cons hi, nrGo]
  by_cases c : isD s.data.toList[i] ∧ i ≤ 9
  ·rw [if_pos c]
   obtain ⟨c1, c2⟩ := c
   unfold isD at c1
   have e := number_l0 s hs d (i + 1) (10 * n + (((s.data.toList[i]).toNat : Int) - 48)) (by omega) (by omega) (by omega) (by rw [Nat.pow_succ]; omega)
   rw [if_neg hne] at e
   refine Ev.step (fun k => ?_) e
   rw [stylusref45_number.l0, if_pos (by omega), if_pos (by omega), hb, if_neg (by omega), if_neg (by omega), if_neg (by omega), w64 (x := (i : Int) + 1) (by omega) (by omega), w64 (x := 10 * n) (by omega) (by omega), w64 (by omega) (by omega)]
   congr 1
   omega
  ·rw [if_neg c]
   refine Ev.step (f := fun _ => some (-1)) (fun k => ?_) (Ev.now _)
   rw [stylusref45_number.l0, if_pos (by omega), if_pos (by omega), hb]
   by_cases c1 : ((s.data.toList[i]).toNat : Int) < 48
   ·rw [if_pos c1]
   ·rw [if_neg c1]
    by_cases c2 : ((s.data.toList[i]).toNat : Int) > 57
    ·rw [if_pos c2]
    ·rw [if_neg c2, if_pos]
     have : isD s.data.toList[i] := by unfold isD; omega
     have : ¬ i ≤ 9 := fun z => c ⟨this, z⟩
     omega
theorem number_ev (l : List UInt8) (h : l.length ≤ 100000) : Ev (fun k => stylusref45_number.f k (tby l)) (numR l) := by
 have e := number_l0 (tby l) (by rw [tby_size]; omega) l.length 0 0 (by rw [tby_data]; omega) (by omega) (by omega) (by decide)
 exact e
theorem nrGo_fo : ∀ (l : List UInt8) (i : Nat) (n : Int), (∀ b ∈ l, isD b) → i + l.length ≤ 10 → nrGo l i n = fo l n
 | [], _, _, _, _ => rfl
 | b :: l, i, n, h, hi => by
  rw [List.length_cons] at hi
  rw [nrGo, if_pos ⟨h b (by simp), by omega⟩, nrGo_fo l (i + 1) _ (fun x hx => h x (by simp [hx])) (by omega), show (10 : Int) * n = n * 10 from Int.mul_comm _ _]
  rfl
theorem numR_dec (n : Int) (h0 : 0 ≤ n) (h1 : n ≤ 2147483647) : numR (dec n) = n := by
 obtain ⟨h2, h3⟩ := dg_dig n.toNat
 have hl := dg_len 9 n.toNat (by omega)
 unfold numR dec
 rw [if_neg (c := n < 0) (by omega), if_neg (by intro z; rw [z] at hl; simp at hl), nrGo_fo _ 0 0 h2 (by omega)]
 have e := fo_vn (dg n.toNat) h2 0
 have e2 : ((dg n.toNat).foldl (fun a b => a * 10 + (b.toNat - 48)) 0) = n.toNat := h3
 rw [e2] at e
 have e3 : fo (dg n.toNat) 0 = ((n.toNat : Nat) : Int) := e
 omega
def vR (c : UInt8) : Int := match vh c with | some d => (d : Int) | none => -1
theorem value_l0 (c : UInt8) : ∀ (d j : Nat), j + d = 16 → (∀ i, i < j → UInt8.ofNat (hd i) ≠ c) → Ev (fun k => stylusref45_value.l0 k (c.toNat : Int) (j : Int)) (vR c)
 | 0, j, h, hj => by
  refine Ev.step (f := fun _ => some (vR c)) (fun k => ?_) (Ev.now _)
  rw [stylusref45_value.l0, if_neg (by omega)]
  unfold vR
  cases hv : vh c with
  | none => rfl
  | some x => obtain ⟨h1, h2⟩ := vh_of c x hv; exact absurd h2 (hj x (by omega))
 | d + 1, j, h, hj => by
  by_cases e : UInt8.ofNat (hd j) = c
  ·refine Ev.step (f := fun _ => some (vR c)) (fun k => ?_) (Ev.now _)
   have hl := hd_lt j (by omega)
   have e2 : (hd j : Int) = (c.toNat : Int) := by rw [← e, toNat_ofNat _ (by omega)]
   rw [stylusref45_value.l0, if_pos (by omega), ref_digit_is j (by omega), Option.bind_some, if_pos e2]
   unfold vR
   rw [← e, vh_hd j (by omega)]
  ·have r := value_l0 c d (j + 1) (by omega) (fun i hi => by
    by_cases q : i = j
    ·subst q; exact e
    ·exact hj i (by omega))
   refine Ev.step (fun k => ?_) r
   have e2 : ¬ (hd j : Int) = (c.toNat : Int) := fun z => e (by rw [show hd j = c.toNat from by omega]; exact UInt8.ofNat_toNat)
   rw [stylusref45_value.l0, if_pos (by omega), ref_digit_is j (by omega), Option.bind_some, if_neg e2, w64 (by omega) (by omega)]
   rfl
theorem ref_value_ev (c : UInt8) : Ev (fun k => stylusref45_value.f k (c.toNat : Int)) (vR c) := value_l0 c 16 0 (by omega) (fun i hi => by omega)
theorem vR_range (c : UInt8) : -1 ≤ vR c ∧ vR c ≤ 15 := by
 unfold vR
 cases hv : vh c with
 | none => exact ⟨by decide, by decide⟩
 | some x => obtain ⟨h1, _⟩ := vh_of c x hv; simp only; omega
def bytesR : List UInt8 → List Int
 | a :: b :: l => (16 * mx (vR a) 0 + mx (vR b) 0) % 256 :: bytesR l
 | _ => []
theorem mx_range (c : UInt8) : 0 ≤ mx (vR c) 0 ∧ mx (vR c) 0 ≤ 15 := by
 have := vR_range c
 unfold mx
 split <;> omega
theorem bytes_stop (s : ByteArray) (hs : s.size ≤ 100000) (i : Nat) (o : List Int) (hi : ¬ i + 1 < s.data.toList.length) (hq : i ≤ s.data.toList.length + 1) :
  Ev (fun k => stylusref45_bytes.l0 k s o (i : Int)) (strOfNums (o ++ bytesR (s.data.toList.drop i))) := by
 have hz := data_length s
 have e : bytesR (s.data.toList.drop i) = [] := by
  cases hd : s.data.toList.drop i with
  | nil => rfl
  | cons a t =>
   cases t with
   | nil => rfl
   | cons b t =>
    have := congrArg List.length hd
    rw [List.length_drop] at this
    simp only [List.length_cons] at this
    omega
 rw [e, List.append_nil]
 refine Ev.step (f := fun _ => some (strOfNums o)) (fun k => ?_) (Ev.now _)
 rw [stylusref45_bytes.l0, w64 (x := (i : Int) + 1) (by omega) (by omega), if_neg (by omega)]
theorem byte_w (x y : Int) (hx : 0 ≤ x ∧ x ≤ 15) (hy : 0 ≤ y ∧ y ≤ 15) : wrap64 (wrap64 (16 * x) + y) % 256 = (16 * x + y) % 256 := by
 rw [w64 (x := 16 * x) (by omega) (by omega), w64 (by omega) (by omega)]
theorem by_w1 (i : Nat) (h : i ≤ 1000000) : wrap64 ((i : Int) + 1) = ((i + 1 : Nat) : Int) := w64 (by omega) (by omega)
theorem by_w2 (i : Nat) (h : i ≤ 1000000) : wrap64 ((i : Int) + 2) = ((i + 2 : Nat) : Int) := w64 (by omega) (by omega)
theorem bytes_l0 (s : ByteArray) (hs : s.size ≤ 100000) : ∀ (d i : Nat) (o : List Int), s.data.toList.length ≤ i + 2 * d → o.length ≤ i → i ≤ s.data.toList.length + 1 →
  Ev (fun k => stylusref45_bytes.l0 k s o (i : Int)) (strOfNums (o ++ bytesR (s.data.toList.drop i)))
 | 0, i, o, h, ho, hq => bytes_stop s hs i o (by omega) hq
 | d + 1, i, o, h, ho, hq => by
  have hz := data_length s
  by_cases hi : i + 1 < s.data.toList.length
  ·have h0 : i < s.data.toList.length := by omega
   have t1 : s.data.toList.length ≤ i + 2 + 2 * d := by omega
   have t2 : i + 2 ≤ s.data.toList.length + 1 := by omega
   have t3 : ∀ x : Int, (o ++ [x]).length ≤ i + 2 := fun x => by rw [List.length_append]; simp; omega
   have l1 : ((i + 1 : Nat) : Int) < (s.size : Int) := by omega
   have l2 : (i : Int) < (s.size : Int) := by omega
   have l3 : o.length < 140737488355328 := by omega
   have q1 : wrap64 ((i : Int) + 1) = ((i + 1 : Nat) : Int) := by_w1 i (by omega)
   have q2 : wrap64 ((i : Int) + 2) = ((i + 2 : Nat) : Int) := by_w2 i (by omega)
   have e := bytes_l0 s hs d (i + 2) (o ++ [(16 * mx (vR (s.data.toList[i])) 0 + mx (vR (s.data.toList[i + 1])) 0) % 256]) t1 (t3 _) t2
   have b1 := tbt s i h0
   have b2 := tbt s (i + 1) hi
   rw [List.drop_eq_getElem_cons h0, List.drop_eq_getElem_cons hi, bytesR]
   rw [List.append_assoc] at e
   refine Ev.step (fun k => by rw [stylusref45_bytes.l0, q1, if_pos l1, if_pos (Int.natCast_nonneg i), if_pos l2, b1, b2, q2]) ?_
   refine Ev.bind (ref_value_ev _) (Ev.pos (Int.natCast_nonneg _) (Ev.bind (ref_value_ev _) (Ev.pos l3 ?_)))
   rw [byte_w _ _ (mx_range _) (mx_range _)]
   exact e
  ·exact bytes_stop s hs i o hi hq
theorem bytes_ev (l : List UInt8) (h : l.length ≤ 100000) : Ev (fun k => stylusref45_bytes.f k (tby l)) (strOfNums (bytesR (l.drop 1))) := by
 have e := bytes_l0 (tby l) (by rw [tby_size]; omega) l.length 1 [] (by rw [tby_data]; omega) (by simp) (by omega)
 exact e
theorem bytesR_hx (l : List UInt8) : strOfNums (bytesR (hx l)) = tby l := by
 rw [tby_nums]
 congr 1
 induction l with
 | nil => rfl
 | cons b l ih =>
  have hb : b.toNat < 256 := b.toNat_lt
  rw [hx_cons, bytesR, List.map_cons, ih]
  congr 1
  unfold vR
  rw [vh_hd _ (by omega), vh_hd _ (by omega)]
  unfold mx
  simp only
  rw [if_neg (by omega), if_neg (by omega), show (((16 * ((b.toNat / 16 : Nat) : Int) + ((b.toNat % 16 : Nat) : Int)) % 256)).toNat = b.toNat from by omega, UInt8.ofNat_toNat]
theorem ref_Parse_l0 (l w a b h : List UInt8) (hl : l.length ≤ 100000) (e : spl 32 [] l = [w, a, b, h]) : ∀ (d j : Nat), j + d = 19 → 1 ≤ j →
  (∀ k : Int, 1 ≤ k → k < j → ¬ (rightB k (numR a) (numR b) (strOfNums (bytesR (h.drop 1))) = true ∧ callT k (numR a) (numR b) (strOfNums (bytesR (h.drop 1))) = l)) →
  Ev (fun k => stylusref45_Parse.l0 k (tby l) [tby w, tby a, tby b, tby h] (j : Int)) (prs l)
 | 0, j, hj, hj1, hn => by
  refine Ev.step (f := fun _ => some (prs l)) (fun k => ?_) (Ev.now _)
  rw [stylusref45_Parse.l0, if_neg (by omega)]
  by_cases c : (prs l).2.2.2.2 = 0
  ·exfalso
   obtain ⟨r1, r2⟩ := prs_ok l c
   have r := of_decide_eq_true r1
   have r3 := callT_spl _ _ _ _ r1
   rw [r2, e] at r3
   obtain ⟨s1, s2⟩ := List.cons.inj r3
   obtain ⟨s3, s4⟩ := List.cons.inj s2
   obtain ⟨s5, s6⟩ := List.cons.inj s4
   obtain ⟨s7, s8⟩ := List.cons.inj s6
   refine hn (prs l).1 (by omega) (by omega) ?_
   rw [s3, s5, s7, numR_dec _ (by omega) (by omega), numR_dec _ (by omega) (by omega)]
   unfold hexL
   rw [List.drop_one, List.tail_cons, bytesR_hx, tby_self]
   exact ⟨r1, r2⟩
  ·rw [prs_err l c]
 | d + 1, j, hj, hj1, hn => by
  have ma := sq_mem 32 l [] a (by rw [e]; simp)
  have mb := sq_mem 32 l [] b (by rw [e]; simp)
  have mh := sq_mem 32 l [] h (by rw [e]; simp)
  simp only [List.length_nil] at ma mb mh
  have nx : ¬ (rightB (j : Int) (numR a) (numR b) (strOfNums (bytesR (h.drop 1))) = true ∧ callT (j : Int) (numR a) (numR b) (strOfNums (bytesR (h.drop 1))) = l) → Ev (fun k => stylusref45_Parse.l0 k (tby l) [tby w, tby a, tby b, tby h] (wrap64 ((j : Int) + 1))) (prs l) := fun hc => by
   have r := ref_Parse_l0 l w a b h hl e d (j + 1) (by omega) (by omega) (fun k h1 h2 => by
    by_cases q : k = j
    ·subst q; exact hc
    ·exact hn k h1 (by omega))
   rw [w64 (by omega) (by omega)]
   exact r
  refine Ev.step (fun k => by rw [stylusref45_Parse.l0, if_pos (by omega)]) ?_
  refine Ev.pos (by simp) (Ev.bind (number_ev a (by omega)) (Ev.pos (by simp) (Ev.bind (number_ev b (by omega)) (Ev.pos (by simp) (Ev.bind (bytes_ev h (by omega)) (Ev.call (ref_Right_is _ _ _ _) ?_))))))
  by_cases c : rightB (j : Int) (numR a) (numR b) (strOfNums (bytesR (h.drop 1))) = true
  ·refine Ev.pos c (Ev.bind (ref_Call_ev _ _ _ _) ?_)
   unfold callE
   rw [if_pos c, ByteArray.toList_eq, ByteArray.toList_eq, tby_data, tby_data]
   by_cases q : callT (j : Int) (numR a) (numR b) (strOfNums (bytesR (h.drop 1))) = l
   ·have r := prs_call _ _ _ _ c
    rw [q] at r
    rw [r]
    exact Ev.pos q (Ev.now _)
   ·exact Ev.neg q (nx fun z => q z.2)
  ·exact Ev.neg c (nx fun z => c z.1)
theorem ref_Parse_ev (l : List UInt8) (hl : l.length ≤ 1100) : Ev (fun k => stylusref45_Parse.f k (tby l)) (prs l) := by
 unfold stylusref45_Parse.f
 refine Ev.neg (by rw [tby_size]; omega) (Ev.bind (words_ev l (by omega)) ?_)
 by_cases c : (spl 32 [] l).length = 4
 ·obtain ⟨w, a, b, u, e⟩ := spl_of4 l c
  rw [e]
  exact Ev.pos rfl (ref_Parse_l0 l w a b u (by omega) e 18 1 (by omega) (by omega) (fun k h1 h2 => by omega))
 ·rw [prs_no l c]
  exact Ev.neg (by rw [List.length_map]; omega) (Ev.now _)
end Go.Proofs.YtednfgphhelkjaaDoor.P
