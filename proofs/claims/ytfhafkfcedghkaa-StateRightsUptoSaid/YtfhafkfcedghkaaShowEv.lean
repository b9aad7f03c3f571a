/- States: how a state shows, how large it is: the program's and the reference's. -/
import Derived.Test.YtfhafkfcedghkaaPx8
import Derived.Test.YtfhafkfcedghkaaPx9
import Derived.Test.YtfhafkfcedghkaaPx16
import Derived.Test.YtfhafkfcedghkaaPx17
import Derived.Test.YtfhafkfcedghkaaPx18
import Derived.Test.YtfhafkfcedghkaaPx19
import Derived.Test.YtfhafkfcedghkaaRightEv
import Derived.Lib.Join
import Derived.Laws.Bits64
namespace Go.Proofs.Ytfhafkfcedghkaa.P
open Go.RowKit Go.Proofs.YtfhafkfcedghkaaW.PrintWords Go.Proofs.YtfhafkfcedghkaaW.PrintLast
theorem natural_ex : ∀ (j : Nat) (n : Int), 0 ≤ n → n < ((10 ^ (j + 1) : Nat) : Int) → j ≤ 30 → n < 18446744073709551616 → ∃ d, Ev (fun k => state_natural.f k n) d ∧ d.size ≤ j + 1
 | 0, n, h0, h1, _, h2 => by
  have h3 : n < 10 := h1
  exact ⟨_, Ev.step (f := fun _ => some (strOfNums [(IntKind.u64.wrap (48 + (Int.tmod n 10))) % 256])) (fun k => by rw [state_natural.f, Option.bind_some, if_pos h3]) (Ev.now _), by rw [strOfNums_size]; exact Nat.le_refl 1⟩
 | j + 1, n, h0, h1, hj, h2 => by
  by_cases c : n < 10
  ·exact ⟨_, Ev.step (f := fun _ => some (strOfNums [(IntKind.u64.wrap (48 + (Int.tmod n 10))) % 256])) (fun k => by rw [state_natural.f, Option.bind_some, if_pos c]) (Ev.now _), by rw [strOfNums_size]; show 1 ≤ _; omega⟩
  have hp : (10 ^ (j + 1 + 1) : Nat) = 10 ^ (j + 1) * 10 := Nat.pow_succ ..
  rw [hp, Int.natCast_mul] at h1
  have hw : IntKind.u64.wrap (Int.tdiv n 10) = n / 10 := by
   rw [Int.tdiv_eq_ediv_of_nonneg h0, IntKind.wrap_u64]; omega
  have h3 : n / 10 < ((10 ^ (j + 1) : Nat) : Int) := by
   generalize ((10 ^ (j + 1) : Nat) : Int) = z at h1 ⊢
   omega
  obtain ⟨d, e, hs⟩ := natural_ex j (n / 10) (by omega) h3 (by omega) (by omega)
  have hz : (strOfNums [(IntKind.u64.wrap (48 + (Int.tmod n 10))) % 256]).size = 1 := by rw [strOfNums_size]; rfl
  refine ⟨_, Ev.step (fun k => by rw [state_natural.f, Option.bind_some, if_neg c, hw]) (Ev.bind e (Ev.pos (c := d.size + (strOfNums [(IntKind.u64.wrap (48 + (Int.tmod n 10))) % 256]).size ≤ 9223372036854775807) (by rw [hz]; omega) (Ev.now _))), ?_⟩
  rw [ByteArray.size_append, hz]; omega
theorem digits_ex (n : Int) (h : -9223372036854775808 ≤ n ∧ n ≤ 9223372036854775807) : ∃ d, Ev (fun k => state_digits.f k n) d ∧ d.size ≤ 21 := by
 have hp : ((10 ^ (19 + 1) : Nat) : Int) = 100000000000000000000 := rfl
 unfold state_digits.f
 by_cases c : n < 0
 ·have hw : IntKind.u64.wrap (-(IntKind.u64.wrap n)) = -n := by rw [IntKind.wrap_u64, IntKind.wrap_u64]; omega
  obtain ⟨d, e, hs⟩ := natural_ex 19 (-n) (by omega) (by rw [hp]; omega) (by omega) (by omega)
  refine ⟨_, Ev.pos c (by rw [hw]; exact Ev.bind e (Ev.pos (by omega) (Ev.now _))), ?_⟩
  rw [ByteArray.size_append, show (⟨#[45]⟩ : ByteArray).size = 1 from rfl]; omega
 ·have hw : IntKind.u64.wrap n = n := by rw [IntKind.wrap_u64]; omega
  obtain ⟨d, e, hs⟩ := natural_ex 19 n (by omega) (by rw [hp]; omega) (by omega) (by omega)
  exact ⟨d, Ev.neg c (by rw [hw]; exact Ev.bind e (Ev.now _)), by omega⟩
noncomputable def dg (n : Int) : ByteArray := if h : -9223372036854775808 ≤ n ∧ n ≤ 9223372036854775807 then Classical.choose (digits_ex n h) else ⟨#[]⟩
theorem dg_ev (n : Int) (h : -9223372036854775808 ≤ n ∧ n ≤ 9223372036854775807) : Ev (fun k => state_digits.f k n) (dg n) ∧ (dg n).size ≤ 21 := by
 unfold dg
 rw [dif_pos h]
 exact Classical.choose_spec (digits_ex n h)
theorem plain_eq : ∀ (k : Nat) (n : Int), stylusref03_plain.f k n = state_natural.f k n
 | 0, n => rfl
 | k + 1, n => by
  rw [stylusref03_plain.f, state_natural.f, Option.bind_some, Option.bind_some, plain_eq k]
theorem Plain_eq (k : Nat) (n : Int) : stylusref03_Plain.f k n = state_digits.f k n := by
 unfold stylusref03_Plain.f state_digits.f
 rw [plain_eq, plain_eq]
def ba (l : List UInt8) : ByteArray := ⟨l.toArray⟩
theorem ba_app (l : List UInt8) (b : ByteArray) : ba l ++ b = ba (l ++ b.data.toList) := by
 apply ByteArray.ext
 simp [ba]
theorem ba_size (l : List UInt8) : (ba l).size = l.length := by simp [ba, ByteArray.size]
theorem app_ba (x y : ByteArray) : x ++ y = ba (x.data.toList ++ y.data.toList) := by
 apply ByteArray.ext
 simp [ba]
theorem dl (b : ByteArray) : b.data.toList.length = b.size := data_length b
theorem join2 (x y : List UInt8) : Lib.join [x, y] [32] = x ++ ([32] ++ y) := by simp [Lib.join, List.intercalate]
theorem join3 (x y z : List UInt8) : Lib.join [x, y, z] [32] = x ++ ([32] ++ (y ++ ([32] ++ z))) := by simp [Lib.join, List.intercalate]
def ln2 (o : List UInt8) (x y : ByteArray) : List UInt8 := o ++ (x.data.toList ++ ([32] ++ y.data.toList)) ++ [10]
def ln3 (o : List UInt8) (x y z : ByteArray) : List UInt8 := o ++ (x.data.toList ++ ([32] ++ (y.data.toList ++ ([32] ++ z.data.toList)))) ++ [10]
theorem ln2_len (o : List UInt8) (x y : ByteArray) : (ln2 o x y).length = o.length + x.size + y.size + 2 := by
 unfold ln2
 simp only [List.length_append, List.length_cons, List.length_nil, dl]; omega
theorem ln3_len (o : List UInt8) (x y z : ByteArray) : (ln3 o x y z).length = o.length + x.size + y.size + z.size + 3 := by
 unfold ln3
 simp only [List.length_append, List.length_cons, List.length_nil, dl]; omega
theorem add2 (o : List UInt8) (x y : ByteArray) (h : o.length + x.size + y.size ≤ 1000000000) : show_add o [x, y] = some (ln2 o x y) := by
 unfold show_add ln2
 rw [show ([x, y].map fun b : ByteArray => b.data.toList) = [x.data.toList, y.data.toList] from rfl, join2]
 exact if_pos (by simp only [List.length_append, List.length_cons, List.length_nil, dl]; omega)
theorem add3 (o : List UInt8) (x y z : ByteArray) (h : o.length + x.size + y.size + z.size ≤ 1000000000) : show_add o [x, y, z] = some (ln3 o x y z) := by
 unfold show_add ln3
 rw [show ([x, y, z].map fun b : ByteArray => b.data.toList) = [x.data.toList, y.data.toList, z.data.toList] from rfl, join3]
 exact if_pos (by simp only [List.length_append, List.length_cons, List.length_nil, dl]; omega)
noncomputable def markT : List Mk → List UInt8 → List UInt8
 | [], o => o
 | m :: r, o => markT r (ln3 o ⟨#[109, 97, 114, 107]⟩ m.f0 (dg m.f1))
def okM (m : Mk) : Prop := m.f0.size ≤ 1048576 ∧ -9223372036854775808 ≤ m.f1 ∧ m.f1 ≤ 9223372036854775807
theorem markT_len : ∀ (l : List Mk) (o : List UInt8), (∀ m ∈ l, okM m) → (markT l o).length ≤ o.length + l.length * 2000000
 | [], o, _ => by rw [markT]; omega
 | m :: r, o, h => by
  have h1 := h m (List.mem_cons_self ..)
  have h2 := markT_len r (ln3 o ⟨#[109, 97, 114, 107]⟩ m.f0 (dg m.f1)) (fun x hx => h x (List.mem_cons_of_mem _ hx))
  have h3 := (dg_ev m.f1 h1.2).2
  rw [ln3_len, show (⟨#[109, 97, 114, 107]⟩ : ByteArray).size = 4 from rfl] at h2
  rw [markT, List.length_cons]
  have := h1.1
  omega
theorem show_marks_ev : ∀ (l : List Mk) (o : List UInt8), (∀ m ∈ l, okM m) → o.length + l.length * 2000000 ≤ 100000000 → Ev (fun k => show_marks k l o) (markT l o)
 | [], o, _, _ => Ev.now _
 | m :: r, o, h, hl => by
  have h1 := h m (List.mem_cons_self ..)
  have h3 := dg_ev m.f1 h1.2
  have h4 := h1.1
  rw [List.length_cons] at hl
  have hz : (⟨#[109, 97, 114, 107]⟩ : ByteArray).size = 4 := rfl
  exact Ev.bind h3.1 (Ev.call (add3 o _ _ _ (by rw [hz]; omega)) (show_marks_ev r _ (fun x hx => h x (List.mem_cons_of_mem _ hx)) (by rw [ln3_len, hz]; omega)))
noncomputable def endT (u r : Nat) (op : Bool) (g : Nat) (o : List UInt8) : List UInt8 :=
 if op = true then ln2 (ln2 (ln2 o ⟨#[117, 110, 100, 111]⟩ (dg (u : Int))) ⟨#[114, 101, 100, 111]⟩ (dg (r : Int))) ⟨#[111, 112, 101, 110]⟩ (dg (g : Int)) else ln2 (ln2 o ⟨#[117, 110, 100, 111]⟩ (dg (u : Int))) ⟨#[114, 101, 100, 111]⟩ (dg (r : Int))
noncomputable def showT (t : ByteArray) (m : List Mk) (u r : List Stp) (op : Bool) (g : List Ed) : ByteArray := ba (endT u.length r.length op g.length (markT m (ln2 [] ⟨#[116, 101, 120, 116]⟩ t)))
theorem state_Show_ev (t : ByteArray) (m : List Mk) (u r : List Stp) (o : Bool) (g : List Ed) (F : Few25 t m u r g) (hm : ∀ x ∈ m, okM x) : Ev (fun k => state_Show.f k t m u r o g) (showT t m u r o g) := by
 have f1 := F.text
 have f2 := F.marks
 have f3 := F.undo
 have f4 := F.redo
 have f5 := F.group
 have z1 : (⟨#[116, 101, 120, 116]⟩ : ByteArray).size = 4 := rfl
 have z2 : (⟨#[117, 110, 100, 111]⟩ : ByteArray).size = 4 := rfl
 have z3 : (⟨#[114, 101, 100, 111]⟩ : ByteArray).size = 4 := rfl
 have z4 : (⟨#[111, 112, 101, 110]⟩ : ByteArray).size = 4 := rfl
 have l0 : (ln2 [] ⟨#[116, 101, 120, 116]⟩ t).length = t.size + 6 := by rw [ln2_len, z1, List.length_nil]; omega
 have l1 := markT_len m (ln2 [] ⟨#[116, 101, 120, 116]⟩ t) hm
 have du := dg_ev (u.length : Int) (by omega)
 have dr := dg_ev (r.length : Int) (by omega)
 have dgg := dg_ev (g.length : Int) (by omega)
 unfold state_Show.f showT endT
 refine Ev.neg (by omega) (Ev.call (add2 [] _ t (by rw [z1, List.length_nil]; omega)) (Ev.bind (show_marks_ev m _ hm (by omega)) (Ev.bind du.1 (Ev.call (add2 _ _ _ (by rw [z2]; omega)) (Ev.bind dr.1 (Ev.call (add2 _ _ _ (by rw [z3, ln2_len, z2]; omega)) ?_))))))
 cases o with
 | true => exact Ev.pos rfl (Ev.bind dgg.1 (Ev.call (add2 _ _ _ (by rw [z4, ln2_len, ln2_len, z2, z3]; omega)) (Ev.now _)))
 | false => exact Ev.neg Bool.false_ne_true (Ev.now _)
theorem ref_Show_l (t : ByteArray) (m : List Mk) (u r : List Stp) (o : Bool) (g : List Ed) (hu : u.length ≤ 1000) (hr : r.length ≤ 1000) (hg : g.length ≤ 1000) (hl : m.length ≤ 1000) (hm : ∀ x ∈ m, okM x) : ∀ (d i : Nat) (w : List UInt8), i + d = m.length → w.length + d * 2000000 ≤ 100000000 → Ev (fun k => stylusref25_Show.l0 k (ba w) (i : Int) t m u r o g) (ba (endT u.length r.length o g.length (markT (m.drop i) w)))
 | 0, i, w, hd, hw => by
  rw [List.drop_eq_nil_of_le (by omega), markT]
  have du := dg_ev (u.length : Int) (by omega)
  have dr := dg_ev (r.length : Int) (by omega)
  have dgg := dg_ev (g.length : Int) (by omega)
  have z1 : (⟨#[117, 110, 100, 111, 32]⟩ : ByteArray).size = 5 := rfl
  have z2 : (⟨#[10, 114, 101, 100, 111, 32]⟩ : ByteArray).size = 6 := rfl
  have z3 : (⟨#[10]⟩ : ByteArray).size = 1 := rfl
  have z4 : (⟨#[111, 112, 101, 110, 32]⟩ : ByteArray).size = 5 := rfl
  refine Ev.step (fun k => by rw [stylusref25_Show.l0, if_neg (by omega), if_pos (by rw [ba_size]; omega)]) ?_
  simp only [Plain_eq]
  refine Ev.bind du.1 ?_
  refine Ev.pos (by simp only [ByteArray.size_append, ba_size, z1]; omega) ?_
  refine Ev.pos (by simp only [ByteArray.size_append, ba_size, z1]; omega) ?_
  refine Ev.bind dr.1 ?_
  refine Ev.pos (by simp only [ByteArray.size_append, ba_size, z1, z2]; omega) ?_
  refine Ev.pos (by simp only [ByteArray.size_append, ba_size, z1, z2]; omega) ?_
  unfold endT
  cases o with
  | false =>
   refine Ev.neg Bool.false_ne_true (Ev.to (Ev.now _) ?_)
   simp only [ba_app, ln2, if_neg Bool.false_ne_true]
   congr 1
   simp
  | true =>
   refine Ev.pos rfl ?_
   refine Ev.pos (by simp only [ByteArray.size_append, ba_size, z1, z2, z3]; omega) ?_
   refine Ev.bind dgg.1 ?_
   refine Ev.pos (by simp only [ByteArray.size_append, ba_size, z1, z2, z3, z4]; omega) ?_
   refine Ev.pos (by simp only [ByteArray.size_append, ba_size, z1, z2, z3, z4]; omega) (Ev.to (Ev.now _) ?_)
   simp only [ba_app, ln2, if_pos]
   congr 1
   simp
 | d + 1, i, w, hd, hw => by
  have hi : i < m.length := by omega
  have h1 := hm _ (List.getElem_mem hi)
  have h3 := dg_ev m[i].f1 h1.2
  have h4 := h1.1
  have z1 : (⟨#[109, 97, 114, 107, 32]⟩ : ByteArray).size = 5 := rfl
  have z2 : (⟨#[32]⟩ : ByteArray).size = 1 := rfl
  have z3 : (⟨#[109, 97, 114, 107]⟩ : ByteArray).size = 4 := rfl
  rw [List.drop_eq_getElem_cons hi, markT]
  refine Ev.step (fun k => by rw [stylusref25_Show.l0, if_pos (by omega), if_pos (by rw [ba_size]; omega), if_pos (by omega), rd_mk m i hi, if_pos (by simp only [ByteArray.size_append, ba_size, z1]; omega), if_pos (by simp only [ByteArray.size_append, ba_size, z1]; omega), Plain_eq]) ?_
  refine Ev.bind h3.1 ?_
  refine Ev.pos (by simp only [ByteArray.size_append, ba_size, z1, z2]; omega) ?_
  refine Ev.pos (by simp only [ByteArray.size_append, ba_size, z1, z2]; omega) ?_
  rw [w64 (x := (i : Int) + 1) (by omega) (by omega)]
  have h := ref_Show_l t m u r o g hu hr hg hl hm d (i + 1) (ln3 w ⟨#[109, 97, 114, 107]⟩ m[i].f0 (dg m[i].f1)) (by omega) (by rw [ln3_len, z3]; omega)
  have e : ba w ++ (⟨#[109, 97, 114, 107, 32]⟩ : ByteArray) ++ m[i].f0 ++ (⟨#[32]⟩ : ByteArray) ++ dg m[i].f1 ++ (⟨#[10]⟩ : ByteArray) = ba (ln3 w ⟨#[109, 97, 114, 107]⟩ m[i].f0 (dg m[i].f1)) := by
   simp only [ba_app, ln3]
   congr 1
   simp
  rw [e]
  exact h
theorem ref_Show_ev (t : ByteArray) (m : List Mk) (u r : List Stp) (o : Bool) (g : List Ed) (F : Few25 t m u r g) (hm : ∀ x ∈ m, okM x) : Ev (fun k => stylusref25_Show.f k t m u r o g) (showT t m u r o g) := by
 have f1 := F.text
 have f2 := F.marks
 have f3 := F.undo
 have f4 := F.redo
 have f5 := F.group
 have z1 : (⟨#[116, 101, 120, 116, 32]⟩ : ByteArray).size = 5 := rfl
 have z2 : (⟨#[116, 101, 120, 116]⟩ : ByteArray).size = 4 := rfl
 unfold stylusref25_Show.f showT
 have e : (⟨#[116, 101, 120, 116, 32]⟩ : ByteArray) ++ t ++ (⟨#[10]⟩ : ByteArray) = ba (ln2 [] ⟨#[116, 101, 120, 116]⟩ t) := by
  simp only [app_ba, ln2]
  congr 1
 refine Ev.pos (by omega) (Ev.pos (by rw [ByteArray.size_append, z1]; omega) ?_)
 rw [e]
 exact ref_Show_l t m u r o g (by omega) (by omega) (by omega) (by omega) hm m.length 0 _ (by omega) (by rw [ln2_len, z2, List.length_nil]; omega)
def bs : Int → List Ed → Int
 | x, [] => x
 | x, e :: l => bs (wrap64 (x + wrap64 ((e.f1.size : Int) + (e.f2.size : Int)))) l
def ms : Int → List Mk → Int
 | x, [] => x
 | x, e :: l => ms (wrap64 (x + (e.f0.size : Int))) l
def ss : Int → List Stp → Int
 | x, [] => x
 | x, e :: l => ss (wrap64 (x + bs 0 e.f0)) l
theorem wrap_two (x a b : Int) : wrap64 (wrap64 (x + a) + b) = wrap64 (x + wrap64 (a + b)) := by unfold wrap64; omega
theorem bytes_l (E : List Ed) (hE : E.length ≤ 1000000) : ∀ (d i : Nat) (x : Int), i + d = E.length → Ev (fun k => state_bytes.l0 k x E (E.length : Int) (i : Int)) (bs x (E.drop i))
 | 0, i, x, hd => by
  rw [List.drop_eq_nil_of_le (by omega)]
  exact Ev.step (f := fun _ => some x) (fun k => by rw [state_bytes.l0, if_neg (by omega)]) (Ev.now _)
 | d + 1, i, x, hd => by
  have hi : i < E.length := by omega
  rw [List.drop_eq_getElem_cons hi, bs]
  exact Ev.step (fun k => by rw [state_bytes.l0, if_pos (by omega), if_pos (by omega), if_pos (by omega), rd_ed E i hi, w64 (x := (i : Int) + 1) (by omega) (by omega)]; rfl) (bytes_l E hE d (i + 1) _ (by omega))
theorem bytes_ev (E : List Ed) (hE : E.length ≤ 1000000) : Ev (fun k => state_bytes.f k E) (bs 0 E) := bytes_l E hE E.length 0 0 (by omega)
theorem ref_bytes_l (E : List Ed) (hE : E.length ≤ 1000000) : ∀ (d i : Nat) (x : Int), i + d = E.length → Ev (fun k => stylusref25_bytes.l0 k E x (i : Int)) (bs x (E.drop i))
 | 0, i, x, hd => by
  rw [List.drop_eq_nil_of_le (by omega)]
  exact Ev.step (f := fun _ => some x) (fun k => by rw [stylusref25_bytes.l0, if_neg (by omega)]) (Ev.now _)
 | d + 1, i, x, hd => by
  have hi : i < E.length := by omega
  rw [List.drop_eq_getElem_cons hi, bs]
  exact Ev.step (fun k => by rw [stylusref25_bytes.l0, if_pos (by omega), if_pos (by omega), rd_ed E i hi, wrap_two, w64 (x := (i : Int) + 1) (by omega) (by omega)]; rfl) (ref_bytes_l E hE d (i + 1) _ (by omega))
theorem ref_bytes_ev (E : List Ed) (hE : E.length ≤ 1000000) : Ev (fun k => stylusref25_bytes.f k E) (bs 0 E) := ref_bytes_l E hE E.length 0 0 (by omega)
theorem size_l2 (l : List Stp) (hl : l.length ≤ 1000000) (hs : ∀ s ∈ l, s.f0.length ≤ 1000000) : ∀ (d i : Nat) (x : Int), i + d = l.length → Ev (fun k => state_Size.l2 k x l (l.length : Int) (i : Int)) (ss x (l.drop i))
 | 0, i, x, hd => by
  rw [List.drop_eq_nil_of_le (by omega)]
  exact Ev.step (f := fun _ => some x) (fun k => by rw [state_Size.l2, if_neg (by omega)]) (Ev.now _)
 | d + 1, i, x, hd => by
  have hi : i < l.length := by omega
  rw [List.drop_eq_getElem_cons hi, ss]
  refine Ev.step (fun k => by rw [state_Size.l2, if_pos (by omega), if_pos (by omega), if_pos (by omega), rd_st l i hi, w64 (x := (i : Int) + 1) (by omega) (by omega)]) (Ev.bind (bytes_ev _ (hs _ (List.getElem_mem hi))) ?_)
  exact size_l2 l hl hs d (i + 1) _ (by omega)
theorem size_l1 (t : ByteArray) (m : List Mk) (l r : List Stp) (o : Bool) (g : List Ed) (hl : l.length ≤ 1000000) (hs : ∀ s ∈ l, s.f0.length ≤ 1000000) (hr : r.length ≤ 1000000) (hq : ∀ s ∈ r, s.f0.length ≤ 1000000) : ∀ (d i : Nat) (x : Int), i + d = l.length → Ev (fun k => state_Size.l1 k x l (l.length : Int) (i : Int) t m l r o g) (ss (ss x (l.drop i)) r)
 | 0, i, x, hd => by
  rw [List.drop_eq_nil_of_le (by omega), ss]
  exact Ev.step (fun k => by rw [state_Size.l1, if_neg (by omega)]; rfl) (size_l2 r hr hq r.length 0 x (by omega))
 | d + 1, i, x, hd => by
  have hi : i < l.length := by omega
  rw [List.drop_eq_getElem_cons hi, ss]
  refine Ev.step (fun k => by rw [state_Size.l1, if_pos (by omega), if_pos (by omega), if_pos (by omega), rd_st l i hi, w64 (x := (i : Int) + 1) (by omega) (by omega)]) (Ev.bind (bytes_ev _ (hs _ (List.getElem_mem hi))) ?_)
  exact size_l1 t m l r o g hl hs hr hq d (i + 1) _ (by omega)
theorem size_l0 (t : ByteArray) (m : List Mk) (l r : List Stp) (o : Bool) (g : List Ed) (hm : m.length ≤ 1000000) (hl : l.length ≤ 1000000) (hs : ∀ s ∈ l, s.f0.length ≤ 1000000) (hr : r.length ≤ 1000000) (hq : ∀ s ∈ r, s.f0.length ≤ 1000000) : ∀ (d i : Nat) (x : Int), i + d = m.length → Ev (fun k => state_Size.l0 k x m (m.length : Int) (i : Int) t m l r o g) (ss (ss (ms x (m.drop i)) l) r)
 | 0, i, x, hd => by
  rw [List.drop_eq_nil_of_le (by omega), ms]
  exact Ev.step (fun k => by rw [state_Size.l0, if_neg (by omega)]; rfl) (size_l1 t m l r o g hl hs hr hq l.length 0 x (by omega))
 | d + 1, i, x, hd => by
  have hi : i < m.length := by omega
  rw [List.drop_eq_getElem_cons hi, ms]
  exact Ev.step (fun k => by rw [state_Size.l0, if_pos (by omega), if_pos (by omega), if_pos (by omega), rd_mk m i hi, w64 (x := (i : Int) + 1) (by omega) (by omega)]; rfl) (size_l0 t m l r o g hm hl hs hr hq d (i + 1) _ (by omega))
def sizeT (t : ByteArray) (m : List Mk) (u r : List Stp) (g : List Ed) : Int := ss (ss (ms (wrap64 ((t.size : Int) + bs 0 g)) m) u) r
theorem state_Size_ev (t : ByteArray) (m : List Mk) (u r : List Stp) (o : Bool) (g : List Ed) (F : Few25 t m u r g) : Ev (fun k => state_Size.f k t m u r o g) (sizeT t m u r g) :=
 Ev.bind (bytes_ev g (by have := F.group; omega)) (size_l0 t m u r o g (by have := F.marks; omega) (by have := F.undo; omega) (fun s h => by have := F.us s h; omega) (by have := F.redo; omega) (fun s h => by have := F.rs s h; omega) m.length 0 _ (by omega))
theorem ref_size_l2 (t : ByteArray) (m : List Mk) (l r : List Stp) (o : Bool) (g : List Ed) (hr : r.length ≤ 1000000) (hq : ∀ s ∈ r, s.f0.length ≤ 1000000) : ∀ (d i : Nat) (x : Int), i + d = r.length → Ev (fun k => stylusref25_Size.l2 k x (i : Int) t m l r o g) (ss x (r.drop i))
 | 0, i, x, hd => by
  rw [List.drop_eq_nil_of_le (by omega)]
  exact Ev.step (f := fun _ => some x) (fun k => by rw [stylusref25_Size.l2, if_neg (by omega)]) (Ev.now _)
 | d + 1, i, x, hd => by
  have hi : i < r.length := by omega
  rw [List.drop_eq_getElem_cons hi, ss]
  refine Ev.step (fun k => by rw [stylusref25_Size.l2, if_pos (by omega), if_pos (by omega), rd_st r i hi, w64 (x := (i : Int) + 1) (by omega) (by omega)]) (Ev.bind (ref_bytes_ev _ (hq _ (List.getElem_mem hi))) ?_)
  exact ref_size_l2 t m l r o g hr hq d (i + 1) _ (by omega)
theorem ref_size_l1 (t : ByteArray) (m : List Mk) (l r : List Stp) (o : Bool) (g : List Ed) (hl : l.length ≤ 1000000) (hs : ∀ s ∈ l, s.f0.length ≤ 1000000) (hr : r.length ≤ 1000000) (hq : ∀ s ∈ r, s.f0.length ≤ 1000000) : ∀ (d i : Nat) (x : Int), i + d = l.length → Ev (fun k => stylusref25_Size.l1 k x (i : Int) t m l r o g) (ss (ss x (l.drop i)) r)
 | 0, i, x, hd => by
  rw [List.drop_eq_nil_of_le (by omega), ss]
  exact Ev.step (fun k => by rw [stylusref25_Size.l1, if_neg (by omega)]; rfl) (ref_size_l2 t m l r o g hr hq r.length 0 x (by omega))
 | d + 1, i, x, hd => by
  have hi : i < l.length := by omega
  rw [List.drop_eq_getElem_cons hi, ss]
  refine Ev.step (fun k => by rw [stylusref25_Size.l1, if_pos (by omega), if_pos (by omega), rd_st l i hi, w64 (x := (i : Int) + 1) (by omega) (by omega)]) (Ev.bind (ref_bytes_ev _ (hs _ (List.getElem_mem hi))) ?_)
  exact ref_size_l1 t m l r o g hl hs hr hq d (i + 1) _ (by omega)
theorem ref_size_l0 (t : ByteArray) (m : List Mk) (l r : List Stp) (o : Bool) (g : List Ed) (hm : m.length ≤ 1000000) (hl : l.length ≤ 1000000) (hs : ∀ s ∈ l, s.f0.length ≤ 1000000) (hr : r.length ≤ 1000000) (hq : ∀ s ∈ r, s.f0.length ≤ 1000000) : ∀ (d i : Nat) (x : Int), i + d = m.length → Ev (fun k => stylusref25_Size.l0 k x (i : Int) t m l r o g) (ss (ss (ms x (m.drop i)) l) r)
 | 0, i, x, hd => by
  rw [List.drop_eq_nil_of_le (by omega), ms]
  exact Ev.step (fun k => by rw [stylusref25_Size.l0, if_neg (by omega)]; rfl) (ref_size_l1 t m l r o g hl hs hr hq l.length 0 x (by omega))
 | d + 1, i, x, hd => by
  have hi : i < m.length := by omega
  rw [List.drop_eq_getElem_cons hi, ms]
  exact Ev.step (fun k => by rw [stylusref25_Size.l0, if_pos (by omega), if_pos (by omega), rd_mk m i hi, w64 (x := (i : Int) + 1) (by omega) (by omega)]; rfl) (ref_size_l0 t m l r o g hm hl hs hr hq d (i + 1) _ (by omega))
theorem ref_Size_ev25 (t : ByteArray) (m : List Mk) (u r : List Stp) (o : Bool) (g : List Ed) (F : Few25 t m u r g) : Ev (fun k => stylusref25_Size.f k t m u r o g) (sizeT t m u r g) :=
 Ev.bind (ref_bytes_ev g (by have := F.group; omega)) (ref_size_l0 t m u r o g (by have := F.marks; omega) (by have := F.undo; omega) (fun s h => by have := F.us s h; omega) (by have := F.redo; omega) (fun s h => by have := F.rs s h; omega) m.length 0 _ (by omega))
end Go.Proofs.Ytfhafkfcedghkaa.P
