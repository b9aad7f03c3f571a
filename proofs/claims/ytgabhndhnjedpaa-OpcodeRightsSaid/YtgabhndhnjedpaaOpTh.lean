/- Operations as bytes, and bytes as operations. -/
import Derived.Test.YtgabhndhnjedpaaPx3
import Derived.Test.YtgabhndhnjedpaaPx4
import Derived.Test.YtgabhndhnjedpaaPx5
import Derived.Test.YtgabhndhnjedpaaOpEv
namespace Go.Proofs.Ytgabhndhnjedpaa.P
open Go.RowKit Go.Proofs.YtgabhndhnjedpaaW.PrintWords Go.Proofs.YtgabhndhnjedpaaW.PrintLast

def one (x : Int) : ByteArray := strOfNums [x]
theorem one_size (x : Int) : (one x).size = 1 := by unfold one; rw [strOfNums_size]; rfl
def opLaid (x0 x1 x2 : Int) (x3 : ByteArray) : ByteArray :=
  if x0 ≤ 3 then (if x0 = 2 then ((one x0 ++ put32 x1) ++ put32 x2) ++ x3 else (one x0 ++ put32 x1) ++ x3) else one x0 ++ x3
def opBytes (x0 x1 x2 : Int) (x3 : ByteArray) : ByteArray × Int := if opRight x0 x1 x2 x3 = true then (opLaid x0 x1 x2 x3, 0) else (⟨#[]⟩, 2)
theorem mark_size {s : ByteArray} (h : mayMark s = true) : s.size ≤ 8 := by
  unfold mayMark at h
  by_cases a : s.size = 0
  · omega
  · by_cases b : 8 < s.size
    · rw [if_neg a, if_pos b] at h; cases h
    · omega
theorem right_facts {x0 x1 x2 : Int} {x3 : ByteArray} (h : opRight x0 x1 x2 x3 = true) : 1 ≤ x0 ∧ x0 ≤ 8 ∧ 0 ≤ x1 ∧ x1 ≤ 4096 ∧ 0 ≤ x2 ∧ x2 ≤ 4096 ∧ x3.size ≤ 512 ∧ (x0 ≠ 2 → x2 = 0) ∧ (3 < x0 → x1 = 0) ∧ (x0 = 2 ∨ 4 < x0 → x3 = ⟨#[]⟩) := by
  unfold opRight at h
  by_cases c1 : x0 = 1
  · rw [if_pos c1] at h
    by_cases a : x2 = 0
    · rw [if_pos a] at h
      by_cases b : 0 ≤ x1 ∧ x1 ≤ 4096
      · rw [if_pos b] at h
        by_cases c : x3.size ≤ 512
        · exact ⟨by omega, by omega, b.1, b.2, by omega, by omega, c, fun _ => a, by omega, by omega⟩
        · rw [if_neg c] at h; cases h
      · rw [if_neg b] at h; cases h
    · rw [if_neg a] at h; cases h
  rw [if_neg c1] at h
  by_cases c2 : x0 = 2
  · rw [if_pos c2] at h
    by_cases a : x3 = ⟨#[]⟩
    · rw [if_pos a] at h
      by_cases b : 0 ≤ x1 ∧ x1 ≤ 4096
      · rw [if_pos b] at h
        have d := of_decide_eq_true h
        exact ⟨by omega, by omega, b.1, b.2, d.1, d.2, by rw [a]; decide, by omega, by omega, fun _ => a⟩
      · rw [if_neg b] at h; cases h
    · rw [if_neg a] at h; cases h
  rw [if_neg c2] at h
  by_cases c3 : x0 = 3
  · rw [if_pos c3] at h
    by_cases a : x2 = 0
    · rw [if_pos a] at h
      by_cases b : 0 ≤ x1 ∧ x1 ≤ 4096
      · rw [if_pos b] at h
        have := mark_size h
        exact ⟨by omega, by omega, b.1, b.2, by omega, by omega, by omega, fun _ => a, by omega, by omega⟩
      · rw [if_neg b] at h; cases h
    · rw [if_neg a] at h; cases h
  rw [if_neg c3] at h
  by_cases c4 : x0 = 4
  · rw [if_pos c4] at h
    by_cases a : x1 = 0 ∧ x2 = 0
    · rw [if_pos a] at h
      have := mark_size h
      exact ⟨by omega, by omega, by omega, by omega, by omega, by omega, by omega, fun _ => a.2, fun _ => a.1, by omega⟩
    · rw [if_neg a] at h; cases h
  rw [if_neg c4] at h
  by_cases c5 : 5 ≤ x0 ∧ x0 ≤ 8
  · rw [if_pos c5] at h
    have d := of_decide_eq_true h
    exact ⟨by omega, by omega, by omega, by omega, by omega, by omega, by rw [d.2.2]; decide, fun _ => d.2.1, fun _ => d.1, fun _ => d.2.2⟩
  · rw [if_neg c5] at h; cases h
theorem all_is {x0 x1 x2 : Int} {x3 : ByteArray} (h : opRight x0 x1 x2 x3 = true) : opcode_Bytes.all (one x0) (opcode_fields.g x0 x1 x2 x3).1 = some (opLaid x0 x1 x2 x3) := by
  obtain ⟨k1, k8, _, _, _, _, hs, _, _, hn⟩ := right_facts h
  have z0 := one_size x0
  have z1 := put32_size x1
  have z2 := put32_size x2
  rcases (show x0 = 1 ∨ x0 = 2 ∨ x0 = 3 ∨ x0 = 4 ∨ 5 ≤ x0 by omega) with rfl | rfl | rfl | rfl | c
  · rw [show opcode_fields.g 1 x1 x2 x3 = ([.place x1, .ins x3], true) from rfl]
    simp only [opcode_Bytes.all, opcode_Bytes.add, num_Put32_is, Option.bind_some]
    rw [if_pos (by omega)]
    simp only [Option.bind_some]
    rw [if_pos (by rw [ByteArray.size_append]; omega)]
    rfl
  · rw [show opcode_fields.g 2 x1 x2 x3 = ([.place x1, .len x2], true) from rfl]
    simp only [opcode_Bytes.all, opcode_Bytes.add, num_Put32_is, Option.bind_some]
    rw [if_pos (by omega)]
    simp only [Option.bind_some]
    rw [if_pos (by rw [ByteArray.size_append]; omega)]
    unfold opLaid
    rw [if_pos (by decide), if_pos rfl, hn (.inl rfl)]
    show some _ = some _
    congr 1
  · rw [show opcode_fields.g 3 x1 x2 x3 = ([.place x1, .nam x3], true) from rfl]
    simp only [opcode_Bytes.all, opcode_Bytes.add, num_Put32_is, Option.bind_some]
    rw [if_pos (by omega)]
    simp only [Option.bind_some]
    rw [if_pos (by rw [ByteArray.size_append]; omega)]
    rfl
  · rw [show opcode_fields.g 4 x1 x2 x3 = ([.nam x3], true) from rfl]
    simp only [opcode_Bytes.all, opcode_Bytes.add]
    rw [if_pos (by omega)]
    rfl
  · rw [g_plain x0 x1 x2 x3 ⟨c, k8⟩, hn (.inr (by omega))]
    unfold opLaid
    rw [if_neg (by omega)]
    show some _ = some _
    congr 1
theorem opcode_Bytes_ev (x0 x1 x2 : Int) (x3 : ByteArray) (hs : x3.size ≤ 140737488351232) : Ev (fun k => opcode_Bytes.f k x0 x1 x2 x3) (opBytes x0 x1 x2 x3) := by
  unfold opcode_Bytes.f opBytes
  refine Ev.bind (opcode_Right_ev x0 x1 x2 x3 hs) ?_
  by_cases hr : opRight x0 x1 x2 x3 = true
  · have hf := right_facts hr
    exact Ev.to (Ev.pos hr (Ev.pos ⟨by omega, by omega⟩ (Ev.call (all_is hr) (Ev.now _)))) (if_pos hr).symm
  · exact Ev.to (Ev.neg hr (Ev.now _)) (if_neg hr).symm
def opFin (x0 x1 x2 : Int) (r : ByteArray) : Int × Int × Int × ByteArray × Int := if opRight x0 x1 x2 r = true then (x0, x1, x2, r, 0) else (0, 0, 0, ⟨#[]⟩, 5)
def opRest2 (x0 x1 : Int) (r : ByteArray) : Int × Int × Int × ByteArray × Int :=
  if x0 = 2 then (if (getN r 0 4).2 = true then opFin x0 x1 (getN r 0 4).1 (r.extract 4 r.size) else (0, 0, 0, ⟨#[]⟩, 18)) else opFin x0 x1 0 r
def opRest (x0 : Int) (r : ByteArray) : Int × Int × Int × ByteArray × Int :=
  if x0 ≤ 3 then (if (getN r 0 4).2 = true then opRest2 x0 (getN r 0 4).1 (r.extract 4 r.size) else (0, 0, 0, ⟨#[]⟩, 18)) else opRest2 x0 0 r
def opRead (s : ByteArray) : Int × Int × Int × ByteArray × Int :=
  if s.size = 0 then (0, 0, 0, ⟨#[]⟩, 18) else if ¬ (1 ≤ bt s 0 ∧ bt s 0 ≤ 8) then (0, 0, 0, ⟨#[]⟩, 5) else opRest (bt s 0) (s.extract 1 s.size)
theorem getN_ok (r : ByteArray) : (getN r 0 4).2 = true ↔ 4 ≤ r.size := by
  unfold getN
  by_cases h : 4 ≤ r.size
  · rw [if_pos (by omega)]; exact ⟨fun _ => h, fun _ => rfl⟩
  · rw [if_neg (by omega)]; exact ⟨fun z => absurd z (by simp), fun z => absurd z h⟩
theorem reader_number_ev (r : ByteArray) (hr : r.size ≤ 140737488351232) : Ev (fun k => opcode_reader_number.f k r false) (if (getN r 0 4).2 = true then ((getN r 0 4).1, r.extract 4 r.size, false) else (0, r, true)) := by
  unfold opcode_reader_number.f
  refine Ev.bind (num_Get32_ev r 0 hr) ?_
  by_cases g : (getN r 0 4).2 = true
  · have g4 := (getN_ok r).1 g
    exact Ev.to (Ev.pos g (Ev.pos (by omega) (Ev.now _))) (if_pos g).symm
  · exact Ev.to (Ev.neg g (Ev.now _)) (if_neg g).symm
theorem fin_ev (x0 x1 x2 : Int) (r : ByteArray) (hr : r.size ≤ 140737488351232) : Ev (fun k => (opcode_Right.f k x0 x1 x2 r).bind fun b => if b = true then (some (x0, x1, x2, r, (0 : Int))) else (some (0, 0, 0, (⟨#[]⟩ : ByteArray), 5))) (opFin x0 x1 x2 r) := by
  refine Ev.bind (opcode_Right_ev x0 x1 x2 r hr) ?_
  unfold opFin
  by_cases q : opRight x0 x1 x2 r = true
  · exact Ev.to (Ev.pos q (Ev.now _)) (if_pos q).symm
  · exact Ev.to (Ev.neg q (Ev.now _)) (if_neg q).symm
theorem all_place (x0 : Int) (r : ByteArray) (hr : r.size ≤ 140737488351232) (l : List opcode_Fld) (n : Int) {F : Nat → Option (Int × Int × ByteArray) → Option (Int × Int × Int × ByteArray × Int)} {R : Int × Int × Int × ByteArray × Int}
    (h1 : (getN r 0 4).2 = true → Ev (fun k => (opcode_Read.all k (getN r 0 4).1 0 (r.extract 4 r.size) l).bind (F k)) R) (h2 : ¬ (getN r 0 4).2 = true → Ev (fun k => F k none) R) :
    Ev (fun k => (opcode_Read.all k x0 0 r (.place n :: l)).bind (F k)) R := by
  refine Ev.congr (f := fun k => (opcode_reader_number.f k r false).bind fun o => (if o.2.2 = true then (F k none) else ((opcode_Read.all k o.1 0 o.2.1 l).bind (F k)))) (fun k => ?_) ?_
  · simp only [opcode_Read.all]
    cases opcode_reader_number.f k r false with
    | none => rfl
    | some o =>
      simp only [Option.bind_some]
      by_cases c : o.2.2 = true
      · rw [if_pos c, if_pos c]; rfl
      · rw [if_neg c, if_neg c]
  · refine Ev.bind (reader_number_ev r hr) ?_
    by_cases g : (getN r 0 4).2 = true
    · rw [if_pos g]; exact Ev.neg (by simp) (h1 g)
    · rw [if_neg g]; exact Ev.pos rfl (h2 g)
theorem all_len (x1 : Int) (r : ByteArray) (hr : r.size ≤ 140737488351232) (l : List opcode_Fld) (n : Int) {F : Nat → Option (Int × Int × ByteArray) → Option (Int × Int × Int × ByteArray × Int)} {R : Int × Int × Int × ByteArray × Int}
    (h1 : (getN r 0 4).2 = true → Ev (fun k => (opcode_Read.all k x1 (getN r 0 4).1 (r.extract 4 r.size) l).bind (F k)) R) (h2 : ¬ (getN r 0 4).2 = true → Ev (fun k => F k none) R) :
    Ev (fun k => (opcode_Read.all k x1 0 r (.len n :: l)).bind (F k)) R := by
  refine Ev.congr (f := fun k => (opcode_reader_number.f k r false).bind fun o => (if o.2.2 = true then (F k none) else ((opcode_Read.all k x1 o.1 o.2.1 l).bind (F k)))) (fun k => ?_) ?_
  · simp only [opcode_Read.all]
    cases opcode_reader_number.f k r false with
    | none => rfl
    | some o =>
      simp only [Option.bind_some]
      by_cases c : o.2.2 = true
      · rw [if_pos c, if_pos c]; rfl
      · rw [if_neg c, if_neg c]
  · refine Ev.bind (reader_number_ev r hr) ?_
    by_cases g : (getN r 0 4).2 = true
    · rw [if_pos g]; exact Ev.neg (by simp) (h1 g)
    · rw [if_neg g]; exact Ev.pos rfl (h2 g)
theorem opcode_Read_ev (s : ByteArray) (hs : s.size ≤ 140737488351232) : Ev (fun k => opcode_Read.f k s) (opRead s) := by
  unfold opcode_Read.f opRead
  have hb := bt_range s 0
  by_cases h0 : s.size = 0
  · rw [if_pos h0]; exact Ev.pos h0 (Ev.now _)
  rw [if_neg h0]
  refine Ev.neg h0 ?_
  have hr : (s.extract 1 s.size).size ≤ 140737488351232 := by rw [ByteArray.size_extract]; omega
  have hr2 : ((s.extract 1 s.size).extract 4 (s.extract 1 s.size).size).size ≤ 140737488351232 := by rw [ByteArray.size_extract]; omega
  by_cases h1 : 1 ≤ bt s 0 ∧ bt s 0 ≤ 8
  rotate_left
  · rw [if_pos h1, g_none _ _ _ _ h1]
    exact Ev.neg Bool.false_ne_true (Ev.now _)
  rw [if_neg (not_not_intro h1)]
  obtain ⟨x0, hx⟩ : ∃ x0, bt s 0 = x0 := ⟨_, rfl⟩
  rw [hx] at h1 ⊢
  obtain ⟨r, hrr⟩ : ∃ r, s.extract 1 s.size = r := ⟨_, rfl⟩
  rw [hrr] at hr hr2 ⊢
  unfold opRest
  rcases (show x0 = 1 ∨ x0 = 2 ∨ x0 = 3 ∨ x0 = 4 ∨ 5 ≤ x0 by omega) with rfl | rfl | rfl | rfl | c
  · rw [show opcode_fields.g 1 0 0 ⟨#[]⟩ = ([.place 0, .ins ⟨#[]⟩], true) from rfl, if_pos (by decide)]
    refine Ev.pos rfl (all_place 0 r hr _ 0 (fun g => ?_) (fun g => ?_))
    · rw [if_pos g]
      unfold opRest2
      rw [if_neg (by decide)]
      exact Ev.call rfl (fin_ev _ _ _ _ hr2)
    · rw [if_neg g]; exact Ev.now _
  · rw [show opcode_fields.g 2 0 0 ⟨#[]⟩ = ([.place 0, .len 0], true) from rfl, if_pos (by decide)]
    refine Ev.pos rfl (all_place 0 r hr _ 0 (fun g => ?_) (fun g => ?_))
    · rw [if_pos g]
      unfold opRest2
      rw [if_pos rfl]
      refine all_len _ _ hr2 _ 0 (fun g2 => ?_) (fun g2 => ?_)
      · rw [if_pos g2]
        exact Ev.call rfl (fin_ev _ _ _ _ (by rw [ByteArray.size_extract]; omega))
      · rw [if_neg g2]; exact Ev.now _
    · rw [if_neg g]; exact Ev.now _
  · rw [show opcode_fields.g 3 0 0 ⟨#[]⟩ = ([.place 0, .nam ⟨#[]⟩], true) from rfl, if_pos (by decide)]
    refine Ev.pos rfl (all_place 0 r hr _ 0 (fun g => ?_) (fun g => ?_))
    · rw [if_pos g]
      unfold opRest2
      rw [if_neg (by decide)]
      exact Ev.call rfl (fin_ev _ _ _ _ hr2)
    · rw [if_neg g]; exact Ev.now _
  · rw [show opcode_fields.g 4 0 0 ⟨#[]⟩ = ([.nam ⟨#[]⟩], true) from rfl, if_neg (by decide)]
    unfold opRest2
    rw [if_neg (by decide)]
    exact Ev.pos rfl (Ev.call rfl (fin_ev _ _ _ _ hr))
  · rw [g_plain x0 0 0 ⟨#[]⟩ ⟨c, h1.2⟩, if_neg (by omega)]
    unfold opRest2
    rw [if_neg (by omega)]
    exact Ev.pos rfl (Ev.call rfl (fin_ev _ _ _ _ hr))
theorem lives14 : Ev (fun k => styluslaw14_lives.f k) true := Ev.of (fun k => styluslaw14_lives.mono k) (k := 40) (by decide +kernel)
end Go.Proofs.Ytgabhndhnjedpaa.P
