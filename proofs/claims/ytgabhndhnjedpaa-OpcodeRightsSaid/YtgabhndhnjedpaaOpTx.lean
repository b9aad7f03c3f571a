/- Operations' words. -/
import Derived.Test.YtgabhndhnjedpaaPx7
import Derived.Test.YtgabhndhnjedpaaPx8
import Derived.Test.YtgabhndhnjedpaaOpTh
namespace Go.Proofs.Ytgabhndhnjedpaa.P
open Go.RowKit Go.Proofs.YtgabhndhnjedpaaW.PrintWords Go.Proofs.YtgabhndhnjedpaaW.PrintLast

theorem u64_rangeT (n : Int) : IntKind.u64.wrap n = n % 18446744073709551616 := by simp [IntKind.wrap, IntKind.bits, IntKind.signed]
def decS (F : Int → ByteArray) (n : Int) : ByteArray := if n < 10 then one (48 + n) else F (n / 10) ++ one (48 + n % 10)
def dec1 (n : Int) : ByteArray := one (48 + n)
def dec (n : Int) : ByteArray := decS (decS (decS dec1)) n
theorem digit_ev (n : Int) (h0 : 0 ≤ n) (h1 : n < 10) : Ev (fun k => opcode_digits.f k n) (one (48 + n)) := by
  refine Ev.step (f := fun _ => some (one (48 + n))) (fun k => ?_) (Ev.now _)
  rw [opcode_digits.f, if_neg (by omega), w64 (by omega) (by omega), show (48 + n) % 256 = 48 + n by omega]
  rfl
theorem digits_step (F : Int → ByteArray) (B : Int) (s : Nat) (hs : s ≤ 100) (hB : B ≤ 100000) (h : ∀ n, 0 ≤ n → n < B → Ev (fun k => opcode_digits.f k n) (F n) ∧ (F n).size ≤ s) (n : Int) (h0 : 0 ≤ n) (h1 : n < 10 * B) :
    Ev (fun k => opcode_digits.f k n) (decS F n) ∧ (decS F n).size ≤ s + 1 := by
  unfold decS
  by_cases c : n < 10
  · rw [if_pos c]
    exact ⟨digit_ev n h0 c, by rw [one_size]; omega⟩
  · rw [if_neg c]
    obtain ⟨e, z⟩ := h (n / 10) (by omega) (by omega)
    refine ⟨?_, by rw [ByteArray.size_append, one_size]; omega⟩
    refine Ev.step (f := fun k => (opcode_digits.f k (n / 10)).bind fun t => (opcode_digits.f k (n % 10)).bind fun u => if t.size + u.size ≤ 9223372036854775807 then some (t ++ u) else none) (fun k => ?_) ?_
    · rw [opcode_digits.f, if_pos (by omega), Int.tdiv_eq_ediv_of_nonneg h0, Int.tmod_eq_emod_of_nonneg h0, w64 (by omega) (by omega)]
    · exact Ev.bind e (Ev.bind (digit_ev (n % 10) (by omega) (by omega)) (Ev.pos (by rw [one_size]; omega) (Ev.now _)))
theorem digits_ev (n : Int) (h0 : 0 ≤ n) (h1 : n ≤ 4096) : Ev (fun k => opcode_digits.f k n) (dec n) ∧ (dec n).size ≤ 4 :=
  digits_step _ 1000 3 (by decide) (by decide) (digits_step _ 100 2 (by decide) (by decide) (digits_step _ 10 1 (by decide) (by decide) (fun n h0 h1 => ⟨(digit_ev n h0 h1 : Ev _ (dec1 n)), by show (one (48 + n)).size ≤ 1; rw [one_size]; exact Nat.le_refl _⟩))) n h0 (by omega)
theorem plain_digit (n : Int) (h0 : 0 ≤ n) (h1 : n < 10) : Ev (fun k => stylusref03_plain.f k n) (one (48 + n)) := by
  refine Ev.step (f := fun _ => some (one (48 + n))) (fun k => ?_) (Ev.now _)
  rw [stylusref03_plain.f, u64_rangeT, Int.tmod_eq_emod_of_nonneg h0, show (48 + n % 10) % 18446744073709551616 % 256 = 48 + n by omega]
  show (if n < 10 then _ else _) = _
  rw [if_pos h1]
  rfl
theorem plain_step (F : Int → ByteArray) (B : Int) (s : Nat) (hs : s ≤ 100) (hB : B ≤ 100000) (h : ∀ n, 0 ≤ n → n < B → Ev (fun k => stylusref03_plain.f k n) (F n) ∧ (F n).size ≤ s) (n : Int) (h0 : 0 ≤ n) (h1 : n < 10 * B) :
    Ev (fun k => stylusref03_plain.f k n) (decS F n) ∧ (decS F n).size ≤ s + 1 := by
  unfold decS
  by_cases c : n < 10
  · rw [if_pos c]
    exact ⟨plain_digit n h0 c, by rw [one_size]; omega⟩
  · rw [if_neg c]
    obtain ⟨e, z⟩ := h (n / 10) (by omega) (by omega)
    refine ⟨?_, by rw [ByteArray.size_append, one_size]; omega⟩
    refine Ev.step (f := fun k => (stylusref03_plain.f k (n / 10)).bind fun t => if t.size + (one (48 + n % 10)).size ≤ 9223372036854775807 then some (t ++ one (48 + n % 10)) else none) (fun k => ?_) ?_
    · rw [stylusref03_plain.f, u64_rangeT, u64_rangeT, Int.tmod_eq_emod_of_nonneg h0, Int.tdiv_eq_ediv_of_nonneg h0, show (48 + n % 10) % 18446744073709551616 % 256 = 48 + n % 10 by omega, show n / 10 % 18446744073709551616 = n / 10 by omega]
      show (if n < 10 then _ else _) = _
      rw [if_neg c]
      rfl
    · exact Ev.bind e (Ev.pos (by rw [one_size]; omega) (Ev.now _))
theorem Plain_ev (n : Int) (h0 : 0 ≤ n) (h1 : n ≤ 4096) : Ev (fun k => stylusref03_Plain.f k n) (dec n) ∧ (dec n).size ≤ 4 := by
  have h := plain_step _ 1000 3 (by decide) (by decide) (plain_step _ 100 2 (by decide) (by decide) (plain_step _ 10 1 (by decide) (by decide) (fun n h0 h1 => ⟨(plain_digit n h0 h1 : Ev _ (dec1 n)), by show (one (48 + n)).size ≤ 1; rw [one_size]; exact Nat.le_refl _⟩))) n h0 (by omega)
  refine ⟨?_, h.2⟩
  unfold stylusref03_Plain.f
  rw [show IntKind.u64.wrap n = n from by rw [u64_rangeT]; omega]
  exact Ev.neg (by omega) (Ev.bind h.1 (Ev.now _))
def sp : ByteArray := ⟨#[32]⟩
def opText (x0 x1 x2 : Int) (x3 : ByteArray) : ByteArray :=
  if opRight x0 x1 x2 x3 = true then (if x0 = 1 then ((⟨#[105, 110, 115, 101, 114, 116, 32]⟩ ++ dec x1) ++ sp) ++ x3 else if x0 = 2 then ((⟨#[100, 101, 108, 101, 116, 101, 32]⟩ ++ dec x1) ++ sp) ++ dec x2
    else if x0 = 3 then ((⟨#[109, 97, 114, 107, 32]⟩ ++ x3) ++ sp) ++ dec x1 else if x0 = 4 then ⟨#[117, 110, 109, 97, 114, 107, 32]⟩ ++ x3
    else if x0 = 5 then ⟨#[117, 110, 100, 111]⟩ else if x0 = 6 then ⟨#[114, 101, 100, 111]⟩ else if x0 = 7 then ⟨#[98, 101, 103, 105, 110]⟩ else ⟨#[101, 110, 100]⟩) else ⟨#[]⟩
theorem lsz (a : Array UInt8) : ByteArray.size ⟨a⟩ = a.size := rfl
theorem opcode_Text_ev (x0 x1 x2 : Int) (x3 : ByteArray) (hs : x3.size ≤ 140737488351232) : Ev (fun k => opcode_Text.f k x0 x1 x2 x3) (opText x0 x1 x2 x3) := by
  unfold opcode_Text.f
  refine Ev.bind (opcode_Right_ev x0 x1 x2 x3 hs) ?_
  by_cases hr : opRight x0 x1 x2 x3 = true
  rotate_left
  · exact Ev.to (Ev.neg hr (Ev.now _)) (by unfold opText; rw [if_neg hr])
  obtain ⟨k1, k8, a0, a1, b0, b1, hz, _, _, _⟩ := right_facts hr
  obtain ⟨d1, z1⟩ := digits_ev x1 a0 a1
  obtain ⟨d2, z2⟩ := digits_ev x2 b0 b1
  refine Ev.pos hr ?_
  have ht (r : ByteArray) (h : opText x0 x1 x2 x3 = r) : r = opText x0 x1 x2 x3 := h.symm
  rcases (show x0 = 1 ∨ x0 = 2 ∨ x0 = 3 ∨ x0 = 4 ∨ x0 = 5 ∨ x0 = 6 ∨ x0 = 7 ∨ x0 = 8 by omega) with rfl | rfl | rfl | rfl | rfl | rfl | rfl | rfl
  · refine Ev.call (show opcode_word.f 1 = some ⟨#[105, 110, 115, 101, 114, 116]⟩ from rfl) (Ev.bind d1 ?_)
    refine Ev.to (Ev.pos rfl (Ev.pos (by decide) (Ev.pos ?_ (Ev.pos ?_ (Ev.pos ?_ (Ev.now _)))))) (ht _ ?_)
    · simp only [ByteArray.size_append, lsz]; simp; omega
    · simp only [ByteArray.size_append, lsz]; simp; omega
    · simp only [ByteArray.size_append, lsz]; simp; omega
    · unfold opText; rw [if_pos hr, if_pos rfl]; rfl
  · refine Ev.call (show opcode_word.f 2 = some ⟨#[100, 101, 108, 101, 116, 101]⟩ from rfl) (Ev.bind d1 ?_)
    refine Ev.to (Ev.neg (by decide) (Ev.pos rfl (Ev.pos (by decide) (Ev.pos ?_ (Ev.pos ?_ (Ev.bind d2 (Ev.pos ?_ (Ev.now _)))))))) (ht _ ?_)
    · simp only [ByteArray.size_append, lsz]; simp; omega
    · simp only [ByteArray.size_append, lsz]; simp; omega
    · simp only [ByteArray.size_append, lsz]; simp; omega
    · unfold opText; rw [if_pos hr, if_neg (by decide), if_pos rfl]; rfl
  · refine Ev.call (show opcode_word.f 3 = some ⟨#[109, 97, 114, 107]⟩ from rfl) (Ev.bind d1 ?_)
    refine Ev.to (Ev.neg (by decide) (Ev.neg (by decide) (Ev.pos rfl (Ev.pos (by decide) (Ev.pos ?_ (Ev.pos ?_ (Ev.pos ?_ (Ev.now _)))))))) (ht _ ?_)
    · simp only [ByteArray.size_append, lsz]; simp; omega
    · simp only [ByteArray.size_append, lsz]; simp; omega
    · simp only [ByteArray.size_append, lsz]; simp; omega
    · unfold opText; rw [if_pos hr, if_neg (by decide), if_neg (by decide), if_pos rfl]; rfl
  · refine Ev.call (show opcode_word.f 4 = some ⟨#[117, 110, 109, 97, 114, 107]⟩ from rfl) (Ev.bind d1 ?_)
    refine Ev.to (Ev.neg (by decide) (Ev.neg (by decide) (Ev.neg (by decide) (Ev.pos rfl (Ev.pos (by decide) (Ev.pos ?_ (Ev.now _))))))) (ht _ ?_)
    · simp only [ByteArray.size_append, lsz]; simp; omega
    · unfold opText; rw [if_pos hr, if_neg (by decide), if_neg (by decide), if_neg (by decide), if_pos rfl]; rfl
  · refine Ev.call (show opcode_word.f 5 = some ⟨#[117, 110, 100, 111]⟩ from rfl) (Ev.bind d1 ?_)
    refine Ev.to (Ev.neg (by decide) (Ev.neg (by decide) (Ev.neg (by decide) (Ev.neg (by decide) (Ev.now _))))) (ht _ ?_)
    unfold opText; rw [if_pos hr, if_neg (by decide), if_neg (by decide), if_neg (by decide), if_neg (by decide), if_pos rfl]
  · refine Ev.call (show opcode_word.f 6 = some ⟨#[114, 101, 100, 111]⟩ from rfl) (Ev.bind d1 ?_)
    refine Ev.to (Ev.neg (by decide) (Ev.neg (by decide) (Ev.neg (by decide) (Ev.neg (by decide) (Ev.now _))))) (ht _ ?_)
    unfold opText; rw [if_pos hr, if_neg (by decide), if_neg (by decide), if_neg (by decide), if_neg (by decide), if_neg (by decide), if_pos rfl]
  · refine Ev.call (show opcode_word.f 7 = some ⟨#[98, 101, 103, 105, 110]⟩ from rfl) (Ev.bind d1 ?_)
    refine Ev.to (Ev.neg (by decide) (Ev.neg (by decide) (Ev.neg (by decide) (Ev.neg (by decide) (Ev.now _))))) (ht _ ?_)
    unfold opText; rw [if_pos hr, if_neg (by decide), if_neg (by decide), if_neg (by decide), if_neg (by decide), if_neg (by decide), if_neg (by decide), if_pos rfl]
  · refine Ev.call (show opcode_word.f 8 = some ⟨#[101, 110, 100]⟩ from rfl) (Ev.bind d1 ?_)
    refine Ev.to (Ev.neg (by decide) (Ev.neg (by decide) (Ev.neg (by decide) (Ev.neg (by decide) (Ev.now _))))) (ht _ ?_)
    unfold opText; rw [if_pos hr, if_neg (by decide), if_neg (by decide), if_neg (by decide), if_neg (by decide), if_neg (by decide), if_neg (by decide), if_neg (by decide)]
theorem ref_Text14_ev (x0 x1 x2 : Int) (x3 : ByteArray) (hs : x3.size ≤ 140737488351232) : Ev (fun k => stylusref14_Text.f k x0 x1 x2 x3) (opText x0 x1 x2 x3) := by
  unfold stylusref14_Text.f
  refine Ev.bind (ref_Right14_ev x0 x1 x2 x3 hs) ?_
  by_cases hr : opRight x0 x1 x2 x3 = true
  rotate_left
  · exact Ev.to (Ev.neg hr (Ev.now _)) (by unfold opText; rw [if_neg hr])
  obtain ⟨k1, k8, a0, a1, b0, b1, hz, _, _, _⟩ := right_facts hr
  obtain ⟨d1, z1⟩ := Plain_ev x1 a0 a1
  obtain ⟨d2, z2⟩ := Plain_ev x2 b0 b1
  refine Ev.pos hr ?_
  have ht (r : ByteArray) (h : opText x0 x1 x2 x3 = r) : r = opText x0 x1 x2 x3 := h.symm
  rcases (show x0 = 1 ∨ x0 = 2 ∨ x0 = 3 ∨ x0 = 4 ∨ x0 = 5 ∨ x0 = 6 ∨ x0 = 7 ∨ x0 = 8 by omega) with rfl | rfl | rfl | rfl | rfl | rfl | rfl | rfl
  · refine Ev.to (Ev.pos rfl (Ev.bind d1 (Ev.pos ?_ (Ev.pos ?_ (Ev.pos ?_ (Ev.now _)))))) (ht _ ?_)
    · omega
    · simp only [ByteArray.size_append, lsz]; simp; omega
    · simp only [ByteArray.size_append, lsz]; simp; omega
    · unfold opText; rw [if_pos hr, if_pos rfl]; rfl
  · refine Ev.to (Ev.neg (by decide) (Ev.pos rfl (Ev.bind d1 (Ev.pos ?_ (Ev.pos ?_ (Ev.bind d2 (Ev.pos ?_ (Ev.now _)))))))) (ht _ ?_)
    · omega
    · simp only [ByteArray.size_append, lsz]; simp; omega
    · simp only [ByteArray.size_append, lsz]; simp; omega
    · unfold opText; rw [if_pos hr, if_neg (by decide), if_pos rfl]; rfl
  · refine Ev.to (Ev.neg (by decide) (Ev.neg (by decide) (Ev.pos rfl (Ev.pos ?_ (Ev.pos ?_ (Ev.bind d1 (Ev.pos ?_ (Ev.now _)))))))) (ht _ ?_)
    · omega
    · simp only [ByteArray.size_append, lsz]; simp; omega
    · simp only [ByteArray.size_append, lsz]; simp; omega
    · unfold opText; rw [if_pos hr, if_neg (by decide), if_neg (by decide), if_pos rfl]; rfl
  · refine Ev.to (Ev.neg (by decide) (Ev.neg (by decide) (Ev.neg (by decide) (Ev.pos rfl (Ev.pos ?_ (Ev.now _)))))) (ht _ ?_)
    · omega
    · unfold opText; rw [if_pos hr, if_neg (by decide), if_neg (by decide), if_neg (by decide), if_pos rfl]
  · refine Ev.to (Ev.neg (by decide) (Ev.neg (by decide) (Ev.neg (by decide) (Ev.neg (by decide) (Ev.pos rfl (Ev.now _)))))) (ht _ ?_)
    unfold opText; rw [if_pos hr, if_neg (by decide), if_neg (by decide), if_neg (by decide), if_neg (by decide), if_pos rfl]
  · refine Ev.to (Ev.neg (by decide) (Ev.neg (by decide) (Ev.neg (by decide) (Ev.neg (by decide) (Ev.neg (by decide) (Ev.pos rfl (Ev.now _))))))) (ht _ ?_)
    unfold opText; rw [if_pos hr, if_neg (by decide), if_neg (by decide), if_neg (by decide), if_neg (by decide), if_neg (by decide), if_pos rfl]
  · refine Ev.to (Ev.neg (by decide) (Ev.neg (by decide) (Ev.neg (by decide) (Ev.neg (by decide) (Ev.neg (by decide) (Ev.neg (by decide) (Ev.pos rfl (Ev.now _)))))))) (ht _ ?_)
    unfold opText; rw [if_pos hr, if_neg (by decide), if_neg (by decide), if_neg (by decide), if_neg (by decide), if_neg (by decide), if_neg (by decide), if_pos rfl]
  · refine Ev.to (Ev.neg (by decide) (Ev.neg (by decide) (Ev.neg (by decide) (Ev.neg (by decide) (Ev.neg (by decide) (Ev.neg (by decide) (Ev.neg (by decide) (Ev.now _)))))))) (ht _ ?_)
    unfold opText; rw [if_pos hr, if_neg (by decide), if_neg (by decide), if_neg (by decide), if_neg (by decide), if_neg (by decide), if_neg (by decide), if_neg (by decide)]
end Go.Proofs.Ytgabhndhnjedpaa.P
