/- Plain arithmetic of CRC-32, without any program: the register's map is linear and injective, a burst of at most 32 bits is seen. -/
namespace Crc

def poly : BitVec 32 := 0xedb88320#32
def sh (r : BitVec 32) : BitVec 32 := (r >>> 1) ^^^ (if r.getLsbD 0 then poly else 0#32)
def shN : Nat → BitVec 32 → BitVec 32
  | 0, r => r
  | n + 1, r => shN n (sh r)
def step (r : BitVec 32) (b : UInt8) : BitVec 32 := shN 8 (r ^^^ b.toBitVec.setWidth 32)
def run (r : BitVec 32) (l : List UInt8) : BitVec 32 := l.foldl step r

theorem sh_xor (a b : BitVec 32) : sh (a ^^^ b) = sh a ^^^ sh b := by
  unfold sh
  rw [BitVec.getLsbD_xor, BitVec.ushiftRight_xor_distrib]
  generalize a >>> 1 = x
  generalize b >>> 1 = y
  cases a.getLsbD 0 <;> cases b.getLsbD 0 <;> simp <;> ext i hi <;> simp <;>
    cases x[i] <;> cases y[i] <;> cases poly[i] <;> rfl
theorem sh_zero : sh 0#32 = 0#32 := by decide
theorem sh_inj {a : BitVec 32} (h : sh a = 0#32) : a = 0#32 := by
  have h31 : (sh a).getLsbD 31 = a.getLsbD 0 := by
    unfold sh
    cases e : a.getLsbD 0 <;> simp [poly]
  have h0 : a.getLsbD 0 = false := by rw [← h31, h]; rfl
  unfold sh at h
  rw [h0] at h
  simp at h
  apply BitVec.eq_of_getLsbD_eq
  intro i hi
  match i with
  | 0 => rw [h0]; simp
  | i + 1 =>
    have := congrArg (fun v => BitVec.getLsbD v i) h
    simp at this
    rw [Nat.add_comm]
    simpa using this
theorem shN_xor (n : Nat) : ∀ a b : BitVec 32, shN n (a ^^^ b) = shN n a ^^^ shN n b := by
  induction n with
  | zero => intro a b; rfl
  | succ n ih => intro a b; simp only [shN]; rw [sh_xor, ih]
theorem shN_zero (n : Nat) : shN n 0#32 = 0#32 := by
  induction n with
  | zero => rfl
  | succ n ih => simp only [shN]; rw [sh_zero, ih]
theorem shN_inj (n : Nat) : ∀ {a : BitVec 32}, shN n a = 0#32 → a = 0#32 := by
  induction n with
  | zero => intro a h; exact h
  | succ n ih => intro a h; exact sh_inj (ih h)

theorem step_xor (a b : BitVec 32) (x y : UInt8) : step a x ^^^ step b y = step (a ^^^ b) (x ^^^ y) := by
  unfold step
  rw [← shN_xor]
  congr 1
  rw [UInt8.toBitVec_xor, BitVec.setWidth_xor]
  ext i hi
  simp
  cases a[i] <;> cases b[i] <;> cases x.toBitVec.getLsbD i <;> cases y.toBitVec.getLsbD i <;> rfl
theorem run_xor : ∀ (l m : List UInt8) (a b : BitVec 32), l.length = m.length → run a l ^^^ run b m = run (a ^^^ b) (List.zipWith (· ^^^ ·) l m)
  | [], [], a, b, _ => rfl
  | x :: l, y :: m, a, b, h => by
    simp only [run, List.foldl_cons, List.zipWith_cons_cons]
    rw [← step_xor]
    exact run_xor l m _ _ (by simpa using h)
theorem run_append (a : BitVec 32) (l m : List UInt8) : run a (l ++ m) = run (run a l) m := by simp [run]
/-- Zeros keep what is not zero so, and zero zero. -/
theorem run_zeros (n : Nat) : ∀ a : BitVec 32, run a (List.replicate n 0) = 0#32 → a = 0#32 := by
  induction n with
  | zero => intro a h; exact h
  | succ n ih =>
    intro a h
    simp only [List.replicate_succ, run, List.foldl_cons] at h
    have := ih _ h
    have e := shN_inj 8 this
    simpa using e
theorem run_zero_zeros (n : Nat) : run 0#32 (List.replicate n 0) = 0#32 := by
  induction n with
  | zero => rfl
  | succ n ih =>
    simp only [List.replicate_succ, run, List.foldl_cons]
    have : step 0#32 0 = 0#32 := by unfold step; simp; exact shN_zero 8
    rw [this]; exact ih
theorem step_byte {b : UInt8} (h : step 0#32 b = 0#32) : b = 0 := by
  have := shN_inj 8 h
  simp at this
  apply UInt8.toBitVec_inj.mp
  apply BitVec.eq_of_toNat_eq
  have h2 := congrArg BitVec.toNat this
  simpa using h2

/-- One byte is another one: the register differs. -/
theorem run_one (a : BitVec 32) (l m : List UInt8) (x y : UInt8) (h : x ≠ y) : run a (l ++ x :: m) ≠ run a (l ++ y :: m) := by
  intro e
  have e2 : run a (l ++ x :: m) ^^^ run a (l ++ y :: m) = 0#32 := by rw [e]; simp
  rw [run_append, run_append, show x :: m = [x] ++ m from rfl, show y :: m = [y] ++ m from rfl, run_append, run_append, run_xor _ _ _ _ rfl] at e2
  have z : List.zipWith (· ^^^ ·) m m = List.replicate m.length (0 : UInt8) := by
    induction m with
    | nil => rfl
    | cons c m ih => simp [List.replicate_succ, List.map_const']
  rw [z] at e2
  have e3 := run_zeros _ _ e2
  simp only [run, List.foldl_cons, List.foldl_nil] at e3
  rw [step_xor] at e3
  have e4 : x ^^^ y = 0 := step_byte (by simpa using e3)
  exact h (by simpa using e4)

/-! bit by bit -/
def serial (r : BitVec 32) (l : List Bool) : BitVec 32 := l.foldl (fun r b => sh (r ^^^ (if b then 1#32 else 0#32))) r
def bitsOf (n : Nat) (x : BitVec 32) : List Bool := (List.range n).map x.getLsbD
theorem serial_append (r : BitVec 32) (l m : List Bool) : serial r (l ++ m) = serial (serial r l) m := by simp [serial]
theorem sh_shift (x : BitVec 32) : sh x = sh (if x.getLsbD 0 then 1#32 else 0#32) ^^^ (x >>> 1) := by
  have : x = (if x.getLsbD 0 then 1#32 else 0#32) ^^^ ((x >>> 1) <<< 1) := by
    apply BitVec.eq_of_getLsbD_eq
    intro i hi
    match i with
    | 0 => cases e : x.getLsbD 0 <;> simp
    | i + 1 =>
      cases e : x.getLsbD 0 <;> simp [Nat.add_comm 1 i] <;> omega
  conv => lhs; rw [this]
  rw [sh_xor]
  congr 1
  have h0 : ((x >>> 1) <<< 1).getLsbD 0 = false := by simp
  unfold sh
  rw [h0]
  simp
  apply BitVec.eq_of_getLsbD_eq
  intro i hi
  simp
  rw [Nat.add_comm]
  intro h1
  apply Classical.byContradiction
  intro hn
  rw [BitVec.getLsbD_of_ge x (i + 1) (by omega)] at h1
  cases h1
theorem shN_serial (n : Nat) : ∀ (r x : BitVec 32), x.toNat < 2 ^ n → shN n (r ^^^ x) = serial r (bitsOf n x) := by
  induction n with
  | zero =>
    intro r x h
    have : x = 0#32 := BitVec.eq_of_toNat_eq (by simpa using h)
    subst this
    simp [shN, serial, bitsOf]
  | succ n ih =>
    intro r x h
    have e : bitsOf (n + 1) x = x.getLsbD 0 :: bitsOf n (x >>> 1) := by
      unfold bitsOf
      rw [List.range_succ_eq_map]
      simp [Function.comp_def, Nat.add_comm]
    rw [e]
    simp only [serial, List.foldl_cons, shN]
    rw [sh_xor r x, sh_shift x, ← BitVec.xor_assoc, ← sh_xor]
    have := ih (sh (r ^^^ if x.getLsbD 0 = true then 1#32 else 0#32)) (x >>> 1) (by
      rw [BitVec.toNat_ushiftRight, Nat.shiftRight_eq_div_pow]
      omega)
    simpa [serial] using this
theorem step_serial (r : BitVec 32) (b : UInt8) : step r b = serial r ((List.range 8).map b.toBitVec.getLsbD) := by
  unfold step
  rw [shN_serial 8 r _ (by simp; have := b.toNat_lt; omega)]
  congr 1
def flat (l : List UInt8) : List Bool := l.flatMap fun b => (List.range 8).map b.toBitVec.getLsbD
theorem run_serial : ∀ (l : List UInt8) (r : BitVec 32), run r l = serial r (flat l)
  | [], r => rfl
  | b :: l, r => by
    simp only [run, List.foldl_cons, flat, List.flatMap_cons]
    rw [serial_append, ← step_serial]
    exact run_serial l _
theorem flat_length (l : List UInt8) : (flat l).length = 8 * l.length := by
  induction l with
  | nil => rfl
  | cons b l ih => simp only [flat, List.flatMap_cons, List.length_append] at *; rw [ih]; simp; omega
theorem flat_get (l : List UInt8) (j : Nat) (h : j < 8 * l.length) : (flat l)[j]? = some ((l.getD (j / 8) 0).toBitVec.getLsbD (j % 8)) := by
  induction l generalizing j with
  | nil => simp at h
  | cons b l ih =>
    simp only [flat, List.flatMap_cons]
    by_cases hj : j < 8
    · rw [List.getElem?_append_left (by simpa using hj)]
      have e : j / 8 = 0 := by omega
      have e2 : j % 8 = j := by omega
      simp [e, e2, hj]
    · rw [List.getElem?_append_right (by simp; omega)]
      have := ih (j - 8) (by simp at h; omega)
      simp only [flat] at this
      simp only [List.length_map, List.length_range]
      rw [this]
      have e : j / 8 = (j - 8) / 8 + 1 := by omega
      have e2 : j % 8 = (j - 8) % 8 := by omega
      rw [e, e2]
      simp
theorem serial_zeros (n : Nat) : ∀ r, serial r (List.replicate n false) = shN n r := by
  induction n with
  | zero => intro r; rfl
  | succ n ih => intro r; simp only [List.replicate_succ, serial, List.foldl_cons, shN] at *; rw [← ih]; simp
/-- A burst: bits of a nonzero pattern from a place on, zeros elsewhere. -/
theorem serial_burst (l : List Bool) (p : BitVec 32) (at_ : Nat) (hp : p ≠ 0#32)
    (hl : ∀ j, j < l.length → l[j]? = some (decide (at_ ≤ j) && p.getLsbD (j - at_))) (hin : ∀ i, p.getLsbD i = true → at_ + i < l.length) : serial 0#32 l ≠ 0#32 := by
  have hle : at_ ≤ l.length := by
    obtain ⟨i, hi⟩ : ∃ i, p.getLsbD i = true := by
      apply Classical.byContradiction
      intro hn
      apply hp
      apply BitVec.eq_of_getLsbD_eq
      intro i _
      cases e : p.getLsbD i
      · simp
      · exact absurd ⟨i, e⟩ hn
    have := hin i hi
    omega
  have hb : ∃ m k, l = List.replicate at_ false ++ (bitsOf m p ++ List.replicate k false) ∧ p.toNat < 2 ^ m := by
    refine ⟨min 32 (l.length - at_), l.length - at_ - 32, ?_, ?_⟩
    · apply List.ext_getElem?
      intro j
      by_cases h1 : j < l.length
      · rw [hl j h1]
        by_cases h2 : j < at_
        · rw [List.getElem?_append_left (by simpa using h2)]
          have : ¬ at_ ≤ j := by omega
          simp [h2, this]
        · rw [List.getElem?_append_right (by simp; omega)]
          have h3 : at_ ≤ j := by omega
          simp only [List.length_replicate, h3, decide_true, Bool.true_and]
          by_cases h4 : j - at_ < min 32 (l.length - at_)
          · rw [List.getElem?_append_left (by simpa [bitsOf] using h4)]
            simp [bitsOf]
            rw [List.getElem?_range (by omega)]
            rfl
          · rw [List.getElem?_append_right (by simp [bitsOf]; omega)]
            have h5 : 32 ≤ j - at_ := by omega
            rw [BitVec.getLsbD_of_ge _ _ h5]
            simp [bitsOf]
            rw [List.getElem?_replicate_of_lt (by omega)]
      · rw [List.getElem?_eq_none (by omega), List.getElem?_eq_none (by simp [bitsOf]; omega)]
    · by_cases h : 32 ≤ l.length - at_
      · rw [Nat.min_eq_left h]; exact p.isLt
      · rw [Nat.min_eq_right (by omega)]
        apply Nat.lt_pow_two_of_testBit
        intro i hi
        cases e : p.toNat.testBit i
        · rfl
        · have := hin i (by simpa [BitVec.getLsbD] using e)
          omega
  obtain ⟨m, k, e, hm⟩ := hb
  rw [e, serial_append, serial_append, serial_zeros, serial_zeros, shN_zero, ← shN_serial m 0#32 p hm]
  intro h
  have := shN_inj _ h
  have := shN_inj m this
  simp at this
  exact hp this
end Crc
