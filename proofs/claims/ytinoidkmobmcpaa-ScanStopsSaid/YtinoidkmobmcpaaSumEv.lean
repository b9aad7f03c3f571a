/- What the program's and the reference's sums come to: Crc, for every register and every text. -/
import Derived.Test.YtinoidkmobmcpaaPx2
import Derived.Test.YtinoidkmobmcpaaPx3
import Derived.Test.YtinoidkmobmcpaaPx4
import Derived.Test.YtinoidkmobmcpaaPx5
import Derived.Test.YtinoidkmobmcpaaCrc
import Derived.Test.YtinoidkmobmcpaaEvKit
namespace Go.Proofs.Ytinoidkmobmcpaa.P
open Go.RowKit Go.Proofs.YtinoidkmobmcpaaW.PrintWords Go.Proofs.YtinoidkmobmcpaaW.PrintLast

def ofB (v : BitVec 32) : Int := (v.toNat : Int)
theorem ofB_range (v : BitVec 32) : 0 ≤ ofB v ∧ ofB v < 4294967296 := by have := v.isLt; unfold ofB; omega
theorem ofB_of (x : Int) (h0 : 0 ≤ x) (h1 : x ≤ 4294967295) : ∃ v : BitVec 32, x = ofB v := by
  refine ⟨BitVec.ofNat 32 x.toNat, ?_⟩
  unfold ofB
  rw [BitVec.toNat_ofNat]
  omega
theorem ofB_inj {a b : BitVec 32} (h : ofB a = ofB b) : a = b := by
  apply BitVec.eq_of_toNat_eq
  unfold ofB at h
  omega
theorem bits_xor (a b : BitVec 32) : Go.bits .xor .u32 (ofB a) (ofB b) = ofB (a ^^^ b) := by
  have h : ∀ c : BitVec 32, BitVec.ofInt 32 (c.toNat : Int) = c := fun c => by rw [BitVec.ofInt_natCast, BitVec.ofNat_toNat, BitVec.setWidth_eq]
  have hl : ∀ c : BitVec 32, ((c.toNat : Int)) % 4294967296 = (c.toNat : Int) := fun c => by have := c.isLt; omega
  unfold Go.bits ofB
  simp only [IntKind.bits]
  rw [Go.IntKind.wrap_u32, h, h]
  exact hl _
theorem lsb_mod (a : BitVec 32) : ofB a % 2 = if a.getLsbD 0 then 1 else 0 := by
  unfold ofB
  have : a.getLsbD 0 = decide (a.toNat % 2 = 1) := by
    simp [BitVec.getLsbD, Nat.testBit_zero]
  rw [this]
  split <;> rename_i h <;> simp at h <;> omega
theorem half (a : BitVec 32) : ofB a / (2 : Int) = ofB (a >>> 1) := by
  unfold ofB
  rw [BitVec.toNat_ushiftRight, Nat.shiftRight_eq_div_pow]
  omega
theorem sh_odd (a : BitVec 32) (h : ofB a % 2 = 1) : Go.bits .xor .u32 (ofB a / 2) 3988292384 = ofB (Crc.sh a) := by
  rw [half, show (3988292384 : Int) = ofB Crc.poly from by decide, bits_xor]
  have : a.getLsbD 0 = true := by
    rw [lsb_mod] at h
    cases e : a.getLsbD 0
    · rw [e] at h; simp at h
    · rfl
  unfold Crc.sh
  rw [this]; simp
theorem sh_even (a : BitVec 32) (h : ofB a % 2 = 0) : ofB a / 2 = ofB (Crc.sh a) := by
  rw [half]
  have : a.getLsbD 0 = false := by
    rw [lsb_mod] at h
    cases e : a.getLsbD 0
    · rfl
    · rw [e] at h; simp at h
  unfold Crc.sh
  rw [this]; simp
theorem u8_u32 (b : UInt8) : ((b.toNat : Int)) % 4294967296 = ofB (b.toBitVec.setWidth 32) := by
  have := b.toNat_lt
  unfold ofB
  simp
  omega
theorem and_one (a : BitVec 32) : Go.bits .and .u32 (ofB a) 1 = ofB a % 2 := by
  have := ofB_range a
  exact Go.bits_mask .u32 32 (by decide) (fun n h0 h1 => by rw [Go.IntKind.wrap_u32]; omega) 1 (by decide) (ofB a) this.1 (by have := this.2; omega)

theorem sum_shift_is (a : BitVec 32) : sum_shift.f (ofB a) = some (ofB (Crc.sh a)) := by
  unfold sum_shift.f
  rw [and_one]
  by_cases h : ofB a % 2 = 0
  · rw [if_pos h, sh_even a h]
  · rw [if_neg h, sh_odd a (by omega)]
theorem sum_Step_l0_ev (d : Nat) : ∀ (a : BitVec 32) (i : Int), 0 ≤ i → i + d = 8 → Ev (fun k => sum_Step.l0 k (ofB a) i) (ofB (Crc.shN d a)) := by
  induction d with
  | zero =>
    intro a i h0 h1
    refine Ev.step (f := fun _ => some (ofB a)) (fun k => ?_) (Ev.now _)
    simp only [sum_Step.l0]
    rw [if_neg (by omega)]
  | succ d ih =>
    intro a i h0 h1
    refine Ev.step (f := fun k => sum_Step.l0 k (ofB (Crc.sh a)) (i + 1)) (fun k => ?_) (ih _ _ (by omega) (by omega))
    simp only [sum_Step.l0]
    rw [if_pos (by omega), sum_shift_is]
    simp only [Option.bind_some]
    rw [show wrap64 (i + 1) = i + 1 from by unfold wrap64; omega]
theorem sum_Step_ev (a : BitVec 32) (b : UInt8) : Ev (fun k => sum_Step.f k (ofB a) (b.toNat : Int)) (ofB (Crc.step a b)) := by
  refine Ev.congr (fun k => ?_) (sum_Step_l0_ev 8 (a ^^^ b.toBitVec.setWidth 32) 0 (by omega) (by omega))
  unfold sum_Step.f
  rw [u8_u32, bits_xor]
theorem ref_Step_l0_ev (d : Nat) : ∀ (a : BitVec 32) (i : Int), 0 ≤ i → i + d = 8 → Ev (fun k => stylusref02_Step.l0 k (ofB a) i) (ofB (Crc.shN d a)) := by
  induction d with
  | zero =>
    intro a i h0 h1
    refine Ev.step (f := fun _ => some (ofB a)) (fun k => ?_) (Ev.now _)
    simp only [stylusref02_Step.l0]
    rw [if_neg (by omega)]
  | succ d ih =>
    intro a i h0 h1
    refine Ev.step (f := fun k => stylusref02_Step.l0 k (ofB (Crc.sh a)) (i + 1)) (fun k => ?_) (ih _ _ (by omega) (by omega))
    have hr := ofB_range a
    simp only [stylusref02_Step.l0]
    rw [if_pos (by omega), show wrap64 (i + 1) = i + 1 from by unfold wrap64; omega, Int.tmod_eq_emod_of_nonneg hr.1, Int.tdiv_eq_ediv_of_nonneg hr.1, show (ofB a / 2) % 4294967296 = ofB a / 2 from by omega]
    by_cases h : ofB a % 2 = 1
    · rw [if_pos h, sh_odd a h]
    · rw [if_neg h, sh_even a (by omega)]
theorem ref_Step_ev (a : BitVec 32) (b : UInt8) : Ev (fun k => stylusref02_Step.f k (ofB a) (b.toNat : Int)) (ofB (Crc.step a b)) := by
  refine Ev.congr (fun k => ?_) (ref_Step_l0_ev 8 (a ^^^ b.toBitVec.setWidth 32) 0 (by omega) (by omega))
  unfold stylusref02_Step.f
  rw [u8_u32, bits_xor]
theorem drop_cons (l : List UInt8) (i : Nat) (h : i < l.length) : l.drop i = l[i] :: l.drop (i + 1) := List.drop_eq_getElem_cons h
theorem all_ones : (4294967295 : Int) = ofB (0xffffffff#32) := by decide
/-- The sum of a text behind one of that sum. -/
def crcAdd (a : BitVec 32) (s : ByteArray) : BitVec 32 := Crc.run (a ^^^ 0xffffffff#32) s.data.toList ^^^ 0xffffffff#32
theorem bt_nat (s : ByteArray) (i : Nat) (h : i < s.data.toList.length) : bt s (i : Int) = ((s.data.toList[i]).toNat : Int) := by
  have h' : i < s.size := by rw [data_length] at h; exact h
  unfold bt
  rw [dif_pos (by simpa using h')]
  simp
  rfl
theorem crc_joins (a b : ByteArray) : crcAdd (crcAdd 0#32 a) b = crcAdd 0#32 (a ++ b) := by
  unfold crcAdd
  rw [ByteArray.data_append, Array.toList_append, Crc.run_append, BitVec.xor_assoc, BitVec.xor_self, BitVec.xor_zero]
theorem crc_empty (a : BitVec 32) : crcAdd a (⟨#[]⟩ : ByteArray) = a := by
  show (a ^^^ 0xffffffff#32) ^^^ 0xffffffff#32 = a
  rw [BitVec.xor_assoc, BitVec.xor_self, BitVec.xor_zero]
theorem sum_Add_l0_ev (s : ByteArray) (hs : s.size ≤ 140737488351232) (d : Nat) : ∀ (a : BitVec 32) (i : Nat), i + d = s.data.toList.length →
    Ev (fun k => sum_Add.l0 k s (ofB a) (i : Int)) (ofB (Crc.run a (s.data.toList.drop i) ^^^ 0xffffffff#32)) := by
  have hz := data_length s
  induction d with
  | zero =>
    intro a i h
    refine Ev.step (f := fun _ => some (ofB (a ^^^ 0xffffffff#32))) (fun k => ?_) ?_
    · simp only [sum_Add.l0]
      rw [if_neg (by omega), all_ones, bits_xor]
    · rw [List.drop_of_length_le (by omega)]; exact Ev.now _
  | succ d ih =>
    intro a i h
    have hi : i < s.data.toList.length := by omega
    have e := ih (Crc.step a s.data.toList[i]) (i + 1) (by omega)
    refine Ev.step (f := fun k => (sum_Step.f k (ofB a) (s.data.toList[i].toNat : Int)).bind fun t => sum_Add.l0 k s t ((i + 1 : Nat) : Int)) (fun k => ?_) (Ev.bind (sum_Step_ev a s.data.toList[i]) ?_)
    · simp only [sum_Add.l0]
      rw [if_pos (by omega), if_pos (by omega), bt_nat s i hi, show wrap64 ((i : Int) + 1) = ((i + 1 : Nat) : Int) from by unfold wrap64; omega]
    · rw [drop_cons _ i hi]
      simpa [Crc.run] using e
theorem sum_Add_ev (a : BitVec 32) (s : ByteArray) (hs : s.size ≤ 140737488351232) : Ev (fun k => sum_Add.f k (ofB a) s) (ofB (crcAdd a s)) := by
  have e := sum_Add_l0_ev s hs s.data.toList.length (a ^^^ 0xffffffff#32) 0 (by omega)
  refine Ev.congr (fun k => ?_) (by simpa [crcAdd] using e)
  unfold sum_Add.f
  rw [all_ones, bits_xor]
theorem sum_Of_ev (s : ByteArray) (hs : s.size ≤ 140737488351232) : Ev (fun k => sum_Of.f k s) (ofB (crcAdd 0#32 s)) := by
  have e := sum_Add_ev 0#32 s hs
  refine Ev.congr (fun k => ?_) e
  unfold sum_Of.f
  cases h : sum_Add.f k 0 s <;> simp [ofB, h]
theorem ref_Add_l0_ev (s : ByteArray) (hs : s.size ≤ 140737488351232) (d : Nat) : ∀ (a : BitVec 32) (i : Nat), i + d = s.data.toList.length →
    Ev (fun k => stylusref02_Add.l0 k s (ofB a) (i : Int)) (ofB (Crc.run a (s.data.toList.drop i) ^^^ 0xffffffff#32)) := by
  have hz := data_length s
  induction d with
  | zero =>
    intro a i h
    refine Ev.step (f := fun _ => some (ofB (a ^^^ 0xffffffff#32))) (fun k => ?_) ?_
    · simp only [stylusref02_Add.l0]
      rw [if_neg (by omega), all_ones, bits_xor]
    · rw [List.drop_of_length_le (by omega)]; exact Ev.now _
  | succ d ih =>
    intro a i h
    have hi : i < s.data.toList.length := by omega
    have e := ih (Crc.step a s.data.toList[i]) (i + 1) (by omega)
    refine Ev.step (f := fun k => (stylusref02_Step.f k (ofB a) (s.data.toList[i].toNat : Int)).bind fun t => stylusref02_Add.l0 k s t ((i + 1 : Nat) : Int)) (fun k => ?_) (Ev.bind (ref_Step_ev a s.data.toList[i]) ?_)
    · simp only [stylusref02_Add.l0]
      rw [if_pos (by omega), if_pos (by omega), bt_nat s i hi, show wrap64 ((i : Int) + 1) = ((i + 1 : Nat) : Int) from by unfold wrap64; omega]
    · rw [drop_cons _ i hi]
      simpa [Crc.run] using e
theorem ref_Add_ev (a : BitVec 32) (s : ByteArray) (hs : s.size ≤ 140737488351232) : Ev (fun k => stylusref02_Add.f k (ofB a) s) (ofB (crcAdd a s)) := by
  have e := ref_Add_l0_ev s hs s.data.toList.length (a ^^^ 0xffffffff#32) 0 (by omega)
  refine Ev.congr (fun k => ?_) (by simpa [crcAdd] using e)
  unfold stylusref02_Add.f
  rw [all_ones, bits_xor]
theorem ref_Of_ev (s : ByteArray) (hs : s.size ≤ 140737488351232) : Ev (fun k => stylusref02_Of.f k s) (ofB (crcAdd 0#32 s)) := by
  have e := ref_Add_ev 0#32 s hs
  refine Ev.congr (fun k => ?_) e
  unfold stylusref02_Of.f
  cases h : stylusref02_Add.f k 0 s <;> simp [ofB, h]
end Go.Proofs.Ytinoidkmobmcpaa.P
