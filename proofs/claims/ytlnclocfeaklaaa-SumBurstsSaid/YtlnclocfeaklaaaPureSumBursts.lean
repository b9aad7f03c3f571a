/- Two texts of one length that are unlike in bits that lie within 32 side by side have unlike sums. -/
import Derived.Test.YtlnclocfeaklaaaPx1
import Derived.Test.YtlnclocfeaklaaaPx2
import Derived.Test.YtlnclocfeaklaaaSumEv
namespace Go.Proofs.Ytlnclocfeaklaaa.Pure
open Go.RowKit Go.Proofs.Ytlnclocfeaklaaa.P Go.Proofs.YtlnclocfeaklaaaW.PrintWords Go.Proofs.YtlnclocfeaklaaaW.PrintLast

theorem bits_xor8 (a b : BitVec 8) : Go.bits .xor .u8 (a.toNat : Int) (b.toNat : Int) = ((a ^^^ b).toNat : Int) := by
  have h : ∀ c : BitVec 8, BitVec.ofInt 8 (c.toNat : Int) = c := fun c => by rw [BitVec.ofInt_natCast, BitVec.ofNat_toNat, BitVec.setWidth_eq]
  have hl : ∀ c : BitVec 8, ((c.toNat : Int)) % 256 = (c.toNat : Int) := fun c => by have := c.isLt; omega
  unfold Go.bits
  simp only [IntKind.bits]
  rw [Go.IntKind.wrap_u8, h, h]
  exact hl _
/-- A text's byte at a place. -/
def at8 (s : ByteArray) (q : Nat) : BitVec 8 := (s.data.toList.getD q 0).toBitVec
/-- A text whose bytes are unlike the first one's in the bits of D, as numbers. -/
def row (s : ByteArray) (D : Nat → BitVec 8) : List Int := (List.range s.size).map fun q => ((D q ^^^ at8 s q).toNat : Int)
theorem row_get (s : ByteArray) (D : Nat → BitVec 8) (q : Nat) (h : q < s.size) : (row s D)[q]? = some ((D q ^^^ at8 s q).toNat : Int) := by
  unfold row
  rw [List.getElem?_map, List.getElem?_range h]
  rfl
theorem row_length (s : ByteArray) (D : Nat → BitVec 8) : (row s D).length = s.size := by unfold row; rw [List.length_map, List.length_range]
theorem row_start (s : ByteArray) : bytesOf s = row s (fun _ => 0#8) := by
  apply List.ext_getElem?
  intro q
  by_cases h : q < s.size
  · rw [row_get s _ q h]
    have h' : q < s.data.toList.length := by rw [data_length]; exact h
    unfold bytesOf at8
    rw [List.getElem?_map, List.getElem?_eq_getElem h', List.getD_eq_getElem?_getD, List.getElem?_eq_getElem h']
    simp
  · rw [List.getElem?_eq_none (by rw [bytesOf_length]; omega), List.getElem?_eq_none (by rw [row_length]; omega)]
def more (D : Nat → BitVec 8) (j : Nat) : Nat → BitVec 8 := fun q => if q = j / 8 then D q ^^^ (1#8 <<< (j % 8)) else D q
theorem one_shl (m : Nat) (h : m < 8) : (2 : Int) ^ m % 256 = ((1#8 <<< m).toNat : Int) := by
  rcases m with _ | _ | _ | _ | _ | _ | _ | _ | m
  all_goals first | decide | omega
theorem row_flip (s : ByteArray) (D : Nat → BitVec 8) (j : Nat) (h : j / 8 < s.size) : styluslaw02_SumBursts.flip (row s D) (j : Int) = row s (more D j) := by
  unfold styluslaw02_SumBursts.flip
  have e1 : (((j : Int)) / 8).toNat = j / 8 := by omega
  have e2 : (((j : Int)) % 8).toNat = j % 8 := by omega
  rw [e1, e2, one_shl _ (Nat.mod_lt _ (by decide))]
  have e3 : rd (row s D) ((j : Int) / 8) = ((D (j / 8) ^^^ at8 s (j / 8)).toNat : Int) := by
    unfold rd
    rw [e1, List.getD_eq_getElem?_getD, row_get s D _ h]
    rfl
  rw [e3, bits_xor8]
  apply List.ext_getElem?
  intro q
  by_cases hq : q < s.size
  · rw [row_get s _ q hq, List.getElem?_set]
    by_cases c : j / 8 = q
    · rw [if_pos c, if_pos (by rw [row_length]; exact c ▸ h)]
      unfold more
      rw [if_pos c.symm, ← c]
      congr 3
      rw [BitVec.xor_assoc, BitVec.xor_comm (at8 s _), ← BitVec.xor_assoc]
    · rw [if_neg c, row_get s D q hq]
      unfold more
      rw [if_neg (fun z => c z.symm)]
  · rw [List.getElem?_eq_none (by rw [List.length_set, row_length]; omega), List.getElem?_eq_none (by rw [row_length]; omega)]
/-- The bits of D are the pattern's first ones, from a place on. -/
def Has (n a : Nat) (p : BitVec 32) (i : Nat) (D : Nat → BitVec 8) : Prop := ∀ j, j < 8 * n → (D (j / 8)).getLsbD (j % 8) = (decide (a ≤ j ∧ j < a + i) && p.getLsbD (j - a))
theorem has_zero (n a : Nat) (p : BitVec 32) : Has n a p 0 (fun _ => 0#8) := by
  intro j _
  rw [decide_eq_false (by omega)]
  simp
theorem has_skip {n a : Nat} {p : BitVec 32} {i : Nat} {D : Nat → BitVec 8} (h : Has n a p i D) (hp : p.getLsbD i = false) : Has n a p (i + 1) D := by
  intro j hj
  rw [h j hj]
  by_cases c : j = a + i
  · subst c
    rw [show a + i - a = i by omega, hp, Bool.and_false, Bool.and_false]
  · congr 1
    exact decide_eq_decide.2 (by omega)
theorem has_more {n a : Nat} {p : BitVec 32} {i : Nat} {D : Nat → BitVec 8} (h : Has n a p i D) (hp : p.getLsbD i = true) : Has n a p (i + 1) (more D (a + i)) := by
  intro j hj
  unfold more
  by_cases c : j = a + i
  · subst c
    rw [if_pos rfl, BitVec.getLsbD_xor, h _ hj, decide_eq_false (by omega), show a + i - a = i by omega, hp, decide_eq_true (by omega)]
    have : (a + i) % 8 < 8 := Nat.mod_lt _ (by decide)
    simp [this]
  · by_cases d : j / 8 = (a + i) / 8
    · rw [if_pos d, BitVec.getLsbD_xor, h j hj]
      have hne : j % 8 ≠ (a + i) % 8 := by omega
      have : (1#8 <<< ((a + i) % 8)).getLsbD (j % 8) = false := by
        rw [BitVec.getLsbD_shiftLeft]
        by_cases e : j % 8 < (a + i) % 8
        · simp [e]
        · have : j % 8 - (a + i) % 8 ≠ 0 := by omega
          simp [BitVec.getLsbD_one, this]
      rw [this, Bool.xor_false]
      congr 1
      exact decide_eq_decide.2 (by omega)
    · rw [if_neg d, h j hj]
      congr 1
      exact decide_eq_decide.2 (by omega)
theorem row_data (s : ByteArray) (D : Nat → BitVec 8) : (strOfNums (row s D)).data.toList = (List.range s.size).map fun q => UInt8.ofBitVec (D q ^^^ at8 s q) := by
  unfold strOfNums row
  rw [List.map_map]
  apply List.map_congr_left
  intro q _
  apply UInt8.toNat_inj.1
  simp
theorem text_data (s : ByteArray) : s.data.toList = (List.range s.size).map fun q => UInt8.ofBitVec (at8 s q) := by
  apply List.ext_getElem?
  intro q
  by_cases h : q < s.size
  · have h' : q < s.data.toList.length := by rw [data_length]; exact h
    rw [List.getElem?_map, List.getElem?_range h, List.getElem?_eq_getElem h', Option.map_some]
    unfold at8
    rw [List.getD_eq_getElem?_getD, List.getElem?_eq_getElem h']
    rfl
  · rw [List.getElem?_eq_none (by rw [data_length]; omega), List.getElem?_eq_none (by simp; omega)]
theorem burst (s : ByteArray) (a : Nat) (p : BitVec 32) (hp : p ≠ 0#32) (D : Nat → BitVec 8) (h : Has s.size a p 32 D) (hin : ∀ i, p.getLsbD i = true → a + i < 8 * s.size) :
    crcAdd 0#32 (strOfNums (row s D)) ≠ crcAdd 0#32 s := by
  intro e
  unfold crcAdd at e
  have e2 : Crc.run (0#32 ^^^ 0xffffffff#32) (strOfNums (row s D)).data.toList = Crc.run (0#32 ^^^ 0xffffffff#32) s.data.toList := by
    have := congrArg (fun v => v ^^^ 0xffffffff#32) e
    simpa [BitVec.xor_assoc] using this
  rw [row_data, text_data s] at e2
  have e3 := congrArg (fun v => v ^^^ Crc.run (0#32 ^^^ 0xffffffff#32) ((List.range s.size).map fun q => UInt8.ofBitVec (at8 s q))) e2
  simp only [BitVec.xor_self] at e3
  rw [Crc.run_xor _ _ _ _ (by simp), BitVec.xor_self, List.zipWith_map_left, List.zipWith_map_right, List.zipWith_self] at e3
  have hz : ((List.range s.size).map fun q => UInt8.ofBitVec (D q ^^^ at8 s q) ^^^ UInt8.ofBitVec (at8 s q)) = (List.range s.size).map fun q => UInt8.ofBitVec (D q) := by
    apply List.map_congr_left
    intro q _
    apply UInt8.toBitVec_inj.1
    simp [BitVec.xor_assoc]
  rw [hz, Crc.run_serial] at e3
  refine Crc.serial_burst _ p a hp (fun j hj => ?_) (fun i hi => ?_) e3
  · rw [Crc.flat_length, List.length_map, List.length_range] at hj
    rw [Crc.flat_get _ _ (by simpa using hj), List.getD_eq_getElem?_getD, List.getElem?_map, List.getElem?_range (by omega)]
    simp only [Option.map_some, Option.getD_some]
    have := h j hj
    rw [this]
    by_cases c : j < a + 32
    · congr 2
      exact decide_eq_decide.2 (by omega)
    · rw [BitVec.getLsbD_of_ge p (j - a) (by omega), Bool.and_false, Bool.and_false]
  · rw [Crc.flat_length, List.length_map, List.length_range]
    exact hin i hi
theorem bit_of (v : BitVec 32) (i : Nat) : (ofB v / 2 ^ i % 2 = 0) ↔ v.getLsbD i = false := by
  unfold ofB
  have e : ((v.toNat : Int)) / 2 ^ i % 2 = ((v.toNat / 2 ^ i % 2 : Nat) : Int) := by
    rw [Int.natCast_emod, Int.natCast_ediv, Int.natCast_pow]
    rfl
  rw [e]
  have : v.getLsbD i = decide (v.toNat / 2 ^ i % 2 = 1) := by
    rw [BitVec.getLsbD, Nat.testBit_eq_decide_div_mod_eq]
  rw [this, decide_eq_false_iff_not]
  omega
theorem loop (s : ByteArray) (hs : s.size ≤ 1000) (a : Nat) (p : BitVec 32) (hp : p ≠ 0#32) (d : Nat) : ∀ (i : Nat) (D : Nat → BitVec 8), i + d = 32 → Has s.size a p i D → (∀ j, j < i → p.getLsbD j = true → a + j < 8 * s.size) →
    Ev (fun k => styluslaw02_SumBursts.l0 k s (a : Int) (ofB p) (row s D) (i : Int)) true := by
  induction d with
  | zero =>
    intro i D hi hD hin
    obtain rfl : i = 32 := by omega
    have hb := burst s a p hp D hD (fun j hj => by
      by_cases c : j < 32
      · exact hin j c hj
      · rw [BitVec.getLsbD_of_ge p j (by omega)] at hj
        cases hj)
    refine Ev.step (f := fun k => styluslaw02_SumBursts.tail k s (row s D)) (fun k => by rw [styluslaw02_SumBursts.l0]; exact if_neg (by omega)) ?_
    unfold styluslaw02_SumBursts.tail
    refine Ev.bind (sum_Of_ev _ (by rw [strOfNums_size, row_length]; omega)) (Ev.bind (sum_Of_ev s (by omega)) (Ev.neg (fun z => hb (ofB_inj z)) lives02))
  | succ d ih =>
    intro i D hi hD hin
    by_cases c : p.getLsbD i = false
    · refine Ev.step (f := fun k => styluslaw02_SumBursts.l0 k s (a : Int) (ofB p) (row s D) ((i : Int) + 1)) (fun k => ?_) ?_
      · rw [styluslaw02_SumBursts.l0, if_pos (by omega), if_pos (by rw [Int.toNat_natCast]; exact (bit_of p i).2 c)]
      · exact ih (i + 1) D (by omega) (has_skip hD c) (fun j hj hb => by
          by_cases e : j = i
          · rw [e, c] at hb; cases hb
          · exact hin j (by omega) hb)
    · have c2 : p.getLsbD i = true := by simpa using c
      have cn : ¬ ofB p / 2 ^ ((i : Int)).toNat % 2 = 0 := by rw [Int.toNat_natCast]; exact fun z => c ((bit_of p i).1 z)
      by_cases g : ((a : Int) + (i : Int)) / 8 ≥ (s.size : Int)
      · refine Ev.step (f := fun k => styluslaw02_lives.f k) (fun k => ?_) lives02
        rw [styluslaw02_SumBursts.l0, if_pos (by omega), if_neg cn]
        exact if_pos g
      · refine Ev.step (f := fun k => styluslaw02_SumBursts.l0 k s (a : Int) (ofB p) (row s (more D (a + i))) ((i : Int) + 1)) (fun k => ?_) ?_
        · rw [styluslaw02_SumBursts.l0, if_pos (by omega), if_neg cn, ← row_flip s D (a + i) (by omega)]
          exact if_neg g
        · exact ih (i + 1) (more D (a + i)) (by omega) (has_more hD c2) (fun j hj hb => by
            by_cases e : j = i
            · omega
            · exact hin j (by omega) hb)
theorem SumBursts : styluslaw02_SumBursts.Pure := by
  intro s at_ p hs ha hp
  apply Ev.rounds
  have hp2 := wf_u32 hp
  unfold styluslaw02_SumBursts.f
  refine Ev.pos ⟨hp2.1, hp2.2⟩ ?_
  by_cases G : (s.size : Int) > 1000 ∨ p = 0 ∨ at_ < 0 ∨ at_ > 8 * (s.size : Int)
  · exact Ev.pos G lives02
  refine Ev.neg G ?_
  obtain ⟨v, rfl⟩ := ofB_of p hp2.1 hp2.2
  obtain ⟨a, rfl⟩ : ∃ a : Nat, at_ = (a : Int) := ⟨at_.toNat, by omega⟩
  rw [row_start]
  have := loop s (by omega) a v (fun z => by subst z; exact G (.inr (.inl rfl))) 32 0 _ (by omega) (has_zero _ _ _) (fun j hj => by omega)
  simpa using this

end Go.Proofs.Ytlnclocfeaklaaa.Pure
