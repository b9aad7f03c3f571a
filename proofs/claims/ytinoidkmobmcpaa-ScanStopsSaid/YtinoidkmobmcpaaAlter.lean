/- A text of which one byte is another one. -/
import Derived.Test.YtinoidkmobmcpaaPx0
import Derived.Test.YtinoidkmobmcpaaSumEv
import Derived.Test.YtinoidkmobmcpaaCat
namespace Go.Proofs.Ytinoidkmobmcpaa.P
open Go.RowKit Go.Proofs.YtinoidkmobmcpaaW.PrintWords Go.Proofs.YtinoidkmobmcpaaW.PrintLast

theorem bits_xor8A (a b : BitVec 8) : Go.bits .xor .u8 (a.toNat : Int) (b.toNat : Int) = ((a ^^^ b).toNat : Int) := by
  have h : ∀ c : BitVec 8, BitVec.ofInt 8 (c.toNat : Int) = c := fun c => by rw [BitVec.ofInt_natCast, BitVec.ofNat_toNat, BitVec.setWidth_eq]
  have hl : ∀ c : BitVec 8, ((c.toNat : Int)) % 256 = (c.toNat : Int) := fun c => by have := c.isLt; omega
  unfold Go.bits
  simp only [IntKind.bits]
  rw [Go.IntKind.wrap_u8, h, h]
  exact hl _
theorem of8A (x : Int) (h : 0 ≤ x ∧ x ≤ 255) : ∃ v : BitVec 8, x = (v.toNat : Int) := by
  refine ⟨BitVec.ofNat 8 x.toNat, ?_⟩
  rw [BitVec.toNat_ofNat]
  omega
theorem xor_byteA (x y : Int) (hx : 0 ≤ x ∧ x ≤ 255) (hy : 0 ≤ y ∧ y ≤ 255) : 0 ≤ Go.bits .xor .u8 x y ∧ Go.bits .xor .u8 x y ≤ 255 := by
  obtain ⟨a, rfl⟩ := of8A x hx
  obtain ⟨b, rfl⟩ := of8A y hy
  rw [bits_xor8A]
  have := (a ^^^ b).isLt
  omega
theorem xor_neA (x y : Int) (hx : 0 ≤ x ∧ x ≤ 255) (hy : 0 ≤ y ∧ y ≤ 255) (h : y ≠ 0) : Go.bits .xor .u8 x y ≠ x := by
  obtain ⟨a, rfl⟩ := of8A x hx
  obtain ⟨b, rfl⟩ := of8A y hy
  rw [bits_xor8A]
  intro e
  apply h
  have e2 : a ^^^ b = a := BitVec.eq_of_toNat_eq (by omega)
  have e3 : b = 0#8 := by
    have := congrArg (fun v => a ^^^ v) e2
    simpa [← BitVec.xor_assoc] using this
  rw [e3]; rfl
theorem bytesOf_bytesA (s : ByteArray) : Bytes (bytesOf s) := by
  intro x hx
  unfold bytesOf at hx
  obtain ⟨b, _, rfl⟩ := List.mem_map.1 hx
  have := b.toNat_lt
  omega
theorem bt_rangeA (s : ByteArray) (i : Int) : 0 ≤ bt s i ∧ bt s i ≤ 255 := by
  unfold bt
  split
  · rename_i h
    have := (s[i.toNat]'h).toNat_lt
    omega
  · omega
/-- The text with another byte at a place. -/
def alterOf (s : ByteArray) (i : Int) (y : Int) : ByteArray := strOfNums ((bytesOf s).set i.toNat (Go.bits .xor .u8 (bt s i) y))
theorem alterOf_size (s : ByteArray) (i y : Int) : (alterOf s i y).size = s.size := by
  unfold alterOf
  rw [strOfNums_size, List.length_set, bytesOf_length]
theorem alterOf_at (s : ByteArray) (i : Nat) (y : Int) (hy : 0 ≤ y ∧ y ≤ 255) (j : Nat) (hj : j < s.size) :
    bt (alterOf s (i : Int) y) (j : Int) = if j = i then Go.bits .xor .u8 (bt s (i : Int)) y else bt s (j : Int) := by
  have hl := bytesOf_length s
  have hb : Bytes ((bytesOf s).set i (Go.bits .xor .u8 (bt s (i : Int)) y)) := by
    intro x hx
    rcases List.mem_or_eq_of_mem_set hx with h | h
    · exact bytesOf_bytesA s x h
    · rw [h]
      have := xor_byteA (bt s (i : Int)) y (bt_rangeA s _) hy
      omega
  unfold alterOf
  rw [Int.toNat_natCast, bt_nums _ hb j (by rw [List.length_set]; omega), List.getElem_set]
  by_cases c : j = i
  · rw [if_pos c.symm, if_pos c]
  · rw [if_neg (fun z => c z.symm), if_neg c]
    have := rd_bytesOf s (j : Int)
    unfold rd at this
    rw [← this, Int.toNat_natCast, List.getD_eq_getElem?_getD, List.getElem?_eq_getElem (by omega)]
    rfl
theorem data_getA (s : ByteArray) (i : Nat) (h : i < s.size) : ∃ c : UInt8, s.data.toList[i]? = some c ∧ bt s (i : Int) = (c.toNat : Int) := by
  have hl : i < s.data.toList.length := by rw [data_length]; exact h
  refine ⟨s.data.toList[i], List.getElem?_eq_getElem hl, ?_⟩
  exact bt_nat s i hl
/-- Texts of one length that are unlike in one byte have unlike sums, whatever stands ahead. -/
theorem crc_oneA (h d d' : ByteArray) (a : Nat) (ha : a < d.size) (hz : d'.size = d.size) (hs : ∀ i : Nat, i < d.size → i ≠ a → bt d' (i : Int) = bt d (i : Int)) (hne : bt d' (a : Int) ≠ bt d (a : Int)) :
    crcAdd 0#32 (h ++ d') ≠ crcAdd 0#32 (h ++ d) := by
  obtain ⟨x, hx, ex⟩ := data_getA d a ha
  obtain ⟨y, hy, ey⟩ := data_getA d' a (by omega)
  have hxy : y ≠ x := fun e => hne (by rw [ex, ey, e])
  have same : ∀ i : Nat, i ≠ a → d'.data.toList[i]? = d.data.toList[i]? := by
    intro i hi
    by_cases c : i < d.size
    · obtain ⟨u, hu, eu⟩ := data_getA d i c
      obtain ⟨v, hv, ev⟩ := data_getA d' i (by omega)
      rw [hu, hv]
      congr 1
      have := hs i c hi
      apply UInt8.toNat_inj.1
      omega
    · rw [List.getElem?_eq_none (by rw [data_length]; omega), List.getElem?_eq_none (by rw [data_length]; omega)]
  have ld : d.data.toList = d.data.toList.take a ++ x :: d.data.toList.drop (a + 1) := by
    have hl : a < d.data.toList.length := by rw [data_length]; exact ha
    have e : d.data.toList[a] = x := by
      have := List.getElem?_eq_getElem hl
      rw [hx] at this
      exact (Option.some.inj this).symm
    rw [← e, ← List.drop_eq_getElem_cons hl, List.take_append_drop]
  have ld' : d'.data.toList = d.data.toList.take a ++ y :: d.data.toList.drop (a + 1) := by
    apply List.ext_getElem?
    intro i
    have hl : (d.data.toList.take a).length = a := by rw [List.length_take, data_length]; omega
    by_cases c : i < a
    · rw [List.getElem?_append_left (by omega), List.getElem?_take_of_lt c]
      exact same i (by omega)
    · rw [List.getElem?_append_right (by omega), hl]
      by_cases c2 : i = a
      · subst c2; rw [Nat.sub_self]; exact hy
      · rw [show i - a = (i - a - 1) + 1 by omega, List.getElem?_cons_succ, List.getElem?_drop, show a + 1 + (i - a - 1) = i by omega]
        exact same i c2
  unfold crcAdd
  intro e
  have e2 : Crc.run (0#32 ^^^ 0xffffffff#32) (h ++ d').data.toList = Crc.run (0#32 ^^^ 0xffffffff#32) (h ++ d).data.toList := by
    have := congrArg (fun v => v ^^^ 0xffffffff#32) e
    simpa [BitVec.xor_assoc] using this
  rw [ByteArray.data_append, ByteArray.data_append, Array.toList_append, Array.toList_append, ld, ld', ← List.append_assoc, ← List.append_assoc] at e2
  exact Crc.run_one _ _ _ _ _ hxy e2
end Go.Proofs.Ytinoidkmobmcpaa.P
