/- Sealed bytes: what the program's and the reference's laying and reading come to. -/
import Derived.Test.YtmbindcgghddjaaPx1
import Derived.Test.YtmbindcgghddjaaPx2
import Derived.Test.YtmbindcgghddjaaPx3
import Derived.Test.YtmbindcgghddjaaSumEv
import Derived.Test.YtmbindcgghddjaaNumEv
namespace Go.Proofs.Ytmbindcgghddjaa.P
open Go.RowKit Go.Proofs.YtmbindcgghddjaaW.PrintWords Go.Proofs.YtmbindcgghddjaaW.PrintLast

def sc01 : ByteArray := ⟨#[83, 67, 48, 49]⟩
theorem sc01_size : sc01.size = 4 := rfl
/-- What is told ahead of the sum. -/
def toldOf (e : Int) (s : ByteArray) : ByteArray := put32 e ++ put32 (s.size : Int)
theorem toldOf_size (e : Int) (s : ByteArray) : (toldOf e s).size = 8 := by unfold toldOf; rw [ByteArray.size_append, put32_size, put32_size]
def sealLay (e : Int) (s : ByteArray) : ByteArray × Int :=
  if e < 0 ∨ 999999 < e then (⟨#[]⟩, 3) else if 131072 < s.size then (⟨#[]⟩, 6) else (((sc01 ++ toldOf e s) ++ put32 (ofB (crcAdd 0#32 (toldOf e s ++ s)))) ++ s, 0)
theorem w64_ofB (v : BitVec 32) : wrap64 (ofB v) = ofB v := by have := ofB_range v; exact w64 (by omega) (by omega)
theorem seal_told_is (e : Int) (s : ByteArray) : seal_told.f e (s.size : Int) = some (toldOf e s) := by
  unfold seal_told.f toldOf
  rw [num_Put32_is, num_Put32_is]
  simp only [Option.bind_some]
  rw [if_pos (by rw [put32_size, put32_size]; decide)]
theorem seal_Lay_ev (e : Int) (s : ByteArray) : Ev (fun k => seal_Lay.f k e s) (sealLay e s) := by
  unfold seal_Lay.f sealLay
  by_cases h0 : e < 0
  · rw [if_pos (.inl h0)]; exact Ev.pos h0 (Ev.now _)
  · refine Ev.neg h0 ?_
    by_cases h1 : e > 999999
    · rw [if_pos (.inr h1)]; exact Ev.pos h1 (Ev.now _)
    · rw [if_neg (by omega)]
      refine Ev.neg h1 ?_
      by_cases h2 : (s.size : Int) > 131072
      · rw [if_pos (by omega)]; exact Ev.pos h2 (Ev.now _)
      · rw [if_neg (by omega)]
        have ht := toldOf_size e s
        refine Ev.neg h2 (Ev.call (seal_told_is e s) (Ev.bind (sum_Of_ev _ (by rw [ByteArray.size_append]; omega)) ?_))
        rw [w64_ofB]
        refine Ev.call (num_Put32_is _) (Ev.pos (by rw [ht, put32_size]; decide) (Ev.now _))
theorem ref_Lay29_ev (e : Int) (s : ByteArray) : Ev (fun k => stylusref29_Lay.f k e s) (sealLay e s) := by
  unfold stylusref29_Lay.f sealLay
  have no : Ev (fun k => stylusref29_Lay.j0 k e s true) ((⟨#[]⟩ : ByteArray), 3) := Ev.step (f := fun _ => some _) (fun k => by rw [stylusref29_Lay.j0, if_pos (rfl : true = true)]) (Ev.now _)
  by_cases h0 : e < 0
  · rw [if_pos (.inl h0)]; exact Ev.pos h0 no
  · refine Ev.neg h0 ?_
    by_cases h1 : e > 999999
    · rw [if_pos (.inr h1), decide_eq_true h1]; exact no
    · rw [if_neg (by omega), decide_eq_false h1]
      refine Ev.step (fun k => by rw [stylusref29_Lay.j0, if_neg Bool.false_ne_true]) ?_
      by_cases h2 : (s.size : Int) > 131072
      · rw [if_pos (by omega)]; exact Ev.pos h2 (Ev.now _)
      · rw [if_neg (by omega)]
        have ht := toldOf_size e s
        have hs4 := sc01_size
        refine Ev.neg h2 (Ev.bind (ref_Put32_ev e) (Ev.bind (ref_Put32_ev _) (Ev.pos (by rw [put32_size, put32_size]; decide) (Ev.pos (by rw [ByteArray.size_append, put32_size, put32_size]; decide) (Ev.pos (by rw [ByteArray.size_append, put32_size, put32_size]; omega) ?_)))))
        refine Ev.bind (ref_Of_ev (toldOf e s ++ s) (by rw [ByteArray.size_append]; omega)) ?_
        rw [w64_ofB]
        refine Ev.bind (ref_Put32_ev _) (Ev.pos ?_ (Ev.pos ?_ (Ev.now _)))
        · show (sc01 ++ toldOf e s).size + _ ≤ _
          rw [ByteArray.size_append, ht, hs4, put32_size]; decide
        · show ((sc01 ++ toldOf e s) ++ _).size + _ ≤ _
          rw [ByteArray.size_append, ByteArray.size_append, ht, hs4, put32_size]; omega
def isSc01 (s : ByteArray) : Prop := bt s 0 = 83 ∧ bt s 1 = 67 ∧ bt s 2 = 48 ∧ bt s 3 = 49
instance (s : ByteArray) : Decidable (isSc01 s) := by unfold isSc01; infer_instance
def sealRead (s : ByteArray) : Int × ByteArray × Int :=
  if s.size < 16 then (0, ⟨#[]⟩, 18) else if isSc01 s then
    (if ((s.size - 16 : Nat) : Int) < (getN s 8 4).1 then (0, ⟨#[]⟩, 18) else if ((s.size - 16 : Nat) : Int) > (getN s 8 4).1 then (0, ⟨#[]⟩, 6)
      else if ofB (crcAdd 0#32 (s.extract 4 12 ++ s.extract 16 s.size)) = (getN s 12 4).1 then (if (getN s 4 4).1 > 999999 then (0, ⟨#[]⟩, 3) else ((getN s 4 4).1, s.extract 16 s.size, 0)) else (0, ⟨#[]⟩, 19))
  else (0, ⟨#[]⟩, 5)
theorem seal_Read_ev (s : ByteArray) (hs : s.size ≤ 140737488351232) : Ev (fun k => seal_Read.f k s) (sealRead s) := by
  unfold seal_Read.f sealRead
  by_cases h0 : s.size < 16
  · rw [if_pos h0]; exact Ev.pos (by omega) (Ev.now _)
  · rw [if_neg h0]
    refine Ev.neg (by omega) ?_
    by_cases h1 : isSc01 s
    · rw [if_pos h1]
      refine Ev.pos h1 ?_
      unfold seal_Read.j0
      refine Ev.bind (num_Get32_ev s 4 hs) (Ev.bind (num_Get32_ev s 8 hs) (Ev.bind (num_Get32_ev s 12 hs) ?_))
      have hr : (s.extract 16 s.size).size = s.size - 16 := by rw [ByteArray.size_extract]; omega
      have he : (s.extract 4 12).size = 8 := by rw [ByteArray.size_extract]; omega
      rw [hr]
      by_cases h2 : ((s.size - 16 : Nat) : Int) < (getN s 8 4).1
      · rw [if_pos h2]; exact Ev.pos h2 (Ev.now _)
      · rw [if_neg h2]
        refine Ev.neg h2 ?_
        by_cases h3 : ((s.size - 16 : Nat) : Int) > (getN s 8 4).1
        · rw [if_pos h3]; exact Ev.pos h3 (Ev.now _)
        · rw [if_neg h3]
          refine Ev.neg h3 (Ev.bind (sum_Of_ev _ (by omega)) (Ev.bind (sum_Add_ev _ _ (by omega)) ?_))
          rw [w64_ofB, crc_joins]
          by_cases h4 : ofB (crcAdd 0#32 (s.extract 4 12 ++ s.extract 16 s.size)) = (getN s 12 4).1
          · refine Ev.pos h4 ?_
            rw [if_pos h4]
            by_cases h5 : (getN s 4 4).1 > 999999
            · refine Ev.pos h5 ?_; rw [if_pos h5]; exact Ev.now _
            · refine Ev.neg h5 ?_; rw [if_neg h5]; exact Ev.now _
          · refine Ev.neg h4 ?_; rw [if_neg h4]; exact Ev.now _
    · rw [if_neg h1]
      exact Ev.neg h1 (Ev.now _)
theorem first4 (s : ByteArray) (h : 16 ≤ s.size) : (s.extract 0 4).toList = ([83, 67, 48, 49] : List UInt8) ↔ isSc01 s := by
  have hz : (s.extract 0 4).size = 4 := by rw [ByteArray.size_extract]; omega
  have hl : (s.extract 0 4).data.toList.length = 4 := by rw [data_length, hz]
  have hb : ∀ j : Nat, j < 4 → ∃ c : UInt8, (s.extract 0 4).data.toList[j]? = some c ∧ (c.toNat : Int) = bt s (j : Int) := by
    intro j hj
    refine ⟨(s.extract 0 4).data.toList[j]'(by omega), List.getElem?_eq_getElem _, ?_⟩
    have h1 : bt (s.extract 0 4) (j : Int) = (((s.extract 0 4).data.toList[j]'(by omega)).toNat : Int) := by
      unfold bt
      rw [dif_pos (by simp; omega)]
      rfl
    rw [← h1]
    unfold bt
    rw [dif_pos (by simp; omega), dif_pos (by simp; omega)]
    simp [ByteArray.getElem_extract]
  obtain ⟨c0, g0, e0⟩ := hb 0 (by omega)
  obtain ⟨c1, g1, e1⟩ := hb 1 (by omega)
  obtain ⟨c2, g2, e2⟩ := hb 2 (by omega)
  obtain ⟨c3, g3, e3⟩ := hb 3 (by omega)
  rw [ByteArray.toList_eq]
  have hx : (s.extract 0 4).data.toList = [c0, c1, c2, c3] := by
    match hq : (s.extract 0 4).data.toList, hl with
    | [a, b, c, d], _ =>
      rw [hq] at g0 g1 g2 g3
      simp at g0 g1 g2 g3
      rw [g0, g1, g2, g3]
  rw [hx]
  unfold isSc01
  have f : ∀ (c : UInt8) (n : Nat), n < 256 → ((c.toNat : Int) = (n : Int) ↔ c = UInt8.ofNat n) := by
    intro c n hn
    constructor
    · intro h
      apply UInt8.toNat_inj.mp
      rw [UInt8.toNat_ofNat']
      omega
    · rintro rfl
      rw [UInt8.toNat_ofNat']
      omega
  have z0 := f c0 83 (by omega)
  have z1 := f c1 67 (by omega)
  have z2 := f c2 48 (by omega)
  have z3 := f c3 49 (by omega)
  constructor
  · intro h
    simp only [List.cons.injEq, and_true] at h
    exact ⟨by rw [← show bt s ((0 : Nat) : Int) = bt s 0 from rfl, ← e0]; exact z0.mpr h.1, by rw [← show bt s ((1 : Nat) : Int) = bt s 1 from rfl, ← e1]; exact z1.mpr h.2.1, by rw [← show bt s ((2 : Nat) : Int) = bt s 2 from rfl, ← e2]; exact z2.mpr h.2.2.1, by rw [← show bt s ((3 : Nat) : Int) = bt s 3 from rfl, ← e3]; exact z3.mpr h.2.2.2⟩
  · rintro ⟨q0, q1, q2, q3⟩
    have q0' : c0 = UInt8.ofNat 83 := z0.mp (e0.trans q0)
    have q1' : c1 = UInt8.ofNat 67 := z1.mp (e1.trans q1)
    have q2' : c2 = UInt8.ofNat 48 := z2.mp (e2.trans q2)
    have q3' : c3 = UInt8.ofNat 49 := z3.mp (e3.trans q3)
    rw [q0', q1', q2', q3']
    rfl
theorem ref_Read29_ev (s : ByteArray) (hs : s.size ≤ 140737488351232) : Ev (fun k => stylusref29_Read.f k s) (sealRead s) := by
  unfold stylusref29_Read.f sealRead
  by_cases h0 : s.size < 16
  · rw [if_pos h0]; exact Ev.pos (by omega) (Ev.now _)
  · rw [if_neg h0]
    refine Ev.neg (by omega) (Ev.pos (by decide) (Ev.pos (by omega) ?_))
    by_cases h1 : isSc01 s
    · rw [if_pos h1]
      refine Ev.pos ((first4 s (by omega)).mpr h1) ?_
      refine Ev.bind (ref_Get32_ev s 4 hs) (Ev.bind (ref_Get32_ev s 8 hs) (Ev.bind (ref_Get32_ev s 12 hs) ?_))
      have hr : (s.extract 16 s.size).size = s.size - 16 := by rw [ByteArray.size_extract]; omega
      have he : (s.extract 4 12).size = 8 := by rw [ByteArray.size_extract]; omega
      rw [w64 (x := (s.size : Int) - 16) (by omega) (by omega)]
      by_cases h2 : ((s.size - 16 : Nat) : Int) < (getN s 8 4).1
      · rw [if_pos h2]; exact Ev.pos (by omega) (Ev.now _)
      · rw [if_neg h2]
        refine Ev.neg (by omega) ?_
        by_cases h3 : ((s.size - 16 : Nat) : Int) > (getN s 8 4).1
        · rw [if_pos h3]; exact Ev.pos (by omega) (Ev.now _)
        · rw [if_neg h3]
          refine Ev.neg (by omega) (Ev.pos (by decide) (Ev.pos (by omega) (Ev.pos (by omega) (Ev.pos (by omega) (Ev.bind (ref_Of_ev _ (by rw [ByteArray.size_append]; omega)) ?_)))))
          rw [w64_ofB]
          by_cases h4 : ofB (crcAdd 0#32 (s.extract 4 12 ++ s.extract 16 s.size)) = (getN s 12 4).1
          · refine Ev.pos h4 ?_
            rw [if_pos h4]
            by_cases h5 : (getN s 4 4).1 > 999999
            · refine Ev.pos h5 ?_; rw [if_pos h5]; exact Ev.now _
            · refine Ev.neg h5 ?_; rw [if_neg h5]; exact Ev.now _
          · refine Ev.neg h4 ?_; rw [if_neg h4]; exact Ev.now _
    · rw [if_neg h1]
      exact Ev.neg (fun z => h1 ((first4 s (by omega)).mp z)) (Ev.now _)
theorem lives29 : Ev (fun k => styluslaw29_lives.f k) true := Ev.of (fun k => styluslaw29_lives.mono k) (k := 40) (by decide +kernel)
end Go.Proofs.Ytmbindcgghddjaa.P
