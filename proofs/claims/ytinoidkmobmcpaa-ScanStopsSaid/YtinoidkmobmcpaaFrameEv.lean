/- Frames: what the program's and the reference's laying and reading come to. -/
import Derived.Test.YtinoidkmobmcpaaPx2
import Derived.Test.YtinoidkmobmcpaaPx3
import Derived.Test.YtinoidkmobmcpaaPx5
import Derived.Test.YtinoidkmobmcpaaPx6
import Derived.Test.YtinoidkmobmcpaaSumEv
import Derived.Test.YtinoidkmobmcpaaNumEv
import Derived.Test.YtinoidkmobmcpaaCat
namespace Go.Proofs.Ytinoidkmobmcpaa.P
open Go.RowKit Go.Proofs.YtinoidkmobmcpaaW.PrintWords Go.Proofs.YtinoidkmobmcpaaW.PrintLast

def sj : ByteArray := ⟨#[83, 74]⟩
theorem sj_size : sj.size = 2 := rfl
theorem w64_ofBF (v : BitVec 32) : wrap64 (ofB v) = ofB v := by have := ofB_range v; exact w64 (by omega) (by omega)
def headOf (e q : Int) (n : Int) : ByteArray := (put16 n ++ put32 e) ++ put32 q
theorem headOf_size (e q n : Int) : (headOf e q n).size = 10 := by unfold headOf; rw [ByteArray.size_append, ByteArray.size_append, put16_size, put32_size, put32_size]
def sumOf (e q : Int) (d : ByteArray) : Int := ofB (crcAdd 0#32 (headOf e q (d.size : Int) ++ d))
def laidOf (e q : Int) (d : ByteArray) : ByteArray := ((sj ++ headOf e q (d.size : Int)) ++ put32 (sumOf e q d)) ++ d
def frLay (e q : Int) (d : ByteArray) : ByteArray × Int :=
  if ¬ (0 ≤ e ∧ e ≤ 999999 ∧ 0 ≤ q ∧ q ≤ 2147483647) then (⟨#[]⟩, 3) else if 1024 < d.size then (⟨#[]⟩, 6) else (laidOf e q d, 0)
theorem frame_may_is (n e q : Int) : frame_head_may.f n e q = some (decide (0 ≤ e ∧ e ≤ 999999 ∧ 0 ≤ q ∧ q ≤ 2147483647)) := by
  unfold frame_head_may.f
  by_cases h0 : e ≥ 0
  · rw [if_pos h0]
    by_cases h1 : e ≤ 999999
    · rw [if_pos h1]
      by_cases h2 : q ≥ 0
      · rw [if_pos h2]
        by_cases h3 : q ≤ 2147483647
        · rw [decide_eq_true h3, decide_eq_true ⟨h0, h1, h2, h3⟩]
        · rw [decide_eq_false h3, decide_eq_false (fun z => h3 z.2.2.2)]
      · rw [if_neg h2, decide_eq_false (fun z => h2 z.2.2.1)]
    · rw [if_neg h1, decide_eq_false (fun z => h1 z.2.1)]
  · rw [if_neg h0, decide_eq_false (fun z => h0 z.1)]
theorem frame_seal_ev (t d : ByteArray) (ht : t.size ≤ 100000) (hd : d.size ≤ 1000000) : Ev (fun k => frame_seal.f k t d) (ofB (crcAdd 0#32 (t ++ d))) := by
  unfold frame_seal.f
  refine Ev.bind (sum_Of_ev _ (by omega)) (Ev.bind (sum_Add_ev _ _ (by omega)) ?_)
  rw [w64_ofBF, crc_joins]
  exact Ev.now _
theorem ref_Lay12_ev (e q : Int) (d : ByteArray) : Ev (fun k => stylusref12_Lay.f k e q d) (frLay e q d) := by
  unfold stylusref12_Lay.f frLay
  have no : Ev (fun k => stylusref12_Lay.j0 k true e q d) ((⟨#[]⟩ : ByteArray), 3) := Ev.step (f := fun _ => some _) (fun k => by rw [stylusref12_Lay.j0, if_pos (rfl : true = true)]) (Ev.now _)
  by_cases h0 : e < 0
  · rw [if_pos (by omega)]; exact Ev.pos h0 no
  refine Ev.neg h0 ?_
  by_cases h1 : e > 999999
  · rw [if_pos (by omega)]; exact Ev.pos h1 no
  refine Ev.neg h1 ?_
  by_cases h2 : q < 0
  · rw [if_pos (by omega)]; exact Ev.pos h2 no
  refine Ev.neg h2 ?_
  by_cases h3 : q > 2147483647
  · rw [if_pos (by omega), decide_eq_true h3]; exact no
  have hc : 0 ≤ e ∧ e ≤ 999999 ∧ 0 ≤ q ∧ q ≤ 2147483647 := by omega
  rw [if_neg (not_not_intro hc), decide_eq_false h3]
  refine Ev.step (fun k => by rw [stylusref12_Lay.j0, if_neg Bool.false_ne_true]) ?_
  by_cases h4 : (d.size : Int) > 1024
  · refine Ev.pos h4 ?_; rw [if_pos (by omega)]; exact Ev.now _
  refine Ev.neg h4 ?_
  rw [if_neg (by omega)]
  have hz := headOf_size e q (d.size : Int)
  have hs := sj_size
  have hp := put32_size (sumOf e q d)
  refine Ev.bind (ref_Put16_ev _) (Ev.bind (ref_Put32_ev _) (Ev.pos (by rw [put16_size, put32_size]; decide) (Ev.bind (ref_Put32_ev _) (Ev.pos (by rw [ByteArray.size_append, put16_size, put32_size, put32_size]; decide) ?_))))
  refine Ev.pos (by show 2 + (headOf e q (d.size : Int)).size ≤ _; omega) (Ev.pos (by show (headOf e q (d.size : Int)).size + _ ≤ _; omega) (Ev.bind (ref_Of_ev (headOf e q (d.size : Int) ++ d) (by rw [ByteArray.size_append]; omega)) ?_))
  rw [w64_ofBF]
  refine Ev.bind (ref_Put32_ev _) (Ev.pos ?_ (Ev.pos ?_ (Ev.now _)))
  · show (sj ++ headOf e q (d.size : Int)).size + (put32 (sumOf e q d)).size ≤ _
    rw [ByteArray.size_append]; omega
  · show ((sj ++ headOf e q (d.size : Int)) ++ put32 (sumOf e q d)).size + _ ≤ _
    rw [ByteArray.size_append, ByteArray.size_append]; omega
/-- Do bytes begin as a frame, as far as they go? -/
def begins (s : ByteArray) : Prop := (0 < s.size → bt s 0 = 83) ∧ (1 < s.size → bt s 1 = 74)
instance (s : ByteArray) : Decidable (begins s) := by unfold begins; infer_instance
/-- The frame that bytes begin with: epoch, sequence, data, length; or why there is none. -/
def frOne (s : ByteArray) : Int × Int × ByteArray × Int × Int :=
  if ¬ begins s then (0, 0, ⟨#[]⟩, 0, 5) else if s.size < 16 then (0, 0, ⟨#[]⟩, 0, 18)
  else if (getN s 2 2).1 > 1024 then (0, 0, ⟨#[]⟩, 0, 6) else if 16 + (getN s 2 2).1 > s.size then (0, 0, ⟨#[]⟩, 0, 18)
  else if ¬ ofB (crcAdd 0#32 (s.extract 2 12 ++ s.extract 16 (16 + (getN s 2 2).1).toNat)) = (getN s 12 4).1 then (0, 0, ⟨#[]⟩, 0, 19)
  else if ¬ ((getN s 4 4).1 ≤ 999999 ∧ (getN s 8 4).1 ≤ 2147483647) then (0, 0, ⟨#[]⟩, 0, 3)
  else ((getN s 4 4).1, (getN s 8 4).1, s.extract 16 (16 + (getN s 2 2).1).toNat, 16 + (getN s 2 2).1, 0)
theorem frame_starts_is (s : ByteArray) : frame_starts.f s = some (decide (begins s)) := by
  unfold frame_starts.f
  by_cases h0 : 0 < s.size
  · by_cases h1 : 1 < s.size
    · rw [if_pos h0, if_pos h1]
      by_cases c0 : bt s 0 = 83
      · by_cases c1 : bt s 1 = 74
        · rw [decide_eq_true (show begins s from ⟨fun _ => c0, fun _ => c1⟩), c0, c1]; rfl
        · rw [decide_eq_false (show ¬ begins s from fun z => c1 (z.2 h1)), beq_eq_false_iff_ne.2 c1, Bool.and_false]
      · rw [decide_eq_false (show ¬ begins s from fun z => c0 (z.1 h0)), beq_eq_false_iff_ne.2 c0, Bool.false_and]
    · rw [if_pos h0, if_neg h1]
      by_cases c0 : bt s 0 = 83
      · rw [decide_eq_true (show begins s from ⟨fun _ => c0, fun z => absurd z h1⟩), c0]; rfl
      · rw [decide_eq_false (show ¬ begins s from fun z => c0 (z.1 h0)), beq_eq_false_iff_ne.2 c0, Bool.false_and]
  · rw [if_neg h0, if_neg (by omega), decide_eq_true (show begins s from ⟨fun z => absurd z h0, fun z => by omega⟩)]; rfl
theorem frame_told_ev (s : ByteArray) (hs : s.size ≤ 140737488351232) : Ev (fun k => frame_told.f k s) ((getN s 2 2).1, (getN s 4 4).1, (getN s 8 4).1) := by
  unfold frame_told.f
  exact Ev.bind (num_Get16_ev s 2 hs) (Ev.bind (num_Get32_ev s 4 hs) (Ev.bind (num_Get32_ev s 8 hs) (Ev.now _)))
theorem frame_One_ev (s : ByteArray) (hs : s.size ≤ 140737488351232) : Ev (fun k => frame_One.f k s) (frOne s) := by
  unfold frame_One.f frOne
  refine Ev.call (frame_starts_is s) ?_
  by_cases hb : begins s
  · rw [if_neg (not_not_intro hb)]
    refine Ev.pos (decide_eq_true hb) ?_
    by_cases h0 : (s.size : Int) < 16
    · refine Ev.pos h0 ?_; rw [if_pos (by omega)]; exact Ev.now _
    refine Ev.neg h0 ?_
    rw [if_neg (by omega)]
    refine Ev.bind (frame_told_ev s hs) ?_
    have r2 := getN_range s 2 2
    have r4 := getN_range s 4 4
    have r8 := getN_range s 8 4
    by_cases h1 : (getN s 2 2).1 > 1024
    · refine Ev.pos h1 ?_; rw [if_pos h1]; exact Ev.now _
    refine Ev.neg h1 ?_
    rw [if_neg h1, w64 (x := 16 + (getN s 2 2).1) (by omega) (by omega)]
    by_cases h2 : 16 + (getN s 2 2).1 > s.size
    · refine Ev.pos h2 ?_; rw [if_pos h2]; exact Ev.now _
    refine Ev.neg h2 ?_
    rw [if_neg h2]
    refine Ev.bind (num_Get32_ev s 12 hs) (Ev.pos (by omega) (Ev.pos (by omega) (Ev.pos (by decide) (Ev.pos (by omega) ?_))))
    refine Ev.bind (frame_seal_ev _ _ (by rw [ByteArray.size_extract]; omega) (by rw [ByteArray.size_extract]; omega)) ?_
    by_cases h3 : ofB (crcAdd 0#32 (s.extract 2 12 ++ s.extract 16 (16 + (getN s 2 2).1).toNat)) = (getN s 12 4).1
    · refine Ev.pos h3 (Ev.call (frame_may_is _ _ _) ?_)
      rw [if_neg (not_not_intro h3)]
      by_cases h4 : (getN s 4 4).1 ≤ 999999 ∧ (getN s 8 4).1 ≤ 2147483647
      · refine Ev.pos (decide_eq_true ⟨r4.1, h4.1, r8.1, h4.2⟩) ?_
        rw [if_neg (not_not_intro h4)]
        exact Ev.now _
      · refine Ev.neg (fun z => h4 ⟨(of_decide_eq_true z).2.1, (of_decide_eq_true z).2.2.2⟩) ?_
        rw [if_pos h4]
        exact Ev.now _
    · refine Ev.neg h3 ?_
      rw [if_pos h3]
      exact Ev.now _
  · rw [if_pos hb]
    exact Ev.neg (fun z => hb (of_decide_eq_true z)) (Ev.now _)
theorem ref_One_j0 (s : ByteArray) (hs : s.size ≤ 140737488351232) (b : Bool) (hb : b = true ↔ ¬ begins s) : Ev (fun k => stylusref12_One.j0 k s b) (frOne s) := by
  unfold frOne
  cases b with
  | true =>
    rw [if_pos (hb.1 rfl)]
    exact Ev.step (f := fun _ => some _) (fun k => by rw [stylusref12_One.j0, if_pos (rfl : true = true)]) (Ev.now _)
  | false =>
    have hn : ¬ ¬ begins s := fun z => Bool.false_ne_true (hb.2 z)
    rw [if_neg hn]
    refine Ev.step (fun k => by rw [stylusref12_One.j0, if_neg Bool.false_ne_true]) ?_
    by_cases h0 : (s.size : Int) < 16
    · refine Ev.pos h0 ?_; rw [if_pos (by omega)]; exact Ev.now _
    refine Ev.neg h0 ?_
    rw [if_neg (by omega)]
    have r2 := getN_range s 2 2
    have r4 := getN_range s 4 4
    have r8 := getN_range s 8 4
    refine Ev.bind (ref_Get16_ev s 2 hs) (Ev.bind (ref_Get32_ev s 4 hs) (Ev.bind (ref_Get32_ev s 8 hs) (Ev.bind (ref_Get32_ev s 12 hs) ?_)))
    by_cases h1 : (getN s 2 2).1 > 1024
    · refine Ev.pos h1 ?_; rw [if_pos h1]; exact Ev.now _
    refine Ev.neg h1 ?_
    rw [if_neg h1, w64 (x := 16 + (getN s 2 2).1) (by omega) (by omega)]
    by_cases h2 : 16 + (getN s 2 2).1 > s.size
    · refine Ev.pos (by omega) ?_; rw [if_pos h2]; exact Ev.now _
    refine Ev.neg (by omega) ?_
    rw [if_neg h2]
    have z0 : (s.extract 2 12).size = 10 := by rw [ByteArray.size_extract]; omega
    have z1 : (s.extract 16 (16 + (getN s 2 2).1).toNat).size ≤ 2000 := by rw [ByteArray.size_extract]; omega
    refine Ev.pos (by decide) (Ev.pos (by omega) (Ev.pos (by omega) (Ev.pos (by omega) (Ev.pos (by omega) (Ev.bind (ref_Of_ev _ (by rw [ByteArray.size_append]; omega)) ?_)))))
    rw [w64_ofBF]
    by_cases h3 : ofB (crcAdd 0#32 (s.extract 2 12 ++ s.extract 16 (16 + (getN s 2 2).1).toNat)) = (getN s 12 4).1
    · refine Ev.pos h3 ?_
      rw [if_neg (not_not_intro h3)]
      by_cases h4 : (getN s 4 4).1 > 999999
      · refine Ev.pos h4 ?_; rw [if_pos (by omega)]; exact Ev.now _
      refine Ev.neg h4 ?_
      by_cases h5 : (getN s 8 4).1 > 2147483647
      · refine Ev.pos h5 ?_; rw [if_pos (by omega)]; exact Ev.now _
      refine Ev.neg h5 ?_
      have hc : (getN s 4 4).1 ≤ 999999 ∧ (getN s 8 4).1 ≤ 2147483647 := by omega
      rw [if_neg (not_not_intro hc)]
      exact Ev.now _
    · refine Ev.neg h3 ?_
      rw [if_pos h3]
      exact Ev.now _
theorem ref_One_ev (s : ByteArray) (hs : s.size ≤ 140737488351232) : Ev (fun k => stylusref12_One.f k s) (frOne s) := by
  unfold stylusref12_One.f
  by_cases h0 : (s.size : Int) > 0
  · refine Ev.pos h0 (Ev.pos h0 ?_)
    by_cases c0 : bt s 0 = 83
    · refine Ev.pos c0 ?_
      by_cases h1 : (s.size : Int) > 1
      · refine Ev.pos h1 (Ev.pos h1 (ref_One_j0 s hs _ ?_))
        rw [bne_iff_ne]
        exact ⟨fun z w => z (w.2 (by omega)), fun z w => z ⟨fun _ => c0, fun _ => w⟩⟩
      · exact Ev.neg h1 (ref_One_j0 s hs _ ⟨fun z => absurd z Bool.false_ne_true, fun z => absurd ⟨fun _ => c0, fun w => by omega⟩ z⟩)
    · exact Ev.neg c0 (ref_One_j0 s hs _ ⟨fun _ w => c0 (w.1 (by omega)), fun _ => rfl⟩)
  · refine Ev.neg h0 (Ev.neg (by omega) (ref_One_j0 s hs _ ⟨fun z => absurd z Bool.false_ne_true, fun z => absurd ⟨fun w => by omega, fun w => by omega⟩ z⟩))
end Go.Proofs.Ytinoidkmobmcpaa.P
