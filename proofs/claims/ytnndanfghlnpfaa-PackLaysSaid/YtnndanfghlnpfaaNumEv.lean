/- What the program's and the reference's numbers as bytes come to: one plain function of the bytes, for both. -/
import Derived.Test.YtnndanfghlnpfaaPx8
import Derived.Test.YtnndanfghlnpfaaPx9
import Derived.Test.YtnndanfghlnpfaaPx10
import Derived.Test.YtnndanfghlnpfaaPx19
import Derived.Test.YtnndanfghlnpfaaPx21
import Derived.Test.YtnndanfghlnpfaaEvKit
import Derived.Laws.BitsLemmas
import Derived.Lib.Strings
namespace Go.Proofs.Ytnndanfghlnpfaa.P
open Go.RowKit Go.Proofs.YtnndanfghlnpfaaW.PrintWords Go.Proofs.YtnndanfghlnpfaaW.PrintLast
/-- The number of bytes, the lowest first. -/
def le : List Int → Int
 | [] => 0
 | x :: xs => x + 256 * le xs
def Bytes (xs : List Int) : Prop := ∀ x ∈ xs, 0 ≤ x ∧ x < 256
theorem Bytes.drop {xs : List Int} (h : Bytes xs) (i : Nat) : Bytes (xs.drop i) := fun x hx => h x (List.mem_of_mem_drop hx)
/-- A number in so many bytes. -/
def putN (n : Int) : Nat → List Int
 | 0 => []
 | m + 1 => n % 256 :: putN (n / 256) m
theorem putN_length (m : Nat) : ∀ n, (putN n m).length = m := by
 induction m with
 | zero => intro n; rfl
 | succ m ih => intro n; simp [putN, ih]
def put16 (n : Int) : ByteArray := strOfNums (putN n 2)
def put32 (n : Int) : ByteArray := strOfNums (putN n 4)
theorem put16_size (n : Int) : (put16 n).size = 2 := by unfold put16; rw [strOfNums_size, putN_length]
theorem put32_size (n : Int) : (put32 n).size = 4 := by unfold put32; rw [strOfNums_size, putN_length]
theorem num_Put16_is (n : Int) : num_Put16.f n = some (put16 n) := by
 unfold num_Put16.f num_join.f put16
 rfl
theorem num_Put32_is (n : Int) : num_Put32.f n = some (put32 n) := by
 unfold num_Put32.f num_join.f put32
 simp only [Option.bind_some, putN]
 rw [show n / 65536 = n / 256 / 256 from by omega, show n / 16777216 = n / 256 / 256 / 256 from by omega]
theorem ref_put_l0 (many : Nat) (hm : many ≤ 8) (j : Nat) : ∀ (xs : List Int) (u : Int), 0 ≤ u → u < 18446744073709551616 → xs.length + j = many →
  Ev (fun k => sr03put.l0 k (many : Int) xs u (xs.length : Int)) (strOfNums (xs ++ putN u j)) := by
 induction j with
 | zero =>
  intro xs u h0 h1 h
  refine Ev.step (f := fun _ => some (strOfNums xs)) (fun k => ?_) (by simp only [putN, List.append_nil]; exact Ev.now _)
  simp only [sr03put.l0]
  rw [if_neg (by omega)]
 | succ j ih =>
  intro xs u h0 h1 h
  have e := ih (xs ++ [u % 256]) (u / 256) (by omega) (by omega) (by simp; omega)
  rw [List.append_assoc] at e
  refine Ev.step (fun k => ?_) e
  simp only [sr03put.l0]
  rw [if_pos (by omega), if_pos (by omega), Int.tmod_eq_emod_of_nonneg h0, Int.tdiv_eq_ediv_of_nonneg h0, show u % 256 % 256 = u % 256 from by omega, show IntKind.u64.wrap (u / 256) = u / 256 from by (simp [IntKind.wrap, IntKind.bits, IntKind.signed]; omega), w64 (x := (xs.length : Int) + 1) (by omega) (by omega)]
  simp
theorem u64_range (n : Int) : IntKind.u64.wrap n = n % 18446744073709551616 := by simp [IntKind.wrap, IntKind.bits, IntKind.signed]
theorem putN_u64_2 (n : Int) : putN (n % 18446744073709551616) 2 = putN n 2 := by
 simp only [putN]
 rw [show n % 18446744073709551616 % 256 = n % 256 from by omega, show n % 18446744073709551616 / 256 % 256 = n / 256 % 256 from by omega]
theorem putN_u64_4 (n : Int) : putN (n % 18446744073709551616) 4 = putN n 4 := by
 simp only [putN]
 rw [show n % 18446744073709551616 % 256 = n % 256 from by omega, show n % 18446744073709551616 / 256 % 256 = n / 256 % 256 from by omega, show n % 18446744073709551616 / 256 / 256 % 256 = n / 256 / 256 % 256 from by omega, show n % 18446744073709551616 / 256 / 256 / 256 % 256 = n / 256 / 256 / 256 % 256 from by omega]
theorem ref_Put16_ev (n : Int) : Ev (fun k => sr03Put16.f k n) (put16 n) := by
 have e := ref_put_l0 2 (by omega) 2 [] (n % 18446744073709551616) (by omega) (by omega) rfl
 rw [putN_u64_2] at e
 refine Ev.bind (f := fun _ t => some t) (Ev.congr (fun k => ?_) e) (Ev.now _)
 unfold sr03put.f
 rw [u64_range]
 rfl
theorem ref_Put32_ev (n : Int) : Ev (fun k => sr03Put32.f k n) (put32 n) := by
 have e := ref_put_l0 4 (by omega) 4 [] (n % 18446744073709551616) (by omega) (by omega) rfl
 rw [putN_u64_4] at e
 refine Ev.bind (f := fun _ t => some t) (Ev.congr (fun k => ?_) e) (Ev.now _)
 unfold sr03put.f
 rw [u64_range]
 rfl
end Go.Proofs.Ytnndanfghlnpfaa.P
