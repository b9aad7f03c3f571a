/- A name that is moved over another one is, behind a crash, moved wholly, or not at all. -/
import Derived.Test.YtdlnbchgimmmoaaPx1
import Derived.Test.YtdlnbchgimmmoaaPx2
import Derived.Test.YtdlnbchgimmmoaaFolderEv
namespace Go.Proofs.Ytdlnbchgimmmoaa.Pure
open Go.RowKit Go.Proofs.Ytdlnbchgimmmoaa.P Go.Proofs.YtdlnbchgimmmoaaW.PrintWords Go.Proofs.YtdlnbchgimmmoaaW.PrintLast

theorem moves_ (s t : ByteArray) (a b c : Int) (hne : s.data.toList ≠ t.data.toList) : movesSmall s t a b c ∧ movesOk s t a b (movesEnd s t a b c) = true := by
  have hst : (s.data.toList == t.data.toList) = false := beq_eq_false_iff_ne.2 hne
  have hts : (t.data.toList == s.data.toList) = false := beq_eq_false_iff_ne.2 (fun e => hne e.symm)
  have e1 : ((⟨[], [], []⟩ : FoS).put s a) = ⟨[], nmPut [] s.data.toList a, [⟨false, ⟨#[]⟩, true, s, a⟩]⟩ := rfl
  have h1 : nmHas (nmPut [] s.data.toList a) t.data.toList = false := by rw [nmHas_put, hst]; rfl
  obtain ⟨N, hN⟩ : ∃ N, nmPut (nmPut [] s.data.toList a) t.data.toList b = N := ⟨_, rfl⟩
  have e2 : (((⟨[], [], []⟩ : FoS).put s a).put t b) = ⟨[], N, [⟨false, ⟨#[]⟩, true, s, a⟩, ⟨false, ⟨#[]⟩, true, t, b⟩]⟩ := by
    rw [e1]
    unfold FoS.put
    simp only [h1, Bool.false_eq_true, if_false, hN]
    rfl
  have e3 : ((((⟨[], [], []⟩ : FoS).put s a).put t b).sync) = ⟨N, N, []⟩ := by
    rw [e2, ← hN]
    rfl
  have hs : nmHas N s.data.toList = true := by rw [← hN, nmHas_put, nmHas_put]; simp
  have ht : nmHas N t.data.toList = true := by rw [← hN, nmHas_put]; simp
  have gs : nmGet N s.data.toList = a := by rw [← hN, nmGet_put, if_neg (fun e => hne e.symm), nmGet_put, if_pos rfl]
  have gt : nmGet N t.data.toList = b := by rw [← hN, nmGet_put, if_pos rfl]
  obtain ⟨M, hM⟩ : ∃ M, nmPut (nmDel N s.data.toList) t.data.toList a = M := ⟨_, rfl⟩
  have e4 : (((((⟨[], [], []⟩ : FoS).put s a).put t b).sync).move s t) = ⟨N, M, [⟨true, s, true, t, a⟩]⟩ := by
    rw [e3]
    show (⟨N, mvL N s.data.toList t.data.toList, mvC N [] s t⟩ : FoS) = _
    unfold mvL mvC
    rw [if_pos ⟨hs, hne⟩, if_pos ⟨hs, hne⟩, gs, hM]
    rfl
  have ls : nmHas M s.data.toList = false := by rw [← hM, nmHas_put, nmHas_del, hts]; simp
  have lt : nmHas M t.data.toList = true := by rw [← hM, nmHas_put]; simp
  have mt : nmGet M t.data.toList = a := by rw [← hM, nmGet_put, if_pos rfl]
  have n1 : (nmPut [] s.data.toList a).length ≤ 1 := nmPut_le [] _ _
  have n2 : N.length ≤ 2 := by rw [← hN]; have := nmPut_le (nmPut [] s.data.toList a) t.data.toList b; omega
  have n3 : M.length ≤ 3 := by rw [← hM]; have := nmPut_le (nmDel N s.data.toList) t.data.toList a; have := nmDel_le N s.data.toList; omega
  have small : ∀ q : FoS, q.k.length ≤ 3 → q.n.length ≤ 3 → q.w.length ≤ 3 → q.few := fun q h1 h2 h3 => ⟨by omega, by omega, by omega⟩
  constructor
  · unfold movesSmall
    rw [e1] at *
    rw [e2] at *
    rw [e3] at *
    rw [e4]
    refine ⟨small _ ?_ ?_ ?_, small _ ?_ ?_ ?_, small _ ?_ ?_ ?_, small _ ?_ ?_ ?_⟩ <;> first | (show (0 : Nat) ≤ 3; decide) | (show (1 : Nat) ≤ 3; decide) | (show (2 : Nat) ≤ 3; decide) | (show N.length ≤ 3; omega) | (show M.length ≤ 3; omega) | (show (nmPut [] s.data.toList a).length ≤ 3; omega)
  · unfold movesEnd
    rw [e4]
    have hc := crI_le c 1
    obtain ⟨i, hi⟩ : ∃ i, crI c 1 = i := ⟨_, rfl⟩
    rw [hi] at hc
    have e5 : (⟨N, M, [⟨true, s, true, t, a⟩]⟩ : FoS).crash c = ⟨nmRun N ([(⟨true, s, true, t, a⟩ : Chg)].take i.toNat), nmRun N ([(⟨true, s, true, t, a⟩ : Chg)].take i.toNat), []⟩ := by
      rw [← hi]
      rfl
    rw [e5]
    rcases (show i = 0 ∨ i = 1 by omega) with rfl | rfl
    · show movesOk s t a b ⟨N, N, []⟩ = true
      unfold movesOk
      simp [hs, ht, gs, gt]
    · have e6 : nmRun N ([(⟨true, s, true, t, a⟩ : Chg)].take (1 : Int).toNat) = M := hM
      rw [e6]
      unfold movesOk
      simp [ls, lt, mt]
theorem FolderMoves : styluslaw09_FolderMoves.Pure := by
  rintro ⟨s, t⟩ ⟨a, b⟩ c ⟨hs, ht⟩ ⟨ha, hb⟩ hc
  show styluslaw09_FolderMoves.f s t a b c = some true
  unfold styluslaw09_FolderMoves.f
  by_cases h : s.toList = t.toList
  · rw [if_pos h]; rfl
  · rw [if_neg h]
    have hne : s.data.toList ≠ t.data.toList := fun e => h (by rw [ByteArray.toList_eq, ByteArray.toList_eq]; exact e)
    obtain ⟨h1, h2⟩ := moves_ s t a b c hne
    rw [if_pos ⟨Nat.le_trans hs (by decide), Nat.le_trans ht (by decide), ha, hb, h1, h2⟩]
    rfl
end Go.Proofs.Ytdlnbchgimmmoaa.Pure
