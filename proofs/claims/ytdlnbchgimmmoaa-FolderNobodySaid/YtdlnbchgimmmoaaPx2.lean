-- Laid by a program of this session (wip/tools/fork_print.py over the kit's print) out of Lean's print of the translation. Lean checks it.
import Derived.Test.YtdlnbchgimmmoaaPx0
import Derived.Maps.Ext
import Derived.Test.YtdlnbchgimmmoaaShelf
import Derived.Test.YtdlnbchgimmmoaaPx1
namespace Go.Proofs.Ytdlnbchgimmmoaa.P
open Go.RowKit Go.Proofs.YtdlnbchgimmmoaaW.PrintWords Go.Proofs.YtdlnbchgimmmoaaW.PrintLast Go.Proofs.YtdlnbchgimmmoaaW.PrintMore
attribute [local go_sem] max2_int min2_int max_two min_two max_three min_three max_four min_four   -- for this text's walks alone
set_option linter.unusedVariables false
set_option linter.unusedSimpArgs false

/-! ### folder_names_list: function 38 -/
-- NEEDS (stylus/folder.names).apply
-- IMPORT Derived.Test.YtdlnbchgimmmoaaShelf
-- IMPORT Derived.Maps.Ext
theorem nm_keys (mb : Option Nat) (w : World) : Calls Try.prog 48 #[.map mb] w fun e w' => e = .returned (.func (.func 54) #[] #[.pointer (some ⟨w.heap.size, 0, none⟩)]) ∧ w' = w.alloc (.cells #[.map mb] 49) :=
  (callsIn_wide (n := 5)).1 (Go.Proofs.AnyZ.keys_in Try.keysS Fence.wide 5 trivial rfl mb w)
theorem nm_sorts (m : Nat) : Go.Proofs.AnyZ.SortsIn Try.prog Try.sortedS_ren Fence.wide m :=
  ⟨fun blk off cap ss W hH hblk hsz => callsIn_wide.2 (Go.Proofs.AnyM.slices_Sort_string Try.sortS blk off cap ss W hH hblk hsz),
   fun p cap W => callsIn_wide.2 (Go.Proofs.AnyM.slices_Sort_string_none Try.sortS p cap W)⟩
set_option maxHeartbeats 1000000 in
theorem nm_sorted0 (b nn : Nat) (D0 : DataW Unit) (R : Value → Option (DataW Unit × List MemPlace)) (w : World) (hown : w.ownsMap Try.prog 9 R b nn D0) (hmax : Maps.size D0 ≤ maxLen) (hbytes : Maps.size D0 * 16 ≤ 140737488355328) :
    Calls Try.prog 47 #[.func (.func 54) #[] #[.pointer (some ⟨w.heap.size, 0, none⟩)]] (w.alloc (.cells #[.map (some b)] 49)) fun e w' => ∃ (v : Value) (ss : List (List UInt8)), e = .returned v ∧ ss.Perm (strKeys D0) ∧
      w'.ownsRow (w.alloc (.cells #[.map (some b)] 49)).heap.size 9 1 v ss.length ((ss.mergeSort (fun x y => decide (x ≤ y))).map encStr) ∧ (v = .slice none 0 0 ↔ ss = []) ∧ Below (w.alloc (.cells #[.map (some b)] 49)).heap.size (w.alloc (.cells #[.map (some b)] 49)) w' := by
  have hbl := hown.lt
  have hseq : SeqGives Fence.wide 2 Try.prog 54 #[.pointer (some ⟨w.heap.size, 0, none⟩)] encStr (fun ss => ss.Perm (strKeys D0)) (Maps.size D0) (w.alloc (.cells #[.map (some b)] 49)) :=
    Go.Proofs.AnyZ.keys_gives (ρ := Try.keysS_ren) { Try.keysS with } Fence.wide _ trivial rfl (by omega) w.heap.size b nn D0 _ (by simp) (by simp) (by
      obtain ⟨es, clock, hb, Ft, hs, hD⟩ := hown
      exact ⟨es, clock, (Below.heap_alloc _ _ b hbl).trans hb, Ft, hs, hD⟩)
  exact (callsIn_wide (n := 5)).1 (Go.Proofs.AnyZ.sorted_in Try.sortedS Fence.wide 5 trivial trivial trivial trivial rfl (by omega) (nm_sorts _) (enters_of Try.func53 (by kernel_rfl) rfl) 54 #[.pointer (some ⟨w.heap.size, 0, none⟩)] trivial (enters_of Try.func54 (by kernel_rfl) rfl) _ _ hmax hbytes _ hseq)
/-! the names are rising -/
theorem bytes_lt : ∀ {x y : List UInt8}, bytesBefore x y = true → x ≤ y ∧ x ≠ y
  | [], [], h => by simp [bytesBefore] at h
  | [], b :: s, _ => ⟨List.nil_le _, by simp⟩
  | a :: r, [], h => by simp [bytesBefore] at h
  | a :: r, b :: s, h => by
    rw [bytesBefore, Bool.or_eq_true, Bool.and_eq_true] at h
    rcases h with h | ⟨h1, h2⟩
    · have h1 : a < b := of_decide_eq_true h
      refine ⟨List.le_of_lt (List.cons_lt_cons_iff.2 (.inl h1)), fun e => ?_⟩
      injection e with e1 _
      subst e1
      exact absurd h1 (UInt8.lt_irrefl _)
    · obtain rfl := beq_iff_eq.1 h1
      obtain ⟨h3, h4⟩ := bytes_lt h2
      exact ⟨List.cons_le_cons_iff.2 (.inr ⟨rfl, h3⟩), fun e => h4 (List.cons.inj e).2⟩
theorem nm_rising {w : World} {b : Nat} {L : Nms} (h : Nm w b L) : L.Pairwise (fun p q => bytesBefore p.1 q.1 = true) := by
  obtain ⟨es, he, hp, _⟩ := h.canon nm_law
  have he' : L.map (fun p => (Lit.string p.1, DataW.lit (H := Unit) (.int .i64 p.2))) = es := by
    unfold Dt at he
    injection he
  rw [← he', List.pairwise_map] at hp
  exact hp
theorem nm_strKeys (L : Nms) : strKeys (Dt L) = L.map (·.1) := by
  show (L.map _).map _ = _
  rw [List.map_map]
  rfl
theorem nm_sort {L : Nms} {ss : List (List UInt8)} (hr : L.Pairwise (fun p q => bytesBefore p.1 q.1 = true)) (hp : ss.Perm (strKeys (Dt L))) : ss.mergeSort (fun x y => decide (x ≤ y)) = L.map (·.1) := by
  rw [nm_strKeys] at hp
  have h1 := mergeSort_of_perm hp
  have h2 : (L.map (·.1)).mergeSort leB = L.map (·.1) := List.mergeSort_of_pairwise (by
    rw [List.pairwise_map]
    exact hr.imp (fun {a b} hab => decide_eq_true (bytes_lt hab).1))
  exact h1.trans h2
theorem nm_at {L : Nms} (hr : L.Pairwise (fun p q => bytesBefore p.1 q.1 = true)) {p : List UInt8 × Int} (hp : p ∈ L) : nmGet L p.1 = p.2 := by
  induction L with
  | nil => simp at hp
  | cons q r ih =>
    unfold nmGet
    rw [List.find?_cons]
    rcases List.mem_cons.1 hp with rfl | hp'
    · simp
    · have h1 := (bytes_lt ((List.pairwise_cons.1 hr).1 p hp')).2
      rw [beq_eq_false_iff_ne.2 h1]
      exact ih (List.pairwise_cons.1 hr).2 hp'
def toS (p : List UInt8 × Int) : S84 := ⟨⟨p.1.toArray⟩, p.2⟩
def keyS (p : List UInt8 × Int) : ByteArray := ⟨p.1.toArray⟩
theorem nm_sorted (b : Nat) (L : Nms) (hl : L.length ≤ 1000000) (w : World) (h : Nm w b L) :
    Calls Try.prog 47 #[.func (.func 54) #[] #[.pointer (some ⟨w.heap.size, 0, none⟩)]] (w.alloc (.cells #[.map (some b)] 49)) fun e w' => ∃ v : Value, e = .returned v ∧
      Kd.R Kd.string 9 w' w.heap.size (fun _ => True) v (L.map keyS) ∧ Below w.heap.size w w' := by
  have hz := Dt_size L
  refine (nm_sorted0 b L.length (Dt L) _ w h (by rw [hz]; unfold maxLen; omega) (by rw [hz]; omega)).mono ?_
  rintro e w' ⟨v, ss, rfl, hp, ho, _, hb⟩
  have hs := nm_sort (nm_rising h) hp
  have hn : ss.length = (L.map keyS).length := by
    have := hp.length_eq
    rw [nm_strKeys] at this
    simpa using this
  rw [hs, hn, List.map_map] at ho
  have he : L.map (encStr ∘ fun p => p.1) = encs Value.string (L.map keyS) := by
    unfold encs
    rw [List.map_map]
    rfl
  rw [he] at ho
  refine ⟨v, rfl, Kd.R_of_own (own_weaken ho (by simp)) (fun _ _ => trivial), below_step (below_alloc (Below.refl _ _) _) hb⟩
theorem nm_own' {α : Type} {d : Kd α} {W : World} {b e base : Nat} {ok : Nat → Prop} {v : Value} {xs : List α} {L : Nms} (h : Nm W b L) (hR : Kd.R d e W base ok v xs) : some b ≠ v.ownBlock := fun he => by
  obtain ⟨cells, hc⟩ := Kd.R_typed hR b he.symm
  obtain ⟨es, clock, hb, _⟩ := h
  rw [hc] at hb
  cases hb
theorem list_snoc (L : Nms) (i : Nat) (h : i < L.length) : (L.take (i + 1)).map toS = (L.take i).map toS ++ [toS L[i]] := by
  rw [List.take_succ_eq_append_getElem h, List.map_append]
  rfl
theorem list_key (L : Nms) (i : Nat) (h : i < L.length) : (L.map keyS).getD ((i : Int)).toNat ⟨#[]⟩ = keyS L[i] := by
  simp [List.getD_eq_getElem?_getD, List.getElem?_eq_getElem h]
theorem infoEntry : (Try.prog.info? 84).map (fun i => (i.zero, i.size, i.bytes)) = some (some (.agg #[.string ⟨#[]⟩, .int .i64 0]), 2, 24) := by kernel_rfl
theorem at_Str {w : World} {A : Option Addr} {n : Nat} {xs : List ByteArray} (h : Kd.C Kd.string w A n xs) (i : Int) (h0 : 0 ≤ i) (h1 : i < n) : ∃ ad, A = some ad ∧ w.cell? (ad.add i.toNat) = some (.string (xs.getD i.toNat ⟨#[]⟩)) := by
  obtain ⟨ad, c, e, _, hK, hc0⟩ := Kd.C_get h ⟨#[]⟩ i h0 h1
  have hc : ∀ j u, c[j]? = some u → w.cell? (ad.add (i.toNat * 1 + j)) = some u := hc0
  have e1 : c = [.string (xs.getD i.toNat ⟨#[]⟩)] := hK
  subst e1
  exact ⟨ad, e, by have hq := hc 0 _ rfl; rwa [Nat.mul_one, Nat.add_zero] at hq⟩
theorem list_get {L : Nms} (hr : L.Pairwise (fun p q => bytesBefore p.1 q.1 = true)) (i : Nat) (h : i < L.length) : nmGet L (keyS L[i]).data.toList = (L[i]).2 := nm_at hr (List.getElem_mem h)
set_option maxHeartbeats 8000000 in
set_option maxRecDepth 100000 in
theorem folder_names_list.calls (b : Nat) (L : Nms) (hl : L.length ≤ 1000000) (w : World) (h : Nm w b L) :
    Calls Try.prog 38 #[.map (some b)] w fun e w' => ∃ v : Value, e = .returned v ∧ Kd.R k84 84 w' w.heap.size (fun _ => True) v (L.map toS) ∧ Below w.heap.size w w' := by
  have huE := Try.underlying84
  have hK := Aside0.mk (nm_keys (some b) w)
  have hS := Aside0.mk (nm_sorted b L hl w h)
  have HR := Aside0.mk (nm_rising h)
  have HM := Aside0.mk h
  have HKL := Aside0.mk (show ∀ p ∈ L, p.1.length ≤ maxLen from fun p hp => strKeys_le h Try.underlying9 p.1 (by rw [nm_strKeys]; exact List.mem_map.2 ⟨p, hp, rfl⟩))
  clear h
  go_enter Try.func38, Try.ntmps38
  go_wp2_with (first
    | (go_at_call 48; (with_reducible refine hK.out.mono ?_); clear hK; rintro e w2 ⟨rfl, rfl⟩)
    | (go_at_call 47; (with_reducible refine hS.out.mono ?_); clear hS; rintro e w3 ⟨v8, rfl, hR8, hb8⟩; obtain ⟨A8, c8, rfl⟩ := Kd.R_slice hR8; rw [List.length_map] at hR8 ⊢; have HR8 := Aside0.mk hR8; have HB8 := Aside0.mk hb8; have HM8 := Aside0.mk (show Nm w3 b L from by obtain ⟨es, clock, hb, F, hs, hD⟩ := HM.out; exact ⟨es, clock, (hb8.block b (Array.getElem?_eq_some_iff.1 hb).1).trans hb, F, hs, hD⟩); clear hR8 hb8))
  go_loopw [3, 10] (fun v x wr => ∃ i : Nat, x = .int .i64 i ∧ i ≤ L.length ∧ Aside0 (Kd.R k84 84 wr w.heap.size (fun _ => True) v ((L.take i).map toS)) ∧ Aside0 (Kd.R Kd.string 9 wr w.heap.size (fun _ => True) (.slice A8 L.length c8) (L.map keyS)) ∧ Aside0 (Nm wr b L) ∧ Aside0 (Below w.heap.size w wr)) (fun _ x _ => L.length - (intOf x).toNat)
  case atStart => exact ⟨0, rfl, Nat.zero_le _, ⟨by rw [List.take_zero]; exact Kd.R_nil _ _ _ _ _⟩, HR8, HM8, HB8⟩
  case round =>
    obtain ⟨i, rfl, hi, KO, KS, KM, KB⟩ := hrel
    by_cases q : i < L.length
    · have p0 : (0 : Int) ≤ (i : Int) := Int.natCast_nonneg _
      have q0 : (i : Int) < (L.length : Int) := by omega
      obtain ⟨ad0, e0, hx0⟩ := at_Str (Kd.R_reads' KS.out).2.2 (i : Int) p0 (by rw [List.length_map]; exact q0)
      cases e0
      rw [list_key L i q] at hx0
      simp only [Int.toNat_natCast] at hx0
      have HG := Aside0.mk (list_get HR.out i q)
      have HX := Aside0.mk (list_snoc L i q)
      have HI := Aside0.mk (show ((L.take i).map toS).length = i by rw [List.length_map, List.length_take]; omega)
      have hkey := nm_key (keyS L[i]) (by have := HKL.out _ (List.getElem_mem q); show (⟨_⟩ : ByteArray).size ≤ maxLen; simpa [keyS, ByteArray.size] using this)
      have hts : toS L[i] = ⟨keyS L[i], (L[i]).2⟩ := rfl
      have HTS := Aside0.mk hts
      clear hts
      generalize keyS L[i] = s at *
      generalize (L[i]).2 = v at *
      go_wp2_with (first
        | (at_lookup; refine wpList_lookup_own_int _ rfl _ _ 49 rfl 9 3 .i64 nm_law Try.underlying49 Try.underlying3 (nm_zero _) b L.length (Dt L) rfl KM.out _ _ rfl hkey ?_; intro c hat hwc; rw [Dt_get, HG.out] at hat; injection hat with hat; injection hat with _ hat; subst hat; clear hwc)
        | ((with_reducible refine gate_builtin (b := .append) (xs := #[.tmp 14, .tmp 20]) rfl ?_); at_builtin; refine Kd.R_append k84 (w0 := w) w.heap.size rfl (.tmp 14) (.tmp 20) 54 84 (.agg #[(.string ⟨#[]⟩), (.int .i64 0)]) 24 rfl Try.underlying54 infoEntry rfl (by decide) (by omega) u3 ((L.take i).map toS) (⟨s, v⟩ : S84) [.string s, .int .i64 v] (fun _ => True) (fun _ => False) rfl rfl (k84_mkM _ _ _ ⟨s, v⟩) (fun _ hk => hk.elim) (fun _ _ => trivial) KO.out KB.out KB.out.size (by rw [HI.out]; omega) ?_; intro v21 w3 hR3 hB3 hg3 hat3; have HO3 := Aside0.mk hR3; have HB3 := Aside0.mk hB3; have HS3 := Aside0.mk (Kd.R_over KS.out KO.out (by decide) hg3); have HM3 := Aside0.mk (World.ownsMap.kept KM.out hg3 (nm_own' KM.out KO.out)); clear hR3 hB3 hg3 hat3))
      go_roundw
      case rel => exact ⟨i + 1, by go_num, by omega, ⟨by rw [HX.out, HTS.out]; exact HO3.out⟩, HS3, HM3, HB3⟩
      case measure => simp [intOf]; omega
    · obtain rfl : i = L.length := by omega
      go_wp2
      go_ret
      exact ⟨_, rfl, by have := KO.out; rwa [List.take_length] at this, KB.out⟩

/-! ### folder_Folder_Now: function 21 -/
-- NEEDS (stylus/folder.names).list (*stylus/folder.Folder).none
theorem nm_kept {W W' : World} {b : Nat} {L : Nms} {S : Nat → Prop} (h : Nm W b L) (hk : Kep W W' S) (hn : ¬ S b) : Nm W' b L := by
  obtain ⟨es, clock, hb, F, hs, hD⟩ := h
  exact ⟨es, clock, (hk.k.2 b (Array.getElem?_eq_some_iff.1 hb).1 hn).trans hb, F, hs, hD⟩
theorem Fo.kept {W W' : World} {S S2 : Nat → Prop} {b : Nat} {L0 L : Nms} {cs : List Chg} (h : Fo W S b L0 L cs) (hk : Kep W W' S2) (hd : ∀ k, S k → ¬ S2 k) : Fo W' S b L0 L cs := by
  obtain ⟨kb, nb, A, cap, hb, ⟨Sb, Skb, Snb⟩, hne, hk0, hn, hR, hok⟩ := h
  exact ⟨kb, nb, A, cap, blk_kept hb hk.k (hd _ Sb), ⟨Sb, Skb, Snb⟩, hne, nm_kept hk0 hk (hd _ Skb), nm_kept hn hk (hd _ Snb), Kd.R_kept hR hk.k hd, hok⟩
theorem Fo.below {W W' : World} {S : Nat → Prop} {b : Nat} {L0 L : Nms} {cs : List Chg} (h : Fo W S b L0 L cs) (hb : Below W.heap.size W W') : Fo W' S b L0 L cs :=
  h.kept (Kep.of_below hb (fun _ => False)) (fun _ _ h => h)
theorem folder_Folder_Now.nob (p : Value) (w : World) (h : Nob w p) :
    Calls Try.prog 21 #[p] w fun e w' => e = .returned (.slice none 0 0) ∧ w' = w := by
  go_enter Try.func21, Try.ntmps21
  go_wp2_with (go_at_call 24; (with_reducible refine (folder_Folder_none.calls p _ h).mono ?_); rintro e w2 ⟨rfl, rfl⟩)
  go_ret
  exact ⟨rfl, rfl⟩
theorem folder_Folder_Now.calls (S : Nat → Prop) (b : Nat) (L0 L : Nms) (cs : List Chg) (hl : L.length ≤ 1000000) (w : World) (h : Fo w S b L0 L cs) :
    Calls Try.prog 21 #[.pointer (some ⟨b, 0, none⟩)] w fun e w' => ∃ v : Value, e = .returned v ∧ Kd.R k84 84 w' w.heap.size (fun _ => True) v (L.map toS) ∧ Below w.heap.size w w' := by
  have huF := Try.underlying52
  have hm := folder_Folder_none.made b w h.cell
  obtain ⟨kb, nb, A, cap, hb, _, _, _, hn, _, _⟩ := h
  have HL := Aside0.mk (folder_names_list.calls nb L hl w hn)
  have c1 := (blk_cell hb 1).trans rfl
  clear hb hn
  go_enter Try.func21, Try.ntmps21
  go_wp2_with (first
    | (go_at_call 24; (with_reducible refine hm.mono ?_); clear hm; rintro e w2 ⟨rfl, rfl⟩)
    | (go_at_call 38; (with_reducible refine HL.out.mono ?_); rintro e w3 ⟨v3, rfl, hR3, hb3⟩))
  go_ret
  exact ⟨_, rfl, hR3, hb3⟩

/-! ### styluslaw09_lives: function 6 -/
-- NEEDS stylus/folder.New (*stylus/folder.Folder).Put (*stylus/folder.Folder).Sync (*stylus/folder.Folder).Move (*stylus/folder.Folder).Crash (*stylus/folder.Folder).Now
def styluslaw09_lives.f : Option Bool := some true
def lvA : Chg := ⟨false, ⟨#[]⟩, true, ⟨#[97]⟩, 1⟩
def lvB : Chg := ⟨false, ⟨#[]⟩, true, ⟨#[98]⟩, 2⟩
def lvC : Chg := ⟨true, ⟨#[98]⟩, true, ⟨#[97]⟩, 2⟩
theorem lv_size (x : UInt8) : (⟨#[x]⟩ : ByteArray).size ≤ maxLen := by show 1 ≤ maxLen; decide
theorem lv1 (S : Nat → Prop) (b : Nat) (w : World) (h : Fo w S b [] [] []) :
    Calls Try.prog 8 #[.pointer (some ⟨b, 0, none⟩), .string (⟨#[97]⟩ : ByteArray), .int .i64 1] w fun e w' => (∃ v, e = .returned v) ∧ Fo w' (fun k => S k ∨ w.heap.size ≤ k) b [] [([97], 1)] [lvA] ∧ Kep w w' S := by
  refine (folder_Folder_Put.calls S b [] [] [] ⟨#[97]⟩ 1 (lv_size _) rfl (by decide) (by decide) w h).mono ?_
  rintro e w' ⟨rfl, hf, hk⟩
  exact ⟨⟨_, rfl⟩, hf, hk⟩
theorem lv2 (S : Nat → Prop) (b : Nat) (w : World) (h : Fo w S b [] [([97], 1)] [lvA]) :
    Calls Try.prog 9 #[.pointer (some ⟨b, 0, none⟩)] w fun e w' => (∃ v, e = .returned v) ∧ Fo w' (fun k => S k ∨ w.heap.size ≤ k) b [([97], 1)] [([97], 1)] [] ∧ Kep w w' S := by
  refine (folder_Folder_Sync.calls S b [] [([97], 1)] [lvA] (by decide) w h).mono ?_
  rintro e w' ⟨⟨_, rfl⟩, hf, hk⟩
  exact ⟨⟨_, rfl⟩, hf, hk⟩
theorem lv3 (S : Nat → Prop) (b : Nat) (w : World) (h : Fo w S b [([97], 1)] [([97], 1)] []) :
    Calls Try.prog 8 #[.pointer (some ⟨b, 0, none⟩), .string (⟨#[98]⟩ : ByteArray), .int .i64 2] w fun e w' => (∃ v, e = .returned v) ∧ Fo w' (fun k => S k ∨ w.heap.size ≤ k) b [([97], 1)] [([97], 1), ([98], 2)] [lvB] ∧ Kep w w' S := by
  refine (folder_Folder_Put.calls S b [([97], 1)] [([97], 1)] [] ⟨#[98]⟩ 2 (lv_size _) rfl (by decide) (by decide) w h).mono ?_
  rintro e w' ⟨rfl, hf, hk⟩
  exact ⟨⟨_, rfl⟩, hf, hk⟩
theorem lv4 (S : Nat → Prop) (b : Nat) (w : World) (h : Fo w S b [([97], 1)] [([97], 1), ([98], 2)] [lvB]) :
    Calls Try.prog 10 #[.pointer (some ⟨b, 0, none⟩), .string (⟨#[98]⟩ : ByteArray), .string (⟨#[97]⟩ : ByteArray)] w fun e w' => (∃ v, e = .returned v) ∧ Fo w' (fun k => S k ∨ w.heap.size ≤ k) b [([97], 1)] [([97], 2)] [lvB, lvC] ∧ Kep w w' S := by
  refine (folder_Folder_Move.calls S b [([97], 1)] [([97], 1), ([98], 2)] [lvB] ⟨#[98]⟩ ⟨#[97]⟩ (lv_size _) (lv_size _) (by decide) (by decide) w h).mono ?_
  rintro e w' ⟨rfl, hf, hk⟩
  have e1 : mvL [([97], 1), ([98], 2)] (⟨#[98]⟩ : ByteArray).data.toList (⟨#[97]⟩ : ByteArray).data.toList = [([97], 2)] := by decide +kernel
  have e2 : mvC [([97], 1), ([98], 2)] [lvB] ⟨#[98]⟩ ⟨#[97]⟩ = [lvB, lvC] := if_pos (by decide +kernel)
  rw [e1, e2] at hf
  exact ⟨⟨_, rfl⟩, hf, hk⟩
theorem lv5 (S : Nat → Prop) (b : Nat) (w : World) (h : Fo w S b [([97], 1)] [([97], 2)] [lvB, lvC]) :
    Calls Try.prog 11 #[.pointer (some ⟨b, 0, none⟩), .int .i64 2] w fun e w' => (∃ v, e = .returned v) ∧ Fo w' (fun k => S k ∨ w.heap.size ≤ k) b [([97], 2)] [([97], 2)] [] ∧ Kep w w' S := by
  refine (folder_Folder_Crash.calls S b [([97], 1)] [([97], 2)] [lvB, lvC] 2 (by decide) w h).mono ?_
  rintro e w' ⟨rfl, hf, hk⟩
  have e1 : nmRun [([97], 1)] ([lvB, lvC].take (crI 2 [lvB, lvC].length).toNat) = [([97], 2)] := by decide +kernel
  rw [e1] at hf
  exact ⟨⟨_, rfl⟩, hf, hk⟩
theorem lv6 (S : Nat → Prop) (b : Nat) (w : World) (h : Fo w S b [([97], 2)] [([97], 2)] []) :
    Calls Try.prog 12 #[.pointer (some ⟨b, 0, none⟩), .string (⟨#[97]⟩ : ByteArray)] w fun e w' => e = .returned (.tuple #[.int .i64 2, .bool true]) ∧ w' = w := by
  refine (folder_Folder_Find.calls S b [([97], 2)] [([97], 2)] [] ⟨#[97]⟩ (lv_size _) w h).mono ?_
  rintro e w' ⟨⟨rfl, _⟩, rfl⟩
  exact ⟨rfl, rfl⟩
theorem lv7 (S : Nat → Prop) (b : Nat) (w : World) (h : Fo w S b [([97], 2)] [([97], 2)] []) :
    Calls Try.prog 21 #[.pointer (some ⟨b, 0, none⟩)] w fun e w' => (∃ A c, e = .returned (.slice A 1 c)) ∧ Below w.heap.size w w' := by
  refine (folder_Folder_Now.calls S b [([97], 2)] [([97], 2)] [] (by decide) w h).mono ?_
  rintro e w' ⟨v, rfl, hR, hb⟩
  obtain ⟨A, c, rfl⟩ := Kd.R_slice hR
  exact ⟨⟨_, _, rfl⟩, hb⟩
set_option maxHeartbeats 8000000 in
set_option maxRecDepth 100000 in
theorem styluslaw09_lives.calls (r : Bool) (w : World) (h : styluslaw09_lives.f = some r) :
    Calls Try.prog 6 #[] w fun e w' => e = .returned (.bool r) ∧ Below w.heap.size w w' := by
  obtain rfl := Option.some.inj h
  have huP := Try.underlying25
  go_enter Try.func6, Try.ntmps6
  go_wp2_with (first
    | (go_at_call 7; (with_reducible refine (folder_New.calls _).mono ?_); rintro e w1 ⟨rfl, hf, hb⟩; have F1 := Aside0.mk hf; have B1 := Aside0.mk (Kep.of_below hb (fun k => w.heap.size ≤ k)); clear hf hb)
    | (go_at_call 8; (with_reducible refine (lv1 _ _ _ F1.out).mono ?_); rintro e w2 ⟨⟨v2, rfl⟩, hf, hk⟩; have F2 := Aside0.mk (hf.wide (S' := fun k => w.heap.size ≤ k) (fun k hk' => hk'.elim id (fun h => Nat.le_trans B1.out.b.size h))); have B2 := Aside0.mk (B1.out.then_ hk (fun k h => .inl h)); clear hf hk F1 B1)
    | (go_at_call 9; (with_reducible refine (lv2 _ _ _ F2.out).mono ?_); rintro e w3 ⟨⟨v3, rfl⟩, hf, hk⟩; have F3 := Aside0.mk (hf.wide (S' := fun k => w.heap.size ≤ k) (fun k hk' => hk'.elim id (fun h => Nat.le_trans B2.out.b.size h))); have B3 := Aside0.mk (B2.out.then_ hk (fun k h => .inl h)); clear hf hk F2 B2)
    | (go_at_call 8; (with_reducible refine (lv3 _ _ _ F3.out).mono ?_); rintro e w4 ⟨⟨v4, rfl⟩, hf, hk⟩; have F4 := Aside0.mk (hf.wide (S' := fun k => w.heap.size ≤ k) (fun k hk' => hk'.elim id (fun h => Nat.le_trans B3.out.b.size h))); have B4 := Aside0.mk (B3.out.then_ hk (fun k h => .inl h)); clear hf hk F3 B3)
    | (go_at_call 10; (with_reducible refine (lv4 _ _ _ F4.out).mono ?_); rintro e w5 ⟨⟨v5, rfl⟩, hf, hk⟩; have F5 := Aside0.mk (hf.wide (S' := fun k => w.heap.size ≤ k) (fun k hk' => hk'.elim id (fun h => Nat.le_trans B4.out.b.size h))); have B5 := Aside0.mk (B4.out.then_ hk (fun k h => .inl h)); clear hf hk F4 B4)
    | (go_at_call 11; (with_reducible refine (lv5 _ _ _ F5.out).mono ?_); rintro e w6 ⟨⟨v6, rfl⟩, hf, hk⟩; have F6 := Aside0.mk (hf.wide (S' := fun k => w.heap.size ≤ k) (fun k hk' => hk'.elim id (fun h => Nat.le_trans B5.out.b.size h))); have B6 := Aside0.mk (B5.out.then_ hk (fun k h => .inl h)); clear hf hk F5 B5)
    | (go_at_call 12; (with_reducible refine (lv6 _ _ _ F6.out).mono ?_); rintro e w7 ⟨rfl, rfl⟩)
    | (go_at_call 21; (with_reducible refine (lv7 _ _ _ F6.out).mono ?_); rintro e w8 ⟨⟨A8, c8, rfl⟩, hb8⟩; have B8 := Aside0.mk (B6.out.below hb8); clear hb8))
  go_ret
  exact ⟨rfl, B8.out.out (Nat.le_refl _) (fun k h => h)⟩

/-! ### folder_Folder_Waiting: function 13 -/
-- NEEDS (*stylus/folder.Folder).none
theorem folder_Folder_Waiting.nob (p : Value) (w : World) (h : Nob w p) :
    Calls Try.prog 13 #[p] w fun e w' => e = .returned (.int .i64 0) ∧ w' = w := by
  go_enter Try.func13, Try.ntmps13
  go_wp2_with (go_at_call 24; (with_reducible refine (folder_Folder_none.calls p _ h).mono ?_); rintro e w2 ⟨rfl, rfl⟩)
  go_ret
  exact ⟨rfl, rfl⟩
theorem folder_Folder_Waiting.calls (S : Nat → Prop) (b : Nat) (L0 L : Nms) (cs : List Chg) (w : World) (h : Fo w S b L0 L cs) :
    Calls Try.prog 13 #[.pointer (some ⟨b, 0, none⟩)] w fun e w' => e = .returned (.int .i64 (cs.length : Int)) ∧ w' = w := by
  have huF := Try.underlying52
  have hm := folder_Folder_none.made b w h.cell
  obtain ⟨kb, nb, A, cap, hb, _⟩ := h
  have c2 := (blk_cell hb 2).trans rfl
  clear hb
  go_enter Try.func13, Try.ntmps13
  go_wp2_with (go_at_call 24; (with_reducible refine hm.mono ?_); clear hm; rintro e w2 ⟨rfl, rfl⟩)
  go_ret
  exact ⟨rfl, rfl⟩

/-! ### styluslaw09_FolderMoves: function 3 -/
-- NEEDS stylus/styluslaw09.lives (*stylus/folder.Folder).Waiting
/-- What a folder is: what lasts, what is seen, what waits. -/
structure FoS where
  k : Nms
  n : Nms
  w : List Chg
def FoS.put (q : FoS) (s : ByteArray) (v : Int) : FoS := ⟨q.k, if nmHas q.n s.data.toList = true then q.n else nmPut q.n s.data.toList v, if nmHas q.n s.data.toList = true then q.w else q.w ++ [⟨false, ⟨#[]⟩, true, s, v⟩]⟩
def FoS.sync (q : FoS) : FoS := ⟨nmRun q.k q.w, nmRun q.k q.w, []⟩
def FoS.move (q : FoS) (s t : ByteArray) : FoS := ⟨q.k, mvL q.n s.data.toList t.data.toList, mvC q.n q.w s t⟩
def FoS.crash (q : FoS) (c : Int) : FoS := ⟨nmRun q.k (q.w.take (crI c q.w.length).toNat), nmRun q.k (q.w.take (crI c q.w.length).toNat), []⟩
abbrev FoS.at (q : FoS) (W : World) (S : Nat → Prop) (b : Nat) : Prop := Fo W S b q.k q.n q.w
def FoS.few (q : FoS) : Prop := q.k.length ≤ 1000 ∧ q.n.length ≤ 1000 ∧ q.w.length ≤ 1000
instance (q : FoS) : Decidable q.few := by unfold FoS.few; exact inferInstance
def movesEnd (s t : ByteArray) (a b c : Int) : FoS := (((((⟨[], [], []⟩ : FoS).put s a).put t b).sync).move s t).crash c
def movesSmall (s t : ByteArray) (a b c : Int) : Prop := (((⟨[], [], []⟩ : FoS).put s a)).few ∧ (((⟨[], [], []⟩ : FoS).put s a).put t b).few ∧ ((((⟨[], [], []⟩ : FoS).put s a).put t b).sync).few ∧ (((((⟨[], [], []⟩ : FoS).put s a).put t b).sync).move s t).few
instance (s t : ByteArray) (a b c : Int) : Decidable (movesSmall s t a b c) := by unfold movesSmall; exact inferInstance
def movesOk (s t : ByteArray) (a b : Int) (q : FoS) : Bool := nmHas q.n t.data.toList && (nmHas q.n s.data.toList && decide (nmGet q.n t.data.toList = b) && decide (nmGet q.n s.data.toList = a) || !nmHas q.n s.data.toList && decide (nmGet q.n t.data.toList = a)) && decide (q.w.length = 0)
def styluslaw09_FolderMoves.f (s t : ByteArray) (a b c : Int) : Option Bool :=
  if s.toList = t.toList then styluslaw09_lives.f else
    if s.size ≤ maxLen ∧ t.size ≤ maxLen ∧ (Lit.int .i64 a).wf = true ∧ (Lit.int .i64 b).wf = true ∧ movesSmall s t a b c ∧ movesOk s t a b (movesEnd s t a b c) = true then styluslaw09_lives.f else none
theorem at_wide {W : World} {S S' : Nat → Prop} {b : Nat} {q : FoS} (h : q.at W S b) (hS : ∀ k, S k → S' k) : q.at W S' b := Fo.wide h hS
theorem put_at (q : FoS) (S : Nat → Prop) (b : Nat) (s : ByteArray) (v : Int) (hs : s.size ≤ maxLen) (hv : (Lit.int .i64 v).wf = true) (hf : q.few) (w : World) (h : q.at w S b) :
    Calls Try.prog 8 #[.pointer (some ⟨b, 0, none⟩), .string s, .int .i64 v] w fun e w' => e = .returned (.bool (!nmHas q.n s.data.toList)) ∧ (q.put s v).at w' (fun k => S k ∨ w.heap.size ≤ k) b ∧ Kep w w' S :=
  folder_Folder_Put.calls S b q.k q.n q.w s v hs hv (Nat.le_trans hf.2.1 (by decide)) (Nat.le_trans hf.2.2 (by decide)) w h
theorem sync_at (q : FoS) (S : Nat → Prop) (b : Nat) (hf : q.few) (w : World) (h : q.at w S b) :
    Calls Try.prog 9 #[.pointer (some ⟨b, 0, none⟩)] w fun e w' => (∃ v, e = .returned v) ∧ q.sync.at w' (fun k => S k ∨ w.heap.size ≤ k) b ∧ Kep w w' S :=
  folder_Folder_Sync.calls S b q.k q.n q.w (by have h1 := hf.1; have h2 := hf.2.2; omega) w h
theorem move_at (q : FoS) (S : Nat → Prop) (b : Nat) (s t : ByteArray) (hs : s.size ≤ maxLen) (ht : t.size ≤ maxLen) (hf : q.few) (w : World) (h : q.at w S b) :
    Calls Try.prog 10 #[.pointer (some ⟨b, 0, none⟩), .string s, .string t] w fun e w' => e = .returned (.bool (nmHas q.n s.data.toList)) ∧ (q.move s t).at w' (fun k => S k ∨ w.heap.size ≤ k) b ∧ Kep w w' S :=
  folder_Folder_Move.calls S b q.k q.n q.w s t hs ht (Nat.le_trans hf.2.1 (by decide)) (Nat.le_trans hf.2.2 (by decide)) w h
theorem crash_at (q : FoS) (S : Nat → Prop) (b : Nat) (c : Int) (hf : q.few) (w : World) (h : q.at w S b) :
    Calls Try.prog 11 #[.pointer (some ⟨b, 0, none⟩), .int .i64 c] w fun e w' => e = .returned (.int .i64 (crI c q.w.length)) ∧ (q.crash c).at w' (fun k => S k ∨ w.heap.size ≤ k) b ∧ Kep w w' S :=
  folder_Folder_Crash.calls S b q.k q.n q.w c (by have h1 := hf.1; have h2 := hf.2.2; omega) w h
theorem find_at (q : FoS) (S : Nat → Prop) (b : Nat) (s : ByteArray) (x : Int) (is : Bool) (hs : s.size ≤ maxLen) (w : World) (h : q.at w S b) (hx : nmGet q.n s.data.toList = x) (hi : nmHas q.n s.data.toList = is) :
    Calls Try.prog 12 #[.pointer (some ⟨b, 0, none⟩), .string s] w fun e w' => e = .returned (.tuple #[.int .i64 x, .bool is]) ∧ w' = w := by
  subst hx
  subst hi
  exact (folder_Folder_Find.calls S b q.k q.n q.w s hs w h).mono (fun e w' h => ⟨h.1.1, h.2⟩)
theorem wait_at (q : FoS) (S : Nat → Prop) (b : Nat) (hq : q.w.length = 0) (w : World) (h : q.at w S b) :
    Calls Try.prog 13 #[.pointer (some ⟨b, 0, none⟩)] w fun e w' => e = .returned (.int .i64 0) ∧ w' = w := by
  have := folder_Folder_Waiting.calls S b q.k q.n q.w w h
  rw [hq] at this
  exact this
theorem new_at (w : World) :
    Calls Try.prog 7 #[] w fun e w' => e = .returned (.pointer (some ⟨w.heap.size + 1 + 1, 0, none⟩)) ∧ (⟨[], [], []⟩ : FoS).at w' (fun k => w.heap.size ≤ k) (w.heap.size + 1 + 1) ∧ Below w.heap.size w w' := folder_New.calls w
set_option maxHeartbeats 8000000 in
set_option maxRecDepth 100000 in
theorem moves_end (s t : ByteArray) (a b c x y : Int) (is r : Bool) (hst : s.toList ≠ t.toList) (hs : s.size ≤ maxLen) (ht : t.size ≤ maxLen) (ha : (Lit.int .i64 a).wf = true) (hb : (Lit.int .i64 b).wf = true) (hf : movesSmall s t a b c) (q : FoS) (hq : movesEnd s t a b c = q) (w : World)
    (hx : nmGet q.n t.data.toList = x) (hit : nmHas q.n t.data.toList = true) (hy : nmGet q.n s.data.toList = y) (his : nmHas q.n s.data.toList = is) (hw : q.w.length = 0)
    (hor : is = true ∧ (x == b) = true ∧ (y == a) = true ∨ is = false ∧ (x == a) = true) (hr : styluslaw09_lives.f = some r) :
    Calls Try.prog 3 #[.agg #[.string s, .string t], .agg #[.int .i64 a, .int .i64 b], .int .i64 c] w fun e w' => e = .returned (.bool r) ∧ Below w.heap.size w w' := by
  have hbs : (s.toList == t.toList) = false := beq_eq_false_iff_ne.2 hst
  have huP := Try.underlying25
  have hu22 := Try.underlying22
  have hu23 := Try.underlying23
  obtain ⟨W, hW⟩ : ∃ W, (w.alloc (.cells #[.string s, .string t] 22)).alloc (.cells #[.int .i64 a, .int .i64 b] 23) = W := ⟨_, rfl⟩
  have hk0 := blk_alloc (heap_alloc_new w (.cells #[.string s, .string t] 22)) (.cells #[.int .i64 a, .int .i64 b] 23)
  have hk1 := heap_alloc_new (w.alloc (.cells #[.string s, .string t] 22)) (.cells #[.int .i64 a, .int .i64 b] 23)
  have hB := below_alloc (below_alloc (Below.refl w.heap.size w) (.cells #[.string s, .string t] 22)) (.cells #[.int .i64 a, .int .i64 b] 23)
  have HB := Aside0.mk hB
  have HR := Aside0.mk hr
  have HOR := Aside0.mk hor
  have HQ := Aside0.mk hq
  have HF1 := Aside0.mk hf.1
  have HF2 := Aside0.mk hf.2.1
  have HF3 := Aside0.mk hf.2.2.1
  have HF4 := Aside0.mk hf.2.2.2
  have HX := Aside0.mk (And.intro hx hit)
  have HY := Aside0.mk (And.intro hy his)
  have HW := Aside0.mk hw
  have HS := Aside0.mk hs
  have HT := Aside0.mk ht
  have HA := Aside0.mk ha
  have HBw := Aside0.mk hb
  clear hB hr hor hq hf hx hit hy his hw hs ht ha hb hst hW hk0 hk1 W
  go_enter Try.func3, Try.ntmps3
  go_upto_region 1 with fail
  go_cut [7, 8, 9, 10] (fun v7 v8 v9 v10 wx => v7 = .string s ∧ v8 = .string t ∧ v9 = .int .i64 a ∧ v10 = .int .i64 b ∧ Aside0 (Kep w wx (fun k => w.heap.size ≤ k)))
  case first =>
    go_quiet (fail)
    go_wp2_with fail
    go_meet
    exact ⟨rfl, rfl, rfl, rfl, ⟨Kep.of_below (pw_below_drewN HB.out _) _⟩⟩
  obtain ⟨rfl, rfl, rfl, rfl, B0⟩ := hcut
  rcases HOR.out with ⟨rfl, hxb, hya⟩ | ⟨rfl, hxa⟩
  · go_wp2_with (first
      | (go_at_call 7; (with_reducible refine (new_at _).mono ?_); rintro e w1 ⟨rfl, hf, hb⟩; have F1 := Aside0.mk (at_wide hf (S' := fun k => w.heap.size ≤ k) (fun k h => Nat.le_trans B0.out.b.size h)); have B1 := Aside0.mk (B0.out.below hb); clear hf hb B0)
      | (go_at_call 8; (with_reducible refine (put_at _ _ _ s a HS.out HA.out (by decide) _ F1.out).mono ?_); rintro e w2 ⟨rfl, hf, hk⟩; have F2 := Aside0.mk (at_wide hf (S' := fun k => w.heap.size ≤ k) (fun k hk' => hk'.elim id (fun h => Nat.le_trans B1.out.b.size h))); have B2 := Aside0.mk (B1.out.then_ hk (fun k h => .inl h)); clear hf hk F1 B1)
      | (go_at_call 8; (with_reducible refine (put_at _ _ _ t b HT.out HBw.out HF1.out _ F2.out).mono ?_); rintro e w3 ⟨rfl, hf, hk⟩; have F3 := Aside0.mk (at_wide hf (S' := fun k => w.heap.size ≤ k) (fun k hk' => hk'.elim id (fun h => Nat.le_trans B2.out.b.size h))); have B3 := Aside0.mk (B2.out.then_ hk (fun k h => .inl h)); clear hf hk F2 B2)
      | (go_at_call 9; (with_reducible refine (sync_at _ _ _ HF2.out _ F3.out).mono ?_); rintro e w4 ⟨⟨v4, rfl⟩, hf, hk⟩; have F4 := Aside0.mk (at_wide hf (S' := fun k => w.heap.size ≤ k) (fun k hk' => hk'.elim id (fun h => Nat.le_trans B3.out.b.size h))); have B4 := Aside0.mk (B3.out.then_ hk (fun k h => .inl h)); clear hf hk F3 B3)
      | (go_at_call 10; (with_reducible refine (move_at _ _ _ s t HS.out HT.out HF3.out _ F4.out).mono ?_); rintro e w5 ⟨rfl, hf, hk⟩; have F5 := Aside0.mk (at_wide hf (S' := fun k => w.heap.size ≤ k) (fun k hk' => hk'.elim id (fun h => Nat.le_trans B4.out.b.size h))); have B5 := Aside0.mk (B4.out.then_ hk (fun k h => .inl h)); clear hf hk F4 B4)
      | (go_at_call 11; (with_reducible refine (crash_at _ _ _ c HF4.out _ F5.out).mono ?_); rintro e w6 ⟨rfl, hf, hk⟩; have F6 := Aside0.mk (at_wide hf (S' := fun k => w.heap.size ≤ k) (fun k hk' => hk'.elim id (fun h => Nat.le_trans B5.out.b.size h))); have B6 := Aside0.mk (B5.out.then_ hk (fun k h => .inl h)); clear hf hk F5 B5; have F6 := Aside0.mk (show q.at w6 (fun k => w.heap.size ≤ k) _ by rw [← HQ.out]; exact F6.out))
      | (go_at_call 12; (with_reducible refine (find_at q _ _ t x true HT.out _ F6.out HX.out.1 HX.out.2).mono ?_); rintro e w7 ⟨rfl, rfl⟩)
      | (go_at_call 12; (with_reducible refine (find_at q _ _ s y true HS.out _ F6.out HY.out.1 HY.out.2).mono ?_); rintro e w8 ⟨rfl, rfl⟩)
      | (go_at_call 13; (with_reducible refine (wait_at q _ _ HW.out _ F6.out).mono ?_); rintro e w9 ⟨rfl, rfl⟩)
      | (go_at_call 6; (with_reducible refine (styluslaw09_lives.calls _ _ HR.out).mono ?_); rintro e w10 ⟨rfl, hb⟩; have BZ := Aside0.mk (B6.out.below hb); clear hb))
    go_ret
    exact ⟨rfl, BZ.out.out (Nat.le_refl _) (fun k h => h)⟩
  · go_wp2_with (first
      | (go_at_call 7; (with_reducible refine (new_at _).mono ?_); rintro e w1 ⟨rfl, hf, hb⟩; have F1 := Aside0.mk (at_wide hf (S' := fun k => w.heap.size ≤ k) (fun k h => Nat.le_trans B0.out.b.size h)); have B1 := Aside0.mk (B0.out.below hb); clear hf hb B0)
      | (go_at_call 8; (with_reducible refine (put_at _ _ _ s a HS.out HA.out (by decide) _ F1.out).mono ?_); rintro e w2 ⟨rfl, hf, hk⟩; have F2 := Aside0.mk (at_wide hf (S' := fun k => w.heap.size ≤ k) (fun k hk' => hk'.elim id (fun h => Nat.le_trans B1.out.b.size h))); have B2 := Aside0.mk (B1.out.then_ hk (fun k h => .inl h)); clear hf hk F1 B1)
      | (go_at_call 8; (with_reducible refine (put_at _ _ _ t b HT.out HBw.out HF1.out _ F2.out).mono ?_); rintro e w3 ⟨rfl, hf, hk⟩; have F3 := Aside0.mk (at_wide hf (S' := fun k => w.heap.size ≤ k) (fun k hk' => hk'.elim id (fun h => Nat.le_trans B2.out.b.size h))); have B3 := Aside0.mk (B2.out.then_ hk (fun k h => .inl h)); clear hf hk F2 B2)
      | (go_at_call 9; (with_reducible refine (sync_at _ _ _ HF2.out _ F3.out).mono ?_); rintro e w4 ⟨⟨v4, rfl⟩, hf, hk⟩; have F4 := Aside0.mk (at_wide hf (S' := fun k => w.heap.size ≤ k) (fun k hk' => hk'.elim id (fun h => Nat.le_trans B3.out.b.size h))); have B4 := Aside0.mk (B3.out.then_ hk (fun k h => .inl h)); clear hf hk F3 B3)
      | (go_at_call 10; (with_reducible refine (move_at _ _ _ s t HS.out HT.out HF3.out _ F4.out).mono ?_); rintro e w5 ⟨rfl, hf, hk⟩; have F5 := Aside0.mk (at_wide hf (S' := fun k => w.heap.size ≤ k) (fun k hk' => hk'.elim id (fun h => Nat.le_trans B4.out.b.size h))); have B5 := Aside0.mk (B4.out.then_ hk (fun k h => .inl h)); clear hf hk F4 B4)
      | (go_at_call 11; (with_reducible refine (crash_at _ _ _ c HF4.out _ F5.out).mono ?_); rintro e w6 ⟨rfl, hf, hk⟩; have F6 := Aside0.mk (at_wide hf (S' := fun k => w.heap.size ≤ k) (fun k hk' => hk'.elim id (fun h => Nat.le_trans B5.out.b.size h))); have B6 := Aside0.mk (B5.out.then_ hk (fun k h => .inl h)); clear hf hk F5 B5; have F6 := Aside0.mk (show q.at w6 (fun k => w.heap.size ≤ k) _ by rw [← HQ.out]; exact F6.out))
      | (go_at_call 12; (with_reducible refine (find_at q _ _ t x true HT.out _ F6.out HX.out.1 HX.out.2).mono ?_); rintro e w7 ⟨rfl, rfl⟩)
      | (go_at_call 12; (with_reducible refine (find_at q _ _ s y false HS.out _ F6.out HY.out.1 HY.out.2).mono ?_); rintro e w8 ⟨rfl, rfl⟩)
      | (go_at_call 13; (with_reducible refine (wait_at q _ _ HW.out _ F6.out).mono ?_); rintro e w9 ⟨rfl, rfl⟩)
      | (go_at_call 6; (with_reducible refine (styluslaw09_lives.calls _ _ HR.out).mono ?_); rintro e w10 ⟨rfl, hb⟩; have BZ := Aside0.mk (B6.out.below hb); clear hb))
    go_ret
    exact ⟨rfl, BZ.out.out (Nat.le_refl _) (fun k h => h)⟩
set_option maxHeartbeats 8000000 in
set_option maxRecDepth 100000 in
theorem moves_same (s t : ByteArray) (a b c : Int) (r : Bool) (hst : s.toList = t.toList) (w : World) (hr : styluslaw09_lives.f = some r) :
    Calls Try.prog 3 #[.agg #[.string s, .string t], .agg #[.int .i64 a, .int .i64 b], .int .i64 c] w fun e w' => e = .returned (.bool r) ∧ Below w.heap.size w w' := by
  have hbs : (s.toList == t.toList) = true := beq_iff_eq.2 hst
  have hu22 := Try.underlying22
  have hu23 := Try.underlying23
  have HB := Aside0.mk (below_alloc (below_alloc (Below.refl w.heap.size w) (.cells #[.string s, .string t] 22)) (.cells #[.int .i64 a, .int .i64 b] 23))
  have HR := Aside0.mk hr
  clear hr hst
  go_enter Try.func3, Try.ntmps3
  go_upto_region 1 with fail
  go_cut [7, 8, 9, 10] (fun v7 v8 v9 v10 wx => v7 = .string s ∧ v8 = .string t ∧ v9 = .int .i64 a ∧ v10 = .int .i64 b ∧ Aside0 (Below w.heap.size w wx))
  case first =>
    go_quiet (fail)
    go_wp2_with fail
    go_meet
    exact ⟨rfl, rfl, rfl, rfl, ⟨pw_below_drewN HB.out _⟩⟩
  obtain ⟨rfl, rfl, rfl, rfl, B0⟩ := hcut
  go_wp2_with (go_at_call 6; (with_reducible refine (styluslaw09_lives.calls _ _ HR.out).mono ?_); rintro e w10 ⟨rfl, hb⟩; have BZ := Aside0.mk (below_step B0.out hb); clear hb)
  go_ret
  exact ⟨rfl, BZ.out⟩
theorem styluslaw09_FolderMoves.calls (s t : ByteArray) (a b c : Int) (r : Bool) (w : World) (h : styluslaw09_FolderMoves.f s t a b c = some r) :
    Calls Try.prog 3 #[.agg #[.string s, .string t], .agg #[.int .i64 a, .int .i64 b], .int .i64 c] w fun e w' => e = .returned (.bool r) ∧ Below w.heap.size w w' := by
  unfold styluslaw09_FolderMoves.f at h
  by_cases hst : s.toList = t.toList
  · rw [if_pos hst] at h
    exact moves_same s t a b c r hst w h
  · rw [if_neg hst] at h
    split at h
    case isFalse => cases h
    case isTrue hc =>
      obtain ⟨hs, ht, ha, hb, hf, hok⟩ := hc
      unfold movesOk at hok
      simp only [Bool.and_eq_true, Bool.or_eq_true, Bool.not_eq_true', decide_eq_true_eq] at hok
      obtain ⟨⟨h1, h2⟩, h3⟩ := hok
      refine moves_end s t a b c _ _ _ r hst hs ht ha hb hf _ rfl w rfl h1 rfl rfl h3 ?_ h
      rcases h2 with ⟨⟨h4, h5⟩, h6⟩ | ⟨h4, h5⟩
      · exact .inl ⟨h4, beq_iff_eq.2 h5, beq_iff_eq.2 h6⟩
      · exact .inr ⟨h4, beq_iff_eq.2 h5⟩


/-- THE ONE PURE STATEMENT of styluslaw09_FolderMoves. -/
def styluslaw09_FolderMoves.Pure : Prop := ∀ (x0 : S22) (x1 : S23) (x2 : Int), B22 x0 → B23 x1 → (Lit.int .i64 x2).wf = true → styluslaw09_FolderMoves.f x0.f0 x0.f1 x1.f0 x1.f1 x2 = some true
/-! ### folder_Folder_Drop: function 20 -/
-- NEEDS (*stylus/folder.Folder).Put
theorem folder_Folder_Drop.nob (p : Value) (s : ByteArray) (w : World) (h : Nob w p) :
    Calls Try.prog 20 #[p, .string s] w fun e w' => e = .returned (.bool false) ∧ w' = w := by
  go_enter Try.func20, Try.ntmps20
  go_wp2_with (go_at_call 12; (with_reducible refine (folder_Folder_Find.nob p s _ h).mono ?_); rintro e w2 ⟨rfl, rfl⟩)
  go_ret
  exact ⟨rfl, rfl⟩
set_option maxHeartbeats 4000000 in
theorem folder_Folder_Drop.calls (S : Nat → Prop) (b : Nat) (L0 L : Nms) (cs : List Chg) (s : ByteArray) (hs : s.size ≤ maxLen) (hl : L.length ≤ 1000000) (hl2 : cs.length ≤ 1000000) (w : World) (h : Fo w S b L0 L cs) :
    Calls Try.prog 20 #[.pointer (some ⟨b, 0, none⟩), .string s] w fun e w' => e = .returned (.bool (nmHas L s.data.toList)) ∧
      Fo w' (fun k => S k ∨ w.heap.size ≤ k) b L0 (if nmHas L s.data.toList = true then nmDel L s.data.toList else L) (if nmHas L s.data.toList = true then cs ++ [⟨true, s, false, ⟨#[]⟩, 0⟩] else cs) ∧ Kep w w' S := by
  have HF := Aside0.mk (folder_Folder_Find.calls S b L0 L cs s hs w h)
  have HW := Aside0.mk (h.wide (S' := fun k => S k ∨ w.heap.size ≤ k) (fun k hk => .inl hk))
  have HD := Aside0.mk (folder_Folder_do.calls S b L0 L cs ⟨true, s, false, ⟨#[]⟩, 0⟩ ⟨hs, Nat.zero_le _, rfl⟩ hl hl2 w h)
  clear h hl hl2 hs
  cases hh : nmHas L s.data.toList with
  | false =>
    go_enter Try.func20, Try.ntmps20
    go_wp2_with (go_at_call 12; (with_reducible refine HF.out.mono ?_); rintro e w2 ⟨⟨rfl, _⟩, rfl⟩; rw [hh])
    go_ret
    exact ⟨rfl, HW.out, Kep.refl _ _⟩
  | true =>
    go_enter Try.func20, Try.ntmps20
    go_wp2_with (first
      | (go_at_call 12; (with_reducible refine HF.out.mono ?_); rintro e w2 ⟨⟨rfl, _⟩, rfl⟩; rw [hh])
      | (go_at_call 25; (with_reducible refine HD.out.mono ?_); rintro e w3 ⟨⟨v3, rfl⟩, hf3, hk3⟩))
    go_ret
    exact ⟨rfl, hf3, hk3⟩

/-! ### folder_Folder_Kept: function 22 -/
-- NEEDS (*stylus/folder.Folder).Now
theorem folder_Folder_Kept.nob (p : Value) (w : World) (h : Nob w p) :
    Calls Try.prog 22 #[p] w fun e w' => e = .returned (.slice none 0 0) ∧ w' = w := by
  go_enter Try.func22, Try.ntmps22
  go_wp2_with (go_at_call 24; (with_reducible refine (folder_Folder_none.calls p _ h).mono ?_); rintro e w2 ⟨rfl, rfl⟩)
  go_ret
  exact ⟨rfl, rfl⟩
theorem folder_Folder_Kept.calls (S : Nat → Prop) (b : Nat) (L0 L : Nms) (cs : List Chg) (hl : L0.length ≤ 1000000) (w : World) (h : Fo w S b L0 L cs) :
    Calls Try.prog 22 #[.pointer (some ⟨b, 0, none⟩)] w fun e w' => ∃ v : Value, e = .returned v ∧ Kd.R k84 84 w' w.heap.size (fun _ => True) v (L0.map toS) ∧ Below w.heap.size w w' := by
  have huF := Try.underlying52
  have hm := folder_Folder_none.made b w h.cell
  obtain ⟨kb, nb, A, cap, hb, _, _, hk, _, _, _⟩ := h
  have HL := Aside0.mk (folder_names_list.calls kb L0 hl w hk)
  have c1 := (blk_cell hb 0).trans rfl
  clear hb hk
  go_enter Try.func22, Try.ntmps22
  go_wp2_with (first
    | (go_at_call 24; (with_reducible refine hm.mono ?_); clear hm; rintro e w2 ⟨rfl, rfl⟩)
    | (go_at_call 38; (with_reducible refine HL.out.mono ?_); rintro e w3 ⟨v3, rfl, hR3, hb3⟩))
  go_ret
  exact ⟨_, rfl, hR3, hb3⟩

/-! ### styluslaw09_FolderNobody: function 5 -/
-- NEEDS stylus/styluslaw09.lives (*stylus/folder.Folder).Kept (*stylus/folder.Folder).Drop (*stylus/folder.Folder).Waiting
theorem nob_IDs (p : Value) (w : World) (h : Nob w p) :
    Calls Try.prog 23 #[p] w fun e w' => e = .returned (.slice none 0 0) ∧ w' = w := by
  go_enter Try.func23, Try.ntmps23
  go_wp2_with (go_at_call 24; (with_reducible refine (folder_Folder_none.calls p _ h).mono ?_); rintro e w2 ⟨rfl, rfl⟩)
  go_ret
  exact ⟨rfl, rfl⟩
theorem nob_Copy (w : World) :
    Calls Try.prog 15 #[.pointer none] w fun e w' => e = .returned (.pointer none) ∧ w' = w := by
  have huP := Try.underlying25
  go_enter Try.func15, Try.ntmps15
  go_wp2
  go_ret
  exact ⟨rfl, rfl⟩
def styluslaw09_FolderNobody.f (a0 : ByteArray) (a1 : Int) : Option Bool := styluslaw09_lives.f
set_option maxHeartbeats 8000000 in
set_option maxRecDepth 100000 in
theorem styluslaw09_FolderNobody.calls (a0 : ByteArray) (a1 : Int) (r : Bool) (w : World) (h : styluslaw09_FolderNobody.f a0 a1 = some r) :
    Calls Try.prog 5 #[.string a0, .int .i64 a1] w fun e w' => e = .returned (.bool r) ∧ Below w.heap.size w w' := by
  have huP := Try.underlying25
  have huF := Try.underlying52
  have HL := Aside0.mk (show styluslaw09_lives.f = some r from h)
  obtain rfl := Option.some.inj h
  clear h
  obtain ⟨W, hW⟩ : ∃ W, w.alloc (.cells #[.map none, .map none, .slice none 0 0, .bool false] 52) = W := ⟨_, rfl⟩
  have hb0 := heap_alloc_new w (.cells #[.map none, .map none, .slice none 0 0, .bool false] 52)
  have hB := below_alloc (Below.refl w.heap.size w) (.cells #[.map none, .map none, .slice none 0 0, .bool false] 52)
  rw [hW] at hb0 hB
  have N0 := Aside0.mk (show Nob W (.pointer none) from .inl rfl)
  have N1 := Aside0.mk (show Nob W (.pointer (some ⟨w.heap.size, 0, none⟩)) from .inr ⟨_, rfl, (blk_cell hb0 3).trans rfl⟩)
  have HB := Aside0.mk hB
  clear hb0 hB
  go_enter Try.func5, Try.ntmps5
  go_wp2_with (first
    | (go_at_call 9; (try rw [hW]); (with_reducible refine (folder_Folder_Sync.nob (.pointer none) _ N0.out).mono ?_); rintro e w2 ⟨⟨v2, rfl⟩, rfl⟩)
    | (go_at_call 9; (with_reducible refine (folder_Folder_Sync.nob (.pointer (some ⟨w.heap.size, 0, none⟩)) _ N1.out).mono ?_); rintro e w2 ⟨⟨v3, rfl⟩, rfl⟩)
    | (go_at_call 12; (with_reducible refine (folder_Folder_Find.nob _ _ _ N0.out).mono ?_); rintro e w2 ⟨rfl, rfl⟩)
    | (go_at_call 8; (with_reducible refine (folder_Folder_Put.nob _ _ _ _ N0.out).mono ?_); rintro e w2 ⟨rfl, rfl⟩)
    | (go_at_call 8; (with_reducible refine (folder_Folder_Put.nob _ _ _ _ N1.out).mono ?_); rintro e w2 ⟨rfl, rfl⟩)
    | (go_at_call 20; (with_reducible refine (folder_Folder_Drop.nob _ _ _ N0.out).mono ?_); rintro e w2 ⟨rfl, rfl⟩)
    | (go_at_call 10; (with_reducible refine (folder_Folder_Move.nob _ _ _ _ N1.out).mono ?_); rintro e w2 ⟨rfl, rfl⟩)
    | (go_at_call 21; (with_reducible refine (folder_Folder_Now.nob _ _ N0.out).mono ?_); rintro e w2 ⟨rfl, rfl⟩)
    | (go_at_call 22; (with_reducible refine (folder_Folder_Kept.nob _ _ N1.out).mono ?_); rintro e w2 ⟨rfl, rfl⟩)
    | (go_at_call 23; (with_reducible refine (nob_IDs _ _ N1.out).mono ?_); rintro e w2 ⟨rfl, rfl⟩)
    | (go_at_call 13; (with_reducible refine (folder_Folder_Waiting.nob _ _ N0.out).mono ?_); rintro e w2 ⟨rfl, rfl⟩)
    | (go_at_call 11; (with_reducible refine (folder_Folder_Crash.nob _ _ _ N1.out).mono ?_); rintro e w2 ⟨rfl, rfl⟩)
    | (go_at_call 15; (with_reducible refine (nob_Copy _).mono ?_); rintro e w2 ⟨rfl, rfl⟩)
    | (go_at_call 6; (with_reducible refine (styluslaw09_lives.calls _ _ HL.out).mono ?_); rintro e w9 ⟨rfl, hb9⟩; have HB9 := Aside0.mk (below_step HB.out hb9); clear hb9))
  go_ret
  exact ⟨rfl, HB9.out⟩


/-- THE ONE PURE STATEMENT of styluslaw09_FolderNobody. -/
def styluslaw09_FolderNobody.Pure : Prop := ∀ (x0 : ByteArray) (x1 : Int), x0.size ≤ 140737488351232 → (Lit.int .i64 x1).wf = true → styluslaw09_FolderNobody.f x0 x1 = some true
end Go.Proofs.Ytdlnbchgimmmoaa.P
