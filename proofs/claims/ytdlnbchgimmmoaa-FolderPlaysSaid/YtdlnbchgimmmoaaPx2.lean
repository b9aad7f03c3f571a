-- Laid by a program of this session (wip/tools/fork_print.py over the kit's print) out of Lean's print of the translation. Lean checks it.
import Derived.Test.YtdlnbchgimmmoaaPx0
import Derived.Maps.Ext
import Derived.Test.YtdlnbchgimmmoaaShelf
import Derived.Test.YtdlnbchgimmmoaaPx1
namespace Go.Proofs.Ytdlnbchgimmmoaa.P
open Go.RowKit Go.Proofs.YtdlnbchgimmmoaaW.PrintWords Go.Proofs.YtdlnbchgimmmoaaW.PrintLast Go.Proofs.YtdlnbchgimmmoaaW.PrintMore
attribute [local go_sem] max2_int min2_int max_two min_two max_three min_three max_four min_four   -- for this text's walks alone
set_option linter.unusedVariables false
set_option linter.unusedSimpArgs false

/-! ### folder_names_list: function 38 -/
-- NEEDS (stylus/folder.names).apply
-- IMPORT Derived.Test.YtdlnbchgimmmoaaShelf
-- IMPORT Derived.Maps.Ext
theorem nm_keys (mb : Option Nat) (w : World) : Calls Try.prog 48 #[.map mb] w fun e w' => e = .returned (.func (.func 54) #[] #[.pointer (some ⟨w.heap.size, 0, none⟩)]) ∧ w' = w.alloc (.cells #[.map mb] 49) :=
  (callsIn_wide (n := 5)).1 (Go.Proofs.AnyZ.keys_in Try.keysS Fence.wide 5 trivial rfl mb w)
theorem nm_sorts (m : Nat) : Go.Proofs.AnyZ.SortsIn Try.prog Try.sortedS_ren Fence.wide m :=
  ⟨fun blk off cap ss W hH hblk hsz => callsIn_wide.2 (Go.Proofs.AnyM.slices_Sort_string Try.sortS blk off cap ss W hH hblk hsz),
   fun p cap W => callsIn_wide.2 (Go.Proofs.AnyM.slices_Sort_string_none Try.sortS p cap W)⟩
set_option maxHeartbeats 1000000 in
theorem nm_sorted0 (b nn : Nat) (D0 : DataW Unit) (R : Value → Option (DataW Unit × List MemPlace)) (w : World) (hown : w.ownsMap Try.prog 9 R b nn D0) (hmax : Maps.size D0 ≤ maxLen) (hbytes : Maps.size D0 * 16 ≤ 140737488355328) :
    Calls Try.prog 47 #[.func (.func 54) #[] #[.pointer (some ⟨w.heap.size, 0, none⟩)]] (w.alloc (.cells #[.map (some b)] 49)) fun e w' => ∃ (v : Value) (ss : List (List UInt8)), e = .returned v ∧ ss.Perm (strKeys D0) ∧
      w'.ownsRow (w.alloc (.cells #[.map (some b)] 49)).heap.size 9 1 v ss.length ((ss.mergeSort (fun x y => decide (x ≤ y))).map encStr) ∧ (v = .slice none 0 0 ↔ ss = []) ∧ Below (w.alloc (.cells #[.map (some b)] 49)).heap.size (w.alloc (.cells #[.map (some b)] 49)) w' := by
  have hbl := hown.lt
  have hseq : SeqGives Fence.wide 2 Try.prog 54 #[.pointer (some ⟨w.heap.size, 0, none⟩)] encStr (fun ss => ss.Perm (strKeys D0)) (Maps.size D0) (w.alloc (.cells #[.map (some b)] 49)) :=
    Go.Proofs.AnyZ.keys_gives (ρ := Try.keysS_ren) { Try.keysS with } Fence.wide _ trivial rfl (by omega) w.heap.size b nn D0 _ (by simp) (by simp) (by
      obtain ⟨es, clock, hb, Ft, hs, hD⟩ := hown
      exact ⟨es, clock, (Below.heap_alloc _ _ b hbl).trans hb, Ft, hs, hD⟩)
  exact (callsIn_wide (n := 5)).1 (Go.Proofs.AnyZ.sorted_in Try.sortedS Fence.wide 5 trivial trivial trivial trivial rfl (by omega) (nm_sorts _) (enters_of Try.func53 (by kernel_rfl) rfl) 54 #[.pointer (some ⟨w.heap.size, 0, none⟩)] trivial (enters_of Try.func54 (by kernel_rfl) rfl) _ _ hmax hbytes _ hseq)
/-! the names are rising -/
theorem bytes_lt : ∀ {x y : List UInt8}, bytesBefore x y = true → x ≤ y ∧ x ≠ y
  | [], [], h => by simp [bytesBefore] at h
  | [], b :: s, _ => ⟨List.nil_le _, by simp⟩
  | a :: r, [], h => by simp [bytesBefore] at h
  | a :: r, b :: s, h => by
    rw [bytesBefore, Bool.or_eq_true, Bool.and_eq_true] at h
    rcases h with h | ⟨h1, h2⟩
    · have h1 : a < b := of_decide_eq_true h
      refine ⟨List.le_of_lt (List.cons_lt_cons_iff.2 (.inl h1)), fun e => ?_⟩
      injection e with e1 _
      subst e1
      exact absurd h1 (UInt8.lt_irrefl _)
    · obtain rfl := beq_iff_eq.1 h1
      obtain ⟨h3, h4⟩ := bytes_lt h2
      exact ⟨List.cons_le_cons_iff.2 (.inr ⟨rfl, h3⟩), fun e => h4 (List.cons.inj e).2⟩
theorem nm_rising {w : World} {b : Nat} {L : Nms} (h : Nm w b L) : L.Pairwise (fun p q => bytesBefore p.1 q.1 = true) := by
  obtain ⟨es, he, hp, _⟩ := h.canon nm_law
  have he' : L.map (fun p => (Lit.string p.1, DataW.lit (H := Unit) (.int .i64 p.2))) = es := by
    unfold Dt at he
    injection he
  rw [← he', List.pairwise_map] at hp
  exact hp
theorem nm_strKeys (L : Nms) : strKeys (Dt L) = L.map (·.1) := by
  show (L.map _).map _ = _
  rw [List.map_map]
  rfl
theorem nm_sort {L : Nms} {ss : List (List UInt8)} (hr : L.Pairwise (fun p q => bytesBefore p.1 q.1 = true)) (hp : ss.Perm (strKeys (Dt L))) : ss.mergeSort (fun x y => decide (x ≤ y)) = L.map (·.1) := by
  rw [nm_strKeys] at hp
  have h1 := mergeSort_of_perm hp
  have h2 : (L.map (·.1)).mergeSort leB = L.map (·.1) := List.mergeSort_of_pairwise (by
    rw [List.pairwise_map]
    exact hr.imp (fun {a b} hab => decide_eq_true (bytes_lt hab).1))
  exact h1.trans h2
theorem nm_at {L : Nms} (hr : L.Pairwise (fun p q => bytesBefore p.1 q.1 = true)) {p : List UInt8 × Int} (hp : p ∈ L) : nmGet L p.1 = p.2 := by
  induction L with
  | nil => simp at hp
  | cons q r ih =>
    unfold nmGet
    rw [List.find?_cons]
    rcases List.mem_cons.1 hp with rfl | hp'
    · simp
    · have h1 := (bytes_lt ((List.pairwise_cons.1 hr).1 p hp')).2
      rw [beq_eq_false_iff_ne.2 h1]
      exact ih (List.pairwise_cons.1 hr).2 hp'
def toS (p : List UInt8 × Int) : S84 := ⟨⟨p.1.toArray⟩, p.2⟩
def keyS (p : List UInt8 × Int) : ByteArray := ⟨p.1.toArray⟩
theorem nm_sorted (b : Nat) (L : Nms) (hl : L.length ≤ 1000000) (w : World) (h : Nm w b L) :
    Calls Try.prog 47 #[.func (.func 54) #[] #[.pointer (some ⟨w.heap.size, 0, none⟩)]] (w.alloc (.cells #[.map (some b)] 49)) fun e w' => ∃ v : Value, e = .returned v ∧
      Kd.R Kd.string 9 w' w.heap.size (fun _ => True) v (L.map keyS) ∧ Below w.heap.size w w' := by
  have hz := Dt_size L
  refine (nm_sorted0 b L.length (Dt L) _ w h (by rw [hz]; unfold maxLen; omega) (by rw [hz]; omega)).mono ?_
  rintro e w' ⟨v, ss, rfl, hp, ho, _, hb⟩
  have hs := nm_sort (nm_rising h) hp
  have hn : ss.length = (L.map keyS).length := by
    have := hp.length_eq
    rw [nm_strKeys] at this
    simpa using this
  rw [hs, hn, List.map_map] at ho
  have he : L.map (encStr ∘ fun p => p.1) = encs Value.string (L.map keyS) := by
    unfold encs
    rw [List.map_map]
    rfl
  rw [he] at ho
  refine ⟨v, rfl, Kd.R_of_own (own_weaken ho (by simp)) (fun _ _ => trivial), below_step (below_alloc (Below.refl _ _) _) hb⟩
theorem nm_own' {α : Type} {d : Kd α} {W : World} {b e base : Nat} {ok : Nat → Prop} {v : Value} {xs : List α} {L : Nms} (h : Nm W b L) (hR : Kd.R d e W base ok v xs) : some b ≠ v.ownBlock := fun he => by
  obtain ⟨cells, hc⟩ := Kd.R_typed hR b he.symm
  obtain ⟨es, clock, hb, _⟩ := h
  rw [hc] at hb
  cases hb
theorem list_snoc (L : Nms) (i : Nat) (h : i < L.length) : (L.take (i + 1)).map toS = (L.take i).map toS ++ [toS L[i]] := by
  rw [List.take_succ_eq_append_getElem h, List.map_append]
  rfl
theorem list_key (L : Nms) (i : Nat) (h : i < L.length) : (L.map keyS).getD ((i : Int)).toNat ⟨#[]⟩ = keyS L[i] := by
  simp [List.getD_eq_getElem?_getD, List.getElem?_eq_getElem h]
theorem infoEntry : (Try.prog.info? 84).map (fun i => (i.zero, i.size, i.bytes)) = some (some (.agg #[.string ⟨#[]⟩, .int .i64 0]), 2, 24) := by kernel_rfl
theorem at_Str {w : World} {A : Option Addr} {n : Nat} {xs : List ByteArray} (h : Kd.C Kd.string w A n xs) (i : Int) (h0 : 0 ≤ i) (h1 : i < n) : ∃ ad, A = some ad ∧ w.cell? (ad.add i.toNat) = some (.string (xs.getD i.toNat ⟨#[]⟩)) := by
  obtain ⟨ad, c, e, _, hK, hc0⟩ := Kd.C_get h ⟨#[]⟩ i h0 h1
  have hc : ∀ j u, c[j]? = some u → w.cell? (ad.add (i.toNat * 1 + j)) = some u := hc0
  have e1 : c = [.string (xs.getD i.toNat ⟨#[]⟩)] := hK
  subst e1
  exact ⟨ad, e, by have hq := hc 0 _ rfl; rwa [Nat.mul_one, Nat.add_zero] at hq⟩
theorem list_get {L : Nms} (hr : L.Pairwise (fun p q => bytesBefore p.1 q.1 = true)) (i : Nat) (h : i < L.length) : nmGet L (keyS L[i]).data.toList = (L[i]).2 := nm_at hr (List.getElem_mem h)
set_option maxHeartbeats 8000000 in
set_option maxRecDepth 100000 in
theorem folder_names_list.calls (b : Nat) (L : Nms) (hl : L.length ≤ 1000000) (w : World) (h : Nm w b L) :
    Calls Try.prog 38 #[.map (some b)] w fun e w' => ∃ v : Value, e = .returned v ∧ Kd.R k84 84 w' w.heap.size (fun _ => True) v (L.map toS) ∧ Below w.heap.size w w' := by
  have huE := Try.underlying84
  have hK := Aside0.mk (nm_keys (some b) w)
  have hS := Aside0.mk (nm_sorted b L hl w h)
  have HR := Aside0.mk (nm_rising h)
  have HM := Aside0.mk h
  have HKL := Aside0.mk (show ∀ p ∈ L, p.1.length ≤ maxLen from fun p hp => strKeys_le h Try.underlying9 p.1 (by rw [nm_strKeys]; exact List.mem_map.2 ⟨p, hp, rfl⟩))
  clear h
  go_enter Try.func38, Try.ntmps38
  go_wp2_with (first
    | (go_at_call 48; (with_reducible refine hK.out.mono ?_); clear hK; rintro e w2 ⟨rfl, rfl⟩)
    | (go_at_call 47; (with_reducible refine hS.out.mono ?_); clear hS; rintro e w3 ⟨v8, rfl, hR8, hb8⟩; obtain ⟨A8, c8, rfl⟩ := Kd.R_slice hR8; rw [List.length_map] at hR8 ⊢; have HR8 := Aside0.mk hR8; have HB8 := Aside0.mk hb8; have HM8 := Aside0.mk (show Nm w3 b L from by obtain ⟨es, clock, hb, F, hs, hD⟩ := HM.out; exact ⟨es, clock, (hb8.block b (Array.getElem?_eq_some_iff.1 hb).1).trans hb, F, hs, hD⟩); clear hR8 hb8))
  go_loopw [3, 10] (fun v x wr => ∃ i : Nat, x = .int .i64 i ∧ i ≤ L.length ∧ Aside0 (Kd.R k84 84 wr w.heap.size (fun _ => True) v ((L.take i).map toS)) ∧ Aside0 (Kd.R Kd.string 9 wr w.heap.size (fun _ => True) (.slice A8 L.length c8) (L.map keyS)) ∧ Aside0 (Nm wr b L) ∧ Aside0 (Below w.heap.size w wr)) (fun _ x _ => L.length - (intOf x).toNat)
  case atStart => exact ⟨0, rfl, Nat.zero_le _, ⟨by rw [List.take_zero]; exact Kd.R_nil _ _ _ _ _⟩, HR8, HM8, HB8⟩
  case round =>
    obtain ⟨i, rfl, hi, KO, KS, KM, KB⟩ := hrel
    by_cases q : i < L.length
    · have p0 : (0 : Int) ≤ (i : Int) := Int.natCast_nonneg _
      have q0 : (i : Int) < (L.length : Int) := by omega
      obtain ⟨ad0, e0, hx0⟩ := at_Str (Kd.R_reads' KS.out).2.2 (i : Int) p0 (by rw [List.length_map]; exact q0)
      cases e0
      rw [list_key L i q] at hx0
      simp only [Int.toNat_natCast] at hx0
      have HG := Aside0.mk (list_get HR.out i q)
      have HX := Aside0.mk (list_snoc L i q)
      have HI := Aside0.mk (show ((L.take i).map toS).length = i by rw [List.length_map, List.length_take]; omega)
      have hkey := nm_key (keyS L[i]) (by have := HKL.out _ (List.getElem_mem q); show (⟨_⟩ : ByteArray).size ≤ maxLen; simpa [keyS, ByteArray.size] using this)
      have hts : toS L[i] = ⟨keyS L[i], (L[i]).2⟩ := rfl
      have HTS := Aside0.mk hts
      clear hts
      generalize keyS L[i] = s at *
      generalize (L[i]).2 = v at *
      go_wp2_with (first
        | (at_lookup; refine wpList_lookup_own_int _ rfl _ _ 49 rfl 9 3 .i64 nm_law Try.underlying49 Try.underlying3 (nm_zero _) b L.length (Dt L) rfl KM.out _ _ rfl hkey ?_; intro c hat hwc; rw [Dt_get, HG.out] at hat; injection hat with hat; injection hat with _ hat; subst hat; clear hwc)
        | ((with_reducible refine gate_builtin (b := .append) (xs := #[.tmp 14, .tmp 20]) rfl ?_); at_builtin; refine Kd.R_append k84 (w0 := w) w.heap.size rfl (.tmp 14) (.tmp 20) 54 84 (.agg #[(.string ⟨#[]⟩), (.int .i64 0)]) 24 rfl Try.underlying54 infoEntry rfl (by decide) (by omega) u3 ((L.take i).map toS) (⟨s, v⟩ : S84) [.string s, .int .i64 v] (fun _ => True) (fun _ => False) rfl rfl (k84_mkM _ _ _ ⟨s, v⟩) (fun _ hk => hk.elim) (fun _ _ => trivial) KO.out KB.out KB.out.size (by rw [HI.out]; omega) ?_; intro v21 w3 hR3 hB3 hg3 hat3; have HO3 := Aside0.mk hR3; have HB3 := Aside0.mk hB3; have HS3 := Aside0.mk (Kd.R_over KS.out KO.out (by decide) hg3); have HM3 := Aside0.mk (World.ownsMap.kept KM.out hg3 (nm_own' KM.out KO.out)); clear hR3 hB3 hg3 hat3))
      go_roundw
      case rel => exact ⟨i + 1, by go_num, by omega, ⟨by rw [HX.out, HTS.out]; exact HO3.out⟩, HS3, HM3, HB3⟩
      case measure => simp [intOf]; omega
    · obtain rfl : i = L.length := by omega
      go_wp2
      go_ret
      exact ⟨_, rfl, by have := KO.out; rwa [List.take_length] at this, KB.out⟩

/-! ### folder_Folder_Now: function 21 -/
-- NEEDS (stylus/folder.names).list (*stylus/folder.Folder).none
theorem nm_kept {W W' : World} {b : Nat} {L : Nms} {S : Nat → Prop} (h : Nm W b L) (hk : Kep W W' S) (hn : ¬ S b) : Nm W' b L := by
  obtain ⟨es, clock, hb, F, hs, hD⟩ := h
  exact ⟨es, clock, (hk.k.2 b (Array.getElem?_eq_some_iff.1 hb).1 hn).trans hb, F, hs, hD⟩
theorem Fo.kept {W W' : World} {S S2 : Nat → Prop} {b : Nat} {L0 L : Nms} {cs : List Chg} (h : Fo W S b L0 L cs) (hk : Kep W W' S2) (hd : ∀ k, S k → ¬ S2 k) : Fo W' S b L0 L cs := by
  obtain ⟨kb, nb, A, cap, hb, ⟨Sb, Skb, Snb⟩, hne, hk0, hn, hR, hok⟩ := h
  exact ⟨kb, nb, A, cap, blk_kept hb hk.k (hd _ Sb), ⟨Sb, Skb, Snb⟩, hne, nm_kept hk0 hk (hd _ Skb), nm_kept hn hk (hd _ Snb), Kd.R_kept hR hk.k hd, hok⟩
theorem Fo.below {W W' : World} {S : Nat → Prop} {b : Nat} {L0 L : Nms} {cs : List Chg} (h : Fo W S b L0 L cs) (hb : Below W.heap.size W W') : Fo W' S b L0 L cs :=
  h.kept (Kep.of_below hb (fun _ => False)) (fun _ _ h => h)
theorem folder_Folder_Now.nob (p : Value) (w : World) (h : Nob w p) :
    Calls Try.prog 21 #[p] w fun e w' => e = .returned (.slice none 0 0) ∧ w' = w := by
  go_enter Try.func21, Try.ntmps21
  go_wp2_with (go_at_call 24; (with_reducible refine (folder_Folder_none.calls p _ h).mono ?_); rintro e w2 ⟨rfl, rfl⟩)
  go_ret
  exact ⟨rfl, rfl⟩
theorem folder_Folder_Now.calls (S : Nat → Prop) (b : Nat) (L0 L : Nms) (cs : List Chg) (hl : L.length ≤ 1000000) (w : World) (h : Fo w S b L0 L cs) :
    Calls Try.prog 21 #[.pointer (some ⟨b, 0, none⟩)] w fun e w' => ∃ v : Value, e = .returned v ∧ Kd.R k84 84 w' w.heap.size (fun _ => True) v (L.map toS) ∧ Below w.heap.size w w' := by
  have huF := Try.underlying52
  have hm := folder_Folder_none.made b w h.cell
  obtain ⟨kb, nb, A, cap, hb, _, _, _, hn, _, _⟩ := h
  have HL := Aside0.mk (folder_names_list.calls nb L hl w hn)
  have c1 := (blk_cell hb 1).trans rfl
  clear hb hn
  go_enter Try.func21, Try.ntmps21
  go_wp2_with (first
    | (go_at_call 24; (with_reducible refine hm.mono ?_); clear hm; rintro e w2 ⟨rfl, rfl⟩)
    | (go_at_call 38; (with_reducible refine HL.out.mono ?_); rintro e w3 ⟨v3, rfl, hR3, hb3⟩))
  go_ret
  exact ⟨_, rfl, hR3, hb3⟩

/-! ### styluslaw09_lives: function 6 -/
-- NEEDS stylus/folder.New (*stylus/folder.Folder).Put (*stylus/folder.Folder).Sync (*stylus/folder.Folder).Move (*stylus/folder.Folder).Crash (*stylus/folder.Folder).Now
def styluslaw09_lives.f : Option Bool := some true
def lvA : Chg := ⟨false, ⟨#[]⟩, true, ⟨#[97]⟩, 1⟩
def lvB : Chg := ⟨false, ⟨#[]⟩, true, ⟨#[98]⟩, 2⟩
def lvC : Chg := ⟨true, ⟨#[98]⟩, true, ⟨#[97]⟩, 2⟩
theorem lv_size (x : UInt8) : (⟨#[x]⟩ : ByteArray).size ≤ maxLen := by show 1 ≤ maxLen; decide
theorem lv1 (S : Nat → Prop) (b : Nat) (w : World) (h : Fo w S b [] [] []) :
    Calls Try.prog 8 #[.pointer (some ⟨b, 0, none⟩), .string (⟨#[97]⟩ : ByteArray), .int .i64 1] w fun e w' => (∃ v, e = .returned v) ∧ Fo w' (fun k => S k ∨ w.heap.size ≤ k) b [] [([97], 1)] [lvA] ∧ Kep w w' S := by
  refine (folder_Folder_Put.calls S b [] [] [] ⟨#[97]⟩ 1 (lv_size _) rfl (by decide) (by decide) w h).mono ?_
  rintro e w' ⟨rfl, hf, hk⟩
  exact ⟨⟨_, rfl⟩, hf, hk⟩
theorem lv2 (S : Nat → Prop) (b : Nat) (w : World) (h : Fo w S b [] [([97], 1)] [lvA]) :
    Calls Try.prog 9 #[.pointer (some ⟨b, 0, none⟩)] w fun e w' => (∃ v, e = .returned v) ∧ Fo w' (fun k => S k ∨ w.heap.size ≤ k) b [([97], 1)] [([97], 1)] [] ∧ Kep w w' S := by
  refine (folder_Folder_Sync.calls S b [] [([97], 1)] [lvA] (by decide) w h).mono ?_
  rintro e w' ⟨⟨_, rfl⟩, hf, hk⟩
  exact ⟨⟨_, rfl⟩, hf, hk⟩
theorem lv3 (S : Nat → Prop) (b : Nat) (w : World) (h : Fo w S b [([97], 1)] [([97], 1)] []) :
    Calls Try.prog 8 #[.pointer (some ⟨b, 0, none⟩), .string (⟨#[98]⟩ : ByteArray), .int .i64 2] w fun e w' => (∃ v, e = .returned v) ∧ Fo w' (fun k => S k ∨ w.heap.size ≤ k) b [([97], 1)] [([97], 1), ([98], 2)] [lvB] ∧ Kep w w' S := by
  refine (folder_Folder_Put.calls S b [([97], 1)] [([97], 1)] [] ⟨#[98]⟩ 2 (lv_size _) rfl (by decide) (by decide) w h).mono ?_
  rintro e w' ⟨rfl, hf, hk⟩
  exact ⟨⟨_, rfl⟩, hf, hk⟩
theorem lv4 (S : Nat → Prop) (b : Nat) (w : World) (h : Fo w S b [([97], 1)] [([97], 1), ([98], 2)] [lvB]) :
    Calls Try.prog 10 #[.pointer (some ⟨b, 0, none⟩), .string (⟨#[98]⟩ : ByteArray), .string (⟨#[97]⟩ : ByteArray)] w fun e w' => (∃ v, e = .returned v) ∧ Fo w' (fun k => S k ∨ w.heap.size ≤ k) b [([97], 1)] [([97], 2)] [lvB, lvC] ∧ Kep w w' S := by
  refine (folder_Folder_Move.calls S b [([97], 1)] [([97], 1), ([98], 2)] [lvB] ⟨#[98]⟩ ⟨#[97]⟩ (lv_size _) (lv_size _) (by decide) (by decide) w h).mono ?_
  rintro e w' ⟨rfl, hf, hk⟩
  have e1 : mvL [([97], 1), ([98], 2)] (⟨#[98]⟩ : ByteArray).data.toList (⟨#[97]⟩ : ByteArray).data.toList = [([97], 2)] := by decide +kernel
  have e2 : mvC [([97], 1), ([98], 2)] [lvB] ⟨#[98]⟩ ⟨#[97]⟩ = [lvB, lvC] := if_pos (by decide +kernel)
  rw [e1, e2] at hf
  exact ⟨⟨_, rfl⟩, hf, hk⟩
theorem lv5 (S : Nat → Prop) (b : Nat) (w : World) (h : Fo w S b [([97], 1)] [([97], 2)] [lvB, lvC]) :
    Calls Try.prog 11 #[.pointer (some ⟨b, 0, none⟩), .int .i64 2] w fun e w' => (∃ v, e = .returned v) ∧ Fo w' (fun k => S k ∨ w.heap.size ≤ k) b [([97], 2)] [([97], 2)] [] ∧ Kep w w' S := by
  refine (folder_Folder_Crash.calls S b [([97], 1)] [([97], 2)] [lvB, lvC] 2 (by decide) w h).mono ?_
  rintro e w' ⟨rfl, hf, hk⟩
  have e1 : nmRun [([97], 1)] ([lvB, lvC].take (crI 2 [lvB, lvC].length).toNat) = [([97], 2)] := by decide +kernel
  rw [e1] at hf
  exact ⟨⟨_, rfl⟩, hf, hk⟩
theorem lv6 (S : Nat → Prop) (b : Nat) (w : World) (h : Fo w S b [([97], 2)] [([97], 2)] []) :
    Calls Try.prog 12 #[.pointer (some ⟨b, 0, none⟩), .string (⟨#[97]⟩ : ByteArray)] w fun e w' => e = .returned (.tuple #[.int .i64 2, .bool true]) ∧ w' = w := by
  refine (folder_Folder_Find.calls S b [([97], 2)] [([97], 2)] [] ⟨#[97]⟩ (lv_size _) w h).mono ?_
  rintro e w' ⟨⟨rfl, _⟩, rfl⟩
  exact ⟨rfl, rfl⟩
theorem lv7 (S : Nat → Prop) (b : Nat) (w : World) (h : Fo w S b [([97], 2)] [([97], 2)] []) :
    Calls Try.prog 21 #[.pointer (some ⟨b, 0, none⟩)] w fun e w' => (∃ A c, e = .returned (.slice A 1 c)) ∧ Below w.heap.size w w' := by
  refine (folder_Folder_Now.calls S b [([97], 2)] [([97], 2)] [] (by decide) w h).mono ?_
  rintro e w' ⟨v, rfl, hR, hb⟩
  obtain ⟨A, c, rfl⟩ := Kd.R_slice hR
  exact ⟨⟨_, _, rfl⟩, hb⟩
set_option maxHeartbeats 8000000 in
set_option maxRecDepth 100000 in
theorem styluslaw09_lives.calls (r : Bool) (w : World) (h : styluslaw09_lives.f = some r) :
    Calls Try.prog 6 #[] w fun e w' => e = .returned (.bool r) ∧ Below w.heap.size w w' := by
  obtain rfl := Option.some.inj h
  have huP := Try.underlying25
  go_enter Try.func6, Try.ntmps6
  go_wp2_with (first
    | (go_at_call 7; (with_reducible refine (folder_New.calls _).mono ?_); rintro e w1 ⟨rfl, hf, hb⟩; have F1 := Aside0.mk hf; have B1 := Aside0.mk (Kep.of_below hb (fun k => w.heap.size ≤ k)); clear hf hb)
    | (go_at_call 8; (with_reducible refine (lv1 _ _ _ F1.out).mono ?_); rintro e w2 ⟨⟨v2, rfl⟩, hf, hk⟩; have F2 := Aside0.mk (hf.wide (S' := fun k => w.heap.size ≤ k) (fun k hk' => hk'.elim id (fun h => Nat.le_trans B1.out.b.size h))); have B2 := Aside0.mk (B1.out.then_ hk (fun k h => .inl h)); clear hf hk F1 B1)
    | (go_at_call 9; (with_reducible refine (lv2 _ _ _ F2.out).mono ?_); rintro e w3 ⟨⟨v3, rfl⟩, hf, hk⟩; have F3 := Aside0.mk (hf.wide (S' := fun k => w.heap.size ≤ k) (fun k hk' => hk'.elim id (fun h => Nat.le_trans B2.out.b.size h))); have B3 := Aside0.mk (B2.out.then_ hk (fun k h => .inl h)); clear hf hk F2 B2)
    | (go_at_call 8; (with_reducible refine (lv3 _ _ _ F3.out).mono ?_); rintro e w4 ⟨⟨v4, rfl⟩, hf, hk⟩; have F4 := Aside0.mk (hf.wide (S' := fun k => w.heap.size ≤ k) (fun k hk' => hk'.elim id (fun h => Nat.le_trans B3.out.b.size h))); have B4 := Aside0.mk (B3.out.then_ hk (fun k h => .inl h)); clear hf hk F3 B3)
    | (go_at_call 10; (with_reducible refine (lv4 _ _ _ F4.out).mono ?_); rintro e w5 ⟨⟨v5, rfl⟩, hf, hk⟩; have F5 := Aside0.mk (hf.wide (S' := fun k => w.heap.size ≤ k) (fun k hk' => hk'.elim id (fun h => Nat.le_trans B4.out.b.size h))); have B5 := Aside0.mk (B4.out.then_ hk (fun k h => .inl h)); clear hf hk F4 B4)
    | (go_at_call 11; (with_reducible refine (lv5 _ _ _ F5.out).mono ?_); rintro e w6 ⟨⟨v6, rfl⟩, hf, hk⟩; have F6 := Aside0.mk (hf.wide (S' := fun k => w.heap.size ≤ k) (fun k hk' => hk'.elim id (fun h => Nat.le_trans B5.out.b.size h))); have B6 := Aside0.mk (B5.out.then_ hk (fun k h => .inl h)); clear hf hk F5 B5)
    | (go_at_call 12; (with_reducible refine (lv6 _ _ _ F6.out).mono ?_); rintro e w7 ⟨rfl, rfl⟩)
    | (go_at_call 21; (with_reducible refine (lv7 _ _ _ F6.out).mono ?_); rintro e w8 ⟨⟨A8, c8, rfl⟩, hb8⟩; have B8 := Aside0.mk (B6.out.below hb8); clear hb8))
  go_ret
  exact ⟨rfl, B8.out.out (Nat.le_refl _) (fun k h => h)⟩

/-! ### folder_Folder_Waiting: function 13 -/
-- NEEDS stylus/folder.New (*stylus/folder.Folder).Put (*stylus/folder.Folder).Sync (*stylus/folder.Folder).Move (*stylus/folder.Folder).Crash
theorem folder_Folder_Waiting.nob (p : Value) (w : World) (h : Nob w p) :
    Calls Try.prog 13 #[p] w fun e w' => e = .returned (.int .i64 0) ∧ w' = w := by
  go_enter Try.func13, Try.ntmps13
  go_wp2_with (go_at_call 24; (with_reducible refine (folder_Folder_none.calls p _ h).mono ?_); rintro e w2 ⟨rfl, rfl⟩)
  go_ret
  exact ⟨rfl, rfl⟩
theorem folder_Folder_Waiting.calls (S : Nat → Prop) (b : Nat) (L0 L : Nms) (cs : List Chg) (w : World) (h : Fo w S b L0 L cs) :
    Calls Try.prog 13 #[.pointer (some ⟨b, 0, none⟩)] w fun e w' => e = .returned (.int .i64 (cs.length : Int)) ∧ w' = w := by
  have huF := Try.underlying52
  have hm := folder_Folder_none.made b w h.cell
  obtain ⟨kb, nb, A, cap, hb, _⟩ := h
  have c2 := (blk_cell hb 2).trans rfl
  clear hb
  go_enter Try.func13, Try.ntmps13
  go_wp2_with (go_at_call 24; (with_reducible refine hm.mono ?_); clear hm; rintro e w2 ⟨rfl, rfl⟩)
  go_ret
  exact ⟨rfl, rfl⟩
/-- What a folder is: what lasts, what is seen, what waits. -/
structure FoS where
  k : Nms
  n : Nms
  w : List Chg
def FoS.put (q : FoS) (s : ByteArray) (v : Int) : FoS := ⟨q.k, if nmHas q.n s.data.toList = true then q.n else nmPut q.n s.data.toList v, if nmHas q.n s.data.toList = true then q.w else q.w ++ [⟨false, ⟨#[]⟩, true, s, v⟩]⟩
def FoS.sync (q : FoS) : FoS := ⟨nmRun q.k q.w, nmRun q.k q.w, []⟩
def FoS.drop (q : FoS) (s : ByteArray) : FoS := ⟨q.k, if nmHas q.n s.data.toList = true then nmDel q.n s.data.toList else q.n, if nmHas q.n s.data.toList = true then q.w ++ [⟨true, s, false, ⟨#[]⟩, 0⟩] else q.w⟩
def FoS.move (q : FoS) (s t : ByteArray) : FoS := ⟨q.k, mvL q.n s.data.toList t.data.toList, mvC q.n q.w s t⟩
def FoS.crash (q : FoS) (c : Int) : FoS := ⟨nmRun q.k (q.w.take (crI c q.w.length).toNat), nmRun q.k (q.w.take (crI c q.w.length).toNat), []⟩
abbrev FoS.at (q : FoS) (W : World) (S : Nat → Prop) (b : Nat) : Prop := Fo W S b q.k q.n q.w
def FoS.few (q : FoS) : Prop := q.k.length ≤ 1000 ∧ q.n.length ≤ 1000 ∧ q.w.length ≤ 1000
instance (q : FoS) : Decidable q.few := by unfold FoS.few; exact inferInstance
theorem at_wide {W : World} {S S' : Nat → Prop} {b : Nat} {q : FoS} (h : q.at W S b) (hS : ∀ k, S k → S' k) : q.at W S' b := Fo.wide h hS
theorem put_at (q : FoS) (S : Nat → Prop) (b : Nat) (s : ByteArray) (v : Int) (hs : s.size ≤ maxLen) (hv : (Lit.int .i64 v).wf = true) (hf : q.few) (w : World) (h : q.at w S b) :
    Calls Try.prog 8 #[.pointer (some ⟨b, 0, none⟩), .string s, .int .i64 v] w fun e w' => e = .returned (.bool (!nmHas q.n s.data.toList)) ∧ (q.put s v).at w' (fun k => S k ∨ w.heap.size ≤ k) b ∧ Kep w w' S :=
  folder_Folder_Put.calls S b q.k q.n q.w s v hs hv (Nat.le_trans hf.2.1 (by decide)) (Nat.le_trans hf.2.2 (by decide)) w h
theorem sync_at (q : FoS) (S : Nat → Prop) (b : Nat) (hf : q.few) (w : World) (h : q.at w S b) :
    Calls Try.prog 9 #[.pointer (some ⟨b, 0, none⟩)] w fun e w' => (∃ v, e = .returned v) ∧ q.sync.at w' (fun k => S k ∨ w.heap.size ≤ k) b ∧ Kep w w' S :=
  folder_Folder_Sync.calls S b q.k q.n q.w (by have h1 := hf.1; have h2 := hf.2.2; omega) w h
theorem move_at (q : FoS) (S : Nat → Prop) (b : Nat) (s t : ByteArray) (hs : s.size ≤ maxLen) (ht : t.size ≤ maxLen) (hf : q.few) (w : World) (h : q.at w S b) :
    Calls Try.prog 10 #[.pointer (some ⟨b, 0, none⟩), .string s, .string t] w fun e w' => e = .returned (.bool (nmHas q.n s.data.toList)) ∧ (q.move s t).at w' (fun k => S k ∨ w.heap.size ≤ k) b ∧ Kep w w' S :=
  folder_Folder_Move.calls S b q.k q.n q.w s t hs ht (Nat.le_trans hf.2.1 (by decide)) (Nat.le_trans hf.2.2 (by decide)) w h
theorem crash_at (q : FoS) (S : Nat → Prop) (b : Nat) (c : Int) (hf : q.few) (w : World) (h : q.at w S b) :
    Calls Try.prog 11 #[.pointer (some ⟨b, 0, none⟩), .int .i64 c] w fun e w' => e = .returned (.int .i64 (crI c q.w.length)) ∧ (q.crash c).at w' (fun k => S k ∨ w.heap.size ≤ k) b ∧ Kep w w' S :=
  folder_Folder_Crash.calls S b q.k q.n q.w c (by have h1 := hf.1; have h2 := hf.2.2; omega) w h
theorem find_at (q : FoS) (S : Nat → Prop) (b : Nat) (s : ByteArray) (x : Int) (is : Bool) (hs : s.size ≤ maxLen) (w : World) (h : q.at w S b) (hx : nmGet q.n s.data.toList = x) (hi : nmHas q.n s.data.toList = is) :
    Calls Try.prog 12 #[.pointer (some ⟨b, 0, none⟩), .string s] w fun e w' => e = .returned (.tuple #[.int .i64 x, .bool is]) ∧ w' = w := by
  subst hx
  subst hi
  exact (folder_Folder_Find.calls S b q.k q.n q.w s hs w h).mono (fun e w' h => ⟨h.1.1, h.2⟩)
theorem wait_at (q : FoS) (S : Nat → Prop) (b : Nat) (hq : q.w.length = 0) (w : World) (h : q.at w S b) :
    Calls Try.prog 13 #[.pointer (some ⟨b, 0, none⟩)] w fun e w' => e = .returned (.int .i64 0) ∧ w' = w := by
  have := folder_Folder_Waiting.calls S b q.k q.n q.w w h
  rw [hq] at this
  exact this
theorem new_at (w : World) :
    Calls Try.prog 7 #[] w fun e w' => e = .returned (.pointer (some ⟨w.heap.size + 1 + 1, 0, none⟩)) ∧ (⟨[], [], []⟩ : FoS).at w' (fun k => w.heap.size ≤ k) (w.heap.size + 1 + 1) ∧ Below w.heap.size w w' := folder_New.calls w

/-! ### styluslaw09_FolderMoves: function 3 -/
-- NEEDS stylus/styluslaw09.lives (*stylus/folder.Folder).Waiting
def movesEnd (s t : ByteArray) (a b c : Int) : FoS := (((((⟨[], [], []⟩ : FoS).put s a).put t b).sync).move s t).crash c
def movesSmall (s t : ByteArray) (a b c : Int) : Prop := (((⟨[], [], []⟩ : FoS).put s a)).few ∧ (((⟨[], [], []⟩ : FoS).put s a).put t b).few ∧ ((((⟨[], [], []⟩ : FoS).put s a).put t b).sync).few ∧ (((((⟨[], [], []⟩ : FoS).put s a).put t b).sync).move s t).few
instance (s t : ByteArray) (a b c : Int) : Decidable (movesSmall s t a b c) := by unfold movesSmall; exact inferInstance
def movesOk (s t : ByteArray) (a b : Int) (q : FoS) : Bool := nmHas q.n t.data.toList && (nmHas q.n s.data.toList && decide (nmGet q.n t.data.toList = b) && decide (nmGet q.n s.data.toList = a) || !nmHas q.n s.data.toList && decide (nmGet q.n t.data.toList = a)) && decide (q.w.length = 0)
def styluslaw09_FolderMoves.f (s t : ByteArray) (a b c : Int) : Option Bool :=
  if s.toList = t.toList then styluslaw09_lives.f else
    if s.size ≤ maxLen ∧ t.size ≤ maxLen ∧ (Lit.int .i64 a).wf = true ∧ (Lit.int .i64 b).wf = true ∧ movesSmall s t a b c ∧ movesOk s t a b (movesEnd s t a b c) = true then styluslaw09_lives.f else none
set_option maxHeartbeats 8000000 in
set_option maxRecDepth 100000 in
theorem moves_end (s t : ByteArray) (a b c x y : Int) (is r : Bool) (hst : s.toList ≠ t.toList) (hs : s.size ≤ maxLen) (ht : t.size ≤ maxLen) (ha : (Lit.int .i64 a).wf = true) (hb : (Lit.int .i64 b).wf = true) (hf : movesSmall s t a b c) (q : FoS) (hq : movesEnd s t a b c = q) (w : World)
    (hx : nmGet q.n t.data.toList = x) (hit : nmHas q.n t.data.toList = true) (hy : nmGet q.n s.data.toList = y) (his : nmHas q.n s.data.toList = is) (hw : q.w.length = 0)
    (hor : is = true ∧ (x == b) = true ∧ (y == a) = true ∨ is = false ∧ (x == a) = true) (hr : styluslaw09_lives.f = some r) :
    Calls Try.prog 3 #[.agg #[.string s, .string t], .agg #[.int .i64 a, .int .i64 b], .int .i64 c] w fun e w' => e = .returned (.bool r) ∧ Below w.heap.size w w' := by
  have hbs : (s.toList == t.toList) = false := beq_eq_false_iff_ne.2 hst
  have huP := Try.underlying25
  have hu22 := Try.underlying22
  have hu23 := Try.underlying23
  obtain ⟨W, hW⟩ : ∃ W, (w.alloc (.cells #[.string s, .string t] 22)).alloc (.cells #[.int .i64 a, .int .i64 b] 23) = W := ⟨_, rfl⟩
  have hk0 := blk_alloc (heap_alloc_new w (.cells #[.string s, .string t] 22)) (.cells #[.int .i64 a, .int .i64 b] 23)
  have hk1 := heap_alloc_new (w.alloc (.cells #[.string s, .string t] 22)) (.cells #[.int .i64 a, .int .i64 b] 23)
  have hB := below_alloc (below_alloc (Below.refl w.heap.size w) (.cells #[.string s, .string t] 22)) (.cells #[.int .i64 a, .int .i64 b] 23)
  have HB := Aside0.mk hB
  have HR := Aside0.mk hr
  have HOR := Aside0.mk hor
  have HQ := Aside0.mk hq
  have HF1 := Aside0.mk hf.1
  have HF2 := Aside0.mk hf.2.1
  have HF3 := Aside0.mk hf.2.2.1
  have HF4 := Aside0.mk hf.2.2.2
  have HX := Aside0.mk (And.intro hx hit)
  have HY := Aside0.mk (And.intro hy his)
  have HW := Aside0.mk hw
  have HS := Aside0.mk hs
  have HT := Aside0.mk ht
  have HA := Aside0.mk ha
  have HBw := Aside0.mk hb
  clear hB hr hor hq hf hx hit hy his hw hs ht ha hb hst hW hk0 hk1 W
  go_enter Try.func3, Try.ntmps3
  go_upto_region 1 with fail
  go_cut [7, 8, 9, 10] (fun v7 v8 v9 v10 wx => v7 = .string s ∧ v8 = .string t ∧ v9 = .int .i64 a ∧ v10 = .int .i64 b ∧ Aside0 (Kep w wx (fun k => w.heap.size ≤ k)))
  case first =>
    go_quiet (fail)
    go_wp2_with fail
    go_meet
    exact ⟨rfl, rfl, rfl, rfl, ⟨Kep.of_below (pw_below_drewN HB.out _) _⟩⟩
  obtain ⟨rfl, rfl, rfl, rfl, B0⟩ := hcut
  rcases HOR.out with ⟨rfl, hxb, hya⟩ | ⟨rfl, hxa⟩
  · go_wp2_with (first
      | (go_at_call 7; (with_reducible refine (new_at _).mono ?_); rintro e w1 ⟨rfl, hf, hb⟩; have F1 := Aside0.mk (at_wide hf (S' := fun k => w.heap.size ≤ k) (fun k h => Nat.le_trans B0.out.b.size h)); have B1 := Aside0.mk (B0.out.below hb); clear hf hb B0)
      | (go_at_call 8; (with_reducible refine (put_at _ _ _ s a HS.out HA.out (by decide) _ F1.out).mono ?_); rintro e w2 ⟨rfl, hf, hk⟩; have F2 := Aside0.mk (at_wide hf (S' := fun k => w.heap.size ≤ k) (fun k hk' => hk'.elim id (fun h => Nat.le_trans B1.out.b.size h))); have B2 := Aside0.mk (B1.out.then_ hk (fun k h => .inl h)); clear hf hk F1 B1)
      | (go_at_call 8; (with_reducible refine (put_at _ _ _ t b HT.out HBw.out HF1.out _ F2.out).mono ?_); rintro e w3 ⟨rfl, hf, hk⟩; have F3 := Aside0.mk (at_wide hf (S' := fun k => w.heap.size ≤ k) (fun k hk' => hk'.elim id (fun h => Nat.le_trans B2.out.b.size h))); have B3 := Aside0.mk (B2.out.then_ hk (fun k h => .inl h)); clear hf hk F2 B2)
      | (go_at_call 9; (with_reducible refine (sync_at _ _ _ HF2.out _ F3.out).mono ?_); rintro e w4 ⟨⟨v4, rfl⟩, hf, hk⟩; have F4 := Aside0.mk (at_wide hf (S' := fun k => w.heap.size ≤ k) (fun k hk' => hk'.elim id (fun h => Nat.le_trans B3.out.b.size h))); have B4 := Aside0.mk (B3.out.then_ hk (fun k h => .inl h)); clear hf hk F3 B3)
      | (go_at_call 10; (with_reducible refine (move_at _ _ _ s t HS.out HT.out HF3.out _ F4.out).mono ?_); rintro e w5 ⟨rfl, hf, hk⟩; have F5 := Aside0.mk (at_wide hf (S' := fun k => w.heap.size ≤ k) (fun k hk' => hk'.elim id (fun h => Nat.le_trans B4.out.b.size h))); have B5 := Aside0.mk (B4.out.then_ hk (fun k h => .inl h)); clear hf hk F4 B4)
      | (go_at_call 11; (with_reducible refine (crash_at _ _ _ c HF4.out _ F5.out).mono ?_); rintro e w6 ⟨rfl, hf, hk⟩; have F6 := Aside0.mk (at_wide hf (S' := fun k => w.heap.size ≤ k) (fun k hk' => hk'.elim id (fun h => Nat.le_trans B5.out.b.size h))); have B6 := Aside0.mk (B5.out.then_ hk (fun k h => .inl h)); clear hf hk F5 B5; have F6 := Aside0.mk (show q.at w6 (fun k => w.heap.size ≤ k) _ by rw [← HQ.out]; exact F6.out))
      | (go_at_call 12; (with_reducible refine (find_at q _ _ t x true HT.out _ F6.out HX.out.1 HX.out.2).mono ?_); rintro e w7 ⟨rfl, rfl⟩)
      | (go_at_call 12; (with_reducible refine (find_at q _ _ s y true HS.out _ F6.out HY.out.1 HY.out.2).mono ?_); rintro e w8 ⟨rfl, rfl⟩)
      | (go_at_call 13; (with_reducible refine (wait_at q _ _ HW.out _ F6.out).mono ?_); rintro e w9 ⟨rfl, rfl⟩)
      | (go_at_call 6; (with_reducible refine (styluslaw09_lives.calls _ _ HR.out).mono ?_); rintro e w10 ⟨rfl, hb⟩; have BZ := Aside0.mk (B6.out.below hb); clear hb))
    go_ret
    exact ⟨rfl, BZ.out.out (Nat.le_refl _) (fun k h => h)⟩
  · go_wp2_with (first
      | (go_at_call 7; (with_reducible refine (new_at _).mono ?_); rintro e w1 ⟨rfl, hf, hb⟩; have F1 := Aside0.mk (at_wide hf (S' := fun k => w.heap.size ≤ k) (fun k h => Nat.le_trans B0.out.b.size h)); have B1 := Aside0.mk (B0.out.below hb); clear hf hb B0)
      | (go_at_call 8; (with_reducible refine (put_at _ _ _ s a HS.out HA.out (by decide) _ F1.out).mono ?_); rintro e w2 ⟨rfl, hf, hk⟩; have F2 := Aside0.mk (at_wide hf (S' := fun k => w.heap.size ≤ k) (fun k hk' => hk'.elim id (fun h => Nat.le_trans B1.out.b.size h))); have B2 := Aside0.mk (B1.out.then_ hk (fun k h => .inl h)); clear hf hk F1 B1)
      | (go_at_call 8; (with_reducible refine (put_at _ _ _ t b HT.out HBw.out HF1.out _ F2.out).mono ?_); rintro e w3 ⟨rfl, hf, hk⟩; have F3 := Aside0.mk (at_wide hf (S' := fun k => w.heap.size ≤ k) (fun k hk' => hk'.elim id (fun h => Nat.le_trans B2.out.b.size h))); have B3 := Aside0.mk (B2.out.then_ hk (fun k h => .inl h)); clear hf hk F2 B2)
      | (go_at_call 9; (with_reducible refine (sync_at _ _ _ HF2.out _ F3.out).mono ?_); rintro e w4 ⟨⟨v4, rfl⟩, hf, hk⟩; have F4 := Aside0.mk (at_wide hf (S' := fun k => w.heap.size ≤ k) (fun k hk' => hk'.elim id (fun h => Nat.le_trans B3.out.b.size h))); have B4 := Aside0.mk (B3.out.then_ hk (fun k h => .inl h)); clear hf hk F3 B3)
      | (go_at_call 10; (with_reducible refine (move_at _ _ _ s t HS.out HT.out HF3.out _ F4.out).mono ?_); rintro e w5 ⟨rfl, hf, hk⟩; have F5 := Aside0.mk (at_wide hf (S' := fun k => w.heap.size ≤ k) (fun k hk' => hk'.elim id (fun h => Nat.le_trans B4.out.b.size h))); have B5 := Aside0.mk (B4.out.then_ hk (fun k h => .inl h)); clear hf hk F4 B4)
      | (go_at_call 11; (with_reducible refine (crash_at _ _ _ c HF4.out _ F5.out).mono ?_); rintro e w6 ⟨rfl, hf, hk⟩; have F6 := Aside0.mk (at_wide hf (S' := fun k => w.heap.size ≤ k) (fun k hk' => hk'.elim id (fun h => Nat.le_trans B5.out.b.size h))); have B6 := Aside0.mk (B5.out.then_ hk (fun k h => .inl h)); clear hf hk F5 B5; have F6 := Aside0.mk (show q.at w6 (fun k => w.heap.size ≤ k) _ by rw [← HQ.out]; exact F6.out))
      | (go_at_call 12; (with_reducible refine (find_at q _ _ t x true HT.out _ F6.out HX.out.1 HX.out.2).mono ?_); rintro e w7 ⟨rfl, rfl⟩)
      | (go_at_call 12; (with_reducible refine (find_at q _ _ s y false HS.out _ F6.out HY.out.1 HY.out.2).mono ?_); rintro e w8 ⟨rfl, rfl⟩)
      | (go_at_call 13; (with_reducible refine (wait_at q _ _ HW.out _ F6.out).mono ?_); rintro e w9 ⟨rfl, rfl⟩)
      | (go_at_call 6; (with_reducible refine (styluslaw09_lives.calls _ _ HR.out).mono ?_); rintro e w10 ⟨rfl, hb⟩; have BZ := Aside0.mk (B6.out.below hb); clear hb))
    go_ret
    exact ⟨rfl, BZ.out.out (Nat.le_refl _) (fun k h => h)⟩
set_option maxHeartbeats 8000000 in
set_option maxRecDepth 100000 in
theorem moves_same (s t : ByteArray) (a b c : Int) (r : Bool) (hst : s.toList = t.toList) (w : World) (hr : styluslaw09_lives.f = some r) :
    Calls Try.prog 3 #[.agg #[.string s, .string t], .agg #[.int .i64 a, .int .i64 b], .int .i64 c] w fun e w' => e = .returned (.bool r) ∧ Below w.heap.size w w' := by
  have hbs : (s.toList == t.toList) = true := beq_iff_eq.2 hst
  have hu22 := Try.underlying22
  have hu23 := Try.underlying23
  have HB := Aside0.mk (below_alloc (below_alloc (Below.refl w.heap.size w) (.cells #[.string s, .string t] 22)) (.cells #[.int .i64 a, .int .i64 b] 23))
  have HR := Aside0.mk hr
  clear hr hst
  go_enter Try.func3, Try.ntmps3
  go_upto_region 1 with fail
  go_cut [7, 8, 9, 10] (fun v7 v8 v9 v10 wx => v7 = .string s ∧ v8 = .string t ∧ v9 = .int .i64 a ∧ v10 = .int .i64 b ∧ Aside0 (Below w.heap.size w wx))
  case first =>
    go_quiet (fail)
    go_wp2_with fail
    go_meet
    exact ⟨rfl, rfl, rfl, rfl, ⟨pw_below_drewN HB.out _⟩⟩
  obtain ⟨rfl, rfl, rfl, rfl, B0⟩ := hcut
  go_wp2_with (go_at_call 6; (with_reducible refine (styluslaw09_lives.calls _ _ HR.out).mono ?_); rintro e w10 ⟨rfl, hb⟩; have BZ := Aside0.mk (below_step B0.out hb); clear hb)
  go_ret
  exact ⟨rfl, BZ.out⟩
theorem styluslaw09_FolderMoves.calls (s t : ByteArray) (a b c : Int) (r : Bool) (w : World) (h : styluslaw09_FolderMoves.f s t a b c = some r) :
    Calls Try.prog 3 #[.agg #[.string s, .string t], .agg #[.int .i64 a, .int .i64 b], .int .i64 c] w fun e w' => e = .returned (.bool r) ∧ Below w.heap.size w w' := by
  unfold styluslaw09_FolderMoves.f at h
  by_cases hst : s.toList = t.toList
  · rw [if_pos hst] at h
    exact moves_same s t a b c r hst w h
  · rw [if_neg hst] at h
    split at h
    case isFalse => cases h
    case isTrue hc =>
      obtain ⟨hs, ht, ha, hb, hf, hok⟩ := hc
      unfold movesOk at hok
      simp only [Bool.and_eq_true, Bool.or_eq_true, Bool.not_eq_true', decide_eq_true_eq] at hok
      obtain ⟨⟨h1, h2⟩, h3⟩ := hok
      refine moves_end s t a b c _ _ _ r hst hs ht ha hb hf _ rfl w rfl h1 rfl rfl h3 ?_ h
      rcases h2 with ⟨⟨h4, h5⟩, h6⟩ | ⟨h4, h5⟩
      · exact .inl ⟨h4, beq_iff_eq.2 h5, beq_iff_eq.2 h6⟩
      · exact .inr ⟨h4, beq_iff_eq.2 h5⟩


/-- THE ONE PURE STATEMENT of styluslaw09_FolderMoves. -/
def styluslaw09_FolderMoves.Pure : Prop := ∀ (x0 : S22) (x1 : S23) (x2 : Int), B22 x0 → B23 x1 → (Lit.int .i64 x2).wf = true → styluslaw09_FolderMoves.f x0.f0 x0.f1 x1.f0 x1.f1 x2 = some true
/-! ### stylusref09_New: function 14 -/
def stylusref09_New.f  : Option ((List (List (S74)))) := some (([[]] : List (List (S74))))
set_option maxHeartbeats 8000000 in
set_option maxRecDepth 100000 in
theorem stylusref09_New.calls  (r : List (List (S74))) (w : World) (h : stylusref09_New.f  = some r) :
    Calls Try.prog 14 #[] w fun e w' => ∃ v0_ : Value, e = .returned (.agg #[v0_]) ∧ Kd.S (Kd.slice 74 k74) 45 w' w.heap.size (fun _ => True) v0_ r ∧ Below w.heap.size w w' := by
  have hu37 := Try.underlying37
  have HB := Aside0.mk (Below.refl w.heap.size w)
  have H : (some (([[]] : List (List (S74))))) = some r := h
  clear h
  obtain ⟨y102, hy102⟩ : ∃ y_ : List (List (S74)), y_ = (([[]] : List (List (S74)))) := ⟨_, rfl⟩
  replace H : (some y102) = some r := by first | (rw [hy102]; with_reducible exact H) | (have H2_ := (Option.bind_some _ _).symm.trans H; rw [hy102]; with_reducible exact H2_) | (have H2_ := (Option.bind_some _ _).symm.trans H; with_reducible exact H2_) | with_reducible exact H | (rw [hy102]; exact H) | exact H
  have Ny102 := Aside0.mk hy102
  clear hy102
  obtain rfl := Option.some.inj H
  go_enter Try.func14, Try.ntmps14
  go_wp2_with (first | ((with_reducible refine gate_dst (N := 0) rfl ?_); refine box_event ?hg (N := 0) ?hd (cs := #[.slice none 0 0]) (t := 37) ?hr ?_; (case hd => rfl); (case hg => rfl); (case hr => first | (go_simp; done) | (go_simp; rfl)); intro gb101 hg w1 hbox hb; have n0_ := Aside0.mk (below_step (by repeat (first | (with_reducible first | exact HB.out | apply below_alloc | apply pw_below_drewN | apply below_drew1) | exact HB.out)) hb); have n1_ := Aside0.mk (hbox); have n2_ := Aside0.mk ((by rw [hg]; exact (below_size (by repeat (first | (with_reducible first | exact HB.out | apply below_alloc | apply pw_below_drewN | apply below_drew1) | exact HB.out))) : w.heap.size ≤ gb101)); have n3_ := Aside0.mk ((by rw [hg]; exact (below_size (by repeat (first | (with_reducible first | exact HB.out | apply below_alloc | apply pw_below_drewN | apply below_drew1) | exact HB.out))) : w.heap.size ≤ gb101)); clear HB; have HB := n0_; have BK101 := n1_; have GW101 := n2_; have GE101 := n3_; clear n0_ n1_ n2_ n3_; clear hb hbox hg) | ((with_reducible refine gate_dst (N := 1) rfl ?_); refine Kd.S_lit (Kd.slice 74 k74) _ 45 ?hg (N := 1) ?hd (xs := ([[]] : List (List (S74)))) (inner := [.slice none 0 0]) (ok := fun _ => True) (okp := fun _ => True) ?hr ?hp (fun _ hk => hk) trivial (Below.refl _ _) (Nat.le_refl _) (by simp) ?_; (case hd => rfl); (case hg => rfl); (case hr => first | (go_simp; done) | (go_simp; rfl)); (case hp => exact (Reps.one (show Kd.M (Kd.slice 74 k74) _ _ _ [] [.slice none 0 0] from ⟨_, rfl, Kd.R_nil _ _ _ _ _⟩) (Reps.none _ _))); intro v103 w2 ho3 hb hg_ hnew_; clear hg_ hnew_; (first | rw [← Ny102.out] at ho3 | (simp only [Int.reduceToNat] at ho3; rw [← Ny102.out] at ho3)); have n0_ := Aside0.mk (Kd.S_lower ho3 (below_size (by repeat (first | (with_reducible first | exact HB.out | apply below_alloc | apply pw_below_drewN | apply below_drew1 | refine below_set ?_ GE101.out) | exact HB.out)))); have n1_ := Aside0.mk (blk_below (g := gb101) (o := .cells #[.slice none 0 0] 37 (0, 0)) (by (with_reducible repeat (first | refine blk_drewN ?_ _ | refine blk_drew ?_ | refine blk_alloc ?_ _)); exact BK101.out) hb); have n2_ := Aside0.mk (below_step (by repeat (first | (with_reducible first | exact HB.out | apply below_alloc | apply pw_below_drewN | apply below_drew1 | refine below_set ?_ GE101.out) | exact HB.out)) hb); clear BK101; clear HB; have HO104 := n0_; have BK101 := n1_; have HB := n2_; clear n0_ n1_ n2_; clear hb ho3; obtain ⟨Ao4, co4, eo4⟩ := Kd.S_slice HO104.out; subst eo4; have hcz5_0 : w2.cell? ⟨gb101, 0, none⟩ = some (.slice none 0 0) := (blk_cell BK101.out 0).trans rfl; have hfz5_0 := blk_frozen BK101.out 0))
  refine bodyPost_ret (results_cell_row rfl _ _ gb101 37 #[.slice Ao4 y102.length co4] (0, 0) _ rfl (by (with_reducible repeat (first | refine blk_drewN ?_ _ | refine blk_drew ?_ | refine blk_alloc ?_ _)); refine blk_put (cs := #[.slice none 0 0]) ?_ 0 _ rfl; (with_reducible repeat (first | refine blk_drewN ?_ _ | refine blk_drew ?_ | refine blk_alloc ?_ _)); exact BK101.out) Try.underlying37 rfl (by kernel_rfl)) rfl ?_
  exact ⟨_, by first | rfl | (simp [errW_none, errW_some] <;> rfl) | (simp [*, errW_none, errW_some] <;> rfl), by (with_reducible repeat (first | apply Kd.S_alloc | apply Kd.S_drewN | apply Kd.S_drew)); exact Kd.S_mono (Kd.S_far (p := ⟨gb101, 0, none⟩) (Kd.S_types HO104.out BK101.out (by decide)) (fun _ hk => hk.2) (.slice Ao4 y102.length co4)) (fun _ hk => trivial), by repeat (first | (with_reducible first | exact HB.out | apply below_alloc | apply pw_below_drewN | apply below_drew1 | refine below_set ?_ GE101.out) | exact HB.out)⟩

/-! ### slices_Clone__folder_change_folder_change: function 28 -/
-- NEEDS (*stylus/folder.Folder).do
-- slices.Clone of a row of flat structs: a row of its own
def slices_Clone__folder_change_folder_change.f (l : List Chg) : Option (List Chg) := if l.length ≤ 1000000 then some l else none
set_option maxHeartbeats 8000000 in
set_option maxRecDepth 100000 in
theorem slices_Clone__folder_change_folder_change.calls (A0 : Option Addr) (c0 : Nat) (l0 : List Chg) (r : List Chg) (w : World) (hr0 : Kd.C kChg w A0 l0.length l0) (hc0 : l0.length ≤ c0) (h : slices_Clone__folder_change_folder_change.f l0 = some r) :
    Calls Try.prog 28 #[.slice A0 l0.length c0] w fun e w' => ∃ v0_ : Value, e = .returned v0_ ∧ Kd.R kChg 60 w' w.heap.size (fun _ => True) v0_ r ∧ Below w.heap.size w w' := by
  unfold slices_Clone__folder_change_folder_change.f at h
  by_cases hl : l0.length ≤ 1000000
  · rw [if_pos hl] at h
    obtain rfl := Option.some.inj h
    have HC := Aside0.mk hr0
    have HL := Aside0.mk hl
    cases A0 with
    | none =>
      have h0 : l0 = [] := by
        rcases Nat.eq_zero_or_pos l0.length with h0 | h0
        · exact List.eq_nil_of_length_eq_zero h0
        · obtain ⟨ad, h, _⟩ := hr0.2.2 h0
          cases h
      clear hr0 hl hc0 h
      have hq : ∀ (n c : Nat) (W : World), (binOp .eql 50 (.slice none n c) (.slice none 0 0)).run Try.prog W = .ok (.bool true) W := fun n c W => by kernel_rfl
      go_enter Try.func28, Try.ntmps28
      go_wp2_with fail
      go_ret
      rw [h0]
      exact ⟨_, rfl, Kd.R_nil _ _ _ _ _, Below.refl _ _⟩
    | some ad =>
      clear hr0 hl hc0 h
      have hq : ∀ (n c : Nat) (W : World), (binOp .eql 50 (.slice (some ad) n c) (.slice none 0 0)).run Try.prog W = .ok (.bool false) W := fun n c W => by kernel_rfl
      go_enter Try.func28, Try.ntmps28
      go_wp2_with (first
        | ((with_reducible refine gate_dst (N := 5) rfl ?_); refine Kd.R_lit kChg (w0 := w) w.heap.size 60 ?hg (N := 5) ?hd (xs := ([] : List Chg)) (inner := []) (ok := fun _ => True) (okp := fun _ => True) ?hr ?hp (fun _ hk => hk) trivial (Below.refl _ _) (Nat.le_refl _) (by simp) ?_; (case hd => rfl); (case hg => rfl); (case hr => first | (go_simp; done) | (go_simp; rfl)); (case hp => exact (Reps.none _ _)); intro v5 w2 ho hb hg_ hnew_; have HO := Aside0.mk ho; have HB := Aside0.mk hb; clear hg_ ho hb hnew_)
        | ((with_reducible refine gate_builtin (b := .append) (xs := #[.tmp 5, .tmp 6]) rfl ?_); (try (refine gate_guard (by rfl) ?_; dsimp only)); at_builtin; refine Kd.R_append_rows kChg (Rr := kChg.K w2) (w0 := w) w.heap.size rfl (.tmp 5) (.tmp 6) 50 60 (.agg #[.bool false, .string ⟨#[]⟩, .bool false, .string ⟨#[]⟩, .int .i64 0]) 56 rfl Try.underlying50 infoChg rfl (by decide) (by decide) v5 [] l0 (some ad) l0.length c0 (fun _ => True) (fun _ => False) rfl rfl HO.out (Kd.C_below HC.out HB.out) (fun _ _ h => h) (fun _ hk => hk.elim) (fun _ _ => trivial) HB.out HB.out.size (by have := HL.out; simp only [List.length_nil]; omega) ?_; intro v7 w3 hN hb3 hg3 hat3; clear hg3 hat3))
      go_ret
      exact ⟨_, rfl, hN, hb3⟩
  · rw [if_neg hl] at h
    cases h

/-! ### folder_Folder_Copy: function 15 -/
-- NEEDS (*stylus/folder.Folder).settle slices.Clone[[]stylus/folder.change,stylus/folder.change]
theorem nm_below {W W' : World} {b : Nat} {L : Nms} (h : Nm W b L) (hb : Below W.heap.size W W') : Nm W' b L := by
  obtain ⟨es, clock, hh, F, hs, hD⟩ := h
  exact ⟨es, clock, (hb.block b (Array.getElem?_eq_some_iff.1 hh).1).trans hh, F, hs, hD⟩
set_option maxHeartbeats 8000000 in
set_option maxRecDepth 100000 in
theorem folder_Folder_Copy.calls (S : Nat → Prop) (b : Nat) (L0 L : Nms) (cs : List Chg) (hl : cs.length ≤ 1000000) (w : World) (h : Fo w S b L0 L cs) :
    Calls Try.prog 15 #[.pointer (some ⟨b, 0, none⟩)] w fun e w' => ∃ b', e = .returned (.pointer (some ⟨b', 0, none⟩)) ∧ Fo w' (fun k => w.heap.size ≤ k) b' L0 L cs ∧ Below w.heap.size w w' := by
  have huF := Try.underlying52
  have huP := Try.underlying25
  obtain ⟨kb, nb, A, cap, hb, _, hne, hk, hn, hR, hok⟩ := h
  have KG := Aside0.mk hb
  have HK := Aside0.mk hk
  have HN := Aside0.mk hn
  have HR := Aside0.mk hR
  have HOK := Aside0.mk hok
  have HF := Aside0.mk (show slices_Clone__folder_change_folder_change.f cs = some cs from if_pos hl)
  clear hb hk hn hR hok hne hl
  go_enter Try.func15, Try.ntmps15
  go_upto_region 3 with fail
  refine start_ (n := 22) (S := fun w' => w'.cell? ⟨b, 0, none⟩ = some (.map (some kb)) ∧ w'.cell? ⟨b, 1, none⟩ = some (.map (some nb)) ∧ w'.cell? ⟨b, 2, none⟩ = some (.slice A cs.length cap) ∧ w'.cell? ⟨b, 3, none⟩ = some (.bool true)) (ds := []) #[false, false, false, false, false, false, false, false, false, false, false, false, false, false, false, false, false, false, false, false, false, false] (by kernel_rfl) rfl rfl ⟨(blk_cell (blk_drew KG.out) 0).trans rfl, (blk_cell (blk_drew KG.out) 1).trans rfl, (blk_cell (blk_drew KG.out) 2).trans rfl, (blk_cell (blk_drew KG.out) 3).trans rfl⟩ (fun hHeld => ?_)
  refine pure_ (i := 0) (N := some 5) (v := ?_) (a' := ?_) #[true, false, false, false, false, false, false, false, false, false, false, false, false, false, false, false, false, false, false, false, false, false] rfl rfl (by kernel_rfl) (fun _ _ _ h => h) (Or.inl ⟨by rfl, ?_⟩) ?_ ?_
  rotate_left
  · intro w'
    go_simp
    with_reducible rfl
  rotate_left
  · simp only [Act.put, List.setIfInBounds_toArray, List.set_cons_zero, List.set_cons_succ, i64_w, i32_w]
    rfl
  refine pure_ (i := 1) (N := some 6) (v := ?_) (a' := ?_) #[true, true, false, false, false, false, false, false, false, false, false, false, false, false, false, false, false, false, false, false, false, false] rfl rfl (by kernel_rfl) (fun _ _ _ h => h) (Or.inl ⟨by rfl, ?_⟩) ?_ ?_
  rotate_left
  · intro w'
    go_simp
    with_reducible rfl
  rotate_left
  · simp only [Act.put, List.setIfInBounds_toArray, List.set_cons_zero, List.set_cons_succ, i64_w, i32_w]
    rfl
  refine pure_ (i := 2) (N := some 7) (v := ?_) (a' := ?_) #[true, true, true, false, false, false, false, false, false, false, false, false, false, false, false, false, false, false, false, false, false, false] rfl rfl (by kernel_rfl) (fun _ _ _ h => h) (Or.inl ⟨by rfl, ?_⟩) ?_ ?_
  rotate_left
  · intro w'
    go_simp
    with_reducible rfl
  rotate_left
  · simp only [Act.put, List.setIfInBounds_toArray, List.set_cons_zero, List.set_cons_succ, i64_w, i32_w]
    rfl
  refine pure_ (i := 5) (N := some 10) (v := ?_) (a' := ?_) #[true, true, true, false, false, true, false, false, false, false, false, false, false, false, false, false, false, false, false, false, false, false] rfl rfl (by kernel_rfl) (fun _ _ _ h => h) (Or.inl ⟨by rfl, ?_⟩) ?_ ?_
  rotate_left
  · intro w'
    go_simp
    with_reducible rfl
  rotate_left
  · simp only [Act.put, List.setIfInBounds_toArray, List.set_cons_zero, List.set_cons_succ, i64_w, i32_w]
    rfl
  refine pure_ (i := 6) (N := some 11) (v := ?_) (a' := ?_) #[true, true, true, false, false, true, true, false, false, false, false, false, false, false, false, false, false, false, false, false, false, false] rfl rfl (by kernel_rfl) (fun _ _ _ h => h) (Or.inl ⟨by rfl, ?_⟩) ?_ ?_
  rotate_left
  · intro w'
    go_simp
    with_reducible rfl
  rotate_left
  · simp only [Act.put, List.setIfInBounds_toArray, List.set_cons_zero, List.set_cons_succ, i64_w, i32_w]
    rfl
  refine pure_ (i := 7) (N := some 12) (v := ?_) (a' := ?_) #[true, true, true, false, false, true, true, true, false, false, false, false, false, false, false, false, false, false, false, false, false, false] rfl rfl (by kernel_rfl) (fun _ _ _ h => h) (Or.inl ⟨by rfl, ?_⟩) ?_ ?_
  rotate_left
  · intro w'
    go_simp
    with_reducible rfl
  rotate_left
  · simp only [Act.put, List.setIfInBounds_toArray, List.set_cons_zero, List.set_cons_succ, i64_w, i32_w]
    rfl
  refine pure_ (i := 10) (N := some 15) (v := ?_) (a' := ?_) #[true, true, true, false, false, true, true, true, false, false, true, false, false, false, false, false, false, false, false, false, false, false] rfl rfl (by kernel_rfl) (fun _ _ _ h => h) (Or.inl ⟨by rfl, ?_⟩) ?_ ?_
  rotate_left
  · intro w'
    go_simp
    with_reducible rfl
  rotate_left
  · simp only [Act.put, List.setIfInBounds_toArray, List.set_cons_zero, List.set_cons_succ, i64_w, i32_w]
    rfl
  refine pure_ (i := 11) (N := some 16) (v := ?_) (a' := ?_) #[true, true, true, false, false, true, true, true, false, false, true, true, false, false, false, false, false, false, false, false, false, false] rfl rfl (by kernel_rfl) (fun _ _ _ h => h) (Or.inl ⟨by rfl, ?_⟩) ?_ ?_
  rotate_left
  · intro w'
    go_simp
    with_reducible rfl
  rotate_left
  · simp only [Act.put, List.setIfInBounds_toArray, List.set_cons_zero, List.set_cons_succ, i64_w, i32_w]
    rfl
  refine pure_ (i := 12) (N := some 17) (v := ?_) (a' := ?_) #[true, true, true, false, false, true, true, true, false, false, true, true, true, false, false, false, false, false, false, false, false, false] rfl rfl (by kernel_rfl) (fun _ _ _ h => h) (Or.inl ⟨by rfl, ?_⟩) ?_ ?_
  rotate_left
  · intro w'
    go_simp
    with_reducible rfl
  rotate_left
  · simp only [Act.put, List.setIfInBounds_toArray, List.set_cons_zero, List.set_cons_succ, i64_w, i32_w]
    rfl
  refine pure_ (i := 15) (N := some 20) (v := ?_) (a' := ?_) #[true, true, true, false, false, true, true, true, false, false, true, true, true, false, false, true, false, false, false, false, false, false] rfl rfl (by kernel_rfl) (fun _ _ _ h => h) (Or.inl ⟨by rfl, ?_⟩) ?_ ?_
  rotate_left
  · intro w'
    go_simp
    with_reducible rfl
  rotate_left
  · simp only [Act.put, List.setIfInBounds_toArray, List.set_cons_zero, List.set_cons_succ, i64_w, i32_w]
    rfl
  refine pure_ (i := 16) (N := some 21) (v := ?_) (a' := ?_) #[true, true, true, false, false, true, true, true, false, false, true, true, true, false, false, true, true, false, false, false, false, false] rfl rfl (by kernel_rfl) (fun _ _ _ h => h) (Or.inl ⟨by rfl, ?_⟩) ?_ ?_
  rotate_left
  · intro w'
    go_simp
    with_reducible rfl
  rotate_left
  · simp only [Act.put, List.setIfInBounds_toArray, List.set_cons_zero, List.set_cons_succ, i64_w, i32_w]
    rfl
  refine pure_ (i := 17) (N := some 22) (v := ?_) (a' := ?_) #[true, true, true, false, false, true, true, true, false, false, true, true, true, false, false, true, true, true, false, false, false, false] rfl rfl (by kernel_rfl) (fun _ _ _ h => h) (Or.inl ⟨by rfl, ?_⟩) ?_ ?_
  rotate_left
  · intro w'
    go_simp
    with_reducible rfl
  rotate_left
  · simp only [Act.put, List.setIfInBounds_toArray, List.set_cons_zero, List.set_cons_succ, i64_w, i32_w]
    rfl
  refine take_ (i := 3) (N := some 8) (v := ?_) (a' := ?_) #[true, true, true, true, false, true, true, true, false, false, true, true, true, false, false, true, true, true, false, false, false, false] rfl rfl (by kernel_rfl) (fun _ _ _ h => h) (Or.inl ⟨by rfl, ?_⟩) hHeld ?_ ?_
  rotate_left
  · rintro w' ⟨s0, s1, s2, s3⟩
    go_simp
    with_reducible rfl
  rotate_left
  · simp only [Act.put, List.setIfInBounds_toArray, List.set_cons_zero, List.set_cons_succ, i64_w, i32_w]
    rfl
  refine take_ (i := 8) (N := some 13) (v := ?_) (a' := ?_) #[true, true, true, true, false, true, true, true, true, false, true, true, true, false, false, true, true, true, false, false, false, false] rfl rfl (by kernel_rfl) (fun _ _ _ h => h) (Or.inl ⟨by rfl, ?_⟩) hHeld ?_ ?_
  rotate_left
  · rintro w' ⟨s0, s1, s2, s3⟩
    go_simp
    with_reducible rfl
  rotate_left
  · simp only [Act.put, List.setIfInBounds_toArray, List.set_cons_zero, List.set_cons_succ, i64_w, i32_w]
    rfl
  refine take_ (i := 13) (N := some 18) (v := ?_) (a' := ?_) #[true, true, true, true, false, true, true, true, true, false, true, true, true, true, false, true, true, true, false, false, false, false] rfl rfl (by kernel_rfl) (fun _ _ _ h => h) (Or.inl ⟨by rfl, ?_⟩) hHeld ?_ ?_
  rotate_left
  · rintro w' ⟨s0, s1, s2, s3⟩
    go_simp
    with_reducible rfl
  rotate_left
  · simp only [Act.put, List.setIfInBounds_toArray, List.set_cons_zero, List.set_cons_succ, i64_w, i32_w]
    rfl
  refine take_ (i := 18) (N := some 23) (v := ?_) (a' := ?_) #[true, true, true, true, false, true, true, true, true, false, true, true, true, true, false, true, true, true, true, false, false, false] rfl rfl (by kernel_rfl) (fun _ _ _ h => h) (Or.inl ⟨by rfl, ?_⟩) hHeld ?_ ?_
  rotate_left
  · rintro w' ⟨s0, s1, s2, s3⟩
    go_simp
    with_reducible rfl
  rotate_left
  · simp only [Act.put, List.setIfInBounds_toArray, List.set_cons_zero, List.set_cons_succ, i64_w, i32_w]
    rfl
  refine one_ (i := 4) (N := some 9) #[true, true, true, true, true, true, true, true, true, false, true, true, true, true, false, true, true, true, true, false, false, false] rfl rfl (by kernel_rfl) (by decide) (fun K hK => ?_)
  refine goes_ Try.func27 (by kernel_rfl) rfl #[.map (some kb)] (by rfl) rfl rfl (by (try simp only [List.map_toArray, List.map_cons, List.map_nil]); first | done | rfl) ?_
  with_reducible refine (nm_clone kb L0 _ HK.out.drew).mono ?_
  rintro e w5 ⟨rfl, hn5, _, hb5⟩
  refine ⟨_, rfl, ?_⟩
  have KG5 := Aside0.mk (blk_below (blk_drew KG.out) hb5)
  have HC := Aside0.mk (show Nm w5 w.heap.size L0 from hn5)
  have HN5 := Aside0.mk (nm_below HN.out.drew hb5)
  have HR5 := Aside0.mk (Kd.R_below (Kd.R_drew HR.out) hb5)
  have HB5 := Aside0.mk (below_step (below_drew (Below.refl _ w)) hb5)
  have HS5 := Aside0.mk (show w.heap.size < w5.heap.size from hn5.lt)
  clear hn5 hb5 KG HK HN HR
  refine hK.out _ _ ⟨(blk_cell (KG5.out) 0).trans rfl, (blk_cell (KG5.out) 1).trans rfl, (blk_cell (KG5.out) 2).trans rfl, (blk_cell (KG5.out) 3).trans rfl⟩ (fun hHeld => ?_)
  clear hK K
  refine norm_ (a' := ?_) ?_ ?_
  rotate_left
  · show Act.put _ (some 9) _ = _
    simp only [Act.put, List.setIfInBounds_toArray, List.set_cons_zero, List.set_cons_succ, i64_w, i32_w]
    rfl
  refine one_ (i := 9) (N := some 14) #[true, true, true, true, true, true, true, true, true, true, true, true, true, true, false, true, true, true, true, false, false, false] rfl rfl (by kernel_rfl) (by decide) (fun K hK => ?_)
  refine goes_ Try.func27 (by kernel_rfl) rfl #[.map (some nb)] (by rfl) rfl rfl (by (try simp only [List.map_toArray, List.map_cons, List.map_nil]); first | done | rfl) ?_
  with_reducible refine (nm_clone nb L _ HN5.out).mono ?_
  rintro e w6 ⟨rfl, hn6, _, hb6⟩
  refine ⟨_, rfl, ?_⟩
  have KG6 := Aside0.mk (blk_below KG5.out hb6)
  have HC6 := Aside0.mk (nm_below HC.out hb6)
  have HD6 := Aside0.mk hn6
  have HR6 := Aside0.mk (Kd.R_below HR5.out hb6)
  have HB6 := Aside0.mk (below_step HB5.out hb6)
  clear hn6 hb6 KG5 HC HN5 HR5 HB5
  refine hK.out _ _ ⟨(blk_cell (KG6.out) 0).trans rfl, (blk_cell (KG6.out) 1).trans rfl, (blk_cell (KG6.out) 2).trans rfl, (blk_cell (KG6.out) 3).trans rfl⟩ (fun hHeld => ?_)
  clear hK K
  refine norm_ (a' := ?_) ?_ ?_
  rotate_left
  · show Act.put _ (some 14) _ = _
    simp only [Act.put, List.setIfInBounds_toArray, List.set_cons_zero, List.set_cons_succ, i64_w, i32_w]
    rfl
  refine one_ (i := 14) (N := some 19) #[true, true, true, true, true, true, true, true, true, true, true, true, true, true, true, true, true, true, true, false, false, false] rfl rfl (by kernel_rfl) (by decide) (fun K hK => ?_)
  refine goes_ Try.func28 (by kernel_rfl) rfl #[.slice A cs.length cap] (by rfl) rfl rfl (by (try simp only [List.map_toArray, List.map_cons, List.map_nil]); first | done | rfl) ?_
  with_reducible refine (slices_Clone__folder_change_folder_change.calls A cap cs cs _ (Kd.R_reads' HR6.out).2.2 (Kd.R_reads' HR6.out).2.1 HF.out).mono ?_
  rintro e w7 ⟨v19, rfl, hR7, hb7⟩
  refine ⟨_, rfl, ?_⟩
  obtain ⟨A7, c7, rfl⟩ := Kd.R_slice hR7
  have KG7 := Aside0.mk (blk_below KG6.out hb7)
  have HC7 := Aside0.mk (nm_below HC6.out hb7)
  have HD7 := Aside0.mk (nm_below HD6.out hb7)
  have HR7 := Aside0.mk (Kd.R_mono (Kd.R_lower (Kd.R_mono (ok' := fun k => w.heap.size ≤ k) (Kd.R_bound hR7) (fun k hk => Nat.le_trans HB6.out.size hk.2.1)) (Nat.zero_le _)) (fun k hk => hk))
  have HB7 := Aside0.mk (below_step HB6.out hb7)
  clear hR7 hb7 KG6 HC6 HD6 HR6 HB6
  refine hK.out _ _ ⟨(blk_cell (KG7.out) 0).trans rfl, (blk_cell (KG7.out) 1).trans rfl, (blk_cell (KG7.out) 2).trans rfl, (blk_cell (KG7.out) 3).trans rfl⟩ (fun hHeld => ?_)
  clear hK K
  refine norm_ (a' := ?_) ?_ ?_
  rotate_left
  · show Act.put _ (some 19) _ = _
    simp only [Act.put, List.setIfInBounds_toArray, List.set_cons_zero, List.set_cons_succ, i64_w, i32_w]
    rfl
  refine pure_ (i := 19) (N := some 24) (v := ?_) (a' := ?_) #[true, true, true, true, true, true, true, true, true, true, true, true, true, true, true, true, true, true, true, true, false, false] rfl rfl (by kernel_rfl) (fun _ _ _ h => h) (Or.inl ⟨by rfl, ?_⟩) ?_ ?_
  rotate_left
  · intro w'
    go_simp
    with_reducible rfl
  rotate_left
  · simp only [Act.put, List.setIfInBounds_toArray, List.set_cons_zero, List.set_cons_succ, i64_w, i32_w]
    rfl
  refine one_ (i := 20) (N := some 25) #[true, true, true, true, true, true, true, true, true, true, true, true, true, true, true, true, true, true, true, true, true, false] rfl rfl (by kernel_rfl) (by decide) (fun K hK => ?_)
  refine value_ (w1 := ?_) (v := ?_) (by rfl) rfl ?_ ?_
  rotate_left 2
  · go_simp
    constructor
    · rfl
    · rfl
  refine hK.out _ _ ⟨(blk_cell (blk_alloc KG7.out _) 0).trans rfl, (blk_cell (blk_alloc KG7.out _) 1).trans rfl, (blk_cell (blk_alloc KG7.out _) 2).trans rfl, (blk_cell (blk_alloc KG7.out _) 3).trans rfl⟩ (fun hHeld => ?_)
  clear hK K
  refine norm_ (a' := ?_) ?_ ?_
  rotate_left
  · show Act.put _ (some 25) _ = _
    simp only [Act.put, List.setIfInBounds_toArray, List.set_cons_zero, List.set_cons_succ, i64_w, i32_w]
    rfl
  refine pure_ (i := 21) (N := some 2) (v := ?_) (a' := ?_) #[true, true, true, true, true, true, true, true, true, true, true, true, true, true, true, true, true, true, true, true, true, true] rfl rfl (by kernel_rfl) (fun _ _ _ h => h) (Or.inl ⟨by rfl, ?_⟩) ?_ ?_
  rotate_left
  · intro w'
    go_simp
    with_reducible rfl
  rotate_left
  · simp only [Act.put, List.setIfInBounds_toArray, List.set_cons_zero, List.set_cons_succ, i64_w, i32_w]
    rfl
  refine done_ (by kernel_rfl) ?_
  go_wp2_with fail
  go_ret
  have e8 := heap_alloc_new w7 (.cells #[.map (some w.heap.size), .map (some w5.heap.size), .slice A7 cs.length c7, .bool true] 52)
  have h5 := HS5.out
  have h7 := HB7.out.size
  refine ⟨_, rfl, ⟨w.heap.size, w5.heap.size, A7, c7, e8, ⟨h7, Nat.le_refl _, Nat.le_of_lt h5⟩, by omega, HC7.out.alloc _, HD7.out.alloc _, Kd.R_alloc HR7.out _, HOK.out⟩, below_alloc HB7.out _⟩

/-! ### folder_Folder_Drop: function 20 -/
-- NEEDS (*stylus/folder.Folder).Put
theorem folder_Folder_Drop.nob (p : Value) (s : ByteArray) (w : World) (h : Nob w p) :
    Calls Try.prog 20 #[p, .string s] w fun e w' => e = .returned (.bool false) ∧ w' = w := by
  go_enter Try.func20, Try.ntmps20
  go_wp2_with (go_at_call 12; (with_reducible refine (folder_Folder_Find.nob p s _ h).mono ?_); rintro e w2 ⟨rfl, rfl⟩)
  go_ret
  exact ⟨rfl, rfl⟩
set_option maxHeartbeats 4000000 in
theorem folder_Folder_Drop.calls (S : Nat → Prop) (b : Nat) (L0 L : Nms) (cs : List Chg) (s : ByteArray) (hs : s.size ≤ maxLen) (hl : L.length ≤ 1000000) (hl2 : cs.length ≤ 1000000) (w : World) (h : Fo w S b L0 L cs) :
    Calls Try.prog 20 #[.pointer (some ⟨b, 0, none⟩), .string s] w fun e w' => e = .returned (.bool (nmHas L s.data.toList)) ∧
      Fo w' (fun k => S k ∨ w.heap.size ≤ k) b L0 (if nmHas L s.data.toList = true then nmDel L s.data.toList else L) (if nmHas L s.data.toList = true then cs ++ [⟨true, s, false, ⟨#[]⟩, 0⟩] else cs) ∧ Kep w w' S := by
  have HF := Aside0.mk (folder_Folder_Find.calls S b L0 L cs s hs w h)
  have HW := Aside0.mk (h.wide (S' := fun k => S k ∨ w.heap.size ≤ k) (fun k hk => .inl hk))
  have HD := Aside0.mk (folder_Folder_do.calls S b L0 L cs ⟨true, s, false, ⟨#[]⟩, 0⟩ ⟨hs, Nat.zero_le _, rfl⟩ hl hl2 w h)
  clear h hl hl2 hs
  cases hh : nmHas L s.data.toList with
  | false =>
    go_enter Try.func20, Try.ntmps20
    go_wp2_with (go_at_call 12; (with_reducible refine HF.out.mono ?_); rintro e w2 ⟨⟨rfl, _⟩, rfl⟩; rw [hh])
    go_ret
    exact ⟨rfl, HW.out, Kep.refl _ _⟩
  | true =>
    go_enter Try.func20, Try.ntmps20
    go_wp2_with (first
      | (go_at_call 12; (with_reducible refine HF.out.mono ?_); rintro e w2 ⟨⟨rfl, _⟩, rfl⟩; rw [hh])
      | (go_at_call 25; (with_reducible refine HD.out.mono ?_); rintro e w3 ⟨⟨v3, rfl⟩, hf3, hk3⟩))
    go_ret
    exact ⟨rfl, hf3, hk3⟩

/-! ### stylusref09_Find: function 18 -/
def stylusref09_Find.l0 : Nat → List (S74) → ByteArray → Int → Option (Int × Bool)
  | 0, _, _, _ => none
  | k + 1, x0, x1, x6 => if x6 < (x0.length : Int) then (if 0 ≤ x6 then (if ((rd_T74 x0 x6).f0).toList = x1.toList then (some ((rd_T74 x0 x6).f1, true)) else (stylusref09_Find.l0 k x0 x1 (wrap64 (x6 + 1)))) else (none)) else (some (0, false))
def stylusref09_Find.f (k : Nat) (l0 : List (S74)) (a1 : ByteArray) : Option (Int × Bool) := stylusref09_Find.l0 k l0 a1 0
theorem stylusref09_Find.mono_l : ∀ k, (∀ y0 y1 y2, LeO (stylusref09_Find.l0 k y0 y1 y2) (stylusref09_Find.l0 (k + 1) y0 y1 y2))
  | 0 => fun _ _ _ r h => by simp [stylusref09_Find.l0] at h
  | k + 1 => by
    have ih0 := stylusref09_Find.mono_l k
    · intro y0 y1 y2
      unfold stylusref09_Find.l0
      repeat' first
      | (with_reducible exact ih0 _ _ _)
      | (with_reducible exact LeO.refl _)
      | (with_reducible exact LeO.none _)
      | (with_reducible refine LeO.ite ?_ ?_)
      | (with_reducible refine LeO.bind ?_ (fun _ => ?_))
      | exact ih0 _ _ _
      | exact LeO.none _
      | refine LeO.ite ?_ ?_
      | refine LeO.bind ?_ (fun _ => ?_)
theorem stylusref09_Find.mono : ∀ a0 a1 k, LeO (stylusref09_Find.f k a0 a1) (stylusref09_Find.f (k + 1) a0 a1) := by
  intro a0 a1 k
  have ih0 := stylusref09_Find.mono_l k
  unfold stylusref09_Find.f
  repeat' first
      | (with_reducible exact ih0 _ _ _)
      | (with_reducible exact LeO.refl _)
      | (with_reducible exact LeO.none _)
      | (with_reducible refine LeO.ite ?_ ?_)
      | (with_reducible refine LeO.bind ?_ (fun _ => ?_))
      | exact ih0 _ _ _
      | exact LeO.none _
      | refine LeO.ite ?_ ?_
      | refine LeO.bind ?_ (fun _ => ?_)
set_option maxHeartbeats 8000000 in
set_option maxRecDepth 100000 in
theorem stylusref09_Find.calls (k : Nat) (A0 : Option Addr) (c0 : Nat) (l0 : List (S74)) (a1 : ByteArray) (r1 : Int) (r2 : Bool) (w : World) (hr0 : Kd.C k74 w A0 l0.length l0) (hc0 : l0.length ≤ c0) (h : stylusref09_Find.f k l0 a1 = some (r1, r2)) :
    Calls Try.prog 18 #[.slice A0 l0.length c0, .string a1] w fun e w' => e = .returned (.tuple #[.int .i64 r1, .bool r2]) ∧ Drawn0 w w' := by
  have HR0 := Aside0.mk hr0
  have HC0 := Aside0.mk hc0
  clear hr0 hc0
  have H : (stylusref09_Find.l0 k l0 a1 0) = some (r1, r2) := h
  clear h
  have H' := Aside0.mk H
  clear H
  go_enter Try.func18, Try.ntmps18
  go_wp2
  go_loopg [6] k (fun kq v6 w' => ∃ (x6_1 : Int), v6 = .int .i64 x6_1 ∧ Aside0 (stylusref09_Find.l0 kq l0 a1 x6_1 = some (r1, r2)) ∧ Aside0 (kq ≤ k) ∧ Drawn0 w w')
  case atStart => exact ⟨(0), (by first | rfl | (simp; done) | (simp [*]; done)), H', ⟨Nat.le_refl _⟩, by repeat (first | exact Drawn0.refl _ | apply Drawn0.step)⟩
  case round =>
    clear H'
    try clear c1
    try clear p2
    obtain ⟨x6_1, rfl, HA, HK1, ⟨m1, rfl⟩⟩ := hrel
    cases gk with
    | zero => exact absurd HA.out (by simp [stylusref09_Find.l0])
    | succ k1 =>
      have H := HA.out
      clear HA
      simp only [stylusref09_Find.l0] at H
      by_cases c3 : x6_1 < (l0.length : Int)
      · rw [if_pos c3] at H
        have c3b0 : decide (x6_1 < (l0.length : Int)) = true := decide_eq_true c3
        clear c3
        by_cases c4 : 0 ≤ x6_1
        · rw [if_pos c4] at H
          have c4b0 : decide (0 ≤ x6_1) = true := decide_eq_true c4
          clear c4
          by_cases c5 : ((rd_T74 l0 x6_1).f0).toList = a1.toList
          · rw [if_pos c5] at H
            have c5b0 : (((rd_T74 l0 x6_1).f0).toList == a1.toList) = true := beq_iff_eq.mpr c5
            have c5b1 : (((rd_T74 l0 x6_1).f0).toList != a1.toList) = false := bne_eq_false_iff_eq.mpr c5
            clear c5
            simp only [Option.some.injEq, Prod.mk.injEq] at H
            obtain ⟨rfl, rfl⟩ := H
            have p105 : 0 ≤ (x6_1 : Int) := of_decide_eq_true (by first | (with_reducible assumption) | assumption)
            have q105 : x6_1 < (l0.length : Int) := of_decide_eq_true (by first | (with_reducible assumption) | assumption)
            obtain ⟨ad105, e105, hx105_0, hx105_1⟩ := at_T74 HR0.out x6_1 p105 q105
            cases e105
            replace p105 := eq_true p105
            replace q105 := eq_true q105
            have p106 : 0 ≤ (x6_1 : Int) := of_decide_eq_true (by first | (with_reducible assumption) | assumption)
            have q106 : x6_1 < (l0.length : Int) := of_decide_eq_true (by first | (with_reducible assumption) | assumption)
            obtain ⟨ad106, e106, hx106_0, hx106_1⟩ := at_T74 HR0.out x6_1 p106 q106
            obtain rfl : ad105 = ad106 := (by injection e106)
            replace p106 := eq_true p106
            replace q106 := eq_true q106
            go_wp2
            go_ret2
            exact ⟨by first | rfl | (simp; done) | (simp [*]; done), by repeat (first | exact Drawn0.refl _ | apply Drawn0.step)⟩
          · rw [if_neg c5] at H
            have c5b0 : (((rd_T74 l0 x6_1).f0).toList == a1.toList) = false := beq_eq_false_iff_ne.mpr c5
            have c5b1 : (((rd_T74 l0 x6_1).f0).toList != a1.toList) = true := bne_iff_ne.mpr c5
            have H' := Aside0.mk H
            clear H
            have p105 : 0 ≤ (x6_1 : Int) := of_decide_eq_true (by first | (with_reducible assumption) | assumption)
            have q105 : x6_1 < (l0.length : Int) := of_decide_eq_true (by first | (with_reducible assumption) | assumption)
            obtain ⟨ad105, e105, hx105_0, hx105_1⟩ := at_T74 HR0.out x6_1 p105 q105
            cases e105
            replace p105 := eq_true p105
            replace q105 := eq_true q105
            go_wp2
            go_roundg k1
            case measure => have := HK1.out; omega
            case rel => exact ⟨(wrap64 (x6_1 + 1)), (by first | rfl | (simp; done) | (simp [*]; done)), H', ⟨by have := HK1.out; omega⟩, by repeat (first | exact Drawn0.refl _ | apply Drawn0.step)⟩
        · rw [if_neg c4] at H
          exact absurd H (by simp)
      · rw [if_neg c3] at H
        have c3b0 : decide (x6_1 < (l0.length : Int)) = false := decide_eq_false c3
        clear c3
        simp only [Option.some.injEq, Prod.mk.injEq] at H
        obtain ⟨rfl, rfl⟩ := H
        go_wp2
        go_ret2
        exact ⟨by first | rfl | (simp; done) | (simp [*]; done), by repeat (first | exact Drawn0.refl _ | apply Drawn0.step)⟩

/-! ### stylusref09_Now: function 19 -/
def stylusref09_Now.f (l0_0 : List (List (S74))) : Option ((List (S74))) := if 0 ≤ (wrap64 ((l0_0.length : Int) - 1)) then (if (wrap64 ((l0_0.length : Int) - 1)) < (l0_0.length : Int) then (some (rd_L9 l0_0 (wrap64 ((l0_0.length : Int) - 1)))) else (none)) else (none)
set_option maxHeartbeats 8000000 in
set_option maxRecDepth 100000 in
theorem stylusref09_Now.calls (P0_0_ : Nat → Prop) (A0_0 : Option Addr) (c0_0 : Nat) (l0_0 : List (List (S74))) (r : List (S74)) (w : World) (hs0_0 : Kd.V (Kd.slice 74 k74) 45 w w.heap.size (fun k_ => P0_0_ k_) (.slice A0_0 l0_0.length c0_0) l0_0) (h : stylusref09_Now.f l0_0 = some r) :
    Calls Try.prog 19 #[.agg #[.slice A0_0 l0_0.length c0_0]] w fun e w' => ∃ v0_ : Value, e = .returned (v0_) ∧ Kd.V k74 74 w' w.heap.size (fun k_ => (P0_0_ k_ ∨ w.heap.size ≤ k_)) v0_ r ∧ Below w.heap.size w w' := by
  have hu37 := Try.underlying37
  have HO0_0 := Aside0.mk (show Kd.V (Kd.slice 74 k74) 45 w w.heap.size (fun k_ => (P0_0_ k_ ∨ w.heap.size ≤ k_)) (.slice A0_0 l0_0.length c0_0) l0_0 from Kd.V_mono hs0_0 (fun k_ hk => .inl hk))
  have HB := Aside0.mk (Below.refl w.heap.size w)
  have H : (if 0 ≤ (wrap64 ((l0_0.length : Int) - 1)) then (if (wrap64 ((l0_0.length : Int) - 1)) < (l0_0.length : Int) then (some (rd_L9 l0_0 (wrap64 ((l0_0.length : Int) - 1)))) else (none)) else (none)) = some r := h
  clear h
  obtain ⟨ji2, hji2⟩ : ∃ j_ : Int, (wrap64 ((l0_0.length : Int) - 1)) = j_ := ⟨_, rfl⟩
  replace H : (if 0 ≤ (ji2) then (if (ji2) < (l0_0.length : Int) then (some (rd_L9 l0_0 (ji2))) else (none)) else (none)) = some r := by first | (rw [hji2] at H; exact H) | (simp only [hji2] at H ⊢; exact H)
  have hji2w : (IntKind.i64.wrap ((l0_0.length : Int) - 1)) = ji2 := (i64_w _).trans hji2
  by_cases c3 : 0 ≤ (ji2)
  · rw [if_pos c3] at H
    have c3b0 : decide (0 ≤ (ji2)) = true := decide_eq_true c3
    clear c3
    by_cases c4 : (ji2) < (l0_0.length : Int)
    · rw [if_pos c4] at H
      have c4b0 : decide ((ji2) < (l0_0.length : Int)) = true := decide_eq_true c4
      clear c4
      obtain rfl := Option.some.inj H
      go_enter Try.func19, Try.ntmps19
      go_wp2_with (first | ((with_reducible refine gate_dst (N := 1) rfl ?_); refine box_event ?hg (N := 1) ?hd (cs := #[.slice A0_0 l0_0.length c0_0]) (t := 37) ?hr ?_; (case hd => rfl); (case hg => rfl); (case hr => first | (go_simp; done) | (go_simp; rfl)); intro gb107 hg w5 hbox hb; have n0_ := Aside0.mk (Kd.V_below (Kd.V_elderB (by (with_reducible repeat (first | apply Kd.V_alloc | apply Kd.V_drewN | apply Kd.V_drew)); exact HO0_0.out) gb107 (Nat.le_of_eq hg.symm)) hb); have n1_ := Aside0.mk (below_step (by repeat (first | (with_reducible first | exact HB.out | apply below_alloc | apply pw_below_drewN | apply below_drew1) | exact HB.out)) hb); have n2_ := Aside0.mk (hbox); have n3_ := Aside0.mk ((by rw [hg]; exact (below_size (by repeat (first | (with_reducible first | exact HB.out | apply below_alloc | apply pw_below_drewN | apply below_drew1) | exact HB.out))) : w.heap.size ≤ gb107)); have n4_ := Aside0.mk ((by rw [hg]; exact (below_size (by repeat (first | (with_reducible first | exact HB.out | apply below_alloc | apply pw_below_drewN | apply below_drew1) | exact HB.out))) : w.heap.size ≤ gb107)); clear HO0_0; clear HB; have HO0_0 := n0_; have HB := n1_; have BK107 := n2_; have GW107 := n3_; have GE107 := n4_; clear n0_ n1_ n2_ n3_ n4_; clear hb hbox hg; have hcz6_0 : w5.cell? ⟨gb107, 0, none⟩ = some (.slice A0_0 l0_0.length c0_0) := (blk_cell BK107.out 0).trans rfl; have hfz6_0 := blk_frozen BK107.out 0; have p108 : 0 ≤ ((ji2) : Int) := of_decide_eq_true (by first | (with_reducible assumption) | assumption); have q108 : (ji2) < (l0_0.length : Int) := of_decide_eq_true (by first | (with_reducible assumption) | assumption); obtain ⟨ad108, A108_0, c108_0, e108, hx108_0, hl108_0, hi108_0⟩ := at_L9 (Kd.V_reads' HO0_0.out).2.2 (ji2) p108 q108; cases e108; obtain ⟨ce108, hce108, hMe108, hcc108⟩ := Kd.V_get HO0_0.out [] (ji2) p108 (by first | exact q108 | exact of_decide_eq_true (by first | (with_reducible assumption) | assumption) | (have e_ := (Kd.V_reads' HO0_0.out).1; omega)); obtain ⟨ua108_0, uc108_0, rfl, ul108_0, ge108_0⟩ := Kd.FK_slice_open hMe108; have hv108_0 := hcc108 0 _ rfl; rw [Nat.add_zero, show ((Kd.slice 74 k74)).sz = 1 from rfl, Nat.mul_one] at hv108_0; replace hv108_0 := Option.some.inj (hv108_0.symm.trans hx108_0); injection hv108_0 with hva_ hvn_ hvc_; rw [hva_] at ge108_0; rw [hvc_] at ul108_0; have HL108_0 := Aside0.mk (show Kd.V k74 74 _ w.heap.size _ _ (rd_L9 l0_0 (ji2)) from Kd.V_mk ul108_0 ge108_0); clear hva_ hvn_ hvc_ ge108_0 ul108_0; clear hcc108 hce108; have HR108_0 := Aside0.mk hi108_0; have HC108_0 := Aside0.mk hl108_0; clear hi108_0 hl108_0; replace p108 := eq_true p108; replace q108 := eq_true q108))
      go_ret
      exact ⟨_, by first | rfl | (simp [errW_none, errW_some] <;> rfl) | (simp only [← hji2]; first | rfl | (simp [errW_none, errW_some] <;> rfl)) | (simp [*, errW_none, errW_some] <;> rfl), by (with_reducible repeat (first | apply Kd.V_alloc | apply Kd.V_drewN | apply Kd.V_drew)); exact Kd.V_mono HL108_0.out (fun _ hk => hk.1), by repeat (first | (with_reducible first | exact HB.out | apply below_alloc | apply pw_below_drewN | apply below_drew1 | refine below_set ?_ GE107.out) | exact HB.out)⟩
    · rw [if_neg c4] at H
      exact absurd H (by simp)
  · rw [if_neg c3] at H
    exact absurd H (by simp)

end Go.Proofs.Ytdlnbchgimmmoaa.P
