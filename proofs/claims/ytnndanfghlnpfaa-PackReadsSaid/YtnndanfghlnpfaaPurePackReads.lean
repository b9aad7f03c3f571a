/- The state of any bytes: the program reads what the reference reads, or tells why there is none alike. -/
import Derived.Test.YtnndanfghlnpfaaPx12
import Derived.Test.YtnndanfghlnpfaaEvKit
import Derived.Test.YtnndanfghlnpfaaPx24
import Derived.Test.YtnndanfghlnpfaaPx25
import Derived.Test.YtnndanfghlnpfaaPackRf
section
namespace Go.Proofs.Ytnndanfghlnpfaa.P
open Go.RowKit Go.Proofs.YtnndanfghlnpfaaW.PrintWords Go.Proofs.YtnndanfghlnpfaaW.PrintLast
theorem lives28 : Ev (fun k => sl28lives.f k) true := Ev.of (fun k => sl28lives.mono k) (k := 40) (by decide +kernel)
end Go.Proofs.Ytnndanfghlnpfaa.P
end
namespace Go.Proofs.Ytnndanfghlnpfaa.Pure
open Go.RowKit Go.Proofs.Ytnndanfghlnpfaa.P Go.Proofs.YtnndanfghlnpfaaW.PrintWords Go.Proofs.YtnndanfghlnpfaaW.PrintLast
theorem PackReads : sl28PackReads.Pure := by
 intro s hs
 apply Ev.rounds
 have lv : Ev (fun k => (sl28lives.f k).bind fun t => some t) true := Ev.bind lives28 (Ev.now _)
 unfold sl28PackReads.f
 by_cases c : (s.size : Int) > 3000
 ·exact Ev.pos c lv
 ·have h3 : s.size ≤ 3000 := by omega
  refine Ev.neg c (Ev.bind (pack_Read_ev s (by omega) fun t m u r o g h => vState_few h3 h) (Ev.bind (ref_Read_ev s h3) ?_))
  have hsame : Ev (fun k => sr25Same.f k (readV s).1 (readV s).2.1 (readV s).2.2.1 (readV s).2.2.2.1 (readV s).2.2.2.2.1 (readV s).2.2.2.2.2.1 (readV s).1 (readV s).2.1 (readV s).2.2.1 (readV s).2.2.2.1 (readV s).2.2.2.2.1 (readV s).2.2.2.2.2.1) true := by
   refine Ev.to (ref25_Same_ev _ _ _ _ _ _ _ _ _ _ _ _ ?_) (same_State_refl _ _ _ _ _ _)
   have no : Few25 (⟨#[]⟩ : ByteArray) [] [] [] [] := ⟨by decide, by decide, by decide, by decide, by decide, (fun s h => by cases h), (fun s h => by cases h)⟩
   unfold readV
   cases h : vState s with
   | error c => exact no
   | ok x =>
    obtain ⟨t, m, u, r, o, g⟩ := x
    have F := (vState_few h3 h).1
    have key : ∀ b : Bool, Few25 (if b = true then ((t, m, u, r, o, g, 0) : Rd) else ((⟨#[]⟩ : ByteArray), [], [], [], false, [], 5)).1 (if b = true then ((t, m, u, r, o, g, 0) : Rd) else ((⟨#[]⟩ : ByteArray), [], [], [], false, [], 5)).2.1 (if b = true then ((t, m, u, r, o, g, 0) : Rd) else ((⟨#[]⟩ : ByteArray), [], [], [], false, [], 5)).2.2.1 (if b = true then ((t, m, u, r, o, g, 0) : Rd) else ((⟨#[]⟩ : ByteArray), [], [], [], false, [], 5)).2.2.2.1 (if b = true then ((t, m, u, r, o, g, 0) : Rd) else ((⟨#[]⟩ : ByteArray), [], [], [], false, [], 5)).2.2.2.2.2.1 := fun b => by
     cases b
     ·exact no
     ·exact F
    exact key _
  exact Ev.bind hsame (Ev.pos rfl (Ev.pos rfl lv))
end Go.Proofs.Ytnndanfghlnpfaa.Pure
