/- Out of YtcneohelnfcbbaaPureFnExactMayAffect: what the claim needs of it. Conditions: each declaration's own. -/
import Derived.Test.YtcneohelnfcbbaaZMayPx14
import Derived.Test.YtcneohelnfcbbaaZMayPFits
import Derived.Test.YtcneohelnfcbbaaZMayPLawQuery
import Derived.Test.YtcneohelnfcbbaaZMayPLawFact
namespace Go.Proofs.Ytcneohelnfcbbaa.Pure
open Go.RowKit Go.Proofs.Ytcneohelnfcbbaa.P Go.Proofs.YtcneohelnfcbbaaW.PrintWords Go.Proofs.YtcneohelnfcbbaaW.PrintLast Go.Proofs.Ytcneohelnfcbbaa.PB Go.Proofs.Ytcneohelnfcbbaa.PIn Go.Proofs.Ytcneohelnfcbbaa.PFits Go.Proofs.Ytcneohelnfcbbaa.PLaw
theorem FnExactMayAffect : ∀ (z0_0 : List Int) (z0_1 : List S93) (z1_0 : Int) (z1_1 : List Int), qIntS z0_0 → qAtomS z0_1 → ((Lit.int .i64 z1_0).wf = true) → qIntS z1_1 → ∃ k, laws_FnExactMayAffect.f k z0_0 z0_1 z1_0 z1_1 = some true := by
  intro h b r l qh qb qr ql
  apply Ev.rounds
  have z1 := szQuery h b 1048576 (by omega) (by omega) qh qb
  unfold laws_FnExactMayAffect.f
  by_cases c1 : (1048576 : Int) < ((nIntS h + nAtomS b : Nat) : Int)
  · rw [if_pos c1] at z1
    exact Ev.bind z1 (Ev.pos (by omega) (Ev.const rfl))
  · rw [if_neg c1] at z1
    refine Ev.bind z1 (Ev.neg (by omega) ?_)
    have z2 := szFact r l (1048576 - ((nIntS h + nAtomS b : Nat) : Int)) (by omega) (by omega) qr ql
    by_cases c2 : (1048576 : Int) - ((nIntS h + nAtomS b : Nat) : Int) < ((nIntS l : Nat) : Int)
    · rw [if_pos c2] at z2
      exact Ev.bind z2 (Ev.pos (by omega) (Ev.const rfl))
    · rw [if_neg c2] at z2
      refine Ev.bind z2 (Ev.neg (by omega) ?_)
      have tq := toQuery h b (by omega)
      have tf := toFact r l (by omega)
      have eq_ := eqQuery (cIntS h) (cAtomS b) (mcIntS (by omega)) (mcAtomS (by omega))
      have ef := eqFact r (cIntS l) (mcIntS (by omega))
      have hlen : (cAtomS b).length ≤ 1048576 := by unfold cAtomS; simp; unfold nAtomS at c1; omega
      have hbody : ∀ a ∈ cAtomS b, a.f1.length ≤ 1048576 ∧ ∀ x ∈ a.f1, (Lit.int .i64 x).wf = true := by
        intro a ha
        obtain ⟨y, hy, rfl⟩ := List.mem_map.1 ha
        have h1 : y.f1.length ≤ tsum nAtom b := tsum_mem nAtom hy
        have h2 := (qb.2 y hy).2.2
        refine ⟨?_, h2⟩
        show y.f1.length ≤ _
        unfold nAtomS at c1; omega
      have sp := spec_may (cIntS h) (cAtomS b) r (cIntS l) hlen hbody
      have im := impl_may (cIntS h) (cAtomS b) r (cIntS l) hlen (fun a ha => (hbody a ha).1)
      refine Ev.bind tq (Ev.bind tf (Ev.bind sp (Ev.bind tq (Ev.bind tf (Ev.bind im ?_)))))
      repeat' first
        | exact Ev.const rfl
        | refine Ev.neg (by simp) ?_
        | refine Ev.bind tq ?_
        | refine Ev.bind tf ?_
        | refine Ev.bind eq_ (Ev.pos rfl ?_)
        | refine Ev.bind ef (Ev.pos rfl ?_)
end Go.Proofs.Ytcneohelnfcbbaa.Pure

