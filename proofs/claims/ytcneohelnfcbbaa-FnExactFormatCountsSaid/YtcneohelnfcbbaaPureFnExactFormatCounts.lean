/- FnExactFormatCounts, in plain Lean: for every list of counted tuples the law's function comes to true. Conditions: what can be read as data. -/
import Derived.Test.YtcneohelnfcbbaaPx7
import Derived.Test.YtcneohelnfcbbaaPCnt
import Derived.Test.YtcneohelnfcbbaaPLawCounted
namespace Go.Proofs.Ytcneohelnfcbbaa.Pure
open Go.RowKit Go.Proofs.Ytcneohelnfcbbaa.P Go.Proofs.YtcneohelnfcbbaaW.PrintWords Go.Proofs.YtcneohelnfcbbaaW.PrintLast Go.Proofs.Ytcneohelnfcbbaa.PB Go.Proofs.Ytcneohelnfcbbaa.PCnt Go.Proofs.Ytcneohelnfcbbaa.PLaw
theorem FnExactFormatCounts : ∀ (x0 : List S79), qCountedS x0 → ∃ k, laws_FnExactFormatCounts.f k x0 = some true := by
  intro l hq
  apply Ev.rounds
  have hz := szCountedS l 1048576 (by omega) (by omega) hq
  unfold laws_FnExactFormatCounts.f
  by_cases h : (1048576 : Int) < ((nCountedS l : Nat) : Int)
  · rw [if_pos h] at hz
    exact Ev.bind hz (Ev.pos (by omega) (Ev.const rfl))
  · rw [if_neg h] at hz
    have ht := toCountedS l (by omega)
    have he := eqCountedS (cCountedS l) (mcCountedS (by omega))
    have hlen : (cCountedS l).length ≤ 1048576 := by unfold cCountedS; simp; unfold nCountedS at h; omega
    have hb : ∀ c ∈ cCountedS l, c.f0.length ≤ 1048576 ∧ (∀ x ∈ c.f0, (Lit.int .i64 x).wf = true) ∧ (Lit.int .i64 c.f1).wf = true := by
      intro a ha
      obtain ⟨y, hy, rfl⟩ := List.mem_map.1 ha
      have h1 : y.f0.length ≤ tsum nCounted l := tsum_mem nCounted hy
      refine ⟨?_, (hq.2 y hy).1.2, (hq.2 y hy).2⟩
      show y.f0.length ≤ _
      unfold nCountedS at h; omega
    exact Ev.bind hz (Ev.neg (by omega) (Ev.bind ht (Ev.bind (spec_counts _ hlen hb) (Ev.bind ht (Ev.bind (impl_counts _ hlen hb) (Ev.pos rfl (Ev.bind ht (Ev.bind he (Ev.pos rfl (Ev.const rfl))))))))))
end Go.Proofs.Ytcneohelnfcbbaa.Pure
