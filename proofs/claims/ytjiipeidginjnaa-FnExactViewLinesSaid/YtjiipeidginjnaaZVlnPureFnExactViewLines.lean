/- Out of YtjiipeidginjnaaPureFnExactViewLines: what the claim needs of it. Conditions: each declaration's own. -/
import Derived.Test.YtjiipeidginjnaaZVlnPxyFnExactViewLines
import Derived.Test.YtjiipeidginjnaaZVlnM18
import Derived.Test.YtjiipeidginjnaaZVlnM19
namespace Go.Proofs.Ytjiipeidginjnaa.Pure
open Go.RowKit Go.Proofs.Ytjiipeidginjnaa.P Go.Proofs.YtjiipeidginjnaaW.PrintWords Go.Proofs.YtjiipeidginjnaaW.PrintLast Go.Proofs.Ytjiipeidginjnaa.PB Go.Proofs.Ytjiipeidginjnaa.PLaw Go.Proofs.Ytjiipeidginjnaa.PVLines Go.Proofs.Ytjiipeidginjnaa.PMarkS Go.Proofs.Ytjiipeidginjnaa.PSum
set_option linter.unusedVariables false
theorem FnExactViewLines : ∀ (l0_0 : List (S65)) (l0_1 : List (List (List Int))) (a0_2 : Int), (qQueryS l0_0) → (qIntSSS l0_1) → ((Lit.int .i64 a0_2).wf = true) → ∃ k, laws_FnExactViewLines.f k l0_0 l0_1 a0_2 = some true := by
  intro l0_0 l0_1 a0_2 ql0_0 ql0_1 qa0_2
  apply Ev.rounds
  unfold laws_FnExactViewLines.f
  have z0 := szCache l0_0 l0_1 a0_2 1048576 (by omega) (by omega) ql0_0 ql0_1 qa0_2
  by_cases c0 : (1048576 : Int) < ((nQueryS l0_0 + nIntSSS l0_1 : Nat) : Int)
  · rw [if_pos c0] at z0
    exact Ev.bind z0 (Ev.pos (by omega) (Ev.const rfl))
  rw [if_neg c0] at z0
  refine Ev.bind z0 (Ev.neg (by omega) ?_)
  have sl0_0 : nQueryS l0_0 ≤ 1048576 := by omega
  have sl0_1 : nIntSSS l0_1 ≤ 1048576 := by omega
  have t0 := toCache l0_0 l0_1 a0_2 (by omega)
  have e0 := eqCache (cQueryS l0_0) (cIntSSS l0_1) a0_2 (mcQueryS (by omega)) (mcIntSSS (by omega))
  have hi : ∀ l : List Int, cnIntS l = l.length := fun l => sum_one l
  have hat : ∀ l, cnAtomS (cAtomS l) ≤ nAtomS l := fun l => by
    have := sum_le (f := fun x : S153 => 1 + cnIntS x.f1) (c := cAtom) (n := nAtom) 1 (fun x => by show 1 + cnIntS x.f1 ≤ 1 + nIntS x.f1; rw [hi]; exact Nat.le_refl _) l
    unfold cnAtomS cAtomS nAtomS; omega
  have hqu : ∀ l, cnQueryS (cQueryS l) ≤ nQueryS l := fun l => by
    have := sum_le (f := fun x : S72 => cnIntS x.f0 + cnAtomS x.f1) (c := cQuery) (n := nQuery) 0 (fun x => by
      have h1 := hat x.f1
      have h2 : cnIntS (cIntS x.f0) = nIntS x.f0 := hi x.f0
      show cnIntS (cIntS x.f0) + cnAtomS (cAtomS x.f1) ≤ 0 + (nIntS x.f0 + nAtomS x.f1); omega) l
    unfold cnQueryS cQueryS nQueryS; omega
  have hss : ∀ l, cnIntSS (cIntSS l) ≤ nIntSS l := fun l => by
    have := sum_le (f := cnIntS) (c := cIntS) (n := nIntS) 0 (fun x => by
      have h2 : cnIntS (cIntS x) = nIntS x := hi x
      omega) l
    unfold cnIntSS cIntSS nIntSS; omega
  have hsss : ∀ l, cnIntSSS (cIntSSS l) ≤ nIntSSS l := fun l => by
    have := sum_le (f := cnIntSS) (c := cIntSS) (n := nIntSS) 0 (fun x => by have := hss x; omega) l
    unfold cnIntSSS cIntSSS nIntSSS; omega
  have hv : (cQueryS l0_0).length ≤ 1048576 := by unfold cQueryS; simp; unfold nQueryS at sl0_0; omega
  have ht : (cIntSSS l0_1).length ≤ 1048576 := by unfold cIntSSS; simp; unfold nIntSSS at sl0_1; omega
  have hq : ∀ v ∈ cQueryS l0_0, v.f0.length ≤ 1048576 ∧ v.f1.length ≤ 1048576 ∧ ∀ a ∈ v.f1, a.f1.length ≤ 1048576 := by
    intro v hv
    obtain ⟨y, hy, rfl⟩ := List.mem_map.1 hv
    have h1 : nIntS y.f0 + nAtomS y.f1 ≤ tsum nQuery l0_0 := tsum_mem nQuery hy
    have h2 : nIntS y.f0 + nAtomS y.f1 ≤ 1048576 := by unfold nQueryS at sl0_0; omega
    have h3 : y.f0.length ≤ 1048576 := by unfold nIntS at h2; omega
    refine ⟨h3, ?_, fun a ha => ?_⟩
    · show (y.f1.map cAtom).length ≤ _
      rw [List.length_map]; unfold nAtomS at h2; omega
    · obtain ⟨b, hb, rfl⟩ := List.mem_map.1 ha
      have h4 : b.f1.length ≤ tsum nAtom y.f1 := tsum_mem nAtom hb
      show b.f1.length ≤ _
      unfold nAtomS at h2; omega
  have hr : ∀ t ∈ cIntSSS l0_1, t.length ≤ 1048576 := by
    intro t ht
    obtain ⟨y, hy, rfl⟩ := List.mem_map.1 ht
    have h1 : y.length + tsum nIntS y ≤ tsum nIntSS l0_1 := tsum_mem nIntSS hy
    show (y.map cIntS).length ≤ _
    rw [List.length_map]
    unfold nIntSSS at sl0_1; omega
  have sp := spec_vlines (cQueryS l0_0) (cIntSSS l0_1) a0_2 hv ht hq hr
  have im := impl_vlines (cQueryS l0_0) (cIntSSS l0_1) a0_2 hv ht hq hr
  have hz := vls_len (cQueryS l0_0) 0 (cIntSSS l0_1)
  have x0 := eqS_ev (vls 0 (cQueryS l0_0) (cIntSSS l0_1)) (by omega)
  have x1 := smark_ev 1 (vls 0 (cQueryS l0_0) (cIntSSS l0_1)) (by omega) (by omega)
  have x2 := sheld_ev 1 (vls 0 (cQueryS l0_0) (cIntSSS l0_1)) (by omega) (by omega)
  have hc0 := hqu l0_0
  have hc1 := hsss l0_1
  have pb0 : (1 + (cnQueryS (cQueryS l0_0) : Nat) + (cnIntSSS (cIntSSS l0_1) : Nat) : Int) ≤ 4611686018427387000 := by omega
  have nb0 : ¬ ((1 : Int) + ((vls 0 (cQueryS l0_0) (cIntSSS l0_1)).length : Int) < 0) := by omega
  repeat' first
    | exact Ev.const rfl
    | refine Ev.pos rfl ?_
    | refine Ev.pos pb0 ?_
    | refine Ev.neg nb0 ?_
    | refine Ev.neg (by simp) ?_
    | refine Ev.bind t0 ?_
    | refine Ev.bind sp ?_
    | refine Ev.bind im ?_
    | refine Ev.bind e0 ?_
    | refine Ev.bind x0 ?_
    | refine Ev.bind x1 ?_
    | refine Ev.bind x2 ?_
end Go.Proofs.Ytjiipeidginjnaa.Pure

