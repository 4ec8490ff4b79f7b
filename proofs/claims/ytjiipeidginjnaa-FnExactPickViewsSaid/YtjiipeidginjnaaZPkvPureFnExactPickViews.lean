/- Out of YtjiipeidginjnaaPureFnExactPickViews: what the claim needs of it. Conditions: each declaration's own. -/
import Derived.Test.YtjiipeidginjnaaZPkvPxyFnExactPickViews
import Derived.Test.YtjiipeidginjnaaZPkvM15
namespace Go.Proofs.Ytjiipeidginjnaa.Pure
open Go.RowKit Go.Proofs.Ytjiipeidginjnaa.P Go.Proofs.YtjiipeidginjnaaW.PrintWords Go.Proofs.YtjiipeidginjnaaW.PrintLast Go.Proofs.Ytjiipeidginjnaa.PB Go.Proofs.Ytjiipeidginjnaa.PLaw Go.Proofs.Ytjiipeidginjnaa.PPick Go.Proofs.Ytjiipeidginjnaa.PSum
set_option linter.unusedVariables false
theorem FnExactPickViews : ∀ (l0 : List (S65)) (l1 : List Int), (qQueryS l0) → (qIntS l1) → ∃ k, laws_FnExactPickViews.f k l0 l1 = some true := by
  intro l0 l1 ql0 ql1
  apply Ev.rounds
  unfold laws_FnExactPickViews.f
  by_cases c0 : ((l1.length : Nat) : Int) > 1048576
  · exact Ev.pos c0 (Ev.const rfl)
  refine Ev.neg c0 ?_
  have z1 := szQueryS l0 1048576 (by omega) (by omega) ql0
  by_cases c1 : (1048576 : Int) < ((nQueryS l0 : Nat) : Int)
  · rw [if_pos c1] at z1
    exact Ev.bind z1 (Ev.pos (by omega) (Ev.const rfl))
  rw [if_neg c1] at z1
  refine Ev.bind z1 (Ev.neg (by omega) ?_)
  have sl0 : nQueryS l0 ≤ 1048576 := by omega
  have sl1 : nIntS l1 ≤ 1048576 := by unfold nIntS; omega
  have t0 := toQueryS l0 (by omega)
  have t1 := toIntS l1 (by omega)
  have e0 := eqIntS (cIntS l1) (mcIntS (by omega))
  have e1 := eqQueryS (cQueryS l0) (mcQueryS (by omega))
  have hi : ∀ l : List Int, cnIntS l = l.length := fun l => sum_one l
  have hat : ∀ l, cnAtomS (cAtomS l) ≤ nAtomS l := fun l => by
    have := sum_le (f := fun x : S153 => 1 + cnIntS x.f1) (c := cAtom) (n := nAtom) 1 (fun x => by show 1 + cnIntS x.f1 ≤ 1 + nIntS x.f1; rw [hi]; exact Nat.le_refl _) l
    unfold cnAtomS cAtomS nAtomS; omega
  have hqu : ∀ l, cnQueryS (cQueryS l) ≤ nQueryS l := fun l => by
    have := sum_le (f := fun x : S72 => cnIntS x.f0 + cnAtomS x.f1) (c := cQuery) (n := nQuery) 0 (fun x => by
      have h1 := hat x.f1
      have h2 : cnIntS (cIntS x.f0) = nIntS x.f0 := hi x.f0
      show cnIntS (cIntS x.f0) + cnAtomS (cAtomS x.f1) ≤ 0 + (nIntS x.f0 + nAtomS x.f1); omega) l
    unfold cnQueryS cQueryS nQueryS; omega
  have hv : (cQueryS l0).length ≤ 1048576 := by unfold cQueryS; simp; unfold nQueryS at sl0; omega
  have hs : (cIntS l1).length ≤ 1048576 := sl1
  have hn : ∀ y ∈ l0, nQuery y ≤ 1048576 := by
    intro y hy
    have h1 : nQuery y ≤ tsum nQuery l0 := tsum_mem nQuery hy
    unfold nQueryS at sl0; omega
  have hq : ∀ v ∈ cQueryS l0, okP v := by
    intro v hv
    obtain ⟨y, hy, rfl⟩ := List.mem_map.1 hv
    have h2 : nIntS y.f0 + nAtomS y.f1 ≤ 1048576 := hn y hy
    have h3 : y.f0.length ≤ 1048576 := by unfold nIntS at h2; omega
    refine ⟨h3, ?_, fun a ha => ?_⟩
    · show (y.f1.map cAtom).length ≤ _
      rw [List.length_map]; unfold nAtomS at h2; omega
    · obtain ⟨b, hb, rfl⟩ := List.mem_map.1 ha
      have h4 : b.f1.length ≤ tsum nAtom y.f1 := tsum_mem nAtom hb
      show b.f1.length ≤ _
      unfold nAtomS at h2; omega
  have sp := spec_pick (cQueryS l0) (cIntS l1) hv hs hq
  have im := impl_pick (cQueryS l0) (cIntS l1) hv hs hq
  have hz := pk_len (cQueryS l0) (cIntS l1)
  have hm0 : mQueryS (cQueryS l0) := mcQueryS (by omega)
  have hm : mQueryS (pk (cQueryS l0) (cIntS l1)) := ⟨by omega, fun x hx => hm0.2 x (pk_mem _ _ x hx)⟩
  have x0 := eqQueryS (pk (cQueryS l0) (cIntS l1)) hm
  have hc0 := hqu l0
  have hc1 : cnIntS (cIntS l1) = nIntS l1 := hi l1
  have pb0 : (1 + (cnQueryS (cQueryS l0) : Nat) + (cnIntS (cIntS l1) : Nat) : Int) ≤ 4611686018427387000 := by omega
  have hb := sum_bound cnQ 1048576 (pk (cQueryS l0) (cIntS l1)) (fun x hx => by
    obtain ⟨y, hy, rfl⟩ := List.mem_map.1 (pk_mem _ _ x hx)
    have h1 := hn y hy
    have h2 := hat y.f1
    have h3 : cnIntS (cIntS y.f0) = nIntS y.f0 := hi y.f0
    have h4 : cnQ (cQuery y) = cnIntS (cIntS y.f0) + cnAtomS (cAtomS y.f1) := rfl
    unfold nQuery at h1
    omega)
  have hlen : (pk (cQueryS l0) (cIntS l1)).length ≤ 1048576 := by omega
  have hmul : (pk (cQueryS l0) (cIntS l1)).length * 1048576 ≤ 1048576 * 1048576 := Nat.mul_le_mul_right _ hlen
  have pb1 : (1 + (Lay.sumOf cnQ (pk (cQueryS l0) (cIntS l1)) : Nat) : Int) ≤ 4611686018427387000 := by omega
  repeat' first
    | exact Ev.const rfl
    | refine Ev.pos rfl ?_
    | refine Ev.pos pb0 ?_
    | refine Ev.pos pb1 ?_
    | refine Ev.neg (by simp) ?_
    | refine Ev.bind t0 ?_
    | refine Ev.bind t1 ?_
    | refine Ev.bind sp ?_
    | refine Ev.bind im ?_
    | refine Ev.bind e0 ?_
    | refine Ev.bind e1 ?_
    | refine Ev.bind x0 ?_
end Go.Proofs.Ytjiipeidginjnaa.Pure

