/- Out of YtjglknoebaojgaaPureFnExactApplyChange: what the claim needs of it. Conditions: each declaration's own. -/
import Derived.Test.YtjglknoebaojgaaZAppPxyFnExactApplyChange
import Derived.Test.YtjglknoebaojgaaZAppM25
namespace Go.Proofs.Ytjglknoebaojgaa.Pure
open Go.RowKit Go.Proofs.Ytjglknoebaojgaa.P Go.Proofs.YtjglknoebaojgaaW.PrintWords Go.Proofs.YtjglknoebaojgaaW.PrintLast Go.Proofs.Ytjglknoebaojgaa.PB Go.Proofs.Ytjglknoebaojgaa.PLaw Go.Proofs.Ytjglknoebaojgaa.PApp Go.Proofs.Ytjglknoebaojgaa.PFac Go.Proofs.Ytjglknoebaojgaa.PDb Go.Proofs.Ytjglknoebaojgaa.PSum
set_option linter.unusedVariables false
theorem FnExactApplyChange : ∀ (l0_0 : List Int) (l1_0 : List (S39)) (a1_1 : Int) (a2_0 : Bool) (a2_1 : Int) (l2_2 : List Int), (qIntS l0_0) → (qFactS l1_0) → ((Lit.int .i64 a1_1).wf = true) → ((Lit.int .i64 a2_1).wf = true) → (qIntS l2_2) → ∃ k, laws_FnExactApplyChange.f k l0_0 l1_0 a1_1 a2_0 a2_1 l2_2 = some true := by
 intro l0_0 l1_0 a1_1 a2_0 a2_1 l2_2 ql0_0 ql1_0 qa1_1 qa2_1 ql2_2
 apply Ev.rounds
 unfold laws_FnExactApplyChange.f
 have z0 := szSchema l0_0 1048576 (by omega) (by omega) ql0_0
 by_cases c0 : (1048576 : Int) < ((nIntS l0_0 : Nat) : Int)
 ·rw [if_pos c0] at z0
  exact Ev.bind z0 (Ev.pos (by omega) (Ev.const rfl))
 rw [if_neg c0] at z0
 refine Ev.bind z0 (Ev.neg (by omega) ?_)
 have z1 := szSource l1_0 a1_1 ((1048576 : Int) - ((nIntS l0_0 : Nat) : Int)) (by omega) (by omega) ql1_0 qa1_1
 by_cases c1 : ((1048576 : Int) - ((nIntS l0_0 : Nat) : Int)) < ((nFactS l1_0 : Nat) : Int)
 ·rw [if_pos c1] at z1
  exact Ev.bind z1 (Ev.pos (by omega) (Ev.const rfl))
 rw [if_neg c1] at z1
 refine Ev.bind z1 (Ev.neg (by omega) ?_)
 have z2 := szChange a2_0 a2_1 l2_2 ((1048576 : Int) - ((nIntS l0_0 : Nat) : Int) - ((nFactS l1_0 : Nat) : Int)) (by omega) (by omega) trivial qa2_1 ql2_2
 by_cases c2 : ((1048576 : Int) - ((nIntS l0_0 : Nat) : Int) - ((nFactS l1_0 : Nat) : Int)) < ((nIntS l2_2 : Nat) : Int)
 ·rw [if_pos c2] at z2
  exact Ev.bind z2 (Ev.pos (by omega) (Ev.const rfl))
 rw [if_neg c2] at z2
 refine Ev.bind z2 (Ev.neg (by omega) ?_)
 have sl0_0 : nIntS l0_0 ≤ 1048576 := by omega
 have sl1_0 : nFactS l1_0 ≤ 1048576 := by omega
 have sl2_2 : nIntS l2_2 ≤ 1048576 := by omega
 have t0 := toSchema l0_0 (by omega)
 have t1 := toSource l1_0 a1_1 (by omega)
 have t2 := toChange a2_0 a2_1 l2_2 (by omega)
 have e0 := eqChange a2_0 a2_1 (cIntS l2_2) (mcIntS (by omega))
 have e1 := eqSource (cFactS l1_0) a1_1 (mcFactS (by omega))
 have e2 := eqSchema (cIntS l0_0) (mcIntS (by omega))
 have hi : ∀ l : List Int, cnIntS l = l.length := fun l => sum_one l
 have hft : ∀ l, cnFactS (cFactS l) ≤ nFactS l := fun l => by
  have := sum_le (f := fun x : S53 => 1 + cnIntS x.f1) (c := cFact) (n := nFact) 1 (fun x => by show 1 + cnIntS x.f1 ≤ 1 + nIntS x.f1; rw [hi]; exact Nat.le_refl _) l
  unfold cnFactS cFactS nFactS; omega
 have hs : (cIntS l0_0).length ≤ 1048576 := sl0_0
 have hl : (cFactS l1_0).length ≤ 1048576 := by unfold cFactS; simp; unfold nFactS at sl1_0; omega
 have ho : ∀ x ∈ cFactS l1_0, okF x := by
  intro f hf
  obtain ⟨y, hy, rfl⟩ := List.mem_map.1 hf
  have h1 : y.f1.length ≤ tsum nFact l1_0 := tsum_mem nFact hy
  show y.f1.length ≤ _
  unfold nFactS at sl1_0; omega
 have hf : okF (⟨a2_1, cIntS l2_2⟩ : F) := sl2_2
 have sp := s_app (cIntS l0_0) (cFactS l1_0) ⟨a2_1, cIntS l2_2⟩ hs hl ho hf a1_1 a2_0
 have im := i_app (cIntS l0_0) (cFactS l1_0) ⟨a2_1, cIntS l2_2⟩ hs hl ho hf a1_1 a2_0
 have hz := appR_bd (cIntS l0_0) (cFactS l1_0) a1_1 a2_0 ⟨a2_1, cIntS l2_2⟩
 have hz2 : ∀ x ∈ (appR (cIntS l0_0) (cFactS l1_0) a1_1 a2_0 ⟨a2_1, cIntS l2_2⟩).1, x.f1.length ≤ 1048576 := fun x hx => by
  rcases hz.2 x hx with rfl | h
  ·exact hf
  ·exact ho x h
 have hm : mFactS (appR (cIntS l0_0) (cFactS l1_0) a1_1 a2_0 ⟨a2_1, cIntS l2_2⟩).1 := ⟨by have := hz.1; omega, fun x hx => ⟨trivial, by have := hz2 x hx; omega⟩⟩
 have x0 := eqSource (appR (cIntS l0_0) (cFactS l1_0) a1_1 a2_0 ⟨a2_1, cIntS l2_2⟩).1 (appR (cIntS l0_0) (cFactS l1_0) a1_1 a2_0 ⟨a2_1, cIntS l2_2⟩).2.1 hm
 have hc1 := hft l1_0
 have hc0 : cnIntS (cIntS l0_0) = nIntS l0_0 := hi l0_0
 have hc2 : cnIntS (cIntS l2_2) = nIntS l2_2 := hi l2_2
 have pb0 : (1 + (cnIntS (cIntS l0_0) : Nat) + (cnFactS (cFactS l1_0) : Nat) + (cnIntS (cIntS l2_2) : Nat) : Int) ≤ 4611686018427387000 := by omega
 have hb := sum_bound (fun x : S53 => 1 + cnIntS x.f1) 1048577 (appR (cIntS l0_0) (cFactS l1_0) a1_1 a2_0 ⟨a2_1, cIntS l2_2⟩).1 (fun x hx => by
  have h1 := hz2 x hx
  have h2 := hi x.f1
  omega)
 have hmul : (appR (cIntS l0_0) (cFactS l1_0) a1_1 a2_0 ⟨a2_1, cIntS l2_2⟩).1.length * 1048577 ≤ 1048577 * 1048577 := Nat.mul_le_mul_right _ (by have := hz.1; omega)
 have pb1 : (1 + (cnFactS (appR (cIntS l0_0) (cFactS l1_0) a1_1 a2_0 ⟨a2_1, cIntS l2_2⟩).1 : Nat) : Int) ≤ 4611686018427387000 := by unfold cnFactS; omega
 repeat' first
  | exact Ev.const rfl
  | refine Ev.pos rfl ?_
  | refine Ev.pos pb0 ?_
  | refine Ev.pos pb1 ?_
  | refine Ev.neg (by simp) ?_
  | refine Ev.bind t0 ?_
  | refine Ev.bind t1 ?_
  | refine Ev.bind t2 ?_
  | refine Ev.bind sp ?_
  | refine Ev.bind im ?_
  | refine Ev.bind e0 ?_
  | refine Ev.bind e1 ?_
  | refine Ev.bind e2 ?_
  | refine Ev.bind x0 ?_
end Go.Proofs.Ytjglknoebaojgaa.Pure

