/- Several texts in one: what the claim needs of them. Conditions: each declaration's own. -/
import Derived.Test.YtmfifjbbjjdacaaZAddM3
import Derived.Test.YtmfifjbbjjdacaaProg
import Derived.IntWalk
import Derived.Deep.Slices
import Derived.Deep.Strs
import Derived.Lib.SmallJoins
import Derived.WideShapes
import Derived.ChangeSame
import Derived.DataElems
import Derived.Below
import Derived.Shelf.SlSortCmp.NoneTotal
import Derived.Shelf.SlSortCmp.Insertion
namespace Go.Proofs.Ytmfifjbbjjdacaa.V
open Go
set_option linter.unusedVariables false
set_option linter.unusedSimpArgs false
open Classical in
/-- The answer that comes at last. -/
noncomputable def Lim {α : Type} (g : Nat → Option α) : Option α := if h : ∃ k r, g k = some r then some (h.choose_spec.choose) else none
theorem Lim_iff {α : Type} {g : Nat → Option α} (hm : ∀ k r, g k = some r → ∀ j, k ≤ j → g j = some r) (r : α) : Lim g = some r ↔ ∃ k, g k = some r := by
  unfold Lim
  constructor
  · intro h
    split at h
    · rename_i hex
      simp only [Option.some.injEq] at h
      subst h
      exact ⟨_, hex.choose_spec.choose_spec⟩
    · cases h
  · rintro ⟨k, hk⟩
    have hex : ∃ k r, g k = some r := ⟨k, r, hk⟩
    rw [dif_pos hex]
    have h1 := hex.choose_spec.choose_spec
    have h2 := hm _ _ h1 (max hex.choose k) (Nat.le_max_left _ _)
    have h3 := hm _ _ hk (max hex.choose k) (Nat.le_max_right _ _)
    rw [h2] at h3
    exact h3
def Ole (X Y : Ora) : Prop := ∀ f a σ r, X f a σ = some r → Y f a σ = some r
/-- Drawn regions go with the oracle. -/
structure DGo (D : Ora → Drw) : Prop where
  mono : ∀ X Y, Ole X Y → ∀ ops s r, D X ops s = some r → D Y ops s = some r
  cont : ∀ (X : Nat → Ora) (Y : Ora), (∀ j k, j ≤ k → Ole (X j) (X k)) → (∀ f a σ r, Y f a σ = some r → ∃ k, X k f a σ = some r) → ∀ ops s r, D Y ops s = some r → ∃ k, D (X k) ops s = some r
section
variable {P : Program} {M : Nat → Bool} {X Y : Ora}
theorem callV_mono (hXY : Ole X Y) {σ : Sto} {f : Nat} {args : List AV} {r : AV × Sto} (H : callV M X σ f args = some r) : callV M Y σ f args = some r := by
  unfold callV at H ⊢
  split
  · rename_i hm
    rw [if_pos hm] at H
    split at H
    · rename_i r1 σ1 hx
      rw [hXY _ _ _ _ hx]; exact H
    · cases H
  · rename_i hm
    rw [if_neg hm] at H
    split at H
    · rename_i as_ has
      split at H
      · rename_i r1 σ1 hx
        simp only [hXY _ _ _ _ hx]; exact H
      · cases H
    · cases H
theorem opV_mono (hXY : Ole X Y) {tm : Nat → AV} {σ : Sto} {o : Oper} {r : AV × Sto} (H : opV P M X tm σ o = some r) : opV P M Y tm σ o = some r := by
  cases ho : o.op with
  | call c =>
    simp only [opV, ho] at H ⊢
    split at H
    · rename_i as_ has
      cases hc : c.callee with
      | value f =>
        rw [hc] at H
        simp only at H ⊢
        split at H
        · rename_i g caps hg
          exact callV_mono hXY H
        · cases H
      | invoke rr m => rw [hc] at H; simp only at H; cases H
      | builtin b => rw [hc] at H; cases b <;> exact H
    · cases H
  | unOp u t x => simp only [opV, ho] at H ⊢; cases u <;> exact H
  | makeFunc f first caps => simp only [opV, ho] at H ⊢; cases f <;> exact H
  | _ => simp only [opV, ho] at H ⊢; exact H
theorem stepV_mono (hXY : Ole X Y) {ops : Array Oper} {s s' : VS} {o : Oper} (H : stepV P M X ops s o = some s') : stepV P M Y ops s o = some s' := by
  unfold stepV at H ⊢
  split at H
  · split at H
    · rename_i v σ h1
      rw [opV_mono hXY h1]; exact H
    · cases H
  · exact H
  · cases H
theorem opsV_mono (hXY : Ole X Y) {ops : Array Oper} : ∀ (l : List Oper) {s s' : VS}, opsV P M X ops l s = some s' → opsV P M Y ops l s = some s'
  | [], s, s', H => H
  | o :: l, s, s', H => by
    simp only [opsV] at H ⊢
    split at H
    · rename_i s1 h1
      rw [stepV_mono hXY h1]; exact opsV_mono hXY l H
    · cases H
theorem loopV_mono {f g : VS → Option (VX × VS)} (hfg : ∀ s r, f s = some r → g s = some r) : ∀ (n m : Nat) {s : VS} {r : VX × VS}, n ≤ m → loopV f n s = some r → loopV g m s = some r
  | 0, m, s, r, _, H => by cases H
  | n + 1, m, s, r, hnm, H => by
    obtain ⟨m, rfl⟩ : ∃ k, m = k + 1 := ⟨m - 1, by omega⟩
    simp only [loopV] at H ⊢
    split at H
    · rename_i s1 h1
      rw [hfg _ _ h1]; exact loopV_mono hfg n m (by omega) H
    · rename_i hne
      rw [hfg _ _ H]
      cases r with
      | mk x s1 =>
        cases x with
        | normal => exact absurd H (hne s1)
        | exit id => rfl
        | ret => rfl
theorem execV_mono {D : Ora → Drw} (hD : DGo D) (hXY : Ole X Y) {n m : Nat} (hnm : n ≤ m) : ∀ (c : Code) {s : VS} {r : VX × VS}, execV P M D X n c s = some r → execV P M D Y m c s = some r := by
  intro c
  induction c with
  | region id ops draw =>
    intro s r H
    cases draw with
    | false =>
      simp only [execV, Option.map_eq_some_iff] at H ⊢
      obtain ⟨s1, h1, h2⟩ := H
      exact ⟨s1, opsV_mono hXY _ h1, h2⟩
    | true =>
      simp only [execV, Option.map_eq_some_iff] at H ⊢
      obtain ⟨s1, h1, h2⟩ := H
      exact ⟨s1, hD.mono X Y hXY _ _ _ h1, h2⟩
  | seq a b iha ihb =>
    intro s r H
    simp only [execV] at H ⊢
    split at H
    · rename_i s1 h1
      rw [iha h1]; exact ihb H
    · rename_i hne
      rw [iha H]
      cases r with
      | mk x s1 =>
        cases x with
        | normal => exact absurd H (hne s1)
        | exit id => rfl
        | ret => rfl
  | cond c a b iha ihb =>
    intro s r H
    simp only [execV] at H ⊢
    cases hc : evalO s.tm c with
    | none => rw [hc] at H; cases H
    | some v =>
      rw [hc] at H
      cases v with
      | t y => cases y with
        | b x => cases x with
          | true => exact iha H
          | false => exact ihb H
        | _ => cases H
      | _ => cases H
  | block id c ih =>
    intro s r H
    simp only [execV] at H ⊢
    split at H
    · rename_i id' s1 h1
      rw [ih h1]; exact H
    · rename_i hne
      rw [ih H]
      cases r with
      | mk x s1 =>
        cases x with
        | normal => rfl
        | exit id => exact absurd H (hne id s1)
        | ret => rfl
  | loop c ih =>
    intro s r H
    simp only [execV] at H ⊢
    exact loopV_mono (fun s r h => ih h) n m hnm H
  | _ => intro s r H; exact H
theorem bodyV_mono {D : Ora → Drw} (hD : DGo D) (hXY : Ole X Y) {n m : Nat} (hnm : n ≤ m) {fn : Func} {c : Code} {args : List AV} {σ : Sto} {r : AV × Sto} (H : bodyV P M D X n fn c args σ = some r) : bodyV P M D Y m fn c args σ = some r := by
  unfold bodyV at H ⊢
  split
  · rename_i hle
    rw [if_pos hle] at H
    split at H
    · rename_i s h1; simp only [execV_mono hD hXY hnm c h1]; exact H
    · rename_i s h1; simp only [execV_mono hD hXY hnm c h1]; exact H
    · cases H
  · rename_i hle; rw [if_neg hle] at H; cases H
theorem runV_succ {D : Ora → Drw} (hD : DGo D) (G : Giv) : ∀ k, Ole (runV P M D G k) (runV P M D G (k + 1))
  | 0 => fun f a σ r H => by cases H
  | k + 1 => fun f a σ r H => by
    have ih := runV_succ hD G k
    simp only [runV] at H ⊢
    split at H
    · exact H
    · split at H
      · split at H
        · cases H
        · rename_i hn
          rw [if_neg hn]
          split at H
          · exact bodyV_mono hD ih (Nat.le_succ k) H
          · cases H
      · cases H
theorem runV_mono {D : Ora → Drw} (hD : DGo D) (G : Giv) (j k : Nat) (h : j ≤ k) : Ole (runV P M D G j) (runV P M D G k) := by
  induction k with
  | zero => have : j = 0 := by omega
            subst this; exact fun f a σ r H => H
  | succ k ih =>
    rcases Nat.lt_or_ge j (k + 1) with h1 | h1
    · exact fun f a σ r H => runV_succ hD G k f a σ r (ih (by omega) f a σ r H)
    · have : j = k + 1 := by omega
      subst this; exact fun f a σ r H => H
end
section
variable (P : Program) (M : Nat → Bool) (D : Ora → Drw) (G : Giv)
/-- What a function answers. -/
noncomputable def R : Ora := fun f a σ => Lim fun k => runV P M D G k f a σ
/-- What a piece of code comes to. -/
noncomputable def E (c : Code) (s : VS) : Option (VX × VS) := Lim fun k => execV P M D (runV P M D G k) k c s
variable {P M D G} (hD : DGo D)
include hD
theorem R_iff {f : Nat} {a : List AV} {σ : Sto} {r : AV × Sto} : R P M D G f a σ = some r ↔ ∃ k, runV P M D G k f a σ = some r :=
  Lim_iff (fun k r hk j hj => runV_mono hD G k j hj f a σ r hk) r
theorem E_iff {c : Code} {s : VS} {r : VX × VS} : E P M D G c s = some r ↔ ∃ k, execV P M D (runV P M D G k) k c s = some r :=
  Lim_iff (fun k r hk j hj => execV_mono hD (runV_mono hD G k j hj) hj c hk) r
theorem R_ok (hG : GivOk P G) (hDo : ∀ X, OraOk P X → DrwOk P X (D X)) : OraOk P (R P M D G) := by
  intro f a σ r σ' H
  obtain ⟨k, hk⟩ := (R_iff hD).1 H
  exact runV_ok hG hDo k f a σ r σ' hk
theorem R_le (k : Nat) : Ole (runV P M D G k) (R P M D G) := fun f a σ r H => (R_iff hD).2 ⟨k, H⟩
omit hD in
theorem eq_of_iff {α : Type} {x y : Option α} (h : ∀ r, x = some r ↔ y = some r) : x = y := by
  cases x with
  | none =>
    cases y with
    | none => rfl
    | some r => exact ((h r).2 rfl)
  | some r => exact ((h r).1 rfl).symm
theorem callV_cont {σ : Sto} {f : Nat} {args : List AV} {r : AV × Sto} (H : callV M (R P M D G) σ f args = some r) : ∃ k, callV M (runV P M D G k) σ f args = some r := by
  unfold callV at H ⊢
  split at H
  · rename_i hm
    simp only [hm, if_true]
    split at H
    · rename_i r1 σ1 hx
      obtain ⟨k, hk⟩ := (R_iff hD).1 hx
      exact ⟨k, by rw [hk]; exact H⟩
    · cases H
  · rename_i hm
    simp only [hm, if_false, Bool.false_eq_true]
    split at H
    · rename_i as_ has
      split at H
      · rename_i r1 σ1 hx
        obtain ⟨k, hk⟩ := (R_iff hD).1 hx
        exact ⟨k, by simp only [hk]; exact H⟩
      · cases H
    · cases H
theorem opV_cont {tm : Nat → AV} {σ : Sto} {o : Oper} {r : AV × Sto} (H : opV P M (R P M D G) tm σ o = some r) : ∃ k, opV P M (runV P M D G k) tm σ o = some r := by
  cases ho : o.op with
  | call c =>
    simp only [opV, ho] at H ⊢
    split at H
    · rename_i as_ has
      cases hc : c.callee with
      | value f =>
        rw [hc] at H
        simp only at H ⊢
        split at H
        · rename_i g caps hg
          obtain ⟨k, hk⟩ := callV_cont hD H
          exact ⟨k, hk⟩
        · cases H
      | invoke rr m => rw [hc] at H; simp only at H; cases H
      | builtin b => rw [hc] at H; exact ⟨0, by cases b <;> exact H⟩
    · cases H
  | unOp u t x => simp only [opV, ho] at H ⊢; exact ⟨0, by cases u <;> exact H⟩
  | makeFunc f first caps => simp only [opV, ho] at H ⊢; exact ⟨0, by cases f <;> exact H⟩
  | _ => simp only [opV, ho] at H ⊢; exact ⟨0, H⟩
theorem stepV_cont {ops : Array Oper} {s s' : VS} {o : Oper} (H : stepV P M (R P M D G) ops s o = some s') : ∃ k, stepV P M (runV P M D G k) ops s o = some s' := by
  unfold stepV at H ⊢
  cases hw : wantV ops s.tm o with
  | none => rw [hw] at H; cases H
  | some w =>
    rw [hw] at H
    cases w with
    | false => exact ⟨0, H⟩
    | true =>
      simp only at H ⊢
      split at H
      · rename_i v σ h1
        obtain ⟨k, hk⟩ := opV_cont hD h1
        exact ⟨k, by rw [hk]; exact H⟩
      · cases H
theorem opsV_cont {ops : Array Oper} : ∀ (l : List Oper) {s s' : VS}, opsV P M (R P M D G) ops l s = some s' → ∃ k, opsV P M (runV P M D G k) ops l s = some s'
  | [], s, s', H => ⟨0, H⟩
  | o :: l, s, s', H => by
    simp only [opsV] at H ⊢
    split at H
    · rename_i s1 h1
      obtain ⟨k, hk⟩ := stepV_cont hD h1
      obtain ⟨j, hj⟩ := opsV_cont l H
      refine ⟨max k j, ?_⟩
      rw [stepV_mono (runV_mono hD G k (max k j) (Nat.le_max_left _ _)) hk]
      exact opsV_mono (runV_mono hD G j (max k j) (Nat.le_max_right _ _)) l hj
    · cases H
theorem E_skip (s : VS) : E P M D G .skip s = some (.normal, s) := (E_iff hD).2 ⟨0, rfl⟩
theorem E_exit (id : Nat) (s : VS) : E P M D G (.exit id) s = some (.exit id, s) := (E_iff hD).2 ⟨0, rfl⟩
theorem E_ret (s : VS) : E P M D G .ret s = some (.ret, s) := (E_iff hD).2 ⟨0, rfl⟩
theorem E_region (id : Nat) (ops : Array Oper) (s : VS) : E P M D G (.region id ops false) s = (opsV P M (R P M D G) ops ops.toList s).map fun s => (.normal, s) := by
  refine eq_of_iff fun r => ?_
  rw [E_iff hD]
  simp only [execV, Option.map_eq_some_iff]
  constructor
  · rintro ⟨k, s1, h1, h2⟩; exact ⟨s1, opsV_mono (R_le hD k) _ h1, h2⟩
  · rintro ⟨s1, h1, h2⟩; obtain ⟨k, hk⟩ := opsV_cont hD _ h1; exact ⟨k, s1, hk, h2⟩
theorem E_draw (id : Nat) (ops : Array Oper) (s : VS) : E P M D G (.region id ops true) s = (D (R P M D G) ops s).map fun s => (.normal, s) := by
  refine eq_of_iff fun r => ?_
  rw [E_iff hD]
  simp only [execV, Option.map_eq_some_iff]
  constructor
  · rintro ⟨k, s1, h1, h2⟩; exact ⟨s1, hD.mono _ _ (R_le hD k) _ _ _ h1, h2⟩
  · rintro ⟨s1, h1, h2⟩
    obtain ⟨k, hk⟩ := hD.cont (fun k => runV P M D G k) _ (fun j k h => runV_mono hD G j k h) (fun f a σ r h => (R_iff hD).1 h) _ _ _ h1
    exact ⟨k, s1, hk, h2⟩
theorem E_seq (a b : Code) (s : VS) : E P M D G (.seq a b) s = match E P M D G a s with | some (.normal, s1) => E P M D G b s1 | r => r := by
  refine eq_of_iff fun r => ?_
  rw [E_iff hD]
  constructor
  · rintro ⟨k, hk⟩
    simp only [execV] at hk
    split at hk
    · rename_i s1 h1
      rw [(E_iff hD).2 ⟨k, h1⟩]; exact (E_iff hD).2 ⟨k, hk⟩
    · rename_i hne
      rw [(E_iff hD).2 ⟨k, hk⟩]
      cases r with
      | mk x s1 =>
        cases x with
        | normal => exact absurd hk (hne s1)
        | exit id => rfl
        | ret => rfl
  · intro h
    split at h
    · rename_i s1 h1
      obtain ⟨k, hk⟩ := (E_iff hD).1 h1
      obtain ⟨j, hj⟩ := (E_iff hD).1 h
      refine ⟨max k j, ?_⟩
      simp only [execV]
      rw [execV_mono hD (runV_mono hD G k (max k j) (Nat.le_max_left _ _)) (Nat.le_max_left _ _) a hk]
      exact execV_mono hD (runV_mono hD G j (max k j) (Nat.le_max_right _ _)) (Nat.le_max_right _ _) b hj
    · rename_i hne
      obtain ⟨k, hk⟩ := (E_iff hD).1 h
      refine ⟨k, ?_⟩
      simp only [execV]
      rw [hk]
      cases r with
      | mk x s1 =>
        cases x with
        | normal => exact absurd h (hne s1)
        | exit id => rfl
        | ret => rfl
theorem E_cond (c : Operand) (a b : Code) (s : VS) : E P M D G (.cond c a b) s = match evalO s.tm c with | some (.t (.b x)) => if x then E P M D G a s else E P M D G b s | _ => none := by
  refine eq_of_iff fun r => ?_
  rw [E_iff hD]
  simp only [execV]
  cases hc : evalO s.tm c with
  | none => simp
  | some v =>
    cases v with
    | t x =>
      cases x with
      | b y => cases y <;> simp [E_iff hD]
      | _ => simp
    | _ => simp
theorem E_block (id : Nat) (c : Code) (s : VS) : E P M D G (.block id c) s = match E P M D G c s with | some (.exit id', s1) => if id' = id then some (.normal, s1) else some (.exit id', s1) | r => r := by
  refine eq_of_iff fun r => ?_
  rw [E_iff hD]
  constructor
  · rintro ⟨k, hk⟩
    simp only [execV] at hk
    split at hk
    · rename_i id' s1 h1
      rw [(E_iff hD).2 ⟨k, h1⟩]; exact hk
    · rename_i hne
      rw [(E_iff hD).2 ⟨k, hk⟩]
      cases r with
      | mk x s1 =>
        cases x with
        | normal => rfl
        | exit id => exact absurd hk (hne id s1)
        | ret => rfl
  · intro h
    split at h
    · rename_i id' s1 h1
      obtain ⟨k, hk⟩ := (E_iff hD).1 h1
      exact ⟨k, by simp only [execV]; rw [hk]; exact h⟩
    · rename_i hne
      obtain ⟨k, hk⟩ := (E_iff hD).1 h
      refine ⟨k, ?_⟩
      simp only [execV]
      rw [hk]
      cases r with
      | mk x s1 =>
        cases x with
        | normal => rfl
        | exit id => exact absurd h (hne id s1)
        | ret => rfl
theorem E_loop (c : Code) (s : VS) : E P M D G (.loop c) s = match E P M D G c s with | some (.normal, s1) => E P M D G (.loop c) s1 | r => r := by
  refine eq_of_iff fun r => ?_
  rw [E_iff hD]
  constructor
  · rintro ⟨k, hk⟩
    simp only [execV] at hk
    cases k with
    | zero => cases hk
    | succ k =>
      simp only [loopV] at hk
      split at hk
      · rename_i s1 h1
        rw [(E_iff hD).2 ⟨k + 1, h1⟩]
        refine (E_iff hD).2 ⟨k + 1, ?_⟩
        simp only [execV]
        exact loopV_mono (fun _ _ h => h) k (k + 1) (Nat.le_succ k) hk
      · rename_i hne
        rw [(E_iff hD).2 ⟨k + 1, hk⟩]
        cases r with
        | mk x s1 =>
          cases x with
          | normal => exact absurd hk (hne s1)
          | exit id => rfl
          | ret => rfl
  · intro h
    split at h
    · rename_i s1 h1
      obtain ⟨k, hk⟩ := (E_iff hD).1 h1
      obtain ⟨j, hj⟩ := (E_iff hD).1 h
      refine ⟨max k j + 1, ?_⟩
      simp only [execV, loopV]
      rw [execV_mono hD (runV_mono hD G k (max k j + 1) (by omega)) (by omega) c hk]
      simp only [execV] at hj
      exact loopV_mono (fun s r h => execV_mono hD (runV_mono hD G j (max k j + 1) (by omega)) (by omega) c h) j (max k j) (Nat.le_max_right _ _) hj
    · rename_i hne
      obtain ⟨k, hk⟩ := (E_iff hD).1 h
      refine ⟨k + 1, ?_⟩
      simp only [execV, loopV]
      rw [execV_mono hD (runV_mono hD G k (k + 1) (Nat.le_succ k)) (Nat.le_succ k) c hk]
      cases r with
      | mk x s1 =>
        cases x with
        | normal => exact absurd h (hne s1)
        | exit id => rfl
        | ret => rfl
/-- What is given is the answer. -/
theorem R_giv {f : Nat} {g : List AV → Sto → Option (AV × Sto)} (hg : G f = some g) (args : List AV) (σ : Sto) : R P M D G f args σ = g args σ := by
  refine eq_of_iff fun r => ?_
  rw [R_iff hD]
  constructor
  · rintro ⟨k, hk⟩
    cases k with
    | zero => cases hk
    | succ k => simp only [runV, hg] at hk; exact hk
  · intro h; exact ⟨1, by simp only [runV, hg]; exact h⟩
/-- A function's answer is its body's. -/
theorem R_fn {f : Nat} {fn : Func} {c : Code} (hg : G f = none) (hfn : P.funcs[f]? = some fn) (hb : fn.body = some c) (hname : (fn.name == "runtime.NumGoroutine") = false) (args : List AV) (σ : Sto) (hle : args.length ≤ fn.ntmps) :
    R P M D G f args σ = match E P M D G c ⟨fn.ntmps, fun i => args.getD i .undef, σ⟩ with
      | some (.normal, s) => (resV P fn.results s.tm s.σ).map fun v => (v, s.σ)
      | some (.ret, s) => (resV P fn.results s.tm s.σ).map fun v => (v, s.σ)
      | _ => none := by
  refine eq_of_iff fun r => ?_
  rw [R_iff hD]
  constructor
  · rintro ⟨k, hk⟩
    cases k with
    | zero => cases hk
    | succ k =>
      simp only [runV, hg, hfn, hname, hb, Bool.false_eq_true, if_false, bodyV, if_pos hle] at hk
      split at hk
      · rename_i s h1; rw [(E_iff hD).2 ⟨k, h1⟩]; exact hk
      · rename_i s h1; rw [(E_iff hD).2 ⟨k, h1⟩]; exact hk
      · cases hk
  · intro h
    have key : ∀ x s, E P M D G c ⟨fn.ntmps, fun i => args.getD i .undef, σ⟩ = some (x, s) → (match (some (x, s) : Option (VX × VS)) with
      | some (.normal, s) => (resV P fn.results s.tm s.σ).map fun v => (v, s.σ)
      | some (.ret, s) => (resV P fn.results s.tm s.σ).map fun v => (v, s.σ)
      | _ => none) = some r → ∃ k, runV P M D G k f args σ = some r := by
      intro x s hE h
      obtain ⟨k, hk⟩ := (E_iff hD).1 hE
      refine ⟨k + 1, ?_⟩
      simp only [runV, hg, hfn, hname, hb, Bool.false_eq_true, if_false, bodyV, if_pos hle]
      rw [hk]; exact h
    cases hE : E P M D G c ⟨fn.ntmps, fun i => args.getD i .undef, σ⟩ with
    | none => rw [hE] at h; cases h
    | some xs => rw [hE] at h; exact key xs.1 xs.2 hE h
end
end Go.Proofs.Ytmfifjbbjjdacaa.V

namespace Go.Proofs.Ytmfifjbbjjdacaa.V
open Go
set_option linter.unusedVariables false
set_option linter.unusedSimpArgs false
variable {P : Program} {M : Nat → Bool} {X : Ora}
section
variable {σ0 : Sto} {β0 : Nat → BI} {C0 : Nat → Prop} {h0 : World} {Z0 : Nat → Prop} {own0 : Nat → Option Nat} {ops : Array Oper} {bf : Nat → Nat → Bool} {rs : List (Nat × Nat × VO)} {s : VS} {σ1 : Sto} {S : Nat → VS}
def unl (n : Nat) (L : Array Bool) : Nat := ((List.range n).filter fun j => !L.getD j false).length
theorem filter_lt {α : Type} {p q : α → Bool} : ∀ (l : List α), (∀ x ∈ l, q x = true → p x = true) → (∃ x ∈ l, p x = true ∧ q x = false) → (l.filter q).length < (l.filter p).length
  | [], _, ⟨x, hx, _⟩ => by simp at hx
  | y :: l, h, ⟨x, hx, h1, h2⟩ => by
    have hle : ∀ (l : List α), (∀ x ∈ l, q x = true → p x = true) → (l.filter q).length ≤ (l.filter p).length := by
      intro l
      induction l with
      | nil => intro _; simp
      | cons z l ih =>
        intro hz
        have := ih fun x hx => hz x (by simp [hx])
        by_cases hq : q z = true
        · simp [List.filter_cons, hq, hz z (by simp) hq]; omega
        · by_cases hp : p z = true
          · simp [List.filter_cons, hq, hp]; omega
          · simp [List.filter_cons, hq, hp]; omega
    rcases List.mem_cons.1 hx with rfl | hx'
    · have := hle l fun z hz => h z (by simp [hz])
      simp [List.filter_cons, h1, h2]; omega
    · have := filter_lt l (fun z hz => h z (by simp [hz])) ⟨x, hx', h1, h2⟩
      by_cases hq : q y = true
      · simp [List.filter_cons, hq, h y (by simp) hq]; omega
      · by_cases hp : p y = true
        · simp [List.filter_cons, hq, hp]; omega
        · simp [List.filter_cons, hq, hp]; omega
theorem unl_zero {n : Nat} {L : Array Bool} (h : unl n L = 0) : ∀ j, j < n → L.getD j false = true := by
  intro j hj
  unfold unl at h
  have h1 := List.eq_nil_of_length_eq_zero h
  rw [List.filter_eq_nil_iff] at h1
  have := h1 j (List.mem_range.2 hj)
  simpa using this
theorem any_ok (Y : Setup P M X ops bf rs s σ1 S) (hX : OraOk P X) (hf0 : ∀ o, σ0.n ≤ o → ¬ C0 o) {Q : Exit → Act → World → Prop} (hQ : ∀ a' w', Inv σ0 β0 C0 h0 Z0 own0 (S ops.size) a' w' → Q .normal a' w') :
    ∀ (fuel : Nat) (L : Array Bool) (a : Act) (w : World), L.size = ops.size → Jp σ0 β0 C0 h0 Z0 own0 ops rs s S (fun j => L.getD j false) a w → unl ops.size L ≤ fuel → wpAny P .any ops Q fuel L a w := by
  have nil : ∀ (L : Array Bool), L.size = ops.size → Region.ready .any ops L = [] → ∀ j, j < ops.size → L.getD j false = true := by
    intro L hL hr j
    induction j using Nat.strongRecOn with
    | _ j ih =>
      intro hj
      cases hl : L.getD j false with
      | true => rfl
      | false =>
        exfalso
        have hjo : ops[j]? = some ops[j] := Array.getElem?_eq_getElem hj
        have hm : j ∈ Region.ready .any ops L := mem_ready.2 ⟨by
          have h1 : j < L.size := by omega
          rw [Array.getD_eq_getD_getElem?, Array.getElem?_eq_getElem h1] at hl ⊢; exact hl, _, hjo, fun e he hb => ih e.on (Y.W.back j _ hjo e he hb) (by have := Y.W.back j _ hjo e he hb; omega)⟩
        rw [hr] at hm; simp at hm
  intro fuel
  induction fuel with
  | zero =>
    intro L a w hL J hu
    have hall := unl_zero (Nat.le_zero.1 hu)
    refine ⟨?_, hQ a w (J.done Y hall)⟩
    refine List.eq_nil_iff_forall_not_mem.2 fun j hj => ?_
    obtain ⟨h1, o, ho, _⟩ := mem_ready.1 hj
    have hlt := (Array.getElem?_eq_some_iff.1 ho).1
    have h2 := hall j hlt
    rw [Array.getD_eq_getD_getElem?, Array.getElem?_eq_getElem (by omega)] at h1 h2
    simp at h1 h2
    rw [h1] at h2; cases h2
  | succ fuel ih =>
    intro L a w hL J hu
    refine ⟨fun hr => hQ a w (J.done Y (nil L hL hr)), fun i hi => ?_⟩
    obtain ⟨h1, o, ho, he⟩ := mem_ready.1 hi
    have hlt := (Array.getElem?_eq_some_iff.1 ho).1
    have h2 : L.getD i false = false := by
      rw [Array.getD_eq_getD_getElem?, Array.getElem?_eq_getElem (by omega)] at h1 ⊢; exact h1
    have hset : ∀ j, (L.setIfInBounds i true).getD j false = (L.getD j false || j == i) := fun j => by
      by_cases e : j = i
      · subst e
        have h3 : j < L.size := by omega
        simp [Array.getD_eq_getD_getElem?, Array.getElem?_setIfInBounds, h3]
      · have e2 : ¬ i = j := fun h => e h.symm
        simp [Array.getD_eq_getD_getElem?, Array.getElem?_setIfInBounds, e, e2]
    refine J.step Y hX hf0 ho h2 he fun a' w' J' => ih _ a' w' (by simp [hL]) ?_ ?_
    · rw [show (fun j => (L.setIfInBounds i true).getD j false) = fun j => L.getD j false || j == i from funext hset]
      exact J'
    · have : unl ops.size (L.setIfInBounds i true) < unl ops.size L := by
        unfold unl
        refine filter_lt _ (fun x _ hx => ?_) ⟨i, List.mem_range.2 hlt, by simp [h2], by rw [hset]; simp⟩
        rw [hset] at hx
        simp at hx ⊢
        exact hx.1
      omega
end
theorem drawV_ok (hm : P.follows .mixedOrders = true) (hX : OraOk P X) : DrwOk P X (drawV P M X) := by
  intro σ0 β0 C0 h0 Z0 own0 id ops s s' a w Q hf0 I H hQ
  obtain ⟨hst, rs, σ1, hres, hrun⟩ := drawV_iff.1 H
  have W := statM_ok hst
  have RO := resL_ok _ hres
  obtain ⟨htr, hend⟩ := drun_tr (l := ops.toList) (k0 := s.σ.n) (s0 := s.on σ1) ops.toList (i := 0) rfl (Nat.zero_le _) (by simpa [rid, Sq] using hrun) (fun i' o' h => by omega) (fun i' o' h => by omega)
  have Y : Setup P M X ops (bfm (masks ops.toList [])) rs s σ1 (Sq (stepV P M X ops) ops.toList s.σ.n (s.on σ1)) := ⟨W, fun j o h => htr j o (Nat.zero_le _) (by rw [Array.getElem?_toList]; exact h), rfl, RO⟩
  have hend' : Sq (stepV P M X ops) ops.toList s.σ.n (s.on σ1) ops.size = s' := by rw [← hend]; simp
  refine wp_region_any hm ?_
  refine any_ok (σ0 := σ0) (β0 := β0) (C0 := C0) (h0 := h0) (Z0 := Z0) (own0 := own0) Y hX hf0 (fun a' w' I' => hQ a' w' (by rw [hend'] at I'; exact I')) _ _ _ _ (by simp) ?_ ?_
  · have hp : (fun j => (Array.replicate ops.size false).getD j false) = fun _ => false := funext fun j => by
      by_cases h : j < ops.size <;> simp [Array.getD_eq_getD_getElem?, Array.getElem?_replicate, h]
    rw [hp]
    refine ⟨fun j o _ h => (by cases h), 0, Nat.zero_le _, fun j h => (by omega), fun j _ _ => rfl, ?_⟩
    obtain ⟨β, C, Z, own, A, hC, hn, hT, hsz, hdf⟩ := I
    have hlt : ∀ o, C o → o < s.σ.n := fun o ho => (hC o ho).elim (fun h => Nat.lt_of_not_le fun h2 => hf0 o (by omega) h) fun h => h.2
    have M1 : Mv s.σ.ob β C w.heap Z own σ1.ob β C w.heap Z own := Mv.off A.rel (fun o ho => RO.old o (hlt o ho)) fun o ho => by
      by_cases h1 : o < s.σ.n
      · rw [RO.old o h1]; exact A.rel.dead o ho
      · by_cases h2 : o < σ1.n
        · exact .inr (RO.pend o (by omega) h2)
        · rw [RO.far o (by omega)]; exact A.rel.dead o ho
    have hle := RO.le
    have hFT : FT (Sq (stepV P M X ops) ops.toList s.σ.n (s.on σ1)) ops.toList (fun _ => false) ops.size = s.tm := funext fun t => by
      rw [FT_past (a := 0) ops.size (Nat.zero_le _) fun j _ _ h => by cases h]; rfl
    refine ⟨β, C, Z, own, A.trans M1, fun o ho => (hC o ho).imp (fun h => h) fun h => ⟨h.1, by show o < σ1.n; omega⟩, by show _ ≤ σ1.n; omega, ?_, hsz, ⟨hdf.1, hdf.2.trans ⟨rfl, rfl, rfl, Nat.le_succ _⟩⟩, ?_⟩
    · rw [hFT]; exact fun x => M1.av A.rel (hT x)
    · rintro k ⟨r, h1, _, rfl⟩
      have := RO.mem r h1
      exact ⟨fun hc => by have := hlt _ hc; omega, this.2.1, by omega⟩
  · unfold unl
    exact Nat.le_trans (List.length_filter_le _ _) (by simp)
/-- They go with the oracle. -/
theorem Drun.mono {st st' : VS → Oper → Option VS} (h : ∀ s o r, st s o = some r → st' s o = some r) {bf : Nat → Nat → Bool} {rs : List (Nat × Nat × VO)} : ∀ (l : List Oper) {i k : Nat} {s : VS} {pd : List (Nat × Oper × VS × VS)} {hs : List (Nat × Sto)} {s' : VS}, Drun st bf rs l i k s pd hs s' → Drun st' bf rs l i k s pd hs s'
  | [], i, k, s, pd, hs, s', H => H
  | o :: l, i, k, s, pd, hs, s', H => by
    unfold Drun at H ⊢
    split at H
    · rename_i hk; rw [if_pos hk]; obtain ⟨s1, h1, h2⟩ := H; exact ⟨s1, h1, Drun.mono h l h2⟩
    rename_i hk; rw [if_neg hk]
    split at H
    · rename_i hk; rw [if_pos hk]; obtain ⟨s1, h1, h2, h3, h4⟩ := H
      exact ⟨s1, h _ _ _ h1, fun p hp => (h2 p hp).imp id (h _ _ _), h3, Drun.mono h l h4⟩
    rename_i hk; rw [if_neg hk]
    split at H
    · rename_i hk; rw [if_pos hk]; obtain ⟨s1, h1, h2, h4⟩ := H
      exact ⟨s1, h _ _ _ h1, fun p hp => (h2 p hp).imp id (h _ _ _), Drun.mono h l h4⟩
    · rename_i hk; rw [if_neg hk]; obtain ⟨s1, h1, h4⟩ := H
      exact ⟨s1, h _ _ _ h1, Drun.mono h l h4⟩
theorem all_ex {α : Type} {p : Nat → α → Prop} (hm : ∀ j k x, j ≤ k → p j x → p k x) : ∀ (l : List α), (∀ x ∈ l, ∃ k, p k x) → ∃ k, ∀ x ∈ l, p k x
  | [], _ => ⟨0, fun x h => by simp at h⟩
  | y :: l, h => by
    obtain ⟨k1, h1⟩ := h y (by simp)
    obtain ⟨k2, h2⟩ := all_ex hm l fun x hx => h x (by simp [hx])
    refine ⟨max k1 k2, fun x hx => ?_⟩
    rcases List.mem_cons.1 hx with rfl | hx
    · exact hm _ _ _ (Nat.le_max_left _ _) h1
    · exact hm _ _ _ (Nat.le_max_right _ _) (h2 x hx)
theorem Drun.cont {st : Nat → VS → Oper → Option VS} {st' : VS → Oper → Option VS} (hmo : ∀ j k, j ≤ k → ∀ s o r, st j s o = some r → st k s o = some r) (h : ∀ s o r, st' s o = some r → ∃ k, st k s o = some r) {bf : Nat → Nat → Bool} {rs : List (Nat × Nat × VO)} :
    ∀ (l : List Oper) {i k : Nat} {s : VS} {pd : List (Nat × Oper × VS × VS)} {hs : List (Nat × Sto)} {s' : VS}, Drun st' bf rs l i k s pd hs s' → ∃ n, Drun (st n) bf rs l i k s pd hs s'
  | [], i, k, s, pd, hs, s', H => ⟨0, H⟩
  | o :: l, i, k, s, pd, hs, s', H => by
    have up : ∀ {a b : Nat}, a ≤ b → ∀ {m : List Oper} {i k : Nat} {s : VS} {pd : List (Nat × Oper × VS × VS)} {hs : List (Nat × Sto)} {s' : VS}, Drun (st a) bf rs m i k s pd hs s' → Drun (st b) bf rs m i k s pd hs s' := fun hab m _ _ _ _ _ _ H => Drun.mono (hmo _ _ hab) m H
    by_cases hk3 : dk o = 3
    · unfold Drun at H
      rw [if_pos hk3] at H
      obtain ⟨s1, h1, h2⟩ := H
      obtain ⟨n, hn⟩ := Drun.cont hmo h l h2
      exact ⟨n, by unfold Drun; rw [if_pos hk3]; exact ⟨s1, h1, hn⟩⟩
    by_cases hk2 : dk o = 2
    · unfold Drun at H
      rw [if_neg hk3, if_pos hk2] at H
      obtain ⟨s1, h1, h2, h3, h4⟩ := H
      obtain ⟨n1, hn1⟩ := h _ _ _ h1
      obtain ⟨n2, hn2⟩ := all_ex (p := fun k (x : Nat × Oper × VS × VS) => bf x.1 i = true ∨ st k (x.2.2.1.on s1.σ) x.2.1 = some (x.2.2.2.on s1.σ)) (fun a b x hab hx => hx.imp id (hmo _ _ hab _ _ _)) pd fun x hx => (h2 x hx).elim (fun e => ⟨0, .inl e⟩) fun e => (h _ _ _ e).imp fun _ e => .inr e
      obtain ⟨n3, hn3⟩ := Drun.cont hmo h l h4
      refine ⟨max n1 (max n2 n3), ?_⟩
      unfold Drun; rw [if_neg hk3, if_pos hk2]
      exact ⟨s1, hmo _ _ (by omega) _ _ _ hn1, fun p hp => (hn2 p hp).imp id (hmo _ _ (by omega) _ _ _), h3, up (by omega) hn3⟩
    by_cases hk1 : dk o = 1
    · unfold Drun at H
      rw [if_neg hk3, if_neg hk2, if_pos hk1] at H
      obtain ⟨s1, h1, h2, h4⟩ := H
      obtain ⟨n1, hn1⟩ := h _ _ _ h1
      obtain ⟨n2, hn2⟩ := all_ex (p := fun k (x : Nat × Sto) => bf x.1 i = true ∨ st k (s.on x.2) o = some (s1.on x.2)) (fun a b x hab hx => hx.imp id (hmo _ _ hab _ _ _)) hs fun x hx => (h2 x hx).elim (fun e => ⟨0, .inl e⟩) fun e => (h _ _ _ e).imp fun _ e => .inr e
      obtain ⟨n3, hn3⟩ := Drun.cont hmo h l h4
      refine ⟨max n1 (max n2 n3), ?_⟩
      unfold Drun; rw [if_neg hk3, if_neg hk2, if_pos hk1]
      exact ⟨s1, hmo _ _ (by omega) _ _ _ hn1, fun p hp => (hn2 p hp).imp id (hmo _ _ (by omega) _ _ _), up (by omega) hn3⟩
    · unfold Drun at H
      rw [if_neg hk3, if_neg hk2, if_neg hk1] at H
      obtain ⟨s1, h1, h4⟩ := H
      obtain ⟨n1, hn1⟩ := h _ _ _ h1
      obtain ⟨n3, hn3⟩ := Drun.cont hmo h l h4
      refine ⟨max n1 n3, ?_⟩
      unfold Drun; rw [if_neg hk3, if_neg hk2, if_neg hk1]
      exact ⟨s1, hmo _ _ (by omega) _ _ _ hn1, up (by omega) hn3⟩
theorem callV_contX {X : Nat → Ora} {Y : Ora} (hm : ∀ j k, j ≤ k → Ole (X j) (X k)) (hc : ∀ f a σ r, Y f a σ = some r → ∃ k, X k f a σ = some r) {σ : Sto} {f : Nat} {args : List AV} {r : AV × Sto} (H : callV M Y σ f args = some r) : ∃ k, callV M (X k) σ f args = some r := by
  unfold callV at H ⊢
  split at H
  · rename_i hm
    simp only [hm, if_true]
    split at H
    · rename_i r1 σ1 hx
      obtain ⟨k, hk⟩ := hc _ _ _ _ hx
      exact ⟨k, by rw [hk]; exact H⟩
    · cases H
  · rename_i hm
    simp only [hm, if_false, Bool.false_eq_true]
    split at H
    · rename_i as_ has
      split at H
      · rename_i r1 σ1 hx
        obtain ⟨k, hk⟩ := hc _ _ _ _ hx
        exact ⟨k, by simp only [hk]; exact H⟩
      · cases H
    · cases H
theorem opV_contX {X : Nat → Ora} {Y : Ora} (hm : ∀ j k, j ≤ k → Ole (X j) (X k)) (hc : ∀ f a σ r, Y f a σ = some r → ∃ k, X k f a σ = some r) {tm : Nat → AV} {σ : Sto} {o : Oper} {r : AV × Sto} (H : opV P M Y tm σ o = some r) : ∃ k, opV P M (X k) tm σ o = some r := by
  cases ho : o.op with
  | call c =>
    simp only [opV, ho] at H ⊢
    split at H
    · rename_i as_ has
      cases hcc : c.callee with
      | value f =>
        rw [hcc] at H
        simp only at H ⊢
        split at H
        · rename_i g caps hg
          obtain ⟨k, hk⟩ := callV_contX hm hc H
          exact ⟨k, hk⟩
        · cases H
      | invoke rr m => rw [hcc] at H; simp only at H; cases H
      | builtin b => rw [hcc] at H; exact ⟨0, by cases b <;> exact H⟩
    · cases H
  | unOp u t x => simp only [opV, ho] at H ⊢; exact ⟨0, by cases u <;> exact H⟩
  | makeFunc f first caps => simp only [opV, ho] at H ⊢; exact ⟨0, by cases f <;> exact H⟩
  | _ => simp only [opV, ho] at H ⊢; exact ⟨0, H⟩
theorem drawV_go : DGo (drawV P M) := by
  refine ⟨fun X Y hXY ops s r H => ?_, fun X Y hm hc ops s r H => ?_⟩
  · rw [drawV_iff] at H ⊢
    obtain ⟨h1, rs, σ1, h2, h3⟩ := H
    exact ⟨h1, rs, σ1, h2, Drun.mono (fun s o r h => stepV_mono hXY h) _ h3⟩
  · rw [drawV_iff] at H
    obtain ⟨h1, rs, σ1, h2, h3⟩ := H
    obtain ⟨k, hk⟩ := Drun.cont (st := fun k => stepV P M (X k) ops) (fun j k hjk s o r h => stepV_mono (hm j k hjk) h) (fun s o r H => by
      unfold stepV at H ⊢
      cases hw : wantV ops s.tm o with
      | none => rw [hw] at H; cases H
      | some w =>
        rw [hw] at H
        cases w with
        | false => exact ⟨0, H⟩
        | true =>
          simp only at H ⊢
          split at H
          · rename_i v σ h1
            obtain ⟨k, hk⟩ := opV_contX hm hc h1
            exact ⟨k, by rw [hk]; exact H⟩
          · cases H) _ h3
    exact ⟨k, drawV_iff.2 ⟨h1, rs, σ1, h2, hk⟩⟩
end Go.Proofs.Ytmfifjbbjjdacaa.V

namespace Go.Proofs.Ytmfifjbbjjdacaa.V
open Go
set_option linter.unusedVariables false
variable {P : Program} {M : Nat → Bool} {G : Giv}
noncomputable abbrev Rv (P : Program) (M : Nat → Bool) (G : Giv) : Ora := R P M (drawV P M) G
/-- An equation that simp does not take apart. -/
def Is {α : Type} (a b : α) : Prop := a = b
theorem Is.r {α : Type} (a : α) : Is a a := rfl
/-- The code comes to an end, of one of three kinds. -/
def W (P : Program) (M : Nat → Bool) (G : Giv) (c : Code) (s : VS) (N : VS → Prop) (X : Nat → VS → Prop) (K : VS → Prop) : Prop :=
  ∃ x s', E P M (drawV P M) G c s = some (x, s') ∧ match x with
    | .normal => N s'
    | .exit i => X i s'
    | .ret => K s'
variable {c a b : Code} {s s1 : VS} {N N' : VS → Prop} {X X' : Nat → VS → Prop} {K K' : VS → Prop}
theorem W.mono (H : W P M G c s N X K) (h1 : ∀ s, N s → N' s) (h2 : ∀ i s, X i s → X' i s) (h3 : ∀ s, K s → K' s) : W P M G c s N' X' K' := by
  obtain ⟨x, s', h, hq⟩ := H
  refine ⟨x, s', h, ?_⟩
  cases x with
  | normal => exact h1 _ hq
  | exit i => exact h2 _ _ hq
  | ret => exact h3 _ hq
theorem W_skip (h : N s) : W P M G .skip s N X K := ⟨.normal, s, E_skip drawV_go s, h⟩
theorem W_exit {i : Nat} (h : X i s) : W P M G (.exit i) s N X K := ⟨.exit i, s, E_exit drawV_go i s, h⟩
theorem W_ret (h : K s) : W P M G .ret s N X K := ⟨.ret, s, E_ret drawV_go s, h⟩
theorem W_reg {id : Nat} {ops : Array Oper} (h : Is (opsV P M (Rv P M G) ops ops.toList s) (some s1)) (hn : N s1) : W P M G (.region id ops false) s N X K :=
  ⟨.normal, s1, by rw [E_region drawV_go, show _ = _ from h]; rfl, hn⟩
/-- The same, step by step. -/
def chkP (st : VS → Oper → Option VS) (bf : Nat → Nat → Bool) (i : Nat) (σ : Sto) : List (Nat × Oper × VS × VS) → Prop → Prop
  | [], p => p
  | q :: l, p => if bf q.1 i = true then chkP st bf i σ l p else chkP st bf i σ l (p ∧ st (q.2.2.1.on σ) q.2.1 = some (q.2.2.2.on σ))
def chkR (bf : Nat → Nat → Bool) (i : Nat) (σ : Sto) : List (Nat × Nat × VO) → Prop → Prop
  | [], p => p
  | r :: l, p => if (decide (r.1 < i) && bf r.1 i) = true then chkR bf i σ l p else chkR bf i σ l (p ∧ σ.ob r.2.1 = r.2.2)
def chkH (st : VS → Oper → Option VS) (bf : Nat → Nat → Bool) (i : Nat) (o : Oper) (s s1 : VS) : List (Nat × Sto) → Prop → Prop
  | [], p => p
  | h :: l, p => if bf h.1 i = true then chkH st bf i o s s1 l p else chkH st bf i o s s1 l (p ∧ st (s.on h.2) o = some (s1.on h.2))
theorem chkP_ok {st : VS → Oper → Option VS} {bf : Nat → Nat → Bool} {i : Nat} {σ : Sto} : ∀ (l : List (Nat × Oper × VS × VS)) {p : Prop}, chkP st bf i σ l p → p ∧ ∀ q ∈ l, bf q.1 i = true ∨ st (q.2.2.1.on σ) q.2.1 = some (q.2.2.2.on σ)
  | [], p, h => ⟨h, fun q hq => by simp at hq⟩
  | r :: l, p, h => by
    unfold chkP at h
    split at h
    · rename_i hb
      obtain ⟨h1, h2⟩ := chkP_ok l h
      exact ⟨h1, fun q hq => (List.mem_cons.1 hq).elim (fun e => by rw [e]; exact .inl hb) (h2 q)⟩
    · obtain ⟨h1, h2⟩ := chkP_ok l h
      exact ⟨h1.1, fun q hq => (List.mem_cons.1 hq).elim (fun e => by rw [e]; exact .inr h1.2) (h2 q)⟩
theorem chkR_ok {bf : Nat → Nat → Bool} {i : Nat} {σ : Sto} : ∀ (l : List (Nat × Nat × VO)) {p : Prop}, chkR bf i σ l p → p ∧ ∀ q ∈ l, (decide (q.1 < i) && bf q.1 i) = true ∨ σ.ob q.2.1 = q.2.2
  | [], p, h => ⟨h, fun q hq => by simp at hq⟩
  | r :: l, p, h => by
    unfold chkR at h
    split at h
    · rename_i hb
      obtain ⟨h1, h2⟩ := chkR_ok l h
      exact ⟨h1, fun q hq => (List.mem_cons.1 hq).elim (fun e => by rw [e]; exact .inl hb) (h2 q)⟩
    · obtain ⟨h1, h2⟩ := chkR_ok l h
      exact ⟨h1.1, fun q hq => (List.mem_cons.1 hq).elim (fun e => by rw [e]; exact .inr h1.2) (h2 q)⟩
theorem chkH_ok {st : VS → Oper → Option VS} {bf : Nat → Nat → Bool} {i : Nat} {o : Oper} {s s1 : VS} : ∀ (l : List (Nat × Sto)) {p : Prop}, chkH st bf i o s s1 l p → p ∧ ∀ h ∈ l, bf h.1 i = true ∨ st (s.on h.2) o = some (s1.on h.2)
  | [], p, h => ⟨h, fun q hq => by simp at hq⟩
  | r :: l, p, h => by
    unfold chkH at h
    split at h
    · rename_i hb
      obtain ⟨h1, h2⟩ := chkH_ok l h
      exact ⟨h1, fun q hq => (List.mem_cons.1 hq).elim (fun e => by rw [e]; exact .inl hb) (h2 q)⟩
    · obtain ⟨h1, h2⟩ := chkH_ok l h
      exact ⟨h1.1, fun q hq => (List.mem_cons.1 hq).elim (fun e => by rw [e]; exact .inr h1.2) (h2 q)⟩
def DrunF (st : VS → Oper → Option VS) (bf : Nat → Nat → Bool) (rs : List (Nat × Nat × VO)) : List Oper → Nat → Nat → VS → List (Nat × Oper × VS × VS) → List (Nat × Sto) → Prop → Option (Prop × VS)
  | [], _, _, s, _, _, p => some (p, s)
  | o :: l, i, k, s, pd, hs, p =>
    if dk o = 3 then match putV s o.dst (rv o k) s.σ with
      | some s1 => DrunF st bf rs l (i + 1) (k + 1) s1 pd hs p
      | none => none
    else match st s o with
      | some s1 => if dk o = 2 then DrunF st bf rs l (i + 1) k s1 pd ((i, s.σ) :: hs) (chkR bf i s1.σ rs (chkP st bf i s1.σ pd p))
        else if dk o = 1 then DrunF st bf rs l (i + 1) k s1 ((i, o, s, s1) :: pd) hs (chkH st bf i o s s1 hs p)
        else DrunF st bf rs l (i + 1) k s1 pd hs p
      | none => none
theorem DrunF.p {st : VS → Oper → Option VS} {bf : Nat → Nat → Bool} {rs : List (Nat × Nat × VO)} : ∀ (l : List Oper) {i k : Nat} {s : VS} {pd : List (Nat × Oper × VS × VS)} {hs : List (Nat × Sto)} {p q : Prop} {s' : VS}, DrunF st bf rs l i k s pd hs p = some (q, s') → q → p ∧ Drun st bf rs l i k s pd hs s'
  | [], i, k, s, pd, hs, p, q, s', H, hq => by cases H; exact ⟨hq, rfl⟩
  | o :: l, i, k, s, pd, hs, p, q, s', H, hq => by
    unfold DrunF at H
    unfold Drun
    by_cases h3 : dk o = 3
    · rw [if_pos h3] at H ⊢
      split at H
      · rename_i s1 h1
        obtain ⟨a, b⟩ := DrunF.p l H hq
        exact ⟨a, s1, h1, b⟩
      · cases H
    rw [if_neg h3] at H ⊢
    split at H
    · rename_i s1 h1
      by_cases h2 : dk o = 2
      · rw [if_pos h2] at H ⊢
        obtain ⟨a, b⟩ := DrunF.p l H hq
        obtain ⟨a, d⟩ := chkR_ok _ a
        obtain ⟨a, c⟩ := chkP_ok _ a
        exact ⟨a, s1, h1, c, d, b⟩
      rw [if_neg h2] at H ⊢
      by_cases h1' : dk o = 1
      · rw [if_pos h1'] at H ⊢
        obtain ⟨a, b⟩ := DrunF.p l H hq
        obtain ⟨a, c⟩ := chkH_ok _ a
        exact ⟨a, s1, h1, c, b⟩
      · rw [if_neg h1'] at H ⊢
        obtain ⟨a, b⟩ := DrunF.p l H hq
        exact ⟨a, s1, h1, b⟩
    · cases H
theorem W_draw {id : Nat} {ops : Array Oper} (ms : List Nat) (hm : masks ops.toList [] = ms) (h0 : statM ops ms = true) {r : List (Nat × Nat × VO) × Sto} (h1 : Is (resL P ops.toList 0 s.σ) (some r)) {q : Prop × VS}
    (h : Is (DrunF (stepV P M (Rv P M G) ops) (bfm ms) r.1 ops.toList 0 s.σ.n (s.on r.2) [] [] True) (some q)) (hq : q.1) (hn : N q.2) : W P M G (.region id ops true) s N X K := by
  subst hm
  exact ⟨.normal, q.2, by rw [E_draw drawV_go, drawV_iff.2 ⟨h0, r.1, r.2, h1, (DrunF.p _ h hq).2⟩]; rfl, hn⟩
theorem W_seq (h : W P M G a s (fun s1 => W P M G b s1 N X K) X K) : W P M G (.seq a b) s N X K := by
  obtain ⟨x, s1, h1, h2⟩ := h
  cases x with
  | normal =>
    obtain ⟨y, s2, h3, h4⟩ := h2
    exact ⟨y, s2, by rw [E_seq drawV_go, h1]; exact h3, h4⟩
  | exit i => exact ⟨.exit i, s1, by rw [E_seq drawV_go, h1], h2⟩
  | ret => exact ⟨.ret, s1, by rw [E_seq drawV_go, h1], h2⟩
theorem W_cond {t : Operand} {x : Bool} (h : Is (evalO s.tm t) (some (.t (.b x)))) (h1 : x = true → W P M G a s N X K) (h2 : x = false → W P M G b s N X K) : W P M G (.cond t a b) s N X K := by
  have h : evalO s.tm t = some (.t (.b x)) := h
  cases x with
  | true => obtain ⟨y, s1, h3, h4⟩ := h1 rfl; exact ⟨y, s1, by rw [E_cond drawV_go, h]; exact h3, h4⟩
  | false => obtain ⟨y, s1, h3, h4⟩ := h2 rfl; exact ⟨y, s1, by rw [E_cond drawV_go, h]; exact h3, h4⟩
/-- What is asked of an exit inside a block. -/
def xb (id : Nat) (N : VS → Prop) (X : Nat → VS → Prop) : Nat → VS → Prop := fun i s => if i = id then N s else X i s
theorem xb_hit {id : Nat} (h : N s) : xb id N X id s := by unfold xb; rw [if_pos rfl]; exact h
theorem xb_miss {id i : Nat} (e : i ≠ id) (h : X i s) : xb id N X i s := by unfold xb; rw [if_neg e]; exact h
theorem W_block {id : Nat} (h : W P M G c s N (xb id N X) K) : W P M G (.block id c) s N X K := by
  obtain ⟨x, s1, h1, h2⟩ := h
  cases x with
  | normal => exact ⟨.normal, s1, by rw [E_block drawV_go, h1], h2⟩
  | exit i =>
    simp only [xb] at h2
    by_cases e : i = id
    · rw [if_pos e] at h2; exact ⟨.normal, s1, by rw [E_block drawV_go, h1]; simp only; rw [if_pos e], h2⟩
    · rw [if_neg e] at h2; exact ⟨.exit i, s1, by rw [E_block drawV_go, h1]; simp only; rw [if_neg e], h2⟩
  | ret => exact ⟨.ret, s1, by rw [E_block drawV_go, h1], h2⟩
theorem W_loop (I : Nat → VS → Prop) {n : Nat} (h0 : I n s) (h : ∀ n s, I n s → W P M G c s (fun s' => ∃ m, m < n ∧ I m s') X K) : W P M G (.loop c) s N X K := by
  induction n using Nat.strongRecOn generalizing s with
  | _ n ih =>
    obtain ⟨x, s1, h1, h2⟩ := h n s h0
    cases x with
    | normal =>
      obtain ⟨m, hm, hI⟩ := h2
      obtain ⟨y, s2, h3, h4⟩ := ih m hm hI
      exact ⟨y, s2, by rw [E_loop drawV_go, h1]; exact h3, h4⟩
    | exit i => exact ⟨.exit i, s1, by rw [E_loop drawV_go, h1], h2⟩
    | ret => exact ⟨.ret, s1, by rw [E_loop drawV_go, h1], h2⟩
theorem W_fn {f : Nat} {fn : Func} {args : List AV} {σ : Sto} {Q : AV → Sto → Prop} (hg : G f = none) (hfn : P.funcs[f]? = some fn) {c : Code} (hb : fn.body = some c) (hname : (fn.name == "runtime.NumGoroutine") = false) (hle : args.length ≤ fn.ntmps)
    (H : W P M G c ⟨fn.ntmps, fun i => args.getD i .undef, σ⟩ (fun s => ∃ v, resV P fn.results s.tm s.σ = some v ∧ Q v s.σ) (fun _ _ => False) (fun s => ∃ v, resV P fn.results s.tm s.σ = some v ∧ Q v s.σ)) : ∃ v σ', Rv P M G f args σ = some (v, σ') ∧ Q v σ' := by
  obtain ⟨x, s1, h1, h2⟩ := H
  cases x with
  | normal => obtain ⟨v, h3, h4⟩ := h2; exact ⟨v, s1.σ, by rw [Rv, R_fn drawV_go hg hfn hb hname args σ hle, h1]; simp only [h3, Option.map_some], h4⟩
  | exit i => exact h2.elim
  | ret => obtain ⟨v, h3, h4⟩ := h2; exact ⟨v, s1.σ, by rw [Rv, R_fn drawV_go hg hfn hb hname args σ hle, h1]; simp only [h3, Option.map_some], h4⟩
attribute [irreducible] W
end Go.Proofs.Ytmfifjbbjjdacaa.V

namespace Go.Proofs.Ytmfifjbbjjdacaa.V
open Go
set_option linter.unusedVariables false
inductive XV where
  | t (x : T) (f : Bool) | own (sz : Nat) (rows : List (List T)) | np | agg (l : List XV) | tup (l : List XV)
def exp1 (σ : Sto) : AV → Option (XV × Sto)
  | .t x => some (.t x.nz (match x with | .sl _ => true | _ => false), σ)
  | .ref o v p =>
    match p with
    | [] => match σ.ob o with
      | .arr (.own k) st sz rows => if rows.length = v ∧ k = 0 then some (.own sz rows, σ.set o .dead) else none
      | .arr _ st sz rows => if rows.length = v then some (.t (.sl rows) true, σ.set o (.arr .frz st sz rows)) else none
      | _ => none
    | _ => none
  | .np => some (.np, σ)
  | _ => none
def expL : Sto → List AV → Option (List XV × Sto)
  | σ, [] => some ([], σ)
  | σ, a :: l => match exp1 σ a with
    | some (x, σ1) => match expL σ1 l with
      | some (xs, σ2) => some (x :: xs, σ2)
      | none => none
    | none => none
def expA (σ : Sto) : AV → Option (XV × Sto)
  | .agg l => (expL σ l).map fun r => (.agg r.1, r.2)
  | a => exp1 σ a
def expAs : Sto → List AV → Option (List XV × Sto)
  | σ, [] => some ([], σ)
  | σ, a :: l => match expA σ a with
    | some (x, σ1) => match expAs σ1 l with
      | some (xs, σ2) => some (x :: xs, σ2)
      | none => none
    | none => none
def expR (σ : Sto) : AV → Option XV
  | .tup l => (expAs σ l).map fun r => .tup r.1
  | a => (expA σ a).map fun r => r.1
def XV.sh1 : XV → Bool
  | .t _ f => f
  | _ => false
def XV.shA : XV → Bool
  | .agg l => l.any XV.sh1
  | x => x.sh1
def XV.sh : XV → Bool
  | .tup l => l.any XV.shA
  | x => x.shA
def place1 (c : Sto) : XV → AV × Sto
  | .t x _ => (.t x, c)
  | .own sz rows => (.ref c.n rows.length [], c.new (.arr (.own 0) 0 sz rows))
  | .np => (.np, c)
  | _ => (.undef, c)
def placeL : Sto → List XV → List AV × Sto
  | c, [] => ([], c)
  | c, x :: l => ((place1 c x).1 :: (placeL (place1 c x).2 l).1, (placeL (place1 c x).2 l).2)
def placeA (c : Sto) : XV → AV × Sto
  | .agg l => (.agg (placeL c l).1, (placeL c l).2)
  | x => place1 c x
def placeAs : Sto → List XV → List AV × Sto
  | c, [] => ([], c)
  | c, x :: l => ((placeA c x).1 :: (placeAs (placeA c x).2 l).1, (placeAs (placeA c x).2 l).2)
def place (c : Sto) : XV → AV × Sto
  | .tup l => (.tup (placeAs c l).1, (placeAs c l).2)
  | x => placeA c x
theorem imp1_exp {σ σ1 : Sto} {a : AV} {x : XV} (H : exp1 σ a = some (x, σ1)) (c : Sto) : imp1 0 σ c a = some ((place1 c x).1, σ1, (place1 c x).2, x.sh1) := by
  unfold exp1 at H
  split at H
  · cases H; rfl
  · rename_i o v p
    unfold imp1
    simp only
    rw [if_neg (Nat.not_lt_zero o)]
    split at H
    · simp only
      split at H
      · rename_i k st sz rows hob
        split at H
        · rename_i hc; cases H; rw [hob]; simp only; rw [if_pos hc, ← hc.1]; rfl
        · cases H
      · rename_i m st sz rows hn hob
        split at H
        · rename_i hc; cases H; rw [hob]
          cases m with
          | own k => exact absurd rfl (hn k)
          | _ => simp only; rw [if_pos hc]; rfl
        · cases H
      · cases H
    · cases H
  · cases H; rfl
  · cases H
theorem impL_exp : ∀ (l : List AV) {σ σ1 : Sto} {xs : List XV}, expL σ l = some (xs, σ1) → ∀ c, impL 0 σ c l = some ((placeL c xs).1, σ1, (placeL c xs).2, xs.any XV.sh1)
  | [], σ, σ1, xs, H, c => by cases H; rfl
  | a :: l, σ, σ1, xs, H, c => by
    unfold expL at H
    split at H
    · rename_i x σ2 h1
      split at H
      · rename_i ys σ3 h2
        cases H
        unfold impL
        rw [imp1_exp h1 c]
        simp only
        rw [impL_exp l h2]
        rfl
      · cases H
    · cases H
theorem impA_exp {σ σ1 : Sto} {a : AV} {x : XV} (H : expA σ a = some (x, σ1)) (c : Sto) : impA 0 σ c a = some ((placeA c x).1, σ1, (placeA c x).2, x.shA) := by
  unfold expA at H
  split at H
  · rename_i l
    rw [Option.map_eq_some_iff] at H
    obtain ⟨⟨ys, σ2⟩, h1, h2⟩ := H
    cases h2
    unfold impA
    simp only
    rw [impL_exp l h1 c]; rfl
  · rename_i hn
    have h1 := imp1_exp H c
    have h2 : impA 0 σ c a = imp1 0 σ c a := by
      cases a with
      | agg l => exact absurd rfl (hn l)
      | _ => rfl
    rw [h2, h1]
    unfold exp1 at H
    split at H
    · cases H; rfl
    · split at H
      · split at H
        · split at H <;> cases H; rfl
        · split at H <;> cases H; rfl
        · cases H
      · cases H
    · cases H; rfl
    · cases H
theorem impAs_exp : ∀ (l : List AV) {σ σ1 : Sto} {xs : List XV}, expAs σ l = some (xs, σ1) → ∀ c, impAs 0 σ c l = some ((placeAs c xs).1, σ1, (placeAs c xs).2, xs.any XV.shA)
  | [], σ, σ1, xs, H, c => by cases H; rfl
  | a :: l, σ, σ1, xs, H, c => by
    unfold expAs at H
    split at H
    · rename_i x σ2 h1
      split at H
      · rename_i ys σ3 h2
        cases H
        unfold impAs
        rw [impA_exp h1 c]
        simp only
        rw [impAs_exp l h2]
        rfl
      · cases H
    · cases H
theorem expA_tup {σ σ1 : Sto} {a : AV} {l : List XV} (H : expA σ a = some (.tup l, σ1)) : False := by
  unfold expA at H
  split at H
  · rw [Option.map_eq_some_iff] at H; obtain ⟨_, _, h⟩ := H; cases h
  · unfold exp1 at H
    split at H
    · cases H
    · split at H
      · split at H
        · split at H <;> cases H
        · split at H <;> cases H
        · cases H
      · cases H
    · cases H
    · cases H
theorem impR_exp {σ : Sto} {a : AV} {x : XV} (H : expR σ a = some x) (c : Sto) : impR 0 σ c a = some ((place c x).1, (place c x).2, x.sh) := by
  unfold expR at H
  split at H
  · rename_i l
    rw [Option.map_eq_some_iff] at H
    obtain ⟨⟨ys, σ2⟩, h1, h2⟩ := H
    cases h2
    unfold impR
    simp only
    rw [impAs_exp l h1 c]; rfl
  · rename_i hn
    rw [Option.map_eq_some_iff] at H
    obtain ⟨⟨y, σ2⟩, h1, h2⟩ := H
    cases h2
    have h3 := impA_exp h1 c
    have h2 : impR 0 σ c a = (impA 0 σ c a).map fun r => (r.1, r.2.2.1, r.2.2.2) := by
      cases a with
      | tup l => exact absurd rfl (hn l)
      | _ => rfl
    rw [h2, h3]
    cases y with
    | tup l => exact (expA_tup h1).elim
    | _ => rfl
/-- A function that only reads answers x. -/
def Ret (X : Ora) (f : Nat) (as_ : List AV) (x : XV) : Prop := ∃ r σ1, X f as_ Sto.e = some (r, σ1) ∧ expR σ1 r = some x
theorem callV_ret {M : Nat → Bool} {X : Ora} {f : Nat} {as_ : List AV} {x : XV} (H : Ret X f as_ x) (hM : M f = false) {σ : Sto} {args : List AV} (ha : args.mapM (reify σ) = some as_) :
    callV M X σ f args = if x.sh then (freezeL σ (args.flatMap ids)).map fun σf => place σf x else some (place σ x) := by
  obtain ⟨r, σ1, h1, h2⟩ := H
  unfold callV
  rw [hM, ha]
  simp only [Bool.false_eq_true, if_false, h1, impR_exp h2 σ]
  cases x.sh with
  | false => rfl
  | true =>
    simp only [if_true]
    cases freezeL σ (args.flatMap ids) with
    | none => rfl
    | some σf => simp only [impR_exp h2 σf, Option.map_some]
theorem callV_d {M : Nat → Bool} {X : Ora} {f : Nat} {args : List AV} {σ σ1 : Sto} {r : AV} (hM : M f = true) (H : X f args σ = some (r, σ1)) (hn : σ1.n = σ.n) :
    callV M X σ f args = some (r, σ1) := by
  unfold callV
  rw [if_pos hM, H]
  simp only
  rw [if_pos hn]
variable {P : Program} {M : Nat → Bool} {G : Giv}
/-- What is asked of the end of a function. -/
def Ends (P : Program) (rs : Array ResultVar) (x : XV) (s : VS) : Prop := ∃ v, resV P rs s.tm s.σ = some v ∧ expR s.σ v = some x
theorem ret_W {f : Nat} {fn : Func} {args : List AV} {x : XV} (hg : G f = none) (hfn : P.funcs[f]? = some fn) {c : Code} (hb : fn.body = some c) (hname : (fn.name == "runtime.NumGoroutine") = false) (hle : args.length ≤ fn.ntmps)
    (H : W P M G c ⟨fn.ntmps, fun i => args.getD i .undef, Sto.e⟩ (Ends P fn.results x) (fun _ _ => False) (Ends P fn.results x)) : Ret (Rv P M G) f args x := by
  obtain ⟨v, σ', h1, h2⟩ := W_fn (Q := fun v σ => expR σ v = some x) hg hfn hb hname hle H
  exact ⟨v, σ', h1, h2⟩
end Go.Proofs.Ytmfifjbbjjdacaa.V

namespace Go.Proofs.Ytmfifjbbjjdacaa.V
open Go Go.Proofs
theorem info_of {P : Program} {t : Nat} {i : TypeInfo} (h : ∀ w, (Go.typeInfo t).run P w = .ok i w) : P.info? t = some i := by
  have := h default
  simp only [Go.typeInfo] at this
  cases hi : P.info? t with
  | none => simp [hi] at this
  | some j => simp [hi] at this; rw [this]
theorem sz_of {P : Program} {t : Nat} {i : TypeInfo} (h : ∀ w, (Go.typeInfo t).run P w = .ok i w) : szOf P t = some i.size := by rw [szOf, info_of h]; rfl
theorem by_of {P : Program} {t : Nat} {i : TypeInfo} (h : ∀ w, (Go.typeInfo t).run P w = .ok i w) : (P.info? t).map (·.bytes) = some i.bytes := by rw [info_of h]; rfl
theorem zr_of {P : Program} {t : Nat} {i : TypeInfo} (h : ∀ w, (Go.typeInfo t).run P w = .ok i w) : zeroC P t = i.zero.bind constV := by rw [zeroC, info_of h]; rfl
@[simp] theorem sz1 : szOf Try.prog 1 = some 1 := sz_of Try.typeInfo1
@[simp] theorem ag1 : aggT Try.prog 1 = some false := by rw [aggT, Try.underlying1]
attribute [simp] Try.underlying1
@[simp] theorem sz2 : szOf Try.prog 2 = some 1 := sz_of Try.typeInfo2
@[simp] theorem ag2 : aggT Try.prog 2 = some false := by rw [aggT, Try.underlying2]
@[simp] theorem zr2 : zeroC Try.prog 2 = some (.t (.i .i64 0)) := (zr_of Try.typeInfo2).trans rfl
@[simp] theorem by2 : (Try.prog.info? 2).map (·.bytes) = some 8 := by_of Try.typeInfo2
attribute [simp] Try.underlying2
@[simp] theorem sz3 : szOf Try.prog 3 = some 1 := sz_of Try.typeInfo3
@[simp] theorem ag3 : aggT Try.prog 3 = some false := by rw [aggT, Try.underlying3]
@[simp] theorem zr3 : zeroC Try.prog 3 = some (.t (.i .i64 0)) := (zr_of Try.typeInfo3).trans rfl
@[simp] theorem by3 : (Try.prog.info? 3).map (·.bytes) = some 8 := by_of Try.typeInfo3
attribute [simp] Try.underlying3
@[simp] theorem sz4 : szOf Try.prog 4 = some 1 := sz_of Try.typeInfo4
@[simp] theorem ag4 : aggT Try.prog 4 = some false := by rw [aggT, Try.underlying4]
@[simp] theorem zr4 : zeroC Try.prog 4 = some (.t (.b false)) := (zr_of Try.typeInfo4).trans rfl
@[simp] theorem by4 : (Try.prog.info? 4).map (·.bytes) = some 1 := by_of Try.typeInfo4
attribute [simp] Try.underlying4
@[simp] theorem sz5 : szOf Try.prog 5 = some 1 := sz_of Try.typeInfo5
@[simp] theorem ag5 : aggT Try.prog 5 = some false := by rw [aggT, Try.underlying5]
@[simp] theorem zr5 : zeroC Try.prog 5 = some (.t (.i .u8 0)) := (zr_of Try.typeInfo5).trans rfl
@[simp] theorem by5 : (Try.prog.info? 5).map (·.bytes) = some 1 := by_of Try.typeInfo5
attribute [simp] Try.underlying5
@[simp] theorem sz6 : szOf Try.prog 6 = some 1 := sz_of Try.typeInfo6
@[simp] theorem ag6 : aggT Try.prog 6 = some false := by rw [aggT, Try.underlying6]
@[simp] theorem zr6 : zeroC Try.prog 6 = some (.t (.i .u8 0)) := (zr_of Try.typeInfo6).trans rfl
@[simp] theorem by6 : (Try.prog.info? 6).map (·.bytes) = some 1 := by_of Try.typeInfo6
attribute [simp] Try.underlying6
@[simp] theorem sz7 : szOf Try.prog 7 = some 4 := sz_of Try.typeInfo7
@[simp] theorem ag7 : aggT Try.prog 7 = some true := by rw [aggT, Try.underlying7]
@[simp] theorem zr7 : zeroC Try.prog 7 = some (.agg [.t (.i .i64 0), .t (.i .i64 0), .t (.b false), .t (.i .u8 0)]) := (zr_of Try.typeInfo7).trans rfl
@[simp] theorem by7 : (Try.prog.info? 7).map (·.bytes) = some 24 := by_of Try.typeInfo7
attribute [simp] Try.underlying7
@[simp] theorem sz8 : szOf Try.prog 8 = some 4 := sz_of Try.typeInfo8
@[simp] theorem ag8 : aggT Try.prog 8 = some true := by rw [aggT, Try.underlying8]
@[simp] theorem zr8 : zeroC Try.prog 8 = some (.agg [.t (.i .i64 0), .t (.i .i64 0), .t (.b false), .t (.i .u8 0)]) := (zr_of Try.typeInfo8).trans rfl
@[simp] theorem by8 : (Try.prog.info? 8).map (·.bytes) = some 24 := by_of Try.typeInfo8
attribute [simp] Try.underlying8
@[simp] theorem sz9 : szOf Try.prog 9 = some 1 := sz_of Try.typeInfo9
@[simp] theorem ag9 : aggT Try.prog 9 = some false := by rw [aggT, Try.underlying9]
@[simp] theorem zr9 : zeroC Try.prog 9 = some (.t (.s ⟨#[]⟩)) := (zr_of Try.typeInfo9).trans rfl
@[simp] theorem by9 : (Try.prog.info? 9).map (·.bytes) = some 16 := by_of Try.typeInfo9
attribute [simp] Try.underlying9
@[simp] theorem sz10 : szOf Try.prog 10 = some 1 := sz_of Try.typeInfo10
@[simp] theorem ag10 : aggT Try.prog 10 = some false := by rw [aggT, Try.underlying10]
@[simp] theorem zr10 : zeroC Try.prog 10 = some (.t (.s ⟨#[]⟩)) := (zr_of Try.typeInfo10).trans rfl
@[simp] theorem by10 : (Try.prog.info? 10).map (·.bytes) = some 16 := by_of Try.typeInfo10
attribute [simp] Try.underlying10
@[simp] theorem sz11 : szOf Try.prog 11 = some 1 := sz_of Try.typeInfo11
@[simp] theorem ag11 : aggT Try.prog 11 = some false := by rw [aggT, Try.underlying11]
@[simp] theorem zr11 : zeroC Try.prog 11 = some (.t (.s ⟨#[]⟩)) := (zr_of Try.typeInfo11).trans rfl
@[simp] theorem by11 : (Try.prog.info? 11).map (·.bytes) = some 16 := by_of Try.typeInfo11
attribute [simp] Try.underlying11
@[simp] theorem sz12 : szOf Try.prog 12 = some 1 := sz_of Try.typeInfo12
@[simp] theorem ag12 : aggT Try.prog 12 = some false := by rw [aggT, Try.underlying12]
@[simp] theorem zr12 : zeroC Try.prog 12 = some (.t (.i .u64 0)) := (zr_of Try.typeInfo12).trans rfl
@[simp] theorem by12 : (Try.prog.info? 12).map (·.bytes) = some 8 := by_of Try.typeInfo12
attribute [simp] Try.underlying12
@[simp] theorem sz13 : szOf Try.prog 13 = some 2 := sz_of Try.typeInfo13
@[simp] theorem ag13 : aggT Try.prog 13 = some true := by rw [aggT, Try.underlying13]
@[simp] theorem zr13 : zeroC Try.prog 13 = some (.agg [.t (.s ⟨#[]⟩), .t (.i .u64 0)]) := (zr_of Try.typeInfo13).trans rfl
@[simp] theorem by13 : (Try.prog.info? 13).map (·.bytes) = some 24 := by_of Try.typeInfo13
attribute [simp] Try.underlying13
@[simp] theorem sz14 : szOf Try.prog 14 = some 2 := sz_of Try.typeInfo14
@[simp] theorem ag14 : aggT Try.prog 14 = some true := by rw [aggT, Try.underlying14]
@[simp] theorem zr14 : zeroC Try.prog 14 = some (.agg [.t (.s ⟨#[]⟩), .t (.i .u64 0)]) := (zr_of Try.typeInfo14).trans rfl
@[simp] theorem by14 : (Try.prog.info? 14).map (·.bytes) = some 24 := by_of Try.typeInfo14
attribute [simp] Try.underlying14
@[simp] theorem sz15 : szOf Try.prog 15 = some 1 := sz_of Try.typeInfo15
@[simp] theorem ag15 : aggT Try.prog 15 = some false := by rw [aggT, Try.underlying15]
@[simp] theorem zr15 : zeroC Try.prog 15 = some (.np) := (zr_of Try.typeInfo15).trans rfl
@[simp] theorem by15 : (Try.prog.info? 15).map (·.bytes) = some 8 := by_of Try.typeInfo15
attribute [simp] Try.underlying15
@[simp] theorem sz16 : szOf Try.prog 16 = some 1 := sz_of Try.typeInfo16
@[simp] theorem ag16 : aggT Try.prog 16 = some false := by rw [aggT, Try.underlying16]
@[simp] theorem zr16 : zeroC Try.prog 16 = some (.np) := (zr_of Try.typeInfo16).trans rfl
@[simp] theorem by16 : (Try.prog.info? 16).map (·.bytes) = some 8 := by_of Try.typeInfo16
attribute [simp] Try.underlying16
@[simp] theorem sz17 : szOf Try.prog 17 = some 1 := sz_of Try.typeInfo17
@[simp] theorem ag17 : aggT Try.prog 17 = some false := by rw [aggT, Try.underlying17]
@[simp] theorem zr17 : zeroC Try.prog 17 = some (.np) := (zr_of Try.typeInfo17).trans rfl
@[simp] theorem by17 : (Try.prog.info? 17).map (·.bytes) = some 8 := by_of Try.typeInfo17
attribute [simp] Try.underlying17
@[simp] theorem sz18 : szOf Try.prog 18 = some 1 := sz_of Try.typeInfo18
@[simp] theorem ag18 : aggT Try.prog 18 = some true := by rw [aggT, Try.underlying18]
attribute [simp] Try.underlying18
@[simp] theorem sz19 : szOf Try.prog 19 = some 1 := sz_of Try.typeInfo19
@[simp] theorem ag19 : aggT Try.prog 19 = some true := by rw [aggT, Try.underlying19]
attribute [simp] Try.underlying19
@[simp] theorem sz21 : szOf Try.prog 21 = some 1 := sz_of Try.typeInfo21
@[simp] theorem ag21 : aggT Try.prog 21 = some false := by rw [aggT, Try.underlying21]
@[simp] theorem zr21 : zeroC Try.prog 21 = some (.t (.i .i32 0)) := (zr_of Try.typeInfo21).trans rfl
@[simp] theorem by21 : (Try.prog.info? 21).map (·.bytes) = some 4 := by_of Try.typeInfo21
attribute [simp] Try.underlying21
@[simp] theorem sz22 : szOf Try.prog 22 = some 1 := sz_of Try.typeInfo22
@[simp] theorem ag22 : aggT Try.prog 22 = some false := by rw [aggT, Try.underlying22]
@[simp] theorem zr22 : zeroC Try.prog 22 = some (.t .nl) := (zr_of Try.typeInfo22).trans rfl
@[simp] theorem by22 : (Try.prog.info? 22).map (·.bytes) = some 24 := by_of Try.typeInfo22
attribute [simp] Try.underlying22
@[simp] theorem sz23 : szOf Try.prog 23 = some 1 := sz_of Try.typeInfo23
@[simp] theorem ag23 : aggT Try.prog 23 = some false := by rw [aggT, Try.underlying23]
attribute [simp] Try.underlying23
@[simp] theorem sz24 : szOf Try.prog 24 = some 1 := sz_of Try.typeInfo24
@[simp] theorem ag24 : aggT Try.prog 24 = some false := by rw [aggT, Try.underlying24]
@[simp] theorem zr24 : zeroC Try.prog 24 = some (.t .nl) := (zr_of Try.typeInfo24).trans rfl
@[simp] theorem by24 : (Try.prog.info? 24).map (·.bytes) = some 24 := by_of Try.typeInfo24
attribute [simp] Try.underlying24
@[simp] theorem sz25 : szOf Try.prog 25 = some 1 := sz_of Try.typeInfo25
@[simp] theorem ag25 : aggT Try.prog 25 = some false := by rw [aggT, Try.underlying25]
attribute [simp] Try.underlying25
@[simp] theorem sz26 : szOf Try.prog 26 = some 1 := sz_of Try.typeInfo26
@[simp] theorem ag26 : aggT Try.prog 26 = some false := by rw [aggT, Try.underlying26]
attribute [simp] Try.underlying26
@[simp] theorem sz27 : szOf Try.prog 27 = some 1 := sz_of Try.typeInfo27
@[simp] theorem ag27 : aggT Try.prog 27 = some false := by rw [aggT, Try.underlying27]
attribute [simp] Try.underlying27
@[simp] theorem sz28 : szOf Try.prog 28 = some 1 := sz_of Try.typeInfo28
@[simp] theorem ag28 : aggT Try.prog 28 = some false := by rw [aggT, Try.underlying28]
attribute [simp] Try.underlying28
@[simp] theorem sz29 : szOf Try.prog 29 = some 1 := sz_of Try.typeInfo29
@[simp] theorem ag29 : aggT Try.prog 29 = some false := by rw [aggT, Try.underlying29]
attribute [simp] Try.underlying29
@[simp] theorem sz30 : szOf Try.prog 30 = some 1 := sz_of Try.typeInfo30
@[simp] theorem ag30 : aggT Try.prog 30 = some false := by rw [aggT, Try.underlying30]
@[simp] theorem zr30 : zeroC Try.prog 30 = some (.t .nl) := (zr_of Try.typeInfo30).trans rfl
@[simp] theorem by30 : (Try.prog.info? 30).map (·.bytes) = some 24 := by_of Try.typeInfo30
attribute [simp] Try.underlying30
@[simp] theorem sz31 : szOf Try.prog 31 = some 1 := sz_of Try.typeInfo31
@[simp] theorem ag31 : aggT Try.prog 31 = some false := by rw [aggT, Try.underlying31]
attribute [simp] Try.underlying31
@[simp] theorem sz32 : szOf Try.prog 32 = some 1 := sz_of Try.typeInfo32
@[simp] theorem ag32 : aggT Try.prog 32 = some false := by rw [aggT, Try.underlying32]
@[simp] theorem zr32 : zeroC Try.prog 32 = some (.t .nl) := (zr_of Try.typeInfo32).trans rfl
@[simp] theorem by32 : (Try.prog.info? 32).map (·.bytes) = some 24 := by_of Try.typeInfo32
attribute [simp] Try.underlying32
@[simp] theorem sz33 : szOf Try.prog 33 = some 1 := sz_of Try.typeInfo33
@[simp] theorem ag33 : aggT Try.prog 33 = some true := by rw [aggT, Try.underlying33]
@[simp] theorem zr33 : zeroC Try.prog 33 = some (.agg [.t .nl]) := (zr_of Try.typeInfo33).trans rfl
@[simp] theorem by33 : (Try.prog.info? 33).map (·.bytes) = some 24 := by_of Try.typeInfo33
attribute [simp] Try.underlying33
@[simp] theorem sz34 : szOf Try.prog 34 = some 1 := sz_of Try.typeInfo34
@[simp] theorem ag34 : aggT Try.prog 34 = some true := by rw [aggT, Try.underlying34]
@[simp] theorem zr34 : zeroC Try.prog 34 = some (.agg [.t .nl]) := (zr_of Try.typeInfo34).trans rfl
@[simp] theorem by34 : (Try.prog.info? 34).map (·.bytes) = some 24 := by_of Try.typeInfo34
attribute [simp] Try.underlying34
@[simp] theorem sz35 : szOf Try.prog 35 = some 1 := sz_of Try.typeInfo35
@[simp] theorem ag35 : aggT Try.prog 35 = some false := by rw [aggT, Try.underlying35]
@[simp] theorem zr35 : zeroC Try.prog 35 = some (.t .nl) := (zr_of Try.typeInfo35).trans rfl
@[simp] theorem by35 : (Try.prog.info? 35).map (·.bytes) = some 24 := by_of Try.typeInfo35
attribute [simp] Try.underlying35
@[simp] theorem sz36 : szOf Try.prog 36 = some 2 := sz_of Try.typeInfo36
@[simp] theorem ag36 : aggT Try.prog 36 = some true := by rw [aggT, Try.underlying36]
@[simp] theorem zr36 : zeroC Try.prog 36 = some (.agg [.t .nl, .t (.i .i64 0)]) := (zr_of Try.typeInfo36).trans rfl
@[simp] theorem by36 : (Try.prog.info? 36).map (·.bytes) = some 32 := by_of Try.typeInfo36
attribute [simp] Try.underlying36
@[simp] theorem sz37 : szOf Try.prog 37 = some 2 := sz_of Try.typeInfo37
@[simp] theorem ag37 : aggT Try.prog 37 = some true := by rw [aggT, Try.underlying37]
@[simp] theorem zr37 : zeroC Try.prog 37 = some (.agg [.t .nl, .t (.i .i64 0)]) := (zr_of Try.typeInfo37).trans rfl
@[simp] theorem by37 : (Try.prog.info? 37).map (·.bytes) = some 32 := by_of Try.typeInfo37
attribute [simp] Try.underlying37
@[simp] theorem sz38 : szOf Try.prog 38 = some 2 := sz_of Try.typeInfo38
@[simp] theorem ag38 : aggT Try.prog 38 = some true := by rw [aggT, Try.underlying38]
@[simp] theorem zr38 : zeroC Try.prog 38 = some (.agg [.t (.i .i64 0), .t .nl]) := (zr_of Try.typeInfo38).trans rfl
@[simp] theorem by38 : (Try.prog.info? 38).map (·.bytes) = some 32 := by_of Try.typeInfo38
attribute [simp] Try.underlying38
@[simp] theorem sz39 : szOf Try.prog 39 = some 2 := sz_of Try.typeInfo39
@[simp] theorem ag39 : aggT Try.prog 39 = some true := by rw [aggT, Try.underlying39]
@[simp] theorem zr39 : zeroC Try.prog 39 = some (.agg [.t (.i .i64 0), .t .nl]) := (zr_of Try.typeInfo39).trans rfl
@[simp] theorem by39 : (Try.prog.info? 39).map (·.bytes) = some 32 := by_of Try.typeInfo39
attribute [simp] Try.underlying39
@[simp] theorem sz40 : szOf Try.prog 40 = some 3 := sz_of Try.typeInfo40
@[simp] theorem ag40 : aggT Try.prog 40 = some true := by rw [aggT, Try.underlying40]
@[simp] theorem zr40 : zeroC Try.prog 40 = some (.agg [.t (.b false), .t (.i .i64 0), .t .nl]) := (zr_of Try.typeInfo40).trans rfl
@[simp] theorem by40 : (Try.prog.info? 40).map (·.bytes) = some 40 := by_of Try.typeInfo40
attribute [simp] Try.underlying40
@[simp] theorem sz41 : szOf Try.prog 41 = some 3 := sz_of Try.typeInfo41
@[simp] theorem ag41 : aggT Try.prog 41 = some true := by rw [aggT, Try.underlying41]
@[simp] theorem zr41 : zeroC Try.prog 41 = some (.agg [.t (.b false), .t (.i .i64 0), .t .nl]) := (zr_of Try.typeInfo41).trans rfl
@[simp] theorem by41 : (Try.prog.info? 41).map (·.bytes) = some 40 := by_of Try.typeInfo41
attribute [simp] Try.underlying41
@[simp] theorem sz43 : szOf Try.prog 43 = some 1 := sz_of Try.typeInfo43
@[simp] theorem ag43 : aggT Try.prog 43 = some false := by rw [aggT, Try.underlying43]
attribute [simp] Try.underlying43
@[simp] theorem sz45 : szOf Try.prog 45 = some 1 := sz_of Try.typeInfo45
@[simp] theorem ag45 : aggT Try.prog 45 = some false := by rw [aggT, Try.underlying45]
attribute [simp] Try.underlying45
@[simp] theorem sz46 : szOf Try.prog 46 = some 1 := sz_of Try.typeInfo46
@[simp] theorem ag46 : aggT Try.prog 46 = some false := by rw [aggT, Try.underlying46]
attribute [simp] Try.underlying46
@[simp] theorem sz47 : szOf Try.prog 47 = some 1 := sz_of Try.typeInfo47
@[simp] theorem ag47 : aggT Try.prog 47 = some false := by rw [aggT, Try.underlying47]
attribute [simp] Try.underlying47
@[simp] theorem sz48 : szOf Try.prog 48 = some 1 := sz_of Try.typeInfo48
@[simp] theorem ag48 : aggT Try.prog 48 = some false := by rw [aggT, Try.underlying48]
attribute [simp] Try.underlying48
@[simp] theorem sz49 : szOf Try.prog 49 = some 1 := sz_of Try.typeInfo49
@[simp] theorem ag49 : aggT Try.prog 49 = some true := by rw [aggT, Try.underlying49]
@[simp] theorem zr49 : zeroC Try.prog 49 = some (.agg [.t .nl]) := (zr_of Try.typeInfo49).trans rfl
@[simp] theorem by49 : (Try.prog.info? 49).map (·.bytes) = some 24 := by_of Try.typeInfo49
attribute [simp] Try.underlying49
@[simp] theorem sz50 : szOf Try.prog 50 = some 1 := sz_of Try.typeInfo50
@[simp] theorem ag50 : aggT Try.prog 50 = some false := by rw [aggT, Try.underlying50]
@[simp] theorem zr50 : zeroC Try.prog 50 = some (.t .nl) := (zr_of Try.typeInfo50).trans rfl
@[simp] theorem by50 : (Try.prog.info? 50).map (·.bytes) = some 24 := by_of Try.typeInfo50
attribute [simp] Try.underlying50
@[simp] theorem sz51 : szOf Try.prog 51 = some 1 := sz_of Try.typeInfo51
@[simp] theorem ag51 : aggT Try.prog 51 = some false := by rw [aggT, Try.underlying51]
@[simp] theorem zr51 : zeroC Try.prog 51 = some (.t .nl) := (zr_of Try.typeInfo51).trans rfl
@[simp] theorem by51 : (Try.prog.info? 51).map (·.bytes) = some 24 := by_of Try.typeInfo51
attribute [simp] Try.underlying51
@[simp] theorem sz52 : szOf Try.prog 52 = some 2 := sz_of Try.typeInfo52
@[simp] theorem ag52 : aggT Try.prog 52 = some true := by rw [aggT, Try.underlying52]
@[simp] theorem zr52 : zeroC Try.prog 52 = some (.agg [.t .nl, .t .nl]) := (zr_of Try.typeInfo52).trans rfl
@[simp] theorem by52 : (Try.prog.info? 52).map (·.bytes) = some 48 := by_of Try.typeInfo52
attribute [simp] Try.underlying52
@[simp] theorem sz53 : szOf Try.prog 53 = some 2 := sz_of Try.typeInfo53
@[simp] theorem ag53 : aggT Try.prog 53 = some true := by rw [aggT, Try.underlying53]
@[simp] theorem zr53 : zeroC Try.prog 53 = some (.agg [.t .nl, .t .nl]) := (zr_of Try.typeInfo53).trans rfl
@[simp] theorem by53 : (Try.prog.info? 53).map (·.bytes) = some 48 := by_of Try.typeInfo53
attribute [simp] Try.underlying53
@[simp] theorem sz54 : szOf Try.prog 54 = some 4 := sz_of Try.typeInfo54
@[simp] theorem ag54 : aggT Try.prog 54 = some true := by rw [aggT, Try.underlying54]
@[simp] theorem zr54 : zeroC Try.prog 54 = some (.agg [.t .nl, .t .nl, .t .nl, .t .nl]) := (zr_of Try.typeInfo54).trans rfl
@[simp] theorem by54 : (Try.prog.info? 54).map (·.bytes) = some 96 := by_of Try.typeInfo54
attribute [simp] Try.underlying54
@[simp] theorem sz55 : szOf Try.prog 55 = some 4 := sz_of Try.typeInfo55
@[simp] theorem ag55 : aggT Try.prog 55 = some true := by rw [aggT, Try.underlying55]
@[simp] theorem zr55 : zeroC Try.prog 55 = some (.agg [.t .nl, .t .nl, .t .nl, .t .nl]) := (zr_of Try.typeInfo55).trans rfl
@[simp] theorem by55 : (Try.prog.info? 55).map (·.bytes) = some 96 := by_of Try.typeInfo55
attribute [simp] Try.underlying55
@[simp] theorem sz56 : szOf Try.prog 56 = some 1 := sz_of Try.typeInfo56
@[simp] theorem ag56 : aggT Try.prog 56 = some false := by rw [aggT, Try.underlying56]
attribute [simp] Try.underlying56
@[simp] theorem sz57 : szOf Try.prog 57 = some 1 := sz_of Try.typeInfo57
@[simp] theorem ag57 : aggT Try.prog 57 = some false := by rw [aggT, Try.underlying57]
attribute [simp] Try.underlying57
@[simp] theorem sz58 : szOf Try.prog 58 = some 1 := sz_of Try.typeInfo58
@[simp] theorem ag58 : aggT Try.prog 58 = some false := by rw [aggT, Try.underlying58]
attribute [simp] Try.underlying58
@[simp] theorem sz59 : szOf Try.prog 59 = some 1 := sz_of Try.typeInfo59
@[simp] theorem ag59 : aggT Try.prog 59 = some false := by rw [aggT, Try.underlying59]
attribute [simp] Try.underlying59
@[simp] theorem sz60 : szOf Try.prog 60 = some 1 := sz_of Try.typeInfo60
@[simp] theorem ag60 : aggT Try.prog 60 = some false := by rw [aggT, Try.underlying60]
attribute [simp] Try.underlying60
@[simp] theorem sz61 : szOf Try.prog 61 = some 1 := sz_of Try.typeInfo61
@[simp] theorem ag61 : aggT Try.prog 61 = some false := by rw [aggT, Try.underlying61]
attribute [simp] Try.underlying61
@[simp] theorem sz62 : szOf Try.prog 62 = some 1 := sz_of Try.typeInfo62
@[simp] theorem ag62 : aggT Try.prog 62 = some false := by rw [aggT, Try.underlying62]
@[simp] theorem zr62 : zeroC Try.prog 62 = some (.t .nl) := (zr_of Try.typeInfo62).trans rfl
@[simp] theorem by62 : (Try.prog.info? 62).map (·.bytes) = some 24 := by_of Try.typeInfo62
attribute [simp] Try.underlying62
@[simp] theorem sz63 : szOf Try.prog 63 = some 1 := sz_of Try.typeInfo63
@[simp] theorem ag63 : aggT Try.prog 63 = some false := by rw [aggT, Try.underlying63]
attribute [simp] Try.underlying63
@[simp] theorem sz64 : szOf Try.prog 64 = some 1 := sz_of Try.typeInfo64
@[simp] theorem ag64 : aggT Try.prog 64 = some false := by rw [aggT, Try.underlying64]
@[simp] theorem zr64 : zeroC Try.prog 64 = some (.t .nl) := (zr_of Try.typeInfo64).trans rfl
@[simp] theorem by64 : (Try.prog.info? 64).map (·.bytes) = some 24 := by_of Try.typeInfo64
attribute [simp] Try.underlying64
@[simp] theorem sz65 : szOf Try.prog 65 = some 2 := sz_of Try.typeInfo65
@[simp] theorem ag65 : aggT Try.prog 65 = some true := by rw [aggT, Try.underlying65]
@[simp] theorem zr65 : zeroC Try.prog 65 = some (.agg [.t .nl, .t .nl]) := (zr_of Try.typeInfo65).trans rfl
@[simp] theorem by65 : (Try.prog.info? 65).map (·.bytes) = some 48 := by_of Try.typeInfo65
attribute [simp] Try.underlying65
@[simp] theorem sz66 : szOf Try.prog 66 = some 2 := sz_of Try.typeInfo66
@[simp] theorem ag66 : aggT Try.prog 66 = some true := by rw [aggT, Try.underlying66]
@[simp] theorem zr66 : zeroC Try.prog 66 = some (.agg [.t .nl, .t .nl]) := (zr_of Try.typeInfo66).trans rfl
@[simp] theorem by66 : (Try.prog.info? 66).map (·.bytes) = some 48 := by_of Try.typeInfo66
attribute [simp] Try.underlying66
@[simp] theorem sz67 : szOf Try.prog 67 = some 1 := sz_of Try.typeInfo67
@[simp] theorem ag67 : aggT Try.prog 67 = some false := by rw [aggT, Try.underlying67]
attribute [simp] Try.underlying67
@[simp] theorem sz68 : szOf Try.prog 68 = some 4 := sz_of Try.typeInfo68
@[simp] theorem ag68 : aggT Try.prog 68 = some true := by rw [aggT, Try.underlying68]
@[simp] theorem zr68 : zeroC Try.prog 68 = some (.agg [.t .nl, .t .nl, .t .nl, .t .nl]) := (zr_of Try.typeInfo68).trans rfl
@[simp] theorem by68 : (Try.prog.info? 68).map (·.bytes) = some 96 := by_of Try.typeInfo68
attribute [simp] Try.underlying68
@[simp] theorem sz69 : szOf Try.prog 69 = some 4 := sz_of Try.typeInfo69
@[simp] theorem ag69 : aggT Try.prog 69 = some true := by rw [aggT, Try.underlying69]
@[simp] theorem zr69 : zeroC Try.prog 69 = some (.agg [.t .nl, .t .nl, .t .nl, .t .nl]) := (zr_of Try.typeInfo69).trans rfl
@[simp] theorem by69 : (Try.prog.info? 69).map (·.bytes) = some 96 := by_of Try.typeInfo69
attribute [simp] Try.underlying69
@[simp] theorem sz70 : szOf Try.prog 70 = some 1 := sz_of Try.typeInfo70
@[simp] theorem ag70 : aggT Try.prog 70 = some false := by rw [aggT, Try.underlying70]
attribute [simp] Try.underlying70
@[simp] theorem sz71 : szOf Try.prog 71 = some 1 := sz_of Try.typeInfo71
@[simp] theorem ag71 : aggT Try.prog 71 = some false := by rw [aggT, Try.underlying71]
attribute [simp] Try.underlying71
@[simp] theorem sz72 : szOf Try.prog 72 = some 1 := sz_of Try.typeInfo72
@[simp] theorem ag72 : aggT Try.prog 72 = some false := by rw [aggT, Try.underlying72]
attribute [simp] Try.underlying72
@[simp] theorem sz73 : szOf Try.prog 73 = some 1 := sz_of Try.typeInfo73
@[simp] theorem ag73 : aggT Try.prog 73 = some false := by rw [aggT, Try.underlying73]
attribute [simp] Try.underlying73
@[simp] theorem sz74 : szOf Try.prog 74 = some 1 := sz_of Try.typeInfo74
@[simp] theorem ag74 : aggT Try.prog 74 = some false := by rw [aggT, Try.underlying74]
attribute [simp] Try.underlying74
@[simp] theorem sz75 : szOf Try.prog 75 = some 1 := sz_of Try.typeInfo75
@[simp] theorem ag75 : aggT Try.prog 75 = some false := by rw [aggT, Try.underlying75]
attribute [simp] Try.underlying75
@[simp] theorem sz76 : szOf Try.prog 76 = some 1 := sz_of Try.typeInfo76
@[simp] theorem ag76 : aggT Try.prog 76 = some false := by rw [aggT, Try.underlying76]
attribute [simp] Try.underlying76
@[simp] theorem sz77 : szOf Try.prog 77 = some 2 := sz_of Try.typeInfo77
@[simp] theorem ag77 : aggT Try.prog 77 = some true := by rw [aggT, Try.underlying77]
@[simp] theorem zr77 : zeroC Try.prog 77 = some (.agg [.t .nl, .t (.i .i64 0)]) := (zr_of Try.typeInfo77).trans rfl
@[simp] theorem by77 : (Try.prog.info? 77).map (·.bytes) = some 32 := by_of Try.typeInfo77
attribute [simp] Try.underlying77
@[simp] theorem sz78 : szOf Try.prog 78 = some 2 := sz_of Try.typeInfo78
@[simp] theorem ag78 : aggT Try.prog 78 = some true := by rw [aggT, Try.underlying78]
@[simp] theorem zr78 : zeroC Try.prog 78 = some (.agg [.t .nl, .t (.i .i64 0)]) := (zr_of Try.typeInfo78).trans rfl
@[simp] theorem by78 : (Try.prog.info? 78).map (·.bytes) = some 32 := by_of Try.typeInfo78
attribute [simp] Try.underlying78
@[simp] theorem sz79 : szOf Try.prog 79 = some 1 := sz_of Try.typeInfo79
@[simp] theorem ag79 : aggT Try.prog 79 = some false := by rw [aggT, Try.underlying79]
attribute [simp] Try.underlying79
@[simp] theorem sz80 : szOf Try.prog 80 = some 1 := sz_of Try.typeInfo80
@[simp] theorem ag80 : aggT Try.prog 80 = some false := by rw [aggT, Try.underlying80]
attribute [simp] Try.underlying80
@[simp] theorem sz81 : szOf Try.prog 81 = some 2 := sz_of Try.typeInfo81
@[simp] theorem ag81 : aggT Try.prog 81 = some true := by rw [aggT, Try.underlying81]
@[simp] theorem zr81 : zeroC Try.prog 81 = some (.agg [.t .nl, .t (.i .i64 0)]) := (zr_of Try.typeInfo81).trans rfl
@[simp] theorem by81 : (Try.prog.info? 81).map (·.bytes) = some 32 := by_of Try.typeInfo81
attribute [simp] Try.underlying81
@[simp] theorem sz82 : szOf Try.prog 82 = some 1 := sz_of Try.typeInfo82
@[simp] theorem ag82 : aggT Try.prog 82 = some false := by rw [aggT, Try.underlying82]
attribute [simp] Try.underlying82
@[simp] theorem sz83 : szOf Try.prog 83 = some 1 := sz_of Try.typeInfo83
@[simp] theorem ag83 : aggT Try.prog 83 = some false := by rw [aggT, Try.underlying83]
attribute [simp] Try.underlying83
@[simp] theorem sz84 : szOf Try.prog 84 = some 1 := sz_of Try.typeInfo84
@[simp] theorem ag84 : aggT Try.prog 84 = some false := by rw [aggT, Try.underlying84]
attribute [simp] Try.underlying84
@[simp] theorem sz85 : szOf Try.prog 85 = some 1 := sz_of Try.typeInfo85
@[simp] theorem ag85 : aggT Try.prog 85 = some false := by rw [aggT, Try.underlying85]
attribute [simp] Try.underlying85
@[simp] theorem sz86 : szOf Try.prog 86 = some 1 := sz_of Try.typeInfo86
@[simp] theorem ag86 : aggT Try.prog 86 = some false := by rw [aggT, Try.underlying86]
attribute [simp] Try.underlying86
@[simp] theorem sz87 : szOf Try.prog 87 = some 1 := sz_of Try.typeInfo87
@[simp] theorem ag87 : aggT Try.prog 87 = some false := by rw [aggT, Try.underlying87]
attribute [simp] Try.underlying87
@[simp] theorem sz88 : szOf Try.prog 88 = some 1 := sz_of Try.typeInfo88
@[simp] theorem ag88 : aggT Try.prog 88 = some false := by rw [aggT, Try.underlying88]
attribute [simp] Try.underlying88
@[simp] theorem sz89 : szOf Try.prog 89 = some 1 := sz_of Try.typeInfo89
@[simp] theorem ag89 : aggT Try.prog 89 = some false := by rw [aggT, Try.underlying89]
attribute [simp] Try.underlying89
@[simp] theorem sz90 : szOf Try.prog 90 = some 1 := sz_of Try.typeInfo90
@[simp] theorem ag90 : aggT Try.prog 90 = some false := by rw [aggT, Try.underlying90]
@[simp] theorem zr90 : zeroC Try.prog 90 = some (.np) := (zr_of Try.typeInfo90).trans rfl
@[simp] theorem by90 : (Try.prog.info? 90).map (·.bytes) = some 8 := by_of Try.typeInfo90
attribute [simp] Try.underlying90
@[simp] theorem sz91 : szOf Try.prog 91 = some 1 := sz_of Try.typeInfo91
@[simp] theorem ag91 : aggT Try.prog 91 = some false := by rw [aggT, Try.underlying91]
attribute [simp] Try.underlying91
@[simp] theorem sz93 : szOf Try.prog 93 = some 1 := sz_of Try.typeInfo93
@[simp] theorem ag93 : aggT Try.prog 93 = some false := by rw [aggT, Try.underlying93]
attribute [simp] Try.underlying93
@[simp] theorem sz94 : szOf Try.prog 94 = some 1 := sz_of Try.typeInfo94
@[simp] theorem ag94 : aggT Try.prog 94 = some false := by rw [aggT, Try.underlying94]
attribute [simp] Try.underlying94
@[simp] theorem sz95 : szOf Try.prog 95 = some 1 := sz_of Try.typeInfo95
@[simp] theorem ag95 : aggT Try.prog 95 = some false := by rw [aggT, Try.underlying95]
attribute [simp] Try.underlying95
@[simp] theorem sz97 : szOf Try.prog 97 = some 1 := sz_of Try.typeInfo97
@[simp] theorem ag97 : aggT Try.prog 97 = some false := by rw [aggT, Try.underlying97]
attribute [simp] Try.underlying97
@[simp] theorem sz98 : szOf Try.prog 98 = some 1 := sz_of Try.typeInfo98
@[simp] theorem ag98 : aggT Try.prog 98 = some false := by rw [aggT, Try.underlying98]
attribute [simp] Try.underlying98
@[simp] theorem sz99 : szOf Try.prog 99 = some 1 := sz_of Try.typeInfo99
@[simp] theorem ag99 : aggT Try.prog 99 = some false := by rw [aggT, Try.underlying99]
attribute [simp] Try.underlying99
@[simp] theorem sz100 : szOf Try.prog 100 = some 1 := sz_of Try.typeInfo100
@[simp] theorem ag100 : aggT Try.prog 100 = some false := by rw [aggT, Try.underlying100]
attribute [simp] Try.underlying100
@[simp] theorem sz101 : szOf Try.prog 101 = some 1 := sz_of Try.typeInfo101
@[simp] theorem ag101 : aggT Try.prog 101 = some false := by rw [aggT, Try.underlying101]
attribute [simp] Try.underlying101
@[simp] theorem sz102 : szOf Try.prog 102 = some 1 := sz_of Try.typeInfo102
@[simp] theorem ag102 : aggT Try.prog 102 = some false := by rw [aggT, Try.underlying102]
attribute [simp] Try.underlying102
@[simp] theorem sz103 : szOf Try.prog 103 = some 1 := sz_of Try.typeInfo103
@[simp] theorem ag103 : aggT Try.prog 103 = some false := by rw [aggT, Try.underlying103]
attribute [simp] Try.underlying103
@[simp] theorem sz104 : szOf Try.prog 104 = some 1 := sz_of Try.typeInfo104
@[simp] theorem ag104 : aggT Try.prog 104 = some false := by rw [aggT, Try.underlying104]
attribute [simp] Try.underlying104
@[simp] theorem sz106 : szOf Try.prog 106 = some 1 := sz_of Try.typeInfo106
@[simp] theorem ag106 : aggT Try.prog 106 = some false := by rw [aggT, Try.underlying106]
attribute [simp] Try.underlying106
@[simp] theorem sz107 : szOf Try.prog 107 = some 1 := sz_of Try.typeInfo107
@[simp] theorem ag107 : aggT Try.prog 107 = some false := by rw [aggT, Try.underlying107]
attribute [simp] Try.underlying107
@[simp] theorem sz108 : szOf Try.prog 108 = some 1 := sz_of Try.typeInfo108
@[simp] theorem ag108 : aggT Try.prog 108 = some false := by rw [aggT, Try.underlying108]
attribute [simp] Try.underlying108
@[simp] theorem sz109 : szOf Try.prog 109 = some 1 := sz_of Try.typeInfo109
@[simp] theorem ag109 : aggT Try.prog 109 = some false := by rw [aggT, Try.underlying109]
attribute [simp] Try.underlying109
@[simp] theorem sz110 : szOf Try.prog 110 = some 1 := sz_of Try.typeInfo110
@[simp] theorem ag110 : aggT Try.prog 110 = some false := by rw [aggT, Try.underlying110]
attribute [simp] Try.underlying110
@[simp] theorem sz111 : szOf Try.prog 111 = some 1 := sz_of Try.typeInfo111
@[simp] theorem ag111 : aggT Try.prog 111 = some false := by rw [aggT, Try.underlying111]
attribute [simp] Try.underlying111
@[simp] theorem sz112 : szOf Try.prog 112 = some 1 := sz_of Try.typeInfo112
@[simp] theorem ag112 : aggT Try.prog 112 = some false := by rw [aggT, Try.underlying112]
attribute [simp] Try.underlying112
@[simp] theorem sz113 : szOf Try.prog 113 = some 1 := sz_of Try.typeInfo113
@[simp] theorem ag113 : aggT Try.prog 113 = some false := by rw [aggT, Try.underlying113]
attribute [simp] Try.underlying113
@[simp] theorem sz114 : szOf Try.prog 114 = some 1 := sz_of Try.typeInfo114
@[simp] theorem ag114 : aggT Try.prog 114 = some false := by rw [aggT, Try.underlying114]
attribute [simp] Try.underlying114
@[simp] theorem sz115 : szOf Try.prog 115 = some 1 := sz_of Try.typeInfo115
@[simp] theorem ag115 : aggT Try.prog 115 = some false := by rw [aggT, Try.underlying115]
attribute [simp] Try.underlying115
@[simp] theorem sz116 : szOf Try.prog 116 = some 1 := sz_of Try.typeInfo116
@[simp] theorem ag116 : aggT Try.prog 116 = some false := by rw [aggT, Try.underlying116]
@[simp] theorem zr116 : zeroC Try.prog 116 = some (.t (.i .u64 0)) := (zr_of Try.typeInfo116).trans rfl
@[simp] theorem by116 : (Try.prog.info? 116).map (·.bytes) = some 8 := by_of Try.typeInfo116
attribute [simp] Try.underlying116
@[simp] theorem sz117 : szOf Try.prog 117 = some 1 := sz_of Try.typeInfo117
@[simp] theorem ag117 : aggT Try.prog 117 = some false := by rw [aggT, Try.underlying117]
attribute [simp] Try.underlying117
@[simp] theorem sz118 : szOf Try.prog 118 = some 3 := sz_of Try.typeInfo118
@[simp] theorem ag118 : aggT Try.prog 118 = some true := by rw [aggT, Try.underlying118]
@[simp] theorem zr118 : zeroC Try.prog 118 = some (.agg [.t .nl, .t (.i .i64 0), .t (.i .i64 0)]) := (zr_of Try.typeInfo118).trans rfl
@[simp] theorem by118 : (Try.prog.info? 118).map (·.bytes) = some 40 := by_of Try.typeInfo118
attribute [simp] Try.underlying118
@[simp] theorem sz119 : szOf Try.prog 119 = some 3 := sz_of Try.typeInfo119
@[simp] theorem ag119 : aggT Try.prog 119 = some true := by rw [aggT, Try.underlying119]
@[simp] theorem zr119 : zeroC Try.prog 119 = some (.agg [.t .nl, .t (.i .i64 0), .t (.i .i64 0)]) := (zr_of Try.typeInfo119).trans rfl
@[simp] theorem by119 : (Try.prog.info? 119).map (·.bytes) = some 40 := by_of Try.typeInfo119
attribute [simp] Try.underlying119
@[simp] theorem sz121 : szOf Try.prog 121 = some 1 := sz_of Try.typeInfo121
@[simp] theorem ag121 : aggT Try.prog 121 = some false := by rw [aggT, Try.underlying121]
attribute [simp] Try.underlying121
@[simp] theorem sz122 : szOf Try.prog 122 = some 1 := sz_of Try.typeInfo122
@[simp] theorem ag122 : aggT Try.prog 122 = some false := by rw [aggT, Try.underlying122]
attribute [simp] Try.underlying122
@[simp] theorem sz123 : szOf Try.prog 123 = some 1 := sz_of Try.typeInfo123
@[simp] theorem ag123 : aggT Try.prog 123 = some false := by rw [aggT, Try.underlying123]
attribute [simp] Try.underlying123
@[simp] theorem sz124 : szOf Try.prog 124 = some 1 := sz_of Try.typeInfo124
@[simp] theorem ag124 : aggT Try.prog 124 = some false := by rw [aggT, Try.underlying124]
attribute [simp] Try.underlying124
@[simp] theorem sz125 : szOf Try.prog 125 = some 1 := sz_of Try.typeInfo125
@[simp] theorem ag125 : aggT Try.prog 125 = some false := by rw [aggT, Try.underlying125]
attribute [simp] Try.underlying125
@[simp] theorem sz126 : szOf Try.prog 126 = some 1 := sz_of Try.typeInfo126
@[simp] theorem ag126 : aggT Try.prog 126 = some false := by rw [aggT, Try.underlying126]
attribute [simp] Try.underlying126
@[simp] theorem sz127 : szOf Try.prog 127 = some 1 := sz_of Try.typeInfo127
@[simp] theorem ag127 : aggT Try.prog 127 = some false := by rw [aggT, Try.underlying127]
attribute [simp] Try.underlying127
@[simp] theorem sz128 : szOf Try.prog 128 = some 1 := sz_of Try.typeInfo128
@[simp] theorem ag128 : aggT Try.prog 128 = some false := by rw [aggT, Try.underlying128]
attribute [simp] Try.underlying128
@[simp] theorem sz129 : szOf Try.prog 129 = some 1 := sz_of Try.typeInfo129
@[simp] theorem ag129 : aggT Try.prog 129 = some false := by rw [aggT, Try.underlying129]
attribute [simp] Try.underlying129
@[simp] theorem sz130 : szOf Try.prog 130 = some 1 := sz_of Try.typeInfo130
@[simp] theorem ag130 : aggT Try.prog 130 = some false := by rw [aggT, Try.underlying130]
attribute [simp] Try.underlying130
@[simp] theorem sz131 : szOf Try.prog 131 = some 1 := sz_of Try.typeInfo131
@[simp] theorem ag131 : aggT Try.prog 131 = some false := by rw [aggT, Try.underlying131]
attribute [simp] Try.underlying131
@[simp] theorem sz132 : szOf Try.prog 132 = some 1 := sz_of Try.typeInfo132
@[simp] theorem ag132 : aggT Try.prog 132 = some false := by rw [aggT, Try.underlying132]
attribute [simp] Try.underlying132
@[simp] theorem sz133 : szOf Try.prog 133 = some 2 := sz_of Try.typeInfo133
@[simp] theorem ag133 : aggT Try.prog 133 = some true := by rw [aggT, Try.underlying133]
@[simp] theorem zr133 : zeroC Try.prog 133 = some (.agg [.t (.i .i64 0), .t .nl]) := (zr_of Try.typeInfo133).trans rfl
@[simp] theorem by133 : (Try.prog.info? 133).map (·.bytes) = some 32 := by_of Try.typeInfo133
attribute [simp] Try.underlying133
@[simp] theorem sz134 : szOf Try.prog 134 = some 1 := sz_of Try.typeInfo134
@[simp] theorem ag134 : aggT Try.prog 134 = some false := by rw [aggT, Try.underlying134]
attribute [simp] Try.underlying134
@[simp] theorem sz135 : szOf Try.prog 135 = some 1 := sz_of Try.typeInfo135
@[simp] theorem ag135 : aggT Try.prog 135 = some false := by rw [aggT, Try.underlying135]
attribute [simp] Try.underlying135
@[simp] theorem sz136 : szOf Try.prog 136 = some 1 := sz_of Try.typeInfo136
@[simp] theorem ag136 : aggT Try.prog 136 = some false := by rw [aggT, Try.underlying136]
attribute [simp] Try.underlying136
@[simp] theorem sz137 : szOf Try.prog 137 = some 1 := sz_of Try.typeInfo137
@[simp] theorem ag137 : aggT Try.prog 137 = some false := by rw [aggT, Try.underlying137]
attribute [simp] Try.underlying137
@[simp] theorem sz138 : szOf Try.prog 138 = some 2 := sz_of Try.typeInfo138
@[simp] theorem ag138 : aggT Try.prog 138 = some true := by rw [aggT, Try.underlying138]
@[simp] theorem zr138 : zeroC Try.prog 138 = some (.agg [.t (.i .i64 0), .t .nl]) := (zr_of Try.typeInfo138).trans rfl
@[simp] theorem by138 : (Try.prog.info? 138).map (·.bytes) = some 32 := by_of Try.typeInfo138
attribute [simp] Try.underlying138
@[simp] theorem sz139 : szOf Try.prog 139 = some 1 := sz_of Try.typeInfo139
@[simp] theorem ag139 : aggT Try.prog 139 = some false := by rw [aggT, Try.underlying139]
attribute [simp] Try.underlying139
@[simp] theorem sz140 : szOf Try.prog 140 = some 1 := sz_of Try.typeInfo140
@[simp] theorem ag140 : aggT Try.prog 140 = some false := by rw [aggT, Try.underlying140]
attribute [simp] Try.underlying140
@[simp] theorem sz141 : szOf Try.prog 141 = some 1 := sz_of Try.typeInfo141
@[simp] theorem ag141 : aggT Try.prog 141 = some false := by rw [aggT, Try.underlying141]
@[simp] theorem zr141 : zeroC Try.prog 141 = some (.t .nl) := (zr_of Try.typeInfo141).trans rfl
@[simp] theorem by141 : (Try.prog.info? 141).map (·.bytes) = some 24 := by_of Try.typeInfo141
attribute [simp] Try.underlying141
@[simp] theorem sz142 : szOf Try.prog 142 = some 1 := sz_of Try.typeInfo142
@[simp] theorem ag142 : aggT Try.prog 142 = some false := by rw [aggT, Try.underlying142]
attribute [simp] Try.underlying142
@[simp] theorem sz143 : szOf Try.prog 143 = some 1 := sz_of Try.typeInfo143
@[simp] theorem ag143 : aggT Try.prog 143 = some false := by rw [aggT, Try.underlying143]
attribute [simp] Try.underlying143
@[simp] theorem sz144 : szOf Try.prog 144 = some 1 := sz_of Try.typeInfo144
@[simp] theorem ag144 : aggT Try.prog 144 = some false := by rw [aggT, Try.underlying144]
attribute [simp] Try.underlying144
@[simp] theorem sz145 : szOf Try.prog 145 = some 1 := sz_of Try.typeInfo145
@[simp] theorem ag145 : aggT Try.prog 145 = some false := by rw [aggT, Try.underlying145]
attribute [simp] Try.underlying145
@[simp] theorem sz146 : szOf Try.prog 146 = some 1 := sz_of Try.typeInfo146
@[simp] theorem ag146 : aggT Try.prog 146 = some false := by rw [aggT, Try.underlying146]
attribute [simp] Try.underlying146
@[simp] theorem sz147 : szOf Try.prog 147 = some 1 := sz_of Try.typeInfo147
@[simp] theorem ag147 : aggT Try.prog 147 = some false := by rw [aggT, Try.underlying147]
attribute [simp] Try.underlying147
@[simp] theorem sz148 : szOf Try.prog 148 = some 1 := sz_of Try.typeInfo148
@[simp] theorem ag148 : aggT Try.prog 148 = some false := by rw [aggT, Try.underlying148]
attribute [simp] Try.underlying148
@[simp] theorem sz149 : szOf Try.prog 149 = some 1 := sz_of Try.typeInfo149
@[simp] theorem ag149 : aggT Try.prog 149 = some false := by rw [aggT, Try.underlying149]
attribute [simp] Try.underlying149
@[simp] theorem sz150 : szOf Try.prog 150 = some 1 := sz_of Try.typeInfo150
@[simp] theorem ag150 : aggT Try.prog 150 = some false := by rw [aggT, Try.underlying150]
attribute [simp] Try.underlying150
@[simp] theorem sz151 : szOf Try.prog 151 = some 1 := sz_of Try.typeInfo151
@[simp] theorem ag151 : aggT Try.prog 151 = some false := by rw [aggT, Try.underlying151]
attribute [simp] Try.underlying151
@[simp] theorem sz152 : szOf Try.prog 152 = some 1 := sz_of Try.typeInfo152
@[simp] theorem ag152 : aggT Try.prog 152 = some false := by rw [aggT, Try.underlying152]
attribute [simp] Try.underlying152
@[simp] theorem sz153 : szOf Try.prog 153 = some 1 := sz_of Try.typeInfo153
@[simp] theorem ag153 : aggT Try.prog 153 = some false := by rw [aggT, Try.underlying153]
attribute [simp] Try.underlying153
@[simp] theorem sz154 : szOf Try.prog 154 = some 1 := sz_of Try.typeInfo154
@[simp] theorem ag154 : aggT Try.prog 154 = some false := by rw [aggT, Try.underlying154]
@[simp] theorem zr154 : zeroC Try.prog 154 = some (.t (.i .i64 0)) := (zr_of Try.typeInfo154).trans rfl
@[simp] theorem by154 : (Try.prog.info? 154).map (·.bytes) = some 8 := by_of Try.typeInfo154
attribute [simp] Try.underlying154
@[simp] theorem sz156 : szOf Try.prog 156 = some 1 := sz_of Try.typeInfo156
@[simp] theorem ag156 : aggT Try.prog 156 = some false := by rw [aggT, Try.underlying156]
attribute [simp] Try.underlying156
@[simp] theorem sz157 : szOf Try.prog 157 = some 1 := sz_of Try.typeInfo157
@[simp] theorem ag157 : aggT Try.prog 157 = some false := by rw [aggT, Try.underlying157]
attribute [simp] Try.underlying157
@[simp] theorem sz158 : szOf Try.prog 158 = some 1 := sz_of Try.typeInfo158
@[simp] theorem ag158 : aggT Try.prog 158 = some false := by rw [aggT, Try.underlying158]
attribute [simp] Try.underlying158
@[simp] theorem sz160 : szOf Try.prog 160 = some 1 := sz_of Try.typeInfo160
@[simp] theorem ag160 : aggT Try.prog 160 = some false := by rw [aggT, Try.underlying160]
attribute [simp] Try.underlying160
@[simp] theorem sz161 : szOf Try.prog 161 = some 1 := sz_of Try.typeInfo161
@[simp] theorem ag161 : aggT Try.prog 161 = some false := by rw [aggT, Try.underlying161]
attribute [simp] Try.underlying161
@[simp] theorem sz162 : szOf Try.prog 162 = some 1 := sz_of Try.typeInfo162
@[simp] theorem ag162 : aggT Try.prog 162 = some false := by rw [aggT, Try.underlying162]
@[simp] theorem zr162 : zeroC Try.prog 162 = some (.t (.i .u32 0)) := (zr_of Try.typeInfo162).trans rfl
@[simp] theorem by162 : (Try.prog.info? 162).map (·.bytes) = some 4 := by_of Try.typeInfo162
attribute [simp] Try.underlying162
@[simp] theorem sz163 : szOf Try.prog 163 = some 1 := sz_of Try.typeInfo163
@[simp] theorem ag163 : aggT Try.prog 163 = some false := by rw [aggT, Try.underlying163]
attribute [simp] Try.underlying163
@[simp] theorem sz164 : szOf Try.prog 164 = some 1 := sz_of Try.typeInfo164
@[simp] theorem ag164 : aggT Try.prog 164 = some false := by rw [aggT, Try.underlying164]
@[simp] theorem zr164 : zeroC Try.prog 164 = some (.t (.i .u64 0)) := (zr_of Try.typeInfo164).trans rfl
@[simp] theorem by164 : (Try.prog.info? 164).map (·.bytes) = some 8 := by_of Try.typeInfo164
attribute [simp] Try.underlying164
@[simp] theorem sz165 : szOf Try.prog 165 = some 1 := sz_of Try.typeInfo165
@[simp] theorem ag165 : aggT Try.prog 165 = some false := by rw [aggT, Try.underlying165]
attribute [simp] Try.underlying165
@[simp] theorem sz166 : szOf Try.prog 166 = some 1 := sz_of Try.typeInfo166
@[simp] theorem ag166 : aggT Try.prog 166 = some false := by rw [aggT, Try.underlying166]
attribute [simp] Try.underlying166
@[simp] theorem sz167 : szOf Try.prog 167 = some 1 := sz_of Try.typeInfo167
@[simp] theorem ag167 : aggT Try.prog 167 = some false := by rw [aggT, Try.underlying167]
attribute [simp] Try.underlying167
@[simp] theorem sz168 : szOf Try.prog 168 = some 1 := sz_of Try.typeInfo168
@[simp] theorem ag168 : aggT Try.prog 168 = some false := by rw [aggT, Try.underlying168]
attribute [simp] Try.underlying168
@[simp] theorem sz169 : szOf Try.prog 169 = some 1 := sz_of Try.typeInfo169
@[simp] theorem ag169 : aggT Try.prog 169 = some false := by rw [aggT, Try.underlying169]
attribute [simp] Try.underlying169
@[simp] theorem sz170 : szOf Try.prog 170 = some 1 := sz_of Try.typeInfo170
@[simp] theorem ag170 : aggT Try.prog 170 = some false := by rw [aggT, Try.underlying170]
attribute [simp] Try.underlying170
@[simp] theorem sz171 : szOf Try.prog 171 = some 1 := sz_of Try.typeInfo171
@[simp] theorem ag171 : aggT Try.prog 171 = some false := by rw [aggT, Try.underlying171]
attribute [simp] Try.underlying171
@[simp] theorem sz172 : szOf Try.prog 172 = some 1 := sz_of Try.typeInfo172
@[simp] theorem ag172 : aggT Try.prog 172 = some false := by rw [aggT, Try.underlying172]
attribute [simp] Try.underlying172
@[simp] theorem sz174 : szOf Try.prog 174 = some 1 := sz_of Try.typeInfo174
@[simp] theorem ag174 : aggT Try.prog 174 = some false := by rw [aggT, Try.underlying174]
attribute [simp] Try.underlying174
@[simp] theorem sz175 : szOf Try.prog 175 = some 1 := sz_of Try.typeInfo175
@[simp] theorem ag175 : aggT Try.prog 175 = some false := by rw [aggT, Try.underlying175]
attribute [simp] Try.underlying175
@[simp] theorem sz176 : szOf Try.prog 176 = some 1 := sz_of Try.typeInfo176
@[simp] theorem ag176 : aggT Try.prog 176 = some false := by rw [aggT, Try.underlying176]
attribute [simp] Try.underlying176
@[simp] theorem sz177 : szOf Try.prog 177 = some 1 := sz_of Try.typeInfo177
@[simp] theorem ag177 : aggT Try.prog 177 = some false := by rw [aggT, Try.underlying177]
attribute [simp] Try.underlying177
@[simp] theorem sz178 : szOf Try.prog 178 = some 1 := sz_of Try.typeInfo178
@[simp] theorem ag178 : aggT Try.prog 178 = some false := by rw [aggT, Try.underlying178]
attribute [simp] Try.underlying178
@[simp] theorem sz179 : szOf Try.prog 179 = some 1 := sz_of Try.typeInfo179
@[simp] theorem ag179 : aggT Try.prog 179 = some false := by rw [aggT, Try.underlying179]
@[simp] theorem zr179 : zeroC Try.prog 179 = some (.t (.i .u64 0)) := (zr_of Try.typeInfo179).trans rfl
@[simp] theorem by179 : (Try.prog.info? 179).map (·.bytes) = some 8 := by_of Try.typeInfo179
attribute [simp] Try.underlying179
@[simp] theorem sz180 : szOf Try.prog 180 = some 1 := sz_of Try.typeInfo180
@[simp] theorem ag180 : aggT Try.prog 180 = some false := by rw [aggT, Try.underlying180]
attribute [simp] Try.underlying180
@[simp] theorem sz181 : szOf Try.prog 181 = some 1 := sz_of Try.typeInfo181
@[simp] theorem ag181 : aggT Try.prog 181 = some false := by rw [aggT, Try.underlying181]
attribute [simp] Try.underlying181
@[simp] theorem sz182 : szOf Try.prog 182 = some 1 := sz_of Try.typeInfo182
@[simp] theorem ag182 : aggT Try.prog 182 = some false := by rw [aggT, Try.underlying182]
attribute [simp] Try.underlying182
@[simp] theorem sz183 : szOf Try.prog 183 = some 1 := sz_of Try.typeInfo183
@[simp] theorem ag183 : aggT Try.prog 183 = some false := by rw [aggT, Try.underlying183]
@[simp] theorem zr183 : zeroC Try.prog 183 = some (.np) := (zr_of Try.typeInfo183).trans rfl
@[simp] theorem by183 : (Try.prog.info? 183).map (·.bytes) = some 8 := by_of Try.typeInfo183
attribute [simp] Try.underlying183
@[simp] theorem sz184 : szOf Try.prog 184 = some 1 := sz_of Try.typeInfo184
@[simp] theorem ag184 : aggT Try.prog 184 = some false := by rw [aggT, Try.underlying184]
attribute [simp] Try.underlying184
@[simp] theorem sz185 : szOf Try.prog 185 = some 1 := sz_of Try.typeInfo185
@[simp] theorem ag185 : aggT Try.prog 185 = some false := by rw [aggT, Try.underlying185]
attribute [simp] Try.underlying185
@[simp] theorem sz186 : szOf Try.prog 186 = some 1 := sz_of Try.typeInfo186
@[simp] theorem ag186 : aggT Try.prog 186 = some false := by rw [aggT, Try.underlying186]
attribute [simp] Try.underlying186
@[simp] theorem sz187 : szOf Try.prog 187 = some 1 := sz_of Try.typeInfo187
@[simp] theorem ag187 : aggT Try.prog 187 = some false := by rw [aggT, Try.underlying187]
attribute [simp] Try.underlying187
@[simp] theorem sz188 : szOf Try.prog 188 = some 1 := sz_of Try.typeInfo188
@[simp] theorem ag188 : aggT Try.prog 188 = some false := by rw [aggT, Try.underlying188]
attribute [simp] Try.underlying188
@[simp] theorem sz189 : szOf Try.prog 189 = some 1 := sz_of Try.typeInfo189
@[simp] theorem ag189 : aggT Try.prog 189 = some false := by rw [aggT, Try.underlying189]
attribute [simp] Try.underlying189
@[simp] theorem sz190 : szOf Try.prog 190 = some 1 := sz_of Try.typeInfo190
@[simp] theorem ag190 : aggT Try.prog 190 = some false := by rw [aggT, Try.underlying190]
@[simp] theorem zr190 : zeroC Try.prog 190 = some (.np) := (zr_of Try.typeInfo190).trans rfl
@[simp] theorem by190 : (Try.prog.info? 190).map (·.bytes) = some 8 := by_of Try.typeInfo190
attribute [simp] Try.underlying190
@[simp] theorem sz192 : szOf Try.prog 192 = some 1 := sz_of Try.typeInfo192
@[simp] theorem ag192 : aggT Try.prog 192 = some false := by rw [aggT, Try.underlying192]
attribute [simp] Try.underlying192
@[simp] theorem sz193 : szOf Try.prog 193 = some 1 := sz_of Try.typeInfo193
@[simp] theorem ag193 : aggT Try.prog 193 = some false := by rw [aggT, Try.underlying193]
attribute [simp] Try.underlying193
@[simp] theorem sz194 : szOf Try.prog 194 = some 1 := sz_of Try.typeInfo194
@[simp] theorem ag194 : aggT Try.prog 194 = some false := by rw [aggT, Try.underlying194]
attribute [simp] Try.underlying194
@[simp] theorem sz195 : szOf Try.prog 195 = some 1 := sz_of Try.typeInfo195
@[simp] theorem ag195 : aggT Try.prog 195 = some false := by rw [aggT, Try.underlying195]
attribute [simp] Try.underlying195
@[simp] theorem sz196 : szOf Try.prog 196 = some 1 := sz_of Try.typeInfo196
@[simp] theorem ag196 : aggT Try.prog 196 = some false := by rw [aggT, Try.underlying196]
attribute [simp] Try.underlying196
@[simp] theorem sz197 : szOf Try.prog 197 = some 1 := sz_of Try.typeInfo197
@[simp] theorem ag197 : aggT Try.prog 197 = some false := by rw [aggT, Try.underlying197]
attribute [simp] Try.underlying197
@[simp] theorem sz198 : szOf Try.prog 198 = some 1 := sz_of Try.typeInfo198
@[simp] theorem ag198 : aggT Try.prog 198 = some false := by rw [aggT, Try.underlying198]
attribute [simp] Try.underlying198
@[simp] theorem sz199 : szOf Try.prog 199 = some 4 := sz_of Try.typeInfo199
@[simp] theorem ag199 : aggT Try.prog 199 = some true := by rw [aggT, Try.underlying199]
attribute [simp] Try.underlying199
@[simp] theorem sz200 : szOf Try.prog 200 = some 4 := sz_of Try.typeInfo200
@[simp] theorem ag200 : aggT Try.prog 200 = some true := by rw [aggT, Try.underlying200]
attribute [simp] Try.underlying200
@[simp] theorem sz201 : szOf Try.prog 201 = some 0 := sz_of Try.typeInfo201
@[simp] theorem ag201 : aggT Try.prog 201 = some true := by rw [aggT, Try.underlying201]
@[simp] theorem zr201 : zeroC Try.prog 201 = some (.agg []) := (zr_of Try.typeInfo201).trans rfl
@[simp] theorem by201 : (Try.prog.info? 201).map (·.bytes) = some 0 := by_of Try.typeInfo201
attribute [simp] Try.underlying201
@[simp] theorem sz202 : szOf Try.prog 202 = some 0 := sz_of Try.typeInfo202
@[simp] theorem ag202 : aggT Try.prog 202 = some true := by rw [aggT, Try.underlying202]
@[simp] theorem zr202 : zeroC Try.prog 202 = some (.agg []) := (zr_of Try.typeInfo202).trans rfl
@[simp] theorem by202 : (Try.prog.info? 202).map (·.bytes) = some 0 := by_of Try.typeInfo202
attribute [simp] Try.underlying202
@[simp] theorem sz203 : szOf Try.prog 203 = some 0 := sz_of Try.typeInfo203
@[simp] theorem ag203 : aggT Try.prog 203 = some true := by rw [aggT, Try.underlying203]
@[simp] theorem zr203 : zeroC Try.prog 203 = some (.agg []) := (zr_of Try.typeInfo203).trans rfl
@[simp] theorem by203 : (Try.prog.info? 203).map (·.bytes) = some 0 := by_of Try.typeInfo203
attribute [simp] Try.underlying203
@[simp] theorem sz204 : szOf Try.prog 204 = some 1 := sz_of Try.typeInfo204
@[simp] theorem ag204 : aggT Try.prog 204 = some false := by rw [aggT, Try.underlying204]
attribute [simp] Try.underlying204
@[simp] theorem sz205 : szOf Try.prog 205 = some 1 := sz_of Try.typeInfo205
@[simp] theorem ag205 : aggT Try.prog 205 = some false := by rw [aggT, Try.underlying205]
@[simp] theorem zr205 : zeroC Try.prog 205 = some (.t (.i .u8 0)) := (zr_of Try.typeInfo205).trans rfl
@[simp] theorem by205 : (Try.prog.info? 205).map (·.bytes) = some 1 := by_of Try.typeInfo205
attribute [simp] Try.underlying205
@[simp] theorem sz206 : szOf Try.prog 206 = some 1 := sz_of Try.typeInfo206
@[simp] theorem ag206 : aggT Try.prog 206 = some false := by rw [aggT, Try.underlying206]
@[simp] theorem zr206 : zeroC Try.prog 206 = some (.t (.i .u8 0)) := (zr_of Try.typeInfo206).trans rfl
@[simp] theorem by206 : (Try.prog.info? 206).map (·.bytes) = some 1 := by_of Try.typeInfo206
attribute [simp] Try.underlying206
@[simp] theorem sz207 : szOf Try.prog 207 = some 1 := sz_of Try.typeInfo207
@[simp] theorem ag207 : aggT Try.prog 207 = some false := by rw [aggT, Try.underlying207]
attribute [simp] Try.underlying207
@[simp] theorem sz208 : szOf Try.prog 208 = some 1 := sz_of Try.typeInfo208
@[simp] theorem ag208 : aggT Try.prog 208 = some false := by rw [aggT, Try.underlying208]
@[simp] theorem zr208 : zeroC Try.prog 208 = some (.np) := (zr_of Try.typeInfo208).trans rfl
@[simp] theorem by208 : (Try.prog.info? 208).map (·.bytes) = some 8 := by_of Try.typeInfo208
attribute [simp] Try.underlying208
@[simp] theorem sz209 : szOf Try.prog 209 = some 1 := sz_of Try.typeInfo209
@[simp] theorem ag209 : aggT Try.prog 209 = some false := by rw [aggT, Try.underlying209]
@[simp] theorem zr209 : zeroC Try.prog 209 = some (.t (.i .i32 0)) := (zr_of Try.typeInfo209).trans rfl
@[simp] theorem by209 : (Try.prog.info? 209).map (·.bytes) = some 4 := by_of Try.typeInfo209
attribute [simp] Try.underlying209
@[simp] theorem sz210 : szOf Try.prog 210 = some 1 := sz_of Try.typeInfo210
@[simp] theorem ag210 : aggT Try.prog 210 = some false := by rw [aggT, Try.underlying210]
@[simp] theorem zr210 : zeroC Try.prog 210 = some (.t (.i .i32 0)) := (zr_of Try.typeInfo210).trans rfl
@[simp] theorem by210 : (Try.prog.info? 210).map (·.bytes) = some 4 := by_of Try.typeInfo210
attribute [simp] Try.underlying210
@[simp] theorem sz211 : szOf Try.prog 211 = some 11 := sz_of Try.typeInfo211
@[simp] theorem ag211 : aggT Try.prog 211 = some true := by rw [aggT, Try.underlying211]
attribute [simp] Try.underlying211
@[simp] theorem sz212 : szOf Try.prog 212 = some 11 := sz_of Try.typeInfo212
@[simp] theorem ag212 : aggT Try.prog 212 = some true := by rw [aggT, Try.underlying212]
attribute [simp] Try.underlying212
@[simp] theorem sz213 : szOf Try.prog 213 = some 1 := sz_of Try.typeInfo213
@[simp] theorem ag213 : aggT Try.prog 213 = some false := by rw [aggT, Try.underlying213]
attribute [simp] Try.underlying213
end Go.Proofs.Ytmfifjbbjjdacaa.V

namespace Go.Proofs.Ytmfifjbbjjdacaa.V
open Go
set_option linter.unusedVariables false
theorem upd_app {α : Type} (f : Nat → α) (i : Nat) (x : α) (j : Nat) : upd f i x j = if j = i then x else f j := rfl
attribute [simp] opsV stepV wantV opV evalO constV constT putV upd_app absorbR absorbL absorb Sto.new Sto.set Sto.e md AV.cells asT T.flat T.nz appendV rowsV resV resV1 Ends expR expA expL expAs exp1 loadV storeV storeN storeW rowsAt setAt natOf fillV reify reifyP reify1 VO.rows
  binV intV boundO slRows sliceT place placeA placeL placeAs place1 XV.sh XV.shA XV.sh1 ids ids1 AV.one chkP chkR chkH dk bfm freezeL freeze1 isBox Nat.testBit_eq_decide_div_mod_eq VS.on resL resO rv putL putT Nat.add_assoc
@[simp] theorem DrunF_nil (st : VS → Oper → Option VS) (bf : Nat → Nat → Bool) (rs : List (Nat × Nat × VO)) (i k : Nat) (s : VS) (pd : List (Nat × Oper × VS × VS)) (hs : List (Nat × Sto)) (p : Prop) : DrunF st bf rs [] i k s pd hs p = some (p, s) := by
  unfold DrunF; exact rfl
@[simp] theorem DrunF_cons (st : VS → Oper → Option VS) (bf : Nat → Nat → Bool) (rs : List (Nat × Nat × VO)) (o : Oper) (l : List Oper) (i k : Nat) (s : VS) (pd : List (Nat × Oper × VS × VS)) (hs : List (Nat × Sto)) (p : Prop) : DrunF st bf rs (o :: l) i k s pd hs p =
    (if dk o = 3 then match putV s o.dst (rv o k) s.σ with
      | some s1 => DrunF st bf rs l (i + 1) (k + 1) s1 pd hs p
      | none => none
    else match st s o with
      | some s1 => if dk o = 2 then DrunF st bf rs l (i + 1) k s1 pd ((i, s.σ) :: hs) (chkR bf i s1.σ rs (chkP st bf i s1.σ pd p))
        else if dk o = 1 then DrunF st bf rs l (i + 1) k s1 ((i, o, s, s1) :: pd) hs (chkH st bf i o s s1 hs p)
        else DrunF st bf rs l (i + 1) k s1 pd hs p
      | none => none) := by
  conv => lhs; unfold DrunF
  try (cases st s o <;> rfl)
theorem wrap_ok {n : Int} (h1 : -9223372036854775808 ≤ n) (h2 : n < 9223372036854775808) : IntKind.i64.wrap n = n := by
  rw [IntKind.wrap_i64]; omega
theorem wrap_succ {n : Nat} (h : n < 4611686018427387904) : IntKind.i64.wrap ((n : Int) + 1) = (n : Int) + 1 := wrap_ok (by omega) (by omega)
theorem map_take_snoc {α β : Type} (f : α → β) (l : List α) (i : Nat) (h : i < l.length) : (l.take (i + 1)).map f = (l.take i).map f ++ [f l[i]] := by
  rw [List.take_succ_eq_append_getElem h, List.map_append]; rfl
/-- Lean's values in cells. -/
class Enc (α : Type) where
  cells : α → List T
  n : Nat
  flat : Bool
  len : ∀ a, (cells a).length = n
  flt : flat = true → ∀ a, (cells a).all T.flat = true
def rowsE {α : Type} [Enc α] (l : List α) : List (List T) := l.map Enc.cells
section
variable {α : Type} [Enc α]
@[simp] theorem rowsE_len (l : List α) : (rowsE l).length = l.length := by simp [rowsE]
@[simp] theorem rowsE_nil : rowsE ([] : List α) = [] := rfl
@[simp] theorem rowsE_all (l : List α) (k : Nat) (h : Enc.n α = k) : (rowsE l).all (fun r => r.length == k) = true := by
  subst h; simp [rowsE, Enc.len]
@[simp] theorem rowsE_all2 (l : List α) (k : Nat) (h : Enc.n α = k) : (∀ x ∈ rowsE l, x.length = k) = True := by
  subst h; simp [rowsE, Enc.len]
@[simp] theorem rowsE_flat (l : List α) (h : Enc.flat α = true) : flatR (rowsE l) = true := by
  simp only [flatR, rowsE, List.all_map, List.all_eq_true]
  intro x _; have := Enc.flt h x; simpa using this
@[simp] theorem rowsE_get (l : List α) (i : Nat) (h : i < (rowsE l).length) : (rowsE l)[i] = Enc.cells (l[i]'(by rw [rowsE_len] at h; exact h)) := by simp [rowsE]
theorem rowsE_take (l : List α) (i : Nat) (h : i < l.length) : rowsE (l.take (i + 1)) = rowsE (l.take i) ++ [Enc.cells l[i]] := map_take_snoc _ l i h
theorem rowsE_append (l m : List α) : rowsE (l ++ m) = rowsE l ++ rowsE m := by simp [rowsE]
end
instance : Enc Int := ⟨fun n => [.i .i64 n], 1, true, fun _ => rfl, fun _ _ => rfl⟩
instance : Enc Bool := ⟨fun n => [.b n], 1, true, fun _ => rfl, fun _ _ => rfl⟩
instance : Enc ByteArray := ⟨fun n => [.s n], 1, true, fun _ => rfl, fun _ _ => rfl⟩
instance {α : Type} [Enc α] : Enc (List α) := ⟨fun l => [.sl (rowsE l)], 1, false, fun _ => rfl, fun h => by cases h⟩
@[simp] theorem cells_int (n : Int) : Enc.cells n = [.i .i64 n] := rfl
@[simp] theorem cells_bool (n : Bool) : Enc.cells n = [.b n] := rfl
@[simp] theorem cells_str (n : ByteArray) : Enc.cells n = [.s n] := rfl
@[simp] theorem cells_list {α : Type} [Enc α] (l : List α) : Enc.cells l = [.sl (rowsE l)] := rfl
@[simp] theorem n_int : Enc.n Int = 1 := rfl
@[simp] theorem n_bool : Enc.n Bool = 1 := rfl
@[simp] theorem n_str : Enc.n ByteArray = 1 := rfl
@[simp] theorem n_list {α : Type} [Enc α] : Enc.n (List α) = 1 := rfl
@[simp] theorem f_int : Enc.flat Int = true := rfl
@[simp] theorem f_bool : Enc.flat Bool = true := rfl
@[simp] theorem f_str : Enc.flat ByteArray = true := rfl
/-- A relation's name and its arguments: an atom, a fact. -/
structure RA where
  rel : Int
  args : List Int
  deriving DecidableEq
instance : Enc RA := ⟨fun a => [.i .i64 a.rel, .sl (rowsE a.args)], 2, false, fun _ => rfl, fun h => by cases h⟩
@[simp] theorem cells_RA (a : RA) : Enc.cells a = [.i .i64 a.rel, .sl (rowsE a.args)] := rfl
@[simp] theorem n_RA : Enc.n RA = 2 := rfl
structure Qry where
  head : List Int
  body : List RA
  deriving DecidableEq
instance : Enc Qry := ⟨fun a => [.sl (rowsE a.head), .sl (rowsE a.body)], 2, false, fun _ => rfl, fun h => by cases h⟩
@[simp] theorem cells_Q (a : Qry) : Enc.cells a = [.sl (rowsE a.head), .sl (rowsE a.body)] := rfl
@[simp] theorem n_Q : Enc.n Qry = 2 := rfl
structure Cnt where
  tuple : List Int
  count : Int
  deriving DecidableEq
instance : Enc Cnt := ⟨fun a => [.sl (rowsE a.tuple), .i .i64 a.count], 2, false, fun _ => rfl, fun h => by cases h⟩
@[simp] theorem cells_Cnt (a : Cnt) : Enc.cells a = [.sl (rowsE a.tuple), .i .i64 a.count] := rfl
@[simp] theorem n_Cnt : Enc.n Cnt = 2 := rfl
/-- An argument that is only read. -/
abbrev Ar {α : Type} [Enc α] (l : List α) : AV := .t (.sl (rowsE l))
/-- A struct that is only read. -/
def Ag {α : Type} [Enc α] (a : α) : AV := .agg ((Enc.cells a).map .t)
abbrev In (n : Int) : AV := .t (.i .i64 n)
end Go.Proofs.Ytmfifjbbjjdacaa.V

namespace Go.Proofs.Ytmfifjbbjjdacaa.V
open Go Go.RowKit Go.Deep Go.ChangeShapes Go.WideShapes
set_option linter.unusedVariables false
/-- Old blocks. -/
def Old (w : World) : Nat → Prop := fun b => b < w.heap.size
def RepL (h : Heap) (Z : Nat → Prop) (cs : List Value) (ts : List T) : Prop := cs.length = ts.length ∧ ∀ (k : Nat) (u : Value) (x : T), cs[k]? = some u → ts[k]? = some x → Rep h Z u x
theorem RepL.one {h : Heap} {Z : Nat → Prop} {u : Value} {x : T} (H : Rep h Z u x) : RepL h Z [u] [x] := ⟨rfl, fun k v y hv hy => by
  cases k with
  | zero => cases hv; cases hy; exact H
  | succ k => simp at hv⟩
theorem RepL.append {h : Heap} {Z : Nat → Prop} {a b : List Value} {c d : List T} (H : RepL h Z a c) (K : RepL h Z b d) : RepL h Z (a ++ b) (c ++ d) := by
  refine ⟨by simp [H.1, K.1], fun k u x hu hx => ?_⟩
  rw [List.getElem?_append] at hu hx
  by_cases hk : k < a.length
  · rw [if_pos hk] at hu; rw [if_pos (by rw [← H.1]; exact hk)] at hx; exact H.2 k u x hu hx
  · rw [if_neg hk] at hu; rw [if_neg (by rw [← H.1]; exact hk), ← H.1] at hx; exact K.2 _ u x hu hx
/-- Whatever reads as data of type t is a value a, and Q holds of it. -/
def Rdv {α : Type} [Enc α] (P : Program) (w : World) (t : TypeId) (Q : α → Prop) : Prop :=
  ∀ (H : Type) (enc : TypeId × Value → H) (fuel : Nat) (cs : List Value) (x : DataW H × List MemPlace),
    DataW.trod enc P w 0 (fun _ => true) true fuel t cs = some x → ∃ a : α, RepL w.heap (Old w) cs (Enc.cells a) ∧ Q a
variable {α β : Type} [Enc α] [Enc β] {P : Program} {w : World} {t e : TypeId}
theorem rd_int (ht : P.underlying t = some (.int .i64)) : Rdv P w t (fun n : Int => (Lit.int .i64 n).wf = true) := by
  intro H enc fuel cs x h
  obtain ⟨n, rfl, _, hw⟩ := DataW.trod_int ht h
  exact ⟨n, .one (.i _ _), hw⟩
theorem cell_old {a : Addr} {v : Value} (h : w.cell? a = some v) : a.spot = none ∧ ∃ cells e fz, w.heap[a.block]? = some (.cells cells e fz) ∧ cells[a.off]? = some v := by
  unfold World.cell? at h
  split at h
  · rename_i c e fz hb
    split at h
    · cases h
    · rename_i hs
      exact ⟨by simpa using hs, c, e, fz, hb, h⟩
  · cases h
theorem rd_slice {Q : α → Prop} (ht : P.underlying t = some (.slice e)) (hc : P.cellsOf e = Enc.n α) (hn : 0 < Enc.n α) (hd : Rdv P w e Q) :
    Rdv P w t (fun xs : List α => xs.length ≤ maxLen ∧ ∀ x ∈ xs, Q x) := by
  classical
  intro H enc fuel cs x h
  rcases open_slice ht h with ⟨rfl, _⟩ | ⟨a, len, cap, m, n, D, Pl, rfl, _, hl, hm, hmm, _, hx⟩
  · exact ⟨[], .one .sl0, by simp, by simp⟩
  · have hm' : m = cap := by simpa using hmm
    have hX : ∀ i, i < cap → ∃ x : α, ∃ cs', w.cells? 0 (a.add (i * Enc.n α)) (Enc.n α) = some cs' ∧ RepL w.heap (Old w) cs' (Enc.cells x) ∧ Q x := by
      intro i hi
      obtain ⟨cs', h1, h2⟩ := hx i (by omega)
      obtain ⟨y, hk, hq⟩ := hd H enc n cs' _ h2
      rw [hc] at h1
      exact ⟨y, cs', h1, hk, hq⟩
    rcases Nat.eq_zero_or_pos cap with h0 | h0
    · have : len = 0 := by omega
      subst h0; subst this
      exact ⟨[], .one (.sl1 a), by simp, by simp⟩
    · have hc0 : ∀ i j, i < cap → j < Enc.n α → ∃ v, w.cell? (a.add (i * Enc.n α + j)) = some v := fun i j hi hj => by
        obtain ⟨_, cs', h1, _⟩ := hX i hi
        obtain ⟨_, _, hcell⟩ := World.cells?_some h1
        have hj' := hcell j hj
        rw [Addr.add_add] at hj'
        obtain ⟨_, hlen, _⟩ := World.cells?_some h1
        exact ⟨_, hj'.trans (List.getElem?_eq_getElem (by omega))⟩
      obtain ⟨v0, hv0⟩ := hc0 0 0 h0 hn
      rw [Nat.zero_mul, Nat.add_zero, show a.add 0 = a from rfl] at hv0
      obtain ⟨hsp, cells, el, fz, hb, _⟩ := cell_old hv0
      obtain ⟨bl, off, sp⟩ := a
      have hsp' : sp = none := hsp
      subst hsp'
      have hb' : w.heap[bl]? = some (.cells cells el fz) := hb
      have hold : Old w bl := (Array.getElem?_eq_some_iff.1 hb').1
      obtain ⟨x0, _⟩ := hX 0 h0
      haveI : Inhabited α := ⟨x0⟩
      let X : Nat → α := fun i => if hi : i < cap then (hX i hi).choose else x0
      have hX' : ∀ i, i < cap → ∃ cs', w.cells? 0 (Addr.add ⟨bl, off, none⟩ (i * Enc.n α)) (Enc.n α) = some cs' ∧ RepL w.heap (Old w) cs' (Enc.cells (X i)) ∧ Q (X i) := fun i hi => by
        simp only [X, dif_pos hi]; exact (hX i hi).choose_spec
      have hlen : ((List.range len).map X).length = len := by simp
      have hval : ∀ i j, i < cap → j < Enc.n α → ∃ v, cells[off + (i * Enc.n α + j)]? = some v ∧ ∀ t, (Enc.cells (X i))[j]? = some t → Rep w.heap (Old w) v t := fun i j hi hj => by
        obtain ⟨cs', h1, h2, _⟩ := hX' i hi
        obtain ⟨_, hl', hcell⟩ := World.cells?_some h1
        have hj' := hcell j hj
        rw [Addr.add_add, add_lit] at hj'
        have hlt : j < cs'.length := by omega
        rw [List.getElem?_eq_getElem hlt] at hj'
        obtain ⟨_, c2, e2, f2, hb2, hv2⟩ := cell_old hj'
        have hb2' : w.heap[bl]? = some (.cells c2 e2 f2) := hb2
        rw [hb'] at hb2'
        cases hb2'
        exact ⟨_, hv2, fun t ht => h2.2 j _ t (List.getElem?_eq_getElem hlt) ht⟩
      refine ⟨(List.range len).map X, .one ?_, by rw [hlen]; omega, fun x hx => ?_⟩
      · have hrl : (rowsE ((List.range len).map X)).length = len := by simp
        have hrow : ∀ (i : Nat) (r : List T), (rowsE ((List.range len).map X))[i]? = some r → i < len ∧ r = Enc.cells (X i) := fun i r hr => by
          have hi : i < len := by have := (List.getElem?_eq_some_iff.1 hr).1; omega
          refine ⟨hi, ?_⟩
          simp [rowsE, hi] at hr
          exact hr.symm
        have := Rep.sl (h := w.heap) (Z := Old w) bl off cap (Enc.n α) cells el fz (fun i j => (cells[off + (i * Enc.n α + j)]?).getD default) (rowsE ((List.range len).map X)) hold hb' (by omega)
          (fun r hr => by
            obtain ⟨i, hi, rfl⟩ := List.mem_iff_getElem.1 hr
            rw [(hrow i _ (List.getElem?_eq_getElem hi)).2]; exact Enc.len _)
          (fun i r j t hi hj => by
            obtain ⟨h1, rfl⟩ := hrow i r hi
            have hj' : j < Enc.n α := by have := (List.getElem?_eq_some_iff.1 hj).1; rwa [Enc.len] at this
            obtain ⟨v, h3, _⟩ := hval i j (by omega) hj'
            rw [h3]; rfl)
          (fun i r j t hi hj => by
            obtain ⟨h1, rfl⟩ := hrow i r hi
            have hj' : j < Enc.n α := by have := (List.getElem?_eq_some_iff.1 hj).1; rwa [Enc.len] at this
            obtain ⟨v, h3, h4⟩ := hval i j (by omega) hj'
            rw [h3]; exact h4 t hj)
        rw [hrl] at this
        exact this
      · obtain ⟨i, hi, rfl⟩ := List.mem_map.1 hx
        exact (hX' i (by have := List.mem_range.1 hi; omega)).choose_spec.2.2
theorem rd_struct2 {γ : Type} [Enc γ] {f0 f1 : Field} {Q0 : α → Prop} {Q1 : β → Prop} (mk : α → β → γ) (hmk : ∀ a b, Enc.cells (mk a b) = Enc.cells a ++ Enc.cells b) (ht : P.underlying t = some (.struct #[f0, f1])) (h0 : f0.offset = 0) (h1 : f1.offset = Enc.n α)
    (z : P.cellsOf t = Enc.n α + Enc.n β) (z0 : P.cellsOf f0.type = Enc.n α) (z1 : P.cellsOf f1.type = Enc.n β)
    (o0 : Rdv P w f0.type Q0) (o1 : Rdv P w f1.type Q1) : Rdv P w t (fun c : γ => ∃ a b, c = mk a b ∧ Q0 a ∧ Q1 b) := by
  intro H enc fuel cs x hx
  obtain ⟨y0, y1, n, rfl, hl, g0, g1⟩ := trod_struct2 ht hx
  obtain ⟨a, hk, hq⟩ := o0 H enc n _ y0 g0
  obtain ⟨b, hk1, hq1⟩ := o1 H enc n _ y1 g1
  rw [h0, List.drop_zero, z0] at hk
  rw [h1, z1, List.take_of_length_le (by simp; omega)] at hk1
  refine ⟨mk a b, ?_, a, b, rfl, hq, hq1⟩
  rw [hmk, ← List.take_append_drop (Enc.n α) cs]
  exact hk.append hk1
theorem rd_of {Q : α → Prop} {H : Type} {enc : TypeId × Value → H} {v : Value} {dd : DataW H} {ps : List MemPlace} (h : Rdv P w t Q) (hx : DataW.Trod enc P w 0 (fun _ => true) true t v dd ps) :
    ∃ a, RepL w.heap (Old w) v.cells.toList (Enc.cells a) ∧ Q a := by
  obtain ⟨fuel, hf⟩ := hx
  exact h H enc fuel _ _ hf
theorem av_agg {ob : Nat → VO} {bt : Nat → BI} {C : Nat → Prop} {h : Heap} {Z : Nat → Prop} {cs : Array Value} {ts : List T} (H : RepL h Z cs.toList ts) : AVRel ob bt C h Z (.agg cs) (.agg (ts.map .t)) := by
  refine .agg _ _ (by simpa using H.1) fun i v a hv ha => ?_
  rw [List.getElem?_map, Option.map_eq_some_iff] at ha
  obtain ⟨x, hx, rfl⟩ := ha
  exact .t _ _ (H.2 i v x (by simpa using hv) hx)
theorem av_t {ob : Nat → VO} {bt : Nat → BI} {C : Nat → Prop} {h : Heap} {Z : Nat → Prop} {v : Value} {x : T} (H : RepL h Z [v] [x]) : AVRel ob bt C h Z v (.t x) := .t _ _ (H.2 0 v x rfl rfl)
theorem RelL.nil {ob : Nat → VO} {bt : Nat → BI} {C : Nat → Prop} {h : Heap} {Z : Nat → Prop} : RelL ob bt C h Z [] [] := ⟨rfl, fun k u x hu => by simp at hu⟩
theorem RelL.cons {ob : Nat → VO} {bt : Nat → BI} {C : Nat → Prop} {h : Heap} {Z : Nat → Prop} {v : Value} {a : AV} {vs : List Value} {as_ : List AV} (H : AVRel ob bt C h Z v a) (K : RelL ob bt C h Z vs as_) : RelL ob bt C h Z (v :: vs) (a :: as_) :=
  ⟨by simp [K.1], fun k u x hu hx => by
    cases k with
    | zero => simp at hu hx; subst hu; subst hx; exact H
    | succ k => exact K.2 k u x (by simpa using hu) (by simpa using hx)⟩
/-- The law, at last: it says true, and what was there stays. -/
theorem law_done {M : Nat → Bool} {G : Giv} (hm : P.follows .mixedOrders = true) (hG : GivOk P G) {f : Nat} {as_ : List AV} {vals : Array Value} (H : Ret (Rv P M G) f as_ (.t (.b true) false))
    (hv : RelL Sto.e.ob (fun _ => ⟨0, 0, 0, false⟩) (fun _ => False) w.heap (Old w) vals.toList as_) : Calls P f vals w (fun e w' => e = .returned (.bool true) ∧ Below w.heap.size w w') := by
  obtain ⟨r, σ1, h1, h2⟩ := H
  have hr : r = .t (.b true) := by
    cases r with
    | t x =>
      simp only [expR, expA, exp1, Option.map_some, Option.some.injEq, XV.t.injEq] at h2
      cases x with
      | b y => simp only [T.nz, T.b.injEq] at h2; rw [h2.1]
      | _ => simp [T.nz] at h2
    | tup l => simp only [expR, Option.map_eq_some_iff] at h2; obtain ⟨_, _, h⟩ := h2; cases h
    | agg l => simp only [expR, expA, Option.map_map, Option.map_eq_some_iff] at h2; obtain ⟨_, _, h⟩ := h2; cases h
    | ref o v p =>
      exfalso
      simp only [expR, expA, exp1] at h2
      revert h2
      (repeat' split) <;> simp
    | _ => simp [expR, expA, exp1] at h2
  subst hr
  have hO : OraOk P (Rv P M G) := R_ok drawV_go hG fun X hX => drawV_ok hm hX
  obtain ⟨_, hc⟩ := hO f as_ Sto.e _ σ1 h1
  have hR := Rel.empty w.heap (Old w) (fun b hb => hb) (fun _ => ⟨0, 0, 0, false⟩)
  refine (hc hR (fun _ _ h => h) hv).mono ?_
  rintro e w' ⟨val, rfl, ⟨β', C', Z', own', A, _, _, hval⟩, hw⟩
  have h3 := hval.tInv
  cases h3
  exact ⟨rfl, hw.1, hw.2.1, hw.2.2.1, A.good.sz, fun k hk => A.good.keep k hk rfl⟩
end Go.Proofs.Ytmfifjbbjjdacaa.V

namespace Go.Proofs.Ytmfifjbbjjdacaa.V
open Go Go.Proofs Go.RowKit Go.Shelf Go.Sort
set_option linter.unusedVariables false
/-- The sort's contract, at elements of k cells. -/
def SortCon (P : Program) (fs k : Nat) (pv : List Value → Value) : Prop :=
  (∀ (p : Option Addr) (cap : Nat) (fv : Value) (w : World), Calls P fs #[.slice p 0 cap, fv] w fun e w' => e = .returned (.tuple #[]) ∧ w' = w) ∧
  ∀ (n : Nat) [Inhabited (Fin n)] (enc : Fin n → List Value) (hk : ∀ x, (enc x).length = k) (h1 : ∀ x, ∀ v ∈ enc x, v.oneCell' = true) (cf : Fin n → Fin n → Int) (hO : SWO (ltOf cf)) (g : Nat) (blk off cap : Nat) (w : World)
    (eg : ∀ args w, (callFunc g args).run P w = .ok (.enter g args) w)
    (hcmp : ∀ (m : Nat) (os : Array Obj) (dk : Array (Fin n)), dk.size = n → ∀ x y : Fin n, Calls P g #[pv (enc x), pv (enc y)] (sortWorldK enc k w blk off m dk os) fun e w' => e = .returned (.int .i64 (cf x y)) ∧ ∃ q os', w' = grow ((sortWorldK enc k w blk off m dk os).drewN q) os')
    (hH : HoldsK enc k w blk off (Array.ofFn fun i : Fin n => i)) (hblk : blk < w.heap.size) (hsz : n < 4611686018427387904),
    Calls P fs #[.slice (some ⟨blk, off, none⟩) n cap, .func (.func g) #[] #[]] w fun e w' =>
      e = .returned (.tuple #[]) ∧ ∃ (d' : Array (Fin n)) (m : Nat) (os : Array Obj), PermIn 0 n (Array.ofFn fun i : Fin n => i) d' ∧ SortedIn (ltOf cf) 0 n d' ∧ w' = sortWorldK enc k w blk off m d' os
section
variable {P : Program} {ρ : Ren}
theorem sortCon_K (L : SlLaysF0.n6 P ρ) (k : Nat) (aE : ∀ w, (isAgg (ρ.t 24)).run P w = .ok true w) (zE : ∀ w, (Go.sizeOf (ρ.t 24)).run P w = .ok k w) : SortCon P (ρ.f 6) k (fun us => .agg us.toArray) := by
  refine ⟨fun p cap fv w => AnyF.slices_SortFunc_none L p cap fv w, fun n _ enc hk h1 cf hO g blk off cap w eg hcmp hH hblk hsz => ?_⟩
  have hs : (Array.ofFn fun i : Fin n => i).size = n := by simp
  have h := AnyQ.slices_SortFunc L k aE zE enc hk h1 cf hO g #[] blk off cap (Array.ofFn fun i : Fin n => i) w eg (fun m os dk hdk x y => by rw [hs] at hdk; exact hcmp m os dk hdk x y) hH hblk (by rw [hs]; exact hsz)
  rw [hs] at h
  exact h
end
class EncI (α : Type) extends Enc α where
  inj : ∀ a b : α, Enc.cells a = Enc.cells b → a = b
theorem rowsE_inj {α : Type} [EncI α] : ∀ {l m : List α}, rowsE l = rowsE m → l = m
  | [], [], _ => rfl
  | [], _ :: _, h => by simp [rowsE] at h
  | _ :: _, [], h => by simp [rowsE] at h
  | a :: l, b :: m, h => by
    simp only [rowsE, List.map_cons, List.cons.injEq] at h
    rw [EncI.inj a b h.1, rowsE_inj (l := l) (m := m) h.2]
instance : EncI Int := { (inferInstance : Enc Int) with inj := fun a b h => by simpa [Enc.cells] using h }
instance {α : Type} [EncI α] : EncI (List α) := { (inferInstance : Enc (List α)) with inj := fun a b h => rowsE_inj (by simpa [Enc.cells] using h) }
theorem inj_RA (a b : RA) (h : Enc.cells a = Enc.cells b) : a = b := by
  cases a; cases b; simp [Enc.cells] at h; rw [h.1, rowsE_inj h.2]
theorem inj_Cnt (a b : Cnt) (h : Enc.cells a = Enc.cells b) : a = b := by
  cases a; cases b; simp [Enc.cells] at h; rw [h.2, rowsE_inj h.1]
instance : EncI RA := { (inferInstance : Enc RA) with inj := inj_RA }
instance : EncI Cnt := { (inferInstance : Enc Cnt) with inj := inj_Cnt }
section
variable {P : Program} {M : Nat → Bool} {G0 : Giv}
theorem expR_int {σ1 : Sto} {r : AV} {k : IntKind} {n : Int} (h2 : expR σ1 r = some (.t (.i k n) false)) : r = .t (.i k n) := by
  cases r with
  | t x =>
    simp only [expR, expA, exp1, Option.map_some, Option.some.injEq, XV.t.injEq] at h2
    cases x with
    | i k' n' => simp only [T.nz] at h2; rw [h2.1]
    | _ => simp [T.nz] at h2
  | tup l => simp only [expR, Option.map_eq_some_iff] at h2; obtain ⟨_, _, h⟩ := h2; cases h
  | agg l => simp only [expR, expA, Option.map_map, Option.map_eq_some_iff] at h2; obtain ⟨_, _, h⟩ := h2; cases h
  | ref o v p =>
    exfalso
    simp only [expR, expA, exp1] at h2
    revert h2
    (repeat' split) <;> simp
  | _ => simp [expR, expA, exp1] at h2
/-- A function that reads, called in Go: its answer, and the world only grew. -/
theorem calls_grow (hm : P.follows .mixedOrders = true) (hG : GivOk P G0) {f : Nat} {as_ : List AV} {k : IntKind} {n : Int} (H : Ret (Rv P M G0) f as_ (.t (.i k n) false)) {W : World} {Z : Nat → Prop} (hz : ∀ b, Z b → b < W.heap.size) {vals : Array Value}
    (hv : RelL Sto.e.ob (fun _ => ⟨0, 0, 0, false⟩) (fun _ => False) W.heap Z vals.toList as_) :
    (∃ fn, P.funcs[f]? = some fn ∧ fn.body.isSome = true ∧ (fn.name == "runtime.NumGoroutine") = false) ∧ Calls P f vals W (fun e w' => e = .returned (.int k n) ∧ ∃ q os', w' = grow (W.drewN q) os') := by
  obtain ⟨r, σ1, h1, h2⟩ := H
  have hr := expR_int h2
  subst hr
  have hO : OraOk P (Rv P M G0) := R_ok drawV_go hG fun X hX => drawV_ok hm hX
  obtain ⟨h0, hc⟩ := hO f as_ Sto.e _ σ1 h1
  refine ⟨h0, ?_⟩
  have hR := Rel.empty W.heap Z hz (fun _ => ⟨0, 0, 0, false⟩)
  refine (hc hR (fun _ _ h => h) hv).mono ?_
  rintro e w' ⟨val, rfl, ⟨β', C', Z', own', A, _, _, hval⟩, hw⟩
  have h3 := hval.tInv
  cases h3
  refine ⟨rfl, w'.drawn - W.drawn, w'.heap.extract W.heap.size w'.heap.size, ?_⟩
  have hh : w'.heap = W.heap ++ w'.heap.extract W.heap.size w'.heap.size := by
    apply Array.ext_getElem?
    intro i
    rcases Nat.lt_or_ge i W.heap.size with hi | hi
    · rw [Array.getElem?_append_left hi, A.good.keep i hi rfl]
    · rw [Array.getElem?_append_right hi, Array.getElem?_extract]
      have := A.good.sz
      split
      · congr 1; omega
      · rw [Array.getElem?_eq_none (by omega)]
  obtain ⟨hp, tp, dr, os, out⟩ := w'
  obtain ⟨hw1, hw2, hw3, hw4⟩ := hw
  simp only at hw1 hw2 hw3 hw4 hh
  subst hw1; subst hw2; subst hw3
  simp only [grow, World.drewN]
  rw [← hh]
  congr 1
  omega
theorem heap_sortWorldK {n : Nat} [Inhabited (Fin n)] {enc : Fin n → List Value} {k : Nat} {w : World} {blk off m : Nat} {dk : Array (Fin n)} {os : Array Obj} {cur : Array Value} {e : TypeId} (hb : w.heap[blk]? = some (.cells cur e (0, 0))) :
    w.heap.size ≤ (sortWorldK enc k w blk off m dk os).heap.size ∧ (∀ b, b < w.heap.size → b ≠ blk → (sortWorldK enc k w blk off m dk os).heap[b]? = w.heap[b]?) ∧ (sortWorldK enc k w blk off m dk os).heap[blk]? = some (.cells (putCells id off (flatK enc k dk) cur) e (0, 0)) := by
  have hlt : blk < w.heap.size := (Array.getElem?_eq_some_iff.1 hb).1
  have hh : (sortWorldK enc k w blk off m dk os).heap = w.heap.modify blk (Sort.onCells (putCells id off (flatK enc k dk))) ++ os := rfl
  refine ⟨by rw [hh]; simp, fun b hbl hne => ?_, ?_⟩
  · rw [hh, Array.getElem?_append_left (by simpa using hbl), Array.getElem?_modify, if_neg (fun h => hne h.symm)]
  · rw [hh, Array.getElem?_append_left (by simpa using hlt), Array.getElem?_modify, if_pos rfl, hb]
    rfl
theorem inj_of_nodup' {β : Type} {l : List β} (h : l.Nodup) {i j : Nat} (hi : i < l.length) (hj : j < l.length) (e : l[i] = l[j]) : i = j := by
  rcases Nat.lt_trichotomy i j with h1 | h1 | h1
  · exact absurd e (List.pairwise_iff_getElem.1 h i j hi hj h1)
  · exact h1
  · exact absurd e.symm (List.pairwise_iff_getElem.1 h j i hj hi h1)
theorem ofFn_nodup' (n : Nat) : (List.ofFn (fun i : Fin n => i)).Nodup := by
  refine List.pairwise_iff_getElem.2 fun i j hi hj hij e => ?_
  simp only [List.getElem_ofFn] at e
  have := congrArg Fin.val e
  simp at this
  omega
theorem ofFn_map' {β : Type} (xs : List β) : (List.ofFn (fun i : Fin xs.length => i)).map (fun i => xs[i.val]) = xs := by
  apply List.ext_getElem
  · simp
  · intro i h1 h2
    simp
theorem one_cell {v : Value} (h : oneV v = true) : v.oneCell' = true := by cases v <;> first | rfl | cases h
end
end Go.Proofs.Ytmfifjbbjjdacaa.V

namespace Go.Proofs.Ytmfifjbbjjdacaa.V
open Go Go.Proofs
set_option linter.unusedVariables false
set_option linter.unusedSectionVars false
/-- -1, 0 or 1: by the first number that differs; a list comes before longer ones that begin with it. -/
def cmpI : List Int → List Int → Int
  | [], [] => 0
  | [], _ :: _ => -1
  | _ :: _, [] => 1
  | a :: l, b :: m => if a < b then -1 else if b < a then 1 else cmpI l m
theorem cmp_self : ∀ a : List Int, cmpI a a = 0
  | [] => rfl
  | x :: a => by rw [cmpI, if_neg (by omega), if_neg (by omega)]; exact cmp_self a
theorem cmp_trans : ∀ a b c : List Int, cmpI a b < 0 → cmpI b c < 0 → cmpI a c < 0
  | [], [], _, h, _ => by simp [cmpI] at h
  | _, _ :: _, [], _, h => by simp [cmpI] at h
  | [], _ :: _, _ :: _, _, _ => by simp [cmpI]
  | _ :: _, [], _, h, _ => by simp [cmpI] at h
  | x :: a, y :: b, z :: c, h1, h2 => by
    rw [cmpI] at h1 h2 ⊢
    split at h1
    · split at h2
      · rw [if_pos (by omega)]; omega
      · split at h2
        · omega
        · rw [if_pos (by omega)]; omega
    · split at h1
      · omega
      · split at h2
        · rw [if_pos (by omega)]; omega
        · split at h2
          · omega
          · rw [if_neg (by omega), if_neg (by omega)]; exact cmp_trans a b c h1 h2
theorem cmp_flip : ∀ a b : List Int, ¬ cmpI a b < 0 → a ≠ b → cmpI b a < 0
  | [], [], _, h => absurd rfl h
  | [], _ :: _, h, _ => by simp [cmpI] at h
  | _ :: _, [], _, _ => by simp [cmpI]
  | x :: a, y :: b, h, hne => by
    rw [cmpI] at h ⊢
    split at h
    · omega
    · split at h
      · rw [if_pos (by omega)]; omega
      · have e : x = y := by omega
        rw [if_neg (by omega), if_neg (by omega)]
        exact cmp_flip a b h (fun h' => hne (by rw [e, h']))
/-- In strictly ascending order. -/
theorem lt_dec {α : Type} (cmp : α → α → Int) (x y : α) : ltOf cmp x y = decide (cmp x y < 0) := rfl
theorem swoL : Sort.SWO (ltOf cmpI) where
  irrefl x := by rw [lt_dec, cmp_self]; rfl
  trans x y z h1 h2 := by
    rw [lt_dec, decide_eq_true_eq] at *
    exact cmp_trans x y z h1 h2
  ntrans x y z h1 h2 := by
    rw [lt_dec, decide_eq_false_iff_not] at *
    intro h3
    by_cases e : x = y
    · subst e; exact h2 h3
    · have h4 := cmp_flip x y h1 e
      exact h2 (cmp_trans y x z h4 h3)
theorem antiL (a b : List Int) (h1 : ¬ cmpI b a < 0) (h2 : ¬ cmpI a b < 0) : a = b := by
  by_cases e : a = b
  · exact e
  · exact absurd (cmp_flip a b h2 e) h1
def cmpF (a b : RA) : Int := if a.rel < b.rel then -1 else if a.rel > b.rel then 1 else cmpI a.args b.args
theorem ltF (a b : RA) : cmpF a b < 0 ↔ a.rel < b.rel ∨ a.rel = b.rel ∧ cmpI a.args b.args < 0 := by
  unfold cmpF
  by_cases h1 : a.rel < b.rel
  · rw [if_pos h1]; exact ⟨fun _ => .inl h1, fun _ => by omega⟩
  · rw [if_neg h1]
    by_cases h2 : a.rel > b.rel
    · rw [if_pos h2]; exact ⟨fun h => by omega, fun h => by omega⟩
    · rw [if_neg h2]; exact ⟨fun h => .inr ⟨by omega, h⟩, fun h => by rcases h with h | h; omega; exact h.2⟩
theorem swoF : Sort.SWO (ltOf cmpF) where
  irrefl x := by
    rw [lt_dec, decide_eq_false_iff_not, ltF]
    rintro (h | h)
    · omega
    · rw [cmp_self] at h; omega
  trans x y z h1 h2 := by
    rw [lt_dec, decide_eq_true_eq, ltF] at *
    rcases h1 with h1 | h1 <;> rcases h2 with h2 | h2
    · exact .inl (by omega)
    · exact .inl (by omega)
    · exact .inl (by omega)
    · exact .inr ⟨by omega, cmp_trans _ _ _ h1.2 h2.2⟩
  ntrans x y z h1 h2 := by
    rw [lt_dec, decide_eq_false_iff_not, ltF] at *
    rintro (h3 | h3)
    · by_cases e : x.rel = y.rel
      · exact h2 (.inl (by omega))
      · exact h1 (.inl (by have : ¬ y.rel < z.rel := fun h => h2 (.inl h); omega))
    · have a1 : ¬ x.rel < y.rel := fun h => h1 (.inl h)
      have a2 : ¬ y.rel < z.rel := fun h => h2 (.inl h)
      have e1 : x.rel = y.rel := by omega
      have e2 : y.rel = z.rel := by omega
      have b1 : ¬ cmpI x.args y.args < 0 := fun h => h1 (.inr ⟨e1, h⟩)
      have b2 : ¬ cmpI y.args z.args < 0 := fun h => h2 (.inr ⟨e2, h⟩)
      have := swoL.ntrans x.args y.args z.args (by rw [lt_dec]; exact decide_eq_false b1) (by rw [lt_dec]; exact decide_eq_false b2)
      rw [lt_dec, decide_eq_false_iff_not] at this
      exact this h3.2
/-- In order. -/
def srt {α : Type} (cmp : α → α → Int) (xs : List α) : List α := xs.mergeSort fun x y => !decide (cmp y x < 0)
section
variable {α : Type} {cmp : α → α → Int} {xs ys : List α}
theorem srt_perm : (srt cmp xs).Perm xs := List.mergeSort_perm _ _
theorem srt_sorted (hO : Sort.SWO (ltOf cmp)) : (srt cmp xs).Pairwise fun a b => ¬ cmp b a < 0 := by
  have h := List.pairwise_mergeSort (le := fun x y => !decide (cmp y x < 0)) (fun a b c h1 h2 => by
    simp only [Bool.not_eq_true', decide_eq_false_iff_not] at *
    have := hO.ntrans c b a (by rw [lt_dec]; exact decide_eq_false h2) (by rw [lt_dec]; exact decide_eq_false h1)
    rw [lt_dec, decide_eq_false_iff_not] at this
    exact this) (fun a b => by
    by_cases h1 : cmp b a < 0
    · have h2 : ¬ cmp a b < 0 := fun h2 => by
        have := hO.trans a b a (by rw [lt_dec]; exact decide_eq_true h2) (by rw [lt_dec]; exact decide_eq_true h1)
        rw [hO.irrefl] at this; cases this
      simp [h2]
    · simp [h1]) xs
  exact h.imp (fun {a b} h => by simpa using h)
theorem srt_eq (hO : Sort.SWO (ltOf cmp)) (ha : ∀ a b, a ∈ xs → b ∈ xs → ¬ cmp b a < 0 → ¬ cmp a b < 0 → a = b) (hp : ys.Perm xs) (hs : ys.Pairwise fun a b => ¬ cmp b a < 0) : ys = srt cmp xs :=
  List.Perm.eq_of_pairwise (le := fun a b => ¬ cmp b a < 0) (fun a b h1 h2 h3 h4 => ha a b (hp.mem_iff.1 h1) (srt_perm.mem_iff.1 h2) h3 h4) hs (srt_sorted hO) (hp.trans srt_perm.symm)
end
namespace AddM
variable {α β : Type} [DecidableEq β] (key : α → β) (add : α → α → α) (lt : β → β → Bool)
def ins : List α → α → List α
  | [], y => [y]
  | x :: l, y => if key x = key y then add x y :: l else x :: ins l y
def mrg : List α → List α → List α
  | [], b => b
  | x :: a, [] => x :: a
  | x :: a, y :: b => if lt (key x) (key y) then x :: mrg a (y :: b) else if lt (key y) (key x) then y :: mrg (x :: a) b else add x y :: mrg a b
termination_by a b => a.length + b.length
variable {key add lt}
abbrev ND (key : α → β) (l : List α) : Prop := (l.map key).Nodup
theorem ins_new : ∀ {l : List α} {y : α}, key y ∉ l.map key → ins key add l y = l ++ [y]
  | [], _, _ => rfl
  | x :: l, y, h => by
    rw [ins, if_neg (fun e => h (by simp [e])), ins_new (l := l) (fun e => h (by simp at e ⊢; exact Or.inr e))]; rfl
theorem ins_key (hk : ∀ x y, key (add x y) = key x) : ∀ (l : List α) (y : α) (z : β), z ∈ (ins key add l y).map key ↔ z ∈ l.map key ∨ z = key y
  | [], y, z => by simp [ins]
  | x :: l, y, z => by
    rw [ins]; split
    · rename_i e
      simp only [List.map_cons, List.mem_cons, hk]
      constructor
      · intro h; exact Or.inl h
      · intro h; rcases h with h | h
        · exact h
        · exact Or.inl (h.trans e.symm)
    · simp only [List.map_cons, List.mem_cons, ins_key hk l y z]
      constructor
      · intro h; rcases h with h | h | h
        · exact Or.inl (Or.inl h)
        · exact Or.inl (Or.inr h)
        · exact Or.inr h
      · intro h; rcases h with (h | h) | h
        · exact Or.inl h
        · exact Or.inr (Or.inl h)
        · exact Or.inr (Or.inr h)
theorem ins_nd (hk : ∀ x y, key (add x y) = key x) : ∀ (l : List α) (y : α), ND key l → ND key (ins key add l y)
  | [], y, _ => by simp [ins, ND]
  | x :: l, y, h => by
    have h' : key x ∉ l.map key ∧ ND key l := by simpa [ND] using h
    rw [ins]; split
    · show ((add x y :: l).map key).Nodup
      rw [List.map_cons, hk]; exact h
    · rename_i hne
      show ((x :: ins key add l y).map key).Nodup
      rw [List.map_cons, List.nodup_cons]
      refine ⟨fun e => ?_, ins_nd hk l y h'.2⟩
      rcases (ins_key hk l y _).mp e with e | e
      · exact h'.1 e
      · exact hne e
theorem ins_perm {l l' : List α} (h : l.Perm l') (y : α) : ND key l → (ins key add l y).Perm (ins key add l' y) := by
  induction h with
  | nil => intro _; exact List.Perm.refl _
  | cons x hp ih =>
    intro hn
    have h' := (List.nodup_cons.mp (show (key x :: List.map key _).Nodup from hn)).2
    rw [ins, ins]; split
    · exact hp.cons _
    · exact (ih h').cons _
  | swap x x' l =>
    intro hn
    have hne : key x' ≠ key x := by
      intro e
      have := (List.nodup_cons.mp (by simpa only [ND, List.map_cons] using hn : (key x' :: key x :: l.map key).Nodup)).1
      exact this (by simp [e])
    simp only [ins]
    split
    · rename_i e
      rw [if_neg (fun e' => hne (e.trans e'.symm))]
      exact List.Perm.swap _ _ _
    · split
      · exact List.Perm.swap _ _ _
      · exact List.Perm.swap _ _ _
  | trans h1 h2 i1 i2 =>
    intro hn
    exact (i1 hn).trans (i2 ((h1.map key).nodup_iff.mp hn))
theorem fold_perm (hk : ∀ x y, key (add x y) = key x) : ∀ (b l l' : List α), l.Perm l' → ND key l → (b.foldl (ins key add) l).Perm (b.foldl (ins key add) l')
  | [], _, _, h, _ => h
  | y :: b, l, l', h, hn => fold_perm hk b _ _ (ins_perm h y hn) (ins_nd hk l y hn)
theorem fold_cons : ∀ (b : List α) (x : α) (l : List α), key x ∉ b.map key → b.foldl (ins key add) (x :: l) = x :: b.foldl (ins key add) l
  | [], _, _, _ => rfl
  | y :: b, x, l, h => by
    have h' : key x ≠ key y ∧ key x ∉ b.map key := by simpa using h
    rw [List.foldl_cons, List.foldl_cons, ins, if_neg h'.1, fold_cons b x _ h'.2]
set_option linter.unusedSectionVars false
/-- Strictly ascending keys. -/
abbrev Asc (key : α → β) (lt : β → β → Bool) (l : List α) : Prop := l.Pairwise fun x y => lt (key x) (key y) = true
theorem asc_nd (irr : ∀ x, lt x x = false) {l : List α} (h : Asc key lt l) : ND key l := by
  refine List.Pairwise.map _ (fun x y hxy e => ?_) h
  rw [e, irr] at hxy; exact Bool.false_ne_true hxy
theorem mrg_perm (irr : ∀ x, lt x x = false) (tr : ∀ x y z, lt x y = true → lt y z = true → lt x z = true) (tot : ∀ x y, lt x y = false → lt y x = false → x = y)
    (hk : ∀ x y, key (add x y) = key x) (a b : List α) : Asc key lt a → Asc key lt b → (b.foldl (ins key add) a).Perm (mrg key add lt a b) := by
  have out : ∀ (x : β) (l : List α), (∀ z ∈ l, lt x (key z) = true) → x ∉ l.map key := by
    intro x l h e
    obtain ⟨z, hz, e⟩ := List.mem_map.mp e
    have := h z hz; rw [e, irr] at this; exact Bool.false_ne_true this
  induction a, b using mrg.induct (key := key) (lt := lt) with
  | case1 b =>
    intro _ hb
    rw [mrg]
    have : ∀ (b l : List α), ND key (l ++ b) → b.foldl (ins key add) l = l ++ b := by
      intro b
      induction b with
      | nil => intro l _; simp
      | cons y b ih =>
        intro l hn
        have hy : key y ∉ l.map key := by
          intro e
          rw [ND, List.map_append, List.nodup_append] at hn
          exact hn.2.2 _ e _ (by simp) rfl
        rw [List.foldl_cons, ins_new hy, ih (l ++ [y]) (by simpa using hn)]; simp
    rw [this b [] (by simpa using asc_nd irr hb)]; exact List.Perm.refl _
  | case2 x a => intro _ _; rw [mrg]; exact List.Perm.refl _
  | case3 x a y b hlt ih =>
    intro ha hb
    rw [mrg, if_pos hlt, fold_cons (y :: b) x a (out _ _ (by
      intro z hz; rcases List.mem_cons.mp hz with rfl | hz
      · exact hlt
      · exact tr _ _ _ hlt ((List.pairwise_cons.mp hb).1 z hz)))]
    exact (ih (List.pairwise_cons.mp ha).2 hb).cons _
  | case4 x a y b hn hlt ih =>
    intro ha hb
    rw [mrg, if_neg hn, if_pos hlt]
    have hb' := List.pairwise_cons.mp hb
    have hy : key y ∉ (x :: a).map key := out _ _ (by
      intro z hz; rcases List.mem_cons.mp hz with rfl | hz
      · exact hlt
      · exact tr _ _ _ hlt ((List.pairwise_cons.mp ha).1 z hz))
    rw [List.foldl_cons, ins_new hy]
    have hnd : ND key ((x :: a) ++ [y]) := by
      rw [ND, List.map_append, List.nodup_append]
      refine ⟨asc_nd irr ha, by simp, ?_⟩
      intro u hu v hv e
      simp at hv; subst hv; subst e; exact hy hu
    refine (fold_perm hk b _ (y :: x :: a) (List.perm_append_singleton _ _) hnd).trans ?_
    rw [fold_cons b y _ (out _ _ hb'.1)]
    exact (ih ha hb'.2).cons _
  | case5 x a y b hn hn' ih =>
    intro ha hb
    have e : key x = key y := tot _ _ (by simpa using hn) (by simpa using hn')
    rw [mrg, if_neg hn, if_neg hn', List.foldl_cons, ins, if_pos e]
    have hb' := List.pairwise_cons.mp hb
    rw [fold_cons b (add x y) a (by rw [hk, e]; exact out _ _ hb'.1)]
    exact (ih (List.pairwise_cons.mp ha).2 hb'.2).cons _
theorem mrg_key (hk : ∀ x y, key (add x y) = key x) (a b : List α) : ∀ z ∈ mrg key add lt a b, (∃ u ∈ a, key z = key u) ∨ ∃ u ∈ b, key z = key u := by
  induction a, b using mrg.induct (key := key) (lt := lt) with
  | case1 b => intro z hz; rw [mrg] at hz; exact Or.inr ⟨z, hz, rfl⟩
  | case2 x a => intro z hz; rw [mrg] at hz; exact Or.inl ⟨z, hz, rfl⟩
  | case3 x a y b hlt ih =>
    intro z hz; rw [mrg, if_pos hlt] at hz
    rcases List.mem_cons.mp hz with rfl | hz
    · exact Or.inl ⟨z, by simp, rfl⟩
    · rcases ih z hz with ⟨u, hu, e⟩ | h
      · exact Or.inl ⟨u, by simp [hu], e⟩
      · exact Or.inr h
  | case4 x a y b hn hlt ih =>
    intro z hz; rw [mrg, if_neg hn, if_pos hlt] at hz
    rcases List.mem_cons.mp hz with rfl | hz
    · exact Or.inr ⟨z, by simp, rfl⟩
    · rcases ih z hz with h | ⟨u, hu, e⟩
      · exact Or.inl h
      · exact Or.inr ⟨u, by simp [hu], e⟩
  | case5 x a y b hn hn' ih =>
    intro z hz; rw [mrg, if_neg hn, if_neg hn'] at hz
    rcases List.mem_cons.mp hz with rfl | hz
    · exact Or.inl ⟨x, by simp, hk _ _⟩
    · rcases ih z hz with ⟨u, hu, e⟩ | ⟨u, hu, e⟩
      · exact Or.inl ⟨u, by simp [hu], e⟩
      · exact Or.inr ⟨u, by simp [hu], e⟩
theorem mrg_asc (tr : ∀ x y z, lt x y = true → lt y z = true → lt x z = true) (tot : ∀ x y, lt x y = false → lt y x = false → x = y)
    (hk : ∀ x y, key (add x y) = key x) (a b : List α) : Asc key lt a → Asc key lt b → Asc key lt (mrg key add lt a b) := by
  induction a, b using mrg.induct (key := key) (lt := lt) with
  | case1 b => intro _ h; rw [mrg]; exact h
  | case2 x a => intro h _; rw [mrg]; exact h
  | case3 x a y b hlt ih =>
    intro ha hb; rw [mrg, if_pos hlt]
    have ha' := List.pairwise_cons.mp ha; have hb' := List.pairwise_cons.mp hb
    refine List.pairwise_cons.mpr ⟨fun z hz => ?_, ih ha'.2 hb⟩
    rcases mrg_key hk _ _ z hz with ⟨u, hu, e⟩ | ⟨u, hu, e⟩
    · rw [e]; exact ha'.1 u hu
    · rw [e]; rcases List.mem_cons.mp hu with rfl | hu
      · exact hlt
      · exact tr _ _ _ hlt (hb'.1 u hu)
  | case4 x a y b hn hlt ih =>
    intro ha hb; rw [mrg, if_neg hn, if_pos hlt]
    have ha' := List.pairwise_cons.mp ha; have hb' := List.pairwise_cons.mp hb
    refine List.pairwise_cons.mpr ⟨fun z hz => ?_, ih ha hb'.2⟩
    rcases mrg_key hk _ _ z hz with ⟨u, hu, e⟩ | ⟨u, hu, e⟩
    · rw [e]; rcases List.mem_cons.mp hu with rfl | hu
      · exact hlt
      · exact tr _ _ _ hlt (ha'.1 u hu)
    · rw [e]; exact hb'.1 u hu
  | case5 x a y b hn hn' ih =>
    intro ha hb; rw [mrg, if_neg hn, if_neg hn']
    have e0 : key x = key y := tot _ _ (by simpa using hn) (by simpa using hn')
    have ha' := List.pairwise_cons.mp ha; have hb' := List.pairwise_cons.mp hb
    refine List.pairwise_cons.mpr ⟨fun z hz => ?_, ih ha'.2 hb'.2⟩
    rw [hk]
    rcases mrg_key hk _ _ z hz with ⟨u, hu, e⟩ | ⟨u, hu, e⟩
    · rw [e]; exact ha'.1 u hu
    · rw [e, e0]; exact hb'.1 u hu
end AddM
end Go.Proofs.Ytmfifjbbjjdacaa.V

