/- Several texts in one: what the claim needs of them. Conditions: each declaration's own. -/
import Derived.Test.YtpdpgfagklhpaaaGreatZIndM3
import Derived.Test.YtpdpgfagklhpaaaGreatProg
import Derived.Orders
import Derived.Shelf.SlSortCmp.Kit1
import Derived.Shelf.SlSortCmp.KitK
import Derived.Shelf.SlSortCmp.QuietGrown
import Derived.Shelf.SlicesE.Kit
import Derived.Shelf.RegionOpenPlain
import Derived.WalkKit
import Derived.Deep.LoopGhost
import Derived.Deep.Draws
import Derived.Lib.Walk
import Derived.Sort.WalkB12
import Derived.Lib.SliceRun
import Derived.Lib.SlKept
import Derived.IntWalk
import Derived.Deep.Slices
import Derived.Deep.Strs
import Derived.Lib.SmallJoins
import Derived.WideShapes
import Derived.ChangeSame
import Derived.DataElems
import Derived.Below
import Derived.Shelf.SlSortCmp.NoneTotal
import Derived.Shelf.SlSortCmp.Insertion
namespace Go.Proofs.YtpdpgfagklhpaaaGreat.V
open Go
set_option linter.unusedVariables false
set_option linter.unusedSimpArgs false
variable {P : Program} {M : Nat → Bool} {X : Ora}
def dstOf (l : List Oper) (k : Nat) : Option Tmp := (l[k]?).bind (·.dst)
/-- The temporaries when p has been done. -/
def FT (S : Nat → VS) (l : List Oper) (p : Nat → Bool) : Nat → Nat → AV
  | 0, t => (S 0).tm t
  | k + 1, t => if p k = true ∧ dstOf l k = some t then (S (k + 1)).tm t else FT S l p k t
theorem FT_ext {S : Nat → VS} {l : List Oper} {p q : Nat → Bool} {t : Nat} : ∀ (k : Nat), (∀ j, j < k → dstOf l j = some t → p j = q j) → FT S l p k t = FT S l q k t
  | 0, h => rfl
  | k + 1, h => by
    unfold FT
    rw [FT_ext k fun j hj hd => h j (by omega) hd]
    by_cases hd : dstOf l k = some t
    · rw [h k (by omega) hd]
    · simp [hd]
theorem FT_past {S : Nat → VS} {l : List Oper} {p : Nat → Bool} {t : Nat} {a : Nat} : ∀ (k : Nat), a ≤ k → (∀ j, a ≤ j → j < k → p j = true → dstOf l j ≠ some t) → FT S l p k t = FT S l p a t
  | 0, ha, h => by have : a = 0 := by omega
                   subst this; rfl
  | k + 1, ha, h => by
    by_cases e : a = k + 1
    · subst e; rfl
    · have h1 : ¬ (p k = true ∧ dstOf l k = some t) := fun hc => h k (by omega) (by omega) hc.1 hc.2
      show (if _ then _ else _) = _
      rw [if_neg h1]
      exact FT_past k (by omega) fun j h2 h3 => h j h2 (by omega)
theorem FT_all {S : Nat → VS} {l : List Oper} {t : Nat} : ∀ (k : Nat), (∀ j, j < k → dstOf l j ≠ some t → (S (j + 1)).tm t = (S j).tm t) → FT S l (fun _ => true) k t = (S k).tm t
  | 0, h => rfl
  | k + 1, h => by
    unfold FT
    by_cases hd : dstOf l k = some t
    · simp [hd]
    · rw [if_neg (by simp [hd]), FT_all k fun j hj => h j (by omega), h k (by omega) hd]
theorem FT_add {S : Nat → VS} {l : List Oper} {p : Nat → Bool} {t i n : Nat} (hi : i < n) (h : ∀ j, i < j → j < n → p j = true → dstOf l i = some t → dstOf l j ≠ some t) :
    FT S l (fun j => p j || j == i) n t = if dstOf l i = some t then (S (i + 1)).tm t else FT S l p n t := by
  by_cases hd : dstOf l i = some t
  · rw [if_pos hd, FT_past (a := i + 1) n (by omega) fun j h1 h2 h3 => by
      have : j ≠ i := by omega
      exact h j (by omega) h2 (by simpa [this] using h3) hd]
    show (if _ then _ else _) = _
    rw [if_pos (by simp [hd])]
  · rw [if_neg hd]
    refine FT_ext n fun j hj hdj => ?_
    have : j ≠ i := fun e => hd (e ▸ hdj)
    simp [this]
/-- What the static test says. -/
structure Stat (ops : Array Oper) (bf : Nat → Nat → Bool) : Prop where
  back : ∀ j o, ops[j]? = some o → ∀ e ∈ o.after, Region.binds .any e = true → e.on < j
  edge : ∀ i j o, ops[j]? = some o → i < j → bf i j = true → ∃ e ∈ o.after, Region.binds .any e = true ∧ (e.on = i ∨ (i < e.on ∧ bf i e.on = true))
  apart : ∀ i j oi oj, ops[i]? = some oi → ops[j]? = some oj → i < j → bf i j = false → oi.apart ops oj = true
  chg : ∀ i j oi oj, ops[i]? = some oi → ops[j]? = some oj → i < j → dk oi = 2 → dk oj = 2 → bf i j = true
theorem statM_ok {ops : Array Oper} {ms : List Nat} (H : statM ops ms = true) : Stat ops (bfm ms) := by
  have hj : ∀ j oj, ops[j]? = some oj → (oj.after.toList.all (fun e => !Region.binds .any e || decide (e.on < j)) && (List.range j).all fun i => match ops[i]? with
      | none => true
      | some oi => if bfm ms i j then oj.after.toList.any fun e => Region.binds .any e && (e.on == i || (decide (i < e.on) && bfm ms i e.on)) else oi.apart ops oj && !(dk oi == 2 && dk oj == 2)) = true := by
    intro j oj ho
    unfold statM at H
    rw [List.all_eq_true] at H
    have := H j (List.mem_range.2 (Array.getElem?_eq_some_iff.1 ho).1)
    rw [ho] at this
    exact this
  have hij : ∀ i j oi oj, ops[i]? = some oi → ops[j]? = some oj → i < j → (if bfm ms i j then oj.after.toList.any fun e => Region.binds .any e && (e.on == i || (decide (i < e.on) && bfm ms i e.on)) else oi.apart ops oj && !(dk oi == 2 && dk oj == 2)) = true := by
    intro i j oi oj hi ho hlt
    have := hj j oj ho
    rw [Bool.and_eq_true] at this
    have := (List.all_eq_true.1 this.2) i (List.mem_range.2 hlt)
    rw [hi] at this
    exact this
  refine ⟨fun j o ho e he hb => ?_, fun i j o ho hlt hb => ?_, fun i j oi oj hi ho hlt hb => ?_, fun i j oi oj hi ho hlt h1 h2 => ?_⟩
  · have := hj j o ho
    rw [Bool.and_eq_true] at this
    have := (List.all_eq_true.1 this.1) e (by simpa using he)
    simpa [hb] using this
  · have hi : ∃ oi, ops[i]? = some oi := ⟨_, Array.getElem?_eq_getElem (by have := (Array.getElem?_eq_some_iff.1 ho).1; omega)⟩
    obtain ⟨oi, hi⟩ := hi
    have := hij i j oi o hi ho hlt
    rw [if_pos hb, List.any_eq_true] at this
    obtain ⟨e, he, h1⟩ := this
    have he : e ∈ o.after := by simpa using he
    rw [Bool.and_eq_true, Bool.or_eq_true] at h1
    exact ⟨e, he, h1.1, by simpa using h1.2⟩
  · have := hij i j oi oj hi ho hlt
    rw [if_neg (by simp [hb]), Bool.and_eq_true] at this
    exact this.1
  · have := hij i j oi oj hi ho hlt
    by_cases hb : bfm ms i j = true
    · exact hb
    · rw [if_neg hb, Bool.and_eq_true] at this
      simp [h1, h2] at this
theorem Stat.down {ops : Array Oper} {bf : Nat → Nat → Bool} (W : Stat ops bf) {p : Nat → Bool} (hp : ∀ j o, ops[j]? = some o → p j = true → ∀ e ∈ o.after, Region.binds .any e = true → p e.on = true) :
    ∀ (j : Nat) (o : Oper), ops[j]? = some o → (∀ e ∈ o.after, Region.binds .any e = true → p e.on = true) → ∀ i, i < j → bf i j = true → p i = true := by
  intro j
  induction j using Nat.strongRecOn with
  | _ j ih =>
    intro o ho he i hlt hb
    obtain ⟨e, he1, he2, h3⟩ := W.edge i j o ho hlt hb
    rcases h3 with rfl | h3
    · exact he e he1 he2
    · have hl := W.back j o ho e he1 he2
      have hi : ∃ oe, ops[e.on]? = some oe := ⟨_, Array.getElem?_eq_getElem (by have := (Array.getElem?_eq_some_iff.1 ho).1; omega)⟩
      obtain ⟨oe, hoe⟩ := hi
      exact ih e.on hl oe hoe (fun e' h5 h6 => hp e.on oe hoe (he e he1 he2) e' h5 h6) i h3.1 h3.2
/-- A state, with names that nothing uses yet. -/
def InvU (σ0 : Sto) (β0 : Nat → BI) (C0 : Nat → Prop) (h0 : World) (Z0 : Nat → Prop) (own0 : Nat → Option Nat) (U : Nat → Prop) (s : VS) (a : Act) (w : World) : Prop :=
  ∃ (β : Nat → BI) (C Z : Nat → Prop) (own : Nat → Option Nat), Mv σ0.ob β0 C0 h0.heap Z0 own0 s.σ.ob β C w.heap Z own ∧ (∀ o, C o → C0 o ∨ (σ0.n ≤ o ∧ o < s.σ.n)) ∧ σ0.n ≤ s.σ.n ∧ RelT s.σ.ob β C w.heap Z a s.tm ∧ a.tmps.size = s.nt ∧ (a.defers = [] ∧ Wld h0 w) ∧ ∀ o, U o → ¬ C o ∧ o < s.σ.n ∧ σ0.n ≤ o
section
variable {σ0 : Sto} {β0 : Nat → BI} {C0 : Nat → Prop} {h0 : World} {Z0 : Nat → Prop} {own0 : Nat → Option Nat} {U : Nat → Prop}
theorem InvU.inv {s : VS} {a : Act} {w : World} (I : InvU σ0 β0 C0 h0 Z0 own0 U s a w) : Inv σ0 β0 C0 h0 Z0 own0 s a w := by
  obtain ⟨β, C, Z, own, A, hC, hn, hT, hsz, hdf, hU⟩ := I
  exact ⟨β, C, Z, own, A, hC, hn, hT, hsz, hdf⟩
theorem stepU {ops : Array Oper} {s s' : VS} {o : Oper} {a : Act} {w : World} {K : Act → World → Prop} {Q : Exit → Act → World → Prop} (hX : OraOk P X) (hf0 : ∀ o, σ0.n ≤ o → ¬ C0 o) (I : InvU σ0 β0 C0 h0 Z0 own0 U s a w) (H : stepV P M X ops s o = some s')
    (hK : ∀ a' w', InvU σ0 β0 C0 h0 Z0 own0 U s' a' w' → K a' w') : if Region.wanted o (yielded ops a.tmps) then o.wp P a w K Q else K (a.put o.dst Go.undef) w := by
  obtain ⟨β, C, Z, own, A, hC, hn, hT, hsz, hdf, hU⟩ := I
  have hf : ∀ o, s.σ.n ≤ o → ¬ C o := fun o ho hc => (hC o hc).elim (fun h => hf0 o (by omega) h) fun h => by omega
  refine stepV_ok (σ0 := s.σ) (β0 := β) (C0 := C) (h0 := w) (Z0 := Z) (own0 := own) hX hf ⟨β, C, Z, own, .refl A.rel, fun o ho => .inl ho, Nat.le_refl _, hT, hsz, hdf.1, Wld.refl _⟩ H fun a' w' I' => hK a' w' ?_
  obtain ⟨β', C', Z', own', A', hC', hn', hT', hsz', hdf'⟩ := I'
  refine ⟨β', C', Z', own', A.trans A', fun o ho => ?_, by omega, hT', hsz', ⟨hdf'.1, hdf.2.trans hdf'.2⟩, fun o ho => ⟨fun hc => ?_, by have := (hU o ho).2; omega, (hU o ho).2.2⟩⟩
  · rcases hC' o ho with h1 | h1
    · rcases hC o h1 with h2 | h2
      · exact .inl h2
      · exact .inr ⟨h2.1, by omega⟩
    · exact .inr ⟨by omega, h1.2⟩
  · rcases hC' o hc with h1 | h1
    · exact (hU o ho).1 h1
    · have := (hU o ho).2; omega
theorem putV_T {s s' : VS} {a : Act} {d : Option Tmp} {v : AV} {val : Value} {ob : Nat → VO} {β : Nat → BI} {C : Nat → Prop} {h : Heap} {Z : Nat → Prop} {σ : Sto} (hsz : a.tmps.size = s.nt) (hdf : a.defers = []) (hT : RelT ob β C h Z a s.tm) (hv : AVRel ob β C h Z val v) (H : putV s d v σ = some s') :
    RelT ob β C h Z (a.put d val) s'.tm ∧ (a.put d val).tmps.size = s'.nt ∧ (a.put d val).defers = [] := by
  unfold putV at H
  split at H
  · cases H; exact ⟨hT, hsz, hdf⟩
  · rename_i d
    split at H
    · rename_i hlt
      cases H
      refine ⟨fun x => ?_, by simp [Act.put, hsz], hdf⟩
      simp only [Act.put]
      by_cases e : x = d
      · subst e
        rw [upd_same]
        have : (a.tmps.setIfInBounds x val).getD x Go.undef = val := by
          simp [Array.getD_eq_getD_getElem?, Array.getElem?_setIfInBounds, hsz, hlt]
        rw [this]; exact hv
      · rw [upd_ne _ _ e]
        have : (a.tmps.setIfInBounds d val).getD x Go.undef = a.tmps.getD x Go.undef := by
          have e2 : ¬ d = x := fun h => e h.symm
          simp [Array.getD_eq_getD_getElem?, Array.getElem?_setIfInBounds, e2]
        rw [this]; exact hT x
    · cases H
theorem upd_id {α : Type} (f : Nat → α) (k : Nat) (x : α) (h : f k = x) : upd f k x = f := by
  funext j
  by_cases e : j = k
  · subst e; rw [upd_same, h]
  · rw [upd_ne _ _ e]
theorem resU {s s' : VS} {o : Oper} {a : Act} {w : World} {K : Act → World → Prop} {Q : Exit → Act → World → Prop} {k : Nat} {x : VO} (hk : dk o = 3) (hx : resO P o = some x) (I : InvU σ0 β0 C0 h0 Z0 own0 U s a w) (hU : U k) (hob : s.σ.ob k = x)
    (H : putV s o.dst (rv o k) s.σ = some s') (hK : ∀ a' w', InvU σ0 β0 C0 h0 Z0 own0 (fun o => U o ∧ o ≠ k) s' a' w' → K a' w') : o.guard = none ∧ o.wp P a w K Q := by
  obtain ⟨β, C, Z, own, A, hC, hn, hT, hsz, hdf, hUU⟩ := I
  obtain ⟨hc, hlt, hge⟩ := hUU k hU
  have hg : o.guard = none := by
    unfold dk at hk
    cases hg : o.guard with
    | none => rfl
    | some g =>
      rw [hg] at hk
      split at hk <;> first | (simp at hk; done) | (split at hk <;> simp at hk; done)
  refine ⟨hg, ?_⟩
  have hops : OpOk P ⟨k, s.σ.ob⟩ β C Z own o a w (rv o k) ⟨k + 1, upd s.σ.ob k x⟩ := by
    unfold resO at hx
    split at hx
    · rename_i t ho
      refine op_alloc (M := fun _ => false) (X := fun _ _ _ => none) (tm := s.tm) ho (σ := ⟨k, s.σ.ob⟩) A.rel hc ?_
      rw [Option.map_eq_some_iff] at hx
      obtain ⟨z, hz, rfl⟩ := hx
      simp [opV, ho, hz, rv, Sto.new]
    · rename_i t n ps ho
      split at hx
      · rename_i e hu
        split at hx
        · rename_i hps
          rw [Option.map_eq_some_iff] at hx
          obtain ⟨sz, hz, rfl⟩ := hx
          have hn0 : n = 0 := by
            unfold dk at hk
            rw [ho, hg] at hk
            simp only at hk
            split at hk
            · rename_i h; simpa using h
            · simp at hk
          subst hn0
          refine op_buildSlice (M := fun _ => false) (X := fun _ _ _ => none) (tm := s.tm) ho (σ := ⟨k, s.σ.ob⟩) A.rel hc hT ?_
          simp [opV, ho, hu, hz, hps, rv, Sto.new, absorbR, md]
        · cases hx
      · cases hx
    · cases hx
  rw [upd_id _ _ _ hob] at hops
  refine hops K Q fun val w' hp hwl => hK _ _ ?_
  obtain ⟨β', C', Z', own', A', hC', _, hv⟩ := hp
  have hs := (putV_facts H).2.1
  obtain ⟨h1, h2, h3⟩ := putV_T hsz hdf.1 (fun y => A'.av A.rel (hT y)) hv H
  refine ⟨β', C', Z', own', by rw [hs]; exact A.trans A', fun o' ho' => ?_, by rw [hs]; exact hn, by rw [hs]; exact h1, h2, ⟨h3, hdf.2.trans hwl⟩, fun o' ho' => ?_⟩
  · rw [hs]
    rcases hC' o' ho' with h4 | h4
    · exact hC o' h4
    · exact .inr ⟨by have : k ≤ o' := h4.1; omega, by have : o' < k + 1 := h4.2; omega⟩
  · rw [hs]
    obtain ⟨h5, h6⟩ := hUU o' ho'.1
    refine ⟨fun hc' => ?_, h6⟩
    rcases hC' o' hc' with h4 | h4
    · exact h5 h4
    · have h7 : k ≤ o' := h4.1
      have h8 : o' < k + 1 := h4.2
      exact ho'.2 (by omega)
end
end Go.Proofs.YtpdpgfagklhpaaaGreat.V

namespace Go.Proofs.YtpdpgfagklhpaaaGreat.V
open Go
set_option linter.unusedVariables false
set_option linter.unusedSimpArgs false
variable {P : Program} {M : Nat → Bool} {X : Ora}
theorem dk_cases (o : Oper) : dk o = 0 ∨ dk o = 1 ∨ dk o = 2 ∨ dk o = 3 := by
  unfold dk
  split <;> (try split) <;> simp
theorem Mv.off {ob ob' : Nat → VO} {β : Nat → BI} {C : Nat → Prop} {h : Heap} {Z : Nat → Prop} {own : Nat → Option Nat} (R : Rel ob β C h Z own) (h1 : ∀ o, C o → ob' o = ob o) (h2 : ∀ o, ¬ C o → ob' o = .dead ∨ Pend (ob' o)) : Mv ob β C h Z own ob' β C h Z own := by
  have hevo : ∀ o, C o → C o ∧ Evo (ob o) (β o) h (ob' o) (β o) h := fun o ho => by
    rw [h1 o ho]; exact ⟨ho, .same fun _ _ _ _ _ ha => ha⟩
  have hAV : ∀ v a, AVRel ob β C h Z v a → AVRel ob' β C h Z v a := fun v a => AVRel.mono (fun b hb => ⟨hb, rfl⟩) hevo
  exact ⟨⟨R.own_lt, R.zlt, fun o ho => ObjRel.mono (h1 o ho) rfl (fun b hb => ⟨hb, rfl⟩) (fun b hb => ⟨hb, rfl⟩) hAV (R.objs o ho), h2⟩, .refl _ _ _, hevo⟩
section
variable {σ0 : Sto} {β0 : Nat → BI} {C0 : Nat → Prop} {h0 : World} {Z0 : Nat → Prop} {own0 : Nat → Option Nat}
theorem InvU.mono {U U' : Nat → Prop} {s : VS} {a : Act} {w : World} (I : InvU σ0 β0 C0 h0 Z0 own0 U s a w) (h : ∀ o, U' o → U o) : InvU σ0 β0 C0 h0 Z0 own0 U' s a w := by
  obtain ⟨β, C, Z, own, A, hC, hn, hT, hsz, hdf, hU⟩ := I
  exact ⟨β, C, Z, own, A, hC, hn, hT, hsz, hdf, fun o ho => hU o (h o ho)⟩
theorem lastC (c : Nat → Prop) [DecidablePred c] (a : Nat) : ∀ b, a ≤ b → (∃ j, a ≤ j ∧ j < b ∧ c j ∧ ∀ j', j < j' → j' < b → ¬ c j') ∨ ∀ j, a ≤ j → j < b → ¬ c j
  | 0, _ => .inr fun j _ h => by omega
  | b + 1, hab => by
    by_cases e : a = b + 1
    · exact .inr fun j h1 h2 => by omega
    · by_cases hc : c b
      · exact .inl ⟨b, by omega, by omega, hc, fun j' h1 h2 => by omega⟩
      · rcases lastC c a b (by omega) with ⟨j, h1, h2, h3, h4⟩ | h
        · exact .inl ⟨j, h1, by omega, h3, fun j' h5 h6 => by
            by_cases e : j' = b
            · subst e; exact hc
            · exact h4 j' h5 (by omega)⟩
        · exact .inr fun j h1 h2 => by
            by_cases e : j = b
            · subst e; exact hc
            · exact h j h1 (by omega)
theorem firstC (c : Nat → Prop) [DecidablePred c] (a : Nat) : ∀ b, a ≤ b → (∃ j, a ≤ j ∧ j < b ∧ c j ∧ ∀ j', a ≤ j' → j' < j → ¬ c j') ∨ ∀ j, a ≤ j → j < b → ¬ c j
  | 0, _ => .inr fun j _ h => by omega
  | b + 1, hab => by
    by_cases e : a = b + 1
    · exact .inr fun j h1 h2 => by omega
    · rcases firstC c a b (by omega) with ⟨j, h1, h2, h3, h4⟩ | h
      · exact .inl ⟨j, h1, by omega, h3, h4⟩
      · by_cases hc : c b
        · exact .inl ⟨b, by omega, by omega, hc, fun j' h5 h6 => h j' h5 h6⟩
        · exact .inr fun j h1 h2 => by
            by_cases e : j = b
            · subst e; exact hc
            · exact h j h1 (by omega)
structure Setup (P : Program) (M : Nat → Bool) (X : Ora) (ops : Array Oper) (bf : Nat → Nat → Bool) (rs : List (Nat × Nat × VO)) (s : VS) (σ1 : Sto) (S : Nat → VS) : Prop where
  W : Stat ops bf
  tr : ∀ j o, ops[j]? = some o → Tr (stepV P M X ops) bf rs ops.toList s.σ.n S j o
  zero : S 0 = s.on σ1
  rs : ResOk P ops.toList 0 s.σ rs σ1
def chgAt (ops : Array Oper) (j : Nat) : Prop := ((ops[j]?).map dk) = some 2
instance (ops : Array Oper) : DecidablePred (chgAt ops) := fun j => by unfold chgAt; infer_instance
variable {ops : Array Oper} {bf : Nat → Nat → Bool} {rs : List (Nat × Nat × VO)} {s : VS} {σ1 : Sto} {S : Nat → VS}
theorem dstOf_eq {j : Nat} {o : Oper} (h : ops[j]? = some o) : dstOf ops.toList j = o.dst := by
  unfold dstOf; rw [Array.getElem?_toList, h]; rfl
theorem Setup.tm (Y : Setup P M X ops bf rs s σ1 S) {j : Nat} {o : Oper} (h : ops[j]? = some o) : (S (j + 1)).nt = (S j).nt ∧ ∀ t, o.dst ≠ some t → (S (j + 1)).tm t = (S j).tm t := by
  have T := Y.tr j o h
  by_cases hk : dk o = 3
  · have := putV_facts (T.res hk); exact ⟨this.1, this.2.2.1⟩
  · exact step_facts (T.step hk)
theorem Setup.nt (Y : Setup P M X ops bf rs s σ1 S) : ∀ j, j ≤ ops.size → (S j).nt = s.nt
  | 0, _ => by rw [Y.zero]; rfl
  | j + 1, h => by rw [(Y.tm (Array.getElem?_eq_getElem (show j < ops.size by omega))).1]; exact Y.nt j (by omega)
theorem Setup.same (Y : Setup P M X ops bf rs s σ1 S) (a : Nat) : ∀ b, a ≤ b → b ≤ ops.size → (∀ j, a ≤ j → j < b → ¬ chgAt ops j) → (S b).σ = (S a).σ
  | 0, h1, h2, h3 => by have : a = 0 := by omega
                        subst this; rfl
  | b + 1, h1, h2, h3 => by
    by_cases e : a = b + 1
    · subst e; rfl
    · have hb : ops[b]? = some ops[b] := Array.getElem?_eq_getElem (show b < ops.size by omega)
      rw [← Y.same a b (by omega) (by omega) fun j h4 h5 => h3 j h4 (by omega)]
      have T := Y.tr b _ hb
      have hn := h3 b (by omega) (by omega)
      unfold chgAt at hn
      rw [hb] at hn
      rcases dk_cases ops[b] with hk | hk | hk | hk
      · exact step_look (.inl hk) (T.step (by omega))
      · exact step_look (.inr hk) (T.step (by omega))
      · exact absurd (by simp [hk]) hn
      · exact (putV_facts (T.res hk)).2.1
/-- What holds when the set p has been done. -/
structure Jp (σ0 : Sto) (β0 : Nat → BI) (C0 : Nat → Prop) (h0 : World) (Z0 : Nat → Prop) (own0 : Nat → Option Nat) (ops : Array Oper) (rs : List (Nat × Nat × VO)) (s : VS) (S : Nat → VS) (p : Nat → Bool) (a : Act) (w : World) : Prop where
  cl : ∀ j o, ops[j]? = some o → p j = true → ∀ e ∈ o.after, Region.binds .any e = true → p e.on = true
  st : ∃ m, m ≤ ops.size ∧ (∀ j, j < m → chgAt ops j → p j = true) ∧ (∀ j, m ≤ j → chgAt ops j → p j = false) ∧ InvU σ0 β0 C0 h0 Z0 own0 (fun k => ∃ r ∈ rs, p r.1 = false ∧ r.2.1 = k) ⟨s.nt, FT S ops.toList p ops.size, (S m).σ⟩ a w
theorem Jp.done (Y : Setup P M X ops bf rs s σ1 S) {p : Nat → Bool} {a : Act} {w : World} (J : Jp σ0 β0 C0 h0 Z0 own0 ops rs s S p a w) (hp : ∀ j, j < ops.size → p j = true) : Inv σ0 β0 C0 h0 Z0 own0 (S ops.size) a w := by
  obtain ⟨m, hm, h1, h2, I⟩ := J.st
  have e1 : (S ops.size).σ = (S m).σ := Y.same m ops.size hm (Nat.le_refl _) fun j h3 h4 hc => by
    have h5 := h2 j h3 hc
    rw [hp j h4] at h5; cases h5
  have e2 : FT S ops.toList p ops.size = (S ops.size).tm := funext fun t => by
    rw [FT_ext (q := fun _ => true) ops.size fun j hj _ => hp j hj]
    refine FT_all ops.size fun j hj hd => ?_
    have hb : ops[j]? = some ops[j] := Array.getElem?_eq_getElem hj
    exact (Y.tm hb).2 t (by rw [← dstOf_eq hb]; exact hd)
  have e3 := Y.nt ops.size (Nat.le_refl _)
  rw [e2, ← e1, ← e3] at I
  exact I.inv
theorem Jp.step (Y : Setup P M X ops bf rs s σ1 S) (hX : OraOk P X) (hf0 : ∀ o, σ0.n ≤ o → ¬ C0 o) {p : Nat → Bool} {a : Act} {w : World} (J : Jp σ0 β0 C0 h0 Z0 own0 ops rs s S p a w) {i : Nat} {o : Oper} (ho : ops[i]? = some o) (hpi : p i = false)
    (he : ∀ e ∈ o.after, Region.binds .any e = true → p e.on = true) {K : Act → World → Prop} {Q : Exit → Act → World → Prop} (hK : ∀ a' w', Jp σ0 β0 C0 h0 Z0 own0 ops rs s S (fun j => p j || j == i) a' w' → K a' w') : wpOp P ops Q i K a w := by
  obtain ⟨m, hm, hm1, hm2, I⟩ := J.st
  have hin : i < ops.size := (Array.getElem?_eq_some_iff.1 ho).1
  have T := Y.tr i o ho
  have hpre : ∀ j, j < i → bf j i = true → p j = true := Y.W.down J.cl i o ho he
  have hpost : ∀ j, i < j → j < ops.size → p j = true → bf i j = false := fun j h1 h2 h3 => by
    cases hb : bf i j with
    | false => rfl
    | true =>
      have hj : ops[j]? = some ops[j] := Array.getElem?_eq_getElem h2
      have := Y.W.down J.cl j _ hj (J.cl j _ hj h3) i h1 hb
      rw [hpi] at this; cases this
  have hcl : ∀ j o', ops[j]? = some o' → (p j || j == i) = true → ∀ e ∈ o'.after, Region.binds .any e = true → (p e.on || e.on == i) = true := by
    intro j o' hj hp e h1 h2
    rw [Bool.or_eq_true] at hp ⊢
    rcases hp with hp | hp
    · exact .inl (J.cl j o' hj hp e h1 h2)
    · have : j = i := by simpa using hp
      subst this; rw [ho] at hj; cases hj; exact .inl (he e h1 h2)
  have hlook : ∀ t ∈ o.looksAt ops, (S i).tm t = FT S ops.toList p ops.size t := by
    intro t ht
    rw [FT_past (a := i) ops.size (by omega) fun j h1 h2 h3 hd => by
      have hne : j ≠ i := fun e => by subst e; rw [hpi] at h3; cases h3
      have hj : ops[j]? = some ops[j] := Array.getElem?_eq_getElem h2
      have hap := Oper.apart_spec (Y.W.apart i j o _ ho hj (by omega) (hpost j (by omega) h2 h3))
      rw [dstOf_eq hj] at hd
      exact hap.2.2 t hd ht]
    rw [FT_ext (q := fun _ => true) i fun j h1 hd => by
      have hj : ops[j]? = some ops[j] := Array.getElem?_eq_getElem (by omega)
      cases hpj : p j with
      | true => rfl
      | false =>
        exfalso
        have hb : bf j i = false := by
          cases hb : bf j i with
          | false => rfl
          | true => rw [hpre j h1 hb] at hpj; cases hpj
        have hap := Oper.apart_spec (Y.W.apart j i _ o hj ho h1 hb)
        rw [dstOf_eq hj] at hd
        exact hap.1 t hd ht]
    refine (FT_all i fun j h1 hd => ?_).symm
    have hj : ops[j]? = some ops[j] := Array.getElem?_eq_getElem (by omega)
    exact (Y.tm hj).2 t (by rw [← dstOf_eq hj]; exact hd)
  have hadd : ∀ t, FT S ops.toList (fun j => p j || j == i) ops.size t = if o.dst = some t then (S (i + 1)).tm t else FT S ops.toList p ops.size t := fun t => by
    rw [FT_add hin fun j h1 h2 h3 hd hd2 => by
      have hj : ops[j]? = some ops[j] := Array.getElem?_eq_getElem h2
      have hap := Oper.apart_spec (Y.W.apart i j o _ ho hj h1 (hpost j h1 h2 h3))
      rw [dstOf_eq ho] at hd
      rw [dstOf_eq hj] at hd2
      exact hap.2.1 t hd hd2, dstOf_eq ho]
  have hUsub : ∀ k, (∃ r ∈ rs, (p r.1 || r.1 == i) = false ∧ r.2.1 = k) → ∃ r ∈ rs, p r.1 = false ∧ r.2.1 = k := by
    rintro k ⟨r, h1, h2, h3⟩
    rw [Bool.or_eq_false_iff] at h2
    exact ⟨r, h1, h2.1, h3⟩
  have fin : ∀ (m' : Nat) (σ' : Sto), stepV P M X ops ⟨s.nt, (S i).tm, (S m).σ⟩ o = some ⟨s.nt, (S (i + 1)).tm, σ'⟩ → (S m').σ = σ' → m' ≤ ops.size → (∀ j, j < m' → chgAt ops j → (p j || j == i) = true) → (∀ j, m' ≤ j → chgAt ops j → (p j || j == i) = false) → wpOp P ops Q i K a w := by
    intro m' σ' hst hσ h1 h2 h3
    have hst2 := step_congr hst hlook
    have hfe : (fun t => if o.dst = some t then (S (i + 1)).tm t else FT S ops.toList p ops.size t) = FT S ops.toList (fun j => p j || j == i) ops.size := funext fun t => (hadd t).symm
    simp only [hfe] at hst2
    have := stepU (K := K) (Q := Q) hX hf0 I hst2 fun a' w' I' => hK a' w' ⟨hcl, m', h1, h2, h3, by rw [hσ]; exact I'.mono hUsub⟩
    unfold wpOp
    rw [ho]
    simp only
    split
    · rename_i hw; rw [if_pos hw] at this; exact .inl this
    · rename_i hw; rw [if_neg hw] at this; exact this
  have hS : ∀ σ, (S i).on σ = ⟨s.nt, (S i).tm, σ⟩ := fun σ => by unfold VS.on; rw [Y.nt i (by omega)]
  have hS1 : ∀ σ, (S (i + 1)).on σ = ⟨s.nt, (S (i + 1)).tm, σ⟩ := fun σ => by unfold VS.on; rw [Y.nt (i + 1) (by omega)]
  have hchg : ∀ {j : Nat}, chgAt ops j → ∃ oj, ops[j]? = some oj ∧ dk oj = 2 ∧ j < ops.size := by
    intro j hc
    unfold chgAt at hc
    rw [Option.map_eq_some_iff] at hc
    obtain ⟨oj, h1, h2⟩ := hc
    exact ⟨oj, h1, h2, (Array.getElem?_eq_some_iff.1 h1).1⟩
  rcases dk_cases o with hk | hk | hk | hk
  · have h1 := step_pure hk (T.step (by omega)) (S m).σ
    rw [hS, hS1] at h1
    have hni : ¬ chgAt ops i := fun hc => by obtain ⟨oj, h2, h3, _⟩ := hchg hc; rw [ho] at h2; cases h2; omega
    refine fin m _ h1 rfl hm (fun j h2 h3 => by rw [hm1 j h2 h3]; rfl) fun j h2 h3 => ?_
    have : j ≠ i := fun e => hni (e ▸ h3)
    rw [hm2 j h2 h3]; simpa using this
  · have hni : ¬ chgAt ops i := fun hc => by obtain ⟨oj, h2, h3, _⟩ := hchg hc; rw [ho] at h2; cases h2; omega
    have hsame : stepV P M X ops ((S i).on (S i).σ) o = some ((S (i + 1)).on (S i).σ) := by
      have h2 := T.step (by omega)
      have h3 := step_look (.inr hk) h2
      show stepV P M X ops (S i) o = some _
      rw [h2, ← h3]; rfl
    have h1 : stepV P M X ops ((S i).on (S m).σ) o = some ((S (i + 1)).on (S m).σ) := by
      rcases Nat.lt_or_ge i m with hlt | hge
      · rcases lastC (chgAt ops) i m (by omega) with ⟨j, h2, h3, h4, h5⟩ | h2
        · obtain ⟨oj, h6, h7, h8⟩ := hchg h4
          have hne : j ≠ i := fun e => hni (e ▸ h4)
          have e1 : (S m).σ = (S (j + 1)).σ := Y.same (j + 1) m (by omega) hm fun j' h9 h10 => h5 j' (by omega) h10
          rw [e1]
          rcases (Y.tr j oj h6).pd h7 i o (by omega) (by rw [Array.getElem?_toList]; exact ho) hk with h9 | h9
          · rw [hpost j (by omega) h8 (hm1 j h3 h4)] at h9; cases h9
          · exact h9
        · rw [Y.same i m (by omega) hm h2]; exact hsame
      · rcases firstC (chgAt ops) m i hge with ⟨j, h2, h3, h4, h5⟩ | h2
        · obtain ⟨oj, h6, h7, h8⟩ := hchg h4
          have e1 : (S j).σ = (S m).σ := Y.same m j h2 (by omega) h5
          rw [← e1]
          rcases T.hs hk j oj h3 (by rw [Array.getElem?_toList]; exact h6) h7 with h9 | h9
          · have := hpre j h3 h9
            rw [hm2 j h2 h4] at this; cases this
          · exact h9
        · rw [← Y.same m i hge (by omega) h2]; exact hsame
    rw [hS, hS1] at h1
    refine fin m _ h1 rfl hm (fun j h2 h3 => by rw [hm1 j h2 h3]; rfl) fun j h2 h3 => ?_
    have : j ≠ i := fun e => hni (e ▸ h3)
    rw [hm2 j h2 h3]; simpa using this
  · have hci : chgAt ops i := by unfold chgAt; rw [ho]; simp [hk]
    have hlt : ∀ j, j < i → chgAt ops j → p j = true := fun j h1 h2 => by
      obtain ⟨oj, h3, h4, _⟩ := hchg h2
      exact hpre j h1 (Y.W.chg j i oj o h3 ho h1 h4 hk)
    have hgt : ∀ j, i < j → chgAt ops j → p j = false := fun j h1 h2 => by
      obtain ⟨oj, h3, h4, h5⟩ := hchg h2
      cases hpj : p j with
      | false => rfl
      | true =>
        have h6 := hpost j h1 h5 hpj
        rw [Y.W.chg i j o oj ho h3 h1 hk h4] at h6; cases h6
    have hmi : m ≤ i := by
      rcases Nat.lt_or_ge i m with h | h
      · have := hm1 i h hci; rw [hpi] at this; cases this
      · exact h
    have e1 : (S i).σ = (S m).σ := Y.same m i hmi (by omega) fun j h1 h2 h3 => by
      have h4 := hm2 j h1 h3
      rw [hlt j h2 h3] at h4; cases h4
    have h1 := T.step (by omega)
    have h2 : stepV P M X ops ((S i).on (S m).σ) o = some ((S (i + 1)).on (S (i + 1)).σ) := by rw [← e1]; exact h1
    rw [hS, hS1] at h2
    refine fin (i + 1) _ h2 rfl (by omega) (fun j h3 h4 => ?_) fun j h3 h4 => ?_
    · by_cases e : j = i
      · subst e; simp
      · rw [hlt j (by omega) h4]; rfl
    · have : j ≠ i := by omega
      rw [hgt j (by omega) h4]; simpa using this
  · obtain ⟨x, hx1, hx2⟩ := Y.rs.has i o (by rw [Array.getElem?_toList]; exact ho) hk
    rw [Nat.zero_add] at hx1
    have hob : (S m).σ.ob (rid ops.toList s.σ.n i) = x := by
      rcases lastC (chgAt ops) 0 m (Nat.zero_le _) with ⟨j, _, h3, h4, h5⟩ | h2
      · obtain ⟨oj, h6, h7, h8⟩ := hchg h4
        rw [Y.same (j + 1) m (by omega) hm fun j' h9 h10 => h5 j' (by omega) h10]
        rcases (Y.tr j oj h6).rs h7 _ hx1 with h9 | h9
        · rw [Bool.and_eq_true] at h9
          have h10 : i < j := by simpa using h9.1
          have h11 : bf i j = true := h9.2
          rw [hpost j h10 h8 (hm1 j h3 h4)] at h11; cases h11
        · exact h9
      · rw [Y.same 0 m (Nat.zero_le _) hm h2, Y.zero]
        exact (Y.rs.mem _ hx1).2.2
    have h1 := T.res hk
    have hput : putV ⟨s.nt, FT S ops.toList p ops.size, (S m).σ⟩ o.dst (rv o (rid ops.toList s.σ.n i)) (S m).σ = some ⟨s.nt, FT S ops.toList (fun j => p j || j == i) ops.size, (S m).σ⟩ := by
      obtain ⟨h2, h3, h4, h5⟩ := putV_facts h1
      unfold putV
      cases hd : o.dst with
      | none =>
        simp only [Option.some.injEq, VS.mk.injEq, true_and, and_true]
        funext t; rw [hadd t, hd]; simp
      | some d =>
        have h6 := h5 d hd
        rw [Y.nt i (by omega)] at h6
        simp only
        rw [if_pos h6.2]
        simp only [Option.some.injEq, VS.mk.injEq, true_and, and_true]
        funext t; rw [hadd t, hd]
        by_cases e : t = d
        · subst e; rw [upd_same]; simp [h6.1]
        · rw [upd_ne _ _ e, if_neg (fun h => e (Option.some.inj h).symm)]
    obtain ⟨hg, hwp⟩ := resU (Q := Q) (K := K) hk hx2 I ⟨_, hx1, hpi, rfl⟩ hob hput fun a' w' I' => hK a' w' ⟨hcl, m, hm, fun j h2 h3 => by rw [hm1 j h2 h3]; rfl, fun j h2 h3 => by
        have : j ≠ i := fun e => by subst e; obtain ⟨oj, h6, h7, h8⟩ := hchg h3; rw [ho] at h6; cases h6; omega
        rw [hm2 j h2 h3]; simpa using this, I'.mono fun k hk2 => ⟨hUsub k hk2, fun e => by
          obtain ⟨r, h2, h3, h4⟩ := hk2
          have := Y.rs.inj r h2 _ hx1 (by rw [h4, e])
          subst this
          simp at h3⟩⟩
    unfold wpOp
    rw [ho]
    simp only
    rw [if_pos (by simp [Region.wanted, hg])]
    exact .inl hwp
end
end Go.Proofs.YtpdpgfagklhpaaaGreat.V

namespace Go.Proofs.YtpdpgfagklhpaaaGreat.V
open Go
set_option linter.unusedVariables false
set_option linter.unusedSimpArgs false
open Classical in
/-- The answer that comes at last. -/
noncomputable def Lim {α : Type} (g : Nat → Option α) : Option α := if h : ∃ k r, g k = some r then some (h.choose_spec.choose) else none
theorem Lim_iff {α : Type} {g : Nat → Option α} (hm : ∀ k r, g k = some r → ∀ j, k ≤ j → g j = some r) (r : α) : Lim g = some r ↔ ∃ k, g k = some r := by
  unfold Lim
  constructor
  · intro h
    split at h
    · rename_i hex
      simp only [Option.some.injEq] at h
      subst h
      exact ⟨_, hex.choose_spec.choose_spec⟩
    · cases h
  · rintro ⟨k, hk⟩
    have hex : ∃ k r, g k = some r := ⟨k, r, hk⟩
    rw [dif_pos hex]
    have h1 := hex.choose_spec.choose_spec
    have h2 := hm _ _ h1 (max hex.choose k) (Nat.le_max_left _ _)
    have h3 := hm _ _ hk (max hex.choose k) (Nat.le_max_right _ _)
    rw [h2] at h3
    exact h3
def Ole (X Y : Ora) : Prop := ∀ f a σ r, X f a σ = some r → Y f a σ = some r
/-- Drawn regions go with the oracle. -/
structure DGo (D : Ora → Drw) : Prop where
  mono : ∀ X Y, Ole X Y → ∀ ops s r, D X ops s = some r → D Y ops s = some r
  cont : ∀ (X : Nat → Ora) (Y : Ora), (∀ j k, j ≤ k → Ole (X j) (X k)) → (∀ f a σ r, Y f a σ = some r → ∃ k, X k f a σ = some r) → ∀ ops s r, D Y ops s = some r → ∃ k, D (X k) ops s = some r
section
variable {P : Program} {M : Nat → Bool} {X Y : Ora}
theorem callP_one {σ : Sto} {f : Nat} {args : List AV} {r : AV × Sto} (H : callP Y σ f args = some r) : ∃ as' σ' res, Y f as' σ' = some res ∧ ∀ X : Ora, X f as' σ' = some res → callP X σ f args = some r := by
  unfold callP at H
  split at H
  · rename_i o rest
    split at H
    · rename_i cs hob
      split at H
      · rename_i l as_ σf hl has hfr
        split at H
        · rename_i r1 σ1 hx
          refine ⟨_, _, _, hx, fun X hX => ?_⟩
          unfold callP
          simp only [hob, hl, has, hfr, hX]
          exact H
        · cases H
      · cases H
    · cases H
  · cases H
theorem callV_mono (hXY : Ole X Y) {σ : Sto} {f : Nat} {args : List AV} {r : AV × Sto} (H : callV M X σ f args = some r) : callV M Y σ f args = some r := by
  unfold callV at H ⊢
  split
  · rename_i hm
    rw [if_pos hm] at H
    split
    · rename_i hp
      rw [if_pos hp] at H
      obtain ⟨as', σ', res, h1, h2⟩ := callP_one H
      exact h2 _ (hXY _ _ _ _ h1)
    rename_i hp
    rw [if_neg hp] at H
    split at H
    · rename_i r1 σ1 hx
      rw [hXY _ _ _ _ hx]; exact H
    · cases H
  · rename_i hm
    rw [if_neg hm] at H
    split at H
    · rename_i as_ has
      split at H
      · rename_i r1 σ1 hx
        simp only [hXY _ _ _ _ hx]; exact H
      · cases H
    · cases H
theorem opV_mono (hXY : Ole X Y) {tm : Nat → AV} {σ : Sto} {o : Oper} {r : AV × Sto} (H : opV P M X tm σ o = some r) : opV P M Y tm σ o = some r := by
  cases ho : o.op with
  | call c =>
    simp only [opV, ho] at H ⊢
    split at H
    · rename_i as_ has
      cases hc : c.callee with
      | value f =>
        rw [hc] at H
        simp only at H ⊢
        split at H
        · rename_i g caps hg
          exact callV_mono hXY H
        · cases H
      | invoke rr m => rw [hc] at H; simp only at H; cases H
      | builtin b => rw [hc] at H; cases b <;> exact H
    · cases H
  | unOp u t x => simp only [opV, ho] at H ⊢; cases u <;> exact H
  | makeFunc f first caps => simp only [opV, ho] at H ⊢; cases f <;> exact H
  | _ => simp only [opV, ho] at H ⊢; exact H
theorem stepV_mono (hXY : Ole X Y) {ops : Array Oper} {s s' : VS} {o : Oper} (H : stepV P M X ops s o = some s') : stepV P M Y ops s o = some s' := by
  unfold stepV at H ⊢
  split at H
  · split at H
    · rename_i v σ h1
      rw [opV_mono hXY h1]; exact H
    · cases H
  · exact H
  · cases H
theorem opsV_mono (hXY : Ole X Y) {ops : Array Oper} : ∀ (l : List Oper) {s s' : VS}, opsV P M X ops l s = some s' → opsV P M Y ops l s = some s'
  | [], s, s', H => H
  | o :: l, s, s', H => by
    simp only [opsV] at H ⊢
    split at H
    · rename_i s1 h1
      rw [stepV_mono hXY h1]; exact opsV_mono hXY l H
    · cases H
theorem loopV_mono {f g : VS → Option (VX × VS)} (hfg : ∀ s r, f s = some r → g s = some r) : ∀ (n m : Nat) {s : VS} {r : VX × VS}, n ≤ m → loopV f n s = some r → loopV g m s = some r
  | 0, m, s, r, _, H => by cases H
  | n + 1, m, s, r, hnm, H => by
    obtain ⟨m, rfl⟩ : ∃ k, m = k + 1 := ⟨m - 1, by omega⟩
    simp only [loopV] at H ⊢
    split at H
    · rename_i s1 h1
      rw [hfg _ _ h1]; exact loopV_mono hfg n m (by omega) H
    · rename_i hne
      rw [hfg _ _ H]
      cases r with
      | mk x s1 =>
        cases x with
        | normal => exact absurd H (hne s1)
        | exit id => rfl
        | ret => rfl
theorem execV_mono {D : Ora → Drw} (hD : DGo D) (hXY : Ole X Y) {n m : Nat} (hnm : n ≤ m) : ∀ (c : Code) {s : VS} {r : VX × VS}, execV P M D X n c s = some r → execV P M D Y m c s = some r := by
  intro c
  induction c with
  | region id ops draw =>
    intro s r H
    cases draw with
    | false =>
      simp only [execV, Option.map_eq_some_iff] at H ⊢
      obtain ⟨s1, h1, h2⟩ := H
      exact ⟨s1, opsV_mono hXY _ h1, h2⟩
    | true =>
      simp only [execV, Option.map_eq_some_iff] at H ⊢
      obtain ⟨s1, h1, h2⟩ := H
      exact ⟨s1, hD.mono X Y hXY _ _ _ h1, h2⟩
  | seq a b iha ihb =>
    intro s r H
    simp only [execV] at H ⊢
    split at H
    · rename_i s1 h1
      rw [iha h1]; exact ihb H
    · rename_i hne
      rw [iha H]
      cases r with
      | mk x s1 =>
        cases x with
        | normal => exact absurd H (hne s1)
        | exit id => rfl
        | ret => rfl
  | cond c a b iha ihb =>
    intro s r H
    simp only [execV] at H ⊢
    cases hc : evalO s.tm c with
    | none => rw [hc] at H; cases H
    | some v =>
      rw [hc] at H
      cases v with
      | t y => cases y with
        | b x => cases x with
          | true => exact iha H
          | false => exact ihb H
        | _ => cases H
      | _ => cases H
  | block id c ih =>
    intro s r H
    simp only [execV] at H ⊢
    split at H
    · rename_i id' s1 h1
      rw [ih h1]; exact H
    · rename_i hne
      rw [ih H]
      cases r with
      | mk x s1 =>
        cases x with
        | normal => rfl
        | exit id => exact absurd H (hne id s1)
        | ret => rfl
  | loop c ih =>
    intro s r H
    simp only [execV] at H ⊢
    exact loopV_mono (fun s r h => ih h) n m hnm H
  | _ => intro s r H; exact H
theorem bodyV_mono {D : Ora → Drw} (hD : DGo D) (hXY : Ole X Y) {n m : Nat} (hnm : n ≤ m) {fn : Func} {c : Code} {args : List AV} {σ : Sto} {r : AV × Sto} (H : bodyV P M D X n fn c args σ = some r) : bodyV P M D Y m fn c args σ = some r := by
  unfold bodyV at H ⊢
  split
  · rename_i hle
    rw [if_pos hle] at H
    split at H
    · rename_i s h1; simp only [execV_mono hD hXY hnm c h1]; exact H
    · rename_i s h1; simp only [execV_mono hD hXY hnm c h1]; exact H
    · cases H
  · rename_i hle; rw [if_neg hle] at H; cases H
theorem runV_succ {D : Ora → Drw} (hD : DGo D) (G : Giv) : ∀ k, Ole (runV P M D G k) (runV P M D G (k + 1))
  | 0 => fun f a σ r H => by cases H
  | k + 1 => fun f a σ r H => by
    have ih := runV_succ hD G k
    simp only [runV] at H ⊢
    split at H
    · exact H
    · split at H
      · split at H
        · cases H
        · rename_i hn
          rw [if_neg hn]
          split at H
          · exact bodyV_mono hD ih (Nat.le_succ k) H
          · cases H
      · cases H
theorem runV_mono {D : Ora → Drw} (hD : DGo D) (G : Giv) (j k : Nat) (h : j ≤ k) : Ole (runV P M D G j) (runV P M D G k) := by
  induction k with
  | zero => have : j = 0 := by omega
            subst this; exact fun f a σ r H => H
  | succ k ih =>
    rcases Nat.lt_or_ge j (k + 1) with h1 | h1
    · exact fun f a σ r H => runV_succ hD G k f a σ r (ih (by omega) f a σ r H)
    · have : j = k + 1 := by omega
      subst this; exact fun f a σ r H => H
end
section
variable (P : Program) (M : Nat → Bool) (D : Ora → Drw) (G : Giv)
/-- What a function answers. -/
noncomputable def R : Ora := fun f a σ => Lim fun k => runV P M D G k f a σ
/-- What a piece of code comes to. -/
noncomputable def E (c : Code) (s : VS) : Option (VX × VS) := Lim fun k => execV P M D (runV P M D G k) k c s
variable {P M D G} (hD : DGo D)
include hD
theorem R_iff {f : Nat} {a : List AV} {σ : Sto} {r : AV × Sto} : R P M D G f a σ = some r ↔ ∃ k, runV P M D G k f a σ = some r :=
  Lim_iff (fun k r hk j hj => runV_mono hD G k j hj f a σ r hk) r
theorem E_iff {c : Code} {s : VS} {r : VX × VS} : E P M D G c s = some r ↔ ∃ k, execV P M D (runV P M D G k) k c s = some r :=
  Lim_iff (fun k r hk j hj => execV_mono hD (runV_mono hD G k j hj) hj c hk) r
theorem R_ok (hG : GivOk P G) (hDo : ∀ X, OraOk P X → DrwOk P X (D X)) : OraOk P (R P M D G) := by
  intro f a σ r σ' H
  obtain ⟨k, hk⟩ := (R_iff hD).1 H
  exact runV_ok hG hDo k f a σ r σ' hk
theorem R_le (k : Nat) : Ole (runV P M D G k) (R P M D G) := fun f a σ r H => (R_iff hD).2 ⟨k, H⟩
omit hD in
theorem eq_of_iff {α : Type} {x y : Option α} (h : ∀ r, x = some r ↔ y = some r) : x = y := by
  cases x with
  | none =>
    cases y with
    | none => rfl
    | some r => exact ((h r).2 rfl)
  | some r => exact ((h r).1 rfl).symm
theorem callV_cont {σ : Sto} {f : Nat} {args : List AV} {r : AV × Sto} (H : callV M (R P M D G) σ f args = some r) : ∃ k, callV M (runV P M D G k) σ f args = some r := by
  unfold callV at H ⊢
  split at H
  · rename_i hm
    simp only [hm, if_true]
    split at H
    · rename_i hp
      simp only [hp, if_true]
      obtain ⟨as', σ', res, h1, h2⟩ := callP_one H
      obtain ⟨k, hk⟩ := (R_iff hD).1 h1
      exact ⟨k, h2 _ hk⟩
    rename_i hp
    simp only [hp, if_false, Bool.false_eq_true]
    split at H
    · rename_i r1 σ1 hx
      obtain ⟨k, hk⟩ := (R_iff hD).1 hx
      exact ⟨k, by rw [hk]; exact H⟩
    · cases H
  · rename_i hm
    simp only [hm, if_false, Bool.false_eq_true]
    split at H
    · rename_i as_ has
      split at H
      · rename_i r1 σ1 hx
        obtain ⟨k, hk⟩ := (R_iff hD).1 hx
        exact ⟨k, by simp only [hk]; exact H⟩
      · cases H
    · cases H
theorem opV_cont {tm : Nat → AV} {σ : Sto} {o : Oper} {r : AV × Sto} (H : opV P M (R P M D G) tm σ o = some r) : ∃ k, opV P M (runV P M D G k) tm σ o = some r := by
  cases ho : o.op with
  | call c =>
    simp only [opV, ho] at H ⊢
    split at H
    · rename_i as_ has
      cases hc : c.callee with
      | value f =>
        rw [hc] at H
        simp only at H ⊢
        split at H
        · rename_i g caps hg
          obtain ⟨k, hk⟩ := callV_cont hD H
          exact ⟨k, hk⟩
        · cases H
      | invoke rr m => rw [hc] at H; simp only at H; cases H
      | builtin b => rw [hc] at H; exact ⟨0, by cases b <;> exact H⟩
    · cases H
  | unOp u t x => simp only [opV, ho] at H ⊢; exact ⟨0, by cases u <;> exact H⟩
  | makeFunc f first caps => simp only [opV, ho] at H ⊢; exact ⟨0, by cases f <;> exact H⟩
  | _ => simp only [opV, ho] at H ⊢; exact ⟨0, H⟩
theorem stepV_cont {ops : Array Oper} {s s' : VS} {o : Oper} (H : stepV P M (R P M D G) ops s o = some s') : ∃ k, stepV P M (runV P M D G k) ops s o = some s' := by
  unfold stepV at H ⊢
  cases hw : wantV ops s.tm o with
  | none => rw [hw] at H; cases H
  | some w =>
    rw [hw] at H
    cases w with
    | false => exact ⟨0, H⟩
    | true =>
      simp only at H ⊢
      split at H
      · rename_i v σ h1
        obtain ⟨k, hk⟩ := opV_cont hD h1
        exact ⟨k, by rw [hk]; exact H⟩
      · cases H
theorem opsV_cont {ops : Array Oper} : ∀ (l : List Oper) {s s' : VS}, opsV P M (R P M D G) ops l s = some s' → ∃ k, opsV P M (runV P M D G k) ops l s = some s'
  | [], s, s', H => ⟨0, H⟩
  | o :: l, s, s', H => by
    simp only [opsV] at H ⊢
    split at H
    · rename_i s1 h1
      obtain ⟨k, hk⟩ := stepV_cont hD h1
      obtain ⟨j, hj⟩ := opsV_cont l H
      refine ⟨max k j, ?_⟩
      rw [stepV_mono (runV_mono hD G k (max k j) (Nat.le_max_left _ _)) hk]
      exact opsV_mono (runV_mono hD G j (max k j) (Nat.le_max_right _ _)) l hj
    · cases H
theorem E_skip (s : VS) : E P M D G .skip s = some (.normal, s) := (E_iff hD).2 ⟨0, rfl⟩
theorem E_exit (id : Nat) (s : VS) : E P M D G (.exit id) s = some (.exit id, s) := (E_iff hD).2 ⟨0, rfl⟩
theorem E_ret (s : VS) : E P M D G .ret s = some (.ret, s) := (E_iff hD).2 ⟨0, rfl⟩
theorem E_region (id : Nat) (ops : Array Oper) (s : VS) : E P M D G (.region id ops false) s = (opsV P M (R P M D G) ops ops.toList s).map fun s => (.normal, s) := by
  refine eq_of_iff fun r => ?_
  rw [E_iff hD]
  simp only [execV, Option.map_eq_some_iff]
  constructor
  · rintro ⟨k, s1, h1, h2⟩; exact ⟨s1, opsV_mono (R_le hD k) _ h1, h2⟩
  · rintro ⟨s1, h1, h2⟩; obtain ⟨k, hk⟩ := opsV_cont hD _ h1; exact ⟨k, s1, hk, h2⟩
theorem E_draw (id : Nat) (ops : Array Oper) (s : VS) : E P M D G (.region id ops true) s = (D (R P M D G) ops s).map fun s => (.normal, s) := by
  refine eq_of_iff fun r => ?_
  rw [E_iff hD]
  simp only [execV, Option.map_eq_some_iff]
  constructor
  · rintro ⟨k, s1, h1, h2⟩; exact ⟨s1, hD.mono _ _ (R_le hD k) _ _ _ h1, h2⟩
  · rintro ⟨s1, h1, h2⟩
    obtain ⟨k, hk⟩ := hD.cont (fun k => runV P M D G k) _ (fun j k h => runV_mono hD G j k h) (fun f a σ r h => (R_iff hD).1 h) _ _ _ h1
    exact ⟨k, s1, hk, h2⟩
theorem E_seq (a b : Code) (s : VS) : E P M D G (.seq a b) s = match E P M D G a s with | some (.normal, s1) => E P M D G b s1 | r => r := by
  refine eq_of_iff fun r => ?_
  rw [E_iff hD]
  constructor
  · rintro ⟨k, hk⟩
    simp only [execV] at hk
    split at hk
    · rename_i s1 h1
      rw [(E_iff hD).2 ⟨k, h1⟩]; exact (E_iff hD).2 ⟨k, hk⟩
    · rename_i hne
      rw [(E_iff hD).2 ⟨k, hk⟩]
      cases r with
      | mk x s1 =>
        cases x with
        | normal => exact absurd hk (hne s1)
        | exit id => rfl
        | ret => rfl
  · intro h
    split at h
    · rename_i s1 h1
      obtain ⟨k, hk⟩ := (E_iff hD).1 h1
      obtain ⟨j, hj⟩ := (E_iff hD).1 h
      refine ⟨max k j, ?_⟩
      simp only [execV]
      rw [execV_mono hD (runV_mono hD G k (max k j) (Nat.le_max_left _ _)) (Nat.le_max_left _ _) a hk]
      exact execV_mono hD (runV_mono hD G j (max k j) (Nat.le_max_right _ _)) (Nat.le_max_right _ _) b hj
    · rename_i hne
      obtain ⟨k, hk⟩ := (E_iff hD).1 h
      refine ⟨k, ?_⟩
      simp only [execV]
      rw [hk]
      cases r with
      | mk x s1 =>
        cases x with
        | normal => exact absurd h (hne s1)
        | exit id => rfl
        | ret => rfl
theorem E_cond (c : Operand) (a b : Code) (s : VS) : E P M D G (.cond c a b) s = match evalO s.tm c with | some (.t (.b x)) => if x then E P M D G a s else E P M D G b s | _ => none := by
  refine eq_of_iff fun r => ?_
  rw [E_iff hD]
  simp only [execV]
  cases hc : evalO s.tm c with
  | none => simp
  | some v =>
    cases v with
    | t x =>
      cases x with
      | b y => cases y <;> simp [E_iff hD]
      | _ => simp
    | _ => simp
theorem E_block (id : Nat) (c : Code) (s : VS) : E P M D G (.block id c) s = match E P M D G c s with | some (.exit id', s1) => if id' = id then some (.normal, s1) else some (.exit id', s1) | r => r := by
  refine eq_of_iff fun r => ?_
  rw [E_iff hD]
  constructor
  · rintro ⟨k, hk⟩
    simp only [execV] at hk
    split at hk
    · rename_i id' s1 h1
      rw [(E_iff hD).2 ⟨k, h1⟩]; exact hk
    · rename_i hne
      rw [(E_iff hD).2 ⟨k, hk⟩]
      cases r with
      | mk x s1 =>
        cases x with
        | normal => rfl
        | exit id => exact absurd hk (hne id s1)
        | ret => rfl
  · intro h
    split at h
    · rename_i id' s1 h1
      obtain ⟨k, hk⟩ := (E_iff hD).1 h1
      exact ⟨k, by simp only [execV]; rw [hk]; exact h⟩
    · rename_i hne
      obtain ⟨k, hk⟩ := (E_iff hD).1 h
      refine ⟨k, ?_⟩
      simp only [execV]
      rw [hk]
      cases r with
      | mk x s1 =>
        cases x with
        | normal => rfl
        | exit id => exact absurd h (hne id s1)
        | ret => rfl
theorem E_loop (c : Code) (s : VS) : E P M D G (.loop c) s = match E P M D G c s with | some (.normal, s1) => E P M D G (.loop c) s1 | r => r := by
  refine eq_of_iff fun r => ?_
  rw [E_iff hD]
  constructor
  · rintro ⟨k, hk⟩
    simp only [execV] at hk
    cases k with
    | zero => cases hk
    | succ k =>
      simp only [loopV] at hk
      split at hk
      · rename_i s1 h1
        rw [(E_iff hD).2 ⟨k + 1, h1⟩]
        refine (E_iff hD).2 ⟨k + 1, ?_⟩
        simp only [execV]
        exact loopV_mono (fun _ _ h => h) k (k + 1) (Nat.le_succ k) hk
      · rename_i hne
        rw [(E_iff hD).2 ⟨k + 1, hk⟩]
        cases r with
        | mk x s1 =>
          cases x with
          | normal => exact absurd hk (hne s1)
          | exit id => rfl
          | ret => rfl
  · intro h
    split at h
    · rename_i s1 h1
      obtain ⟨k, hk⟩ := (E_iff hD).1 h1
      obtain ⟨j, hj⟩ := (E_iff hD).1 h
      refine ⟨max k j + 1, ?_⟩
      simp only [execV, loopV]
      rw [execV_mono hD (runV_mono hD G k (max k j + 1) (by omega)) (by omega) c hk]
      simp only [execV] at hj
      exact loopV_mono (fun s r h => execV_mono hD (runV_mono hD G j (max k j + 1) (by omega)) (by omega) c h) j (max k j) (Nat.le_max_right _ _) hj
    · rename_i hne
      obtain ⟨k, hk⟩ := (E_iff hD).1 h
      refine ⟨k + 1, ?_⟩
      simp only [execV, loopV]
      rw [execV_mono hD (runV_mono hD G k (k + 1) (Nat.le_succ k)) (Nat.le_succ k) c hk]
      cases r with
      | mk x s1 =>
        cases x with
        | normal => exact absurd h (hne s1)
        | exit id => rfl
        | ret => rfl
/-- What is given is the answer. -/
theorem R_giv {f : Nat} {g : List AV → Sto → Option (AV × Sto)} (hg : G f = some g) (args : List AV) (σ : Sto) : R P M D G f args σ = g args σ := by
  refine eq_of_iff fun r => ?_
  rw [R_iff hD]
  constructor
  · rintro ⟨k, hk⟩
    cases k with
    | zero => cases hk
    | succ k => simp only [runV, hg] at hk; exact hk
  · intro h; exact ⟨1, by simp only [runV, hg]; exact h⟩
/-- A function's answer is its body's. -/
theorem R_fn {f : Nat} {fn : Func} {c : Code} (hg : G f = none) (hfn : P.funcs[f]? = some fn) (hb : fn.body = some c) (hname : (fn.name == "runtime.NumGoroutine") = false) (args : List AV) (σ : Sto) (hle : args.length ≤ fn.ntmps) :
    R P M D G f args σ = match E P M D G c ⟨fn.ntmps, fun i => args.getD i .undef, σ⟩ with
      | some (.normal, s) => (resV P fn.results s.tm s.σ).map fun v => (v, s.σ)
      | some (.ret, s) => (resV P fn.results s.tm s.σ).map fun v => (v, s.σ)
      | _ => none := by
  refine eq_of_iff fun r => ?_
  rw [R_iff hD]
  constructor
  · rintro ⟨k, hk⟩
    cases k with
    | zero => cases hk
    | succ k =>
      simp only [runV, hg, hfn, hname, hb, Bool.false_eq_true, if_false, bodyV, if_pos hle] at hk
      split at hk
      · rename_i s h1; rw [(E_iff hD).2 ⟨k, h1⟩]; exact hk
      · rename_i s h1; rw [(E_iff hD).2 ⟨k, h1⟩]; exact hk
      · cases hk
  · intro h
    have key : ∀ x s, E P M D G c ⟨fn.ntmps, fun i => args.getD i .undef, σ⟩ = some (x, s) → (match (some (x, s) : Option (VX × VS)) with
      | some (.normal, s) => (resV P fn.results s.tm s.σ).map fun v => (v, s.σ)
      | some (.ret, s) => (resV P fn.results s.tm s.σ).map fun v => (v, s.σ)
      | _ => none) = some r → ∃ k, runV P M D G k f args σ = some r := by
      intro x s hE h
      obtain ⟨k, hk⟩ := (E_iff hD).1 hE
      refine ⟨k + 1, ?_⟩
      simp only [runV, hg, hfn, hname, hb, Bool.false_eq_true, if_false, bodyV, if_pos hle]
      rw [hk]; exact h
    cases hE : E P M D G c ⟨fn.ntmps, fun i => args.getD i .undef, σ⟩ with
    | none => rw [hE] at h; cases h
    | some xs => rw [hE] at h; exact key xs.1 xs.2 hE h
end
end Go.Proofs.YtpdpgfagklhpaaaGreat.V

namespace Go.Proofs.YtpdpgfagklhpaaaGreat.V
open Go
set_option linter.unusedVariables false
set_option linter.unusedSimpArgs false
variable {P : Program} {M : Nat → Bool} {X : Ora}
section
variable {σ0 : Sto} {β0 : Nat → BI} {C0 : Nat → Prop} {h0 : World} {Z0 : Nat → Prop} {own0 : Nat → Option Nat} {ops : Array Oper} {bf : Nat → Nat → Bool} {rs : List (Nat × Nat × VO)} {s : VS} {σ1 : Sto} {S : Nat → VS}
def unl (n : Nat) (L : Array Bool) : Nat := ((List.range n).filter fun j => !L.getD j false).length
theorem filter_lt {α : Type} {p q : α → Bool} : ∀ (l : List α), (∀ x ∈ l, q x = true → p x = true) → (∃ x ∈ l, p x = true ∧ q x = false) → (l.filter q).length < (l.filter p).length
  | [], _, ⟨x, hx, _⟩ => by simp at hx
  | y :: l, h, ⟨x, hx, h1, h2⟩ => by
    have hle : ∀ (l : List α), (∀ x ∈ l, q x = true → p x = true) → (l.filter q).length ≤ (l.filter p).length := by
      intro l
      induction l with
      | nil => intro _; simp
      | cons z l ih =>
        intro hz
        have := ih fun x hx => hz x (by simp [hx])
        by_cases hq : q z = true
        · simp [List.filter_cons, hq, hz z (by simp) hq]; omega
        · by_cases hp : p z = true
          · simp [List.filter_cons, hq, hp]; omega
          · simp [List.filter_cons, hq, hp]; omega
    rcases List.mem_cons.1 hx with rfl | hx'
    · have := hle l fun z hz => h z (by simp [hz])
      simp [List.filter_cons, h1, h2]; omega
    · have := filter_lt l (fun z hz => h z (by simp [hz])) ⟨x, hx', h1, h2⟩
      by_cases hq : q y = true
      · simp [List.filter_cons, hq, h y (by simp) hq]; omega
      · by_cases hp : p y = true
        · simp [List.filter_cons, hq, hp]; omega
        · simp [List.filter_cons, hq, hp]; omega
theorem unl_zero {n : Nat} {L : Array Bool} (h : unl n L = 0) : ∀ j, j < n → L.getD j false = true := by
  intro j hj
  unfold unl at h
  have h1 := List.eq_nil_of_length_eq_zero h
  rw [List.filter_eq_nil_iff] at h1
  have := h1 j (List.mem_range.2 hj)
  simpa using this
theorem any_ok (Y : Setup P M X ops bf rs s σ1 S) (hX : OraOk P X) (hf0 : ∀ o, σ0.n ≤ o → ¬ C0 o) {Q : Exit → Act → World → Prop} (hQ : ∀ a' w', Inv σ0 β0 C0 h0 Z0 own0 (S ops.size) a' w' → Q .normal a' w') :
    ∀ (fuel : Nat) (L : Array Bool) (a : Act) (w : World), L.size = ops.size → Jp σ0 β0 C0 h0 Z0 own0 ops rs s S (fun j => L.getD j false) a w → unl ops.size L ≤ fuel → wpAny P .any ops Q fuel L a w := by
  have nil : ∀ (L : Array Bool), L.size = ops.size → Region.ready .any ops L = [] → ∀ j, j < ops.size → L.getD j false = true := by
    intro L hL hr j
    induction j using Nat.strongRecOn with
    | _ j ih =>
      intro hj
      cases hl : L.getD j false with
      | true => rfl
      | false =>
        exfalso
        have hjo : ops[j]? = some ops[j] := Array.getElem?_eq_getElem hj
        have hm : j ∈ Region.ready .any ops L := mem_ready.2 ⟨by
          have h1 : j < L.size := by omega
          rw [Array.getD_eq_getD_getElem?, Array.getElem?_eq_getElem h1] at hl ⊢; exact hl, _, hjo, fun e he hb => ih e.on (Y.W.back j _ hjo e he hb) (by have := Y.W.back j _ hjo e he hb; omega)⟩
        rw [hr] at hm; simp at hm
  intro fuel
  induction fuel with
  | zero =>
    intro L a w hL J hu
    have hall := unl_zero (Nat.le_zero.1 hu)
    refine ⟨?_, hQ a w (J.done Y hall)⟩
    refine List.eq_nil_iff_forall_not_mem.2 fun j hj => ?_
    obtain ⟨h1, o, ho, _⟩ := mem_ready.1 hj
    have hlt := (Array.getElem?_eq_some_iff.1 ho).1
    have h2 := hall j hlt
    rw [Array.getD_eq_getD_getElem?, Array.getElem?_eq_getElem (by omega)] at h1 h2
    simp at h1 h2
    rw [h1] at h2; cases h2
  | succ fuel ih =>
    intro L a w hL J hu
    refine ⟨fun hr => hQ a w (J.done Y (nil L hL hr)), fun i hi => ?_⟩
    obtain ⟨h1, o, ho, he⟩ := mem_ready.1 hi
    have hlt := (Array.getElem?_eq_some_iff.1 ho).1
    have h2 : L.getD i false = false := by
      rw [Array.getD_eq_getD_getElem?, Array.getElem?_eq_getElem (by omega)] at h1 ⊢; exact h1
    have hset : ∀ j, (L.setIfInBounds i true).getD j false = (L.getD j false || j == i) := fun j => by
      by_cases e : j = i
      · subst e
        have h3 : j < L.size := by omega
        simp [Array.getD_eq_getD_getElem?, Array.getElem?_setIfInBounds, h3]
      · have e2 : ¬ i = j := fun h => e h.symm
        simp [Array.getD_eq_getD_getElem?, Array.getElem?_setIfInBounds, e, e2]
    refine J.step Y hX hf0 ho h2 he fun a' w' J' => ih _ a' w' (by simp [hL]) ?_ ?_
    · rw [show (fun j => (L.setIfInBounds i true).getD j false) = fun j => L.getD j false || j == i from funext hset]
      exact J'
    · have : unl ops.size (L.setIfInBounds i true) < unl ops.size L := by
        unfold unl
        refine filter_lt _ (fun x _ hx => ?_) ⟨i, List.mem_range.2 hlt, by simp [h2], by rw [hset]; simp⟩
        rw [hset] at hx
        simp at hx ⊢
        exact hx.1
      omega
end
theorem drawV_ok (hm : P.follows .mixedOrders = true) (hX : OraOk P X) : DrwOk P X (drawV P M X) := by
  intro σ0 β0 C0 h0 Z0 own0 id ops s s' a w Q hf0 I H hQ
  obtain ⟨hst, rs, σ1, hres, hrun⟩ := drawV_iff.1 H
  have W := statM_ok hst
  have RO := resL_ok _ hres
  obtain ⟨htr, hend⟩ := drun_tr (l := ops.toList) (k0 := s.σ.n) (s0 := s.on σ1) ops.toList (i := 0) rfl (Nat.zero_le _) (by simpa [rid, Sq] using hrun) (fun i' o' h => by omega) (fun i' o' h => by omega)
  have Y : Setup P M X ops (bfm (masks ops.toList [])) rs s σ1 (Sq (stepV P M X ops) ops.toList s.σ.n (s.on σ1)) := ⟨W, fun j o h => htr j o (Nat.zero_le _) (by rw [Array.getElem?_toList]; exact h), rfl, RO⟩
  have hend' : Sq (stepV P M X ops) ops.toList s.σ.n (s.on σ1) ops.size = s' := by rw [← hend]; simp
  refine wp_region_any hm ?_
  refine any_ok (σ0 := σ0) (β0 := β0) (C0 := C0) (h0 := h0) (Z0 := Z0) (own0 := own0) Y hX hf0 (fun a' w' I' => hQ a' w' (by rw [hend'] at I'; exact I')) _ _ _ _ (by simp) ?_ ?_
  · have hp : (fun j => (Array.replicate ops.size false).getD j false) = fun _ => false := funext fun j => by
      by_cases h : j < ops.size <;> simp [Array.getD_eq_getD_getElem?, Array.getElem?_replicate, h]
    rw [hp]
    refine ⟨fun j o _ h => (by cases h), 0, Nat.zero_le _, fun j h => (by omega), fun j _ _ => rfl, ?_⟩
    obtain ⟨β, C, Z, own, A, hC, hn, hT, hsz, hdf⟩ := I
    have hlt : ∀ o, C o → o < s.σ.n := fun o ho => (hC o ho).elim (fun h => Nat.lt_of_not_le fun h2 => hf0 o (by omega) h) fun h => h.2
    have M1 : Mv s.σ.ob β C w.heap Z own σ1.ob β C w.heap Z own := Mv.off A.rel (fun o ho => RO.old o (hlt o ho)) fun o ho => by
      by_cases h1 : o < s.σ.n
      · rw [RO.old o h1]; exact A.rel.dead o ho
      · by_cases h2 : o < σ1.n
        · exact .inr (RO.pend o (by omega) h2)
        · rw [RO.far o (by omega)]; exact A.rel.dead o ho
    have hle := RO.le
    have hFT : FT (Sq (stepV P M X ops) ops.toList s.σ.n (s.on σ1)) ops.toList (fun _ => false) ops.size = s.tm := funext fun t => by
      rw [FT_past (a := 0) ops.size (Nat.zero_le _) fun j _ _ h => by cases h]; rfl
    refine ⟨β, C, Z, own, A.trans M1, fun o ho => (hC o ho).imp (fun h => h) fun h => ⟨h.1, by show o < σ1.n; omega⟩, by show _ ≤ σ1.n; omega, ?_, hsz, ⟨hdf.1, hdf.2.trans ⟨rfl, rfl, rfl, Nat.le_succ _⟩⟩, ?_⟩
    · rw [hFT]; exact fun x => M1.av A.rel (hT x)
    · rintro k ⟨r, h1, _, rfl⟩
      have := RO.mem r h1
      exact ⟨fun hc => by have := hlt _ hc; omega, this.2.1, by omega⟩
  · unfold unl
    exact Nat.le_trans (List.length_filter_le _ _) (by simp)
/-- They go with the oracle. -/
theorem Drun.mono {st st' : VS → Oper → Option VS} (h : ∀ s o r, st s o = some r → st' s o = some r) {bf : Nat → Nat → Bool} {rs : List (Nat × Nat × VO)} : ∀ (l : List Oper) {i k : Nat} {s : VS} {pd : List (Nat × Oper × VS × VS)} {hs : List (Nat × Sto)} {s' : VS}, Drun st bf rs l i k s pd hs s' → Drun st' bf rs l i k s pd hs s'
  | [], i, k, s, pd, hs, s', H => H
  | o :: l, i, k, s, pd, hs, s', H => by
    unfold Drun at H ⊢
    split at H
    · rename_i hk; rw [if_pos hk]; obtain ⟨s1, h1, h2⟩ := H; exact ⟨s1, h1, Drun.mono h l h2⟩
    rename_i hk; rw [if_neg hk]
    split at H
    · rename_i hk; rw [if_pos hk]; obtain ⟨s1, h1, h2, h3, h4⟩ := H
      exact ⟨s1, h _ _ _ h1, fun p hp => (h2 p hp).imp id (h _ _ _), h3, Drun.mono h l h4⟩
    rename_i hk; rw [if_neg hk]
    split at H
    · rename_i hk; rw [if_pos hk]; obtain ⟨s1, h1, h2, h4⟩ := H
      exact ⟨s1, h _ _ _ h1, fun p hp => (h2 p hp).imp id (h _ _ _), Drun.mono h l h4⟩
    · rename_i hk; rw [if_neg hk]; obtain ⟨s1, h1, h4⟩ := H
      exact ⟨s1, h _ _ _ h1, Drun.mono h l h4⟩
theorem all_ex {α : Type} {p : Nat → α → Prop} (hm : ∀ j k x, j ≤ k → p j x → p k x) : ∀ (l : List α), (∀ x ∈ l, ∃ k, p k x) → ∃ k, ∀ x ∈ l, p k x
  | [], _ => ⟨0, fun x h => by simp at h⟩
  | y :: l, h => by
    obtain ⟨k1, h1⟩ := h y (by simp)
    obtain ⟨k2, h2⟩ := all_ex hm l fun x hx => h x (by simp [hx])
    refine ⟨max k1 k2, fun x hx => ?_⟩
    rcases List.mem_cons.1 hx with rfl | hx
    · exact hm _ _ _ (Nat.le_max_left _ _) h1
    · exact hm _ _ _ (Nat.le_max_right _ _) (h2 x hx)
theorem Drun.cont {st : Nat → VS → Oper → Option VS} {st' : VS → Oper → Option VS} (hmo : ∀ j k, j ≤ k → ∀ s o r, st j s o = some r → st k s o = some r) (h : ∀ s o r, st' s o = some r → ∃ k, st k s o = some r) {bf : Nat → Nat → Bool} {rs : List (Nat × Nat × VO)} :
    ∀ (l : List Oper) {i k : Nat} {s : VS} {pd : List (Nat × Oper × VS × VS)} {hs : List (Nat × Sto)} {s' : VS}, Drun st' bf rs l i k s pd hs s' → ∃ n, Drun (st n) bf rs l i k s pd hs s'
  | [], i, k, s, pd, hs, s', H => ⟨0, H⟩
  | o :: l, i, k, s, pd, hs, s', H => by
    have up : ∀ {a b : Nat}, a ≤ b → ∀ {m : List Oper} {i k : Nat} {s : VS} {pd : List (Nat × Oper × VS × VS)} {hs : List (Nat × Sto)} {s' : VS}, Drun (st a) bf rs m i k s pd hs s' → Drun (st b) bf rs m i k s pd hs s' := fun hab m _ _ _ _ _ _ H => Drun.mono (hmo _ _ hab) m H
    by_cases hk3 : dk o = 3
    · unfold Drun at H
      rw [if_pos hk3] at H
      obtain ⟨s1, h1, h2⟩ := H
      obtain ⟨n, hn⟩ := Drun.cont hmo h l h2
      exact ⟨n, by unfold Drun; rw [if_pos hk3]; exact ⟨s1, h1, hn⟩⟩
    by_cases hk2 : dk o = 2
    · unfold Drun at H
      rw [if_neg hk3, if_pos hk2] at H
      obtain ⟨s1, h1, h2, h3, h4⟩ := H
      obtain ⟨n1, hn1⟩ := h _ _ _ h1
      obtain ⟨n2, hn2⟩ := all_ex (p := fun k (x : Nat × Oper × VS × VS) => bf x.1 i = true ∨ st k (x.2.2.1.on s1.σ) x.2.1 = some (x.2.2.2.on s1.σ)) (fun a b x hab hx => hx.imp id (hmo _ _ hab _ _ _)) pd fun x hx => (h2 x hx).elim (fun e => ⟨0, .inl e⟩) fun e => (h _ _ _ e).imp fun _ e => .inr e
      obtain ⟨n3, hn3⟩ := Drun.cont hmo h l h4
      refine ⟨max n1 (max n2 n3), ?_⟩
      unfold Drun; rw [if_neg hk3, if_pos hk2]
      exact ⟨s1, hmo _ _ (by omega) _ _ _ hn1, fun p hp => (hn2 p hp).imp id (hmo _ _ (by omega) _ _ _), h3, up (by omega) hn3⟩
    by_cases hk1 : dk o = 1
    · unfold Drun at H
      rw [if_neg hk3, if_neg hk2, if_pos hk1] at H
      obtain ⟨s1, h1, h2, h4⟩ := H
      obtain ⟨n1, hn1⟩ := h _ _ _ h1
      obtain ⟨n2, hn2⟩ := all_ex (p := fun k (x : Nat × Sto) => bf x.1 i = true ∨ st k (s.on x.2) o = some (s1.on x.2)) (fun a b x hab hx => hx.imp id (hmo _ _ hab _ _ _)) hs fun x hx => (h2 x hx).elim (fun e => ⟨0, .inl e⟩) fun e => (h _ _ _ e).imp fun _ e => .inr e
      obtain ⟨n3, hn3⟩ := Drun.cont hmo h l h4
      refine ⟨max n1 (max n2 n3), ?_⟩
      unfold Drun; rw [if_neg hk3, if_neg hk2, if_pos hk1]
      exact ⟨s1, hmo _ _ (by omega) _ _ _ hn1, fun p hp => (hn2 p hp).imp id (hmo _ _ (by omega) _ _ _), up (by omega) hn3⟩
    · unfold Drun at H
      rw [if_neg hk3, if_neg hk2, if_neg hk1] at H
      obtain ⟨s1, h1, h4⟩ := H
      obtain ⟨n1, hn1⟩ := h _ _ _ h1
      obtain ⟨n3, hn3⟩ := Drun.cont hmo h l h4
      refine ⟨max n1 n3, ?_⟩
      unfold Drun; rw [if_neg hk3, if_neg hk2, if_neg hk1]
      exact ⟨s1, hmo _ _ (by omega) _ _ _ hn1, up (by omega) hn3⟩
theorem callV_contX {X : Nat → Ora} {Y : Ora} (hm : ∀ j k, j ≤ k → Ole (X j) (X k)) (hc : ∀ f a σ r, Y f a σ = some r → ∃ k, X k f a σ = some r) {σ : Sto} {f : Nat} {args : List AV} {r : AV × Sto} (H : callV M Y σ f args = some r) : ∃ k, callV M (X k) σ f args = some r := by
  unfold callV at H ⊢
  split at H
  · rename_i hm
    simp only [hm, if_true]
    split at H
    · rename_i hp
      simp only [hp, if_true]
      obtain ⟨as', σ', res, h1, h2⟩ := callP_one H
      obtain ⟨k, hk⟩ := hc _ _ _ _ h1
      exact ⟨k, h2 _ hk⟩
    rename_i hp
    simp only [hp, if_false, Bool.false_eq_true]
    split at H
    · rename_i r1 σ1 hx
      obtain ⟨k, hk⟩ := hc _ _ _ _ hx
      exact ⟨k, by rw [hk]; exact H⟩
    · cases H
  · rename_i hm
    simp only [hm, if_false, Bool.false_eq_true]
    split at H
    · rename_i as_ has
      split at H
      · rename_i r1 σ1 hx
        obtain ⟨k, hk⟩ := hc _ _ _ _ hx
        exact ⟨k, by simp only [hk]; exact H⟩
      · cases H
    · cases H
theorem opV_contX {X : Nat → Ora} {Y : Ora} (hm : ∀ j k, j ≤ k → Ole (X j) (X k)) (hc : ∀ f a σ r, Y f a σ = some r → ∃ k, X k f a σ = some r) {tm : Nat → AV} {σ : Sto} {o : Oper} {r : AV × Sto} (H : opV P M Y tm σ o = some r) : ∃ k, opV P M (X k) tm σ o = some r := by
  cases ho : o.op with
  | call c =>
    simp only [opV, ho] at H ⊢
    split at H
    · rename_i as_ has
      cases hcc : c.callee with
      | value f =>
        rw [hcc] at H
        simp only at H ⊢
        split at H
        · rename_i g caps hg
          obtain ⟨k, hk⟩ := callV_contX hm hc H
          exact ⟨k, hk⟩
        · cases H
      | invoke rr m => rw [hcc] at H; simp only at H; cases H
      | builtin b => rw [hcc] at H; exact ⟨0, by cases b <;> exact H⟩
    · cases H
  | unOp u t x => simp only [opV, ho] at H ⊢; exact ⟨0, by cases u <;> exact H⟩
  | makeFunc f first caps => simp only [opV, ho] at H ⊢; exact ⟨0, by cases f <;> exact H⟩
  | _ => simp only [opV, ho] at H ⊢; exact ⟨0, H⟩
theorem drawV_go : DGo (drawV P M) := by
  refine ⟨fun X Y hXY ops s r H => ?_, fun X Y hm hc ops s r H => ?_⟩
  · rw [drawV_iff] at H ⊢
    obtain ⟨h1, rs, σ1, h2, h3⟩ := H
    exact ⟨h1, rs, σ1, h2, Drun.mono (fun s o r h => stepV_mono hXY h) _ h3⟩
  · rw [drawV_iff] at H
    obtain ⟨h1, rs, σ1, h2, h3⟩ := H
    obtain ⟨k, hk⟩ := Drun.cont (st := fun k => stepV P M (X k) ops) (fun j k hjk s o r h => stepV_mono (hm j k hjk) h) (fun s o r H => by
      unfold stepV at H ⊢
      cases hw : wantV ops s.tm o with
      | none => rw [hw] at H; cases H
      | some w =>
        rw [hw] at H
        cases w with
        | false => exact ⟨0, H⟩
        | true =>
          simp only at H ⊢
          split at H
          · rename_i v σ h1
            obtain ⟨k, hk⟩ := opV_contX hm hc h1
            exact ⟨k, by rw [hk]; exact H⟩
          · cases H) _ h3
    exact ⟨k, drawV_iff.2 ⟨h1, rs, σ1, h2, hk⟩⟩
end Go.Proofs.YtpdpgfagklhpaaaGreat.V

namespace Go.Proofs.YtpdpgfagklhpaaaGreat.V
open Go
set_option linter.unusedVariables false
variable {P : Program} {M : Nat → Bool} {G : Giv}
noncomputable abbrev Rv (P : Program) (M : Nat → Bool) (G : Giv) : Ora := R P M (drawV P M) G
/-- An equation that simp does not take apart. -/
def Is {α : Type} (a b : α) : Prop := a = b
theorem Is.r {α : Type} (a : α) : Is a a := rfl
/-- The code comes to an end, of one of three kinds. -/
def W (P : Program) (M : Nat → Bool) (G : Giv) (c : Code) (s : VS) (N : VS → Prop) (X : Nat → VS → Prop) (K : VS → Prop) : Prop :=
  ∃ x s', E P M (drawV P M) G c s = some (x, s') ∧ match x with
    | .normal => N s'
    | .exit i => X i s'
    | .ret => K s'
variable {c a b : Code} {s s1 : VS} {N N' : VS → Prop} {X X' : Nat → VS → Prop} {K K' : VS → Prop}
theorem W.mono (H : W P M G c s N X K) (h1 : ∀ s, N s → N' s) (h2 : ∀ i s, X i s → X' i s) (h3 : ∀ s, K s → K' s) : W P M G c s N' X' K' := by
  obtain ⟨x, s', h, hq⟩ := H
  refine ⟨x, s', h, ?_⟩
  cases x with
  | normal => exact h1 _ hq
  | exit i => exact h2 _ _ hq
  | ret => exact h3 _ hq
theorem W_skip (h : N s) : W P M G .skip s N X K := ⟨.normal, s, E_skip drawV_go s, h⟩
theorem W_exit {i : Nat} (h : X i s) : W P M G (.exit i) s N X K := ⟨.exit i, s, E_exit drawV_go i s, h⟩
theorem W_ret (h : K s) : W P M G .ret s N X K := ⟨.ret, s, E_ret drawV_go s, h⟩
theorem W_reg {id : Nat} {ops : Array Oper} (h : Is (opsV P M (Rv P M G) ops ops.toList s) (some s1)) (hn : N s1) : W P M G (.region id ops false) s N X K :=
  ⟨.normal, s1, by rw [E_region drawV_go, show _ = _ from h]; rfl, hn⟩
/-- The same, step by step. -/
def chkP (st : VS → Oper → Option VS) (bf : Nat → Nat → Bool) (i : Nat) (σ : Sto) : List (Nat × Oper × VS × VS) → Prop → Prop
  | [], p => p
  | q :: l, p => if bf q.1 i = true then chkP st bf i σ l p else chkP st bf i σ l (p ∧ st (q.2.2.1.on σ) q.2.1 = some (q.2.2.2.on σ))
def chkR (bf : Nat → Nat → Bool) (i : Nat) (σ : Sto) : List (Nat × Nat × VO) → Prop → Prop
  | [], p => p
  | r :: l, p => if (decide (r.1 < i) && bf r.1 i) = true then chkR bf i σ l p else chkR bf i σ l (p ∧ σ.ob r.2.1 = r.2.2)
def chkH (st : VS → Oper → Option VS) (bf : Nat → Nat → Bool) (i : Nat) (o : Oper) (s s1 : VS) : List (Nat × Sto) → Prop → Prop
  | [], p => p
  | h :: l, p => if bf h.1 i = true then chkH st bf i o s s1 l p else chkH st bf i o s s1 l (p ∧ st (s.on h.2) o = some (s1.on h.2))
theorem chkP_ok {st : VS → Oper → Option VS} {bf : Nat → Nat → Bool} {i : Nat} {σ : Sto} : ∀ (l : List (Nat × Oper × VS × VS)) {p : Prop}, chkP st bf i σ l p → p ∧ ∀ q ∈ l, bf q.1 i = true ∨ st (q.2.2.1.on σ) q.2.1 = some (q.2.2.2.on σ)
  | [], p, h => ⟨h, fun q hq => by simp at hq⟩
  | r :: l, p, h => by
    unfold chkP at h
    split at h
    · rename_i hb
      obtain ⟨h1, h2⟩ := chkP_ok l h
      exact ⟨h1, fun q hq => (List.mem_cons.1 hq).elim (fun e => by rw [e]; exact .inl hb) (h2 q)⟩
    · obtain ⟨h1, h2⟩ := chkP_ok l h
      exact ⟨h1.1, fun q hq => (List.mem_cons.1 hq).elim (fun e => by rw [e]; exact .inr h1.2) (h2 q)⟩
theorem chkR_ok {bf : Nat → Nat → Bool} {i : Nat} {σ : Sto} : ∀ (l : List (Nat × Nat × VO)) {p : Prop}, chkR bf i σ l p → p ∧ ∀ q ∈ l, (decide (q.1 < i) && bf q.1 i) = true ∨ σ.ob q.2.1 = q.2.2
  | [], p, h => ⟨h, fun q hq => by simp at hq⟩
  | r :: l, p, h => by
    unfold chkR at h
    split at h
    · rename_i hb
      obtain ⟨h1, h2⟩ := chkR_ok l h
      exact ⟨h1, fun q hq => (List.mem_cons.1 hq).elim (fun e => by rw [e]; exact .inl hb) (h2 q)⟩
    · obtain ⟨h1, h2⟩ := chkR_ok l h
      exact ⟨h1.1, fun q hq => (List.mem_cons.1 hq).elim (fun e => by rw [e]; exact .inr h1.2) (h2 q)⟩
theorem chkH_ok {st : VS → Oper → Option VS} {bf : Nat → Nat → Bool} {i : Nat} {o : Oper} {s s1 : VS} : ∀ (l : List (Nat × Sto)) {p : Prop}, chkH st bf i o s s1 l p → p ∧ ∀ h ∈ l, bf h.1 i = true ∨ st (s.on h.2) o = some (s1.on h.2)
  | [], p, h => ⟨h, fun q hq => by simp at hq⟩
  | r :: l, p, h => by
    unfold chkH at h
    split at h
    · rename_i hb
      obtain ⟨h1, h2⟩ := chkH_ok l h
      exact ⟨h1, fun q hq => (List.mem_cons.1 hq).elim (fun e => by rw [e]; exact .inl hb) (h2 q)⟩
    · obtain ⟨h1, h2⟩ := chkH_ok l h
      exact ⟨h1.1, fun q hq => (List.mem_cons.1 hq).elim (fun e => by rw [e]; exact .inr h1.2) (h2 q)⟩
def DrunF (st : VS → Oper → Option VS) (bf : Nat → Nat → Bool) (rs : List (Nat × Nat × VO)) : List Oper → Nat → Nat → VS → List (Nat × Oper × VS × VS) → List (Nat × Sto) → Prop → Option (Prop × VS)
  | [], _, _, s, _, _, p => some (p, s)
  | o :: l, i, k, s, pd, hs, p =>
    if dk o = 3 then match putV s o.dst (rv o k) s.σ with
      | some s1 => DrunF st bf rs l (i + 1) (k + 1) s1 pd hs p
      | none => none
    else match st s o with
      | some s1 => if dk o = 2 then DrunF st bf rs l (i + 1) k s1 pd ((i, s.σ) :: hs) (chkR bf i s1.σ rs (chkP st bf i s1.σ pd p))
        else if dk o = 1 then DrunF st bf rs l (i + 1) k s1 ((i, o, s, s1) :: pd) hs (chkH st bf i o s s1 hs p)
        else DrunF st bf rs l (i + 1) k s1 pd hs p
      | none => none
theorem DrunF.p {st : VS → Oper → Option VS} {bf : Nat → Nat → Bool} {rs : List (Nat × Nat × VO)} : ∀ (l : List Oper) {i k : Nat} {s : VS} {pd : List (Nat × Oper × VS × VS)} {hs : List (Nat × Sto)} {p q : Prop} {s' : VS}, DrunF st bf rs l i k s pd hs p = some (q, s') → q → p ∧ Drun st bf rs l i k s pd hs s'
  | [], i, k, s, pd, hs, p, q, s', H, hq => by cases H; exact ⟨hq, rfl⟩
  | o :: l, i, k, s, pd, hs, p, q, s', H, hq => by
    unfold DrunF at H
    unfold Drun
    by_cases h3 : dk o = 3
    · rw [if_pos h3] at H ⊢
      split at H
      · rename_i s1 h1
        obtain ⟨a, b⟩ := DrunF.p l H hq
        exact ⟨a, s1, h1, b⟩
      · cases H
    rw [if_neg h3] at H ⊢
    split at H
    · rename_i s1 h1
      by_cases h2 : dk o = 2
      · rw [if_pos h2] at H ⊢
        obtain ⟨a, b⟩ := DrunF.p l H hq
        obtain ⟨a, d⟩ := chkR_ok _ a
        obtain ⟨a, c⟩ := chkP_ok _ a
        exact ⟨a, s1, h1, c, d, b⟩
      rw [if_neg h2] at H ⊢
      by_cases h1' : dk o = 1
      · rw [if_pos h1'] at H ⊢
        obtain ⟨a, b⟩ := DrunF.p l H hq
        obtain ⟨a, c⟩ := chkH_ok _ a
        exact ⟨a, s1, h1, c, b⟩
      · rw [if_neg h1'] at H ⊢
        obtain ⟨a, b⟩ := DrunF.p l H hq
        exact ⟨a, s1, h1, b⟩
    · cases H
theorem W_draw {id : Nat} {ops : Array Oper} (ms : List Nat) (hm : masks ops.toList [] = ms) (h0 : statM ops ms = true) {r : List (Nat × Nat × VO) × Sto} (h1 : Is (resL P ops.toList 0 s.σ) (some r)) {q : Prop × VS}
    (h : Is (DrunF (stepV P M (Rv P M G) ops) (bfm ms) r.1 ops.toList 0 s.σ.n (s.on r.2) [] [] True) (some q)) (hq : q.1) (hn : N q.2) : W P M G (.region id ops true) s N X K := by
  subst hm
  exact ⟨.normal, q.2, by rw [E_draw drawV_go, drawV_iff.2 ⟨h0, r.1, r.2, h1, (DrunF.p _ h hq).2⟩]; rfl, hn⟩
theorem W_seq (h : W P M G a s (fun s1 => W P M G b s1 N X K) X K) : W P M G (.seq a b) s N X K := by
  obtain ⟨x, s1, h1, h2⟩ := h
  cases x with
  | normal =>
    obtain ⟨y, s2, h3, h4⟩ := h2
    exact ⟨y, s2, by rw [E_seq drawV_go, h1]; exact h3, h4⟩
  | exit i => exact ⟨.exit i, s1, by rw [E_seq drawV_go, h1], h2⟩
  | ret => exact ⟨.ret, s1, by rw [E_seq drawV_go, h1], h2⟩
theorem W_cond {t : Operand} {x : Bool} (h : Is (evalO s.tm t) (some (.t (.b x)))) (h1 : x = true → W P M G a s N X K) (h2 : x = false → W P M G b s N X K) : W P M G (.cond t a b) s N X K := by
  have h : evalO s.tm t = some (.t (.b x)) := h
  cases x with
  | true => obtain ⟨y, s1, h3, h4⟩ := h1 rfl; exact ⟨y, s1, by rw [E_cond drawV_go, h]; exact h3, h4⟩
  | false => obtain ⟨y, s1, h3, h4⟩ := h2 rfl; exact ⟨y, s1, by rw [E_cond drawV_go, h]; exact h3, h4⟩
/-- What is asked of an exit inside a block. -/
def xb (id : Nat) (N : VS → Prop) (X : Nat → VS → Prop) : Nat → VS → Prop := fun i s => if i = id then N s else X i s
theorem xb_hit {id : Nat} (h : N s) : xb id N X id s := by unfold xb; rw [if_pos rfl]; exact h
theorem xb_miss {id i : Nat} (e : i ≠ id) (h : X i s) : xb id N X i s := by unfold xb; rw [if_neg e]; exact h
theorem W_block {id : Nat} (h : W P M G c s N (xb id N X) K) : W P M G (.block id c) s N X K := by
  obtain ⟨x, s1, h1, h2⟩ := h
  cases x with
  | normal => exact ⟨.normal, s1, by rw [E_block drawV_go, h1], h2⟩
  | exit i =>
    simp only [xb] at h2
    by_cases e : i = id
    · rw [if_pos e] at h2; exact ⟨.normal, s1, by rw [E_block drawV_go, h1]; simp only; rw [if_pos e], h2⟩
    · rw [if_neg e] at h2; exact ⟨.exit i, s1, by rw [E_block drawV_go, h1]; simp only; rw [if_neg e], h2⟩
  | ret => exact ⟨.ret, s1, by rw [E_block drawV_go, h1], h2⟩
theorem W_loop (I : Nat → VS → Prop) {n : Nat} (h0 : I n s) (h : ∀ n s, I n s → W P M G c s (fun s' => ∃ m, m < n ∧ I m s') X K) : W P M G (.loop c) s N X K := by
  induction n using Nat.strongRecOn generalizing s with
  | _ n ih =>
    obtain ⟨x, s1, h1, h2⟩ := h n s h0
    cases x with
    | normal =>
      obtain ⟨m, hm, hI⟩ := h2
      obtain ⟨y, s2, h3, h4⟩ := ih m hm hI
      exact ⟨y, s2, by rw [E_loop drawV_go, h1]; exact h3, h4⟩
    | exit i => exact ⟨.exit i, s1, by rw [E_loop drawV_go, h1], h2⟩
    | ret => exact ⟨.ret, s1, by rw [E_loop drawV_go, h1], h2⟩
theorem W_fn {f : Nat} {fn : Func} {args : List AV} {σ : Sto} {Q : AV → Sto → Prop} (hg : G f = none) (hfn : P.funcs[f]? = some fn) {c : Code} (hb : fn.body = some c) (hname : (fn.name == "runtime.NumGoroutine") = false) (hle : args.length ≤ fn.ntmps)
    (H : W P M G c ⟨fn.ntmps, fun i => args.getD i .undef, σ⟩ (fun s => ∃ v, resV P fn.results s.tm s.σ = some v ∧ Q v s.σ) (fun _ _ => False) (fun s => ∃ v, resV P fn.results s.tm s.σ = some v ∧ Q v s.σ)) : ∃ v σ', Rv P M G f args σ = some (v, σ') ∧ Q v σ' := by
  obtain ⟨x, s1, h1, h2⟩ := H
  cases x with
  | normal => obtain ⟨v, h3, h4⟩ := h2; exact ⟨v, s1.σ, by rw [Rv, R_fn drawV_go hg hfn hb hname args σ hle, h1]; simp only [h3, Option.map_some], h4⟩
  | exit i => exact h2.elim
  | ret => obtain ⟨v, h3, h4⟩ := h2; exact ⟨v, s1.σ, by rw [Rv, R_fn drawV_go hg hfn hb hname args σ hle, h1]; simp only [h3, Option.map_some], h4⟩
attribute [irreducible] W
end Go.Proofs.YtpdpgfagklhpaaaGreat.V

namespace Go.Proofs.YtpdpgfagklhpaaaGreat.V
open Go
set_option linter.unusedVariables false
inductive XV where
  | t (x : T) (f : Bool) | own (sz : Nat) (rows : List (List T)) | np | agg (l : List XV) | tup (l : List XV) | bx (l : List T)
def exp1 (σ : Sto) : AV → Option (XV × Sto)
  | .t x => some (.t x (match x with | .sl _ => true | _ => false), σ)
  | .ref o v p =>
    match p with
    | [] => match σ.ob o with
      | .arr (.own k) st sz rows => if rows.length = v ∧ k = 0 then some (.own sz rows, σ.set o .dead) else none
      | .arr _ st sz rows => if rows.length = v then some (.t (.sl rows) true, σ.set o (.arr .frz st sz rows)) else none
      | _ => none
    | _ => none
  | .np => some (.np, σ)
  | .ptr o off => match σ.ob o with
    | .box cs => match cs.mapM asT with
      | some l => if off = 0 then some (.bx l, σ.set o .dead) else none
      | none => none
    | _ => none
  | _ => none
def expL : Sto → List AV → Option (List XV × Sto)
  | σ, [] => some ([], σ)
  | σ, a :: l => match exp1 σ a with
    | some (x, σ1) => match expL σ1 l with
      | some (xs, σ2) => some (x :: xs, σ2)
      | none => none
    | none => none
def expA (σ : Sto) : AV → Option (XV × Sto)
  | .agg l => (expL σ l).map fun r => (.agg r.1, r.2)
  | a => exp1 σ a
def expAs : Sto → List AV → Option (List XV × Sto)
  | σ, [] => some ([], σ)
  | σ, a :: l => match expA σ a with
    | some (x, σ1) => match expAs σ1 l with
      | some (xs, σ2) => some (x :: xs, σ2)
      | none => none
    | none => none
def expR (σ : Sto) : AV → Option XV
  | .tup l => (expAs σ l).map fun r => .tup r.1
  | a => (expA σ a).map fun r => r.1
def XV.sh1 : XV → Bool
  | .t _ f => f
  | .bx _ => true
  | _ => false
def XV.shA : XV → Bool
  | .agg l => l.any XV.sh1
  | x => x.sh1
def XV.sh : XV → Bool
  | .tup l => l.any XV.shA
  | x => x.shA
def place1 (c : Sto) : XV → AV × Sto
  | .t x _ => (.t x, c)
  | .own sz rows => (.ref c.n rows.length [], c.new (.arr (.own 0) 0 sz rows))
  | .np => (.np, c)
  | .bx l => (.ptr c.n 0, c.new (.box (l.map .t)))
  | _ => (.undef, c)
def placeL : Sto → List XV → List AV × Sto
  | c, [] => ([], c)
  | c, x :: l => ((place1 c x).1 :: (placeL (place1 c x).2 l).1, (placeL (place1 c x).2 l).2)
def placeA (c : Sto) : XV → AV × Sto
  | .agg l => (.agg (placeL c l).1, (placeL c l).2)
  | x => place1 c x
def placeAs : Sto → List XV → List AV × Sto
  | c, [] => ([], c)
  | c, x :: l => ((placeA c x).1 :: (placeAs (placeA c x).2 l).1, (placeAs (placeA c x).2 l).2)
def place (c : Sto) : XV → AV × Sto
  | .tup l => (.tup (placeAs c l).1, (placeAs c l).2)
  | x => placeA c x
theorem imp1_exp {σ σ1 : Sto} {a : AV} {x : XV} (H : exp1 σ a = some (x, σ1)) (c : Sto) : imp1 0 σ c a = some ((place1 c x).1, σ1, (place1 c x).2, x.sh1) := by
  unfold exp1 at H
  split at H
  · cases H; rfl
  · rename_i o v p
    unfold imp1
    simp only
    rw [if_neg (Nat.not_lt_zero o)]
    split at H
    · simp only
      split at H
      · rename_i k st sz rows hob
        split at H
        · rename_i hc; cases H; rw [hob]; simp only; rw [if_pos hc, ← hc.1]; rfl
        · cases H
      · rename_i m st sz rows hn hob
        split at H
        · rename_i hc; cases H; rw [hob]
          cases m with
          | own k => exact absurd rfl (hn k)
          | _ => simp only; rw [if_pos hc]; rfl
        · cases H
      · cases H
    · cases H
  · cases H; rfl
  · rename_i o off
    split at H
    · rename_i cs hob
      split at H
      · rename_i l hl
        split at H
        · rename_i ho
          cases H
          subst ho
          unfold imp1
          simp only
          rw [if_neg (Nat.not_lt_zero o), hob]
          simp only
          rw [hl]; rfl
        · cases H
      · cases H
    · cases H
  · cases H
theorem impL_exp : ∀ (l : List AV) {σ σ1 : Sto} {xs : List XV}, expL σ l = some (xs, σ1) → ∀ c, impL 0 σ c l = some ((placeL c xs).1, σ1, (placeL c xs).2, xs.any XV.sh1)
  | [], σ, σ1, xs, H, c => by cases H; rfl
  | a :: l, σ, σ1, xs, H, c => by
    unfold expL at H
    split at H
    · rename_i x σ2 h1
      split at H
      · rename_i ys σ3 h2
        cases H
        unfold impL
        rw [imp1_exp h1 c]
        simp only
        rw [impL_exp l h2]
        rfl
      · cases H
    · cases H
theorem impA_exp {σ σ1 : Sto} {a : AV} {x : XV} (H : expA σ a = some (x, σ1)) (c : Sto) : impA 0 σ c a = some ((placeA c x).1, σ1, (placeA c x).2, x.shA) := by
  unfold expA at H
  split at H
  · rename_i l
    rw [Option.map_eq_some_iff] at H
    obtain ⟨⟨ys, σ2⟩, h1, h2⟩ := H
    cases h2
    unfold impA
    simp only
    rw [impL_exp l h1 c]; rfl
  · rename_i hn
    have h1 := imp1_exp H c
    have h2 : impA 0 σ c a = imp1 0 σ c a := by
      cases a with
      | agg l => exact absurd rfl (hn l)
      | _ => rfl
    rw [h2, h1]
    unfold exp1 at H
    split at H
    · cases H; rfl
    · split at H
      · split at H
        · split at H <;> cases H; rfl
        · split at H <;> cases H; rfl
        · cases H
      · cases H
    · cases H; rfl
    · split at H
      · split at H
        · split at H <;> cases H; rfl
        · cases H
      · cases H
    · cases H
theorem impAs_exp : ∀ (l : List AV) {σ σ1 : Sto} {xs : List XV}, expAs σ l = some (xs, σ1) → ∀ c, impAs 0 σ c l = some ((placeAs c xs).1, σ1, (placeAs c xs).2, xs.any XV.shA)
  | [], σ, σ1, xs, H, c => by cases H; rfl
  | a :: l, σ, σ1, xs, H, c => by
    unfold expAs at H
    split at H
    · rename_i x σ2 h1
      split at H
      · rename_i ys σ3 h2
        cases H
        unfold impAs
        rw [impA_exp h1 c]
        simp only
        rw [impAs_exp l h2]
        rfl
      · cases H
    · cases H
theorem expA_tup {σ σ1 : Sto} {a : AV} {l : List XV} (H : expA σ a = some (.tup l, σ1)) : False := by
  unfold expA at H
  split at H
  · rw [Option.map_eq_some_iff] at H; obtain ⟨_, _, h⟩ := H; cases h
  · unfold exp1 at H
    split at H
    · cases H
    · split at H
      · split at H
        · split at H <;> cases H
        · split at H <;> cases H
        · cases H
      · cases H
    · cases H
    · split at H
      · split at H
        · split at H <;> cases H
        · cases H
      · cases H
    · cases H
theorem impR_exp {σ : Sto} {a : AV} {x : XV} (H : expR σ a = some x) (c : Sto) : impR 0 σ c a = some ((place c x).1, (place c x).2, x.sh) := by
  unfold expR at H
  split at H
  · rename_i l
    rw [Option.map_eq_some_iff] at H
    obtain ⟨⟨ys, σ2⟩, h1, h2⟩ := H
    cases h2
    unfold impR
    simp only
    rw [impAs_exp l h1 c]; rfl
  · rename_i hn
    rw [Option.map_eq_some_iff] at H
    obtain ⟨⟨y, σ2⟩, h1, h2⟩ := H
    cases h2
    have h3 := impA_exp h1 c
    have h2 : impR 0 σ c a = (impA 0 σ c a).map fun r => (r.1, r.2.2.1, r.2.2.2) := by
      cases a with
      | tup l => exact absurd rfl (hn l)
      | _ => rfl
    rw [h2, h3]
    cases y with
    | tup l => exact (expA_tup h1).elim
    | _ => rfl
/-- A function that only reads answers x. -/
def Ret (X : Ora) (f : Nat) (as_ : List AV) (x : XV) : Prop := ∃ r σ1, X f as_ Sto.e = some (r, σ1) ∧ expR σ1 r = some x
theorem callV_ret {M : Nat → Bool} {X : Ora} {f : Nat} {as_ : List AV} {x : XV} (H : Ret X f as_ x) (hM : M f = false) {σ : Sto} {args : List AV} (ha : args.mapM (reify σ) = some as_) :
    callV M X σ f args = if x.sh then (freezeL σ (args.flatMap ids)).map fun σf => place σf x else some (place σ x) := by
  obtain ⟨r, σ1, h1, h2⟩ := H
  unfold callV
  rw [hM, ha]
  simp only [Bool.false_eq_true, if_false, h1, impR_exp h2 σ]
  cases x.sh with
  | false => rfl
  | true =>
    simp only [if_true]
    cases freezeL σ (args.flatMap ids) with
    | none => rfl
    | some σf => simp only [impR_exp h2 σf, Option.map_some]
theorem callV_d {M : Nat → Bool} {X : Ora} {f : Nat} {args : List AV} {σ σ1 : Sto} {r : AV} (hM : M f = true) (hP : M (f + 1000000) = false) (H : X f args σ = some (r, σ1)) (hn : σ1.n = σ.n) :
    callV M X σ f args = some (r, σ1) := by
  unfold callV
  rw [if_pos hM, if_neg (by rw [hP]; exact Bool.false_ne_true), H]
  simp only
  rw [if_pos hn]
/-- A function that works over one box: it answers x and leaves cs'. -/
def RetP (X : Ora) (f : Nat) (cs : List T) (as_ : List AV) (x : XV) (cs' : List T) : Prop := ∃ r σ1, X f (.ptr 0 0 :: as_) (Sto.e.new (.box (cs.map .t))) = some (r, σ1) ∧ σ1.ob 0 = .box (cs'.map .t) ∧ expR (σ1.set 0 .dead) r = some x
theorem mapM_tt : ∀ l : List T, (l.map AV.t).mapM asT = some l
  | [] => rfl
  | x :: l => by rw [List.map_cons, List.mapM_cons, mapM_tt l]; rfl
theorem callP_ret {M : Nat → Bool} {X : Ora} {f : Nat} {as_ : List AV} {x : XV} {cs cs' : List T} (H : RetP X f cs as_ x cs') (hM : M f = true) (hP : M (f + 1000000) = true) {σ : Sto} {o : Nat} {args : List AV} (ho : σ.ob o = .box (cs.map .t)) (ha : args.mapM (reify σ) = some as_) :
    callV M X σ f (.ptr o 0 :: args) = (freezeL σ (args.flatMap ids)).map fun σf => place (σf.set o (.box (cs'.map .t))) x := by
  obtain ⟨r, σ1, h1, h2, h3⟩ := H
  unfold callV
  rw [if_pos hM, if_pos hP]
  unfold callP
  simp only [ho, mapM_tt, ha]
  cases freezeL σ (args.flatMap ids) with
  | none => rfl
  | some σf => simp only [h1, h2, mapM_tt, impR_exp h3, Option.map_some]
theorem cut_eq {σ σ1 σ' : Sto} (hn : σ'.n = σ.n) (h1 : ∀ o, o < σ.n → σ1.ob o = σ'.ob o) (h2 : ∀ o, σ.n ≤ o → σ'.ob o = .dead) : σ1.cut σ.n = σ' := by
  obtain ⟨n', ob'⟩ := σ'
  simp only at hn h1 h2
  subst hn
  unfold Sto.cut
  congr 1
  funext o
  by_cases h : o < σ.n
  · rw [if_pos h]; exact h1 o h
  · rw [if_neg h]; exact (h2 o (by omega)).symm
variable {P : Program} {M : Nat → Bool} {G : Giv}
/-- What is asked of the end of a function. -/
def Ends (P : Program) (rs : Array ResultVar) (x : XV) (s : VS) : Prop := ∃ v, resV P rs s.tm s.σ = some v ∧ expR s.σ v = some x
theorem ret_W {f : Nat} {fn : Func} {args : List AV} {x : XV} (hg : G f = none) (hfn : P.funcs[f]? = some fn) {c : Code} (hb : fn.body = some c) (hname : (fn.name == "runtime.NumGoroutine") = false) (hle : args.length ≤ fn.ntmps)
    (H : W P M G c ⟨fn.ntmps, fun i => args.getD i .undef, Sto.e⟩ (Ends P fn.results x) (fun _ _ => False) (Ends P fn.results x)) : Ret (Rv P M G) f args x := by
  obtain ⟨v, σ', h1, h2⟩ := W_fn (Q := fun v σ => expR σ v = some x) hg hfn hb hname hle H
  exact ⟨v, σ', h1, h2⟩
/-- What is asked of the end of a function over one box. -/
def EndsP (P : Program) (rs : Array ResultVar) (Q : XV → List T → Prop) (s : VS) : Prop := ∃ v x cs', resV P rs s.tm s.σ = some v ∧ s.σ.ob 0 = .box (cs'.map .t) ∧ expR (s.σ.set 0 .dead) v = some x ∧ Q x cs'
theorem EndsP.mk {P : Program} {rs : Array ResultVar} {Q : XV → List T → Prop} {s : VS} {v : AV} {x : XV} {cs' : List T} (h1 : resV P rs s.tm s.σ = some v) (h2 : s.σ.ob 0 = .box (cs'.map .t)) (h3 : expR (s.σ.set 0 .dead) v = some x) (h4 : Q x cs') : EndsP P rs Q s := ⟨v, x, cs', h1, h2, h3, h4⟩
theorem ret_PW {f : Nat} {fn : Func} {args : List AV} {cs : List T} {Q : XV → List T → Prop} (hg : G f = none) (hfn : P.funcs[f]? = some fn) {c : Code} (hb : fn.body = some c) (hname : (fn.name == "runtime.NumGoroutine") = false) (hle : args.length + 1 ≤ fn.ntmps)
    (H : W P M G c ⟨fn.ntmps, fun i => (AV.ptr 0 0 :: args).getD i .undef, Sto.e.new (.box (cs.map .t))⟩ (EndsP P fn.results Q) (fun _ _ => False) (EndsP P fn.results Q)) : ∃ x cs', Q x cs' ∧ RetP (Rv P M G) f cs args x cs' := by
  obtain ⟨v, σ', h1, x, cs', h2, h3, h4⟩ := W_fn (args := .ptr 0 0 :: args) (Q := fun v σ => ∃ x cs', σ.ob 0 = .box (cs'.map .t) ∧ expR (σ.set 0 .dead) v = some x ∧ Q x cs') hg hfn hb hname (by simpa using hle) (by
    refine W.mono H (fun s h => ?_) (fun _ _ h => h) (fun s h => ?_) <;> (obtain ⟨v, x, cs', h1, h2, h3, h4⟩ := h; exact ⟨v, h1, x, cs', h2, h3, h4⟩))
  exact ⟨x, cs', h4, v, σ', h1, h2, h3⟩
end Go.Proofs.YtpdpgfagklhpaaaGreat.V

namespace Go.Proofs.YtpdpgfagklhpaaaGreat.V
open Go Go.Proofs
theorem info_of {P : Program} {t : Nat} {i : TypeInfo} (h : ∀ w, (Go.typeInfo t).run P w = .ok i w) : P.info? t = some i := by
  have := h default
  simp only [Go.typeInfo] at this
  cases hi : P.info? t with
  | none => simp [hi] at this
  | some j => simp [hi] at this; rw [this]
theorem sz_of {P : Program} {t : Nat} {i : TypeInfo} (h : ∀ w, (Go.typeInfo t).run P w = .ok i w) : szOf P t = some i.size := by rw [szOf, info_of h]; rfl
theorem by_of {P : Program} {t : Nat} {i : TypeInfo} (h : ∀ w, (Go.typeInfo t).run P w = .ok i w) : (P.info? t).map (·.bytes) = some i.bytes := by rw [info_of h]; rfl
theorem zr_of {P : Program} {t : Nat} {i : TypeInfo} (h : ∀ w, (Go.typeInfo t).run P w = .ok i w) : zeroC P t = i.zero.bind constV := by rw [zeroC, info_of h]; rfl
@[simp] theorem sz1 : szOf Tryz.prog 1 = some 1 := sz_of Tryz.typeInfo1
@[simp] theorem ag1 : aggT Tryz.prog 1 = some false := by rw [aggT, Tryz.underlying1]
attribute [simp] Tryz.underlying1
@[simp] theorem sz2 : szOf Tryz.prog 2 = some 1 := sz_of Tryz.typeInfo2
@[simp] theorem ag2 : aggT Tryz.prog 2 = some false := by rw [aggT, Tryz.underlying2]
@[simp] theorem zr2 : zeroC Tryz.prog 2 = some (.t (.i .i64 0)) := (zr_of Tryz.typeInfo2).trans rfl
@[simp] theorem by2 : (Tryz.prog.info? 2).map (·.bytes) = some 8 := by_of Tryz.typeInfo2
attribute [simp] Tryz.underlying2
@[simp] theorem sz3 : szOf Tryz.prog 3 = some 1 := sz_of Tryz.typeInfo3
@[simp] theorem ag3 : aggT Tryz.prog 3 = some false := by rw [aggT, Tryz.underlying3]
@[simp] theorem zr3 : zeroC Tryz.prog 3 = some (.t (.i .i64 0)) := (zr_of Tryz.typeInfo3).trans rfl
@[simp] theorem by3 : (Tryz.prog.info? 3).map (·.bytes) = some 8 := by_of Tryz.typeInfo3
attribute [simp] Tryz.underlying3
@[simp] theorem sz4 : szOf Tryz.prog 4 = some 1 := sz_of Tryz.typeInfo4
@[simp] theorem ag4 : aggT Tryz.prog 4 = some false := by rw [aggT, Tryz.underlying4]
@[simp] theorem zr4 : zeroC Tryz.prog 4 = some (.t (.b false)) := (zr_of Tryz.typeInfo4).trans rfl
@[simp] theorem by4 : (Tryz.prog.info? 4).map (·.bytes) = some 1 := by_of Tryz.typeInfo4
attribute [simp] Tryz.underlying4
@[simp] theorem sz5 : szOf Tryz.prog 5 = some 1 := sz_of Tryz.typeInfo5
@[simp] theorem ag5 : aggT Tryz.prog 5 = some false := by rw [aggT, Tryz.underlying5]
@[simp] theorem zr5 : zeroC Tryz.prog 5 = some (.t (.i .u8 0)) := (zr_of Tryz.typeInfo5).trans rfl
@[simp] theorem by5 : (Tryz.prog.info? 5).map (·.bytes) = some 1 := by_of Tryz.typeInfo5
attribute [simp] Tryz.underlying5
@[simp] theorem sz6 : szOf Tryz.prog 6 = some 1 := sz_of Tryz.typeInfo6
@[simp] theorem ag6 : aggT Tryz.prog 6 = some false := by rw [aggT, Tryz.underlying6]
@[simp] theorem zr6 : zeroC Tryz.prog 6 = some (.t (.i .u8 0)) := (zr_of Tryz.typeInfo6).trans rfl
@[simp] theorem by6 : (Tryz.prog.info? 6).map (·.bytes) = some 1 := by_of Tryz.typeInfo6
attribute [simp] Tryz.underlying6
@[simp] theorem sz7 : szOf Tryz.prog 7 = some 4 := sz_of Tryz.typeInfo7
@[simp] theorem ag7 : aggT Tryz.prog 7 = some true := by rw [aggT, Tryz.underlying7]
@[simp] theorem zr7 : zeroC Tryz.prog 7 = some (.agg [.t (.i .i64 0), .t (.i .i64 0), .t (.b false), .t (.i .u8 0)]) := (zr_of Tryz.typeInfo7).trans rfl
@[simp] theorem by7 : (Tryz.prog.info? 7).map (·.bytes) = some 24 := by_of Tryz.typeInfo7
attribute [simp] Tryz.underlying7
@[simp] theorem sz8 : szOf Tryz.prog 8 = some 4 := sz_of Tryz.typeInfo8
@[simp] theorem ag8 : aggT Tryz.prog 8 = some true := by rw [aggT, Tryz.underlying8]
@[simp] theorem zr8 : zeroC Tryz.prog 8 = some (.agg [.t (.i .i64 0), .t (.i .i64 0), .t (.b false), .t (.i .u8 0)]) := (zr_of Tryz.typeInfo8).trans rfl
@[simp] theorem by8 : (Tryz.prog.info? 8).map (·.bytes) = some 24 := by_of Tryz.typeInfo8
attribute [simp] Tryz.underlying8
@[simp] theorem sz9 : szOf Tryz.prog 9 = some 1 := sz_of Tryz.typeInfo9
@[simp] theorem ag9 : aggT Tryz.prog 9 = some false := by rw [aggT, Tryz.underlying9]
@[simp] theorem zr9 : zeroC Tryz.prog 9 = some (.t (.s ⟨#[]⟩)) := (zr_of Tryz.typeInfo9).trans rfl
@[simp] theorem by9 : (Tryz.prog.info? 9).map (·.bytes) = some 16 := by_of Tryz.typeInfo9
attribute [simp] Tryz.underlying9
@[simp] theorem sz10 : szOf Tryz.prog 10 = some 1 := sz_of Tryz.typeInfo10
@[simp] theorem ag10 : aggT Tryz.prog 10 = some false := by rw [aggT, Tryz.underlying10]
@[simp] theorem zr10 : zeroC Tryz.prog 10 = some (.t (.s ⟨#[]⟩)) := (zr_of Tryz.typeInfo10).trans rfl
@[simp] theorem by10 : (Tryz.prog.info? 10).map (·.bytes) = some 16 := by_of Tryz.typeInfo10
attribute [simp] Tryz.underlying10
@[simp] theorem sz11 : szOf Tryz.prog 11 = some 1 := sz_of Tryz.typeInfo11
@[simp] theorem ag11 : aggT Tryz.prog 11 = some false := by rw [aggT, Tryz.underlying11]
@[simp] theorem zr11 : zeroC Tryz.prog 11 = some (.t (.s ⟨#[]⟩)) := (zr_of Tryz.typeInfo11).trans rfl
@[simp] theorem by11 : (Tryz.prog.info? 11).map (·.bytes) = some 16 := by_of Tryz.typeInfo11
attribute [simp] Tryz.underlying11
@[simp] theorem sz12 : szOf Tryz.prog 12 = some 1 := sz_of Tryz.typeInfo12
@[simp] theorem ag12 : aggT Tryz.prog 12 = some false := by rw [aggT, Tryz.underlying12]
@[simp] theorem zr12 : zeroC Tryz.prog 12 = some (.t (.i .u64 0)) := (zr_of Tryz.typeInfo12).trans rfl
@[simp] theorem by12 : (Tryz.prog.info? 12).map (·.bytes) = some 8 := by_of Tryz.typeInfo12
attribute [simp] Tryz.underlying12
@[simp] theorem sz22 : szOf Tryz.prog 22 = some 1 := sz_of Tryz.typeInfo22
@[simp] theorem ag22 : aggT Tryz.prog 22 = some false := by rw [aggT, Tryz.underlying22]
@[simp] theorem zr22 : zeroC Tryz.prog 22 = some (.t .nl) := (zr_of Tryz.typeInfo22).trans rfl
@[simp] theorem by22 : (Tryz.prog.info? 22).map (·.bytes) = some 24 := by_of Tryz.typeInfo22
attribute [simp] Tryz.underlying22
@[simp] theorem sz24 : szOf Tryz.prog 24 = some 1 := sz_of Tryz.typeInfo24
@[simp] theorem ag24 : aggT Tryz.prog 24 = some false := by rw [aggT, Tryz.underlying24]
@[simp] theorem zr24 : zeroC Tryz.prog 24 = some (.t .nl) := (zr_of Tryz.typeInfo24).trans rfl
@[simp] theorem by24 : (Tryz.prog.info? 24).map (·.bytes) = some 24 := by_of Tryz.typeInfo24
attribute [simp] Tryz.underlying24
@[simp] theorem sz25 : szOf Tryz.prog 25 = some 1 := sz_of Tryz.typeInfo25
@[simp] theorem ag25 : aggT Tryz.prog 25 = some false := by rw [aggT, Tryz.underlying25]
@[simp] theorem zr25 : zeroC Tryz.prog 25 = some (.t .nl) := (zr_of Tryz.typeInfo25).trans rfl
@[simp] theorem by25 : (Tryz.prog.info? 25).map (·.bytes) = some 24 := by_of Tryz.typeInfo25
attribute [simp] Tryz.underlying25
@[simp] theorem sz26 : szOf Tryz.prog 26 = some 2 := sz_of Tryz.typeInfo26
@[simp] theorem ag26 : aggT Tryz.prog 26 = some true := by rw [aggT, Tryz.underlying26]
@[simp] theorem zr26 : zeroC Tryz.prog 26 = some (.agg [.t .nl, .t .nl]) := (zr_of Tryz.typeInfo26).trans rfl
@[simp] theorem by26 : (Tryz.prog.info? 26).map (·.bytes) = some 48 := by_of Tryz.typeInfo26
attribute [simp] Tryz.underlying26
@[simp] theorem sz27 : szOf Tryz.prog 27 = some 2 := sz_of Tryz.typeInfo27
@[simp] theorem ag27 : aggT Tryz.prog 27 = some true := by rw [aggT, Tryz.underlying27]
@[simp] theorem zr27 : zeroC Tryz.prog 27 = some (.agg [.t .nl, .t .nl]) := (zr_of Tryz.typeInfo27).trans rfl
@[simp] theorem by27 : (Tryz.prog.info? 27).map (·.bytes) = some 48 := by_of Tryz.typeInfo27
attribute [simp] Tryz.underlying27
@[simp] theorem sz28 : szOf Tryz.prog 28 = some 2 := sz_of Tryz.typeInfo28
@[simp] theorem ag28 : aggT Tryz.prog 28 = some true := by rw [aggT, Tryz.underlying28]
@[simp] theorem zr28 : zeroC Tryz.prog 28 = some (.agg [.t (.i .i64 0), .t .nl]) := (zr_of Tryz.typeInfo28).trans rfl
@[simp] theorem by28 : (Tryz.prog.info? 28).map (·.bytes) = some 32 := by_of Tryz.typeInfo28
attribute [simp] Tryz.underlying28
@[simp] theorem sz29 : szOf Tryz.prog 29 = some 2 := sz_of Tryz.typeInfo29
@[simp] theorem ag29 : aggT Tryz.prog 29 = some true := by rw [aggT, Tryz.underlying29]
@[simp] theorem zr29 : zeroC Tryz.prog 29 = some (.agg [.t (.i .i64 0), .t .nl]) := (zr_of Tryz.typeInfo29).trans rfl
@[simp] theorem by29 : (Tryz.prog.info? 29).map (·.bytes) = some 32 := by_of Tryz.typeInfo29
attribute [simp] Tryz.underlying29
@[simp] theorem sz33 : szOf Tryz.prog 33 = some 1 := sz_of Tryz.typeInfo33
@[simp] theorem ag33 : aggT Tryz.prog 33 = some true := by rw [aggT, Tryz.underlying33]
@[simp] theorem zr33 : zeroC Tryz.prog 33 = some (.agg [.t .nl]) := (zr_of Tryz.typeInfo33).trans rfl
@[simp] theorem by33 : (Tryz.prog.info? 33).map (·.bytes) = some 24 := by_of Tryz.typeInfo33
attribute [simp] Tryz.underlying33
@[simp] theorem sz34 : szOf Tryz.prog 34 = some 1 := sz_of Tryz.typeInfo34
@[simp] theorem ag34 : aggT Tryz.prog 34 = some true := by rw [aggT, Tryz.underlying34]
@[simp] theorem zr34 : zeroC Tryz.prog 34 = some (.agg [.t .nl]) := (zr_of Tryz.typeInfo34).trans rfl
@[simp] theorem by34 : (Tryz.prog.info? 34).map (·.bytes) = some 24 := by_of Tryz.typeInfo34
attribute [simp] Tryz.underlying34
@[simp] theorem sz35 : szOf Tryz.prog 35 = some 1 := sz_of Tryz.typeInfo35
@[simp] theorem ag35 : aggT Tryz.prog 35 = some false := by rw [aggT, Tryz.underlying35]
@[simp] theorem zr35 : zeroC Tryz.prog 35 = some (.t .nl) := (zr_of Tryz.typeInfo35).trans rfl
@[simp] theorem by35 : (Tryz.prog.info? 35).map (·.bytes) = some 24 := by_of Tryz.typeInfo35
attribute [simp] Tryz.underlying35
@[simp] theorem sz41 : szOf Tryz.prog 41 = some 1 := sz_of Tryz.typeInfo41
@[simp] theorem ag41 : aggT Tryz.prog 41 = some false := by rw [aggT, Tryz.underlying41]
@[simp] theorem zr41 : zeroC Tryz.prog 41 = some (.t .nl) := (zr_of Tryz.typeInfo41).trans rfl
@[simp] theorem by41 : (Tryz.prog.info? 41).map (·.bytes) = some 24 := by_of Tryz.typeInfo41
attribute [simp] Tryz.underlying41
@[simp] theorem sz44 : szOf Tryz.prog 44 = some 1 := sz_of Tryz.typeInfo44
@[simp] theorem ag44 : aggT Tryz.prog 44 = some false := by rw [aggT, Tryz.underlying44]
@[simp] theorem zr44 : zeroC Tryz.prog 44 = some (.np) := (zr_of Tryz.typeInfo44).trans rfl
@[simp] theorem by44 : (Tryz.prog.info? 44).map (·.bytes) = some 8 := by_of Tryz.typeInfo44
attribute [simp] Tryz.underlying44
@[simp] theorem sz49 : szOf Tryz.prog 49 = some 2 := sz_of Tryz.typeInfo49
@[simp] theorem ag49 : aggT Tryz.prog 49 = some true := by rw [aggT, Tryz.underlying49]
@[simp] theorem zr49 : zeroC Tryz.prog 49 = some (.agg [.t (.i .i64 0), .t .nl]) := (zr_of Tryz.typeInfo49).trans rfl
@[simp] theorem by49 : (Tryz.prog.info? 49).map (·.bytes) = some 32 := by_of Tryz.typeInfo49
attribute [simp] Tryz.underlying49
@[simp] theorem sz61 : szOf Tryz.prog 61 = some 2 := sz_of Tryz.typeInfo61
@[simp] theorem ag61 : aggT Tryz.prog 61 = some true := by rw [aggT, Tryz.underlying61]
@[simp] theorem zr61 : zeroC Tryz.prog 61 = some (.agg [.t .nl, .t (.i .i64 0)]) := (zr_of Tryz.typeInfo61).trans rfl
@[simp] theorem by61 : (Tryz.prog.info? 61).map (·.bytes) = some 32 := by_of Tryz.typeInfo61
attribute [simp] Tryz.underlying61
@[simp] theorem sz62 : szOf Tryz.prog 62 = some 2 := sz_of Tryz.typeInfo62
@[simp] theorem ag62 : aggT Tryz.prog 62 = some true := by rw [aggT, Tryz.underlying62]
@[simp] theorem zr62 : zeroC Tryz.prog 62 = some (.agg [.t .nl, .t (.i .i64 0)]) := (zr_of Tryz.typeInfo62).trans rfl
@[simp] theorem by62 : (Tryz.prog.info? 62).map (·.bytes) = some 32 := by_of Tryz.typeInfo62
attribute [simp] Tryz.underlying62
@[simp] theorem sz64 : szOf Tryz.prog 64 = some 1 := sz_of Tryz.typeInfo64
@[simp] theorem ag64 : aggT Tryz.prog 64 = some false := by rw [aggT, Tryz.underlying64]
attribute [simp] Tryz.underlying64
@[simp] theorem sz65 : szOf Tryz.prog 65 = some 1 := sz_of Tryz.typeInfo65
@[simp] theorem ag65 : aggT Tryz.prog 65 = some false := by rw [aggT, Tryz.underlying65]
@[simp] theorem zr65 : zeroC Tryz.prog 65 = some (.t .nl) := (zr_of Tryz.typeInfo65).trans rfl
@[simp] theorem by65 : (Tryz.prog.info? 65).map (·.bytes) = some 24 := by_of Tryz.typeInfo65
attribute [simp] Tryz.underlying65
@[simp] theorem sz71 : szOf Tryz.prog 71 = some 20 := sz_of Tryz.typeInfo71
@[simp] theorem ag71 : aggT Tryz.prog 71 = some true := by rw [aggT, Tryz.underlying71]
@[simp] theorem zr71 : zeroC Tryz.prog 71 = some (.agg [.t (.i .i64 0), .t (.i .i64 0), .t (.i .i64 0), .t (.i .i64 0), .t (.i .i64 0), .t (.i .i64 0), .t (.i .i64 0), .t (.i .i64 0), .t (.i .i64 0), .t (.i .i64 0), .t (.i .i64 0), .t (.i .i64 0), .t (.i .i64 0), .t (.i .i64 0), .t (.i .i64 0), .t (.i .i64 0), .t (.i .i64 0), .t (.i .i64 0), .t (.i .i64 0), .t (.i .i64 0)]) := (zr_of Tryz.typeInfo71).trans rfl
@[simp] theorem by71 : (Tryz.prog.info? 71).map (·.bytes) = some 160 := by_of Tryz.typeInfo71
attribute [simp] Tryz.underlying71
@[simp] theorem sz72 : szOf Tryz.prog 72 = some 20 := sz_of Tryz.typeInfo72
@[simp] theorem ag72 : aggT Tryz.prog 72 = some true := by rw [aggT, Tryz.underlying72]
@[simp] theorem zr72 : zeroC Tryz.prog 72 = some (.agg [.t (.b false), .t (.b false), .t (.b false), .t (.b false), .t (.b false), .t (.b false), .t (.b false), .t (.b false), .t (.b false), .t (.b false), .t (.b false), .t (.b false), .t (.b false), .t (.b false), .t (.b false), .t (.b false), .t (.b false), .t (.b false), .t (.b false), .t (.b false)]) := (zr_of Tryz.typeInfo72).trans rfl
@[simp] theorem by72 : (Tryz.prog.info? 72).map (·.bytes) = some 20 := by_of Tryz.typeInfo72
attribute [simp] Tryz.underlying72
@[simp] theorem sz73 : szOf Tryz.prog 73 = some 40 := sz_of Tryz.typeInfo73
@[simp] theorem ag73 : aggT Tryz.prog 73 = some true := by rw [aggT, Tryz.underlying73]
@[simp] theorem zr73 : zeroC Tryz.prog 73 = some (.agg [.t (.i .i64 0), .t (.i .i64 0), .t (.i .i64 0), .t (.i .i64 0), .t (.i .i64 0), .t (.i .i64 0), .t (.i .i64 0), .t (.i .i64 0), .t (.i .i64 0), .t (.i .i64 0), .t (.i .i64 0), .t (.i .i64 0), .t (.i .i64 0), .t (.i .i64 0), .t (.i .i64 0), .t (.i .i64 0), .t (.i .i64 0), .t (.i .i64 0), .t (.i .i64 0), .t (.i .i64 0), .t (.b false), .t (.b false), .t (.b false), .t (.b false), .t (.b false), .t (.b false), .t (.b false), .t (.b false), .t (.b false), .t (.b false), .t (.b false), .t (.b false), .t (.b false), .t (.b false), .t (.b false), .t (.b false), .t (.b false), .t (.b false), .t (.b false), .t (.b false)]) := (zr_of Tryz.typeInfo73).trans rfl
@[simp] theorem by73 : (Tryz.prog.info? 73).map (·.bytes) = some 184 := by_of Tryz.typeInfo73
attribute [simp] Tryz.underlying73
@[simp] theorem sz74 : szOf Tryz.prog 74 = some 40 := sz_of Tryz.typeInfo74
@[simp] theorem ag74 : aggT Tryz.prog 74 = some true := by rw [aggT, Tryz.underlying74]
@[simp] theorem zr74 : zeroC Tryz.prog 74 = some (.agg [.t (.i .i64 0), .t (.i .i64 0), .t (.i .i64 0), .t (.i .i64 0), .t (.i .i64 0), .t (.i .i64 0), .t (.i .i64 0), .t (.i .i64 0), .t (.i .i64 0), .t (.i .i64 0), .t (.i .i64 0), .t (.i .i64 0), .t (.i .i64 0), .t (.i .i64 0), .t (.i .i64 0), .t (.i .i64 0), .t (.i .i64 0), .t (.i .i64 0), .t (.i .i64 0), .t (.i .i64 0), .t (.b false), .t (.b false), .t (.b false), .t (.b false), .t (.b false), .t (.b false), .t (.b false), .t (.b false), .t (.b false), .t (.b false), .t (.b false), .t (.b false), .t (.b false), .t (.b false), .t (.b false), .t (.b false), .t (.b false), .t (.b false), .t (.b false), .t (.b false)]) := (zr_of Tryz.typeInfo74).trans rfl
@[simp] theorem by74 : (Tryz.prog.info? 74).map (·.bytes) = some 184 := by_of Tryz.typeInfo74
attribute [simp] Tryz.underlying74
@[simp] theorem sz76 : szOf Tryz.prog 76 = some 1 := sz_of Tryz.typeInfo76
@[simp] theorem ag76 : aggT Tryz.prog 76 = some false := by rw [aggT, Tryz.underlying76]
attribute [simp] Tryz.underlying76
@[simp] theorem sz78 : szOf Tryz.prog 78 = some 3 := sz_of Tryz.typeInfo78
@[simp] theorem ag78 : aggT Tryz.prog 78 = some true := by rw [aggT, Tryz.underlying78]
@[simp] theorem zr78 : zeroC Tryz.prog 78 = some (.agg [.t .nl, .t (.i .i64 0), .t (.i .i64 0)]) := (zr_of Tryz.typeInfo78).trans rfl
@[simp] theorem by78 : (Tryz.prog.info? 78).map (·.bytes) = some 40 := by_of Tryz.typeInfo78
attribute [simp] Tryz.underlying78
@[simp] theorem sz79 : szOf Tryz.prog 79 = some 3 := sz_of Tryz.typeInfo79
@[simp] theorem ag79 : aggT Tryz.prog 79 = some true := by rw [aggT, Tryz.underlying79]
@[simp] theorem zr79 : zeroC Tryz.prog 79 = some (.agg [.t .nl, .t (.i .i64 0), .t (.i .i64 0)]) := (zr_of Tryz.typeInfo79).trans rfl
@[simp] theorem by79 : (Tryz.prog.info? 79).map (·.bytes) = some 40 := by_of Tryz.typeInfo79
attribute [simp] Tryz.underlying79
@[simp] theorem sz99 : szOf Tryz.prog 99 = some 1 := sz_of Tryz.typeInfo99
@[simp] theorem ag99 : aggT Tryz.prog 99 = some false := by rw [aggT, Tryz.underlying99]
@[simp] theorem zr99 : zeroC Tryz.prog 99 = some (.np) := (zr_of Tryz.typeInfo99).trans rfl
@[simp] theorem by99 : (Tryz.prog.info? 99).map (·.bytes) = some 8 := by_of Tryz.typeInfo99
attribute [simp] Tryz.underlying99
@[simp] theorem sz101 : szOf Tryz.prog 101 = some 1 := sz_of Tryz.typeInfo101
@[simp] theorem ag101 : aggT Tryz.prog 101 = some false := by rw [aggT, Tryz.underlying101]
attribute [simp] Tryz.underlying101
@[simp] theorem sz104 : szOf Tryz.prog 104 = some 1 := sz_of Tryz.typeInfo104
@[simp] theorem ag104 : aggT Tryz.prog 104 = some false := by rw [aggT, Tryz.underlying104]
@[simp] theorem zr104 : zeroC Tryz.prog 104 = some (.t (.i .u64 0)) := (zr_of Tryz.typeInfo104).trans rfl
@[simp] theorem by104 : (Tryz.prog.info? 104).map (·.bytes) = some 8 := by_of Tryz.typeInfo104
attribute [simp] Tryz.underlying104
@[simp] theorem sz108 : szOf Tryz.prog 108 = some 1 := sz_of Tryz.typeInfo108
@[simp] theorem ag108 : aggT Tryz.prog 108 = some false := by rw [aggT, Tryz.underlying108]
@[simp] theorem zr108 : zeroC Tryz.prog 108 = some (.np) := (zr_of Tryz.typeInfo108).trans rfl
@[simp] theorem by108 : (Tryz.prog.info? 108).map (·.bytes) = some 8 := by_of Tryz.typeInfo108
attribute [simp] Tryz.underlying108
@[simp] theorem sz116 : szOf Tryz.prog 116 = some 1 := sz_of Tryz.typeInfo116
@[simp] theorem ag116 : aggT Tryz.prog 116 = some false := by rw [aggT, Tryz.underlying116]
@[simp] theorem zr116 : zeroC Tryz.prog 116 = some (.t (.i .i64 0)) := (zr_of Tryz.typeInfo116).trans rfl
@[simp] theorem by116 : (Tryz.prog.info? 116).map (·.bytes) = some 8 := by_of Tryz.typeInfo116
attribute [simp] Tryz.underlying116
@[simp] theorem sz124 : szOf Tryz.prog 124 = some 1 := sz_of Tryz.typeInfo124
@[simp] theorem ag124 : aggT Tryz.prog 124 = some false := by rw [aggT, Tryz.underlying124]
@[simp] theorem zr124 : zeroC Tryz.prog 124 = some (.t (.i .u32 0)) := (zr_of Tryz.typeInfo124).trans rfl
@[simp] theorem by124 : (Tryz.prog.info? 124).map (·.bytes) = some 4 := by_of Tryz.typeInfo124
attribute [simp] Tryz.underlying124
@[simp] theorem sz126 : szOf Tryz.prog 126 = some 1 := sz_of Tryz.typeInfo126
@[simp] theorem ag126 : aggT Tryz.prog 126 = some false := by rw [aggT, Tryz.underlying126]
@[simp] theorem zr126 : zeroC Tryz.prog 126 = some (.t (.i .u64 0)) := (zr_of Tryz.typeInfo126).trans rfl
@[simp] theorem by126 : (Tryz.prog.info? 126).map (·.bytes) = some 8 := by_of Tryz.typeInfo126
attribute [simp] Tryz.underlying126
@[simp] theorem sz128 : szOf Tryz.prog 128 = some 1 := sz_of Tryz.typeInfo128
@[simp] theorem ag128 : aggT Tryz.prog 128 = some false := by rw [aggT, Tryz.underlying128]
@[simp] theorem zr128 : zeroC Tryz.prog 128 = some (.t (.i .u64 0)) := (zr_of Tryz.typeInfo128).trans rfl
@[simp] theorem by128 : (Tryz.prog.info? 128).map (·.bytes) = some 8 := by_of Tryz.typeInfo128
attribute [simp] Tryz.underlying128
@[simp] theorem sz132 : szOf Tryz.prog 132 = some 1 := sz_of Tryz.typeInfo132
@[simp] theorem ag132 : aggT Tryz.prog 132 = some false := by rw [aggT, Tryz.underlying132]
@[simp] theorem zr132 : zeroC Tryz.prog 132 = some (.np) := (zr_of Tryz.typeInfo132).trans rfl
@[simp] theorem by132 : (Tryz.prog.info? 132).map (·.bytes) = some 8 := by_of Tryz.typeInfo132
attribute [simp] Tryz.underlying132
@[simp] theorem sz134 : szOf Tryz.prog 134 = some 1 := sz_of Tryz.typeInfo134
@[simp] theorem ag134 : aggT Tryz.prog 134 = some false := by rw [aggT, Tryz.underlying134]
@[simp] theorem zr134 : zeroC Tryz.prog 134 = some (.np) := (zr_of Tryz.typeInfo134).trans rfl
@[simp] theorem by134 : (Tryz.prog.info? 134).map (·.bytes) = some 8 := by_of Tryz.typeInfo134
attribute [simp] Tryz.underlying134
end Go.Proofs.YtpdpgfagklhpaaaGreat.V

namespace Go.Proofs.YtpdpgfagklhpaaaGreat.V
open Go Go.Proofs Go.Shelf Go.RowKit Go.Lib Go.Sort
set_option linter.unusedVariables false
set_option linter.unusedSimpArgs false
theorem SW.put {α : Type} [Inhabited α] {enc : α → Value} {w0 W : World} {blk off : Nat} {dk : Array α} (h : SW enc w0 blk off dk W) (hblk : blk < w0.heap.size) (i : Nat) (x : α) (hi : i < dk.size) : SW enc w0 blk off (dk.setIfInBounds i x) (W.setCell ⟨blk, off + i, none⟩ (enc x)) := by
  obtain ⟨n, os, rfl⟩ := h
  refine ⟨n, os, ?_⟩
  unfold sortWorld
  rw [← putRow_grow enc (Sort.ahead w0 n) os blk off dk hblk, putRow_set _ _ _ _ _ _ _ hi, putRow_grow enc (Sort.ahead w0 n) os blk off _ hblk]
end Go.Proofs.YtpdpgfagklhpaaaGreat.V

namespace Go.Proofs.YtpdpgfagklhpaaaGreat.V
open Go
set_option linter.unusedVariables false
theorem upd_app {α : Type} (f : Nat → α) (i : Nat) (x : α) (j : Nat) : upd f i x j = if j = i then x else f j := rfl
attribute [simp] opsV stepV wantV opV evalO constV constT putV upd_app absorbR absorbL absorb Sto.new Sto.set Sto.e md AV.cells asT T.flat T.nz appendV rowsV resV resV1 Ends expR expA expL expAs exp1 loadV storeV storeN storeW rowsAt setAt natOf fillV reify reifyP reify1 VO.rows
  binV intV boundO slRows sliceT place placeA placeL placeAs place1 XV.sh XV.shA XV.sh1 ids ids1 AV.one chkP chkR chkH dk bfm freezeL freeze1 isBox Nat.testBit_eq_decide_div_mod_eq VS.on resL resO rv putL putT Nat.add_assoc
@[simp] theorem DrunF_nil (st : VS → Oper → Option VS) (bf : Nat → Nat → Bool) (rs : List (Nat × Nat × VO)) (i k : Nat) (s : VS) (pd : List (Nat × Oper × VS × VS)) (hs : List (Nat × Sto)) (p : Prop) : DrunF st bf rs [] i k s pd hs p = some (p, s) := by
  unfold DrunF; exact rfl
@[simp] theorem DrunF_cons (st : VS → Oper → Option VS) (bf : Nat → Nat → Bool) (rs : List (Nat × Nat × VO)) (o : Oper) (l : List Oper) (i k : Nat) (s : VS) (pd : List (Nat × Oper × VS × VS)) (hs : List (Nat × Sto)) (p : Prop) : DrunF st bf rs (o :: l) i k s pd hs p =
    (if dk o = 3 then match putV s o.dst (rv o k) s.σ with
      | some s1 => DrunF st bf rs l (i + 1) (k + 1) s1 pd hs p
      | none => none
    else match st s o with
      | some s1 => if dk o = 2 then DrunF st bf rs l (i + 1) k s1 pd ((i, s.σ) :: hs) (chkR bf i s1.σ rs (chkP st bf i s1.σ pd p))
        else if dk o = 1 then DrunF st bf rs l (i + 1) k s1 ((i, o, s, s1) :: pd) hs (chkH st bf i o s s1 hs p)
        else DrunF st bf rs l (i + 1) k s1 pd hs p
      | none => none) := by
  conv => lhs; unfold DrunF
  try (cases st s o <;> rfl)
theorem wrap_ok {n : Int} (h1 : -9223372036854775808 ≤ n) (h2 : n < 9223372036854775808) : IntKind.i64.wrap n = n := by
  rw [IntKind.wrap_i64]; omega
theorem wrap_succ {n : Nat} (h : n < 4611686018427387904) : IntKind.i64.wrap ((n : Int) + 1) = (n : Int) + 1 := wrap_ok (by omega) (by omega)
theorem map_take_snoc {α β : Type} (f : α → β) (l : List α) (i : Nat) (h : i < l.length) : (l.take (i + 1)).map f = (l.take i).map f ++ [f l[i]] := by
  rw [List.take_succ_eq_append_getElem h, List.map_append]; rfl
/-- Lean's values in cells. -/
class Enc (α : Type) where
  cells : α → List T
  n : Nat
  flat : Bool
  len : ∀ a, (cells a).length = n
  flt : flat = true → ∀ a, (cells a).all T.flat = true
def rowsE {α : Type} [Enc α] (l : List α) : List (List T) := l.map Enc.cells
section
variable {α : Type} [Enc α]
@[simp] theorem rowsE_len (l : List α) : (rowsE l).length = l.length := by simp [rowsE]
@[simp] theorem rowsE_nil : rowsE ([] : List α) = [] := rfl
@[simp] theorem rowsE_all (l : List α) (k : Nat) (h : Enc.n α = k) : (rowsE l).all (fun r => r.length == k) = true := by
  subst h; simp [rowsE, Enc.len]
@[simp] theorem rowsE_all2 (l : List α) (k : Nat) (h : Enc.n α = k) : (∀ x ∈ rowsE l, x.length = k) = True := by
  subst h; simp [rowsE, Enc.len]
@[simp] theorem rowsE_flat (l : List α) (h : Enc.flat α = true) : flatR (rowsE l) = true := by
  simp only [flatR, rowsE, List.all_map, List.all_eq_true]
  intro x _; have := Enc.flt h x; simpa using this
@[simp] theorem rowsE_get (l : List α) (i : Nat) (h : i < (rowsE l).length) : (rowsE l)[i] = Enc.cells (l[i]'(by rw [rowsE_len] at h; exact h)) := by simp [rowsE]
theorem rowsE_take (l : List α) (i : Nat) (h : i < l.length) : rowsE (l.take (i + 1)) = rowsE (l.take i) ++ [Enc.cells l[i]] := map_take_snoc _ l i h
theorem rowsE_append (l m : List α) : rowsE (l ++ m) = rowsE l ++ rowsE m := by simp [rowsE]
end
instance : Enc Int := ⟨fun n => [.i .i64 n], 1, true, fun _ => rfl, fun _ _ => rfl⟩
instance : Enc Bool := ⟨fun n => [.b n], 1, true, fun _ => rfl, fun _ _ => rfl⟩
instance : Enc ByteArray := ⟨fun n => [.s n], 1, true, fun _ => rfl, fun _ _ => rfl⟩
instance {α : Type} [Enc α] : Enc (List α) := ⟨fun l => [.sl (rowsE l)], 1, false, fun _ => rfl, fun h => by cases h⟩
@[simp] theorem cells_int (n : Int) : Enc.cells n = [.i .i64 n] := rfl
@[simp] theorem cells_bool (n : Bool) : Enc.cells n = [.b n] := rfl
@[simp] theorem cells_str (n : ByteArray) : Enc.cells n = [.s n] := rfl
@[simp] theorem cells_list {α : Type} [Enc α] (l : List α) : Enc.cells l = [.sl (rowsE l)] := rfl
@[simp] theorem n_int : Enc.n Int = 1 := rfl
@[simp] theorem n_bool : Enc.n Bool = 1 := rfl
@[simp] theorem n_str : Enc.n ByteArray = 1 := rfl
@[simp] theorem n_list {α : Type} [Enc α] : Enc.n (List α) = 1 := rfl
@[simp] theorem f_int : Enc.flat Int = true := rfl
@[simp] theorem f_bool : Enc.flat Bool = true := rfl
@[simp] theorem f_str : Enc.flat ByteArray = true := rfl
/-- A relation's name and its arguments: an atom, a fact. -/
structure RA where
  rel : Int
  args : List Int
  deriving DecidableEq
instance : Enc RA := ⟨fun a => [.i .i64 a.rel, .sl (rowsE a.args)], 2, false, fun _ => rfl, fun h => by cases h⟩
@[simp] theorem cells_RA (a : RA) : Enc.cells a = [.i .i64 a.rel, .sl (rowsE a.args)] := rfl
@[simp] theorem n_RA : Enc.n RA = 2 := rfl
structure Qry where
  head : List Int
  body : List RA
  deriving DecidableEq
instance : Enc Qry := ⟨fun a => [.sl (rowsE a.head), .sl (rowsE a.body)], 2, false, fun _ => rfl, fun h => by cases h⟩
@[simp] theorem cells_Q (a : Qry) : Enc.cells a = [.sl (rowsE a.head), .sl (rowsE a.body)] := rfl
@[simp] theorem n_Q : Enc.n Qry = 2 := rfl
structure Cnt where
  tuple : List Int
  count : Int
  deriving DecidableEq
instance : Enc Cnt := ⟨fun a => [.sl (rowsE a.tuple), .i .i64 a.count], 2, false, fun _ => rfl, fun h => by cases h⟩
@[simp] theorem cells_Cnt (a : Cnt) : Enc.cells a = [.sl (rowsE a.tuple), .i .i64 a.count] := rfl
@[simp] theorem n_Cnt : Enc.n Cnt = 2 := rfl
/-- An argument that is only read. -/
abbrev Ar {α : Type} [Enc α] (l : List α) : AV := .t (.sl (rowsE l))
/-- A struct that is only read. -/
def Ag {α : Type} [Enc α] (a : α) : AV := .agg ((Enc.cells a).map .t)
abbrev In (n : Int) : AV := .t (.i .i64 n)
abbrev Bo (x : Bool) : AV := .t (.b x)
end Go.Proofs.YtpdpgfagklhpaaaGreat.V

namespace Go.Proofs.YtpdpgfagklhpaaaGreat.V
open Go Go.RowKit Go.Deep Go.ChangeShapes Go.WideShapes
set_option linter.unusedVariables false
/-- Old blocks. -/
def Old (w : World) : Nat → Prop := fun b => b < w.heap.size
def RepL (h : Heap) (Z : Nat → Prop) (cs : List Value) (ts : List T) : Prop := cs.length = ts.length ∧ ∀ (k : Nat) (u : Value) (x : T), cs[k]? = some u → ts[k]? = some x → Rep h Z u x
theorem RepL.one {h : Heap} {Z : Nat → Prop} {u : Value} {x : T} (H : Rep h Z u x) : RepL h Z [u] [x] := ⟨rfl, fun k v y hv hy => by
  cases k with
  | zero => cases hv; cases hy; exact H
  | succ k => simp at hv⟩
theorem RepL.append {h : Heap} {Z : Nat → Prop} {a b : List Value} {c d : List T} (H : RepL h Z a c) (K : RepL h Z b d) : RepL h Z (a ++ b) (c ++ d) := by
  refine ⟨by simp [H.1, K.1], fun k u x hu hx => ?_⟩
  rw [List.getElem?_append] at hu hx
  by_cases hk : k < a.length
  · rw [if_pos hk] at hu; rw [if_pos (by rw [← H.1]; exact hk)] at hx; exact H.2 k u x hu hx
  · rw [if_neg hk] at hu; rw [if_neg (by rw [← H.1]; exact hk), ← H.1] at hx; exact K.2 _ u x hu hx
/-- Whatever reads as data of type t is a value a, and Q holds of it. -/
def Rdv {α : Type} [Enc α] (P : Program) (w : World) (t : TypeId) (Q : α → Prop) : Prop :=
  ∀ (H : Type) (enc : TypeId × Value → H) (fuel : Nat) (cs : List Value) (x : DataW H × List MemPlace),
    DataW.trod enc P w 0 (fun _ => true) true fuel t cs = some x → ∃ a : α, RepL w.heap (Old w) cs (Enc.cells a) ∧ Q a
variable {α β : Type} [Enc α] [Enc β] {P : Program} {w : World} {t e : TypeId}
theorem cell_old {a : Addr} {v : Value} (h : w.cell? a = some v) : a.spot = none ∧ ∃ cells e fz, w.heap[a.block]? = some (.cells cells e fz) ∧ cells[a.off]? = some v := by
  unfold World.cell? at h
  split at h
  · rename_i c e fz hb
    split at h
    · cases h
    · rename_i hs
      exact ⟨by simpa using hs, c, e, fz, hb, h⟩
  · cases h
theorem rd_slice {Q : α → Prop} (ht : P.underlying t = some (.slice e)) (hc : P.cellsOf e = Enc.n α) (hn : 0 < Enc.n α) (hd : Rdv P w e Q) :
    Rdv P w t (fun xs : List α => xs.length ≤ maxLen ∧ ∀ x ∈ xs, Q x) := by
  classical
  intro H enc fuel cs x h
  rcases open_slice ht h with ⟨rfl, _⟩ | ⟨a, len, cap, m, n, D, Pl, rfl, _, hl, hm, hmm, _, hx⟩
  · exact ⟨[], .one .sl0, by simp, by simp⟩
  · have hm' : m = cap := by simpa using hmm
    have hX : ∀ i, i < cap → ∃ x : α, ∃ cs', w.cells? 0 (a.add (i * Enc.n α)) (Enc.n α) = some cs' ∧ RepL w.heap (Old w) cs' (Enc.cells x) ∧ Q x := by
      intro i hi
      obtain ⟨cs', h1, h2⟩ := hx i (by omega)
      obtain ⟨y, hk, hq⟩ := hd H enc n cs' _ h2
      rw [hc] at h1
      exact ⟨y, cs', h1, hk, hq⟩
    rcases Nat.eq_zero_or_pos cap with h0 | h0
    · have : len = 0 := by omega
      subst h0; subst this
      exact ⟨[], .one (.sl1 a), by simp, by simp⟩
    · have hc0 : ∀ i j, i < cap → j < Enc.n α → ∃ v, w.cell? (a.add (i * Enc.n α + j)) = some v := fun i j hi hj => by
        obtain ⟨_, cs', h1, _⟩ := hX i hi
        obtain ⟨_, _, hcell⟩ := World.cells?_some h1
        have hj' := hcell j hj
        rw [Addr.add_add] at hj'
        obtain ⟨_, hlen, _⟩ := World.cells?_some h1
        exact ⟨_, hj'.trans (List.getElem?_eq_getElem (by omega))⟩
      obtain ⟨v0, hv0⟩ := hc0 0 0 h0 hn
      rw [Nat.zero_mul, Nat.add_zero, show a.add 0 = a from rfl] at hv0
      obtain ⟨hsp, cells, el, fz, hb, _⟩ := cell_old hv0
      obtain ⟨bl, off, sp⟩ := a
      have hsp' : sp = none := hsp
      subst hsp'
      have hb' : w.heap[bl]? = some (.cells cells el fz) := hb
      have hold : Old w bl := (Array.getElem?_eq_some_iff.1 hb').1
      obtain ⟨x0, _⟩ := hX 0 h0
      haveI : Inhabited α := ⟨x0⟩
      let X : Nat → α := fun i => if hi : i < cap then (hX i hi).choose else x0
      have hX' : ∀ i, i < cap → ∃ cs', w.cells? 0 (Addr.add ⟨bl, off, none⟩ (i * Enc.n α)) (Enc.n α) = some cs' ∧ RepL w.heap (Old w) cs' (Enc.cells (X i)) ∧ Q (X i) := fun i hi => by
        simp only [X, dif_pos hi]; exact (hX i hi).choose_spec
      have hlen : ((List.range len).map X).length = len := by simp
      have hval : ∀ i j, i < cap → j < Enc.n α → ∃ v, cells[off + (i * Enc.n α + j)]? = some v ∧ ∀ t, (Enc.cells (X i))[j]? = some t → Rep w.heap (Old w) v t := fun i j hi hj => by
        obtain ⟨cs', h1, h2, _⟩ := hX' i hi
        obtain ⟨_, hl', hcell⟩ := World.cells?_some h1
        have hj' := hcell j hj
        rw [Addr.add_add, add_lit] at hj'
        have hlt : j < cs'.length := by omega
        rw [List.getElem?_eq_getElem hlt] at hj'
        obtain ⟨_, c2, e2, f2, hb2, hv2⟩ := cell_old hj'
        have hb2' : w.heap[bl]? = some (.cells c2 e2 f2) := hb2
        rw [hb'] at hb2'
        cases hb2'
        exact ⟨_, hv2, fun t ht => h2.2 j _ t (List.getElem?_eq_getElem hlt) ht⟩
      refine ⟨(List.range len).map X, .one ?_, by rw [hlen]; omega, fun x hx => ?_⟩
      · have hrl : (rowsE ((List.range len).map X)).length = len := by simp
        have hrow : ∀ (i : Nat) (r : List T), (rowsE ((List.range len).map X))[i]? = some r → i < len ∧ r = Enc.cells (X i) := fun i r hr => by
          have hi : i < len := by have := (List.getElem?_eq_some_iff.1 hr).1; omega
          refine ⟨hi, ?_⟩
          simp [rowsE, hi] at hr
          exact hr.symm
        have := Rep.sl (h := w.heap) (Z := Old w) bl off cap (Enc.n α) cells el fz (fun i j => (cells[off + (i * Enc.n α + j)]?).getD default) (rowsE ((List.range len).map X)) hold hb' (by omega)
          (fun r hr => by
            obtain ⟨i, hi, rfl⟩ := List.mem_iff_getElem.1 hr
            rw [(hrow i _ (List.getElem?_eq_getElem hi)).2]; exact Enc.len _)
          (fun i r j t hi hj => by
            obtain ⟨h1, rfl⟩ := hrow i r hi
            have hj' : j < Enc.n α := by have := (List.getElem?_eq_some_iff.1 hj).1; rwa [Enc.len] at this
            obtain ⟨v, h3, _⟩ := hval i j (by omega) hj'
            rw [h3]; rfl)
          (fun i r j t hi hj => by
            obtain ⟨h1, rfl⟩ := hrow i r hi
            have hj' : j < Enc.n α := by have := (List.getElem?_eq_some_iff.1 hj).1; rwa [Enc.len] at this
            obtain ⟨v, h3, h4⟩ := hval i j (by omega) hj'
            rw [h3]; exact h4 t hj)
        rw [hrl] at this
        exact this
      · obtain ⟨i, hi, rfl⟩ := List.mem_map.1 hx
        exact (hX' i (by have := List.mem_range.1 hi; omega)).choose_spec.2.2
theorem rd_of {Q : α → Prop} {H : Type} {enc : TypeId × Value → H} {v : Value} {dd : DataW H} {ps : List MemPlace} (h : Rdv P w t Q) (hx : DataW.Trod enc P w 0 (fun _ => true) true t v dd ps) :
    ∃ a, RepL w.heap (Old w) v.cells.toList (Enc.cells a) ∧ Q a := by
  obtain ⟨fuel, hf⟩ := hx
  exact h H enc fuel _ _ hf
theorem av_t {ob : Nat → VO} {bt : Nat → BI} {C : Nat → Prop} {h : Heap} {Z : Nat → Prop} {v : Value} {x : T} (H : RepL h Z [v] [x]) : AVRel ob bt C h Z v (.t x) := .t _ _ (H.2 0 v x rfl rfl)
theorem RelL.nil {ob : Nat → VO} {bt : Nat → BI} {C : Nat → Prop} {h : Heap} {Z : Nat → Prop} : RelL ob bt C h Z [] [] := ⟨rfl, fun k u x hu => by simp at hu⟩
theorem RelL.cons {ob : Nat → VO} {bt : Nat → BI} {C : Nat → Prop} {h : Heap} {Z : Nat → Prop} {v : Value} {a : AV} {vs : List Value} {as_ : List AV} (H : AVRel ob bt C h Z v a) (K : RelL ob bt C h Z vs as_) : RelL ob bt C h Z (v :: vs) (a :: as_) :=
  ⟨by simp [K.1], fun k u x hu hx => by
    cases k with
    | zero => simp at hu hx; subst hu; subst hx; exact H
    | succ k => exact K.2 k u x (by simpa using hu) (by simpa using hx)⟩
/-- The law, at last: it says true, and what was there stays. -/
theorem law_done {M : Nat → Bool} {G : Giv} (hm : P.follows .mixedOrders = true) (hG : GivOk P G) {f : Nat} {as_ : List AV} {vals : Array Value} (H : Ret (Rv P M G) f as_ (.t (.b true) false))
    (hv : RelL Sto.e.ob (fun _ => ⟨0, 0, 0, false⟩) (fun _ => False) w.heap (Old w) vals.toList as_) : Calls P f vals w (fun e w' => e = .returned (.bool true) ∧ Below w.heap.size w w') := by
  obtain ⟨r, σ1, h1, h2⟩ := H
  have hr : r = .t (.b true) := by
    cases r with
    | t x =>
      simp only [expR, expA, exp1, Option.map_some, Option.some.injEq, XV.t.injEq] at h2
      cases x with
      | b y => simp only [T.b.injEq] at h2; rw [h2.1]
      | _ => simp at h2
    | tup l => simp only [expR, Option.map_eq_some_iff] at h2; obtain ⟨_, _, h⟩ := h2; cases h
    | agg l => simp only [expR, expA, Option.map_map, Option.map_eq_some_iff] at h2; obtain ⟨_, _, h⟩ := h2; cases h
    | ref o v p =>
      exfalso
      simp only [expR, expA, exp1] at h2
      revert h2
      (repeat' split) <;> simp
    | ptr o off =>
      exfalso
      simp only [expR, expA, exp1] at h2
      revert h2
      (repeat' split) <;> simp
    | _ => simp [expR, expA, exp1] at h2
  subst hr
  have hO : OraOk P (Rv P M G) := R_ok drawV_go hG fun X hX => drawV_ok hm hX
  obtain ⟨_, hc⟩ := hO f as_ Sto.e _ σ1 h1
  have hR := Rel.empty w.heap (Old w) (fun b hb => hb) (fun _ => ⟨0, 0, 0, false⟩)
  refine (hc hR (fun _ _ h => h) hv).mono ?_
  rintro e w' ⟨val, rfl, ⟨β', C', Z', own', A, _, _, hval⟩, hw⟩
  have h3 := hval.tInv
  cases h3
  exact ⟨rfl, hw.1, hw.2.1, hw.2.2.1, A.good.sz, fun k hk => A.good.keep k hk rfl⟩
end Go.Proofs.YtpdpgfagklhpaaaGreat.V

namespace Go.Proofs.YtpdpgfagklhpaaaGreat.V
open Go Go.Proofs
section
variable {P : Program} {M : Nat → Bool} {G : Giv} {a b c : Code} {s : VS} {N K : VS → Prop} {X : Nat → VS → Prop}
class Nx (A : Prop) (B : outParam Prop) : Prop where
  of : B → A
instance : Nx (W P M G (.seq a b) s N X K) (W P M G a s (fun s1 => W P M G b s1 N X K) X K) := ⟨W_seq⟩
instance {id : Nat} : Nx (W P M G (.block id c) s N X K) (W P M G c s N (xb id N X) K) := ⟨W_block⟩
instance : Nx (W P M G .skip s N X K) (N s) := ⟨W_skip⟩
instance {i : Nat} : Nx (W P M G (.exit i) s N X K) (X i s) := ⟨W_exit⟩
instance : Nx (W P M G .ret s N X K) (K s) := ⟨W_ret⟩
instance {id : Nat} : Nx (xb id N X id s) (N s) := ⟨xb_hit⟩
end
theorem nx {A B : Prop} [Nx A B] (h : B) : A := Nx.of h
end Go.Proofs.YtpdpgfagklhpaaaGreat.V

namespace Go.Proofs.YtpdpgfagklhpaaaGreat.V
open Go Go.Proofs Go.RowKit Go.Shelf Go.Sort
set_option linter.unusedVariables false
/-- The sort's contract, at elements of k cells. -/
def SortCon (P : Program) (fs k : Nat) (pv : List Value → Value) : Prop :=
  (∀ (p : Option Addr) (cap : Nat) (fv : Value) (w : World), Calls P fs #[.slice p 0 cap, fv] w fun e w' => e = .returned (.tuple #[]) ∧ w' = w) ∧
  ∀ (n : Nat) [Inhabited (Fin n)] (enc : Fin n → List Value) (hk : ∀ x, (enc x).length = k) (h1 : ∀ x, ∀ v ∈ enc x, v.oneCell' = true) (cf : Fin n → Fin n → Int) (hO : SWO (ltOf cf)) (g : Nat) (blk off cap : Nat) (w : World)
    (eg : ∀ args w, (callFunc g args).run P w = .ok (.enter g args) w)
    (hcmp : ∀ (m : Nat) (os : Array Obj) (dk : Array (Fin n)), dk.size = n → ∀ x y : Fin n, Calls P g #[pv (enc x), pv (enc y)] (sortWorldK enc k w blk off m dk os) fun e w' => e = .returned (.int .i64 (cf x y)) ∧ ∃ q os', w' = grow ((sortWorldK enc k w blk off m dk os).drewN q) os')
    (hH : HoldsK enc k w blk off (Array.ofFn fun i : Fin n => i)) (hblk : blk < w.heap.size) (hsz : n < 4611686018427387904),
    Calls P fs #[.slice (some ⟨blk, off, none⟩) n cap, .func (.func g) #[] #[]] w fun e w' =>
      e = .returned (.tuple #[]) ∧ ∃ (d' : Array (Fin n)) (m : Nat) (os : Array Obj), PermIn 0 n (Array.ofFn fun i : Fin n => i) d' ∧ SortedIn (ltOf cf) 0 n d' ∧ w' = sortWorldK enc k w blk off m d' os
section
variable {P : Program} {ρ : Ren}
theorem putCells_map' {n : Nat} [Inhabited (Fin n)] (enc : Fin n → Value) (off : Nat) (dk : Array (Fin n)) : Sort.putCells enc off dk = Sort.putCells id off (dk.map enc) := by
  funext c
  unfold Sort.putCells
  apply Array.ext_getElem?
  intro t
  rw [Array.getElem?_mapIdx, Array.getElem?_mapIdx]
  cases c[t]? with
  | none => rfl
  | some y =>
    simp only [Option.map_some, Array.size_map, id]
    by_cases ht : off ≤ t ∧ t < off + dk.size
    · have h1 : t - off < dk.size := by omega
      have h2 : t - off < (dk.map enc).size := by simpa using h1
      rw [if_pos ht, if_pos ht, getElem!_pos dk _ h1, getElem!_pos (dk.map enc) _ h2, Array.getElem_map]
    · rw [if_neg ht, if_neg ht]
theorem flatK_one {n : Nat} [Inhabited (Fin n)] (enc : Fin n → List Value) (enc' : Fin n → Value) (he : ∀ x, enc x = [enc' x]) (dk : Array (Fin n)) : flatK enc 1 dk = dk.map enc' := by
  apply Array.ext_getElem?
  intro t
  by_cases ht : t < dk.size
  · have hlt : t < (flatK enc 1 dk).size := by rw [size_flatK, Nat.mul_one]; exact ht
    have e1 := getElem!_pos (flatK enc 1 dk) t hlt
    rw [Array.getElem?_eq_getElem hlt, ← e1, get_flatK _ _ _ _ (by rw [Nat.mul_one]; exact ht), Nat.div_one, Nat.mod_one, he]
    have e2 := getElem!_pos dk t ht
    rw [Array.getElem?_map, Array.getElem?_eq_getElem ht, e2]; rfl
  · rw [Array.getElem?_eq_none (by rw [size_flatK]; omega), Array.getElem?_eq_none (by simp; omega)]
theorem sortCon_1 (L : SlLaysF.n6 P ρ) : SortCon P (ρ.f 6) 1 (fun us => us.headD (.bool true)) := by
  refine ⟨fun p cap fv w => AnyF.slices_SortFunc_none { L with } p cap fv w, fun n _ enc hk h1 cf hO g blk off cap w eg hcmp hH hblk hsz => ?_⟩
  have hs : (Array.ofFn fun i : Fin n => i).size = n := by simp
  have he : ∀ x, enc x = [(enc x).headD (.bool true)] := fun x => by
    have := hk x
    match hh : enc x with
    | [] => rw [hh] at this; cases this
    | [u] => rfl
    | _ :: _ :: _ => rw [hh] at this; cases this
  have hw : ∀ m (dk : Array (Fin n)) os, sortWorldK enc 1 w blk off m dk os = sortWorld (fun x => (enc x).headD (.bool true)) w blk off m dk os := fun m dk os => by
    unfold sortWorldK sortWorld putRowK putRow
    rw [flatK_one enc _ he, ← putCells_map']
  have h := Any.slices_SortFunc L (fun x => (enc x).headD (.bool true)) (fun x => h1 x _ (by have := he x; rw [this]; simp)) cf hO g #[] blk off cap (Array.ofFn fun i : Fin n => i) w eg
    (fun m os dk hdk x y => by rw [hs] at hdk; have := hcmp m os dk hdk x y; rw [hw] at this; exact this)
    (fun t ht => by
      have := hH t (by rw [size_flatK, Nat.mul_one]; exact ht)
      rw [flatK_one enc _ he] at this
      rw [getElem!_pos _ t ht]
      rw [getElem!_pos _ t (by simpa using ht)] at this
      simpa using this) hblk (by rw [hs]; exact hsz)
  rw [hs] at h
  refine h.mono ?_
  rintro e w' ⟨rfl, d', m, os, h1, h2, h3⟩
  exact ⟨rfl, d', m, os, h1, h2, by rw [hw]; exact h3⟩
end
class EncI (α : Type) extends Enc α where
  inj : ∀ a b : α, Enc.cells a = Enc.cells b → a = b
theorem rowsE_inj {α : Type} [EncI α] : ∀ {l m : List α}, rowsE l = rowsE m → l = m
  | [], [], _ => rfl
  | [], _ :: _, h => by simp [rowsE] at h
  | _ :: _, [], h => by simp [rowsE] at h
  | a :: l, b :: m, h => by
    simp only [rowsE, List.map_cons, List.cons.injEq] at h
    rw [EncI.inj a b h.1, rowsE_inj (l := l) (m := m) h.2]
instance : EncI Int := { (inferInstance : Enc Int) with inj := fun a b h => by simpa [Enc.cells] using h }
instance {α : Type} [EncI α] : EncI (List α) := { (inferInstance : Enc (List α)) with inj := fun a b h => rowsE_inj (by simpa [Enc.cells] using h) }
theorem inj_RA (a b : RA) (h : Enc.cells a = Enc.cells b) : a = b := by
  cases a; cases b; simp [Enc.cells] at h; rw [h.1, rowsE_inj h.2]
theorem inj_Cnt (a b : Cnt) (h : Enc.cells a = Enc.cells b) : a = b := by
  cases a; cases b; simp [Enc.cells] at h; rw [h.2, rowsE_inj h.1]
instance : EncI RA := { (inferInstance : Enc RA) with inj := inj_RA }
instance : EncI Cnt := { (inferInstance : Enc Cnt) with inj := inj_Cnt }
section
variable {P : Program} {M : Nat → Bool} {G0 : Giv}
theorem expR_int {σ1 : Sto} {r : AV} {k : IntKind} {n : Int} (h2 : expR σ1 r = some (.t (.i k n) false)) : r = .t (.i k n) := by
  cases r with
  | t x =>
    simp only [expR, expA, exp1, Option.map_some, Option.some.injEq, XV.t.injEq] at h2
    cases x with
    | i k' n' => simp only at h2; rw [h2.1]
    | _ => simp at h2
  | tup l => simp only [expR, Option.map_eq_some_iff] at h2; obtain ⟨_, _, h⟩ := h2; cases h
  | agg l => simp only [expR, expA, Option.map_map, Option.map_eq_some_iff] at h2; obtain ⟨_, _, h⟩ := h2; cases h
  | ref o v p =>
    exfalso
    simp only [expR, expA, exp1] at h2
    revert h2
    (repeat' split) <;> simp
  | ptr o off =>
    exfalso
    simp only [expR, expA, exp1] at h2
    revert h2
    (repeat' split) <;> simp
  | _ => simp [expR, expA, exp1] at h2
/-- A function that reads, called in Go: its answer, and the world only grew. -/
theorem calls_grow (hm : P.follows .mixedOrders = true) (hG : GivOk P G0) {f : Nat} {as_ : List AV} {k : IntKind} {n : Int} (H : Ret (Rv P M G0) f as_ (.t (.i k n) false)) {W : World} {Z : Nat → Prop} (hz : ∀ b, Z b → b < W.heap.size) {vals : Array Value}
    (hv : RelL Sto.e.ob (fun _ => ⟨0, 0, 0, false⟩) (fun _ => False) W.heap Z vals.toList as_) :
    (∃ fn, P.funcs[f]? = some fn ∧ fn.body.isSome = true ∧ (fn.name == "runtime.NumGoroutine") = false) ∧ Calls P f vals W (fun e w' => e = .returned (.int k n) ∧ ∃ q os', w' = grow (W.drewN q) os') := by
  obtain ⟨r, σ1, h1, h2⟩ := H
  have hr := expR_int h2
  subst hr
  have hO : OraOk P (Rv P M G0) := R_ok drawV_go hG fun X hX => drawV_ok hm hX
  obtain ⟨h0, hc⟩ := hO f as_ Sto.e _ σ1 h1
  refine ⟨h0, ?_⟩
  have hR := Rel.empty W.heap Z hz (fun _ => ⟨0, 0, 0, false⟩)
  refine (hc hR (fun _ _ h => h) hv).mono ?_
  rintro e w' ⟨val, rfl, ⟨β', C', Z', own', A, _, _, hval⟩, hw⟩
  have h3 := hval.tInv
  cases h3
  refine ⟨rfl, w'.drawn - W.drawn, w'.heap.extract W.heap.size w'.heap.size, ?_⟩
  have hh : w'.heap = W.heap ++ w'.heap.extract W.heap.size w'.heap.size := by
    apply Array.ext_getElem?
    intro i
    rcases Nat.lt_or_ge i W.heap.size with hi | hi
    · rw [Array.getElem?_append_left hi, A.good.keep i hi rfl]
    · rw [Array.getElem?_append_right hi, Array.getElem?_extract]
      have := A.good.sz
      split
      · congr 1; omega
      · rw [Array.getElem?_eq_none (by omega)]
  obtain ⟨hp, tp, dr, os, out⟩ := w'
  obtain ⟨hw1, hw2, hw3, hw4⟩ := hw
  simp only at hw1 hw2 hw3 hw4 hh
  subst hw1; subst hw2; subst hw3
  simp only [grow, World.drewN]
  rw [← hh]
  congr 1
  omega
theorem heap_sortWorldK {n : Nat} [Inhabited (Fin n)] {enc : Fin n → List Value} {k : Nat} {w : World} {blk off m : Nat} {dk : Array (Fin n)} {os : Array Obj} {cur : Array Value} {e : TypeId} (hb : w.heap[blk]? = some (.cells cur e (0, 0))) :
    w.heap.size ≤ (sortWorldK enc k w blk off m dk os).heap.size ∧ (∀ b, b < w.heap.size → b ≠ blk → (sortWorldK enc k w blk off m dk os).heap[b]? = w.heap[b]?) ∧ (sortWorldK enc k w blk off m dk os).heap[blk]? = some (.cells (putCells id off (flatK enc k dk) cur) e (0, 0)) := by
  have hlt : blk < w.heap.size := (Array.getElem?_eq_some_iff.1 hb).1
  have hh : (sortWorldK enc k w blk off m dk os).heap = w.heap.modify blk (Sort.onCells (putCells id off (flatK enc k dk))) ++ os := rfl
  refine ⟨by rw [hh]; simp, fun b hbl hne => ?_, ?_⟩
  · rw [hh, Array.getElem?_append_left (by simpa using hbl), Array.getElem?_modify, if_neg (fun h => hne h.symm)]
  · rw [hh, Array.getElem?_append_left (by simpa using hlt), Array.getElem?_modify, if_pos rfl, hb]
    rfl
theorem inj_of_nodup' {β : Type} {l : List β} (h : l.Nodup) {i j : Nat} (hi : i < l.length) (hj : j < l.length) (e : l[i] = l[j]) : i = j := by
  rcases Nat.lt_trichotomy i j with h1 | h1 | h1
  · exact absurd e (List.pairwise_iff_getElem.1 h i j hi hj h1)
  · exact h1
  · exact absurd e.symm (List.pairwise_iff_getElem.1 h j i hj hi h1)
theorem ofFn_nodup' (n : Nat) : (List.ofFn (fun i : Fin n => i)).Nodup := by
  refine List.pairwise_iff_getElem.2 fun i j hi hj hij e => ?_
  simp only [List.getElem_ofFn] at e
  have := congrArg Fin.val e
  simp at this
  omega
theorem ofFn_map' {β : Type} (xs : List β) : (List.ofFn (fun i : Fin xs.length => i)).map (fun i => xs[i.val]) = xs := by
  apply List.ext_getElem
  · simp
  · intro i h1 h2
    simp
theorem one_cell {v : Value} (h : oneV v = true) : v.oneCell' = true := by cases v <;> first | rfl | cases h
end
end Go.Proofs.YtpdpgfagklhpaaaGreat.V

namespace Go.Proofs.YtpdpgfagklhpaaaGreat.V
open Go Go.Proofs
set_option linter.unusedVariables false
set_option linter.unusedSectionVars false
/-- -1, 0 or 1: by the first number that differs; a list comes before longer ones that begin with it. -/
def cmpI : List Int → List Int → Int
  | [], [] => 0
  | [], _ :: _ => -1
  | _ :: _, [] => 1
  | a :: l, b :: m => if a < b then -1 else if b < a then 1 else cmpI l m
theorem cmp_self : ∀ a : List Int, cmpI a a = 0
  | [] => rfl
  | x :: a => by rw [cmpI, if_neg (by omega), if_neg (by omega)]; exact cmp_self a
theorem cmp_trans : ∀ a b c : List Int, cmpI a b < 0 → cmpI b c < 0 → cmpI a c < 0
  | [], [], _, h, _ => by simp [cmpI] at h
  | _, _ :: _, [], _, h => by simp [cmpI] at h
  | [], _ :: _, _ :: _, _, _ => by simp [cmpI]
  | _ :: _, [], _, h, _ => by simp [cmpI] at h
  | x :: a, y :: b, z :: c, h1, h2 => by
    rw [cmpI] at h1 h2 ⊢
    split at h1
    · split at h2
      · rw [if_pos (by omega)]; omega
      · split at h2
        · omega
        · rw [if_pos (by omega)]; omega
    · split at h1
      · omega
      · split at h2
        · rw [if_pos (by omega)]; omega
        · split at h2
          · omega
          · rw [if_neg (by omega), if_neg (by omega)]; exact cmp_trans a b c h1 h2
theorem cmp_flip : ∀ a b : List Int, ¬ cmpI a b < 0 → a ≠ b → cmpI b a < 0
  | [], [], _, h => absurd rfl h
  | [], _ :: _, h, _ => by simp [cmpI] at h
  | _ :: _, [], _, _ => by simp [cmpI]
  | x :: a, y :: b, h, hne => by
    rw [cmpI] at h ⊢
    split at h
    · omega
    · split at h
      · rw [if_pos (by omega)]; omega
      · have e : x = y := by omega
        rw [if_neg (by omega), if_neg (by omega)]
        exact cmp_flip a b h (fun h' => hne (by rw [e, h']))
/-- In strictly ascending order. -/
theorem lt_dec {α : Type} (cmp : α → α → Int) (x y : α) : ltOf cmp x y = decide (cmp x y < 0) := rfl
theorem swoL : Sort.SWO (ltOf cmpI) where
  irrefl x := by rw [lt_dec, cmp_self]; rfl
  trans x y z h1 h2 := by
    rw [lt_dec, decide_eq_true_eq] at *
    exact cmp_trans x y z h1 h2
  ntrans x y z h1 h2 := by
    rw [lt_dec, decide_eq_false_iff_not] at *
    intro h3
    by_cases e : x = y
    · subst e; exact h2 h3
    · have h4 := cmp_flip x y h1 e
      exact h2 (cmp_trans y x z h4 h3)
theorem antiL (a b : List Int) (h1 : ¬ cmpI b a < 0) (h2 : ¬ cmpI a b < 0) : a = b := by
  by_cases e : a = b
  · exact e
  · exact absurd (cmp_flip a b h2 e) h1
def cmpF (a b : RA) : Int := if a.rel < b.rel then -1 else if a.rel > b.rel then 1 else cmpI a.args b.args
theorem ltF (a b : RA) : cmpF a b < 0 ↔ a.rel < b.rel ∨ a.rel = b.rel ∧ cmpI a.args b.args < 0 := by
  unfold cmpF
  by_cases h1 : a.rel < b.rel
  · rw [if_pos h1]; exact ⟨fun _ => .inl h1, fun _ => by omega⟩
  · rw [if_neg h1]
    by_cases h2 : a.rel > b.rel
    · rw [if_pos h2]; exact ⟨fun h => by omega, fun h => by omega⟩
    · rw [if_neg h2]; exact ⟨fun h => .inr ⟨by omega, h⟩, fun h => by rcases h with h | h; omega; exact h.2⟩
theorem swoF : Sort.SWO (ltOf cmpF) where
  irrefl x := by
    rw [lt_dec, decide_eq_false_iff_not, ltF]
    rintro (h | h)
    · omega
    · rw [cmp_self] at h; omega
  trans x y z h1 h2 := by
    rw [lt_dec, decide_eq_true_eq, ltF] at *
    rcases h1 with h1 | h1 <;> rcases h2 with h2 | h2
    · exact .inl (by omega)
    · exact .inl (by omega)
    · exact .inl (by omega)
    · exact .inr ⟨by omega, cmp_trans _ _ _ h1.2 h2.2⟩
  ntrans x y z h1 h2 := by
    rw [lt_dec, decide_eq_false_iff_not, ltF] at *
    rintro (h3 | h3)
    · by_cases e : x.rel = y.rel
      · exact h2 (.inl (by omega))
      · exact h1 (.inl (by have : ¬ y.rel < z.rel := fun h => h2 (.inl h); omega))
    · have a1 : ¬ x.rel < y.rel := fun h => h1 (.inl h)
      have a2 : ¬ y.rel < z.rel := fun h => h2 (.inl h)
      have e1 : x.rel = y.rel := by omega
      have e2 : y.rel = z.rel := by omega
      have b1 : ¬ cmpI x.args y.args < 0 := fun h => h1 (.inr ⟨e1, h⟩)
      have b2 : ¬ cmpI y.args z.args < 0 := fun h => h2 (.inr ⟨e2, h⟩)
      have := swoL.ntrans x.args y.args z.args (by rw [lt_dec]; exact decide_eq_false b1) (by rw [lt_dec]; exact decide_eq_false b2)
      rw [lt_dec, decide_eq_false_iff_not] at this
      exact this h3.2
/-- In order. -/
def srt {α : Type} (cmp : α → α → Int) (xs : List α) : List α := xs.mergeSort fun x y => !decide (cmp y x < 0)
section
variable {α : Type} {cmp : α → α → Int} {xs ys : List α}
theorem srt_perm : (srt cmp xs).Perm xs := List.mergeSort_perm _ _
theorem srt_sorted (hO : Sort.SWO (ltOf cmp)) : (srt cmp xs).Pairwise fun a b => ¬ cmp b a < 0 := by
  have h := List.pairwise_mergeSort (le := fun x y => !decide (cmp y x < 0)) (fun a b c h1 h2 => by
    simp only [Bool.not_eq_true', decide_eq_false_iff_not] at *
    have := hO.ntrans c b a (by rw [lt_dec]; exact decide_eq_false h2) (by rw [lt_dec]; exact decide_eq_false h1)
    rw [lt_dec, decide_eq_false_iff_not] at this
    exact this) (fun a b => by
    by_cases h1 : cmp b a < 0
    · have h2 : ¬ cmp a b < 0 := fun h2 => by
        have := hO.trans a b a (by rw [lt_dec]; exact decide_eq_true h2) (by rw [lt_dec]; exact decide_eq_true h1)
        rw [hO.irrefl] at this; cases this
      simp [h2]
    · simp [h1]) xs
  exact h.imp (fun {a b} h => by simpa using h)
theorem srt_eq (hO : Sort.SWO (ltOf cmp)) (ha : ∀ a b, a ∈ xs → b ∈ xs → ¬ cmp b a < 0 → ¬ cmp a b < 0 → a = b) (hp : ys.Perm xs) (hs : ys.Pairwise fun a b => ¬ cmp b a < 0) : ys = srt cmp xs :=
  List.Perm.eq_of_pairwise (le := fun a b => ¬ cmp b a < 0) (fun a b h1 h2 h3 h4 => ha a b (hp.mem_iff.1 h1) (srt_perm.mem_iff.1 h2) h3 h4) hs (srt_sorted hO) (hp.trans srt_perm.symm)
end
namespace AddM
variable {α β : Type} [DecidableEq β] (key : α → β) (add : α → α → α) (lt : β → β → Bool)
def ins : List α → α → List α
  | [], y => [y]
  | x :: l, y => if key x = key y then add x y :: l else x :: ins l y
variable {key add lt}
abbrev ND (key : α → β) (l : List α) : Prop := (l.map key).Nodup
theorem ins_perm {l l' : List α} (h : l.Perm l') (y : α) : ND key l → (ins key add l y).Perm (ins key add l' y) := by
  induction h with
  | nil => intro _; exact List.Perm.refl _
  | cons x hp ih =>
    intro hn
    have h' := (List.nodup_cons.mp (show (key x :: List.map key _).Nodup from hn)).2
    rw [ins, ins]; split
    · exact hp.cons _
    · exact (ih h').cons _
  | swap x x' l =>
    intro hn
    have hne : key x' ≠ key x := by
      intro e
      have := (List.nodup_cons.mp (by simpa only [ND, List.map_cons] using hn : (key x' :: key x :: l.map key).Nodup)).1
      exact this (by simp [e])
    simp only [ins]
    split
    · rename_i e
      rw [if_neg (fun e' => hne (e.trans e'.symm))]
      exact List.Perm.swap _ _ _
    · split
      · exact List.Perm.swap _ _ _
      · exact List.Perm.swap _ _ _
  | trans h1 h2 i1 i2 =>
    intro hn
    exact (i1 hn).trans (i2 ((h1.map key).nodup_iff.mp hn))
set_option linter.unusedSectionVars false
/-- Strictly ascending keys. -/
abbrev Asc (key : α → β) (lt : β → β → Bool) (l : List α) : Prop := l.Pairwise fun x y => lt (key x) (key y) = true
end AddM
end Go.Proofs.YtpdpgfagklhpaaaGreat.V

