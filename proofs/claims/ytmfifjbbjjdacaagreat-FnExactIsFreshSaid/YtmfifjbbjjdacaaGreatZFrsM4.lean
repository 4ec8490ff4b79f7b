/- Several texts in one: what the claim needs of them. Conditions: each declaration's own. -/
import Derived.Test.YtmfifjbbjjdacaaGreatZFrsM3
namespace Go.Proofs.YtmfifjbbjjdacaaGreat.V
open Go
set_option linter.unusedVariables false
set_option linter.unusedSimpArgs false
variable {P : Program} {M : Nat → Bool} {X : Ora}
theorem dk_cases (o : Oper) : dk o = 0 ∨ dk o = 1 ∨ dk o = 2 ∨ dk o = 3 := by
  unfold dk
  split <;> (try split) <;> simp
theorem Mv.off {ob ob' : Nat → VO} {β : Nat → BI} {C : Nat → Prop} {h : Heap} {Z : Nat → Prop} {own : Nat → Option Nat} (R : Rel ob β C h Z own) (h1 : ∀ o, C o → ob' o = ob o) (h2 : ∀ o, ¬ C o → ob' o = .dead ∨ Pend (ob' o)) : Mv ob β C h Z own ob' β C h Z own := by
  have hevo : ∀ o, C o → C o ∧ Evo (ob o) (β o) h (ob' o) (β o) h := fun o ho => by
    rw [h1 o ho]; exact ⟨ho, .same fun _ _ _ _ _ ha => ha⟩
  have hAV : ∀ v a, AVRel ob β C h Z v a → AVRel ob' β C h Z v a := fun v a => AVRel.mono (fun b hb => ⟨hb, rfl⟩) hevo
  exact ⟨⟨R.own_lt, R.zlt, fun o ho => ObjRel.mono (h1 o ho) rfl (fun b hb => ⟨hb, rfl⟩) (fun b hb => ⟨hb, rfl⟩) hAV (R.objs o ho), h2⟩, .refl _ _ _, hevo⟩
section
variable {σ0 : Sto} {β0 : Nat → BI} {C0 : Nat → Prop} {h0 : World} {Z0 : Nat → Prop} {own0 : Nat → Option Nat}
theorem InvU.mono {U U' : Nat → Prop} {s : VS} {a : Act} {w : World} (I : InvU σ0 β0 C0 h0 Z0 own0 U s a w) (h : ∀ o, U' o → U o) : InvU σ0 β0 C0 h0 Z0 own0 U' s a w := by
  obtain ⟨β, C, Z, own, A, hC, hn, hT, hsz, hdf, hU⟩ := I
  exact ⟨β, C, Z, own, A, hC, hn, hT, hsz, hdf, fun o ho => hU o (h o ho)⟩
theorem lastC (c : Nat → Prop) [DecidablePred c] (a : Nat) : ∀ b, a ≤ b → (∃ j, a ≤ j ∧ j < b ∧ c j ∧ ∀ j', j < j' → j' < b → ¬ c j') ∨ ∀ j, a ≤ j → j < b → ¬ c j
  | 0, _ => .inr fun j _ h => by omega
  | b + 1, hab => by
    by_cases e : a = b + 1
    · exact .inr fun j h1 h2 => by omega
    · by_cases hc : c b
      · exact .inl ⟨b, by omega, by omega, hc, fun j' h1 h2 => by omega⟩
      · rcases lastC c a b (by omega) with ⟨j, h1, h2, h3, h4⟩ | h
        · exact .inl ⟨j, h1, by omega, h3, fun j' h5 h6 => by
            by_cases e : j' = b
            · subst e; exact hc
            · exact h4 j' h5 (by omega)⟩
        · exact .inr fun j h1 h2 => by
            by_cases e : j = b
            · subst e; exact hc
            · exact h j h1 (by omega)
theorem firstC (c : Nat → Prop) [DecidablePred c] (a : Nat) : ∀ b, a ≤ b → (∃ j, a ≤ j ∧ j < b ∧ c j ∧ ∀ j', a ≤ j' → j' < j → ¬ c j') ∨ ∀ j, a ≤ j → j < b → ¬ c j
  | 0, _ => .inr fun j _ h => by omega
  | b + 1, hab => by
    by_cases e : a = b + 1
    · exact .inr fun j h1 h2 => by omega
    · rcases firstC c a b (by omega) with ⟨j, h1, h2, h3, h4⟩ | h
      · exact .inl ⟨j, h1, by omega, h3, h4⟩
      · by_cases hc : c b
        · exact .inl ⟨b, by omega, by omega, hc, fun j' h5 h6 => h j' h5 h6⟩
        · exact .inr fun j h1 h2 => by
            by_cases e : j = b
            · subst e; exact hc
            · exact h j h1 (by omega)
structure Setup (P : Program) (M : Nat → Bool) (X : Ora) (ops : Array Oper) (bf : Nat → Nat → Bool) (rs : List (Nat × Nat × VO)) (s : VS) (σ1 : Sto) (S : Nat → VS) : Prop where
  W : Stat ops bf
  tr : ∀ j o, ops[j]? = some o → Tr (stepV P M X ops) bf rs ops.toList s.σ.n S j o
  zero : S 0 = s.on σ1
  rs : ResOk P ops.toList 0 s.σ rs σ1
def chgAt (ops : Array Oper) (j : Nat) : Prop := ((ops[j]?).map dk) = some 2
instance (ops : Array Oper) : DecidablePred (chgAt ops) := fun j => by unfold chgAt; infer_instance
variable {ops : Array Oper} {bf : Nat → Nat → Bool} {rs : List (Nat × Nat × VO)} {s : VS} {σ1 : Sto} {S : Nat → VS}
theorem dstOf_eq {j : Nat} {o : Oper} (h : ops[j]? = some o) : dstOf ops.toList j = o.dst := by
  unfold dstOf; rw [Array.getElem?_toList, h]; rfl
theorem Setup.tm (Y : Setup P M X ops bf rs s σ1 S) {j : Nat} {o : Oper} (h : ops[j]? = some o) : (S (j + 1)).nt = (S j).nt ∧ ∀ t, o.dst ≠ some t → (S (j + 1)).tm t = (S j).tm t := by
  have T := Y.tr j o h
  by_cases hk : dk o = 3
  · have := putV_facts (T.res hk); exact ⟨this.1, this.2.2.1⟩
  · exact step_facts (T.step hk)
theorem Setup.nt (Y : Setup P M X ops bf rs s σ1 S) : ∀ j, j ≤ ops.size → (S j).nt = s.nt
  | 0, _ => by rw [Y.zero]; rfl
  | j + 1, h => by rw [(Y.tm (Array.getElem?_eq_getElem (show j < ops.size by omega))).1]; exact Y.nt j (by omega)
theorem Setup.same (Y : Setup P M X ops bf rs s σ1 S) (a : Nat) : ∀ b, a ≤ b → b ≤ ops.size → (∀ j, a ≤ j → j < b → ¬ chgAt ops j) → (S b).σ = (S a).σ
  | 0, h1, h2, h3 => by have : a = 0 := by omega
                        subst this; rfl
  | b + 1, h1, h2, h3 => by
    by_cases e : a = b + 1
    · subst e; rfl
    · have hb : ops[b]? = some ops[b] := Array.getElem?_eq_getElem (show b < ops.size by omega)
      rw [← Y.same a b (by omega) (by omega) fun j h4 h5 => h3 j h4 (by omega)]
      have T := Y.tr b _ hb
      have hn := h3 b (by omega) (by omega)
      unfold chgAt at hn
      rw [hb] at hn
      rcases dk_cases ops[b] with hk | hk | hk | hk
      · exact step_look (.inl hk) (T.step (by omega))
      · exact step_look (.inr hk) (T.step (by omega))
      · exact absurd (by simp [hk]) hn
      · exact (putV_facts (T.res hk)).2.1
/-- What holds when the set p has been done. -/
structure Jp (σ0 : Sto) (β0 : Nat → BI) (C0 : Nat → Prop) (h0 : World) (Z0 : Nat → Prop) (own0 : Nat → Option Nat) (ops : Array Oper) (rs : List (Nat × Nat × VO)) (s : VS) (S : Nat → VS) (p : Nat → Bool) (a : Act) (w : World) : Prop where
  cl : ∀ j o, ops[j]? = some o → p j = true → ∀ e ∈ o.after, Region.binds .any e = true → p e.on = true
  st : ∃ m, m ≤ ops.size ∧ (∀ j, j < m → chgAt ops j → p j = true) ∧ (∀ j, m ≤ j → chgAt ops j → p j = false) ∧ InvU σ0 β0 C0 h0 Z0 own0 (fun k => ∃ r ∈ rs, p r.1 = false ∧ r.2.1 = k) ⟨s.nt, FT S ops.toList p ops.size, (S m).σ⟩ a w
theorem Jp.done (Y : Setup P M X ops bf rs s σ1 S) {p : Nat → Bool} {a : Act} {w : World} (J : Jp σ0 β0 C0 h0 Z0 own0 ops rs s S p a w) (hp : ∀ j, j < ops.size → p j = true) : Inv σ0 β0 C0 h0 Z0 own0 (S ops.size) a w := by
  obtain ⟨m, hm, h1, h2, I⟩ := J.st
  have e1 : (S ops.size).σ = (S m).σ := Y.same m ops.size hm (Nat.le_refl _) fun j h3 h4 hc => by
    have h5 := h2 j h3 hc
    rw [hp j h4] at h5; cases h5
  have e2 : FT S ops.toList p ops.size = (S ops.size).tm := funext fun t => by
    rw [FT_ext (q := fun _ => true) ops.size fun j hj _ => hp j hj]
    refine FT_all ops.size fun j hj hd => ?_
    have hb : ops[j]? = some ops[j] := Array.getElem?_eq_getElem hj
    exact (Y.tm hb).2 t (by rw [← dstOf_eq hb]; exact hd)
  have e3 := Y.nt ops.size (Nat.le_refl _)
  rw [e2, ← e1, ← e3] at I
  exact I.inv
theorem Jp.step (Y : Setup P M X ops bf rs s σ1 S) (hX : OraOk P X) (hf0 : ∀ o, σ0.n ≤ o → ¬ C0 o) {p : Nat → Bool} {a : Act} {w : World} (J : Jp σ0 β0 C0 h0 Z0 own0 ops rs s S p a w) {i : Nat} {o : Oper} (ho : ops[i]? = some o) (hpi : p i = false)
    (he : ∀ e ∈ o.after, Region.binds .any e = true → p e.on = true) {K : Act → World → Prop} {Q : Exit → Act → World → Prop} (hK : ∀ a' w', Jp σ0 β0 C0 h0 Z0 own0 ops rs s S (fun j => p j || j == i) a' w' → K a' w') : wpOp P ops Q i K a w := by
  obtain ⟨m, hm, hm1, hm2, I⟩ := J.st
  have hin : i < ops.size := (Array.getElem?_eq_some_iff.1 ho).1
  have T := Y.tr i o ho
  have hpre : ∀ j, j < i → bf j i = true → p j = true := Y.W.down J.cl i o ho he
  have hpost : ∀ j, i < j → j < ops.size → p j = true → bf i j = false := fun j h1 h2 h3 => by
    cases hb : bf i j with
    | false => rfl
    | true =>
      have hj : ops[j]? = some ops[j] := Array.getElem?_eq_getElem h2
      have := Y.W.down J.cl j _ hj (J.cl j _ hj h3) i h1 hb
      rw [hpi] at this; cases this
  have hcl : ∀ j o', ops[j]? = some o' → (p j || j == i) = true → ∀ e ∈ o'.after, Region.binds .any e = true → (p e.on || e.on == i) = true := by
    intro j o' hj hp e h1 h2
    rw [Bool.or_eq_true] at hp ⊢
    rcases hp with hp | hp
    · exact .inl (J.cl j o' hj hp e h1 h2)
    · have : j = i := by simpa using hp
      subst this; rw [ho] at hj; cases hj; exact .inl (he e h1 h2)
  have hlook : ∀ t ∈ o.looksAt ops, (S i).tm t = FT S ops.toList p ops.size t := by
    intro t ht
    rw [FT_past (a := i) ops.size (by omega) fun j h1 h2 h3 hd => by
      have hne : j ≠ i := fun e => by subst e; rw [hpi] at h3; cases h3
      have hj : ops[j]? = some ops[j] := Array.getElem?_eq_getElem h2
      have hap := Oper.apart_spec (Y.W.apart i j o _ ho hj (by omega) (hpost j (by omega) h2 h3))
      rw [dstOf_eq hj] at hd
      exact hap.2.2 t hd ht]
    rw [FT_ext (q := fun _ => true) i fun j h1 hd => by
      have hj : ops[j]? = some ops[j] := Array.getElem?_eq_getElem (by omega)
      cases hpj : p j with
      | true => rfl
      | false =>
        exfalso
        have hb : bf j i = false := by
          cases hb : bf j i with
          | false => rfl
          | true => rw [hpre j h1 hb] at hpj; cases hpj
        have hap := Oper.apart_spec (Y.W.apart j i _ o hj ho h1 hb)
        rw [dstOf_eq hj] at hd
        exact hap.1 t hd ht]
    refine (FT_all i fun j h1 hd => ?_).symm
    have hj : ops[j]? = some ops[j] := Array.getElem?_eq_getElem (by omega)
    exact (Y.tm hj).2 t (by rw [← dstOf_eq hj]; exact hd)
  have hadd : ∀ t, FT S ops.toList (fun j => p j || j == i) ops.size t = if o.dst = some t then (S (i + 1)).tm t else FT S ops.toList p ops.size t := fun t => by
    rw [FT_add hin fun j h1 h2 h3 hd hd2 => by
      have hj : ops[j]? = some ops[j] := Array.getElem?_eq_getElem h2
      have hap := Oper.apart_spec (Y.W.apart i j o _ ho hj h1 (hpost j h1 h2 h3))
      rw [dstOf_eq ho] at hd
      rw [dstOf_eq hj] at hd2
      exact hap.2.1 t hd hd2, dstOf_eq ho]
  have hUsub : ∀ k, (∃ r ∈ rs, (p r.1 || r.1 == i) = false ∧ r.2.1 = k) → ∃ r ∈ rs, p r.1 = false ∧ r.2.1 = k := by
    rintro k ⟨r, h1, h2, h3⟩
    rw [Bool.or_eq_false_iff] at h2
    exact ⟨r, h1, h2.1, h3⟩
  have fin : ∀ (m' : Nat) (σ' : Sto), stepV P M X ops ⟨s.nt, (S i).tm, (S m).σ⟩ o = some ⟨s.nt, (S (i + 1)).tm, σ'⟩ → (S m').σ = σ' → m' ≤ ops.size → (∀ j, j < m' → chgAt ops j → (p j || j == i) = true) → (∀ j, m' ≤ j → chgAt ops j → (p j || j == i) = false) → wpOp P ops Q i K a w := by
    intro m' σ' hst hσ h1 h2 h3
    have hst2 := step_congr hst hlook
    have hfe : (fun t => if o.dst = some t then (S (i + 1)).tm t else FT S ops.toList p ops.size t) = FT S ops.toList (fun j => p j || j == i) ops.size := funext fun t => (hadd t).symm
    simp only [hfe] at hst2
    have := stepU (K := K) (Q := Q) hX hf0 I hst2 fun a' w' I' => hK a' w' ⟨hcl, m', h1, h2, h3, by rw [hσ]; exact I'.mono hUsub⟩
    unfold wpOp
    rw [ho]
    simp only
    split
    · rename_i hw; rw [if_pos hw] at this; exact .inl this
    · rename_i hw; rw [if_neg hw] at this; exact this
  have hS : ∀ σ, (S i).on σ = ⟨s.nt, (S i).tm, σ⟩ := fun σ => by unfold VS.on; rw [Y.nt i (by omega)]
  have hS1 : ∀ σ, (S (i + 1)).on σ = ⟨s.nt, (S (i + 1)).tm, σ⟩ := fun σ => by unfold VS.on; rw [Y.nt (i + 1) (by omega)]
  have hchg : ∀ {j : Nat}, chgAt ops j → ∃ oj, ops[j]? = some oj ∧ dk oj = 2 ∧ j < ops.size := by
    intro j hc
    unfold chgAt at hc
    rw [Option.map_eq_some_iff] at hc
    obtain ⟨oj, h1, h2⟩ := hc
    exact ⟨oj, h1, h2, (Array.getElem?_eq_some_iff.1 h1).1⟩
  rcases dk_cases o with hk | hk | hk | hk
  · have h1 := step_pure hk (T.step (by omega)) (S m).σ
    rw [hS, hS1] at h1
    have hni : ¬ chgAt ops i := fun hc => by obtain ⟨oj, h2, h3, _⟩ := hchg hc; rw [ho] at h2; cases h2; omega
    refine fin m _ h1 rfl hm (fun j h2 h3 => by rw [hm1 j h2 h3]; rfl) fun j h2 h3 => ?_
    have : j ≠ i := fun e => hni (e ▸ h3)
    rw [hm2 j h2 h3]; simpa using this
  · have hni : ¬ chgAt ops i := fun hc => by obtain ⟨oj, h2, h3, _⟩ := hchg hc; rw [ho] at h2; cases h2; omega
    have hsame : stepV P M X ops ((S i).on (S i).σ) o = some ((S (i + 1)).on (S i).σ) := by
      have h2 := T.step (by omega)
      have h3 := step_look (.inr hk) h2
      show stepV P M X ops (S i) o = some _
      rw [h2, ← h3]; rfl
    have h1 : stepV P M X ops ((S i).on (S m).σ) o = some ((S (i + 1)).on (S m).σ) := by
      rcases Nat.lt_or_ge i m with hlt | hge
      · rcases lastC (chgAt ops) i m (by omega) with ⟨j, h2, h3, h4, h5⟩ | h2
        · obtain ⟨oj, h6, h7, h8⟩ := hchg h4
          have hne : j ≠ i := fun e => hni (e ▸ h4)
          have e1 : (S m).σ = (S (j + 1)).σ := Y.same (j + 1) m (by omega) hm fun j' h9 h10 => h5 j' (by omega) h10
          rw [e1]
          rcases (Y.tr j oj h6).pd h7 i o (by omega) (by rw [Array.getElem?_toList]; exact ho) hk with h9 | h9
          · rw [hpost j (by omega) h8 (hm1 j h3 h4)] at h9; cases h9
          · exact h9
        · rw [Y.same i m (by omega) hm h2]; exact hsame
      · rcases firstC (chgAt ops) m i hge with ⟨j, h2, h3, h4, h5⟩ | h2
        · obtain ⟨oj, h6, h7, h8⟩ := hchg h4
          have e1 : (S j).σ = (S m).σ := Y.same m j h2 (by omega) h5
          rw [← e1]
          rcases T.hs hk j oj h3 (by rw [Array.getElem?_toList]; exact h6) h7 with h9 | h9
          · have := hpre j h3 h9
            rw [hm2 j h2 h4] at this; cases this
          · exact h9
        · rw [← Y.same m i hge (by omega) h2]; exact hsame
    rw [hS, hS1] at h1
    refine fin m _ h1 rfl hm (fun j h2 h3 => by rw [hm1 j h2 h3]; rfl) fun j h2 h3 => ?_
    have : j ≠ i := fun e => hni (e ▸ h3)
    rw [hm2 j h2 h3]; simpa using this
  · have hci : chgAt ops i := by unfold chgAt; rw [ho]; simp [hk]
    have hlt : ∀ j, j < i → chgAt ops j → p j = true := fun j h1 h2 => by
      obtain ⟨oj, h3, h4, _⟩ := hchg h2
      exact hpre j h1 (Y.W.chg j i oj o h3 ho h1 h4 hk)
    have hgt : ∀ j, i < j → chgAt ops j → p j = false := fun j h1 h2 => by
      obtain ⟨oj, h3, h4, h5⟩ := hchg h2
      cases hpj : p j with
      | false => rfl
      | true =>
        have h6 := hpost j h1 h5 hpj
        rw [Y.W.chg i j o oj ho h3 h1 hk h4] at h6; cases h6
    have hmi : m ≤ i := by
      rcases Nat.lt_or_ge i m with h | h
      · have := hm1 i h hci; rw [hpi] at this; cases this
      · exact h
    have e1 : (S i).σ = (S m).σ := Y.same m i hmi (by omega) fun j h1 h2 h3 => by
      have h4 := hm2 j h1 h3
      rw [hlt j h2 h3] at h4; cases h4
    have h1 := T.step (by omega)
    have h2 : stepV P M X ops ((S i).on (S m).σ) o = some ((S (i + 1)).on (S (i + 1)).σ) := by rw [← e1]; exact h1
    rw [hS, hS1] at h2
    refine fin (i + 1) _ h2 rfl (by omega) (fun j h3 h4 => ?_) fun j h3 h4 => ?_
    · by_cases e : j = i
      · subst e; simp
      · rw [hlt j (by omega) h4]; rfl
    · have : j ≠ i := by omega
      rw [hgt j (by omega) h4]; simpa using this
  · obtain ⟨x, hx1, hx2⟩ := Y.rs.has i o (by rw [Array.getElem?_toList]; exact ho) hk
    rw [Nat.zero_add] at hx1
    have hob : (S m).σ.ob (rid ops.toList s.σ.n i) = x := by
      rcases lastC (chgAt ops) 0 m (Nat.zero_le _) with ⟨j, _, h3, h4, h5⟩ | h2
      · obtain ⟨oj, h6, h7, h8⟩ := hchg h4
        rw [Y.same (j + 1) m (by omega) hm fun j' h9 h10 => h5 j' (by omega) h10]
        rcases (Y.tr j oj h6).rs h7 _ hx1 with h9 | h9
        · rw [Bool.and_eq_true] at h9
          have h10 : i < j := by simpa using h9.1
          have h11 : bf i j = true := h9.2
          rw [hpost j h10 h8 (hm1 j h3 h4)] at h11; cases h11
        · exact h9
      · rw [Y.same 0 m (Nat.zero_le _) hm h2, Y.zero]
        exact (Y.rs.mem _ hx1).2.2
    have h1 := T.res hk
    have hput : putV ⟨s.nt, FT S ops.toList p ops.size, (S m).σ⟩ o.dst (rv o (rid ops.toList s.σ.n i)) (S m).σ = some ⟨s.nt, FT S ops.toList (fun j => p j || j == i) ops.size, (S m).σ⟩ := by
      obtain ⟨h2, h3, h4, h5⟩ := putV_facts h1
      unfold putV
      cases hd : o.dst with
      | none =>
        simp only [Option.some.injEq, VS.mk.injEq, true_and, and_true]
        funext t; rw [hadd t, hd]; simp
      | some d =>
        have h6 := h5 d hd
        rw [Y.nt i (by omega)] at h6
        simp only
        rw [if_pos h6.2]
        simp only [Option.some.injEq, VS.mk.injEq, true_and, and_true]
        funext t; rw [hadd t, hd]
        by_cases e : t = d
        · subst e; rw [upd_same]; simp [h6.1]
        · rw [upd_ne _ _ e, if_neg (fun h => e (Option.some.inj h).symm)]
    obtain ⟨hg, hwp⟩ := resU (Q := Q) (K := K) hk hx2 I ⟨_, hx1, hpi, rfl⟩ hob hput fun a' w' I' => hK a' w' ⟨hcl, m, hm, fun j h2 h3 => by rw [hm1 j h2 h3]; rfl, fun j h2 h3 => by
        have : j ≠ i := fun e => by subst e; obtain ⟨oj, h6, h7, h8⟩ := hchg h3; rw [ho] at h6; cases h6; omega
        rw [hm2 j h2 h3]; simpa using this, I'.mono fun k hk2 => ⟨hUsub k hk2, fun e => by
          obtain ⟨r, h2, h3, h4⟩ := hk2
          have := Y.rs.inj r h2 _ hx1 (by rw [h4, e])
          subst this
          simp at h3⟩⟩
    unfold wpOp
    rw [ho]
    simp only
    rw [if_pos (by simp [Region.wanted, hg])]
    exact .inl hwp
end
end Go.Proofs.YtmfifjbbjjdacaaGreat.V

namespace Go.Proofs.YtmfifjbbjjdacaaGreat.V
open Go
set_option linter.unusedVariables false
set_option linter.unusedSimpArgs false
open Classical in
/-- The answer that comes at last. -/
noncomputable def Lim {α : Type} (g : Nat → Option α) : Option α := if h : ∃ k r, g k = some r then some (h.choose_spec.choose) else none
theorem Lim_iff {α : Type} {g : Nat → Option α} (hm : ∀ k r, g k = some r → ∀ j, k ≤ j → g j = some r) (r : α) : Lim g = some r ↔ ∃ k, g k = some r := by
  unfold Lim
  constructor
  · intro h
    split at h
    · rename_i hex
      simp only [Option.some.injEq] at h
      subst h
      exact ⟨_, hex.choose_spec.choose_spec⟩
    · cases h
  · rintro ⟨k, hk⟩
    have hex : ∃ k r, g k = some r := ⟨k, r, hk⟩
    rw [dif_pos hex]
    have h1 := hex.choose_spec.choose_spec
    have h2 := hm _ _ h1 (max hex.choose k) (Nat.le_max_left _ _)
    have h3 := hm _ _ hk (max hex.choose k) (Nat.le_max_right _ _)
    rw [h2] at h3
    exact h3
def Ole (X Y : Ora) : Prop := ∀ f a σ r, X f a σ = some r → Y f a σ = some r
/-- Drawn regions go with the oracle. -/
structure DGo (D : Ora → Drw) : Prop where
  mono : ∀ X Y, Ole X Y → ∀ ops s r, D X ops s = some r → D Y ops s = some r
  cont : ∀ (X : Nat → Ora) (Y : Ora), (∀ j k, j ≤ k → Ole (X j) (X k)) → (∀ f a σ r, Y f a σ = some r → ∃ k, X k f a σ = some r) → ∀ ops s r, D Y ops s = some r → ∃ k, D (X k) ops s = some r
section
variable {P : Program} {M : Nat → Bool} {X Y : Ora}
theorem callV_mono (hXY : Ole X Y) {σ : Sto} {f : Nat} {args : List AV} {r : AV × Sto} (H : callV M X σ f args = some r) : callV M Y σ f args = some r := by
  unfold callV at H ⊢
  split
  · rename_i hm
    rw [if_pos hm] at H
    split at H
    · rename_i r1 σ1 hx
      rw [hXY _ _ _ _ hx]; exact H
    · cases H
  · rename_i hm
    rw [if_neg hm] at H
    split at H
    · rename_i as_ has
      split at H
      · rename_i r1 σ1 hx
        simp only [hXY _ _ _ _ hx]; exact H
      · cases H
    · cases H
theorem opV_mono (hXY : Ole X Y) {tm : Nat → AV} {σ : Sto} {o : Oper} {r : AV × Sto} (H : opV P M X tm σ o = some r) : opV P M Y tm σ o = some r := by
  cases ho : o.op with
  | call c =>
    simp only [opV, ho] at H ⊢
    split at H
    · rename_i as_ has
      cases hc : c.callee with
      | value f =>
        rw [hc] at H
        simp only at H ⊢
        split at H
        · rename_i g caps hg
          exact callV_mono hXY H
        · cases H
      | invoke rr m => rw [hc] at H; simp only at H; cases H
      | builtin b => rw [hc] at H; cases b <;> exact H
    · cases H
  | unOp u t x => simp only [opV, ho] at H ⊢; cases u <;> exact H
  | makeFunc f first caps => simp only [opV, ho] at H ⊢; cases f <;> exact H
  | _ => simp only [opV, ho] at H ⊢; exact H
theorem stepV_mono (hXY : Ole X Y) {ops : Array Oper} {s s' : VS} {o : Oper} (H : stepV P M X ops s o = some s') : stepV P M Y ops s o = some s' := by
  unfold stepV at H ⊢
  split at H
  · split at H
    · rename_i v σ h1
      rw [opV_mono hXY h1]; exact H
    · cases H
  · exact H
  · cases H
theorem opsV_mono (hXY : Ole X Y) {ops : Array Oper} : ∀ (l : List Oper) {s s' : VS}, opsV P M X ops l s = some s' → opsV P M Y ops l s = some s'
  | [], s, s', H => H
  | o :: l, s, s', H => by
    simp only [opsV] at H ⊢
    split at H
    · rename_i s1 h1
      rw [stepV_mono hXY h1]; exact opsV_mono hXY l H
    · cases H
theorem loopV_mono {f g : VS → Option (VX × VS)} (hfg : ∀ s r, f s = some r → g s = some r) : ∀ (n m : Nat) {s : VS} {r : VX × VS}, n ≤ m → loopV f n s = some r → loopV g m s = some r
  | 0, m, s, r, _, H => by cases H
  | n + 1, m, s, r, hnm, H => by
    obtain ⟨m, rfl⟩ : ∃ k, m = k + 1 := ⟨m - 1, by omega⟩
    simp only [loopV] at H ⊢
    split at H
    · rename_i s1 h1
      rw [hfg _ _ h1]; exact loopV_mono hfg n m (by omega) H
    · rename_i hne
      rw [hfg _ _ H]
      cases r with
      | mk x s1 =>
        cases x with
        | normal => exact absurd H (hne s1)
        | exit id => rfl
        | ret => rfl
theorem execV_mono {D : Ora → Drw} (hD : DGo D) (hXY : Ole X Y) {n m : Nat} (hnm : n ≤ m) : ∀ (c : Code) {s : VS} {r : VX × VS}, execV P M D X n c s = some r → execV P M D Y m c s = some r := by
  intro c
  induction c with
  | region id ops draw =>
    intro s r H
    cases draw with
    | false =>
      simp only [execV, Option.map_eq_some_iff] at H ⊢
      obtain ⟨s1, h1, h2⟩ := H
      exact ⟨s1, opsV_mono hXY _ h1, h2⟩
    | true =>
      simp only [execV, Option.map_eq_some_iff] at H ⊢
      obtain ⟨s1, h1, h2⟩ := H
      exact ⟨s1, hD.mono X Y hXY _ _ _ h1, h2⟩
  | seq a b iha ihb =>
    intro s r H
    simp only [execV] at H ⊢
    split at H
    · rename_i s1 h1
      rw [iha h1]; exact ihb H
    · rename_i hne
      rw [iha H]
      cases r with
      | mk x s1 =>
        cases x with
        | normal => exact absurd H (hne s1)
        | exit id => rfl
        | ret => rfl
  | cond c a b iha ihb =>
    intro s r H
    simp only [execV] at H ⊢
    cases hc : evalO s.tm c with
    | none => rw [hc] at H; cases H
    | some v =>
      rw [hc] at H
      cases v with
      | t y => cases y with
        | b x => cases x with
          | true => exact iha H
          | false => exact ihb H
        | _ => cases H
      | _ => cases H
  | block id c ih =>
    intro s r H
    simp only [execV] at H ⊢
    split at H
    · rename_i id' s1 h1
      rw [ih h1]; exact H
    · rename_i hne
      rw [ih H]
      cases r with
      | mk x s1 =>
        cases x with
        | normal => rfl
        | exit id => exact absurd H (hne id s1)
        | ret => rfl
  | loop c ih =>
    intro s r H
    simp only [execV] at H ⊢
    exact loopV_mono (fun s r h => ih h) n m hnm H
  | _ => intro s r H; exact H
theorem bodyV_mono {D : Ora → Drw} (hD : DGo D) (hXY : Ole X Y) {n m : Nat} (hnm : n ≤ m) {fn : Func} {c : Code} {args : List AV} {σ : Sto} {r : AV × Sto} (H : bodyV P M D X n fn c args σ = some r) : bodyV P M D Y m fn c args σ = some r := by
  unfold bodyV at H ⊢
  split
  · rename_i hle
    rw [if_pos hle] at H
    split at H
    · rename_i s h1; simp only [execV_mono hD hXY hnm c h1]; exact H
    · rename_i s h1; simp only [execV_mono hD hXY hnm c h1]; exact H
    · cases H
  · rename_i hle; rw [if_neg hle] at H; cases H
theorem runV_succ {D : Ora → Drw} (hD : DGo D) (G : Giv) : ∀ k, Ole (runV P M D G k) (runV P M D G (k + 1))
  | 0 => fun f a σ r H => by cases H
  | k + 1 => fun f a σ r H => by
    have ih := runV_succ hD G k
    simp only [runV] at H ⊢
    split at H
    · exact H
    · split at H
      · split at H
        · cases H
        · rename_i hn
          rw [if_neg hn]
          split at H
          · exact bodyV_mono hD ih (Nat.le_succ k) H
          · cases H
      · cases H
theorem runV_mono {D : Ora → Drw} (hD : DGo D) (G : Giv) (j k : Nat) (h : j ≤ k) : Ole (runV P M D G j) (runV P M D G k) := by
  induction k with
  | zero => have : j = 0 := by omega
            subst this; exact fun f a σ r H => H
  | succ k ih =>
    rcases Nat.lt_or_ge j (k + 1) with h1 | h1
    · exact fun f a σ r H => runV_succ hD G k f a σ r (ih (by omega) f a σ r H)
    · have : j = k + 1 := by omega
      subst this; exact fun f a σ r H => H
end
section
variable (P : Program) (M : Nat → Bool) (D : Ora → Drw) (G : Giv)
/-- What a function answers. -/
noncomputable def R : Ora := fun f a σ => Lim fun k => runV P M D G k f a σ
/-- What a piece of code comes to. -/
noncomputable def E (c : Code) (s : VS) : Option (VX × VS) := Lim fun k => execV P M D (runV P M D G k) k c s
variable {P M D G} (hD : DGo D)
include hD
theorem R_iff {f : Nat} {a : List AV} {σ : Sto} {r : AV × Sto} : R P M D G f a σ = some r ↔ ∃ k, runV P M D G k f a σ = some r :=
  Lim_iff (fun k r hk j hj => runV_mono hD G k j hj f a σ r hk) r
theorem E_iff {c : Code} {s : VS} {r : VX × VS} : E P M D G c s = some r ↔ ∃ k, execV P M D (runV P M D G k) k c s = some r :=
  Lim_iff (fun k r hk j hj => execV_mono hD (runV_mono hD G k j hj) hj c hk) r
theorem R_ok (hG : GivOk P G) (hDo : ∀ X, OraOk P X → DrwOk P X (D X)) : OraOk P (R P M D G) := by
  intro f a σ r σ' H
  obtain ⟨k, hk⟩ := (R_iff hD).1 H
  exact runV_ok hG hDo k f a σ r σ' hk
theorem R_le (k : Nat) : Ole (runV P M D G k) (R P M D G) := fun f a σ r H => (R_iff hD).2 ⟨k, H⟩
omit hD in
theorem eq_of_iff {α : Type} {x y : Option α} (h : ∀ r, x = some r ↔ y = some r) : x = y := by
  cases x with
  | none =>
    cases y with
    | none => rfl
    | some r => exact ((h r).2 rfl)
  | some r => exact ((h r).1 rfl).symm
theorem callV_cont {σ : Sto} {f : Nat} {args : List AV} {r : AV × Sto} (H : callV M (R P M D G) σ f args = some r) : ∃ k, callV M (runV P M D G k) σ f args = some r := by
  unfold callV at H ⊢
  split at H
  · rename_i hm
    simp only [hm, if_true]
    split at H
    · rename_i r1 σ1 hx
      obtain ⟨k, hk⟩ := (R_iff hD).1 hx
      exact ⟨k, by rw [hk]; exact H⟩
    · cases H
  · rename_i hm
    simp only [hm, if_false, Bool.false_eq_true]
    split at H
    · rename_i as_ has
      split at H
      · rename_i r1 σ1 hx
        obtain ⟨k, hk⟩ := (R_iff hD).1 hx
        exact ⟨k, by simp only [hk]; exact H⟩
      · cases H
    · cases H
theorem opV_cont {tm : Nat → AV} {σ : Sto} {o : Oper} {r : AV × Sto} (H : opV P M (R P M D G) tm σ o = some r) : ∃ k, opV P M (runV P M D G k) tm σ o = some r := by
  cases ho : o.op with
  | call c =>
    simp only [opV, ho] at H ⊢
    split at H
    · rename_i as_ has
      cases hc : c.callee with
      | value f =>
        rw [hc] at H
        simp only at H ⊢
        split at H
        · rename_i g caps hg
          obtain ⟨k, hk⟩ := callV_cont hD H
          exact ⟨k, hk⟩
        · cases H
      | invoke rr m => rw [hc] at H; simp only at H; cases H
      | builtin b => rw [hc] at H; exact ⟨0, by cases b <;> exact H⟩
    · cases H
  | unOp u t x => simp only [opV, ho] at H ⊢; exact ⟨0, by cases u <;> exact H⟩
  | makeFunc f first caps => simp only [opV, ho] at H ⊢; exact ⟨0, by cases f <;> exact H⟩
  | _ => simp only [opV, ho] at H ⊢; exact ⟨0, H⟩
theorem stepV_cont {ops : Array Oper} {s s' : VS} {o : Oper} (H : stepV P M (R P M D G) ops s o = some s') : ∃ k, stepV P M (runV P M D G k) ops s o = some s' := by
  unfold stepV at H ⊢
  cases hw : wantV ops s.tm o with
  | none => rw [hw] at H; cases H
  | some w =>
    rw [hw] at H
    cases w with
    | false => exact ⟨0, H⟩
    | true =>
      simp only at H ⊢
      split at H
      · rename_i v σ h1
        obtain ⟨k, hk⟩ := opV_cont hD h1
        exact ⟨k, by rw [hk]; exact H⟩
      · cases H
theorem opsV_cont {ops : Array Oper} : ∀ (l : List Oper) {s s' : VS}, opsV P M (R P M D G) ops l s = some s' → ∃ k, opsV P M (runV P M D G k) ops l s = some s'
  | [], s, s', H => ⟨0, H⟩
  | o :: l, s, s', H => by
    simp only [opsV] at H ⊢
    split at H
    · rename_i s1 h1
      obtain ⟨k, hk⟩ := stepV_cont hD h1
      obtain ⟨j, hj⟩ := opsV_cont l H
      refine ⟨max k j, ?_⟩
      rw [stepV_mono (runV_mono hD G k (max k j) (Nat.le_max_left _ _)) hk]
      exact opsV_mono (runV_mono hD G j (max k j) (Nat.le_max_right _ _)) l hj
    · cases H
theorem E_skip (s : VS) : E P M D G .skip s = some (.normal, s) := (E_iff hD).2 ⟨0, rfl⟩
theorem E_exit (id : Nat) (s : VS) : E P M D G (.exit id) s = some (.exit id, s) := (E_iff hD).2 ⟨0, rfl⟩
theorem E_ret (s : VS) : E P M D G .ret s = some (.ret, s) := (E_iff hD).2 ⟨0, rfl⟩
theorem E_region (id : Nat) (ops : Array Oper) (s : VS) : E P M D G (.region id ops false) s = (opsV P M (R P M D G) ops ops.toList s).map fun s => (.normal, s) := by
  refine eq_of_iff fun r => ?_
  rw [E_iff hD]
  simp only [execV, Option.map_eq_some_iff]
  constructor
  · rintro ⟨k, s1, h1, h2⟩; exact ⟨s1, opsV_mono (R_le hD k) _ h1, h2⟩
  · rintro ⟨s1, h1, h2⟩; obtain ⟨k, hk⟩ := opsV_cont hD _ h1; exact ⟨k, s1, hk, h2⟩
theorem E_draw (id : Nat) (ops : Array Oper) (s : VS) : E P M D G (.region id ops true) s = (D (R P M D G) ops s).map fun s => (.normal, s) := by
  refine eq_of_iff fun r => ?_
  rw [E_iff hD]
  simp only [execV, Option.map_eq_some_iff]
  constructor
  · rintro ⟨k, s1, h1, h2⟩; exact ⟨s1, hD.mono _ _ (R_le hD k) _ _ _ h1, h2⟩
  · rintro ⟨s1, h1, h2⟩
    obtain ⟨k, hk⟩ := hD.cont (fun k => runV P M D G k) _ (fun j k h => runV_mono hD G j k h) (fun f a σ r h => (R_iff hD).1 h) _ _ _ h1
    exact ⟨k, s1, hk, h2⟩
theorem E_seq (a b : Code) (s : VS) : E P M D G (.seq a b) s = match E P M D G a s with | some (.normal, s1) => E P M D G b s1 | r => r := by
  refine eq_of_iff fun r => ?_
  rw [E_iff hD]
  constructor
  · rintro ⟨k, hk⟩
    simp only [execV] at hk
    split at hk
    · rename_i s1 h1
      rw [(E_iff hD).2 ⟨k, h1⟩]; exact (E_iff hD).2 ⟨k, hk⟩
    · rename_i hne
      rw [(E_iff hD).2 ⟨k, hk⟩]
      cases r with
      | mk x s1 =>
        cases x with
        | normal => exact absurd hk (hne s1)
        | exit id => rfl
        | ret => rfl
  · intro h
    split at h
    · rename_i s1 h1
      obtain ⟨k, hk⟩ := (E_iff hD).1 h1
      obtain ⟨j, hj⟩ := (E_iff hD).1 h
      refine ⟨max k j, ?_⟩
      simp only [execV]
      rw [execV_mono hD (runV_mono hD G k (max k j) (Nat.le_max_left _ _)) (Nat.le_max_left _ _) a hk]
      exact execV_mono hD (runV_mono hD G j (max k j) (Nat.le_max_right _ _)) (Nat.le_max_right _ _) b hj
    · rename_i hne
      obtain ⟨k, hk⟩ := (E_iff hD).1 h
      refine ⟨k, ?_⟩
      simp only [execV]
      rw [hk]
      cases r with
      | mk x s1 =>
        cases x with
        | normal => exact absurd h (hne s1)
        | exit id => rfl
        | ret => rfl
theorem E_cond (c : Operand) (a b : Code) (s : VS) : E P M D G (.cond c a b) s = match evalO s.tm c with | some (.t (.b x)) => if x then E P M D G a s else E P M D G b s | _ => none := by
  refine eq_of_iff fun r => ?_
  rw [E_iff hD]
  simp only [execV]
  cases hc : evalO s.tm c with
  | none => simp
  | some v =>
    cases v with
    | t x =>
      cases x with
      | b y => cases y <;> simp [E_iff hD]
      | _ => simp
    | _ => simp
theorem E_block (id : Nat) (c : Code) (s : VS) : E P M D G (.block id c) s = match E P M D G c s with | some (.exit id', s1) => if id' = id then some (.normal, s1) else some (.exit id', s1) | r => r := by
  refine eq_of_iff fun r => ?_
  rw [E_iff hD]
  constructor
  · rintro ⟨k, hk⟩
    simp only [execV] at hk
    split at hk
    · rename_i id' s1 h1
      rw [(E_iff hD).2 ⟨k, h1⟩]; exact hk
    · rename_i hne
      rw [(E_iff hD).2 ⟨k, hk⟩]
      cases r with
      | mk x s1 =>
        cases x with
        | normal => rfl
        | exit id => exact absurd hk (hne id s1)
        | ret => rfl
  · intro h
    split at h
    · rename_i id' s1 h1
      obtain ⟨k, hk⟩ := (E_iff hD).1 h1
      exact ⟨k, by simp only [execV]; rw [hk]; exact h⟩
    · rename_i hne
      obtain ⟨k, hk⟩ := (E_iff hD).1 h
      refine ⟨k, ?_⟩
      simp only [execV]
      rw [hk]
      cases r with
      | mk x s1 =>
        cases x with
        | normal => rfl
        | exit id => exact absurd h (hne id s1)
        | ret => rfl
theorem E_loop (c : Code) (s : VS) : E P M D G (.loop c) s = match E P M D G c s with | some (.normal, s1) => E P M D G (.loop c) s1 | r => r := by
  refine eq_of_iff fun r => ?_
  rw [E_iff hD]
  constructor
  · rintro ⟨k, hk⟩
    simp only [execV] at hk
    cases k with
    | zero => cases hk
    | succ k =>
      simp only [loopV] at hk
      split at hk
      · rename_i s1 h1
        rw [(E_iff hD).2 ⟨k + 1, h1⟩]
        refine (E_iff hD).2 ⟨k + 1, ?_⟩
        simp only [execV]
        exact loopV_mono (fun _ _ h => h) k (k + 1) (Nat.le_succ k) hk
      · rename_i hne
        rw [(E_iff hD).2 ⟨k + 1, hk⟩]
        cases r with
        | mk x s1 =>
          cases x with
          | normal => exact absurd hk (hne s1)
          | exit id => rfl
          | ret => rfl
  · intro h
    split at h
    · rename_i s1 h1
      obtain ⟨k, hk⟩ := (E_iff hD).1 h1
      obtain ⟨j, hj⟩ := (E_iff hD).1 h
      refine ⟨max k j + 1, ?_⟩
      simp only [execV, loopV]
      rw [execV_mono hD (runV_mono hD G k (max k j + 1) (by omega)) (by omega) c hk]
      simp only [execV] at hj
      exact loopV_mono (fun s r h => execV_mono hD (runV_mono hD G j (max k j + 1) (by omega)) (by omega) c h) j (max k j) (Nat.le_max_right _ _) hj
    · rename_i hne
      obtain ⟨k, hk⟩ := (E_iff hD).1 h
      refine ⟨k + 1, ?_⟩
      simp only [execV, loopV]
      rw [execV_mono hD (runV_mono hD G k (k + 1) (Nat.le_succ k)) (Nat.le_succ k) c hk]
      cases r with
      | mk x s1 =>
        cases x with
        | normal => exact absurd h (hne s1)
        | exit id => rfl
        | ret => rfl
/-- What is given is the answer. -/
theorem R_giv {f : Nat} {g : List AV → Sto → Option (AV × Sto)} (hg : G f = some g) (args : List AV) (σ : Sto) : R P M D G f args σ = g args σ := by
  refine eq_of_iff fun r => ?_
  rw [R_iff hD]
  constructor
  · rintro ⟨k, hk⟩
    cases k with
    | zero => cases hk
    | succ k => simp only [runV, hg] at hk; exact hk
  · intro h; exact ⟨1, by simp only [runV, hg]; exact h⟩
/-- A function's answer is its body's. -/
theorem R_fn {f : Nat} {fn : Func} {c : Code} (hg : G f = none) (hfn : P.funcs[f]? = some fn) (hb : fn.body = some c) (hname : (fn.name == "runtime.NumGoroutine") = false) (args : List AV) (σ : Sto) (hle : args.length ≤ fn.ntmps) :
    R P M D G f args σ = match E P M D G c ⟨fn.ntmps, fun i => args.getD i .undef, σ⟩ with
      | some (.normal, s) => (resV P fn.results s.tm s.σ).map fun v => (v, s.σ)
      | some (.ret, s) => (resV P fn.results s.tm s.σ).map fun v => (v, s.σ)
      | _ => none := by
  refine eq_of_iff fun r => ?_
  rw [R_iff hD]
  constructor
  · rintro ⟨k, hk⟩
    cases k with
    | zero => cases hk
    | succ k =>
      simp only [runV, hg, hfn, hname, hb, Bool.false_eq_true, if_false, bodyV, if_pos hle] at hk
      split at hk
      · rename_i s h1; rw [(E_iff hD).2 ⟨k, h1⟩]; exact hk
      · rename_i s h1; rw [(E_iff hD).2 ⟨k, h1⟩]; exact hk
      · cases hk
  · intro h
    have key : ∀ x s, E P M D G c ⟨fn.ntmps, fun i => args.getD i .undef, σ⟩ = some (x, s) → (match (some (x, s) : Option (VX × VS)) with
      | some (.normal, s) => (resV P fn.results s.tm s.σ).map fun v => (v, s.σ)
      | some (.ret, s) => (resV P fn.results s.tm s.σ).map fun v => (v, s.σ)
      | _ => none) = some r → ∃ k, runV P M D G k f args σ = some r := by
      intro x s hE h
      obtain ⟨k, hk⟩ := (E_iff hD).1 hE
      refine ⟨k + 1, ?_⟩
      simp only [runV, hg, hfn, hname, hb, Bool.false_eq_true, if_false, bodyV, if_pos hle]
      rw [hk]; exact h
    cases hE : E P M D G c ⟨fn.ntmps, fun i => args.getD i .undef, σ⟩ with
    | none => rw [hE] at h; cases h
    | some xs => rw [hE] at h; exact key xs.1 xs.2 hE h
end
end Go.Proofs.YtmfifjbbjjdacaaGreat.V

namespace Go.Proofs.YtmfifjbbjjdacaaGreat.V
open Go
set_option linter.unusedVariables false
set_option linter.unusedSimpArgs false
variable {P : Program} {M : Nat → Bool} {X : Ora}
section
variable {σ0 : Sto} {β0 : Nat → BI} {C0 : Nat → Prop} {h0 : World} {Z0 : Nat → Prop} {own0 : Nat → Option Nat} {ops : Array Oper} {bf : Nat → Nat → Bool} {rs : List (Nat × Nat × VO)} {s : VS} {σ1 : Sto} {S : Nat → VS}
def unl (n : Nat) (L : Array Bool) : Nat := ((List.range n).filter fun j => !L.getD j false).length
theorem filter_lt {α : Type} {p q : α → Bool} : ∀ (l : List α), (∀ x ∈ l, q x = true → p x = true) → (∃ x ∈ l, p x = true ∧ q x = false) → (l.filter q).length < (l.filter p).length
  | [], _, ⟨x, hx, _⟩ => by simp at hx
  | y :: l, h, ⟨x, hx, h1, h2⟩ => by
    have hle : ∀ (l : List α), (∀ x ∈ l, q x = true → p x = true) → (l.filter q).length ≤ (l.filter p).length := by
      intro l
      induction l with
      | nil => intro _; simp
      | cons z l ih =>
        intro hz
        have := ih fun x hx => hz x (by simp [hx])
        by_cases hq : q z = true
        · simp [List.filter_cons, hq, hz z (by simp) hq]; omega
        · by_cases hp : p z = true
          · simp [List.filter_cons, hq, hp]; omega
          · simp [List.filter_cons, hq, hp]; omega
    rcases List.mem_cons.1 hx with rfl | hx'
    · have := hle l fun z hz => h z (by simp [hz])
      simp [List.filter_cons, h1, h2]; omega
    · have := filter_lt l (fun z hz => h z (by simp [hz])) ⟨x, hx', h1, h2⟩
      by_cases hq : q y = true
      · simp [List.filter_cons, hq, h y (by simp) hq]; omega
      · by_cases hp : p y = true
        · simp [List.filter_cons, hq, hp]; omega
        · simp [List.filter_cons, hq, hp]; omega
theorem unl_zero {n : Nat} {L : Array Bool} (h : unl n L = 0) : ∀ j, j < n → L.getD j false = true := by
  intro j hj
  unfold unl at h
  have h1 := List.eq_nil_of_length_eq_zero h
  rw [List.filter_eq_nil_iff] at h1
  have := h1 j (List.mem_range.2 hj)
  simpa using this
theorem any_ok (Y : Setup P M X ops bf rs s σ1 S) (hX : OraOk P X) (hf0 : ∀ o, σ0.n ≤ o → ¬ C0 o) {Q : Exit → Act → World → Prop} (hQ : ∀ a' w', Inv σ0 β0 C0 h0 Z0 own0 (S ops.size) a' w' → Q .normal a' w') :
    ∀ (fuel : Nat) (L : Array Bool) (a : Act) (w : World), L.size = ops.size → Jp σ0 β0 C0 h0 Z0 own0 ops rs s S (fun j => L.getD j false) a w → unl ops.size L ≤ fuel → wpAny P .any ops Q fuel L a w := by
  have nil : ∀ (L : Array Bool), L.size = ops.size → Region.ready .any ops L = [] → ∀ j, j < ops.size → L.getD j false = true := by
    intro L hL hr j
    induction j using Nat.strongRecOn with
    | _ j ih =>
      intro hj
      cases hl : L.getD j false with
      | true => rfl
      | false =>
        exfalso
        have hjo : ops[j]? = some ops[j] := Array.getElem?_eq_getElem hj
        have hm : j ∈ Region.ready .any ops L := mem_ready.2 ⟨by
          have h1 : j < L.size := by omega
          rw [Array.getD_eq_getD_getElem?, Array.getElem?_eq_getElem h1] at hl ⊢; exact hl, _, hjo, fun e he hb => ih e.on (Y.W.back j _ hjo e he hb) (by have := Y.W.back j _ hjo e he hb; omega)⟩
        rw [hr] at hm; simp at hm
  intro fuel
  induction fuel with
  | zero =>
    intro L a w hL J hu
    have hall := unl_zero (Nat.le_zero.1 hu)
    refine ⟨?_, hQ a w (J.done Y hall)⟩
    refine List.eq_nil_iff_forall_not_mem.2 fun j hj => ?_
    obtain ⟨h1, o, ho, _⟩ := mem_ready.1 hj
    have hlt := (Array.getElem?_eq_some_iff.1 ho).1
    have h2 := hall j hlt
    rw [Array.getD_eq_getD_getElem?, Array.getElem?_eq_getElem (by omega)] at h1 h2
    simp at h1 h2
    rw [h1] at h2; cases h2
  | succ fuel ih =>
    intro L a w hL J hu
    refine ⟨fun hr => hQ a w (J.done Y (nil L hL hr)), fun i hi => ?_⟩
    obtain ⟨h1, o, ho, he⟩ := mem_ready.1 hi
    have hlt := (Array.getElem?_eq_some_iff.1 ho).1
    have h2 : L.getD i false = false := by
      rw [Array.getD_eq_getD_getElem?, Array.getElem?_eq_getElem (by omega)] at h1 ⊢; exact h1
    have hset : ∀ j, (L.setIfInBounds i true).getD j false = (L.getD j false || j == i) := fun j => by
      by_cases e : j = i
      · subst e
        have h3 : j < L.size := by omega
        simp [Array.getD_eq_getD_getElem?, Array.getElem?_setIfInBounds, h3]
      · have e2 : ¬ i = j := fun h => e h.symm
        simp [Array.getD_eq_getD_getElem?, Array.getElem?_setIfInBounds, e, e2]
    refine J.step Y hX hf0 ho h2 he fun a' w' J' => ih _ a' w' (by simp [hL]) ?_ ?_
    · rw [show (fun j => (L.setIfInBounds i true).getD j false) = fun j => L.getD j false || j == i from funext hset]
      exact J'
    · have : unl ops.size (L.setIfInBounds i true) < unl ops.size L := by
        unfold unl
        refine filter_lt _ (fun x _ hx => ?_) ⟨i, List.mem_range.2 hlt, by simp [h2], by rw [hset]; simp⟩
        rw [hset] at hx
        simp at hx ⊢
        exact hx.1
      omega
end
theorem drawV_ok (hm : P.follows .mixedOrders = true) (hX : OraOk P X) : DrwOk P X (drawV P M X) := by
  intro σ0 β0 C0 h0 Z0 own0 id ops s s' a w Q hf0 I H hQ
  obtain ⟨hst, rs, σ1, hres, hrun⟩ := drawV_iff.1 H
  have W := statM_ok hst
  have RO := resL_ok _ hres
  obtain ⟨htr, hend⟩ := drun_tr (l := ops.toList) (k0 := s.σ.n) (s0 := s.on σ1) ops.toList (i := 0) rfl (Nat.zero_le _) (by simpa [rid, Sq] using hrun) (fun i' o' h => by omega) (fun i' o' h => by omega)
  have Y : Setup P M X ops (bfm (masks ops.toList [])) rs s σ1 (Sq (stepV P M X ops) ops.toList s.σ.n (s.on σ1)) := ⟨W, fun j o h => htr j o (Nat.zero_le _) (by rw [Array.getElem?_toList]; exact h), rfl, RO⟩
  have hend' : Sq (stepV P M X ops) ops.toList s.σ.n (s.on σ1) ops.size = s' := by rw [← hend]; simp
  refine wp_region_any hm ?_
  refine any_ok (σ0 := σ0) (β0 := β0) (C0 := C0) (h0 := h0) (Z0 := Z0) (own0 := own0) Y hX hf0 (fun a' w' I' => hQ a' w' (by rw [hend'] at I'; exact I')) _ _ _ _ (by simp) ?_ ?_
  · have hp : (fun j => (Array.replicate ops.size false).getD j false) = fun _ => false := funext fun j => by
      by_cases h : j < ops.size <;> simp [Array.getD_eq_getD_getElem?, Array.getElem?_replicate, h]
    rw [hp]
    refine ⟨fun j o _ h => (by cases h), 0, Nat.zero_le _, fun j h => (by omega), fun j _ _ => rfl, ?_⟩
    obtain ⟨β, C, Z, own, A, hC, hn, hT, hsz, hdf⟩ := I
    have hlt : ∀ o, C o → o < s.σ.n := fun o ho => (hC o ho).elim (fun h => Nat.lt_of_not_le fun h2 => hf0 o (by omega) h) fun h => h.2
    have M1 : Mv s.σ.ob β C w.heap Z own σ1.ob β C w.heap Z own := Mv.off A.rel (fun o ho => RO.old o (hlt o ho)) fun o ho => by
      by_cases h1 : o < s.σ.n
      · rw [RO.old o h1]; exact A.rel.dead o ho
      · by_cases h2 : o < σ1.n
        · exact .inr (RO.pend o (by omega) h2)
        · rw [RO.far o (by omega)]; exact A.rel.dead o ho
    have hle := RO.le
    have hFT : FT (Sq (stepV P M X ops) ops.toList s.σ.n (s.on σ1)) ops.toList (fun _ => false) ops.size = s.tm := funext fun t => by
      rw [FT_past (a := 0) ops.size (Nat.zero_le _) fun j _ _ h => by cases h]; rfl
    refine ⟨β, C, Z, own, A.trans M1, fun o ho => (hC o ho).imp (fun h => h) fun h => ⟨h.1, by show o < σ1.n; omega⟩, by show _ ≤ σ1.n; omega, ?_, hsz, ⟨hdf.1, hdf.2.trans ⟨rfl, rfl, rfl, Nat.le_succ _⟩⟩, ?_⟩
    · rw [hFT]; exact fun x => M1.av A.rel (hT x)
    · rintro k ⟨r, h1, _, rfl⟩
      have := RO.mem r h1
      exact ⟨fun hc => by have := hlt _ hc; omega, this.2.1, by omega⟩
  · unfold unl
    exact Nat.le_trans (List.length_filter_le _ _) (by simp)
/-- They go with the oracle. -/
theorem Drun.mono {st st' : VS → Oper → Option VS} (h : ∀ s o r, st s o = some r → st' s o = some r) {bf : Nat → Nat → Bool} {rs : List (Nat × Nat × VO)} : ∀ (l : List Oper) {i k : Nat} {s : VS} {pd : List (Nat × Oper × VS × VS)} {hs : List (Nat × Sto)} {s' : VS}, Drun st bf rs l i k s pd hs s' → Drun st' bf rs l i k s pd hs s'
  | [], i, k, s, pd, hs, s', H => H
  | o :: l, i, k, s, pd, hs, s', H => by
    unfold Drun at H ⊢
    split at H
    · rename_i hk; rw [if_pos hk]; obtain ⟨s1, h1, h2⟩ := H; exact ⟨s1, h1, Drun.mono h l h2⟩
    rename_i hk; rw [if_neg hk]
    split at H
    · rename_i hk; rw [if_pos hk]; obtain ⟨s1, h1, h2, h3, h4⟩ := H
      exact ⟨s1, h _ _ _ h1, fun p hp => (h2 p hp).imp id (h _ _ _), h3, Drun.mono h l h4⟩
    rename_i hk; rw [if_neg hk]
    split at H
    · rename_i hk; rw [if_pos hk]; obtain ⟨s1, h1, h2, h4⟩ := H
      exact ⟨s1, h _ _ _ h1, fun p hp => (h2 p hp).imp id (h _ _ _), Drun.mono h l h4⟩
    · rename_i hk; rw [if_neg hk]; obtain ⟨s1, h1, h4⟩ := H
      exact ⟨s1, h _ _ _ h1, Drun.mono h l h4⟩
theorem all_ex {α : Type} {p : Nat → α → Prop} (hm : ∀ j k x, j ≤ k → p j x → p k x) : ∀ (l : List α), (∀ x ∈ l, ∃ k, p k x) → ∃ k, ∀ x ∈ l, p k x
  | [], _ => ⟨0, fun x h => by simp at h⟩
  | y :: l, h => by
    obtain ⟨k1, h1⟩ := h y (by simp)
    obtain ⟨k2, h2⟩ := all_ex hm l fun x hx => h x (by simp [hx])
    refine ⟨max k1 k2, fun x hx => ?_⟩
    rcases List.mem_cons.1 hx with rfl | hx
    · exact hm _ _ _ (Nat.le_max_left _ _) h1
    · exact hm _ _ _ (Nat.le_max_right _ _) (h2 x hx)
theorem Drun.cont {st : Nat → VS → Oper → Option VS} {st' : VS → Oper → Option VS} (hmo : ∀ j k, j ≤ k → ∀ s o r, st j s o = some r → st k s o = some r) (h : ∀ s o r, st' s o = some r → ∃ k, st k s o = some r) {bf : Nat → Nat → Bool} {rs : List (Nat × Nat × VO)} :
    ∀ (l : List Oper) {i k : Nat} {s : VS} {pd : List (Nat × Oper × VS × VS)} {hs : List (Nat × Sto)} {s' : VS}, Drun st' bf rs l i k s pd hs s' → ∃ n, Drun (st n) bf rs l i k s pd hs s'
  | [], i, k, s, pd, hs, s', H => ⟨0, H⟩
  | o :: l, i, k, s, pd, hs, s', H => by
    have up : ∀ {a b : Nat}, a ≤ b → ∀ {m : List Oper} {i k : Nat} {s : VS} {pd : List (Nat × Oper × VS × VS)} {hs : List (Nat × Sto)} {s' : VS}, Drun (st a) bf rs m i k s pd hs s' → Drun (st b) bf rs m i k s pd hs s' := fun hab m _ _ _ _ _ _ H => Drun.mono (hmo _ _ hab) m H
    by_cases hk3 : dk o = 3
    · unfold Drun at H
      rw [if_pos hk3] at H
      obtain ⟨s1, h1, h2⟩ := H
      obtain ⟨n, hn⟩ := Drun.cont hmo h l h2
      exact ⟨n, by unfold Drun; rw [if_pos hk3]; exact ⟨s1, h1, hn⟩⟩
    by_cases hk2 : dk o = 2
    · unfold Drun at H
      rw [if_neg hk3, if_pos hk2] at H
      obtain ⟨s1, h1, h2, h3, h4⟩ := H
      obtain ⟨n1, hn1⟩ := h _ _ _ h1
      obtain ⟨n2, hn2⟩ := all_ex (p := fun k (x : Nat × Oper × VS × VS) => bf x.1 i = true ∨ st k (x.2.2.1.on s1.σ) x.2.1 = some (x.2.2.2.on s1.σ)) (fun a b x hab hx => hx.imp id (hmo _ _ hab _ _ _)) pd fun x hx => (h2 x hx).elim (fun e => ⟨0, .inl e⟩) fun e => (h _ _ _ e).imp fun _ e => .inr e
      obtain ⟨n3, hn3⟩ := Drun.cont hmo h l h4
      refine ⟨max n1 (max n2 n3), ?_⟩
      unfold Drun; rw [if_neg hk3, if_pos hk2]
      exact ⟨s1, hmo _ _ (by omega) _ _ _ hn1, fun p hp => (hn2 p hp).imp id (hmo _ _ (by omega) _ _ _), h3, up (by omega) hn3⟩
    by_cases hk1 : dk o = 1
    · unfold Drun at H
      rw [if_neg hk3, if_neg hk2, if_pos hk1] at H
      obtain ⟨s1, h1, h2, h4⟩ := H
      obtain ⟨n1, hn1⟩ := h _ _ _ h1
      obtain ⟨n2, hn2⟩ := all_ex (p := fun k (x : Nat × Sto) => bf x.1 i = true ∨ st k (s.on x.2) o = some (s1.on x.2)) (fun a b x hab hx => hx.imp id (hmo _ _ hab _ _ _)) hs fun x hx => (h2 x hx).elim (fun e => ⟨0, .inl e⟩) fun e => (h _ _ _ e).imp fun _ e => .inr e
      obtain ⟨n3, hn3⟩ := Drun.cont hmo h l h4
      refine ⟨max n1 (max n2 n3), ?_⟩
      unfold Drun; rw [if_neg hk3, if_neg hk2, if_pos hk1]
      exact ⟨s1, hmo _ _ (by omega) _ _ _ hn1, fun p hp => (hn2 p hp).imp id (hmo _ _ (by omega) _ _ _), up (by omega) hn3⟩
    · unfold Drun at H
      rw [if_neg hk3, if_neg hk2, if_neg hk1] at H
      obtain ⟨s1, h1, h4⟩ := H
      obtain ⟨n1, hn1⟩ := h _ _ _ h1
      obtain ⟨n3, hn3⟩ := Drun.cont hmo h l h4
      refine ⟨max n1 n3, ?_⟩
      unfold Drun; rw [if_neg hk3, if_neg hk2, if_neg hk1]
      exact ⟨s1, hmo _ _ (by omega) _ _ _ hn1, up (by omega) hn3⟩
theorem callV_contX {X : Nat → Ora} {Y : Ora} (hm : ∀ j k, j ≤ k → Ole (X j) (X k)) (hc : ∀ f a σ r, Y f a σ = some r → ∃ k, X k f a σ = some r) {σ : Sto} {f : Nat} {args : List AV} {r : AV × Sto} (H : callV M Y σ f args = some r) : ∃ k, callV M (X k) σ f args = some r := by
  unfold callV at H ⊢
  split at H
  · rename_i hm
    simp only [hm, if_true]
    split at H
    · rename_i r1 σ1 hx
      obtain ⟨k, hk⟩ := hc _ _ _ _ hx
      exact ⟨k, by rw [hk]; exact H⟩
    · cases H
  · rename_i hm
    simp only [hm, if_false, Bool.false_eq_true]
    split at H
    · rename_i as_ has
      split at H
      · rename_i r1 σ1 hx
        obtain ⟨k, hk⟩ := hc _ _ _ _ hx
        exact ⟨k, by simp only [hk]; exact H⟩
      · cases H
    · cases H
theorem opV_contX {X : Nat → Ora} {Y : Ora} (hm : ∀ j k, j ≤ k → Ole (X j) (X k)) (hc : ∀ f a σ r, Y f a σ = some r → ∃ k, X k f a σ = some r) {tm : Nat → AV} {σ : Sto} {o : Oper} {r : AV × Sto} (H : opV P M Y tm σ o = some r) : ∃ k, opV P M (X k) tm σ o = some r := by
  cases ho : o.op with
  | call c =>
    simp only [opV, ho] at H ⊢
    split at H
    · rename_i as_ has
      cases hcc : c.callee with
      | value f =>
        rw [hcc] at H
        simp only at H ⊢
        split at H
        · rename_i g caps hg
          obtain ⟨k, hk⟩ := callV_contX hm hc H
          exact ⟨k, hk⟩
        · cases H
      | invoke rr m => rw [hcc] at H; simp only at H; cases H
      | builtin b => rw [hcc] at H; exact ⟨0, by cases b <;> exact H⟩
    · cases H
  | unOp u t x => simp only [opV, ho] at H ⊢; exact ⟨0, by cases u <;> exact H⟩
  | makeFunc f first caps => simp only [opV, ho] at H ⊢; exact ⟨0, by cases f <;> exact H⟩
  | _ => simp only [opV, ho] at H ⊢; exact ⟨0, H⟩
theorem drawV_go : DGo (drawV P M) := by
  refine ⟨fun X Y hXY ops s r H => ?_, fun X Y hm hc ops s r H => ?_⟩
  · rw [drawV_iff] at H ⊢
    obtain ⟨h1, rs, σ1, h2, h3⟩ := H
    exact ⟨h1, rs, σ1, h2, Drun.mono (fun s o r h => stepV_mono hXY h) _ h3⟩
  · rw [drawV_iff] at H
    obtain ⟨h1, rs, σ1, h2, h3⟩ := H
    obtain ⟨k, hk⟩ := Drun.cont (st := fun k => stepV P M (X k) ops) (fun j k hjk s o r h => stepV_mono (hm j k hjk) h) (fun s o r H => by
      unfold stepV at H ⊢
      cases hw : wantV ops s.tm o with
      | none => rw [hw] at H; cases H
      | some w =>
        rw [hw] at H
        cases w with
        | false => exact ⟨0, H⟩
        | true =>
          simp only at H ⊢
          split at H
          · rename_i v σ h1
            obtain ⟨k, hk⟩ := opV_contX hm hc h1
            exact ⟨k, by rw [hk]; exact H⟩
          · cases H) _ h3
    exact ⟨k, drawV_iff.2 ⟨h1, rs, σ1, h2, hk⟩⟩
end Go.Proofs.YtmfifjbbjjdacaaGreat.V

namespace Go.Proofs.YtmfifjbbjjdacaaGreat.V
open Go
set_option linter.unusedVariables false
variable {P : Program} {M : Nat → Bool} {G : Giv}
noncomputable abbrev Rv (P : Program) (M : Nat → Bool) (G : Giv) : Ora := R P M (drawV P M) G
/-- An equation that simp does not take apart. -/
def Is {α : Type} (a b : α) : Prop := a = b
theorem Is.r {α : Type} (a : α) : Is a a := rfl
/-- The code comes to an end, of one of three kinds. -/
def W (P : Program) (M : Nat → Bool) (G : Giv) (c : Code) (s : VS) (N : VS → Prop) (X : Nat → VS → Prop) (K : VS → Prop) : Prop :=
  ∃ x s', E P M (drawV P M) G c s = some (x, s') ∧ match x with
    | .normal => N s'
    | .exit i => X i s'
    | .ret => K s'
variable {c a b : Code} {s s1 : VS} {N N' : VS → Prop} {X X' : Nat → VS → Prop} {K K' : VS → Prop}
theorem W.mono (H : W P M G c s N X K) (h1 : ∀ s, N s → N' s) (h2 : ∀ i s, X i s → X' i s) (h3 : ∀ s, K s → K' s) : W P M G c s N' X' K' := by
  obtain ⟨x, s', h, hq⟩ := H
  refine ⟨x, s', h, ?_⟩
  cases x with
  | normal => exact h1 _ hq
  | exit i => exact h2 _ _ hq
  | ret => exact h3 _ hq
theorem W_skip (h : N s) : W P M G .skip s N X K := ⟨.normal, s, E_skip drawV_go s, h⟩
theorem W_exit {i : Nat} (h : X i s) : W P M G (.exit i) s N X K := ⟨.exit i, s, E_exit drawV_go i s, h⟩
theorem W_ret (h : K s) : W P M G .ret s N X K := ⟨.ret, s, E_ret drawV_go s, h⟩
theorem W_reg {id : Nat} {ops : Array Oper} (h : Is (opsV P M (Rv P M G) ops ops.toList s) (some s1)) (hn : N s1) : W P M G (.region id ops false) s N X K :=
  ⟨.normal, s1, by rw [E_region drawV_go, show _ = _ from h]; rfl, hn⟩
/-- The same, step by step. -/
def chkP (st : VS → Oper → Option VS) (bf : Nat → Nat → Bool) (i : Nat) (σ : Sto) : List (Nat × Oper × VS × VS) → Prop → Prop
  | [], p => p
  | q :: l, p => if bf q.1 i = true then chkP st bf i σ l p else chkP st bf i σ l (p ∧ st (q.2.2.1.on σ) q.2.1 = some (q.2.2.2.on σ))
def chkR (bf : Nat → Nat → Bool) (i : Nat) (σ : Sto) : List (Nat × Nat × VO) → Prop → Prop
  | [], p => p
  | r :: l, p => if (decide (r.1 < i) && bf r.1 i) = true then chkR bf i σ l p else chkR bf i σ l (p ∧ σ.ob r.2.1 = r.2.2)
def chkH (st : VS → Oper → Option VS) (bf : Nat → Nat → Bool) (i : Nat) (o : Oper) (s s1 : VS) : List (Nat × Sto) → Prop → Prop
  | [], p => p
  | h :: l, p => if bf h.1 i = true then chkH st bf i o s s1 l p else chkH st bf i o s s1 l (p ∧ st (s.on h.2) o = some (s1.on h.2))
theorem chkP_ok {st : VS → Oper → Option VS} {bf : Nat → Nat → Bool} {i : Nat} {σ : Sto} : ∀ (l : List (Nat × Oper × VS × VS)) {p : Prop}, chkP st bf i σ l p → p ∧ ∀ q ∈ l, bf q.1 i = true ∨ st (q.2.2.1.on σ) q.2.1 = some (q.2.2.2.on σ)
  | [], p, h => ⟨h, fun q hq => by simp at hq⟩
  | r :: l, p, h => by
    unfold chkP at h
    split at h
    · rename_i hb
      obtain ⟨h1, h2⟩ := chkP_ok l h
      exact ⟨h1, fun q hq => (List.mem_cons.1 hq).elim (fun e => by rw [e]; exact .inl hb) (h2 q)⟩
    · obtain ⟨h1, h2⟩ := chkP_ok l h
      exact ⟨h1.1, fun q hq => (List.mem_cons.1 hq).elim (fun e => by rw [e]; exact .inr h1.2) (h2 q)⟩
theorem chkR_ok {bf : Nat → Nat → Bool} {i : Nat} {σ : Sto} : ∀ (l : List (Nat × Nat × VO)) {p : Prop}, chkR bf i σ l p → p ∧ ∀ q ∈ l, (decide (q.1 < i) && bf q.1 i) = true ∨ σ.ob q.2.1 = q.2.2
  | [], p, h => ⟨h, fun q hq => by simp at hq⟩
  | r :: l, p, h => by
    unfold chkR at h
    split at h
    · rename_i hb
      obtain ⟨h1, h2⟩ := chkR_ok l h
      exact ⟨h1, fun q hq => (List.mem_cons.1 hq).elim (fun e => by rw [e]; exact .inl hb) (h2 q)⟩
    · obtain ⟨h1, h2⟩ := chkR_ok l h
      exact ⟨h1.1, fun q hq => (List.mem_cons.1 hq).elim (fun e => by rw [e]; exact .inr h1.2) (h2 q)⟩
theorem chkH_ok {st : VS → Oper → Option VS} {bf : Nat → Nat → Bool} {i : Nat} {o : Oper} {s s1 : VS} : ∀ (l : List (Nat × Sto)) {p : Prop}, chkH st bf i o s s1 l p → p ∧ ∀ h ∈ l, bf h.1 i = true ∨ st (s.on h.2) o = some (s1.on h.2)
  | [], p, h => ⟨h, fun q hq => by simp at hq⟩
  | r :: l, p, h => by
    unfold chkH at h
    split at h
    · rename_i hb
      obtain ⟨h1, h2⟩ := chkH_ok l h
      exact ⟨h1, fun q hq => (List.mem_cons.1 hq).elim (fun e => by rw [e]; exact .inl hb) (h2 q)⟩
    · obtain ⟨h1, h2⟩ := chkH_ok l h
      exact ⟨h1.1, fun q hq => (List.mem_cons.1 hq).elim (fun e => by rw [e]; exact .inr h1.2) (h2 q)⟩
def DrunF (st : VS → Oper → Option VS) (bf : Nat → Nat → Bool) (rs : List (Nat × Nat × VO)) : List Oper → Nat → Nat → VS → List (Nat × Oper × VS × VS) → List (Nat × Sto) → Prop → Option (Prop × VS)
  | [], _, _, s, _, _, p => some (p, s)
  | o :: l, i, k, s, pd, hs, p =>
    if dk o = 3 then match putV s o.dst (rv o k) s.σ with
      | some s1 => DrunF st bf rs l (i + 1) (k + 1) s1 pd hs p
      | none => none
    else match st s o with
      | some s1 => if dk o = 2 then DrunF st bf rs l (i + 1) k s1 pd ((i, s.σ) :: hs) (chkR bf i s1.σ rs (chkP st bf i s1.σ pd p))
        else if dk o = 1 then DrunF st bf rs l (i + 1) k s1 ((i, o, s, s1) :: pd) hs (chkH st bf i o s s1 hs p)
        else DrunF st bf rs l (i + 1) k s1 pd hs p
      | none => none
theorem DrunF.p {st : VS → Oper → Option VS} {bf : Nat → Nat → Bool} {rs : List (Nat × Nat × VO)} : ∀ (l : List Oper) {i k : Nat} {s : VS} {pd : List (Nat × Oper × VS × VS)} {hs : List (Nat × Sto)} {p q : Prop} {s' : VS}, DrunF st bf rs l i k s pd hs p = some (q, s') → q → p ∧ Drun st bf rs l i k s pd hs s'
  | [], i, k, s, pd, hs, p, q, s', H, hq => by cases H; exact ⟨hq, rfl⟩
  | o :: l, i, k, s, pd, hs, p, q, s', H, hq => by
    unfold DrunF at H
    unfold Drun
    by_cases h3 : dk o = 3
    · rw [if_pos h3] at H ⊢
      split at H
      · rename_i s1 h1
        obtain ⟨a, b⟩ := DrunF.p l H hq
        exact ⟨a, s1, h1, b⟩
      · cases H
    rw [if_neg h3] at H ⊢
    split at H
    · rename_i s1 h1
      by_cases h2 : dk o = 2
      · rw [if_pos h2] at H ⊢
        obtain ⟨a, b⟩ := DrunF.p l H hq
        obtain ⟨a, d⟩ := chkR_ok _ a
        obtain ⟨a, c⟩ := chkP_ok _ a
        exact ⟨a, s1, h1, c, d, b⟩
      rw [if_neg h2] at H ⊢
      by_cases h1' : dk o = 1
      · rw [if_pos h1'] at H ⊢
        obtain ⟨a, b⟩ := DrunF.p l H hq
        obtain ⟨a, c⟩ := chkH_ok _ a
        exact ⟨a, s1, h1, c, b⟩
      · rw [if_neg h1'] at H ⊢
        obtain ⟨a, b⟩ := DrunF.p l H hq
        exact ⟨a, s1, h1, b⟩
    · cases H
theorem W_draw {id : Nat} {ops : Array Oper} (ms : List Nat) (hm : masks ops.toList [] = ms) (h0 : statM ops ms = true) {r : List (Nat × Nat × VO) × Sto} (h1 : Is (resL P ops.toList 0 s.σ) (some r)) {q : Prop × VS}
    (h : Is (DrunF (stepV P M (Rv P M G) ops) (bfm ms) r.1 ops.toList 0 s.σ.n (s.on r.2) [] [] True) (some q)) (hq : q.1) (hn : N q.2) : W P M G (.region id ops true) s N X K := by
  subst hm
  exact ⟨.normal, q.2, by rw [E_draw drawV_go, drawV_iff.2 ⟨h0, r.1, r.2, h1, (DrunF.p _ h hq).2⟩]; rfl, hn⟩
theorem W_seq (h : W P M G a s (fun s1 => W P M G b s1 N X K) X K) : W P M G (.seq a b) s N X K := by
  obtain ⟨x, s1, h1, h2⟩ := h
  cases x with
  | normal =>
    obtain ⟨y, s2, h3, h4⟩ := h2
    exact ⟨y, s2, by rw [E_seq drawV_go, h1]; exact h3, h4⟩
  | exit i => exact ⟨.exit i, s1, by rw [E_seq drawV_go, h1], h2⟩
  | ret => exact ⟨.ret, s1, by rw [E_seq drawV_go, h1], h2⟩
theorem W_cond {t : Operand} {x : Bool} (h : Is (evalO s.tm t) (some (.t (.b x)))) (h1 : x = true → W P M G a s N X K) (h2 : x = false → W P M G b s N X K) : W P M G (.cond t a b) s N X K := by
  have h : evalO s.tm t = some (.t (.b x)) := h
  cases x with
  | true => obtain ⟨y, s1, h3, h4⟩ := h1 rfl; exact ⟨y, s1, by rw [E_cond drawV_go, h]; exact h3, h4⟩
  | false => obtain ⟨y, s1, h3, h4⟩ := h2 rfl; exact ⟨y, s1, by rw [E_cond drawV_go, h]; exact h3, h4⟩
/-- What is asked of an exit inside a block. -/
def xb (id : Nat) (N : VS → Prop) (X : Nat → VS → Prop) : Nat → VS → Prop := fun i s => if i = id then N s else X i s
theorem xb_hit {id : Nat} (h : N s) : xb id N X id s := by unfold xb; rw [if_pos rfl]; exact h
theorem xb_miss {id i : Nat} (e : i ≠ id) (h : X i s) : xb id N X i s := by unfold xb; rw [if_neg e]; exact h
theorem W_block {id : Nat} (h : W P M G c s N (xb id N X) K) : W P M G (.block id c) s N X K := by
  obtain ⟨x, s1, h1, h2⟩ := h
  cases x with
  | normal => exact ⟨.normal, s1, by rw [E_block drawV_go, h1], h2⟩
  | exit i =>
    simp only [xb] at h2
    by_cases e : i = id
    · rw [if_pos e] at h2; exact ⟨.normal, s1, by rw [E_block drawV_go, h1]; simp only; rw [if_pos e], h2⟩
    · rw [if_neg e] at h2; exact ⟨.exit i, s1, by rw [E_block drawV_go, h1]; simp only; rw [if_neg e], h2⟩
  | ret => exact ⟨.ret, s1, by rw [E_block drawV_go, h1], h2⟩
theorem W_loop (I : Nat → VS → Prop) {n : Nat} (h0 : I n s) (h : ∀ n s, I n s → W P M G c s (fun s' => ∃ m, m < n ∧ I m s') X K) : W P M G (.loop c) s N X K := by
  induction n using Nat.strongRecOn generalizing s with
  | _ n ih =>
    obtain ⟨x, s1, h1, h2⟩ := h n s h0
    cases x with
    | normal =>
      obtain ⟨m, hm, hI⟩ := h2
      obtain ⟨y, s2, h3, h4⟩ := ih m hm hI
      exact ⟨y, s2, by rw [E_loop drawV_go, h1]; exact h3, h4⟩
    | exit i => exact ⟨.exit i, s1, by rw [E_loop drawV_go, h1], h2⟩
    | ret => exact ⟨.ret, s1, by rw [E_loop drawV_go, h1], h2⟩
theorem W_fn {f : Nat} {fn : Func} {args : List AV} {σ : Sto} {Q : AV → Sto → Prop} (hg : G f = none) (hfn : P.funcs[f]? = some fn) {c : Code} (hb : fn.body = some c) (hname : (fn.name == "runtime.NumGoroutine") = false) (hle : args.length ≤ fn.ntmps)
    (H : W P M G c ⟨fn.ntmps, fun i => args.getD i .undef, σ⟩ (fun s => ∃ v, resV P fn.results s.tm s.σ = some v ∧ Q v s.σ) (fun _ _ => False) (fun s => ∃ v, resV P fn.results s.tm s.σ = some v ∧ Q v s.σ)) : ∃ v σ', Rv P M G f args σ = some (v, σ') ∧ Q v σ' := by
  obtain ⟨x, s1, h1, h2⟩ := H
  cases x with
  | normal => obtain ⟨v, h3, h4⟩ := h2; exact ⟨v, s1.σ, by rw [Rv, R_fn drawV_go hg hfn hb hname args σ hle, h1]; simp only [h3, Option.map_some], h4⟩
  | exit i => exact h2.elim
  | ret => obtain ⟨v, h3, h4⟩ := h2; exact ⟨v, s1.σ, by rw [Rv, R_fn drawV_go hg hfn hb hname args σ hle, h1]; simp only [h3, Option.map_some], h4⟩
attribute [irreducible] W
end Go.Proofs.YtmfifjbbjjdacaaGreat.V

namespace Go.Proofs.YtmfifjbbjjdacaaGreat.V
open Go
set_option linter.unusedVariables false
inductive XV where
  | t (x : T) (f : Bool) | own (sz : Nat) (rows : List (List T)) | np | agg (l : List XV) | tup (l : List XV)
def exp1 (σ : Sto) : AV → Option (XV × Sto)
  | .t x => some (.t x.nz (match x with | .sl _ => true | _ => false), σ)
  | .ref o v p =>
    match p with
    | [] => match σ.ob o with
      | .arr (.own k) st sz rows => if rows.length = v ∧ k = 0 then some (.own sz rows, σ.set o .dead) else none
      | .arr _ st sz rows => if rows.length = v then some (.t (.sl rows) true, σ.set o (.arr .frz st sz rows)) else none
      | _ => none
    | _ => none
  | .np => some (.np, σ)
  | _ => none
def expL : Sto → List AV → Option (List XV × Sto)
  | σ, [] => some ([], σ)
  | σ, a :: l => match exp1 σ a with
    | some (x, σ1) => match expL σ1 l with
      | some (xs, σ2) => some (x :: xs, σ2)
      | none => none
    | none => none
def expA (σ : Sto) : AV → Option (XV × Sto)
  | .agg l => (expL σ l).map fun r => (.agg r.1, r.2)
  | a => exp1 σ a
def expAs : Sto → List AV → Option (List XV × Sto)
  | σ, [] => some ([], σ)
  | σ, a :: l => match expA σ a with
    | some (x, σ1) => match expAs σ1 l with
      | some (xs, σ2) => some (x :: xs, σ2)
      | none => none
    | none => none
def expR (σ : Sto) : AV → Option XV
  | .tup l => (expAs σ l).map fun r => .tup r.1
  | a => (expA σ a).map fun r => r.1
def XV.sh1 : XV → Bool
  | .t _ f => f
  | _ => false
def XV.shA : XV → Bool
  | .agg l => l.any XV.sh1
  | x => x.sh1
def XV.sh : XV → Bool
  | .tup l => l.any XV.shA
  | x => x.shA
def place1 (c : Sto) : XV → AV × Sto
  | .t x _ => (.t x, c)
  | .own sz rows => (.ref c.n rows.length [], c.new (.arr (.own 0) 0 sz rows))
  | .np => (.np, c)
  | _ => (.undef, c)
def placeL : Sto → List XV → List AV × Sto
  | c, [] => ([], c)
  | c, x :: l => ((place1 c x).1 :: (placeL (place1 c x).2 l).1, (placeL (place1 c x).2 l).2)
def placeA (c : Sto) : XV → AV × Sto
  | .agg l => (.agg (placeL c l).1, (placeL c l).2)
  | x => place1 c x
def placeAs : Sto → List XV → List AV × Sto
  | c, [] => ([], c)
  | c, x :: l => ((placeA c x).1 :: (placeAs (placeA c x).2 l).1, (placeAs (placeA c x).2 l).2)
def place (c : Sto) : XV → AV × Sto
  | .tup l => (.tup (placeAs c l).1, (placeAs c l).2)
  | x => placeA c x
theorem imp1_exp {σ σ1 : Sto} {a : AV} {x : XV} (H : exp1 σ a = some (x, σ1)) (c : Sto) : imp1 0 σ c a = some ((place1 c x).1, σ1, (place1 c x).2, x.sh1) := by
  unfold exp1 at H
  split at H
  · cases H; rfl
  · rename_i o v p
    unfold imp1
    simp only
    rw [if_neg (Nat.not_lt_zero o)]
    split at H
    · simp only
      split at H
      · rename_i k st sz rows hob
        split at H
        · rename_i hc; cases H; rw [hob]; simp only; rw [if_pos hc, ← hc.1]; rfl
        · cases H
      · rename_i m st sz rows hn hob
        split at H
        · rename_i hc; cases H; rw [hob]
          cases m with
          | own k => exact absurd rfl (hn k)
          | _ => simp only; rw [if_pos hc]; rfl
        · cases H
      · cases H
    · cases H
  · cases H; rfl
  · cases H
theorem impL_exp : ∀ (l : List AV) {σ σ1 : Sto} {xs : List XV}, expL σ l = some (xs, σ1) → ∀ c, impL 0 σ c l = some ((placeL c xs).1, σ1, (placeL c xs).2, xs.any XV.sh1)
  | [], σ, σ1, xs, H, c => by cases H; rfl
  | a :: l, σ, σ1, xs, H, c => by
    unfold expL at H
    split at H
    · rename_i x σ2 h1
      split at H
      · rename_i ys σ3 h2
        cases H
        unfold impL
        rw [imp1_exp h1 c]
        simp only
        rw [impL_exp l h2]
        rfl
      · cases H
    · cases H
theorem impA_exp {σ σ1 : Sto} {a : AV} {x : XV} (H : expA σ a = some (x, σ1)) (c : Sto) : impA 0 σ c a = some ((placeA c x).1, σ1, (placeA c x).2, x.shA) := by
  unfold expA at H
  split at H
  · rename_i l
    rw [Option.map_eq_some_iff] at H
    obtain ⟨⟨ys, σ2⟩, h1, h2⟩ := H
    cases h2
    unfold impA
    simp only
    rw [impL_exp l h1 c]; rfl
  · rename_i hn
    have h1 := imp1_exp H c
    have h2 : impA 0 σ c a = imp1 0 σ c a := by
      cases a with
      | agg l => exact absurd rfl (hn l)
      | _ => rfl
    rw [h2, h1]
    unfold exp1 at H
    split at H
    · cases H; rfl
    · split at H
      · split at H
        · split at H <;> cases H; rfl
        · split at H <;> cases H; rfl
        · cases H
      · cases H
    · cases H; rfl
    · cases H
theorem impAs_exp : ∀ (l : List AV) {σ σ1 : Sto} {xs : List XV}, expAs σ l = some (xs, σ1) → ∀ c, impAs 0 σ c l = some ((placeAs c xs).1, σ1, (placeAs c xs).2, xs.any XV.shA)
  | [], σ, σ1, xs, H, c => by cases H; rfl
  | a :: l, σ, σ1, xs, H, c => by
    unfold expAs at H
    split at H
    · rename_i x σ2 h1
      split at H
      · rename_i ys σ3 h2
        cases H
        unfold impAs
        rw [impA_exp h1 c]
        simp only
        rw [impAs_exp l h2]
        rfl
      · cases H
    · cases H
theorem expA_tup {σ σ1 : Sto} {a : AV} {l : List XV} (H : expA σ a = some (.tup l, σ1)) : False := by
  unfold expA at H
  split at H
  · rw [Option.map_eq_some_iff] at H; obtain ⟨_, _, h⟩ := H; cases h
  · unfold exp1 at H
    split at H
    · cases H
    · split at H
      · split at H
        · split at H <;> cases H
        · split at H <;> cases H
        · cases H
      · cases H
    · cases H
    · cases H
theorem impR_exp {σ : Sto} {a : AV} {x : XV} (H : expR σ a = some x) (c : Sto) : impR 0 σ c a = some ((place c x).1, (place c x).2, x.sh) := by
  unfold expR at H
  split at H
  · rename_i l
    rw [Option.map_eq_some_iff] at H
    obtain ⟨⟨ys, σ2⟩, h1, h2⟩ := H
    cases h2
    unfold impR
    simp only
    rw [impAs_exp l h1 c]; rfl
  · rename_i hn
    rw [Option.map_eq_some_iff] at H
    obtain ⟨⟨y, σ2⟩, h1, h2⟩ := H
    cases h2
    have h3 := impA_exp h1 c
    have h2 : impR 0 σ c a = (impA 0 σ c a).map fun r => (r.1, r.2.2.1, r.2.2.2) := by
      cases a with
      | tup l => exact absurd rfl (hn l)
      | _ => rfl
    rw [h2, h3]
    cases y with
    | tup l => exact (expA_tup h1).elim
    | _ => rfl
/-- A function that only reads answers x. -/
def Ret (X : Ora) (f : Nat) (as_ : List AV) (x : XV) : Prop := ∃ r σ1, X f as_ Sto.e = some (r, σ1) ∧ expR σ1 r = some x
theorem callV_ret {M : Nat → Bool} {X : Ora} {f : Nat} {as_ : List AV} {x : XV} (H : Ret X f as_ x) (hM : M f = false) {σ : Sto} {args : List AV} (ha : args.mapM (reify σ) = some as_) :
    callV M X σ f args = if x.sh then (freezeL σ (args.flatMap ids)).map fun σf => place σf x else some (place σ x) := by
  obtain ⟨r, σ1, h1, h2⟩ := H
  unfold callV
  rw [hM, ha]
  simp only [Bool.false_eq_true, if_false, h1, impR_exp h2 σ]
  cases x.sh with
  | false => rfl
  | true =>
    simp only [if_true]
    cases freezeL σ (args.flatMap ids) with
    | none => rfl
    | some σf => simp only [impR_exp h2 σf, Option.map_some]
theorem callV_d {M : Nat → Bool} {X : Ora} {f : Nat} {args : List AV} {σ σ1 : Sto} {r : AV} (hM : M f = true) (H : X f args σ = some (r, σ1)) (hn : σ1.n = σ.n) :
    callV M X σ f args = some (r, σ1) := by
  unfold callV
  rw [if_pos hM, H]
  simp only
  rw [if_pos hn]
theorem cut_eq {σ σ1 σ' : Sto} (hn : σ'.n = σ.n) (h1 : ∀ o, o < σ.n → σ1.ob o = σ'.ob o) (h2 : ∀ o, σ.n ≤ o → σ'.ob o = .dead) : σ1.cut σ.n = σ' := by
  obtain ⟨n', ob'⟩ := σ'
  simp only at hn h1 h2
  subst hn
  unfold Sto.cut
  congr 1
  funext o
  by_cases h : o < σ.n
  · rw [if_pos h]; exact h1 o h
  · rw [if_neg h]; exact (h2 o (by omega)).symm
variable {P : Program} {M : Nat → Bool} {G : Giv}
/-- What is asked of the end of a function. -/
def Ends (P : Program) (rs : Array ResultVar) (x : XV) (s : VS) : Prop := ∃ v, resV P rs s.tm s.σ = some v ∧ expR s.σ v = some x
theorem ret_W {f : Nat} {fn : Func} {args : List AV} {x : XV} (hg : G f = none) (hfn : P.funcs[f]? = some fn) {c : Code} (hb : fn.body = some c) (hname : (fn.name == "runtime.NumGoroutine") = false) (hle : args.length ≤ fn.ntmps)
    (H : W P M G c ⟨fn.ntmps, fun i => args.getD i .undef, Sto.e⟩ (Ends P fn.results x) (fun _ _ => False) (Ends P fn.results x)) : Ret (Rv P M G) f args x := by
  obtain ⟨v, σ', h1, h2⟩ := W_fn (Q := fun v σ => expR σ v = some x) hg hfn hb hname hle H
  exact ⟨v, σ', h1, h2⟩
end Go.Proofs.YtmfifjbbjjdacaaGreat.V

