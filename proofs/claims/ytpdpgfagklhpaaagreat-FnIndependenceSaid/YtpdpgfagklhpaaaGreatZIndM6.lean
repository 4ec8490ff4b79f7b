/- Several texts in one: what the claim needs of them. Conditions: each declaration's own. -/
import Derived.Test.YtpdpgfagklhpaaaGreatZIndM5
namespace Go.Proofs.YtpdpgfagklhpaaaGreat.V
open Go Go.Proofs
set_option linter.unusedVariables false
set_option linter.unusedSimpArgs false
theorem specIsAtom_r (c : Sch) (a : RA) (hl : Sm c.arity) (ha : Sm a.args) : Ret XX 88 [Ag c, Ag a] (.t (.b (isAtom c a)) false) := by
  refine ret_W rfl Tryz.func88 rfl rfl (by simp [Tryz.f88]) ?_
  simp only [Tryz.f88]
  have c1 := cv (specIsSchema_r c hl)
  have c2 := cv (l1In_r a.rel 0 (c.arity.length - 1))
  have c3 := cv (l3Terms_r a.args ha)
  have hw : IntKind.i64.wrap ((c.arity.length : Int) - 1) = (c.arity.length : Int) - 1 := wrap_ok (by omega) (by omega)
  simp only [Ag, cells_Sch, List.map_cons, List.map_nil] at c1
  cases e1 : isSch c
  · repeat' first|refine nx ?_|refine xb_miss (by decide) ?_|(apply W_reg;(simp [Ag, c1, e1];exact .r _))|(apply W_draw (id := 1) [0,1,3,7,15,7,39,103,231,511,1023,2047,4095,8191,16383,4095,36863,4095,135167,495615,1019903,2097151,4194303,8388607,16777215,33554431,67108863,134217727,268435455] rfl rfl; (· simp; exact .r _); (· simp [Ag, c1, e1]; exact .r _); (· first|trivial|simp))
    simp [isAtom, takes, e1]
  · cases e2 : inR a.rel 0 (c.arity.length - 1)
    · repeat' first|refine nx ?_|refine xb_miss (by decide) ?_|(apply W_reg;(simp [Ag, c1, e1, c2, e2, hw];exact .r _))|(apply W_draw (id := 1) [0,1,3,7,15,7,39,103,231,511,1023,2047,4095,8191,16383,4095,36863,4095,135167,495615,1019903,2097151,4194303,8388607,16777215,33554431,67108863,134217727,268435455] rfl rfl; (· simp; exact .r _); (· simp [Ag, c1, e1, c2, e2, hw]; exact .r _); (· first|trivial|simp))
      simp [isAtom, takes, e2]
    · have hb : 0 ≤ a.rel ∧ a.rel ≤ c.arity.length - 1 := by simpa [inR] using e2
      have hr : a.rel.toNat < c.arity.length := by omega
      have hr0 : 0 ≤ a.rel := hb.1
      by_cases e3 : (a.args.length : Int) = c.arity[a.rel.toNat]
      · have ht : takes c a.rel a.args.length = true := by simp [takes, e1, e2, hr, e3]
        have h3 := takes_len ht
        repeat' first|refine nx ?_|refine xb_miss (by decide) ?_|(apply W_reg;(simp [Ag, c1, e1, c2, e2, hw, hr, hr0, e3, c3];exact .r _))|(apply W_draw (id := 1) [0,1,3,7,15,7,39,103,231,511,1023,2047,4095,8191,16383,4095,36863,4095,135167,495615,1019903,2097151,4194303,8388607,16777215,33554431,67108863,134217727,268435455] rfl rfl; (· simp; exact .r _); (· simp [Ag, c1, e1, c2, e2, hw, hr, hr0, e3, c3]; exact .r _); (· first|trivial|simp))
        simp [isAtom, ht, h3]
      · have e3' : ¬ c.arity[a.rel.toNat] = (a.args.length : Int) := fun e => e3 e.symm
        repeat' first|refine nx ?_|refine xb_miss (by decide) ?_|(apply W_reg;(simp [Ag, c1, e1, c2, e2, hw, hr, hr0, e3];exact .r _))|(apply W_draw (id := 1) [0,1,3,7,15,7,39,103,231,511,1023,2047,4095,8191,16383,4095,36863,4095,135167,495615,1019903,2097151,4194303,8388607,16777215,33554431,67108863,134217727,268435455] rfl rfl; (· simp; exact .r _); (· simp [Ag, c1, e1, c2, e2, hw, hr, hr0, e3]; exact .r _); (· first|trivial|simp))
        simp [isAtom, takes, e1, e2, hr, e3']
theorem specIsFact_r (c : Sch) (a : RA) (hl : Sm c.arity) (ha : Sm a.args) : Ret XX 54 [Ag c, Ag a] (.t (.b (isFact c a)) false) := by
  refine ret_W rfl Tryz.func54 rfl rfl (by simp [Tryz.f54]) ?_
  simp only [Tryz.f54]
  have c1 := cv (specIsSchema_r c hl)
  have c2 := cv (l1In_r a.rel 0 (c.arity.length - 1))
  have hw : IntKind.i64.wrap ((c.arity.length : Int) - 1) = (c.arity.length : Int) - 1 := wrap_ok (by omega) (by omega)
  simp only [Ag, cells_Sch, List.map_cons, List.map_nil] at c1
  cases e1 : isSch c
  · repeat' first|refine nx ?_|refine xb_miss (by decide) ?_|(apply W_reg;(simp [Ag, c1, e1];exact .r _))|(apply W_draw (id := 1) [0,1,3,7,15,31,15,79,207,463,1023,2047,4095,8191,16383,32767,65535,16383,147455,16383,540671,1982463,4079615,8388607,16777215] rfl rfl; (· simp; exact .r _); (· simp [Ag, c1, e1]; exact .r _); (· first|trivial|simp))
    refine W_cond (by simp; exact .r _) (fun hc => ?_) (fun hc => ?_)
    · repeat' first|refine nx ?_|refine xb_miss (by decide) ?_|(apply W_reg;(simp;exact .r _))
      simp [isFact, takes, e1]
    · cases hc
  cases e2 : inR a.rel 0 (c.arity.length - 1)
  · repeat' first|refine nx ?_|refine xb_miss (by decide) ?_|(apply W_reg;(simp [Ag, c1, e1, c2, e2, hw];exact .r _))|(apply W_draw (id := 1) [0,1,3,7,15,31,15,79,207,463,1023,2047,4095,8191,16383,32767,65535,16383,147455,16383,540671,1982463,4079615,8388607,16777215] rfl rfl; (· simp; exact .r _); (· simp [Ag, c1, e1, c2, e2, hw]; exact .r _); (· first|trivial|simp))
    refine W_cond (by simp; exact .r _) (fun hc => ?_) (fun hc => ?_)
    · repeat' first|refine nx ?_|refine xb_miss (by decide) ?_|(apply W_reg;(simp;exact .r _))
      simp [isFact, takes, e2]
    · cases hc
  have hb : 0 ≤ a.rel ∧ a.rel ≤ c.arity.length - 1 := by simpa [inR] using e2
  have hr : a.rel.toNat < c.arity.length := by omega
  have hr0 : 0 ≤ a.rel := hb.1
  by_cases e3 : (a.args.length : Int) = c.arity[a.rel.toNat]
  case neg =>
    have e3' : ¬ c.arity[a.rel.toNat] = (a.args.length : Int) := fun e => e3 e.symm
    repeat' first|refine nx ?_|refine xb_miss (by decide) ?_|(apply W_reg;(simp [Ag, c1, e1, c2, e2, hw, hr, hr0, e3];exact .r _))|(apply W_draw (id := 1) [0,1,3,7,15,31,15,79,207,463,1023,2047,4095,8191,16383,32767,65535,16383,147455,16383,540671,1982463,4079615,8388607,16777215] rfl rfl; (· simp; exact .r _); (· simp [Ag, c1, e1, c2, e2, hw, hr, hr0, e3]; exact .r _); (· first|trivial|simp))
    refine W_cond (by simp; exact .r _) (fun hc => ?_) (fun hc => ?_)
    · repeat' first|refine nx ?_|refine xb_miss (by decide) ?_|(apply W_reg;(simp;exact .r _))
      simp [isFact, takes, e1, e2, hr, e3']
    · cases hc
  have ht : takes c a.rel a.args.length = true := by simp [takes, e1, e2, hr, e3]
  repeat' first|refine nx ?_|refine xb_miss (by decide) ?_|(apply W_reg;(simp [Ag, c1, e1, c2, e2, hw, hr, hr0, e3];exact .r _))|(apply W_draw (id := 1) [0,1,3,7,15,31,15,79,207,463,1023,2047,4095,8191,16383,32767,65535,16383,147455,16383,540671,1982463,4079615,8388607,16777215] rfl rfl; (· simp; exact .r _); (· simp [Ag, c1, e1, c2, e2, hw, hr, hr0, e3]; exact .r _); (· first|trivial|simp))
  refine W_cond (by simp; exact .r _) (fun hc => ?_) (fun hc => ?_)
  · cases hc
  repeat' first|refine nx ?_|refine xb_miss (by decide) ?_|(apply W_reg;(simp;exact .r _))
  refine W_loop (n := a.args.length) (fun n s => ∃ i : Nat, n = a.args.length - i ∧ s.nt = 45 ∧ s.tm 3 = .ptr 1 0 ∧ s.tm 5 = In i ∧ i ≤ a.args.length ∧ s.σ.ob 1 = .box [In a.rel, Ar a.args] ∧ a.args.all (fun x => inR x 0 99) = (a.args.drop i).all (fun x => inR x 0 99)) ⟨0, by simp⟩ ?_
  rintro n ⟨nt, tm, σ⟩ ⟨i, rfl, hnt, h3, h5, hi, hb1, heq⟩
  simp only at hnt h3 h5 hb1
  subst hnt
  repeat' first|refine nx ?_|refine xb_miss (by decide) ?_|(apply W_reg;(simp [h3, h5, hb1];exact .r _))
  refine W_cond (by simp [h3, h5, hb1]; exact .r _) (fun hc => ?_) (fun hc => ?_)
  · have hil : i < a.args.length := by simpa using hc
    have hcc := cv (l1In_r a.args[i] 0 99)
    repeat' first|refine nx ?_|refine xb_miss (by decide) ?_|(apply W_reg;(simp [h3, h5, hb1, hil, hcc];exact .r _))
    rw [List.drop_eq_getElem_cons hil, List.all_cons] at heq
    refine W_cond (by simp [h3, h5, hb1]; exact .r _) (fun hd => ?_) (fun hd => ?_)
    · repeat' first|refine nx ?_|refine xb_miss (by decide) ?_|(apply W_reg;(simp [h3, h5, hb1];exact .r _))
      have hd' : inR a.args[i] 0 99 = false := by simpa using hd
      simp [isFact, heq, hd']
    · have hd' : inR a.args[i] 0 99 = true := by simpa using hd
      repeat' first|refine nx ?_|refine xb_miss (by decide) ?_|(apply W_reg;(simp [h3, h5, hb1];exact .r _))
      refine ⟨_, ?_, i + 1, rfl, rfl, ?_, ?_, by omega, ?_, by (rw [heq]; simp [hd'])⟩
      all_goals first|assumption|(simp [h3, h5, hb1];done)|(simp [h3, h5, hb1];omega)|(simp [h3, h5, hb1];exact wrap_succ (by omega))|omega
  have hil : i = a.args.length := by simp at hc; omega
  subst hil
  rw [List.drop_length, List.all_nil] at heq
  repeat' first|refine nx ?_|refine xb_miss (by decide) ?_|(apply W_reg;(simp [h3, h5, hb1];exact .r _))
  simp [isFact, ht, heq]
theorem specIsQuery4_r (c : Sch) (q : Qry) (hl : Sm c.arity) (hh : Sm q.head) (hb : Sm q.body) (ha : ∀ a ∈ q.body, Sm a.args) : Ret XX 78 [Ag c, Ag q, In 4] (.t (.b (isQry c q)) false) := by
  refine ret_W rfl Tryz.func78 rfl rfl (by simp [Tryz.f78]) ?_
  simp only [Tryz.f78]
  have c1 := cv (specIsSchema_r c hl)
  have c2 := cv (l3Terms_r q.head hh)
  have c3 := cv (l1In_r q.body.length 1 4)
  simp only [Ag, cells_Sch, List.map_cons, List.map_nil] at c1
  cases e1 : isSch c
  · repeat' first|refine nx ?_|refine xb_miss (by decide) ?_|(apply W_reg;(simp [Ag, c1, e1];exact .r _))
    refine W_cond (by simp; exact .r _) (fun hc => ?_) (fun hc => ?_)
    · repeat' first|refine nx ?_|refine xb_miss (by decide) ?_|(apply W_reg;(simp;exact .r _))
      simp [isQry, e1]
    · cases hc
  cases e2 : (q.head.all isTerm && decide (q.head.length ≤ 3))
  · repeat' first|refine nx ?_|refine xb_miss (by decide) ?_|(apply W_reg;(simp [Ag, c1, e1, c2, e2];exact .r _))
    refine W_cond (by simp; exact .r _) (fun hc => ?_) (fun hc => ?_)
    · repeat' first|refine nx ?_|refine xb_miss (by decide) ?_|(apply W_reg;(simp;exact .r _))
      have : isQry c q = false := by
        cases h : isQry c q with
        | false => rfl
        | true => simp only [isQry, Bool.and_eq_true] at h; rw [h.1.1.1.2, h.1.1.1.1.2] at e2; cases e2
      simp [this]
    · cases hc
  cases e4 : inR q.body.length 1 4
  · repeat' first|refine nx ?_|refine xb_miss (by decide) ?_|(apply W_reg;(simp [Ag, c1, e1, c2, e2, c3, e4];exact .r _))
    refine W_cond (by simp; exact .r _) (fun hc => ?_) (fun hc => ?_)
    · repeat' first|refine nx ?_|refine xb_miss (by decide) ?_|(apply W_reg;(simp;exact .r _))
      simp [isQry, e4]
    · cases hc
  have e2' : (∀ x ∈ q.head, isTerm x = true) ∧ q.head.length ≤ 3 := by simpa using e2
  repeat' first|refine nx ?_|refine xb_miss (by decide) ?_|(apply W_reg;(simp [Ag, c1, e1, c2, e2, c3, e4];exact .r _))
  refine W_cond (by simp; exact .r _) (fun hc => ?_) (fun hc => ?_)
  · cases hc
  repeat' first|refine nx ?_|refine xb_miss (by decide) ?_|(apply W_reg;(simp;exact .r _))
  refine W_loop (n := q.body.length) (fun n s => ∃ i : Nat, n = q.body.length - i ∧ s.nt = 65 ∧ s.tm 3 = .ptr 0 0 ∧ s.tm 4 = .ptr 1 0 ∧ s.tm 7 = In i ∧ i ≤ q.body.length ∧ s.σ.ob 0 = .box [Ar c.arity] ∧ s.σ.ob 1 = .box [Ar q.head, Ar q.body] ∧ 2 ≤ s.σ.n ∧ q.body.all (isAtom c) = (q.body.drop i).all (isAtom c)) ⟨0, by simp⟩ ?_
  rintro n ⟨nt, tm, σ⟩ ⟨i, rfl, hnt, h3, h4, h7, hi, hb0, hb1, hn, heq⟩
  simp only at hnt h3 h4 h7 hb0 hb1 hn
  subst hnt
  have n0 : ¬ (0 = σ.n) := by omega
  have n1 : ¬ (1 = σ.n) := by omega
  have n0' : ¬ (σ.n = 0) := by omega
  have n1' : ¬ (σ.n = 1) := by omega
  repeat' first|refine nx ?_|refine xb_miss (by decide) ?_|(apply W_reg;(simp [h3, h4, h7, hb0, hb1, hn];exact .r _))
  refine W_cond (by simp [h3, h4, h7, hb0, hb1, hn]; exact .r _) (fun hc => ?_) (fun hc => ?_)
  · have hil : i < q.body.length := by simpa using hc
    have hcc := cv (specIsAtom_r c q.body[i] hl (ha _ (List.getElem_mem hil)))
    simp only [Ag, cells_Sch, cells_RA, List.map_cons, List.map_nil] at hcc
    repeat' first|refine nx ?_|refine xb_miss (by decide) ?_|(apply W_reg;(simp [h3, h4, h7, hb0, hb1, hn, hil, hcc, n0, n1, n0', n1'];exact .r _))|(apply W_draw (id := 6) [0,0,2,0,14,30,63,127] rfl rfl; (· simp; exact .r _); (· simp [h3, h4, h7, hb0, hb1, hn, hil, hcc, n0, n1, n0', n1']; exact .r _); (· first|trivial|simp))
    rw [List.drop_eq_getElem_cons hil, List.all_cons] at heq
    refine W_cond (by simp [h3, h4, h7, hb0, hb1, hn]; exact .r _) (fun hd => ?_) (fun hd => ?_)
    · repeat' first|refine nx ?_|refine xb_miss (by decide) ?_|(apply W_reg;(simp [h3, h4, h7, hb0, hb1, hn];exact .r _))
      have hd' : isAtom c q.body[i] = false := by simpa using hd
      simp [isQry, heq, hd']
    · have hd' : isAtom c q.body[i] = true := by simpa using hd
      repeat' first|refine nx ?_|refine xb_miss (by decide) ?_|(apply W_reg;(simp [h3, h4, h7, hb0, hb1, hn];exact .r _))
      refine ⟨_, ?_, i + 1, rfl, rfl, ?_, ?_, ?_, by omega, ?_, ?_, ?_, by (rw [heq]; simp [hd'])⟩
      all_goals first|assumption|(simp [h3, h4, h7, hb0, hb1, hn, n0, n1, n0', n1'];done)|(simp [h3, h4, h7, hb0, hb1, hn, n0, n1, n0', n1'];omega)|(simp [h3, h4, h7, hb0, hb1, hn, n0, n1, n0', n1'];exact wrap_succ (by omega))|omega
  have hil : i = q.body.length := by simp at hc; omega
  subst hil
  rw [List.drop_length, List.all_nil] at heq
  have hbl : q.body.length ≤ 4 := by simp [inR] at e4; omega
  have hal : ∀ a ∈ q.body, a.args.length ≤ 3 := fun a ha => by
    have := List.all_eq_true.1 heq a ha
    simp only [isAtom, Bool.and_eq_true] at this
    exact takes_len this.1
  have c4 := cv (bodyVars_r q (by omega) fun a ha => by have := hal a ha; omega)
  simp only [Ag, cells_Q, List.map_cons, List.map_nil] at c4
  have hbv := bvars_len q (by omega) fun a ha => by have := hal a ha; omega
  repeat' first|refine nx ?_|refine xb_miss (by decide) ?_|(apply W_reg;(simp [h3, h4, h7, hb0, hb1, hn];exact .r _))
  refine W_loop (n := q.head.length) (fun n s => ∃ i : Nat, n = q.head.length - i ∧ s.nt = 65 ∧ s.tm 4 = .ptr 1 0 ∧ s.tm 8 = In i ∧ i ≤ q.head.length ∧ s.σ.ob 1 = .box [Ar q.head, Ar q.body] ∧ 2 ≤ s.σ.n ∧ isSafe q = (q.head.drop i).all (fun t => !isVar t || occurs q t)) ⟨0, by simp [h4, hb1, hn, isSafe]⟩ ?_
  rintro n ⟨nt, tm, σ⟩ ⟨i, rfl, hnt, h4, h8, hi, hb1, hn, hsf⟩
  simp only at hnt h4 h8 hb1 hn
  subst hnt
  have n1 : ¬ (1 = σ.n) := by omega
  have n1' : ¬ (σ.n = 1) := by omega
  repeat' first|refine nx ?_|refine xb_miss (by decide) ?_|(apply W_reg;(simp [h4, h8, hb1, hn];exact .r _))
  refine W_cond (by simp [h4, h8, hb1, hn]; exact .r _) (fun hc => ?_) (fun hc => ?_)
  · have hil : i < q.head.length := by simpa using hc
    have c5 := cv (specIsVar_r q.head[i])
    have c6 := cv (l2Has_r (bvars [] q.body) q.head[i] (by unfold Sm; omega))
    rw [List.drop_eq_getElem_cons hil, List.all_cons] at hsf
    cases e : isVar q.head[i]
    · repeat' first|refine nx ?_|refine xb_miss (by decide) ?_|(apply W_reg;(simp [h4, h8, hb1, hn, hil, c5, e, n1, n1'];exact .r _))|(apply W_draw (id := 11) [0,1,0,7,15,31,63,127,255,127,639,127,3711,7807,16383,32767,65535] rfl rfl; (· simp; exact .r _); (· simp [h4, h8, hb1, hn, hil, c5, e, n1, n1']; exact .r _); (· first|trivial|simp))
      refine W_cond (by simp [h4, h8, hb1, hn]; exact .r _) (fun hd => ?_) (fun hd => ?_)
      · cases hd
      · repeat' first|refine nx ?_|refine xb_miss (by decide) ?_|(apply W_reg;(simp [h4, h8, hb1, hn];exact .r _))
        refine ⟨_, ?_, i + 1, rfl, rfl, ?_, ?_, by omega, ?_, ?_, by (rw [hsf, e]; simp)⟩
        all_goals first|assumption|(simp [h4, h8, hb1, hn, n1, n1'];done)|(simp [h4, h8, hb1, hn, n1, n1'];omega)|(simp [h4, h8, hb1, hn, n1, n1'];exact wrap_succ (by omega))|omega
    · have hm : q.head[i] ∈ bvars [] q.body ↔ ∃ a ∈ q.body, q.head[i] ∈ a.args := by
        rw [bvars_mem]
        have h0 := (isVar_iff.1 e).1
        simp [h0]
      repeat' first|refine nx ?_|refine xb_miss (by decide) ?_|(apply W_reg;(simp [h4, h8, hb1, hn, hil, c5, e, c4, c6, n1, n1'];exact .r _))|(apply W_draw (id := 11) [0,1,0,7,15,31,63,127,255,127,639,127,3711,7807,16383,32767,65535] rfl rfl; (· simp; exact .r _); (· simp [h4, h8, hb1, hn, hil, c5, e, c4, c6, n1, n1']; exact .r _); (· first|trivial|simp))
      refine W_cond (by simp [h4, h8, hb1, hn]; exact .r _) (fun hd => ?_) (fun hd => ?_)
      · have hd' : q.head[i] ∉ bvars [] q.body := by simpa using hd
        have ho : occurs q q.head[i] = false := by
          cases h : occurs q q.head[i] with
          | false => rfl
          | true => exact absurd (hm.2 (by simpa [occurs] using h)) hd'
        repeat' first|refine nx ?_|refine xb_miss (by decide) ?_|(apply W_reg;(simp [h4, h8, hb1, hn];exact .r _))
        simp [isQry, hsf, e, ho]
      · have hd' : q.head[i] ∈ bvars [] q.body := by simpa using hd
        have ho : occurs q q.head[i] = true := by
          simpa [occurs] using hm.1 hd'
        repeat' first|refine nx ?_|refine xb_miss (by decide) ?_|(apply W_reg;(simp [h4, h8, hb1, hn];exact .r _))
        refine ⟨_, ?_, i + 1, rfl, rfl, ?_, ?_, by omega, ?_, ?_, by (rw [hsf, e, ho]; simp)⟩
        all_goals first|assumption|(simp [h4, h8, hb1, hn, n1, n1'];done)|(simp [h4, h8, hb1, hn, n1, n1'];omega)|(simp [h4, h8, hb1, hn, n1, n1'];exact wrap_succ (by omega))|omega
  have hil : i = q.head.length := by simp at hc; omega
  subst hil
  rw [List.drop_length, List.all_nil] at hsf
  repeat' first|refine nx ?_|refine xb_miss (by decide) ?_|(apply W_reg;(simp [h4, h8, hb1, hn];exact .r _))
  have e2a : q.head.all isTerm = true := List.all_eq_true.2 e2'.1
  simp only [isQry, e1, e2a, e2'.2, e4, heq, hsf]; simp
theorem specIsQuery_r (c : Sch) (q : Qry) (hl : Sm c.arity) (hh : Sm q.head) (hb : Sm q.body) (ha : ∀ a ∈ q.body, Sm a.args) : Ret XX 59 [Ag c, Ag q] (.t (.b (isQry c q)) false) := by
  refine ret_W rfl Tryz.func59 rfl rfl (by simp [Tryz.f59]) ?_
  simp only [Tryz.f59]
  have c1 := cv (specIsQuery4_r c q hl hh hb ha)
  simp only [Ag, cells_Sch, cells_Q, List.map_cons, List.map_nil] at c1
  repeat' first|refine nx ?_|refine xb_miss (by decide) ?_|(apply W_reg;(simp [Ag, c1];exact .r _))
  simp
theorem equalFact_r (a b : RA) (ha : Sm a.args) : Ret XX 38 [Ag a, Ag b] (.t (.b (decide (a = b))) false) := by
  refine ret_W rfl Tryz.func38 rfl rfl (by simp [Tryz.f38]) ?_
  simp only [Tryz.f38]
  have c1 := cv (eqInts_r a.args b.args ha)
  by_cases h : a.rel = b.rel
  · repeat' first|refine nx ?_|refine xb_miss (by decide) ?_|(apply W_reg;(simp [Ag, c1, h];exact .r _))
    have : a = b ↔ a.args = b.args := ⟨fun e => by rw [e], fun e => by cases a; cases b; simp only at h e; rw [h, e]⟩
    simp [this]
  · repeat' first|refine nx ?_|refine xb_miss (by decide) ?_|(apply W_reg;(simp [Ag, c1, h];exact .r _))
    have : a ≠ b := fun e => h (by rw [e])
    simp [this]
theorem l5Same_r (a b : RA) (ha : Sm a.args) : Ret XX 26 [Ag a, Ag b] (.t (.b (decide (a = b))) false) := by
  refine ret_W rfl Tryz.func26 rfl rfl (by simp [Tryz.f26]) ?_
  simp only [Tryz.f26]
  have c1 := cv (l2Ints_r a.args b.args ha)
  by_cases h : a.rel = b.rel
  · repeat' first|refine nx ?_|refine xb_miss (by decide) ?_|(apply W_reg;(simp [Ag, c1, h];exact .r _))
    have : a = b ↔ a.args = b.args := ⟨fun e => by rw [e], fun e => by cases a; cases b; simp only at h e; rw [h, e]⟩
    simp [this]
  · repeat' first|refine nx ?_|refine xb_miss (by decide) ?_|(apply W_reg;(simp [Ag, c1, h];exact .r _))
    have : a ≠ b := fun e => h (by rw [e])
    simp [this]
theorem l5Less_r (a b : RA) (ha : Sm a.args) : Ret XX 55 [Ag a, Ag b] (.t (.b (decide (cmpF a b < 0))) false) := by
  refine ret_W rfl Tryz.func55 rfl rfl (by simp [Tryz.f55]) ?_
  simp only [Tryz.f55]
  have c1 := cv (l2Less_r a.args b.args ha)
  by_cases h : a.rel = b.rel
  · repeat' first|refine nx ?_|refine xb_miss (by decide) ?_|(apply W_reg;(simp [Ag, h];exact .r _))
    refine W_cond (by simp; exact .r _) (fun hc => ?_) (fun hc => ?_)
    · cases hc
    repeat' first|refine nx ?_|refine xb_miss (by decide) ?_|(apply W_reg;(simp [Ag, c1, h];exact .r _))
    have : cmpF a b = cmpI a.args b.args := by unfold cmpF; rw [if_neg (by omega), if_neg (by omega)]
    simp [this]
  · repeat' first|refine nx ?_|refine xb_miss (by decide) ?_|(apply W_reg;(simp [Ag, h];exact .r _))
    refine W_cond (by simp; exact .r _) (fun hc => ?_) (fun hc => ?_)
    · repeat' first|refine nx ?_|refine xb_miss (by decide) ?_|(apply W_reg;(simp;exact .r _))
      by_cases h2 : a.rel < b.rel
      · have : cmpF a b = -1 := by unfold cmpF; rw [if_pos h2]
        simp [this, h2]
      · have : cmpF a b = 1 := by unfold cmpF; rw [if_neg h2, if_pos (by omega)]
        simp [this, h2]
    · cases hc
theorem ascF_short : ∀ {l : List RA}, l.length ≤ 1 → ascF l = true
  | [], _ => rfl
  | [_], _ => rfl
/-- A database's facts, from the i-th on, seen from the one before. -/
def dbOk (c : Sch) (db : List RA) (i : Nat) : Bool := (db.drop i).all (isFact c) && ascF (db.drop (i - 1))
theorem dbOk_end {c : Sch} {db : List RA} : dbOk c db db.length = true := by
  unfold dbOk
  rw [List.drop_length, ascF_short (by simp; omega)]; rfl
theorem dbOk_step {c : Sch} {db : List RA} {i : Nat} (h : i < db.length) : dbOk c db i = (isFact c db[i] && (i == 0 || decide (cmpF db[i - 1] db[i] < 0)) && dbOk c db (i + 1)) := by
  unfold dbOk
  rw [List.drop_eq_getElem_cons h, List.all_cons]
  cases i with
  | zero =>
    simp only [Nat.zero_sub, List.drop_zero, Nat.zero_add, Nat.sub_self, beq_self_eq_true, Bool.true_or, Bool.and_true]
    rw [Bool.and_assoc]
  | succ i =>
    have e : (i + 1 - 1) = i := by omega
    simp only [e]
    have e2 : i + 1 + 1 - 1 = i + 1 := by omega
    rw [e2, show db.drop i = db[i] :: db[i + 1] :: db.drop (i + 2) by rw [List.drop_eq_getElem_cons (by omega), List.drop_eq_getElem_cons h], ascF, ← List.drop_eq_getElem_cons h]
    have e3 : (i + 1 == 0) = false := rfl
    rw [e3, Bool.false_or]
    cases isFact c db[i + 1] <;> cases decide (cmpF db[i] db[i + 1] < 0) <;> cases (List.drop (i + 1 + 1) db).all (isFact c) <;> rfl
theorem isDb_of (c : Sch) (db : List RA) : isDb c db = (dbOk c db 0 && isSch c && decide (db.length ≤ 24)) := by
  unfold isDb dbOk; simp
theorem implIsDb_r (c : Sch) (db : List RA) (hl : Sm c.arity) (hd : Sm db) (ha : ∀ a ∈ db, Sm a.args) : Ret XX 35 [Ag c, Ar db] (.t (.b (isDb c db)) false) := by
  refine ret_W rfl Tryz.func35 rfl rfl (by simp [Tryz.f35]) ?_
  simp only [Tryz.f35]
  have d1 := cv (implIsSchema_r c hl)
  simp only [Ag, cells_Sch, List.map_cons, List.map_nil] at d1
  repeat' first|refine nx ?_|refine xb_miss (by decide) ?_|(apply W_reg;(simp [Ag];exact .r _))
  refine W_loop (n := db.length) (fun n s => ∃ i : Nat, n = db.length - i ∧ s.nt = 40 ∧ s.tm 1 = Ar db ∧ s.tm 2 = .ptr 0 0 ∧ s.tm 7 = Ar db ∧ s.tm 8 = In db.length ∧ s.tm 9 = In i ∧ i ≤ db.length ∧ s.σ.ob 0 = .box [Ar c.arity] ∧ 1 ≤ s.σ.n ∧ dbOk c db 0 = dbOk c db i) ⟨0, by simp⟩ ?_
  rintro n ⟨nt, tm, σ⟩ ⟨i, rfl, hnt, h1, h2, h7, h8, h9, hi, hb0, hn, heq⟩
  simp only at hnt h1 h2 h7 h8 h9 hb0 hn
  subst hnt
  have n0 : ¬ (0 = σ.n) := by omega
  have n0' : ¬ (σ.n = 0) := by omega
  repeat' first|refine nx ?_|refine xb_miss (by decide) ?_|(apply W_reg;(simp [h1, h2, h7, h8, h9, hb0, hn];exact .r _))
  refine W_cond (by simp [h1, h2, h7, h8, h9, hb0, hn]; exact .r _) (fun hc => ?_) (fun hc => ?_)
  · have hil : i < db.length := by simpa using hc
    have d2 := cv (implIsFact_r c db[i] hl (ha _ (List.getElem_mem hil)))
    simp only [Ag, cells_Sch, cells_RA, List.map_cons, List.map_nil] at d2
    rw [dbOk_step hil] at heq
    cases e1 : isFact c db[i]
    · repeat' first|refine nx ?_|refine xb_miss (by decide) ?_|(apply W_reg;(simp [h1, h2, h7, h8, h9, hb0, hn, hil, d2, e1, n0, n0'];exact .r _))|(apply W_draw (id := 4) [0,0,3,7,15,31,63,127,255,255,767,2047,4095,255,16383,32767,65535,131071] rfl rfl; (· simp; exact .r _); (· simp [h1, h2, h7, h8, h9, hb0, hn, hil, d2, e1, n0, n0']; exact .r _); (· first|trivial|simp))
      refine W_cond (by simp [h1, h2, h7, h8, h9, hb0, hn]; exact .r _) (fun he => ?_) (fun he => ?_)
      · repeat' first|refine nx ?_|refine xb_miss (by decide) ?_|(apply W_reg;(simp [h1, h2, h7, h8, h9, hb0, hn];exact .r _))
        rw [isDb_of, heq, e1]; simp
      · cases he
    · cases i with
      | zero =>
        repeat' first|refine nx ?_|refine xb_miss (by decide) ?_|(apply W_reg;(simp [h1, h2, h7, h8, h9, hb0, hn, hil, d2, e1, n0, n0'];exact .r _))|(apply W_draw (id := 4) [0,0,3,7,15,31,63,127,255,255,767,2047,4095,255,16383,32767,65535,131071] rfl rfl; (· simp; exact .r _); (· simp [h1, h2, h7, h8, h9, hb0, hn, hil, d2, e1, n0, n0']; exact .r _); (· first|trivial|simp))
        refine W_cond (by simp [h1, h2, h7, h8, h9, hb0, hn]; exact .r _) (fun he => ?_) (fun he => ?_)
        · cases he
        · repeat' first|refine nx ?_|refine xb_miss (by decide) ?_|(apply W_reg;(simp [h1, h2, h7, h8, h9, hb0, hn];exact .r _))
          refine ⟨_, ?_, 1, rfl, rfl, ?_, ?_, ?_, ?_, ?_, by omega, ?_, ?_, by (rw [heq, e1]; simp)⟩
          all_goals first|assumption|(simp [h1, h2, h7, h8, h9, hb0, hn, n0, n0'];done)|(simp [h1, h2, h7, h8, h9, hb0, hn, n0, n0'];omega)|(simp [h1, h2, h7, h8, h9, hb0, hn, n0, n0'];exact wrap_succ (by omega))|omega
      | succ i =>
        have hi1 : i < db.length := by omega
        have d3 := cv (cmpF_r db[i] db[i + 1] (ha _ (List.getElem_mem hi1)))
        simp only [Ag, cells_RA, List.map_cons, List.map_nil] at d3
        have hw : IntKind.i64.wrap (i : Int) = (i : Int) := wrap_ok (by omega) (by omega)
        have hp : (0 : Int) < (i : Int) + 1 := by omega
        have h5 : (0 : Int) ≤ (i : Int) + 1 := by omega
        have h6 : ((i : Int) + 1).toNat = i + 1 := by omega
        repeat' first|refine nx ?_|refine xb_miss (by decide) ?_|(apply W_reg;(simp [h1, h2, h7, h8, h9, hb0, hn, hil, hi1, d2, e1, d3, hw, hp, h5, h6, n0, n0'];exact .r _))|(apply W_draw (id := 4) [0,0,3,7,15,31,63,127,255,255,767,2047,4095,255,16383,32767,65535,131071] rfl rfl; (· simp; exact .r _); (· simp [h1, h2, h7, h8, h9, hb0, hn, hil, hi1, d2, e1, d3, hw, hp, h5, h6, n0, n0']; exact .r _); (· first|trivial|simp))
        refine W_cond (by simp [h1, h2, h7, h8, h9, hb0, hn]; exact .r _) (fun he => ?_) (fun he => ?_)
        · repeat' first|refine nx ?_|refine xb_miss (by decide) ?_|(apply W_reg;(simp [h1, h2, h7, h8, h9, hb0, hn];exact .r _))
          have : ¬ cmpF db[i] db[i + 1] < 0 := by simp at he; omega
          rw [isDb_of, heq]; simp [this]
        · have : cmpF db[i] db[i + 1] < 0 := by simp at he; omega
          repeat' first|refine nx ?_|refine xb_miss (by decide) ?_|(apply W_reg;(simp [h1, h2, h7, h8, h9, hb0, hn];exact .r _))
          refine ⟨_, ?_, i + 1 + 1, rfl, rfl, ?_, ?_, ?_, ?_, by (simp [h9]; rw [wrap_ok (by omega) (by omega)]; omega), by omega, ?_, ?_, by (rw [heq, e1]; simp [this])⟩
          all_goals first|assumption|(simp [h1, h2, h7, h8, h9, hb0, hn, n0, n0'];done)|(simp [h1, h2, h7, h8, h9, hb0, hn, n0, n0'];omega)|(simp [h1, h2, h7, h8, h9, hb0, hn, n0, n0'];exact wrap_succ (by omega))|omega
  have hil : i = db.length := by simp at hc; omega
  subst hil
  rw [dbOk_end] at heq
  rw [isDb_of, heq]
  cases e : isSch c
  · repeat' first|refine nx ?_|refine xb_miss (by decide) ?_|(apply W_reg;(simp [h1, h2, h7, h8, h9, hb0, hn, d1, e];exact .r _))
    simp
  · repeat' first|refine nx ?_|refine xb_miss (by decide) ?_|(apply W_reg;(simp [h1, h2, h7, h8, h9, hb0, hn, d1, e];exact .r _))
    simp; omega
theorem specIsDb_r (c : Sch) (db : List RA) (hl : Sm c.arity) (hd : Sm db) (ha : ∀ a ∈ db, Sm a.args) : Ret XX 23 [Ag c, Ar db] (.t (.b (isDb c db)) false) := by
  refine ret_W rfl Tryz.func23 rfl rfl (by simp [Tryz.f23]) ?_
  simp only [Tryz.f23]
  have d1 := cv (specIsSchema_r c hl)
  simp only [Ag, cells_Sch, List.map_cons, List.map_nil] at d1
  repeat' first|refine nx ?_|refine xb_miss (by decide) ?_|(apply W_reg;(simp [Ag];exact .r _))
  refine W_loop (n := db.length) (fun n s => ∃ i : Nat, n = db.length - i ∧ s.nt = 43 ∧ s.tm 1 = Ar db ∧ s.tm 2 = .ptr 0 0 ∧ s.tm 5 = In i ∧ i ≤ db.length ∧ s.σ.ob 0 = .box [Ar c.arity] ∧ 1 ≤ s.σ.n ∧ dbOk c db 0 = dbOk c db i) ⟨0, by simp⟩ ?_
  rintro n ⟨nt, tm, σ⟩ ⟨i, rfl, hnt, h1, h2, h5, hi, hb0, hn, heq⟩
  simp only at hnt h1 h2 h5 hb0 hn
  subst hnt
  have n0 : ¬ (0 = σ.n) := by omega
  have n0' : ¬ (σ.n = 0) := by omega
  repeat' first|refine nx ?_|refine xb_miss (by decide) ?_|(apply W_reg;(simp [h1, h2, h5, hb0, hn];exact .r _))
  refine W_cond (by simp [h1, h2, h5, hb0, hn]; exact .r _) (fun hc => ?_) (fun hc => ?_)
  · have hil : i < db.length := by simpa using hc
    have d2 := cv (specIsFact_r c db[i] hl (ha _ (List.getElem_mem hil)))
    simp only [Ag, cells_Sch, cells_RA, List.map_cons, List.map_nil] at d2
    rw [dbOk_step hil] at heq
    cases e1 : isFact c db[i]
    · repeat' first|refine nx ?_|refine xb_miss (by decide) ?_|(apply W_reg;(simp [h1, h2, h5, hb0, hn, hil, d2, e1, n0, n0'];exact .r _))|(apply W_draw (id := 4) [0,0,0,6,14,31,63,127,255,511,1023,2047,2047,6143,16383,32767,2047,2047,198655,460799,1048575,2097151,4194303,8388607] rfl rfl; (· simp; exact .r _); (· simp [h1, h2, h5, hb0, hn, hil, d2, e1, n0, n0']; exact .r _); (· first|trivial|simp))
      refine W_cond (by simp [h1, h2, h5, hb0, hn]; exact .r _) (fun he => ?_) (fun he => ?_)
      · repeat' first|refine nx ?_|refine xb_miss (by decide) ?_|(apply W_reg;(simp [h1, h2, h5, hb0, hn];exact .r _))
        rw [isDb_of, heq, e1]; simp
      · cases he
    · cases i with
      | zero =>
        repeat' first|refine nx ?_|refine xb_miss (by decide) ?_|(apply W_reg;(simp [h1, h2, h5, hb0, hn, hil, d2, e1, n0, n0'];exact .r _))|(apply W_draw (id := 4) [0,0,0,6,14,31,63,127,255,511,1023,2047,2047,6143,16383,32767,2047,2047,198655,460799,1048575,2097151,4194303,8388607] rfl rfl; (· simp; exact .r _); (· simp [h1, h2, h5, hb0, hn, hil, d2, e1, n0, n0']; exact .r _); (· first|trivial|simp))
        refine W_cond (by simp [h1, h2, h5, hb0, hn]; exact .r _) (fun he => ?_) (fun he => ?_)
        · cases he
        · repeat' first|refine nx ?_|refine xb_miss (by decide) ?_|(apply W_reg;(simp [h1, h2, h5, hb0, hn];exact .r _))
          refine ⟨_, ?_, 1, rfl, rfl, ?_, ?_, ?_, by omega, ?_, ?_, by (rw [heq, e1]; simp)⟩
          all_goals first|assumption|(simp [h1, h2, h5, hb0, hn, n0, n0'];done)|(simp [h1, h2, h5, hb0, hn, n0, n0'];omega)|(simp [h1, h2, h5, hb0, hn, n0, n0'];exact wrap_succ (by omega))|omega
      | succ i =>
        have hi1 : i < db.length := by omega
        have d3 := cv (l5Less_r db[i] db[i + 1] (ha _ (List.getElem_mem hi1)))
        simp only [Ag, cells_RA, List.map_cons, List.map_nil] at d3
        have hw : IntKind.i64.wrap (i : Int) = (i : Int) := wrap_ok (by omega) (by omega)
        have hp : (0 : Int) < (i : Int) + 1 := by omega
        have h5' : (0 : Int) ≤ (i : Int) + 1 := by omega
        have h6 : ((i : Int) + 1).toNat = i + 1 := by omega
        repeat' first|refine nx ?_|refine xb_miss (by decide) ?_|(apply W_reg;(simp [h1, h2, h5, hb0, hn, hil, hi1, d2, e1, d3, hw, hp, h5', h6, n0, n0'];exact .r _))|(apply W_draw (id := 4) [0,0,0,6,14,31,63,127,255,511,1023,2047,2047,6143,16383,32767,2047,2047,198655,460799,1048575,2097151,4194303,8388607] rfl rfl; (· simp; exact .r _); (· simp [h1, h2, h5, hb0, hn, hil, hi1, d2, e1, d3, hw, hp, h5', h6, n0, n0']; exact .r _); (· first|trivial|simp))
        refine W_cond (by simp [h1, h2, h5, hb0, hn]; exact .r _) (fun he => ?_) (fun he => ?_)
        · repeat' first|refine nx ?_|refine xb_miss (by decide) ?_|(apply W_reg;(simp [h1, h2, h5, hb0, hn];exact .r _))
          have : ¬ cmpF db[i] db[i + 1] < 0 := by simp at he; omega
          rw [isDb_of, heq]; simp [this]
        · have : cmpF db[i] db[i + 1] < 0 := by simp at he; omega
          repeat' first|refine nx ?_|refine xb_miss (by decide) ?_|(apply W_reg;(simp [h1, h2, h5, hb0, hn];exact .r _))
          refine ⟨_, ?_, i + 1 + 1, rfl, rfl, ?_, ?_, by (simp [h5]; rw [wrap_ok (by omega) (by omega)]; omega), by omega, ?_, ?_, by (rw [heq, e1]; simp [this])⟩
          all_goals first|assumption|(simp [h1, h2, h5, hb0, hn, n0, n0'];done)|(simp [h1, h2, h5, hb0, hn, n0, n0'];omega)|(simp [h1, h2, h5, hb0, hn, n0, n0'];exact wrap_succ (by omega))|omega
  have hil : i = db.length := by simp at hc; omega
  subst hil
  rw [dbOk_end] at heq
  rw [isDb_of, heq]
  cases e : isSch c
  · repeat' first|refine nx ?_|refine xb_miss (by decide) ?_|(apply W_reg;(simp [h1, h2, h5, hb0, hn, d1, e];exact .r _))
    simp
  · repeat' first|refine nx ?_|refine xb_miss (by decide) ?_|(apply W_reg;(simp [h1, h2, h5, hb0, hn, d1, e];exact .r _))
    simp; omega
end Go.Proofs.YtpdpgfagklhpaaaGreat.V

namespace Go.Proofs.YtpdpgfagklhpaaaGreat.V
open Go Go.Proofs
set_option linter.unusedVariables false
set_option linter.unusedSimpArgs false
/-- A binding's cells: the values, then which of them are bound. -/
def tB (b : Bnd) : List T := b.map (fun o => T.i .i64 (o.getD 0)) ++ b.map fun o => T.b o.isSome
def cB (b : Bnd) : List AV := (tB b).map .t
theorem tB_len {b : Bnd} (h : b.length = 20) : (tB b).length = 40 := by simp [tB, h]
theorem cB_len {b : Bnd} (h : b.length = 20) : (cB b).length = 40 := by simp [cB, tB, h]
theorem cB_one (b : Bnd) : (cB b).all AV.one = true := by simp [cB, AV.one]
theorem cB_take {b : Bnd} (h : b.length = 20) : (cB b).take 40 = cB b := by rw [List.take_of_length_le]; rw [cB_len h]; exact Nat.le_refl _
theorem cB_clean (b : Bnd) (n : Nat) : (cB b).all (cleanA n) = true := by simp [cB, cleanA, clean1]
theorem tB_flat (b : Bnd) : ∀ x ∈ tB b, x.flat = true ∧ x.nz = x := by
  intro x hx
  simp only [tB, List.mem_append, List.mem_map] at hx
  rcases hx with ⟨o, _, rfl⟩ | ⟨o, _, rfl⟩ <;> exact ⟨rfl, rfl⟩
theorem mapM_re {σ : Sto} : ∀ {l : List T}, (∀ x ∈ l, x.flat = true ∧ x.nz = x) → (l.map AV.t).mapM (reify1 σ) = some l
  | [], _ => rfl
  | x :: l, h => by
    have e : reify1 σ (.t x) = some x := by show some x.nz = some x; rw [(h x (by simp)).2]
    rw [List.map_cons, List.mapM_cons, e, mapM_re fun y hy => h y (List.mem_cons_of_mem _ hy)]
    rfl
theorem cB_re (b : Bnd) (σ : Sto) : (cB b).mapM (reify1 σ) = some (tB b) := mapM_re (tB_flat b)
theorem expL_flat {σ : Sto} : ∀ {l : List T}, (∀ x ∈ l, x.flat = true ∧ x.nz = x) → expL σ (l.map AV.t) = some (l.map fun x => XV.t x false, σ)
  | [], _ => rfl
  | x :: l, h => by
    have h1 := h x (by simp)
    have e : exp1 σ (.t x) = some (XV.t x false, σ) := by
      simp only [exp1, h1.2]
      cases x with
      | sl => cases h1.1
      | _ => rfl
    simp only [List.map_cons, expL, e, expL_flat fun y hy => h y (List.mem_cons_of_mem _ hy)]
theorem cB_exp (b : Bnd) (σ : Sto) : expL σ (cB b) = some ((tB b).map fun x => XV.t x false, σ) := expL_flat (tB_flat b)
theorem placeL_flat (c : Sto) : ∀ (l : List T), placeL c (l.map fun x => XV.t x false) = (l.map .t, c)
  | [] => rfl
  | x :: l => by simp only [List.map_cons, placeL, place1, placeL_flat c l]
theorem cB_place (b : Bnd) (c : Sto) : placeL c ((tB b).map fun x => XV.t x false) = (cB b, c) := placeL_flat c _
theorem cB_sh (b : Bnd) : ((tB b).map fun x => XV.t x false).any XV.sh1 = false := by simp [XV.sh1]
theorem getB_lt {b : Bnd} {t : Int} (h : t.toNat < b.length) : getB b t = b[t.toNat] := by simp [getB, h]
theorem tB_val {b : Bnd} {n : Nat} (h : n < b.length) : (tB b)[n]? = some (T.i .i64 ((b[n]).getD 0)) := by
  simp [tB, List.getElem?_append_left, h]
theorem tB_flag {b : Bnd} {n : Nat} (h : n < b.length) (hb : b.length = 20) : (tB b)[20 + n]? = some (T.b (b[n]).isSome) := by
  rw [tB, List.getElem?_append_right (by simp; omega)]
  simp [hb, h]
  exact ⟨b[n], by simp [h], rfl⟩
theorem take_one {α : Type} {l : List α} {n : Nat} {x : α} (h : l[n]? = some x) : (l.drop n).take 1 = [x] := by
  obtain ⟨hn, rfl⟩ := List.getElem?_eq_some_iff.1 h
  rw [List.drop_eq_getElem_cons hn]; rfl
theorem cB_flag {b : Bnd} {n : Nat} (h : n < b.length) (hb : b.length = 20) : ((cB b).drop (20 + n)).take 1 = [Bo (b[n]).isSome] := take_one (by rw [cB, List.getElem?_map, tB_flag h hb]; rfl)
theorem tBd_val {b : Bnd} {n : Nat} (h : n < b.length) : ((tB b).drop n).take 1 = [T.i .i64 ((b[n]).getD 0)] := take_one (tB_val h)
theorem putL_set {cs : List AV} {n : Nat} {x : AV} (h : n < cs.length) : cs.take n ++ x :: cs.drop (n + 1) = cs.set n x := by
  rw [List.set_eq_take_append_cons_drop, if_pos h]
theorem cB_set {b : Bnd} {n : Nat} {v : Int} (h : n < b.length) (hb : b.length = 20) : ((cB b).set (20 + n) (Bo true)).set n (In v) = cB (b.set n (some v)) := by
  unfold cB tB
  rw [List.map_append, List.set_append_right _ _ (by simp; omega), List.set_append_left _ _ (by simpa using h), List.map_append]
  have e : 20 + n - (List.map AV.t (List.map (fun o : Option Int => T.i .i64 (o.getD 0)) b)).length = n := by simp; omega
  rw [e]
  congr 1
  · simp only [List.map_map, List.map_set]; rfl
  · simp only [List.map_map, List.map_set]; rfl
/-- The value of a term under a binding. -/
def valI (b : Bnd) (t : Int) : Int := if isVar t then (getB b t).getD 0 else constOf t
theorem valI_eq {b : Bnd} {t : Int} (h : isTerm t = true) : valI b t = valB b t := by
  unfold valI valB
  have h1 := isTerm_iff.1 h
  by_cases h0 : t < 0
  · have e : isVar t = false := by
      cases hv : isVar t with
      | false => rfl
      | true => have := (isVar_iff.1 hv).1; omega
    rw [e, if_neg (by simp), if_pos h0, constOf, e, h]; rfl
  · rw [if_pos (isVar_iff.2 ⟨by omega, h1.2⟩), if_neg h0]
theorem valueOf_r (b : Bnd) (hb : b.length = 20) (t : Int) : Ret XX 69 [.fptr (tB b), In t] (.t (.i .i64 (valI b t)) false) := by
  refine ret_W rfl Tryz.func69 rfl rfl (by simp [Tryz.f69]) ?_
  simp only [Tryz.f69]
  have c1 := cv (implIsVar_r t)
  have c2 := cv (implConstOf_r t)
  repeat' first|refine nx ?_|refine xb_miss (by decide) ?_|(apply W_reg;(simp [c1];exact .r _))
  cases e : isVar t
  · refine W_cond (by simp; exact .r _) (fun hc => ?_) (fun hc => ?_)
    · cases hc
    repeat' first|refine nx ?_|refine xb_miss (by decide) ?_|(apply W_reg;(simp [c2];exact .r _))
    simp [valI, e]
  · have h1 := isVar_iff.1 e
    have ht : t.toNat < b.length := by omega
    have h40 := tB_len hb
    have hv := tBd_val (b := b) (n := t.toNat) ht
    have hg := getB_lt ht
    refine W_cond (by simp; exact .r _) (fun hc => ?_) (fun hc => ?_)
    · repeat' first|refine nx ?_|refine xb_miss (by decide) ?_|(apply W_reg;(simp [h1.1, h40, hv, show t.toNat < 20 by omega, show t.toNat < 40 by omega, show 1 ≤ 40 - t.toNat by omega];exact .r _))
      simp [valI, e, hg]
    · cases hc
theorem tuple_r (b : Bnd) (hb : b.length = 20) (l : List Int) (hl : Sm l) : Ret XX 39 [.fptr (tB b), Ar l] (.own 1 (rowsE (l.map (valI b)))) := by
  refine ret_W rfl Tryz.func39 rfl rfl (by simp [Tryz.f39]) ?_
  simp only [Tryz.f39]
  repeat' first|refine nx ?_|refine xb_miss (by decide) ?_|(apply W_reg;(simp;exact .r _))
  refine W_loop (n := l.length) (fun n s => ∃ i : Nat, n = l.length - i ∧ s.nt = 23 ∧ s.tm 0 = .fptr (tB b) ∧ s.tm 5 = .ref 0 i [] ∧ s.tm 9 = Ar l ∧ s.tm 10 = In l.length ∧ s.tm 11 = In i ∧ i ≤ l.length ∧ s.σ.ob 0 = .arr (.own 0) 0 1 (rowsE ((l.map (valI b)).take i)) ∧ 1 ≤ s.σ.n) ⟨0, by simp⟩ ?_
  rintro n ⟨nt, tm, σ⟩ ⟨i, rfl, hnt, h0, h5, h9, h10, h11, hi, ho, hn⟩
  simp only at hnt h0 h5 h9 h10 h11 ho hn
  subst hnt
  have n0 : ¬ (0 = σ.n) := by omega
  have n0' : ¬ (σ.n = 0) := by omega
  repeat' first|refine nx ?_|refine xb_miss (by decide) ?_|(apply W_reg;(simp [h0, h5, h9, h10, h11, ho, hn];exact .r _))
  refine W_cond (by simp [h0, h5, h9, h10, h11, ho, hn]; exact .r _) (fun hc => ?_) (fun hc => ?_)
  · have hil : i < l.length := by simpa using hc
    have c1 := cv (valueOf_r b hb l[i])
    have hmin : min i l.length = i := by omega
    repeat' first|refine nx ?_|refine xb_miss (by decide) ?_|(apply W_reg;(simp [h0, h5, h9, h10, h11, ho, hn, hil, c1, n0, n0', hmin, show i + 1 < 1099511627776 by omega];exact .r _))
    refine ⟨_, ?_, i + 1, rfl, rfl, ?_, ?_, ?_, ?_, ?_, by omega, by (simp [n0, n0']; rw [rowsE_take (l.map (valI b)) i (by simpa using hil)]; simp), ?_⟩
    all_goals first|assumption|(simp [h0, h5, h9, h10, h11, ho, hn, n0, n0'];done)|(simp [h0, h5, h9, h10, h11, ho, hn, n0, n0'];omega)|(simp [h0, h5, h9, h10, h11, ho, hn, n0, n0'];exact wrap_succ (by omega))|omega
  have hil : i = l.length := by simp at hc; omega
  subst hil
  rw [List.take_of_length_le (by simp)] at ho
  repeat' first|refine nx ?_|refine xb_miss (by decide) ?_|(apply W_reg;(simp [h0, h5, h9, h10, h11, ho, hn];exact .r _))
  simp [ho]
/-- How the program matches: how far it came, and whether it came to the end. -/
def mtch2 : List Int → List Int → Bnd → Bnd × Bool
  | t :: ts, v :: vs, b => if isVar t && !(getB b t).isSome then mtch2 ts vs (b.set t.toNat (some v)) else if valI b t = v then mtch2 ts vs b else (b, false)
  | _, _, b => (b, true)
theorem mtch2_eq : ∀ (ts vs : List Int) (b : Bnd), (∀ t ∈ ts, isTerm t = true) → mtch ts vs b = if (mtch2 ts vs b).2 then some (mtch2 ts vs b).1 else none
  | [], vs, b, _ => by cases vs <;> simp [mtch, mtch2]
  | t :: ts, [], b, _ => by simp [mtch, mtch2]
  | t :: ts, v :: vs, b, h => by
    have ht := h t (by simp)
    have hts : ∀ t ∈ ts, isTerm t = true := fun u hu => h u (List.mem_cons_of_mem _ hu)
    have ih := fun b => mtch2_eq ts vs b hts
    have h1 := isTerm_iff.1 ht
    unfold mtch mtch2
    by_cases h0 : t < 0
    · have e : isVar t = false := by
        cases hv : isVar t with
        | false => rfl
        | true => have := (isVar_iff.1 hv).1; omega
      rw [if_pos h0, e, valI_eq ht, valB, if_pos h0]
      simp only [Bool.false_and, Bool.false_eq_true, if_false]
      split
      · exact ih b
      · rfl
    · have e : isVar t = true := isVar_iff.2 ⟨by omega, h1.2⟩
      rw [if_neg h0, e, valI_eq ht, valB, if_neg h0]
      cases hg : getB b t with
      | none => simp only [Option.isSome_none, Bool.not_false, Bool.and_true, if_true]; exact ih _
      | some x =>
        simp only [Option.isSome_some, Bool.not_true, Bool.and_false, Bool.false_eq_true, if_false, Option.getD_some]
        split
        · exact ih b
        · rfl
theorem match_r (b : Bnd) (hb : b.length = 20) (a f : RA) (ha : a.args.length ≤ 1000) (hf : f.args.length ≤ 1099511627774) : ∃ b', b'.length = 20 ∧ (∀ c, mtchA a f b = some c → (∀ t ∈ a.args, isTerm t = true) → b' = c) ∧
    Ret XX 68 [.agg (cB b), Ag a, Ag f] (.tup [.agg ((tB b').map fun x => XV.t x false), .t (.b (decide (a.rel = f.rel ∧ a.args.length = f.args.length) && (mtch2 a.args f.args b).2)) false]) := by
  by_cases hr : a.rel = f.rel ∧ a.args.length = f.args.length
  case neg =>
    refine ⟨b, hb, fun c h _ => (by unfold mtchA at h; rw [if_neg hr] at h; cases h), ?_⟩
    have h40 := cB_len hb
    have ho := cB_one b
    have htk := cB_take hb
    refine ret_W rfl Tryz.func68 rfl rfl (by simp [Tryz.f68]) ?_
    simp only [Tryz.f68]
    by_cases h1 : a.rel = f.rel
    · have h2 : ¬ a.args.length = f.args.length := fun e => hr ⟨h1, e⟩
      have h2' : ¬ (a.args.length : Int) = f.args.length := by omega
      repeat' first|refine nx ?_|refine xb_miss (by decide) ?_|(apply W_reg;(simp [Ag, ho, h1, h2, h2', h40, htk];exact .r _))
      refine W_cond (by simp; exact .r _) (fun hc => ?_) (fun hc => ?_)
      · repeat' first|refine nx ?_|refine xb_miss (by decide) ?_|(apply W_reg;(simp [ho, h40, htk];exact .r _))
        simp [h40, htk, cB_exp, hr, h2]
      · cases hc
    · repeat' first|refine nx ?_|refine xb_miss (by decide) ?_|(apply W_reg;(simp [Ag, ho, h1, h40, htk];exact .r _))
      refine W_cond (by simp; exact .r _) (fun hc => ?_) (fun hc => ?_)
      · repeat' first|refine nx ?_|refine xb_miss (by decide) ?_|(apply W_reg;(simp [ho, h40, htk];exact .r _))
        simp [h40, htk, cB_exp, h1]
      · cases hc
  have hl : a.args.length = f.args.length := hr.2
  have hfin : ∃ b', (mtch2 a.args f.args b).1 = b' := ⟨_, rfl⟩
  have hlen : ∀ (ts vs : List Int) (b : Bnd), (mtch2 ts vs b).1.length = b.length := by
    intro ts
    induction ts with
    | nil => intro vs b; cases vs <;> rfl
    | cons t ts ih =>
      intro vs b
      cases vs with
      | nil => rfl
      | cons v vs =>
        unfold mtch2
        split
        · rw [ih]; simp
        · split
          · exact ih vs b
          · rfl
  refine ⟨(mtch2 a.args f.args b).1, by rw [hlen]; exact hb, fun c h ht => ?_, ?_⟩
  · unfold mtchA at h
    rw [if_pos hr, mtch2_eq _ _ _ ht] at h
    split at h
    · exact Option.some.inj h
    · cases h
  have h40 := cB_len hb
  have ho := cB_one b
  have htk := cB_take hb
  refine ret_W rfl Tryz.func68 rfl rfl (by simp [Tryz.f68]) ?_
  simp only [Tryz.f68]
  repeat' first|refine nx ?_|refine xb_miss (by decide) ?_|(apply W_reg;(simp [Ag, ho, hr.1, hl, h40, htk];exact .r _))
  refine W_cond (by simp; exact .r _) (fun hc => ?_) (fun hc => ?_)
  · cases hc
  repeat' first|refine nx ?_|refine xb_miss (by decide) ?_|(apply W_reg;(simp [Ag, ho];exact .r _))
  have z40 : ∀ l : List AV, l.length = 40 → l.drop 40 = [] := fun l h => List.drop_eq_nil_of_le (by omega)
  refine W_loop (n := a.args.length) (fun n s => ∃ i : Nat, ∃ c : Bnd, ∃ z : List AV, n = a.args.length - i ∧ s.nt = 64 ∧ s.tm 3 = .ptr 0 0 ∧ s.tm 5 = .ptr 2 0 ∧ s.tm 6 = .ptr 3 0 ∧ s.tm 26 = Ar a.args ∧ s.tm 27 = In a.args.length ∧ s.tm 28 = In i ∧ i ≤ a.args.length ∧ c.length = 20 ∧ s.σ.ob 0 = .box (cB c) ∧ s.σ.ob 2 = .box [In f.rel, Ar f.args] ∧ s.σ.ob 3 = .box z ∧ z.length = 40 ∧ mtch2 a.args f.args b = mtch2 (a.args.drop i) (f.args.drop i) c) ⟨0, b, cB b0, by simp [hb]; exact ⟨rfl, rfl⟩⟩ ?_
  rintro n ⟨nt, tm, σ⟩ ⟨i, c, z, rfl, hnt, h3, h5, h6, h26, h27, h28, hi, hcl, hb0, hb2, hb3, hz, heq⟩
  simp only at hnt h3 h5 h6 h26 h27 h28 hb0 hb2 hb3
  subst hnt
  repeat' first|refine nx ?_|refine xb_miss (by decide) ?_|(apply W_reg;(simp [h3, h5, h6, h26, h27, h28, hb0, hb2, hb3];exact .r _))
  have k40 := cB_len hcl
  have ko := cB_one c
  have ktk := cB_take hcl
  have zd := z40 z hz
  refine W_cond (by simp [h3, h5, h6, h26, h27, h28, hb0, hb2, hb3]; exact .r _) (fun hc => ?_) (fun hc => ?_)
  · have hil : i < a.args.length := by simpa using hc
    have hfl : i < f.args.length := by omega
    have c1 := cv (implIsVar_r a.args[i])
    rw [List.drop_eq_getElem_cons hil, List.drop_eq_getElem_cons hfl, mtch2] at heq
    by_cases e1 : isVar a.args[i] = true ∧ (getB c a.args[i]).isSome = false
    · have hv := isVar_iff.1 e1.1
      have htl : a.args[i].toNat < c.length := by omega
      have hg := getB_lt htl
      have fl := cB_flag htl hcl
      have e2 : c[a.args[i].toNat].isSome = false := by rw [← hg]; exact e1.2
      rw [e1.1, e1.2, if_pos (by rfl)] at heq
      repeat' first|refine nx ?_|refine xb_miss (by decide) ?_|(apply W_reg;(simp [h3, h5, h6, h26, h27, h28, hb0, hb2, hb3, hil, c1, e1.1, hv.1, k40, fl, e2, show a.args[i].toNat < 20 by omega, show 20 + a.args[i].toNat + 1 ≤ 40 by omega, show 20 + a.args[i].toNat < 40 by omega, show 20 + (a.args[i].toNat + 1) ≤ 40 by omega];exact .r _))
      refine W_cond (by simp [h3, h5, h6, h26, h27, h28, hb0, hb2, hb3]; exact .r _) (fun hd => ?_) (fun hd => ?_)
      · have hs1 : ∀ x : AV, List.take (20 + a.args[i].toNat) (cB c) ++ x :: List.drop (20 + (a.args[i].toNat + 1)) (cB c) = (cB c).set (20 + a.args[i].toNat) x := fun x => putL_set (by omega)
        have hs2 : ∀ x y : AV, List.take a.args[i].toNat ((cB c).set (20 + a.args[i].toNat) y) ++ x :: List.drop (a.args[i].toNat + 1) ((cB c).set (20 + a.args[i].toNat) y) = ((cB c).set (20 + a.args[i].toNat) y).set a.args[i].toNat x := fun x y => putL_set (by simp; omega)
        have hs3 := cB_set (v := f.args[i]) htl hcl
        repeat' first|refine nx ?_|refine xb_miss (by decide) ?_|(apply W_reg;(simp [h3, h5, h6, h26, h27, h28, hb0, hb2, hb3, hil, hfl, hv.1, k40, hs1, hs2, hs3, show a.args[i].toNat < 20 by omega, show 20 + (a.args[i].toNat + 1) ≤ 40 by omega, show a.args[i].toNat + 1 ≤ 40 by omega, show a.args[i].toNat < 40 by omega, show 20 + a.args[i].toNat < 40 by omega];exact .r _))
        refine ⟨_, ?_, i + 1, c.set a.args[i].toNat (some f.args[i]), z, rfl, rfl, ?_, ?_, ?_, ?_, ?_, ?_, by omega, by simpa using hcl, ?_, ?_, ?_, hz, heq⟩
        all_goals first|assumption|(simp [h3, h5, h6, h26, h27, h28, hb0, hb2, hb3, hs1, hs2, hs3];done)|(simp [h3, h5, h6, h26, h27, h28, hb0, hb2, hb3, hs1, hs2, hs3];omega)|(simp [h3, h5, h6, h26, h27, h28, hb0, hb2, hb3, hs1, hs2, hs3];exact wrap_succ (by omega))|omega
      · cases hd
    · have e1' : (isVar a.args[i] && !(getB c a.args[i]).isSome) = false := by
        cases ea : isVar a.args[i] with
        | false => rfl
        | true =>
          cases eb : (getB c a.args[i]).isSome with
          | true => rfl
          | false => exact absurd ⟨ea, eb⟩ e1
      rw [e1', if_neg (by simp)] at heq
      have c2 := cv (valueOf_r c hcl a.args[i])
      have kre := cB_re c
      cases ea : isVar a.args[i]
      · repeat' first|refine nx ?_|refine xb_miss (by decide) ?_|(apply W_reg;(simp [h3, h5, h6, h26, h27, h28, hb0, hb2, hb3, hil, c1, ea];exact .r _))
        refine W_cond (by simp [h3, h5, h6, h26, h27, h28, hb0, hb2, hb3]; exact .r _) (fun hd => ?_) (fun hd => ?_)
        · cases hd
        repeat' first|refine nx ?_|refine xb_miss (by decide) ?_|(apply W_reg;(simp [h3, h5, h6, h26, h27, h28, hb0, hb2, hb3, hil, hfl, c2, kre, k40];exact .r _))|(apply W_draw (id := 9) [0,1,0,4,0,28,60,127] rfl rfl; (· simp; exact .r _); (· simp [h3, h5, h6, h26, h27, h28, hb0, hb2, hb3, hil, hfl, c2, kre, k40]; exact .r _); (· first|trivial|simp))
        refine W_cond (by simp [h3, h5, h6, h26, h27, h28, hb0, hb2, hb3]; exact .r _) (fun hg => ?_) (fun hg => ?_)
        · have hne : ¬ valI c a.args[i] = f.args[i] := by simpa using hg
          rw [if_neg hne] at heq
          repeat' first|refine nx ?_|refine xb_miss (by decide) ?_|(apply W_reg;(simp [h3, h5, h6, h26, h27, h28, hb0, hb2, hb3, ko, k40, ktk, zd, hz];exact .r _))
          simp [h6, hb3, k40, ktk, heq, cB_exp, hr.1, hl]
        · have hne : valI c a.args[i] = f.args[i] := by simpa using hg
          rw [if_pos hne] at heq
          repeat' first|refine nx ?_|refine xb_miss (by decide) ?_|(apply W_reg;(simp [h3, h5, h6, h26, h27, h28, hb0, hb2, hb3];exact .r _))
          refine ⟨_, ?_, i + 1, c, z, rfl, rfl, ?_, ?_, ?_, ?_, ?_, ?_, by omega, hcl, ?_, ?_, ?_, hz, heq⟩
          all_goals first|assumption|(simp [h3, h5, h6, h26, h27, h28, hb0, hb2, hb3];done)|(simp [h3, h5, h6, h26, h27, h28, hb0, hb2, hb3];omega)|(simp [h3, h5, h6, h26, h27, h28, hb0, hb2, hb3];exact wrap_succ (by omega))|omega
      · have hv := isVar_iff.1 ea
        have htl : a.args[i].toNat < c.length := by omega
        have hgb := getB_lt htl
        have fl := cB_flag htl hcl
        have e2 : c[a.args[i].toNat].isSome = true := by
          rw [← hgb]
          cases eb : (getB c a.args[i]).isSome with
          | true => rfl
          | false => exact absurd ⟨ea, eb⟩ e1
        repeat' first|refine nx ?_|refine xb_miss (by decide) ?_|(apply W_reg;(simp [h3, h5, h6, h26, h27, h28, hb0, hb2, hb3, hil, c1, ea, hv.1, k40, fl, e2, show a.args[i].toNat < 20 by omega, show 20 + a.args[i].toNat + 1 ≤ 40 by omega, show 20 + a.args[i].toNat < 40 by omega, show 20 + (a.args[i].toNat + 1) ≤ 40 by omega];exact .r _))
        refine W_cond (by simp [h3, h5, h6, h26, h27, h28, hb0, hb2, hb3]; exact .r _) (fun hd => ?_) (fun hd => ?_)
        · cases hd
        repeat' first|refine nx ?_|refine xb_miss (by decide) ?_|(apply W_reg;(simp [h3, h5, h6, h26, h27, h28, hb0, hb2, hb3, hil, hfl, c2, kre, k40];exact .r _))|(apply W_draw (id := 9) [0,1,0,4,0,28,60,127] rfl rfl; (· simp; exact .r _); (· simp [h3, h5, h6, h26, h27, h28, hb0, hb2, hb3, hil, hfl, c2, kre, k40]; exact .r _); (· first|trivial|simp))
        refine W_cond (by simp [h3, h5, h6, h26, h27, h28, hb0, hb2, hb3]; exact .r _) (fun hg => ?_) (fun hg => ?_)
        · have hne : ¬ valI c a.args[i] = f.args[i] := by simpa using hg
          rw [if_neg hne] at heq
          repeat' first|refine nx ?_|refine xb_miss (by decide) ?_|(apply W_reg;(simp [h3, h5, h6, h26, h27, h28, hb0, hb2, hb3, ko, k40, ktk, zd, hz];exact .r _))
          simp [h6, hb3, k40, ktk, heq, cB_exp, hr.1, hl]
        · have hne : valI c a.args[i] = f.args[i] := by simpa using hg
          rw [if_pos hne] at heq
          repeat' first|refine nx ?_|refine xb_miss (by decide) ?_|(apply W_reg;(simp [h3, h5, h6, h26, h27, h28, hb0, hb2, hb3];exact .r _))
          refine ⟨_, ?_, i + 1, c, z, rfl, rfl, ?_, ?_, ?_, ?_, ?_, ?_, by omega, hcl, ?_, ?_, ?_, hz, heq⟩
          all_goals first|assumption|(simp [h3, h5, h6, h26, h27, h28, hb0, hb2, hb3];done)|(simp [h3, h5, h6, h26, h27, h28, hb0, hb2, hb3];omega)|(simp [h3, h5, h6, h26, h27, h28, hb0, hb2, hb3];exact wrap_succ (by omega))|omega
  have hil : i = a.args.length := by simp at hc; omega
  subst hil
  rw [List.drop_length, hl, List.drop_length] at heq
  have heq2 : mtch2 a.args f.args b = (c, true) := heq
  repeat' first|refine nx ?_|refine xb_miss (by decide) ?_|(apply W_reg;(simp [h3, h5, h6, h26, h27, h28, hb0, hb2, hb3, ko, k40, ktk, zd, hz];exact .r _))
  simp [h6, hb3, k40, ktk, heq2, cB_exp, hr.1, hl]
end Go.Proofs.YtpdpgfagklhpaaaGreat.V

namespace Go.Proofs.YtpdpgfagklhpaaaGreat.V
open Go Go.Proofs
set_option linter.unusedVariables false
set_option linter.unusedSimpArgs false
theorem W_gen {P : Program} {M : Nat → Bool} {G : Giv} {c : Code} {nt : Nat} {tm : Nat → AV} {σ : Sto} {N : VS → Prop} {X : Nat → VS → Prop} {K : VS → Prop} (Q : Sto → Prop) (h : Q σ) (hw : ∀ σ2, Q σ2 → W P M G c ⟨nt, tm, σ2⟩ N X K) : W P M G c ⟨nt, tm, σ⟩ N X K := hw σ h
theorem clean1_mono {n m : Nat} (h : n ≤ m) : ∀ {a : AV}, clean1 n a = true → clean1 m a = true := by
  intro a ha
  cases a with
  | ref o v p => simp only [clean1, decide_eq_true_eq] at ha ⊢; omega
  | ptr o v => simp only [clean1, decide_eq_true_eq] at ha ⊢; omega
  | eptr o v p i j => simp only [clean1, decide_eq_true_eq] at ha ⊢; omega
  | clo f c => cases ha
  | agg c => cases ha
  | tup c => cases ha
  | _ => rfl
theorem cleanA_mono {n m : Nat} (h : n ≤ m) {a : AV} (ha : cleanA n a = true) : cleanA m a = true := by
  cases a with
  | clo f l => simp only [cleanA, List.all_eq_true] at ha ⊢; exact fun x hx => clean1_mono h (ha x hx)
  | agg l => simp only [cleanA, List.all_eq_true] at ha ⊢; exact fun x hx => clean1_mono h (ha x hx)
  | tup l => cases ha
  | t x => rfl
  | ref o v p => exact clean1_mono h (a := .ref o v p) ha
  | ptr o v => exact clean1_mono h (a := .ptr o v) ha
  | eptr o v p i j => exact clean1_mono h (a := .eptr o v p i j) ha
  | _ => rfl
theorem clean_mono {n m : Nat} (h : n ≤ m) {x : VO} (hx : x.clean n = true) : x.clean m = true := by
  cases x with
  | box cs => simp only [VO.clean, List.all_eq_true] at hx ⊢; exact fun a ha => cleanA_mono h (hx a ha)
  | _ => rfl
/-- Over the caller's store: a call that answers nothing; what it made is forgotten. -/
theorem callV_cut {M : Nat → Bool} {X : Ora} {σ σ1 σ' : Sto} {f : Nat} {args : List AV} (hM : M f = true) (hP : M (f + 1000000) = false) (H : X f args σ = some (.tup [], σ1)) (hn : σ.n < σ1.n) (hn' : σ'.n = σ.n) (h1 : ∀ x, x < σ.n → σ1.ob x = σ'.ob x)
    (hcl : ∀ x, x < σ.n → (σ'.ob x).clean σ.n = true) (hdd : ∀ x, σ.n ≤ x → σ'.ob x = .dead) : callV M X σ f args = some (.tup [], σ') := by
  unfold callV
  rw [if_pos hM, if_neg (by rw [hP]; exact Bool.false_ne_true), H]
  simp only
  rw [if_neg (by omega), if_pos (by rw [List.all_eq_true]; exact fun o ho => by rw [h1 o (List.mem_range.1 ho)]; exact hcl o (List.mem_range.1 ho)), cut_eq hn' h1 hdd]
  rfl
/-- The store: a box p that names rows in o; ks: what else is there and stays. -/
structure Ok (p o : Nat) (ks : List (Nat × VO)) (σ : Sto) (acc : List Row) : Prop where
  hp : σ.ob p = .box [.ref o acc.length []]
  ho : σ.ob o = .arr (.own 0) 0 1 (rowsE acc)
  pn : p < σ.n
  on : o < σ.n
  po : p ≠ o
  ks : ∀ q ∈ ks, σ.ob q.1 = q.2 ∧ q.1 ≠ p ∧ q.1 ≠ o ∧ q.1 < σ.n
  cl : ∀ x, x < σ.n → (σ.ob x).clean σ.n = true
  dd : ∀ x, σ.n ≤ x → σ.ob x = .dead
def St (p o : Nat) (σ : Sto) (acc : List Row) : Sto := ⟨σ.n, upd (upd σ.ob p (.box [.ref o acc.length []])) o (.arr (.own 0) 0 1 (rowsE acc))⟩
variable {p o : Nat} {ks : List (Nat × VO)} {σ σ2 : Sto} {acc acc2 : List Row}
theorem St_ob {x : Nat} : (St p o σ acc).ob x = if x = o then .arr (.own 0) 0 1 (rowsE acc) else if x = p then .box [.ref o acc.length []] else σ.ob x := rfl
theorem Ok.st (h : Ok p o ks σ acc) (acc2 : List Row) : Ok p o ks (St p o σ acc2) acc2 := by
  refine ⟨?_, ?_, h.pn, h.on, h.po, fun q hq => ?_, fun x hx => ?_, fun x hx => ?_⟩
  · rw [St_ob, if_neg h.po, if_pos rfl]
  · rw [St_ob, if_pos rfl]
  · obtain ⟨h1, h2, h3, h4⟩ := h.ks q hq
    exact ⟨by rw [St_ob, if_neg h3, if_neg h2]; exact h1, h2, h3, h4⟩
  · rw [St_ob]
    split
    · rfl
    · split
      · have := h.on
        simp [VO.clean, cleanA, clean1, St, this]
      · exact h.cl x hx
  · have hx : σ.n ≤ x := hx
    have h1 := h.on
    have h2 := h.pn
    rw [St_ob, if_neg (by omega), if_neg (by omega)]; exact h.dd x hx
theorem Ok.grow (h : Ok p o ks σ acc) (hn : σ.n ≤ σ2.n) (h1 : ∀ x, x < σ.n → σ2.ob x = σ.ob x) (h2 : ∀ x, σ.n ≤ x → x < σ2.n → (σ2.ob x).clean σ2.n = true) (h3 : ∀ x, σ2.n ≤ x → σ2.ob x = .dead) : Ok p o ks σ2 acc := by
  refine ⟨by rw [h1 p h.pn]; exact h.hp, by rw [h1 o h.on]; exact h.ho, Nat.lt_of_lt_of_le h.pn hn, Nat.lt_of_lt_of_le h.on hn, h.po, fun q hq => ?_, fun x hx => ?_, h3⟩
  · obtain ⟨g1, g2, g3, g4⟩ := h.ks q hq
    exact ⟨by rw [h1 _ g4]; exact g1, g2, g3, Nat.lt_of_lt_of_le g4 hn⟩
  · rcases Nat.lt_or_ge x σ.n with g | g
    · rw [h1 x g]; exact clean_mono hn (h.cl x g)
    · exact h2 x g hx
/-- What is done with a binding: at most one row is put behind the others. -/
def TakeOk (g : Nat) (caps : List AV) (p o : Nat) (ks : List (Nat × VO)) (f : Bnd → List Row) : Prop :=
  ∀ (σ : Sto) (acc : List Row) (b : Bnd), Ok p o ks σ acc → b.length = 20 → acc.length + 1 < 1099511627776 → callV Ms XX σ g (.agg (cB b) :: caps) = some (.tup [], St p o σ (acc ++ f b))
theorem match_v (b : Bnd) (hb : b.length = 20) (a f : RA) (ha : a.args.length ≤ 1000) (ht : ∀ t ∈ a.args, isTerm t = true) (hf : f.args.length ≤ 1099511627774) : ∃ b', b'.length = 20 ∧ (∀ c, mtchA a f b = some c → b' = c) ∧
    Ret XX 68 [.agg (cB b), Ag a, Ag f] (.tup [.agg ((tB b').map fun x => XV.t x false), .t (.b (mtchA a f b).isSome) false]) := by
  obtain ⟨b', h1, h2, h3⟩ := match_r b hb a f ha hf
  refine ⟨b', h1, fun c hc => h2 c hc ht, ?_⟩
  have e : (decide (a.rel = f.rel ∧ a.args.length = f.args.length) && (mtch2 a.args f.args b).2) = (mtchA a f b).isSome := by
    unfold mtchA
    by_cases h : a.rel = f.rel ∧ a.args.length = f.args.length
    · rw [if_pos h, mtch2_eq _ _ _ ht, decide_eq_true h]
      cases (mtch2 a.args f.args b).2 <;> rfl
    · rw [if_neg h, decide_eq_false h]; rfl
  rw [e] at h3
  exact h3
theorem flatMap_len {α β : Type} {f : α → List β} (h : ∀ x, (f x).length ≤ 1) : ∀ l : List α, (l.flatMap f).length ≤ l.length
  | [] => by simp
  | a :: l => by
    have h1 := h a
    have h2 := flatMap_len h l
    simp only [List.flatMap_cons, List.length_append, List.length_cons]; omega
section
variable {g : Nat} {caps : List AV} {f : Bnd → List Row} {body db : List RA}
theorem visit_c (hT : TakeOk g caps p o ks f) (hf1 : ∀ b, (f b).length ≤ 1) (hbl : body.length ≤ 1000) (hbody : ∀ a ∈ body, a.args.length ≤ 1000 ∧ ∀ t ∈ a.args, isTerm t = true) (hdl : Sm db) (hdb : ∀ x ∈ db, x.args.length ≤ 1099511627774) :
    ∀ (d i : Nat) (b : Bnd) (σ0 : Sto) (acc0 : List Row), body.length - i = d → i ≤ body.length → b.length = 20 → Ok p o ks σ0 acc0 → acc0.length + (binds db (body.drop i) b).length + 1 < 1099511627776 →
      callV Ms XX σ0 36 [Ar body, Ar db, .agg (cB b), In i, .clo g caps] = some (.tup [], St p o σ0 (acc0 ++ (binds db (body.drop i) b).flatMap f)) := by
  intro d
  induction d with
  | zero =>
    intro i b σ0 acc0 hd hi hb hok hN
    have hie : i = body.length := by omega
    subst hie
    rw [List.drop_length]
    simp only [binds, List.flatMap_cons, List.flatMap_nil, List.append_nil]
    have hc1 := cB_len hb
    have hc2 := cB_one b
    have hc3 := cB_take hb
    have hokn : Ok p o ks ⟨σ0.n + 1, upd σ0.ob σ0.n (.box (cB b))⟩ acc0 := hok.grow (Nat.le_succ _) (fun x hx => by simp only [upd_app]; rw [if_neg (by omega)]) (fun x h1 h2 => by
      have h2' : x < σ0.n + 1 := h2
      have : x = σ0.n := by omega
      subst this; simp only [upd_app, if_true, VO.clean]; exact cB_clean b _) (fun x hx => by
      have hx' : σ0.n + 1 ≤ x := hx
      simp only [upd_app]; rw [if_neg (by omega)]; exact hok.dd x (by omega))
    have hcall := hT _ acc0 b hokn hb (by omega)
    have key : ∃ r σ1, XX 36 [Ar body, Ar db, .agg (cB b), In body.length, .clo g caps] σ0 = some (r, σ1) ∧ (r = .tup [] ∧ σ0.n < σ1.n ∧ ∀ x, x < σ0.n → σ1.ob x = (St p o σ0 (acc0 ++ f b)).ob x) := by
      refine W_fn rfl Tryz.func36 rfl rfl (by simp [Tryz.f36]) ?_
      simp only [Tryz.f36]
      repeat' first|refine nx ?_|refine xb_miss (by decide) ?_|(apply W_reg;(simp [hc2, hc3];exact .r _))|(apply W_draw (id := 6) [0,0,0,6,14,0,63,127,255,255,0,1535,4095] rfl rfl; (· simp; exact .r _); (· simp [hc2, hc3]; exact .r _); (· first|trivial|simp))
      refine W_cond (by simp; exact .r _) (fun hc => ?_) (fun hc => ?_)
      · repeat' first|refine nx ?_|refine xb_miss (by decide) ?_|(apply W_reg;(simp [hc1, hc3, hcall];exact .r _))|(apply W_draw (id := 6) [0,0,0,6,14,0,63,127,255,255,0,1535,4095] rfl rfl; (· simp; exact .r _); (· simp [hc1, hc3, hcall]; exact .r _); (· first|trivial|simp))
        refine ⟨.tup [], rfl, rfl, ?_, fun x hx => ?_⟩
        · simp [St]
        · simp only [St, upd_app]
          split
          · rfl
          · split
            · rfl
            · rw [if_neg (by omega)]
      · simp at hc
    obtain ⟨r, σ1, h1, rfl, h3, h4⟩ := key
    have hst := hok.st (acc0 ++ f b)
    exact callV_cut (by rfl) (by rfl) h1 h3 rfl h4 (fun x hx => hst.cl x hx) (fun x hx => hst.dd x hx)
  | succ d ih =>
    intro i b σ0 acc0 hd hi hb hok hN
    have hil : i < body.length := by omega
    have hc1 := cB_len hb
    have hc2 := cB_one b
    have hc3 := cB_take hb
    have hbi := hbody _ (List.getElem_mem hil)
    have hne : ¬ ((i : Int) = body.length) := by omega
    let G : RA → List Bnd := fun x => match mtchA body[i] x b with
      | some b' => binds db (body.drop (i + 1)) b'
      | none => []
    have hG : binds db (body.drop i) b = db.flatMap G := by rw [List.drop_eq_getElem_cons hil]; rfl
    rw [hG] at hN ⊢
    have key : ∃ r σ1, XX 36 [Ar body, Ar db, .agg (cB b), In i, .clo g caps] σ0 = some (r, σ1) ∧ (r = .tup [] ∧ σ0.n < σ1.n ∧ ∀ x, x < σ0.n → σ1.ob x = (St p o σ0 (acc0 ++ (db.flatMap G).flatMap f)).ob x) := by
      refine W_fn rfl Tryz.func36 rfl rfl (by simp [Tryz.f36]) ?_
      simp only [Tryz.f36]
      repeat' first|refine nx ?_|refine xb_miss (by decide) ?_|(apply W_reg;(simp [hc2, hc3, hne];exact .r _))|(apply W_draw (id := 6) [0,0,0,6,14,0,63,127,255,255,0,1535,4095] rfl rfl; (· simp; exact .r _); (· simp [hc2, hc3, hne]; exact .r _); (· first|trivial|simp))
      refine W_cond (by simp; exact .r _) (fun hc => ?_) (fun hc => ?_)
      · cases hc
      repeat' first|refine nx ?_|refine xb_miss (by decide) ?_|(apply W_reg;(simp;exact .r _))|(apply W_draw (id := 6) [0,0,0,6,14,0,63,127,255,255,0,1535,4095] rfl rfl; (· simp; exact .r _); (· simp; exact .r _); (· first|trivial|simp))
      have hokn : Ok p o ks ⟨σ0.n + 1, upd σ0.ob σ0.n (.box (cB b))⟩ acc0 := hok.grow (Nat.le_succ _) (fun x hx => by simp only [upd_app]; rw [if_neg (by omega)]) (fun x h1 h2 => by
        have h2' : x < σ0.n + 1 := h2
        have : x = σ0.n := by omega
        subst this; simp only [upd_app, if_true, VO.clean]; exact cB_clean b _) (fun x hx => by
        have hx' : σ0.n + 1 ≤ x := hx
        simp only [upd_app]; rw [if_neg (by omega)]; exact hok.dd x (by omega))
      refine W_loop (n := db.length) (fun n s => ∃ j : Nat, ∃ acc1 : List Row, n = db.length - j ∧ s.nt = 46 ∧ s.tm 0 = Ar body ∧ s.tm 1 = Ar db ∧ s.tm 3 = In i ∧ s.tm 4 = .clo g caps ∧ s.tm 7 = .ptr σ0.n 0 ∧ s.tm 21 = Ar db ∧ s.tm 22 = In db.length ∧ s.tm 23 = In j ∧ j ≤ db.length ∧ Ok p o ks s.σ acc1 ∧ s.σ.ob σ0.n = .box (cB b) ∧ σ0.n < s.σ.n ∧ (∀ x, x < σ0.n → x ≠ p → x ≠ o → s.σ.ob x = σ0.ob x) ∧ acc1 = acc0 ++ ((db.take j).flatMap G).flatMap f) ⟨0, acc0, by simp; exact ⟨hokn, fun x h1 h2 h3 e => by omega⟩⟩ ?_
      rintro n ⟨nt, tm, σ⟩ ⟨j, acc1, rfl, hnt, h0, h1, h3, h4, h7, h21, h22, h23, hj, hok1, hbx, hnn, hfr, hacc⟩
      simp only at hnt h0 h1 h3 h4 h7 h21 h22 h23 hok1 hbx hnn hfr
      subst hnt
      repeat' first|refine nx ?_|refine xb_miss (by decide) ?_|(apply W_reg;(simp [h0, h1, h3, h4, h7, h21, h22, h23, hok1, hbx, hnn, hfr];exact .r _))|(apply W_draw (id := 6) [0,0,0,6,14,0,63,127,255,255,0,1535,4095] rfl rfl; (· simp; exact .r _); (· simp [h0, h1, h3, h4, h7, h21, h22, h23, hok1, hbx, hnn, hfr]; exact .r _); (· first|trivial|simp))
      refine W_cond (by simp [h0, h1, h3, h4, h7, h21, h22, h23, hok1, hbx, hnn, hfr]; exact .r _) (fun hc => ?_) (fun hc => ?_)
      · have hjl : j < db.length := by simpa using hc
        obtain ⟨b', hb', hbc, hm⟩ := match_v b hb body[i] db[j] hbi.1 hbi.2 (hdb _ (List.getElem_mem hjl))
        have hm := cv hm
        simp only [Ag, cells_RA, List.map_cons, List.map_nil] at hm
        have kc1 := cB_len hb'
        have kc2 := cB_one b'
        have kc3 := cB_take hb'
        have kpl := cB_place b'
        have ksh := cB_sh b'
        have kre : ∀ σ : Sto, (cB b).mapM (reify1 σ) = some (tB b) := cB_re b
        have krt : (tB b).map AV.t = cB b := rfl
        have n0 : ¬ (σ0.n = σ.n) := by omega
        have n0' : ¬ (σ.n = σ0.n) := by omega
        have n1 : ¬ (σ0.n = σ.n + 1) := by omega
        have n1' : ¬ (σ.n + 1 = σ0.n) := by omega
        repeat' first|refine nx ?_|refine xb_miss (by decide) ?_|(apply W_reg;(simp [h0, h1, h3, h4, h7, h21, h22, h23, hok1, hbx, hnn, hfr, hjl, hil, hm, hc1, hc2, hc3, kc1, kc2, kc3, kpl, ksh, kre, krt, n0, n0', n1, n1'];exact .r _))|(apply W_draw (id := 6) [0,0,0,6,14,0,63,127,255,255,0,1535,4095] rfl rfl; (· simp; exact .r _); (· simp [h0, h1, h3, h4, h7, h21, h22, h23, hok1, hbx, hnn, hfr, hjl, hil, hm, hc1, hc2, hc3, kc1, kc2, kc3, kpl, ksh, kre, krt, n0, n0', n1, n1']; exact .r _); (· first|trivial|simp))
        refine W_gen (fun s2 => Ok p o ks s2 acc1 ∧ s2.ob σ0.n = .box (cB b) ∧ σ.n < s2.n ∧ (∀ x, x < σ0.n → x ≠ p → x ≠ o → s2.ob x = σ0.ob x) ∧ s2.ob (σ.n + 1) = .box (cB b')) ?_ (fun s2 hq => ?_)
        · refine ⟨hok1.grow (Nat.le_add_right _ _) (fun x hx => ?_) (fun x h1 h2 => ?_) (fun x hx => ?_), ?_, ?_, fun x h1 h2 h3 => ?_, ?_⟩
          · simp [upd_app, show ¬ x = σ.n by omega, show ¬ x = σ.n + 1 by omega]
          · have h2' : x < σ.n + 2 := h2
            rcases (by omega : x = σ.n ∨ x = σ.n + 1) with rfl | rfl
            · simp [upd_app, VO.clean, cleanA, clean1]
            · simp only [upd_app, if_true, VO.clean]; exact cB_clean b' _
          · have hx' : σ.n + 2 ≤ x := hx
            simp [upd_app, show ¬ x = σ.n by omega, show ¬ x = σ.n + 1 by omega]
            exact hok1.dd x (by omega)
          · simp [upd_app, n0, n1]; exact hbx
          · show σ.n < σ.n + 2
            omega
          · simp [upd_app, show ¬ x = σ.n by omega, show ¬ x = σ.n + 1 by omega]
            exact hfr x h1 h2 h3
          · simp [upd_app]
        obtain ⟨q1, q2, q3, q4, q5⟩ := hq
        have htk : (db.take (j + 1)).flatMap G = (db.take j).flatMap G ++ G db[j] := by rw [List.take_succ_eq_append_getElem hjl, List.flatMap_append]; simp
        have hsp : (db.flatMap G).length = ((db.take j).flatMap G).length + (G db[j]).length + ((db.drop (j + 1)).flatMap G).length := by
          conv => lhs; rw [← List.take_append_drop j db, List.flatMap_append, List.drop_eq_getElem_cons hjl, List.flatMap_cons]
          simp only [List.length_append]; omega
        have hla : acc1.length ≤ acc0.length + ((db.take j).flatMap G).length := by
          rw [hacc, List.length_append]
          have := flatMap_len hf1 ((db.take j).flatMap G)
          omega
        cases hm2 : mtchA body[i] db[j] b with
        | none =>
          have hGj : G db[j] = [] := by simp only [G, hm2]
          refine W_cond (by simp [h0, h1, h3, h4, h7, h21, h22, h23, hok1, hbx, hnn, hfr, hm2]; exact .r _) (fun hz => ?_) (fun hz => ?_)
          · cases hz
          repeat' first|refine nx ?_|refine xb_miss (by decide) ?_|(apply W_reg;(simp [h0, h1, h3, h4, h7, h21, h22, h23, hok1, hbx, hnn, hfr];exact .r _))|(apply W_draw (id := 6) [0,0,0,6,14,0,63,127,255,255,0,1535,4095] rfl rfl; (· simp; exact .r _); (· simp [h0, h1, h3, h4, h7, h21, h22, h23, hok1, hbx, hnn, hfr]; exact .r _); (· first|trivial|simp))
          refine ⟨_, ?_, j + 1, acc1, rfl, rfl, ?_, ?_, ?_, ?_, ?_, ?_, ?_, ?_, by omega, q1, q2, (by show σ0.n < s2.n; omega), q4, by rw [htk, hGj, List.append_nil, hacc]⟩
          all_goals first|assumption|(simp [h0, h1, h3, h4, h7, h21, h22, h23, hok1, hbx, hnn, hfr];done)|(simp [h0, h1, h3, h4, h7, h21, h22, h23, hok1, hbx, hnn, hfr];omega)|(simp [h0, h1, h3, h4, h7, h21, h22, h23, hok1, hbx, hnn, hfr];exact wrap_succ (by omega))|omega
        | some c =>
          have hcb := hbc c hm2
          subst hcb
          have hGj : G db[j] = binds db (body.drop (i + 1)) b' := by simp only [G, hm2]
          have hcall := ih (i + 1) b' s2 acc1 (by omega) (by omega) hb' q1 (by rw [← hGj]; omega)
          rw [show ((i + 1 : Nat) : Int) = (i : Int) + 1 by omega] at hcall
          have hw : IntKind.i64.wrap ((i : Int) + 1) = (i : Int) + 1 := wrap_succ (by omega)
          refine W_cond (by simp [h0, h1, h3, h4, h7, h21, h22, h23, hok1, hbx, hnn, hfr, hm2]; exact .r _) (fun hz => ?_) (fun hz => ?_)
          · repeat' first|refine nx ?_|refine xb_miss (by decide) ?_|(apply W_reg;(simp [h0, h1, h3, h4, h7, h21, h22, h23, hok1, hbx, hnn, hfr, q5, kc1, kc3, hw, hcall];exact .r _))|(apply W_draw (id := 6) [0,0,0,6,14,0,63,127,255,255,0,1535,4095] rfl rfl; (· simp; exact .r _); (· simp [h0, h1, h3, h4, h7, h21, h22, h23, hok1, hbx, hnn, hfr, q5, kc1, kc3, hw, hcall]; exact .r _); (· first|trivial|simp))
            have hst := q1.st (acc1 ++ (binds db (body.drop (i + 1)) b').flatMap f)
            have hp0 := hok.pn
            have ho0 := hok.on
            refine ⟨_, ?_, j + 1, acc1 ++ (binds db (body.drop (i + 1)) b').flatMap f, rfl, rfl, ?_, ?_, ?_, ?_, ?_, ?_, ?_, ?_, by omega, hst, (by rw [St_ob, if_neg (by omega), if_neg (by omega)]; exact q2), (by show σ0.n < s2.n; omega), (fun x h1 h2 h3 => by rw [St_ob, if_neg h3, if_neg h2]; exact q4 x h1 h2 h3), by rw [htk, hGj, List.flatMap_append, ← List.append_assoc, ← hacc]⟩
            all_goals first|assumption|(simp [h0, h1, h3, h4, h7, h21, h22, h23, hok1, hbx, hnn, hfr];done)|(simp [h0, h1, h3, h4, h7, h21, h22, h23, hok1, hbx, hnn, hfr];omega)|(simp [h0, h1, h3, h4, h7, h21, h22, h23, hok1, hbx, hnn, hfr];exact wrap_succ (by omega))|omega
          · cases hz
      · have hjl : j = db.length := by simp at hc; omega
        subst hjl
        rw [List.take_length] at hacc
        repeat' first|refine nx ?_|refine xb_miss (by decide) ?_|(apply W_reg;(simp [h0, h1, h3, h4, h7, h21, h22, h23, hok1, hbx, hnn, hfr];exact .r _))|(apply W_draw (id := 6) [0,0,0,6,14,0,63,127,255,255,0,1535,4095] rfl rfl; (· simp; exact .r _); (· simp [h0, h1, h3, h4, h7, h21, h22, h23, hok1, hbx, hnn, hfr]; exact .r _); (· first|trivial|simp))
        refine ⟨.tup [], rfl, rfl, hnn, fun x hx => ?_⟩
        simp only
        rw [St_ob]
        split
        · rename_i e; subst e; rw [hok1.ho, hacc]
        · split
          · rename_i e; subst e; rw [hok1.hp, hacc]
          · rename_i e1 e2; exact hfr x hx e2 e1
    obtain ⟨r, σ1, h1, rfl, h3, h4⟩ := key
    have hst := hok.st (acc0 ++ (db.flatMap G).flatMap f)
    exact callV_cut (by rfl) (by rfl) h1 h3 rfl h4 (fun x hx => hst.cl x hx) (fun x hx => hst.dd x hx)
end
end Go.Proofs.YtpdpgfagklhpaaaGreat.V

namespace Go.Proofs.YtpdpgfagklhpaaaGreat.V
open Go Go.Proofs
set_option linter.unusedVariables false
set_option linter.unusedSimpArgs false
/-- Whether an atom becomes the fact. -/
def usesI (body : List RA) (fc : RA) (b : Bnd) : Bool := body.any fun a => decide ((⟨a.rel, a.args.map (valI b)⟩ : RA) = fc)
def takeD (q : Qry) (fc : RA) (b : Bnd) : List Row := if usesI q.body fc b then [q.head.map (valI b)] else []
theorem takeD_len (q : Qry) (fc : RA) (b : Bnd) : (takeD q fc b).length ≤ 1 := by unfold takeD; split <;> simp
theorem takeD_ok (q : Qry) (fc : RA) (hh : Sm q.head) (hb : Sm q.body) (ha : ∀ a ∈ q.body, Sm a.args) : TakeOk 37 [.ptr 1 0, .ptr 2 0, .ptr 4 0] 4 3 [(1, .box [Ar q.head, Ar q.body]), (2, .box [In fc.rel, Ar fc.args])] (takeD q fc) := by
  intro σ0 acc b hok hbl hlen
  have hc1 := cB_len hbl
  have hc2 := cB_one b
  have hc3 := cB_take hbl
  have hre : ∀ σ : Sto, (cB b).mapM (reify1 σ) = some (tB b) := cB_re b
  have k1 := (hok.ks _ (by simp : ((1 : Nat), VO.box [Ar q.head, Ar q.body]) ∈ _)).1
  have k2 := (hok.ks _ (by simp : ((2 : Nat), VO.box [In fc.rel, Ar fc.args]) ∈ _)).1
  simp only at k1 k2
  have hpn := hok.pn
  have key : ∃ r σ1, XX 37 [.agg (cB b), .ptr 1 0, .ptr 2 0, .ptr 4 0] σ0 = some (r, σ1) ∧ (r = .tup [] ∧ σ0.n < σ1.n ∧ ∀ x, x < σ0.n → σ1.ob x = (St 4 3 σ0 (acc ++ takeD q fc b)).ob x) := by
    have z1 : ¬ (1 = σ0.n) := by omega
    have z2 : ¬ (2 = σ0.n) := by omega
    have z3 : ¬ (3 = σ0.n) := by omega
    have z4 : ¬ (4 = σ0.n) := by omega
    refine W_fn rfl Tryz.func37 rfl rfl (by simp [Tryz.f37]) ?_
    simp only [Tryz.f37]
    repeat' first|refine nx ?_|refine xb_miss (by decide) ?_|(apply W_reg;(simp [hc2, hc3, k1, k2, z1, z2, z3, z4];exact .r _))|(apply W_draw (id := 4) [0,1,0,4,12,31,0,127] rfl rfl; (· simp; exact .r _); (· simp [hc2, hc3, k1, k2, z1, z2, z3, z4]; exact .r _); (· first|trivial|simp))|(apply W_draw (id := 5) [0,0,2,6,14,31,63] rfl rfl; (· simp; exact .r _); (· simp [hc2, hc3, k1, k2, z1, z2, z3, z4]; exact .r _); (· first|trivial|simp))
    refine W_loop (n := q.body.length) (fun n s => ∃ j : Nat, n = q.body.length - j ∧ s.nt = 29 ∧ s.tm 1 = .ptr 1 0 ∧ s.tm 2 = .ptr 2 0 ∧ s.tm 3 = .ptr 4 0 ∧ s.tm 4 = .ptr σ0.n 0 ∧ s.tm 8 = Ar q.body ∧ s.tm 9 = In q.body.length ∧ s.tm 10 = In j ∧ j ≤ q.body.length ∧ s.σ.ob σ0.n = .box (cB b) ∧ σ0.n < s.σ.n ∧ (∀ x, x < σ0.n → s.σ.ob x = σ0.ob x) ∧ usesI q.body fc b = usesI (q.body.drop j) fc b) ⟨0, by simp; exact fun x hx e => by omega⟩ ?_
    rintro n ⟨nt, tm, σ⟩ ⟨j, rfl, hnt, h1, h2, h3, h4, h8, h9, h10, hj, hbx, hnn, hfr, heq⟩
    simp only at hnt h1 h2 h3 h4 h8 h9 h10 hbx hnn hfr
    subst hnt
    have f1 : σ.ob 1 = .box [Ar q.head, Ar q.body] := by rw [hfr 1 (by omega)]; exact k1
    have f2 : σ.ob 2 = .box [In fc.rel, Ar fc.args] := by rw [hfr 2 (by omega)]; exact k2
    have f3 : σ.ob 3 = .arr (.own 0) 0 1 (rowsE acc) := by rw [hfr 3 (by omega)]; exact hok.ho
    have f4 : σ.ob 4 = .box [.ref 3 acc.length []] := by rw [hfr 4 (by omega)]; exact hok.hp
    have n0 : ¬ (σ0.n = σ.n) := by omega
    have n0' : ¬ (σ.n = σ0.n) := by omega
    have n1 : ¬ (σ0.n = σ.n + 1) := by omega
    have n1' : ¬ (σ.n + 1 = σ0.n) := by omega
    have n2 : ¬ (σ0.n = σ.n + 2) := by omega
    have m1 : ¬ (1 = σ.n) := by omega
    have m2 : ¬ (2 = σ.n) := by omega
    have m3 : ¬ (3 = σ.n) := by omega
    have m4 : ¬ (4 = σ.n) := by omega
    have w0 : ¬ (σ.n = 0) := by omega
    have w1 : ¬ (σ.n = 1) := by omega
    have w2 : ¬ (σ.n = 2) := by omega
    have w3 : ¬ (σ.n = 3) := by omega
    have w4 : ¬ (σ.n = 4) := by omega
    have m0 : ¬ (0 = σ.n) := by omega
    repeat' first|refine nx ?_|refine xb_miss (by decide) ?_|(apply W_reg;(simp [h1, h2, h3, h4, h8, h9, h10, hbx];exact .r _))|(apply W_draw (id := 4) [0,1,0,4,12,31,0,127] rfl rfl; (· simp; exact .r _); (· simp [h1, h2, h3, h4, h8, h9, h10, hbx]; exact .r _); (· first|trivial|simp))|(apply W_draw (id := 5) [0,0,2,6,14,31,63] rfl rfl; (· simp; exact .r _); (· simp [h1, h2, h3, h4, h8, h9, h10, hbx]; exact .r _); (· first|trivial|simp))
    refine W_cond (by simp [h1, h2, h3, h4, h8, h9, h10, hbx]; exact .r _) (fun hc => ?_) (fun hc => ?_)
    · have hjl : j < q.body.length := by simpa using hc
      have hsm := ha _ (List.getElem_mem hjl)
      have c1 := cv (tuple_r b hbl q.body[j].args hsm)
      have c2 := cv (equalFact_r ⟨q.body[j].rel, q.body[j].args.map (valI b)⟩ fc (by simpa [Sm] using hsm))
      have c3 := cv (tuple_r b hbl q.head hh)
      simp only [Ag, cells_RA, List.map_cons, List.map_nil] at c2
      repeat' first|refine nx ?_|refine xb_miss (by decide) ?_|(apply W_reg;(simp [h1, h2, h3, h4, h8, h9, h10, hbx, hjl, c1, c2, hre, f1, f2, f3, f4, n0, n0', n1, n1', n2, m0, m1, m2, m3, m4, w0, w1, w2, w3, w4];exact .r _))|(apply W_draw (id := 4) [0,1,0,4,12,31,0,127] rfl rfl; (· simp; exact .r _); (· simp [h1, h2, h3, h4, h8, h9, h10, hbx, hjl, c1, c2, hre, f1, f2, f3, f4, n0, n0', n1, n1', n2, m0, m1, m2, m3, m4, w0, w1, w2, w3, w4]; exact .r _); (· first|trivial|simp))|(apply W_draw (id := 5) [0,0,2,6,14,31,63] rfl rfl; (· simp; exact .r _); (· simp [h1, h2, h3, h4, h8, h9, h10, hbx, hjl, c1, c2, hre, f1, f2, f3, f4, n0, n0', n1, n1', n2, m0, m1, m2, m3, m4, w0, w1, w2, w3, w4]; exact .r _); (· first|trivial|simp))
      rw [List.drop_eq_getElem_cons hjl] at heq
      refine W_cond (by simp [h1, h2, h3, h4, h8, h9, h10, hbx]; exact .r _) (fun hd => ?_) (fun hd => ?_)
      · have hd' : (⟨q.body[j].rel, q.body[j].args.map (valI b)⟩ : RA) = fc := by simpa using hd
        have ht : takeD q fc b = [q.head.map (valI b)] := by
          have hu : usesI q.body fc b = true := by rw [heq]; unfold usesI; rw [List.any_cons, decide_eq_true hd', Bool.true_or]
          unfold takeD
          rw [if_pos hu]
        rw [ht]
        repeat' first|refine nx ?_|refine xb_miss (by decide) ?_|(apply W_reg;(simp [h1, h2, h3, h4, h8, h9, h10, hbx, c3, hre, f1, f2, f3, f4, n0, n0', n1, n1', n2, m0, m1, m2, m3, m4, w0, w1, w2, w3, w4, hlen];exact .r _))|(apply W_draw (id := 4) [0,1,0,4,12,31,0,127] rfl rfl; (· simp; exact .r _); (· simp [h1, h2, h3, h4, h8, h9, h10, hbx, c3, hre, f1, f2, f3, f4, n0, n0', n1, n1', n2, m0, m1, m2, m3, m4, w0, w1, w2, w3, w4, hlen]; exact .r _); (· first|trivial|simp))|(apply W_draw (id := 5) [0,0,2,6,14,31,63] rfl rfl; (· simp; exact .r _); (· simp [h1, h2, h3, h4, h8, h9, h10, hbx, c3, hre, f1, f2, f3, f4, n0, n0', n1, n1', n2, m0, m1, m2, m3, m4, w0, w1, w2, w3, w4, hlen]; exact .r _); (· first|trivial|simp))
        refine ⟨.tup [], rfl, rfl, ?_, fun x hx => ?_⟩
        · simp; omega
        · have hx1 : ¬ x = σ.n := by omega
          have hx2 : ¬ x = σ.n + 1 := by omega
          have hx3 : ¬ x = σ.n + 2 := by omega
          have hx4 : ¬ x = σ.n + 3 := by omega
          rw [St_ob]
          by_cases e3 : x = 3
          · subst e3; simp [upd_app, m3, hx1, hx2, hx3, rowsE_append, rowsE]
          · by_cases e4 : x = 4
            · subst e4; simp [upd_app]
            · have := hfr x hx
              simp [upd_app, e3, e4, hx1, hx2, hx3, hx4, this]
      · have hd' : ¬ (⟨q.body[j].rel, q.body[j].args.map (valI b)⟩ : RA) = fc := by simpa using hd
        repeat' first|refine nx ?_|refine xb_miss (by decide) ?_|(apply W_reg;(simp [h1, h2, h3, h4, h8, h9, h10, hbx];exact .r _))|(apply W_draw (id := 4) [0,1,0,4,12,31,0,127] rfl rfl; (· simp; exact .r _); (· simp [h1, h2, h3, h4, h8, h9, h10, hbx]; exact .r _); (· first|trivial|simp))|(apply W_draw (id := 5) [0,0,2,6,14,31,63] rfl rfl; (· simp; exact .r _); (· simp [h1, h2, h3, h4, h8, h9, h10, hbx]; exact .r _); (· first|trivial|simp))
        refine ⟨_, ?_, j + 1, rfl, rfl, ?_, ?_, ?_, ?_, ?_, ?_, ?_, by omega, by (simp [n0, n1, n2, hbx]), by (simp; omega), (fun x hx => by simp [upd_app, show ¬ x = σ.n by omega, show ¬ x = σ.n + 1 by omega, show ¬ x = σ.n + 2 by omega, hfr x hx]), by (rw [heq]; unfold usesI; rw [List.any_cons, decide_eq_false hd', Bool.false_or])⟩
        all_goals first|assumption|(simp [h1, h2, h3, h4, h8, h9, h10, hbx];done)|(simp [h1, h2, h3, h4, h8, h9, h10, hbx];omega)|(simp [h1, h2, h3, h4, h8, h9, h10, hbx];exact wrap_succ (by omega))|omega
    · have hjl : j = q.body.length := by simp at hc; omega
      subst hjl
      have ht : takeD q fc b = [] := by
        unfold takeD
        rw [heq, List.drop_length]; rfl
      rw [ht, List.append_nil]
      repeat' first|refine nx ?_|refine xb_miss (by decide) ?_|(apply W_reg;(simp [h1, h2, h3, h4, h8, h9, h10, hbx];exact .r _))|(apply W_draw (id := 4) [0,1,0,4,12,31,0,127] rfl rfl; (· simp; exact .r _); (· simp [h1, h2, h3, h4, h8, h9, h10, hbx]; exact .r _); (· first|trivial|simp))|(apply W_draw (id := 5) [0,0,2,6,14,31,63] rfl rfl; (· simp; exact .r _); (· simp [h1, h2, h3, h4, h8, h9, h10, hbx]; exact .r _); (· first|trivial|simp))
      refine ⟨.tup [], rfl, rfl, hnn, fun x hx => ?_⟩
      simp only
      rw [St_ob, hfr x hx]
      split
      · rename_i e; subst e; exact hok.ho
      · split
        · rename_i e; subst e; exact hok.hp
        · rfl
  obtain ⟨r, σ1, h1, rfl, h3, h4⟩ := key
  have hst := hok.st (acc ++ takeD q fc b)
  exact callV_cut (by rfl) (by rfl) h1 h3 rfl h4 (fun x hx => hst.cl x hx) (fun x hx => hst.dd x hx)
end Go.Proofs.YtpdpgfagklhpaaaGreat.V

namespace Go.Proofs.YtpdpgfagklhpaaaGreat.V
open Go Go.Proofs
set_option linter.unusedVariables false
set_option linter.unusedSimpArgs false
/-- Over the caller's store: a call that answers a slice that it made. -/
theorem callV_new {M : Nat → Bool} {X : Ora} {σ σ1 σ' : Sto} {f o' v st sz : Nat} {rows : List (List T)} {args : List AV} (hM : M f = true) (hP : M (f + 1000000) = false) (H : X f args σ = some (.ref o' v [], σ1)) (ho' : σ.n ≤ o') (hob : σ1.ob o' = .arr (.own 0) st sz rows) (hv : rows.length = v) (hn : σ.n < σ1.n) (hn' : σ'.n = σ.n)
    (h1 : ∀ x, x < σ.n → σ1.ob x = σ'.ob x) (hcl : ∀ x, x < σ.n → (σ'.ob x).clean σ.n = true) (hdd : ∀ x, σ.n ≤ x → σ'.ob x = .dead) : callV M X σ f args = some (.ref σ.n v [], σ'.new (.arr (.own 0) 0 sz rows)) := by
  unfold callV
  rw [if_pos hM, if_neg (by rw [hP]; exact Bool.false_ne_true), H]
  simp only
  rw [if_neg (by omega), if_pos (by rw [List.all_eq_true]; exact fun o ho => by rw [h1 o (List.mem_range.1 ho)]; exact hcl o (List.mem_range.1 ho)), cut_eq hn' h1 hdd]
  simp only [impR, impA, imp1]
  rw [if_neg (by omega), hob]
  simp only
  rw [if_pos ⟨hv, trivial⟩, hn']
  rfl
theorem cv_sortI {σ : Sto} {o st v : Nat} {xs : List Row} (hob : σ.ob o = .arr (.own 0) st 1 (rowsE xs)) (hv : v = xs.length) (hlen : xs.length < 4611686018427387904) (h : ∀ x ∈ xs, Sm x) :
    callV Ms XX σ 70 [.ref o v [], .clo 71 []] = some (.tup [], σ.set o (.arr (.own 0) (st + 1) 1 (rowsE (srt cmpI xs)))) :=
  callV_d (by rfl) (by rfl) ((R_giv (drawV_go) (by rfl) _ _).trans (sortG_eq (α := List Int) hob hv hlen ⟨h, fun a b _ _ h1 h2 => antiL a b h1 h2⟩)) rfl
theorem runsF_nil (t : Row) : runsF [] t = [⟨t, 1⟩] := rfl
theorem runsF_snoc (R : List Cnt) (c : Cnt) (t : Row) : runsF (R ++ [c]) t = if c.tuple = t then R ++ [⟨t, c.count + 1⟩] else (R ++ [c]) ++ [⟨t, 1⟩] := by
  unfold runsF
  rw [List.getLast?_append]
  simp
theorem runs_take (L : List Row) (i : Nat) (h : i < L.length) : runs (L.take (i + 1)) = runsF (runs (L.take i)) L[i] := by
  rw [List.take_succ_eq_append_getElem h]; unfold runs; rw [List.foldl_append]; rfl
theorem runs_bd (L : List Row) (i : Nat) (hi : i ≤ L.length) : (runs (L.take i)).length ≤ i ∧ ∀ c ∈ runs (L.take i), 1 ≤ c.count ∧ c.count ≤ i ∧ c.tuple ∈ L := by
  induction i with
  | zero => simp [runs]
  | succ i ih =>
    obtain ⟨h1, h2⟩ := ih (by omega)
    rw [runs_take L i (by omega)]
    rcases List.eq_nil_or_concat (runs (L.take i)) with e | ⟨R, c, e⟩
    · rw [e, runsF_nil]
      refine ⟨by simp, fun x hx => ?_⟩
      simp only [List.mem_cons, List.not_mem_nil, or_false] at hx
      subst hx
      exact ⟨by simp, by simp; omega, List.getElem_mem _⟩
    · rw [List.concat_eq_append] at e
      rw [e] at h1 h2 ⊢
      rw [runsF_snoc]
      split
      · rename_i he
        refine ⟨by simp at h1 ⊢; omega, fun x hx => ?_⟩
        rcases List.mem_append.1 hx with hx | hx
        · have := h2 x (List.mem_append.2 (.inl hx)); exact ⟨this.1, by omega, this.2.2⟩
        · simp only [List.mem_cons, List.not_mem_nil, or_false] at hx
          subst hx
          have := h2 c (by simp)
          exact ⟨by simp; omega, by simp; omega, List.getElem_mem _⟩
      · refine ⟨by simp at h1 ⊢; omega, fun x hx => ?_⟩
        rcases List.mem_append.1 hx with hx | hx
        · have := h2 x hx; exact ⟨this.1, by omega, this.2.2⟩
        · simp only [List.mem_cons, List.not_mem_nil, or_false] at hx
          subst hx
          exact ⟨by simp, by simp; omega, List.getElem_mem _⟩
theorem counted_c (σ0 : Sto) (o st : Nat) (l : List Row) (hob : σ0.ob o = .arr (.own 0) st 1 (rowsE l)) (hon : o < σ0.n) (hl : l.length < 1099511627775) (hs : ∀ x ∈ l, Sm x) (hcl : ∀ x, x < σ0.n → (σ0.ob x).clean σ0.n = true) (hdd : ∀ x, σ0.n ≤ x → σ0.ob x = .dead) :
    ∃ y, callV Ms XX σ0 40 [.ref o l.length []] = some (.ref σ0.n (runs (srt cmpI l)).length [], (⟨σ0.n, upd σ0.ob o y⟩ : Sto).new (.arr (.own 0) 0 2 (rowsE (runs (srt cmpI l))))) := by
  have key : ∃ r σ1, XX 40 [.ref o l.length []] σ0 = some (r, σ1) ∧ (r = .ref σ0.n (runs (srt cmpI l)).length [] ∧ σ0.n < σ1.n ∧ σ1.ob σ0.n = .arr (.own 0) 0 2 (rowsE (runs (srt cmpI l))) ∧ (∃ k, σ1.ob o = .arr (.own k) (st + 1) 1 (rowsE (srt cmpI l))) ∧ ∀ x, x < σ0.n → x ≠ o → σ1.ob x = σ0.ob x) := by
    refine W_fn rfl Tryz.func40 rfl rfl (by simp [Tryz.f40]) ?_
    simp only [Tryz.f40]
    have z1 : ¬ (o = σ0.n) := by omega
    have hso := cv_sortI (σ := ⟨σ0.n + 1, upd σ0.ob σ0.n (.arr (.own 0) 0 2 [])⟩) (o := o) (st := st) (v := l.length) (xs := l) (by simp [upd_app, z1]; exact hob) rfl (by omega) hs
    simp only [Sto.set] at hso
    have hll : (srt cmpI l).length = l.length := srt_perm.length_eq
    repeat' first|refine nx ?_|refine xb_miss (by decide) ?_|(apply W_reg;(simp [hso, hll];exact .r _))
    generalize hL : srt cmpI l = L at hll
    have hsL : ∀ x ∈ L, Sm x := fun x hx => hs x (by rw [← hL] at hx; exact srt_perm.mem_iff.1 hx)
    refine W_loop (n := L.length) (fun n s => ∃ i : Nat, ∃ k : Nat, ∃ R : List Cnt, n = L.length - i ∧ s.nt = 46 ∧ s.tm 3 = .ref σ0.n R.length [] ∧ s.tm 10 = .ref o l.length [] ∧ s.tm 11 = In l.length ∧ s.tm 12 = In i ∧ i ≤ L.length ∧ k ≤ i ∧ σ0.n < s.σ.n ∧ s.σ.ob o = .arr (.own k) (st + 1) 1 (rowsE L) ∧ s.σ.ob σ0.n = .arr (.own 0) 0 2 (rowsE R) ∧ (∀ x, x < σ0.n → x ≠ o → s.σ.ob x = σ0.ob x) ∧ R = runs (L.take i)) ⟨0, 0, [], by simp [z1, hL, hll, runs]; exact ⟨by omega, fun x h1 h2 => by rw [if_neg h2, if_neg (by omega)]⟩⟩ ?_
    rintro n ⟨nt, tm, σ⟩ ⟨i, k, R, rfl, hnt, h3, h10, h11, h12, hi, hk, hnn, hoo, haa, hfr, hR⟩
    simp only at hnt h3 h10 h11 h12 hnn hoo haa hfr
    subst hnt
    have n0 : ¬ (σ0.n = σ.n) := by omega
    have n0' : ¬ (σ.n = σ0.n) := by omega
    have n1 : ¬ (o = σ.n) := by omega
    have n1' : ¬ (σ.n = o) := by omega
    have n2 : ¬ (o = σ0.n) := by omega
    have n2' : ¬ (σ0.n = o) := by omega
    have hrl : (rowsE L).length = l.length := by rw [rowsE_len, hll]
    repeat' first|refine nx ?_|refine xb_miss (by decide) ?_|(apply W_reg;(simp [h3, h10, h11, h12, hoo, haa];exact .r _))
    refine W_cond (by simp [h3, h10, h11, h12, hoo, haa]; exact .r _) (fun hc => ?_) (fun hc => ?_)
    · have hil : i < L.length := by rw [hll]; simpa using hc
      have hbd := runs_bd L i (by omega)
      rw [← hR] at hbd
      have hst := runs_take L i hil
      rw [← hR] at hst
      have hg : (rowsE L)[i]? = some [.sl (rowsE L[i])] := by simp [rowsE, hil]
      rcases List.eq_nil_or_concat R with e | ⟨R', c, e⟩
      · subst e
        rw [runsF_nil] at hst
        repeat' first|refine nx ?_|refine xb_miss (by decide) ?_|(apply W_reg;(simp [h3, h10, h11, h12, hoo, haa, hrl, hg, hk, n0, n0', n1, n1', n2, n2'];exact .r _))
        refine W_cond (by simp [h3, h10, h11, h12, hoo, haa]; exact .r _) (fun hd => ?_) (fun hd => ?_)
        · cases hd
        repeat' first|refine nx ?_|refine xb_miss (by decide) ?_|(apply W_reg;(simp [h3, h10, h11, h12, hoo, haa, hrl, hg, hk, hil, n0, n0', n1, n1', n2, n2'];exact .r _))
        refine ⟨_, ?_, i + 1, i + 1, [⟨L[i], 1⟩], rfl, rfl, ?_, ?_, ?_, ?_, by omega, by omega, (by simp; omega), by (simp [n1, n2, n2', hoo]), by (simp [n0, n2, n2', rowsE]), (fun x hx1 hx2 => by simp [upd_app, show ¬ x = σ.n by omega, show ¬ x = σ0.n by omega, hx2, hfr x hx1 hx2]), hst.symm⟩
        all_goals first|assumption|(simp [h3, h10, h11, h12, hoo, haa, n0, n1, n2, n2'];done)|(simp [h3, h10, h11, h12, hoo, haa, n0, n1, n2, n2'];omega)|(simp [h3, h10, h11, h12, hoo, haa, n0, n1, n2, n2'];exact wrap_succ (by omega))|omega
      · rw [List.concat_eq_append] at e
        subst e
        rw [runsF_snoc] at hst
        obtain ⟨hb1, hb2⟩ := hbd
        have hcb := hb2 c (by simp)
        have hlen : (R' ++ [c]).length = R'.length + 1 := by simp
        have hgc : (rowsE (R' ++ [c]))[R'.length]? = some [.sl (rowsE c.tuple), .i .i64 c.count] := by simp [rowsE]
        have hw1 : IntKind.i64.wrap (R'.length : Int) = (R'.length : Int) := wrap_ok (by simp at hb1; omega) (by simp at hb1; omega)
        have hw2 : IntKind.i64.wrap (c.count + 1) = c.count + 1 := wrap_ok (by omega) (by omega)
        have hp : (0 : Int) < (R'.length : Int) + 1 := by omega
        have c1 := cv (eqInts_r c.tuple L[i] (hsL _ hcb.2.2))
        repeat' first|refine nx ?_|refine xb_miss (by decide) ?_|(apply W_reg;(simp [h3, h10, h11, h12, hoo, haa, hrl, hg, hk, hgc, hw1, hp, c1, hlen, n0, n0', n1, n1', n2, n2'];exact .r _))
        have hil' : i < l.length := by omega
        refine W_cond (by simp [h3, h10, h11, h12, hoo, haa]; exact .r _) (fun hd => ?_) (fun hd => ?_)
        · have he : c.tuple = L[i] := by simpa using hd
          rw [if_pos he] at hst
          repeat' first|refine nx ?_|refine xb_miss (by decide) ?_|(apply W_reg;(simp [h3, h10, h11, h12, hoo, haa, hrl, hg, hk, hgc, hw1, hw2, hp, hlen, n0, n0', n1, n1', n2, n2'];exact .r _))
          have hset : rowsE (R' ++ [⟨L[i], c.count + 1⟩]) = (rowsE (R' ++ [c])).set R'.length [.sl (rowsE c.tuple), .i .i64 (c.count + 1)] := by
            rw [← he]; simp [rowsE]
          refine ⟨_, ?_, i + 1, k, R' ++ [⟨L[i], c.count + 1⟩], rfl, rfl, (by simp [h3]), ?_, ?_, ?_, by omega, by omega, ?_, (by simp [n2, n2', hoo]), (by rw [hset]; simp [rowsE]), (fun x hx1 hx2 => by simp [upd_app, show ¬ x = σ.n by omega, show ¬ x = σ0.n by omega, hx2, hfr x hx1 hx2]), hst.symm⟩
          all_goals first|assumption|(simp [h3, h10, h11, h12, hoo, haa, n0, n1, n2, n2'];done)|(simp [h3, h10, h11, h12, hoo, haa, n0, n1, n2, n2'];omega)|(simp [h3, h10, h11, h12, hoo, haa, n0, n1, n2, n2'];exact wrap_succ (by omega))|omega
        · have he : ¬ c.tuple = L[i] := by simpa using hd
          rw [if_neg he] at hst
          repeat' first|refine nx ?_|refine xb_miss (by decide) ?_|(apply W_reg;(simp [h3, h10, h11, h12, hoo, haa, hrl, hg, hk, hil, hil', hlen, n0, n0', n1, n1', n2, n2', show R'.length + 1 + 1 < 1099511627776 by simp at hb1; omega];exact .r _))
          refine ⟨_, ?_, i + 1, i + 1, (R' ++ [c]) ++ [⟨L[i], 1⟩], rfl, rfl, ?_, ?_, ?_, ?_, by omega, by omega, (by simp; omega), (by simp [n1, n2, n2', hoo]), (by simp [n0, n2, n2', rowsE]), (fun x hx1 hx2 => by simp [upd_app, show ¬ x = σ.n by omega, show ¬ x = σ0.n by omega, hx2, hfr x hx1 hx2]), hst.symm⟩
          all_goals first|assumption|(simp [h3, h10, h11, h12, hoo, haa, n0, n1, n2, n2'];done)|(simp [h3, h10, h11, h12, hoo, haa, n0, n1, n2, n2'];omega)|(simp [h3, h10, h11, h12, hoo, haa, n0, n1, n2, n2'];exact wrap_succ (by omega))|omega
    · have hil : i = L.length := by rw [hll]; simp at hc; omega
      subst hil
      rw [List.take_length] at hR
      subst hR
      repeat' first|refine nx ?_|refine xb_miss (by decide) ?_|(apply W_reg;(simp [h3, h10, h11, h12, hoo, haa];exact .r _))
      exact ⟨_, rfl, rfl, hnn, haa, ⟨k, hoo⟩, hfr⟩
  obtain ⟨r, σ1, h1, rfl, h3, h4, ⟨k, h5⟩, h6⟩ := key
  refine ⟨.arr (.own k) (st + 1) 1 (rowsE (srt cmpI l)), ?_⟩
  refine callV_new (σ1 := σ1) (by rfl) (by rfl) h1 (Nat.le_refl _) h4 (by simp) h3 rfl (fun x hx => ?_) (fun x hx => ?_) (fun x hx => ?_)
  · simp only [upd_app]
    split
    · rename_i e; subst e; exact h5
    · rename_i e; exact h6 x hx e
  · simp only [upd_app]
    split
    · rfl
    · exact hcl x hx
  · simp only [upd_app]
    rw [if_neg (by omega)]; exact hdd x hx
theorem binds_le (db : List RA) : ∀ (body : List RA) (b : Bnd), (binds db body b).length ≤ db.length ^ body.length
  | [], b => by simp [binds]
  | a :: body, b => by
    have h : ∀ l : List RA, (l.flatMap fun f => match mtchA a f b with | some b' => binds db body b' | none => []).length ≤ l.length * db.length ^ body.length := by
      intro l
      induction l with
      | nil => simp
      | cons f l ih =>
        rw [List.flatMap_cons, List.length_append, List.length_cons, Nat.add_mul, Nat.one_mul, Nat.add_comm]
        refine Nat.add_le_add ih ?_
        cases mtchA a f b with
        | none => simp
        | some b' => exact binds_le db body b'
    have := h db
    rw [List.length_cons, Nat.pow_succ, Nat.mul_comm]
    exact this
theorem zeros_b0 : ([AV.t (T.i IntKind.i64 0), AV.t (T.i IntKind.i64 0), AV.t (T.i IntKind.i64 0), AV.t (T.i IntKind.i64 0), AV.t (T.i IntKind.i64 0), AV.t (T.i IntKind.i64 0), AV.t (T.i IntKind.i64 0), AV.t (T.i IntKind.i64 0), AV.t (T.i IntKind.i64 0), AV.t (T.i IntKind.i64 0), AV.t (T.i IntKind.i64 0), AV.t (T.i IntKind.i64 0), AV.t (T.i IntKind.i64 0), AV.t (T.i IntKind.i64 0), AV.t (T.i IntKind.i64 0), AV.t (T.i IntKind.i64 0), AV.t (T.i IntKind.i64 0), AV.t (T.i IntKind.i64 0), AV.t (T.i IntKind.i64 0), AV.t (T.i IntKind.i64 0), AV.t (T.b false), AV.t (T.b false), AV.t (T.b false), AV.t (T.b false), AV.t (T.b false), AV.t (T.b false), AV.t (T.b false), AV.t (T.b false), AV.t (T.b false), AV.t (T.b false), AV.t (T.b false), AV.t (T.b false), AV.t (T.b false), AV.t (T.b false), AV.t (T.b false), AV.t (T.b false), AV.t (T.b false), AV.t (T.b false), AV.t (T.b false), AV.t (T.b false)] : List AV) = cB b0 := rfl
/-- How often each row comes by a binding that uses the fact. -/
def deltaC (c : Sch) (q : Qry) (db : List RA) (fc : RA) : List Cnt := if isQry c q && isDb c db then runs (srt cmpI ((binds db q.body b0).flatMap (takeD q fc))) else []
theorem implDelta_r (c : Sch) (q : Qry) (db : List RA) (fc : RA) (hc : Lw.bd 1048576 c) (hq : Lw.bd 1048576 q) (hd : Lw.bd 1048576 db) : Ret XX 12 [Ag c, Ag q, Ar db, Ag fc] (.own 2 (rowsE (deltaC c q db fc))) := by
  refine ret_W rfl Tryz.func12 rfl rfl (by simp [Tryz.f12]) ?_
  simp only [Tryz.f12]
  have sc : Sm c.arity := Nat.lt_of_le_of_lt hc.1 (by omega)
  have sh : Sm q.head := Nat.lt_of_le_of_lt hq.1.1 (by omega)
  have sb : Sm q.body := Nat.lt_of_le_of_lt hq.2.1 (by omega)
  have sba : ∀ a ∈ q.body, Sm a.args := fun a ha => Nat.lt_of_le_of_lt (hq.2.2 a ha).1 (by omega)
  have sd : Sm db := Nat.lt_of_le_of_lt hd.1 (by omega)
  have sda : ∀ a ∈ db, Sm a.args := fun a ha => Nat.lt_of_le_of_lt (hd.2 a ha).1 (by omega)
  have c1 := cv (implIsQuery_r c q sc sh sb sba)
  have c2 := cv (implIsDb_r c db sc sd sda)
  simp only [Ag, cells_Sch, cells_Q, List.map_cons, List.map_nil] at c1 c2
  cases e1 : isQry c q
  · repeat' first|refine nx ?_|refine xb_miss (by decide) ?_|(apply W_reg;(simp [Ag, c1, e1];exact .r _))
    refine W_cond (by simp; exact .r _) (fun hc => ?_) (fun hc => ?_)
    · repeat' first|refine nx ?_|refine xb_miss (by decide) ?_|(apply W_reg;(simp;exact .r _))
      simp [deltaC, e1]
    · cases hc
  cases e2 : isDb c db
  · repeat' first|refine nx ?_|refine xb_miss (by decide) ?_|(apply W_reg;(simp [Ag, c1, e1, c2, e2];exact .r _))
    refine W_cond (by simp; exact .r _) (fun hc => ?_) (fun hc => ?_)
    · repeat' first|refine nx ?_|refine xb_miss (by decide) ?_|(apply W_reg;(simp;exact .r _))
      simp [deltaC, e2]
    · cases hc
  repeat' first|refine nx ?_|refine xb_miss (by decide) ?_|(apply W_reg;(simp [Ag, c1, e1, c2, e2];exact .r _))
  refine W_cond (by simp; exact .r _) (fun hc => ?_) (fun hc => ?_)
  · cases hc
  have hqs := isQry_small e1
  have hdl : db.length ≤ 24 := by simp [isDb] at e2; omega
  have hbn := binds_le db q.body b0
  have hpow : db.length ^ q.body.length ≤ 24 ^ 4 := Nat.le_trans (Nat.pow_le_pow_left hdl _) (Nat.pow_le_pow_right (by omega) hqs.2.1)
  have hp4 : (24 : Nat) ^ 4 = 331776 := by decide
  repeat' first|refine nx ?_|refine xb_miss (by decide) ?_|(apply W_reg;(simp;exact .r _))
  refine W_gen (fun s2 => Ok 4 3 [(1, .box [Ar q.head, Ar q.body]), (2, .box [In fc.rel, Ar fc.args])] s2 [] ∧ s2.n = 5 ∧ s2.ob 1 = .box [Ar q.head, Ar q.body]) ?_ (fun s2 hq2 => ?_)
  · refine ⟨⟨by simp [upd_app], by simp [upd_app], by simp, by simp, by omega, fun x hx => ?_, fun x hx => ?_, fun x hx => ?_⟩, rfl, by simp [upd_app]⟩
    · simp only [List.mem_cons, List.not_mem_nil, or_false] at hx
      rcases hx with rfl | rfl <;> simp [upd_app]
    · have hx : x < 5 := hx
      rcases (by omega : x = 0 ∨ x = 1 ∨ x = 2 ∨ x = 3 ∨ x = 4) with rfl | rfl | rfl | rfl | rfl <;> simp [upd_app, VO.clean, cleanA, clean1]
    · have hx : 5 ≤ x := hx
      simp [upd_app, show ¬ x = 0 by omega, show ¬ x = 1 by omega, show ¬ x = 2 by omega, show ¬ x = 3 by omega, show ¬ x = 4 by omega]
  obtain ⟨hok, hn5, hq1⟩ := hq2
  have hcall := visit_c (takeD_ok q fc sh sb sba) (takeD_len q fc) (by omega) (fun a ha => ⟨by have := (hqs.2.2.2 a ha).1; omega, fun t ht => isTerm_iff.2 ((hqs.2.2.2 a ha).2 t ht)⟩) sd (fun a ha => by have := sda a ha; omega) _ 0 b0 s2 [] rfl (Nat.zero_le _) rfl hok (by simp; omega)
  simp only [List.drop_zero, List.nil_append, Int.natCast_zero] at hcall
  have hzz := zeros_b0
  repeat' first|refine nx ?_|refine xb_miss (by decide) ?_|(apply W_reg;(simp [hq1, hzz, hcall];exact .r _))
  generalize hA : (binds db q.body b0).flatMap (takeD q fc) = accF at *
  have hst := hok.st accF
  have hlen : accF.length ≤ 331776 := by
    have := flatMap_len (takeD_len q fc) (binds db q.body b0)
    rw [hA] at this; omega
  have hsm : ∀ x ∈ accF, Sm x := fun x hx => by
    rw [← hA] at hx
    obtain ⟨b, _, hb2⟩ := List.mem_flatMap.1 hx
    unfold takeD at hb2
    split at hb2
    · simp only [List.mem_cons, List.not_mem_nil, or_false] at hb2
      subst hb2
      simpa [Sm] using sh
    · cases hb2
  obtain ⟨y, hy⟩ := counted_c (St 4 3 s2 accF) 3 0 accF hst.ho hst.on (by omega) hsm hst.cl hst.dd
  have hp4' : (St 4 3 s2 accF).ob 4 = .box [.ref 3 accF.length []] := hst.hp
  repeat' first|refine nx ?_|refine xb_miss (by decide) ?_|(apply W_reg;(simp [hp4', hy];exact .r _))
  simp [deltaC, e1, e2, hA]
end Go.Proofs.YtpdpgfagklhpaaaGreat.V

namespace Go.Proofs.YtpdpgfagklhpaaaGreat.V
open Go Go.Proofs
set_option linter.unusedVariables false
set_option linter.unusedSimpArgs false
/-- The reference's binding: the values, then 1 for each that is bound. -/
def bL (b : Bnd) : List Int := encB b ++ b.map fun o => if o.isSome then 1 else 0
theorem encB_len (b : Bnd) : (encB b).length = b.length := by simp [encB]
theorem bL_len {b : Bnd} (h : b.length = 20) : (bL b).length = 40 := by simp [bL, encB_len, h]
theorem rowE_get {l : List Int} {n : Nat} {x : Int} (h : l[n]? = some x) : (rowsE l)[n]? = some [T.i .i64 x] := by rw [rowsE, List.getElem?_map, h]; rfl
theorem bL_val {b : Bnd} {n : Nat} (h : n < b.length) : (bL b)[n]? = some ((b[n]).getD (-1)) := by
  rw [bL, List.getElem?_append_left (by rw [encB_len]; exact h), encB, List.getElem?_map, List.getElem?_eq_getElem h]; rfl
theorem bL_flag {b : Bnd} {n : Nat} (h : n < b.length) (hb : b.length = 20) : (bL b)[20 + n]? = some (if (b[n]).isSome then 1 else 0) := by
  rw [bL, List.getElem?_append_right (by rw [encB_len]; omega), encB_len, hb, Nat.add_sub_cancel_left, List.getElem?_map, List.getElem?_eq_getElem h]; rfl
theorem bL_set {b : Bnd} {n : Nat} {v : Int} (h : n < b.length) (hb : b.length = 20) : ((bL b).set n v).set (20 + n) 1 = bL (b.set n (some v)) := by
  unfold bL
  rw [List.set_append_left _ _ (by rw [encB_len]; exact h), List.set_append_right _ _ (by simp [encB_len]; omega)]
  have e : 20 + n - ((encB b).set n v).length = n := by simp [encB_len]; omega
  rw [e]
  congr 1
  · simp only [encB, List.map_set]; rfl
  · simp only [List.map_set]; rfl
theorem l6Bind_r (b : Bnd) (hb : b.length = 20) (ts vs : List Int) (hl : ts.length = vs.length) (hs : Sm ts) (ht : ∀ t ∈ ts, isTerm t = true) : ∃ b', b'.length = 20 ∧ (∀ c, mtch ts vs b = some c → b' = c) ∧
    Ret XX 89 [Ar ts, Ar vs, Ar (bL b)] (.tup [.own 1 (rowsE (bL b')), .t (.b (mtch ts vs b).isSome) false]) := by
  have hlen2 : ∀ (ts vs : List Int) (b : Bnd), (mtch2 ts vs b).1.length = b.length := by
    intro ts
    induction ts with
    | nil => intro vs b; cases vs <;> rfl
    | cons t ts ih =>
      intro vs b
      cases vs with
      | nil => rfl
      | cons v vs =>
        unfold mtch2
        split
        · rw [ih]; simp
        · split
          · exact ih vs b
          · rfl
  have hfl : (mtch ts vs b).isSome = (mtch2 ts vs b).2 := by rw [mtch2_eq _ _ _ ht]; cases (mtch2 ts vs b).2 <;> rfl
  refine ⟨(mtch2 ts vs b).1, by rw [hlen2]; exact hb, fun c h => ?_, ?_⟩
  · rw [mtch2_eq _ _ _ ht] at h
    split at h
    · exact Option.some.inj h
    · cases h
  rw [hfl]
  refine ret_W rfl Tryz.func89 rfl rfl (by simp [Tryz.f89]) ?_
  simp only [Tryz.f89]
  have h40 := bL_len hb
  repeat' first|refine nx ?_|refine xb_miss (by decide) ?_|(apply W_reg;(simp [h40];exact .r _))
  refine W_loop (n := ts.length) (fun n s => ∃ i : Nat, ∃ c : Bnd, n = ts.length - i ∧ s.nt = 65 ∧ s.tm 0 = Ar ts ∧ s.tm 1 = Ar vs ∧ s.tm 8 = .ref 0 40 [] ∧ s.tm 9 = In i ∧ i ≤ ts.length ∧ c.length = 20 ∧ s.σ.ob 0 = .arr (.own 0) 0 1 (rowsE (bL c)) ∧ mtch2 ts vs b = mtch2 (ts.drop i) (vs.drop i) c) ⟨0, b, by simp [hb, h40]⟩ ?_
  rintro n ⟨nt, tm, σ⟩ ⟨i, c, rfl, hnt, h0, h1, h8, h9, hi, hcl, ho, heq⟩
  simp only at hnt h0 h1 h8 h9 ho
  subst hnt
  repeat' first|refine nx ?_|refine xb_miss (by decide) ?_|(apply W_reg;(simp [h0, h1, h8, h9, ho];exact .r _))
  have k40 := bL_len hcl
  refine W_cond (by simp [h0, h1, h8, h9, ho]; exact .r _) (fun hc => ?_) (fun hc => ?_)
  · have hil : i < ts.length := by simpa using hc
    have hvl : i < vs.length := by omega
    have hti := ht _ (List.getElem_mem hil)
    have htr := isTerm_iff.1 hti
    rw [List.drop_eq_getElem_cons hil, List.drop_eq_getElem_cons hvl, mtch2, valI_eq hti] at heq
    repeat' first|refine nx ?_|refine xb_miss (by decide) ?_|(apply W_reg;(simp [h0, h1, h8, h9, ho, hil];exact .r _))
    refine W_cond (by simp [h0, h1, h8, h9, ho]; exact .r _) (fun hd => ?_) (fun hd => ?_)
    · have h0 : ts[i] < 0 := by simpa using hd
      have hw : IntKind.i64.wrap (-1 - ts[i]) = -1 - ts[i] := wrap_ok (by omega) (by omega)
      have hnv : isVar ts[i] = false := by
        cases hv : isVar ts[i] with
        | false => rfl
        | true => have := (isVar_iff.1 hv).1; omega
      rw [hnv, Bool.false_and, if_neg (by simp), valB, if_pos h0] at heq
      repeat' first|refine nx ?_|refine xb_miss (by decide) ?_|(apply W_reg;(simp [h0, h1, h8, h9, ho, hil, hvl, hw];exact .r _))
      refine W_cond (by simp [h0, h1, h8, h9, ho]; exact .r _) (fun he => ?_) (fun he => ?_)
      · have hne : ¬ -1 - ts[i] = vs[i] := by simpa using he
        rw [if_neg hne] at heq
        repeat' first|refine nx ?_|refine xb_miss (by decide) ?_|(apply W_reg;(simp [h0, h1, h8, h9, ho];exact .r _))
        simp [heq, ho, k40]
      · have hne : -1 - ts[i] = vs[i] := by simpa using he
        rw [if_pos hne] at heq
        repeat' first|refine nx ?_|refine xb_miss (by decide) ?_|(apply W_reg;(simp [h0, h1, h8, h9, ho];exact .r _))
        refine ⟨_, ?_, i + 1, c, rfl, rfl, ?_, ?_, ?_, ?_, by omega, hcl, ?_, heq⟩
        all_goals first|assumption|(simp [h0, h1, h8, h9, ho];done)|(simp [h0, h1, h8, h9, ho];omega)|(simp [h0, h1, h8, h9, ho];exact wrap_succ (by omega))|omega
    · have h0 : 0 ≤ ts[i] := by simp at hd; omega
      have hv : isVar ts[i] = true := isVar_iff.2 ⟨h0, htr.2⟩
      have htl : ts[i].toNat < c.length := by omega
      have hgb := getB_lt htl
      have hw : IntKind.i64.wrap (20 + ts[i]) = 20 + ts[i] := wrap_ok (by omega) (by omega)
      have h20 : (0 : Int) ≤ 20 + ts[i] := by omega
      have h20n : (20 + ts[i]).toNat = 20 + ts[i].toNat := by omega
      have g1 := rowE_get (bL_flag htl hcl)
      have g2 := rowE_get (bL_val htl)
      have hvb : valB c ts[i] = (getB c ts[i]).getD 0 := by unfold valB; rw [if_neg (by omega)]
      rw [hv, Bool.true_and, hvb, hgb] at heq
      cases e : c[ts[i].toNat] with
      | none =>
        rw [e] at g1 heq
        simp only [Option.isSome_none, Bool.false_eq_true, if_false] at g1
        simp only [Option.isSome_none, Bool.not_false, if_true] at heq
        repeat' first|refine nx ?_|refine xb_miss (by decide) ?_|(apply W_reg;(simp [h0, h1, h8, h9, ho, hil, hw, h20, h20n, k40, g1];exact .r _))
        refine W_cond (by simp [h0, h1, h8, h9, ho]; exact .r _) (fun he => ?_) (fun he => ?_)
        · have hset := bL_set (v := vs[i]) htl hcl
          have hs1 : ((rowsE (bL c)).set ts[i].toNat [T.i .i64 vs[i]])[20 + ts[i].toNat]? = some [T.i .i64 0] := by rw [List.getElem?_set_ne (by omega)]; exact g1
          repeat' first|refine nx ?_|refine xb_miss (by decide) ?_|(apply W_reg;(simp [h0, h1, h8, h9, ho, hil, hvl, h0, hw, h20, h20n, k40, g2, hs1];exact .r _))
          refine ⟨_, ?_, i + 1, c.set ts[i].toNat (some vs[i]), rfl, rfl, ?_, ?_, ?_, ?_, by omega, by simpa using hcl, (by simp; rw [← hset, rowsE_set, rowsE_set]; rfl), heq⟩
          all_goals first|assumption|(simp [h0, h1, h8, h9, ho];done)|(simp [h0, h1, h8, h9, ho];omega)|(simp [h0, h1, h8, h9, ho];exact wrap_succ (by omega))|omega
        · cases he
      | some x =>
        rw [e] at g1 g2 heq
        simp only [Option.isSome_some, if_true, Option.getD_some] at g1 g2
        simp only [Option.isSome_some, Bool.not_true, Bool.false_eq_true, if_false, Option.getD_some] at heq
        repeat' first|refine nx ?_|refine xb_miss (by decide) ?_|(apply W_reg;(simp [h0, h1, h8, h9, ho, hil, hw, h20, h20n, k40, g1];exact .r _))
        refine W_cond (by simp [h0, h1, h8, h9, ho]; exact .r _) (fun he => ?_) (fun he => ?_)
        · cases he
        · repeat' first|refine nx ?_|refine xb_miss (by decide) ?_|(apply W_reg;(simp [h0, h1, h8, h9, ho, hil, hvl, h0, k40, g2];exact .r _))|(apply W_draw (id := 12) [0,0,3,7,0,0,48,112,255,511] rfl rfl; (· simp; exact .r _); (· simp [h0, h1, h8, h9, ho, hil, hvl, h0, k40, g2]; exact .r _); (· first|trivial|simp))
          refine W_cond (by simp [h0, h1, h8, h9, ho]; exact .r _) (fun hf => ?_) (fun hf => ?_)
          · have hne : ¬ x = vs[i] := by simpa using hf
            rw [if_neg hne] at heq
            repeat' first|refine nx ?_|refine xb_miss (by decide) ?_|(apply W_reg;(simp [h0, h1, h8, h9, ho];exact .r _))
            simp [heq, ho, k40]
          · have hne : x = vs[i] := by simpa using hf
            rw [if_pos hne] at heq
            repeat' first|refine nx ?_|refine xb_miss (by decide) ?_|(apply W_reg;(simp [h0, h1, h8, h9, ho];exact .r _))
            refine ⟨_, ?_, i + 1, c, rfl, rfl, ?_, ?_, ?_, ?_, by omega, hcl, ?_, heq⟩
            all_goals first|assumption|(simp [h0, h1, h8, h9, ho];done)|(simp [h0, h1, h8, h9, ho];omega)|(simp [h0, h1, h8, h9, ho];exact wrap_succ (by omega))|omega
  have hil : i = ts.length := by simp at hc; omega
  subst hil
  rw [List.drop_length, hl, List.drop_length] at heq
  have heq2 : mtch2 ts vs b = (c, true) := heq
  repeat' first|refine nx ?_|refine xb_miss (by decide) ?_|(apply W_reg;(simp [h0, h1, h8, h9, ho];exact .r _))
  simp [heq2, ho, k40]
end Go.Proofs.YtpdpgfagklhpaaaGreat.V

namespace Go.Proofs.YtpdpgfagklhpaaaGreat.V
open Go Go.Proofs
set_option linter.unusedVariables false
set_option linter.unusedSimpArgs false
theorem Ok.put {p o w : Nat} {ks : List (Nat × VO)} {σ : Sto} {acc : List Row} {y : VO} (h : Ok p o ks σ acc) (h1 : w ≠ p) (h2 : w ≠ o) (h3 : ∀ q ∈ ks, q.1 ≠ w) (h4 : y.clean σ.n = true) (h5 : w < σ.n) : Ok p o ks ⟨σ.n, upd σ.ob w y⟩ acc := by
  refine ⟨?_, ?_, h.pn, h.on, h.po, fun q hq => ?_, fun x hx => ?_, fun x hx => ?_⟩
  · simp only [upd_app]; rw [if_neg (fun e => h1 e.symm)]; exact h.hp
  · simp only [upd_app]; rw [if_neg (fun e => h2 e.symm)]; exact h.ho
  · obtain ⟨g1, g2, g3, g4⟩ := h.ks q hq
    exact ⟨by simp only [upd_app]; rw [if_neg (h3 q hq)]; exact g1, g2, g3, g4⟩
  · simp only [upd_app]
    split
    · exact h4
    · exact h.cl x hx
  · have hx : σ.n ≤ x := hx
    simp only [upd_app]; rw [if_neg (by omega)]; exact h.dd x hx
theorem bL_take {b : Bnd} (h : b.length = 20) : (rowsE (bL b)).take 20 = rowsE (encB b) := by
  rw [rowsE, ← List.map_take, bL, List.take_append_of_le_length (by rw [encB_len]; omega), List.take_of_length_le (by rw [encB_len]; omega)]; rfl
theorem search_c {q : Qry} {db : List RA} {p o : Nat} (hbl : q.body.length ≤ 1000) (hbody : ∀ a ∈ q.body, a.args.length ≤ 1000 ∧ ∀ t ∈ a.args, isTerm t = true) (hdl : Sm db) (hdb : ∀ x ∈ db, Sm x.args) :
    ∀ (d i : Nat) (b : Bnd) (σ0 : Sto) (acc0 : List Row) (w : Nat), q.body.length - i = d → i ≤ q.body.length → b.length = 20 → Ok p o [] σ0 acc0 → σ0.ob w = .arr (.own 0) 0 1 (rowsE (bL b)) → w ≠ p → w ≠ o → w < σ0.n → acc0.length + (binds db (q.body.drop i) b).length + 1 < 1099511627776 →
      ∃ m st sz rows, callV Ms XX σ0 79 [Ag q, Ar db, In i, .ref w 40 [], .ptr p 0] = some (.tup [], ⟨σ0.n, upd (St p o σ0 (acc0 ++ (binds db (q.body.drop i) b).map encB)).ob w (.arr m st sz rows)⟩) := by
  intro d
  induction d with
  | zero =>
    intro i b σ0 acc0 w hd hi hb hok hw hwp hwo hwn hN
    have hie : i = q.body.length := by omega
    subst hie
    rw [List.drop_length]
    simp only [binds, List.map_cons, List.map_nil]
    have h40 := bL_len hb
    have htk := bL_take hb
    have hel := encB_len b
    have z1 : ¬ (w = σ0.n) := by omega
    have z2 : ¬ (p = σ0.n) := by have := hok.pn; omega
    have z3 : ¬ (o = σ0.n) := by have := hok.on; omega
    have z1' : ¬ (σ0.n = w) := by omega
    have z2' : ¬ (σ0.n = p) := by omega
    have z3' : ¬ (σ0.n = o) := by omega
    have y1 : ¬ (w = σ0.n + 1) := by omega
    have y2 : ¬ (p = σ0.n + 1) := by have := hok.pn; omega
    have y3 : ¬ (o = σ0.n + 1) := by have := hok.on; omega
    have y1' : ¬ (σ0.n + 1 = w) := by omega
    have y2' : ¬ (σ0.n + 1 = p) := by have := hok.pn; omega
    have y3' : ¬ (σ0.n + 1 = o) := by have := hok.on; omega
    have x1' : ¬ (σ0.n + 2 = w) := by omega
    have x2' : ¬ (σ0.n + 2 = p) := by have := hok.pn; omega
    have x3' : ¬ (σ0.n + 2 = o) := by have := hok.on; omega
    have x1 : ¬ (w = σ0.n + 2) := by omega
    have x2 : ¬ (p = σ0.n + 2) := by have := hok.pn; omega
    have x3 : ¬ (o = σ0.n + 2) := by have := hok.on; omega
    have hwp' : ¬ (p = w) := fun e => hwp e.symm
    have hwo' : ¬ (o = w) := fun e => hwo e.symm
    have hop : ¬ (o = p) := fun e => hok.po e.symm
    have hpo := hok.po
    have hHp := hok.hp
    have hHo := hok.ho
    have key : ∃ r σ1, XX 79 [Ag q, Ar db, In q.body.length, .ref w 40 [], .ptr p 0] σ0 = some (r, σ1) ∧ (r = .tup [] ∧ σ0.n < σ1.n ∧ (∃ m st sz rows, σ1.ob w = .arr m st sz rows) ∧ ∀ x, x < σ0.n → x ≠ w → σ1.ob x = (St p o σ0 (acc0 ++ [encB b])).ob x) := by
      refine W_fn rfl Tryz.func79 rfl rfl (by simp [Tryz.f79]) ?_
      simp only [Tryz.f79]
      repeat' first|refine nx ?_|refine xb_miss (by decide) ?_|(apply W_reg;(simp [Ag, z1, z2, z3];exact .r _))|(apply W_draw (id := 2) [0,0,2,6,0,0,32,112,240,510,1023,2047] rfl rfl; (· simp; exact .r _); (· simp [Ag, z1, z2, z3]; exact .r _); (· first|trivial|simp))|(apply W_draw (id := 6) [0,0,3,7,15,0,32,0,224,480,992,2047,4095,8191,8191,32767,65535,131071,262143,8191,532479,8191,3678207,7872511,16261119,33038335,67108863,134217727] rfl rfl; (· simp; exact .r _); (· simp [Ag, z1, z2, z3]; exact .r _); (· first|trivial|simp))|(apply W_draw (id := 7) [0,1,0,7,15,31,0,0,192,448,960,0,4095,8191,16383,16383,32767,131071] rfl rfl; (· simp; exact .r _); (· simp [Ag, z1, z2, z3]; exact .r _); (· first|trivial|simp))
      refine W_cond (by simp; exact .r _) (fun hc => ?_) (fun hc => ?_)
      · repeat' first|refine nx ?_|refine xb_miss (by decide) ?_|(apply W_reg;(simp [hw, hHp, hHo, h40, htk, hel, hb, hwp, hwo, hwp', hwo', hop, hpo, z1, z2, z3, z1', z2', z3', y1, y2, y3, y1', y2', y3', x1, x2, x3, x1', x2', x3', show acc0.length + 1 < 1099511627776 by omega];exact .r _))|(apply W_draw (id := 2) [0,0,2,6,0,0,32,112,240,510,1023,2047] rfl rfl; (· simp; exact .r _); (· simp [hw, hHp, hHo, h40, htk, hel, hb, hwp, hwo, hwp', hwo', hop, hpo, z1, z2, z3, z1', z2', z3', y1, y2, y3, y1', y2', y3', x1, x2, x3, x1', x2', x3', show acc0.length + 1 < 1099511627776 by omega]; exact .r _); (· first|trivial|simp))|(apply W_draw (id := 6) [0,0,3,7,15,0,32,0,224,480,992,2047,4095,8191,8191,32767,65535,131071,262143,8191,532479,8191,3678207,7872511,16261119,33038335,67108863,134217727] rfl rfl; (· simp; exact .r _); (· simp [hw, hHp, hHo, h40, htk, hel, hb, hwp, hwo, hwp', hwo', hop, hpo, z1, z2, z3, z1', z2', z3', y1, y2, y3, y1', y2', y3', x1, x2, x3, x1', x2', x3', show acc0.length + 1 < 1099511627776 by omega]; exact .r _); (· first|trivial|simp))|(apply W_draw (id := 7) [0,1,0,7,15,31,0,0,192,448,960,0,4095,8191,16383,16383,32767,131071] rfl rfl; (· simp; exact .r _); (· simp [hw, hHp, hHo, h40, htk, hel, hb, hwp, hwo, hwp', hwo', hop, hpo, z1, z2, z3, z1', z2', z3', y1, y2, y3, y1', y2', y3', x1, x2, x3, x1', x2', x3', show acc0.length + 1 < 1099511627776 by omega]; exact .r _); (· first|trivial|simp))
        refine ⟨.tup [], rfl, rfl, ?_, ?_, fun x hx hxw => ?_⟩
        · simp
        · simp [upd_app, hwp, hwo, z1, y1, x1]
        · rw [St_ob]
          by_cases e1 : x = o
          · subst e1; simp [upd_app, hpo, hop, hwo', y3, x3, rowsE_append, rowsE]
          · by_cases e2 : x = p
            · subst e2; simp [upd_app, hpo]
            · simp [upd_app, e1, e2, hxw, show ¬ x = σ0.n by omega, show ¬ x = σ0.n + 1 by omega, show ¬ x = σ0.n + 2 by omega, show ¬ x = σ0.n + 3 by omega]
      · simp at hc
    obtain ⟨r, σ1, h1, rfl, h3, ⟨m, st, sz, rows, h4⟩, h5⟩ := key
    have hst := hok.st (acc0 ++ [encB b])
    refine ⟨m, st, sz, rows, callV_cut (by rfl) (by rfl) h1 h3 rfl (fun x hx => ?_) (fun x hx => ?_) (fun x hx => ?_)⟩
    · simp only [upd_app]
      split
      · rename_i e; subst e; exact h4
      · rename_i e; exact h5 x hx e
    · simp only [upd_app]
      split
      · rfl
      · exact hst.cl x hx
    · simp only [upd_app]
      rw [if_neg (by omega)]; exact hst.dd x hx
  | succ d ih =>
    intro i b σ0 acc0 w hd hi hb hok hw hwp hwo hwn hN
    have hil : i < q.body.length := by omega
    have hbi := hbody _ (List.getElem_mem hil)
    have hne : ¬ ((i : Int) = q.body.length) := by omega
    have z1 : ¬ (w = σ0.n) := by omega
    have z2 : ¬ (p = σ0.n) := by have := hok.pn; omega
    have z3 : ¬ (o = σ0.n) := by have := hok.on; omega
    let G : RA → List Bnd := fun x => match mtchA q.body[i] x b with
      | some b' => binds db (q.body.drop (i + 1)) b'
      | none => []
    have hG : binds db (q.body.drop i) b = db.flatMap G := by rw [List.drop_eq_getElem_cons hil]; rfl
    rw [hG] at hN ⊢
    have key : ∃ r σ1, XX 79 [Ag q, Ar db, In i, .ref w 40 [], .ptr p 0] σ0 = some (r, σ1) ∧ (r = .tup [] ∧ σ0.n < σ1.n ∧ σ1.ob w = .arr (.own 0) 0 1 (rowsE (bL b)) ∧ ∀ x, x < σ0.n → σ1.ob x = (St p o σ0 (acc0 ++ (db.flatMap G).map encB)).ob x) := by
      refine W_fn rfl Tryz.func79 rfl rfl (by simp [Tryz.f79]) ?_
      simp only [Tryz.f79]
      repeat' first|refine nx ?_|refine xb_miss (by decide) ?_|(apply W_reg;(simp [Ag, z1, z2, z3, hne];exact .r _))|(apply W_draw (id := 2) [0,0,2,6,0,0,32,112,240,510,1023,2047] rfl rfl; (· simp; exact .r _); (· simp [Ag, z1, z2, z3, hne]; exact .r _); (· first|trivial|simp))|(apply W_draw (id := 6) [0,0,3,7,15,0,32,0,224,480,992,2047,4095,8191,8191,32767,65535,131071,262143,8191,532479,8191,3678207,7872511,16261119,33038335,67108863,134217727] rfl rfl; (· simp; exact .r _); (· simp [Ag, z1, z2, z3, hne]; exact .r _); (· first|trivial|simp))|(apply W_draw (id := 7) [0,1,0,7,15,31,0,0,192,448,960,0,4095,8191,16383,16383,32767,131071] rfl rfl; (· simp; exact .r _); (· simp [Ag, z1, z2, z3, hne]; exact .r _); (· first|trivial|simp))
      refine W_cond (by simp; exact .r _) (fun hc => ?_) (fun hc => ?_)
      · cases hc
      repeat' first|refine nx ?_|refine xb_miss (by decide) ?_|(apply W_reg;(simp;exact .r _))|(apply W_draw (id := 2) [0,0,2,6,0,0,32,112,240,510,1023,2047] rfl rfl; (· simp; exact .r _); (· simp; exact .r _); (· first|trivial|simp))|(apply W_draw (id := 6) [0,0,3,7,15,0,32,0,224,480,992,2047,4095,8191,8191,32767,65535,131071,262143,8191,532479,8191,3678207,7872511,16261119,33038335,67108863,134217727] rfl rfl; (· simp; exact .r _); (· simp; exact .r _); (· first|trivial|simp))|(apply W_draw (id := 7) [0,1,0,7,15,31,0,0,192,448,960,0,4095,8191,16383,16383,32767,131071] rfl rfl; (· simp; exact .r _); (· simp; exact .r _); (· first|trivial|simp))
      have hokn : Ok p o [] ⟨σ0.n + 1, upd σ0.ob σ0.n (.box [.t (.sl (rowsE q.head)), .t (.sl (rowsE q.body))])⟩ acc0 := hok.grow (Nat.le_succ _) (fun x hx => by simp only [upd_app]; rw [if_neg (by omega)]) (fun x h1 h2 => by
        have h2' : x < σ0.n + 1 := h2
        have : x = σ0.n := by omega
        subst this; simp [upd_app, VO.clean, cleanA, clean1]) (fun x hx => by
        have hx' : σ0.n + 1 ≤ x := hx
        simp only [upd_app]; rw [if_neg (by omega)]; exact hok.dd x (by omega))
      refine W_loop (n := db.length) (fun n s => ∃ j : Nat, ∃ acc1 : List Row, n = db.length - j ∧ s.nt = 87 ∧ s.tm 1 = Ar db ∧ s.tm 2 = In i ∧ s.tm 3 = .ref w 40 [] ∧ s.tm 4 = .ptr p 0 ∧ s.tm 5 = .ptr σ0.n 0 ∧ s.tm 10 = In j ∧ j ≤ db.length ∧ Ok p o [] s.σ acc1 ∧ s.σ.ob σ0.n = .box [.t (.sl (rowsE q.head)), .t (.sl (rowsE q.body))] ∧ s.σ.ob w = .arr (.own 0) 0 1 (rowsE (bL b)) ∧ σ0.n < s.σ.n ∧ (∀ x, x < σ0.n → x ≠ p → x ≠ o → s.σ.ob x = σ0.ob x) ∧ acc1 = acc0 ++ ((db.take j).flatMap G).map encB) ⟨0, acc0, by simp; exact ⟨hokn, by rw [if_neg z1]; exact hw, fun x h1 h2 h3 e => by omega⟩⟩ ?_
      rintro n ⟨nt, tm, σ⟩ ⟨j, acc1, rfl, hnt, h1, h2, h3, h4, h5, h10, hj, hok1, hbx, hwb, hnn, hfr, hacc⟩
      simp only at hnt h1 h2 h3 h4 h5 h10 hok1 hbx hwb hnn hfr
      subst hnt
      repeat' first|refine nx ?_|refine xb_miss (by decide) ?_|(apply W_reg;(simp [h1, h2, h3, h4, h5, h10, hok1, hbx, hwb, hnn, hfr];exact .r _))|(apply W_draw (id := 2) [0,0,2,6,0,0,32,112,240,510,1023,2047] rfl rfl; (· simp; exact .r _); (· simp [h1, h2, h3, h4, h5, h10, hok1, hbx, hwb, hnn, hfr]; exact .r _); (· first|trivial|simp))|(apply W_draw (id := 6) [0,0,3,7,15,0,32,0,224,480,992,2047,4095,8191,8191,32767,65535,131071,262143,8191,532479,8191,3678207,7872511,16261119,33038335,67108863,134217727] rfl rfl; (· simp; exact .r _); (· simp [h1, h2, h3, h4, h5, h10, hok1, hbx, hwb, hnn, hfr]; exact .r _); (· first|trivial|simp))|(apply W_draw (id := 7) [0,1,0,7,15,31,0,0,192,448,960,0,4095,8191,16383,16383,32767,131071] rfl rfl; (· simp; exact .r _); (· simp [h1, h2, h3, h4, h5, h10, hok1, hbx, hwb, hnn, hfr]; exact .r _); (· first|trivial|simp))
      refine W_cond (by simp [h1, h2, h3, h4, h5, h10, hok1, hbx, hwb, hnn, hfr]; exact .r _) (fun hc => ?_) (fun hc => ?_)
      · have hjl : j < db.length := by simpa using hc
        have htk : (db.take (j + 1)).flatMap G = (db.take j).flatMap G ++ G db[j] := by rw [List.take_succ_eq_append_getElem hjl, List.flatMap_append]; simp
        have hsp : (db.flatMap G).length = ((db.take j).flatMap G).length + (G db[j]).length + ((db.drop (j + 1)).flatMap G).length := by
          conv => lhs; rw [← List.take_append_drop j db, List.flatMap_append, List.drop_eq_getElem_cons hjl, List.flatMap_cons]
          simp only [List.length_append]; omega
        have hla : acc1.length = acc0.length + ((db.take j).flatMap G).length := by
          rw [hacc, List.length_append, List.length_map]
        have hcmp : ((db[j].rel = q.body[i].rel ∧ db[j].args.length = q.body[i].args.length) ∨ ¬ (db[j].rel = q.body[i].rel ∧ db[j].args.length = q.body[i].args.length)) := Classical.em _
        rcases hcmp with hcmp | hcmp
        · obtain ⟨b', hb', hbc, hm⟩ := l6Bind_r b hb q.body[i].args db[j].args hcmp.2.symm (by have := hbi.1; unfold Sm; omega) hbi.2
          have hre : ([Ar q.body[i].args, Ar db[j].args, .ref w 40 []] : List AV).mapM (reify σ) = some [Ar q.body[i].args, Ar db[j].args, Ar (bL b)] := by
            have h40 := bL_len hb
            simp [reify, reifyP, reify1, hwb, VO.rows, h40]
          have hm := cv hm rfl σ _ hre
          have n0 : ¬ (σ0.n = σ.n) := by omega
          have n0' : ¬ (σ.n = σ0.n) := by omega
          have hmA : mtchA q.body[i] db[j] b = mtch q.body[i].args db[j].args b := by unfold mtchA; rw [if_pos ⟨hcmp.1.symm, hcmp.2.symm⟩]
          repeat' first|refine nx ?_|refine xb_miss (by decide) ?_|(apply W_reg;(simp [h1, h2, h3, h4, h5, h10, hok1, hbx, hwb, hnn, hfr, hjl, hil, hbx, hcmp.1, hcmp.2];exact .r _))|(apply W_draw (id := 2) [0,0,2,6,0,0,32,112,240,510,1023,2047] rfl rfl; (· simp; exact .r _); (· simp [h1, h2, h3, h4, h5, h10, hok1, hbx, hwb, hnn, hfr, hjl, hil, hbx, hcmp.1, hcmp.2]; exact .r _); (· first|trivial|simp))|(apply W_draw (id := 6) [0,0,3,7,15,0,32,0,224,480,992,2047,4095,8191,8191,32767,65535,131071,262143,8191,532479,8191,3678207,7872511,16261119,33038335,67108863,134217727] rfl rfl; (· simp; exact .r _); (· simp [h1, h2, h3, h4, h5, h10, hok1, hbx, hwb, hnn, hfr, hjl, hil, hbx, hcmp.1, hcmp.2]; exact .r _); (· first|trivial|simp))|(apply W_draw (id := 7) [0,1,0,7,15,31,0,0,192,448,960,0,4095,8191,16383,16383,32767,131071] rfl rfl; (· simp; exact .r _); (· simp [h1, h2, h3, h4, h5, h10, hok1, hbx, hwb, hnn, hfr, hjl, hil, hbx, hcmp.1, hcmp.2]; exact .r _); (· first|trivial|simp))
          refine W_cond (by simp [h1, h2, h3, h4, h5, h10, hok1, hbx, hwb, hnn, hfr]; exact .r _) (fun hg => ?_) (fun hg => ?_)
          · cases hg
          have k40 := bL_len hb'
          repeat' first|refine nx ?_|refine xb_miss (by decide) ?_|(apply W_reg;(simp [h1, h2, h3, h4, h5, h10, hok1, hbx, hwb, hnn, hfr, hjl, hil, hbx, hwb, hm, k40];exact .r _))|(apply W_draw (id := 2) [0,0,2,6,0,0,32,112,240,510,1023,2047] rfl rfl; (· simp; exact .r _); (· simp [h1, h2, h3, h4, h5, h10, hok1, hbx, hwb, hnn, hfr, hjl, hil, hbx, hwb, hm, k40]; exact .r _); (· first|trivial|simp))|(apply W_draw (id := 6) [0,0,3,7,15,0,32,0,224,480,992,2047,4095,8191,8191,32767,65535,131071,262143,8191,532479,8191,3678207,7872511,16261119,33038335,67108863,134217727] rfl rfl; (· simp; exact .r _); (· simp [h1, h2, h3, h4, h5, h10, hok1, hbx, hwb, hnn, hfr, hjl, hil, hbx, hwb, hm, k40]; exact .r _); (· first|trivial|simp))|(apply W_draw (id := 7) [0,1,0,7,15,31,0,0,192,448,960,0,4095,8191,16383,16383,32767,131071] rfl rfl; (· simp; exact .r _); (· simp [h1, h2, h3, h4, h5, h10, hok1, hbx, hwb, hnn, hfr, hjl, hil, hbx, hwb, hm, k40]; exact .r _); (· first|trivial|simp))
          have hpn := hok1.pn
          have hon := hok1.on
          refine W_gen (fun s2 => Ok p o [] s2 acc1 ∧ s2.ob σ0.n = .box [.t (.sl (rowsE q.head)), .t (.sl (rowsE q.body))] ∧ s2.n = σ.n + 1 ∧ s2.ob w = .arr (.own 0) 0 1 (rowsE (bL b)) ∧ (∀ x, x < σ0.n → x ≠ p → x ≠ o → s2.ob x = σ0.ob x) ∧ s2.ob σ.n = .arr (.own 0) 0 1 (rowsE (bL b'))) ?_ (fun s2 hq => ?_)
          · refine ⟨hok1.grow (Nat.le_succ _) (fun x hx => ?_) (fun x h1 h2 => ?_) (fun x hx => ?_), ?_, rfl, ?_, fun x h1 h2 h3 => ?_, ?_⟩
            · simp [upd_app, show ¬ x = σ.n by omega]
            · have h2' : x < σ.n + 1 := h2
              obtain rfl : x = σ.n := by omega
              simp [upd_app, VO.clean]
            · have hx' : σ.n + 1 ≤ x := hx
              simp [upd_app, show ¬ x = σ.n by omega]
              exact hok1.dd x (by omega)
            · simp [upd_app, n0]; exact hbx
            · simp [upd_app, show ¬ w = σ.n by omega]; exact hwb
            · simp [upd_app, show ¬ x = σ.n by omega]
              exact hfr x h1 h2 h3
            · simp [upd_app]
          obtain ⟨q1, q2, q3, q4, q5, q6⟩ := hq
          cases hm2 : mtch q.body[i].args db[j].args b with
          | none =>
            have hGj : G db[j] = [] := by simp only [G, hmA, hm2]
            refine W_cond (by simp [h1, h2, h3, h4, h5, h10, hok1, hbx, hwb, hnn, hfr, hm2]; exact .r _) (fun hz => ?_) (fun hz => ?_)
            · cases hz
            repeat' first|refine nx ?_|refine xb_miss (by decide) ?_|(apply W_reg;(simp [h1, h2, h3, h4, h5, h10, hok1, hbx, hwb, hnn, hfr];exact .r _))|(apply W_draw (id := 2) [0,0,2,6,0,0,32,112,240,510,1023,2047] rfl rfl; (· simp; exact .r _); (· simp [h1, h2, h3, h4, h5, h10, hok1, hbx, hwb, hnn, hfr]; exact .r _); (· first|trivial|simp))|(apply W_draw (id := 6) [0,0,3,7,15,0,32,0,224,480,992,2047,4095,8191,8191,32767,65535,131071,262143,8191,532479,8191,3678207,7872511,16261119,33038335,67108863,134217727] rfl rfl; (· simp; exact .r _); (· simp [h1, h2, h3, h4, h5, h10, hok1, hbx, hwb, hnn, hfr]; exact .r _); (· first|trivial|simp))|(apply W_draw (id := 7) [0,1,0,7,15,31,0,0,192,448,960,0,4095,8191,16383,16383,32767,131071] rfl rfl; (· simp; exact .r _); (· simp [h1, h2, h3, h4, h5, h10, hok1, hbx, hwb, hnn, hfr]; exact .r _); (· first|trivial|simp))
            refine ⟨_, ?_, j + 1, acc1, rfl, rfl, ?_, ?_, ?_, ?_, ?_, ?_, by omega, q1, q2, q4, (by show σ0.n < s2.n; omega), q5, by rw [htk, hGj, List.append_nil, hacc]⟩
            all_goals first|assumption|(simp [h1, h2, h3, h4, h5, h10, hok1, hbx, hwb, hnn, hfr];done)|(simp [h1, h2, h3, h4, h5, h10, hok1, hbx, hwb, hnn, hfr];omega)|(simp [h1, h2, h3, h4, h5, h10, hok1, hbx, hwb, hnn, hfr];exact wrap_succ (by omega))|omega
          | some c =>
            have hcb := hbc c hm2
            subst hcb
            have hGj : G db[j] = binds db (q.body.drop (i + 1)) b' := by simp only [G, hmA, hm2]
            obtain ⟨m, st, sz, rows, hcall⟩ := ih (i + 1) b' s2 acc1 σ.n (by omega) (by omega) hb' q1 q6 (by omega) (by omega) (by omega) (by rw [← hGj]; omega)
            rw [show ((i + 1 : Nat) : Int) = (i : Int) + 1 by omega] at hcall
            have hAq : Ag q = .agg [.t (.sl (rowsE q.head)), .t (.sl (rowsE q.body))] := rfl
            rw [hAq] at hcall
            have hw : IntKind.i64.wrap ((i : Int) + 1) = (i : Int) + 1 := wrap_succ (by omega)
            refine W_cond (by simp [h1, h2, h3, h4, h5, h10, hok1, hbx, hwb, hnn, hfr, hm2]; exact .r _) (fun hz => ?_) (fun hz => ?_)
            · repeat' first|refine nx ?_|refine xb_miss (by decide) ?_|(apply W_reg;(simp [h1, h2, h3, h4, h5, h10, hok1, hbx, hwb, hnn, hfr, q2, hw, hcall];exact .r _))|(apply W_draw (id := 2) [0,0,2,6,0,0,32,112,240,510,1023,2047] rfl rfl; (· simp; exact .r _); (· simp [h1, h2, h3, h4, h5, h10, hok1, hbx, hwb, hnn, hfr, q2, hw, hcall]; exact .r _); (· first|trivial|simp))|(apply W_draw (id := 6) [0,0,3,7,15,0,32,0,224,480,992,2047,4095,8191,8191,32767,65535,131071,262143,8191,532479,8191,3678207,7872511,16261119,33038335,67108863,134217727] rfl rfl; (· simp; exact .r _); (· simp [h1, h2, h3, h4, h5, h10, hok1, hbx, hwb, hnn, hfr, q2, hw, hcall]; exact .r _); (· first|trivial|simp))|(apply W_draw (id := 7) [0,1,0,7,15,31,0,0,192,448,960,0,4095,8191,16383,16383,32767,131071] rfl rfl; (· simp; exact .r _); (· simp [h1, h2, h3, h4, h5, h10, hok1, hbx, hwb, hnn, hfr, q2, hw, hcall]; exact .r _); (· first|trivial|simp))
              have hst := (q1.st (acc1 ++ (binds db (q.body.drop (i + 1)) b').map encB)).put (w := σ.n) (y := .arr m st sz rows) (by omega) (by omega) (fun q hq => by cases hq) rfl (by show σ.n < s2.n; omega)
              have hp0 := hok.pn
              have ho0 := hok.on
              refine ⟨_, ?_, j + 1, acc1 ++ (binds db (q.body.drop (i + 1)) b').map encB, rfl, rfl, ?_, ?_, ?_, ?_, ?_, ?_, by omega, hst, (by simp only [upd_app]; rw [if_neg n0, St_ob, if_neg (by omega), if_neg (by omega)]; exact q2), (by simp only [upd_app]; rw [if_neg (by omega), St_ob, if_neg hwo, if_neg hwp]; exact q4), (by show σ0.n < s2.n; omega), (fun x h1 h2 h3 => by simp only [upd_app]; rw [if_neg (by omega), St_ob, if_neg h3, if_neg h2]; exact q5 x h1 h2 h3), by rw [htk, hGj, List.map_append, ← List.append_assoc, ← hacc]⟩
              all_goals first|assumption|(simp [h1, h2, h3, h4, h5, h10, hok1, hbx, hwb, hnn, hfr];done)|(simp [h1, h2, h3, h4, h5, h10, hok1, hbx, hwb, hnn, hfr];omega)|(simp [h1, h2, h3, h4, h5, h10, hok1, hbx, hwb, hnn, hfr];exact wrap_succ (by omega))|omega
            · cases hz
        · have hGj : G db[j] = [] := by simp only [G, mtchA]; rw [if_neg (fun e => hcmp ⟨e.1.symm, e.2.symm⟩)]
          by_cases hr : db[j].rel = q.body[i].rel
          · have hl : ¬ db[j].args.length = q.body[i].args.length := fun e => hcmp ⟨hr, e⟩
            have hl2 : ¬ (db[j].args.length : Int) = q.body[i].args.length := by omega
            repeat' first|refine nx ?_|refine xb_miss (by decide) ?_|(apply W_reg;(simp [h1, h2, h3, h4, h5, h10, hok1, hbx, hwb, hnn, hfr, hjl, hil, hbx, hr, hl, hl2];exact .r _))|(apply W_draw (id := 2) [0,0,2,6,0,0,32,112,240,510,1023,2047] rfl rfl; (· simp; exact .r _); (· simp [h1, h2, h3, h4, h5, h10, hok1, hbx, hwb, hnn, hfr, hjl, hil, hbx, hr, hl, hl2]; exact .r _); (· first|trivial|simp))|(apply W_draw (id := 6) [0,0,3,7,15,0,32,0,224,480,992,2047,4095,8191,8191,32767,65535,131071,262143,8191,532479,8191,3678207,7872511,16261119,33038335,67108863,134217727] rfl rfl; (· simp; exact .r _); (· simp [h1, h2, h3, h4, h5, h10, hok1, hbx, hwb, hnn, hfr, hjl, hil, hbx, hr, hl, hl2]; exact .r _); (· first|trivial|simp))|(apply W_draw (id := 7) [0,1,0,7,15,31,0,0,192,448,960,0,4095,8191,16383,16383,32767,131071] rfl rfl; (· simp; exact .r _); (· simp [h1, h2, h3, h4, h5, h10, hok1, hbx, hwb, hnn, hfr, hjl, hil, hbx, hr, hl, hl2]; exact .r _); (· first|trivial|simp))
            refine W_cond (by simp [h1, h2, h3, h4, h5, h10, hok1, hbx, hwb, hnn, hfr]; exact .r _) (fun hg => ?_) (fun hg => ?_)
            · repeat' first|refine nx ?_|refine xb_miss (by decide) ?_|(apply W_reg;(simp [h1, h2, h3, h4, h5, h10, hok1, hbx, hwb, hnn, hfr];exact .r _))|(apply W_draw (id := 2) [0,0,2,6,0,0,32,112,240,510,1023,2047] rfl rfl; (· simp; exact .r _); (· simp [h1, h2, h3, h4, h5, h10, hok1, hbx, hwb, hnn, hfr]; exact .r _); (· first|trivial|simp))|(apply W_draw (id := 6) [0,0,3,7,15,0,32,0,224,480,992,2047,4095,8191,8191,32767,65535,131071,262143,8191,532479,8191,3678207,7872511,16261119,33038335,67108863,134217727] rfl rfl; (· simp; exact .r _); (· simp [h1, h2, h3, h4, h5, h10, hok1, hbx, hwb, hnn, hfr]; exact .r _); (· first|trivial|simp))|(apply W_draw (id := 7) [0,1,0,7,15,31,0,0,192,448,960,0,4095,8191,16383,16383,32767,131071] rfl rfl; (· simp; exact .r _); (· simp [h1, h2, h3, h4, h5, h10, hok1, hbx, hwb, hnn, hfr]; exact .r _); (· first|trivial|simp))
              refine ⟨_, ?_, j + 1, acc1, rfl, rfl, ?_, ?_, ?_, ?_, ?_, ?_, by omega, hok1, hbx, hwb, hnn, hfr, by rw [htk, hGj, List.append_nil, hacc]⟩
              all_goals first|assumption|(simp [h1, h2, h3, h4, h5, h10, hok1, hbx, hwb, hnn, hfr];done)|(simp [h1, h2, h3, h4, h5, h10, hok1, hbx, hwb, hnn, hfr];omega)|(simp [h1, h2, h3, h4, h5, h10, hok1, hbx, hwb, hnn, hfr];exact wrap_succ (by omega))|omega
            · simp [hl] at hg
          · repeat' first|refine nx ?_|refine xb_miss (by decide) ?_|(apply W_reg;(simp [h1, h2, h3, h4, h5, h10, hok1, hbx, hwb, hnn, hfr, hjl, hil, hbx, hr];exact .r _))|(apply W_draw (id := 2) [0,0,2,6,0,0,32,112,240,510,1023,2047] rfl rfl; (· simp; exact .r _); (· simp [h1, h2, h3, h4, h5, h10, hok1, hbx, hwb, hnn, hfr, hjl, hil, hbx, hr]; exact .r _); (· first|trivial|simp))|(apply W_draw (id := 6) [0,0,3,7,15,0,32,0,224,480,992,2047,4095,8191,8191,32767,65535,131071,262143,8191,532479,8191,3678207,7872511,16261119,33038335,67108863,134217727] rfl rfl; (· simp; exact .r _); (· simp [h1, h2, h3, h4, h5, h10, hok1, hbx, hwb, hnn, hfr, hjl, hil, hbx, hr]; exact .r _); (· first|trivial|simp))|(apply W_draw (id := 7) [0,1,0,7,15,31,0,0,192,448,960,0,4095,8191,16383,16383,32767,131071] rfl rfl; (· simp; exact .r _); (· simp [h1, h2, h3, h4, h5, h10, hok1, hbx, hwb, hnn, hfr, hjl, hil, hbx, hr]; exact .r _); (· first|trivial|simp))
            refine W_cond (by simp [h1, h2, h3, h4, h5, h10, hok1, hbx, hwb, hnn, hfr]; exact .r _) (fun hg => ?_) (fun hg => ?_)
            · repeat' first|refine nx ?_|refine xb_miss (by decide) ?_|(apply W_reg;(simp [h1, h2, h3, h4, h5, h10, hok1, hbx, hwb, hnn, hfr];exact .r _))|(apply W_draw (id := 2) [0,0,2,6,0,0,32,112,240,510,1023,2047] rfl rfl; (· simp; exact .r _); (· simp [h1, h2, h3, h4, h5, h10, hok1, hbx, hwb, hnn, hfr]; exact .r _); (· first|trivial|simp))|(apply W_draw (id := 6) [0,0,3,7,15,0,32,0,224,480,992,2047,4095,8191,8191,32767,65535,131071,262143,8191,532479,8191,3678207,7872511,16261119,33038335,67108863,134217727] rfl rfl; (· simp; exact .r _); (· simp [h1, h2, h3, h4, h5, h10, hok1, hbx, hwb, hnn, hfr]; exact .r _); (· first|trivial|simp))|(apply W_draw (id := 7) [0,1,0,7,15,31,0,0,192,448,960,0,4095,8191,16383,16383,32767,131071] rfl rfl; (· simp; exact .r _); (· simp [h1, h2, h3, h4, h5, h10, hok1, hbx, hwb, hnn, hfr]; exact .r _); (· first|trivial|simp))
              refine ⟨_, ?_, j + 1, acc1, rfl, rfl, ?_, ?_, ?_, ?_, ?_, ?_, by omega, hok1, hbx, hwb, hnn, hfr, by rw [htk, hGj, List.append_nil, hacc]⟩
              all_goals first|assumption|(simp [h1, h2, h3, h4, h5, h10, hok1, hbx, hwb, hnn, hfr];done)|(simp [h1, h2, h3, h4, h5, h10, hok1, hbx, hwb, hnn, hfr];omega)|(simp [h1, h2, h3, h4, h5, h10, hok1, hbx, hwb, hnn, hfr];exact wrap_succ (by omega))|omega
            · simp [hr] at hg
      · have hjl : j = db.length := by simp at hc; omega
        subst hjl
        rw [List.take_length] at hacc
        repeat' first|refine nx ?_|refine xb_miss (by decide) ?_|(apply W_reg;(simp [h1, h2, h3, h4, h5, h10, hok1, hbx, hwb, hnn, hfr];exact .r _))|(apply W_draw (id := 2) [0,0,2,6,0,0,32,112,240,510,1023,2047] rfl rfl; (· simp; exact .r _); (· simp [h1, h2, h3, h4, h5, h10, hok1, hbx, hwb, hnn, hfr]; exact .r _); (· first|trivial|simp))|(apply W_draw (id := 6) [0,0,3,7,15,0,32,0,224,480,992,2047,4095,8191,8191,32767,65535,131071,262143,8191,532479,8191,3678207,7872511,16261119,33038335,67108863,134217727] rfl rfl; (· simp; exact .r _); (· simp [h1, h2, h3, h4, h5, h10, hok1, hbx, hwb, hnn, hfr]; exact .r _); (· first|trivial|simp))|(apply W_draw (id := 7) [0,1,0,7,15,31,0,0,192,448,960,0,4095,8191,16383,16383,32767,131071] rfl rfl; (· simp; exact .r _); (· simp [h1, h2, h3, h4, h5, h10, hok1, hbx, hwb, hnn, hfr]; exact .r _); (· first|trivial|simp))
        refine ⟨.tup [], rfl, rfl, hnn, hwb, fun x hx => ?_⟩
        simp only
        rw [St_ob]
        split
        · rename_i e; subst e; rw [hok1.ho, hacc]
        · split
          · rename_i e; subst e; rw [hok1.hp, hacc]
          · rename_i e1 e2; exact hfr x hx e2 e1
    obtain ⟨r, σ1, h1, rfl, h3, h4, h5⟩ := key
    have hst := hok.st (acc0 ++ (db.flatMap G).map encB)
    refine ⟨.own 0, 0, 1, rowsE (bL b), callV_cut (by rfl) (by rfl) h1 h3 rfl (fun x hx => ?_) (fun x hx => ?_) (fun x hx => ?_)⟩
    · simp only [upd_app]
      split
      · rename_i e; subst e; exact h4
      · exact h5 x hx
    · simp only [upd_app]
      split
      · rfl
      · exact hst.cl x hx
    · simp only [upd_app]
      rw [if_neg (by omega)]; exact hst.dd x hx
end Go.Proofs.YtpdpgfagklhpaaaGreat.V

namespace Go.Proofs.YtpdpgfagklhpaaaGreat.V
open Go Go.Proofs
set_option linter.unusedVariables false
set_option linter.unusedSimpArgs false
theorem l6Empty_r : Ret XX 80 [] (.own 1 (rowsE (bL b0))) := by
  refine ret_W rfl Tryz.func80 rfl rfl (by simp [Tryz.f80]) ?_
  simp only [Tryz.f80]
  repeat' first|refine nx ?_|refine xb_miss (by decide) ?_|(apply W_reg;(simp;exact .r _))
  refine W_loop (n := 20) (fun n s => ∃ i : Nat, ∃ acc : List Int, n = 20 - i ∧ s.nt = 20 ∧ s.tm 1 = .ref 0 acc.length [] ∧ s.tm 2 = In i ∧ i ≤ 20 ∧ s.σ.ob 0 = .arr (.own 0) 0 1 (rowsE acc) ∧ 1 ≤ s.σ.n ∧ acc = List.replicate i (-1)) ⟨0, [], by simp⟩ ?_
  rintro n ⟨nt, tm, σ⟩ ⟨i, acc, rfl, hnt, h1, h2, hi, ho, hn, hacc⟩
  simp only at hnt h1 h2 ho hn
  subst hnt
  · have n0 : ¬ (0 = σ.n) := by omega
    have n0' : ¬ (σ.n = 0) := by omega
    have hl : acc.length = i := by rw [hacc, List.length_replicate]
    repeat' first|refine nx ?_|refine xb_miss (by decide) ?_|(apply W_reg;(simp [h1, h2, ho, hn];exact .r _))
    refine W_cond (by simp [h1, h2, ho, hn]; exact .r _) (fun hc => ?_) (fun hc => ?_)
    · have hil : i < 20 := by simp at hc; omega
      repeat' first|refine nx ?_|refine xb_miss (by decide) ?_|(apply W_reg;(simp [h1, h2, ho, hn, n0, n0', show acc.length + 1 < 1099511627776 by omega];exact .r _))
      refine ⟨_, ?_, i + 1, acc ++ [-1], rfl, rfl, ?_, ?_, by omega, ?_, ?_, (by rw [hacc, List.replicate_succ'])⟩
      all_goals first|assumption|(simp [h1, h2, ho, hn, rowsE_append, n0, n0', rowsE];done)|(simp [h1, h2, ho, hn, rowsE_append, n0, n0', rowsE];omega)|(simp [h1, h2, ho, hn, rowsE_append, n0, n0', rowsE];exact wrap_succ (by omega))|omega
    · have hil : i = 20 := by simp at hc; omega
      subst hil
      repeat' first|refine nx ?_|refine xb_miss (by decide) ?_|(apply W_reg;(simp [h1, h2, ho, hn];exact .r _))
      refine W_loop (n := 20) (fun n s => ∃ k : Nat, ∃ ac2 : List Int, n = 20 - k ∧ s.nt = 20 ∧ s.tm 1 = .ref 0 ac2.length [] ∧ s.tm 3 = In k ∧ k ≤ 20 ∧ s.σ.ob 0 = .arr (.own 0) 0 1 (rowsE ac2) ∧ 1 ≤ s.σ.n ∧ ac2 = acc ++ List.replicate k 0) ⟨0, acc, by simp [h1, h2, ho, hn]⟩ ?_
      rintro n ⟨nt, tm, σ⟩ ⟨k, ac2, rfl, hnt, h1, h3, hk, ho2, hn2, hac2⟩
      simp only at hnt h1 h3 ho2 hn2
      subst hnt
      have m0 : ¬ (0 = σ.n) := by omega
      have m0' : ¬ (σ.n = 0) := by omega
      have hl2 : ac2.length = 20 + k := by rw [hac2, List.length_append, List.length_replicate, hl]
      repeat' first|refine nx ?_|refine xb_miss (by decide) ?_|(apply W_reg;(simp [h1, h3, ho2, hn2];exact .r _))
      refine W_cond (by simp [h1, h3, ho2, hn2]; exact .r _) (fun hd => ?_) (fun hd => ?_)
      · have hkl : k < 20 := by simp at hd; omega
        repeat' first|refine nx ?_|refine xb_miss (by decide) ?_|(apply W_reg;(simp [h1, h3, ho2, hn2, m0, m0', show ac2.length + 1 < 1099511627776 by omega];exact .r _))
        refine ⟨_, ?_, k + 1, ac2 ++ [0], rfl, rfl, ?_, ?_, by omega, ?_, ?_, (by rw [hac2, List.replicate_succ', List.append_assoc])⟩
        all_goals first|assumption|(simp [h1, h3, ho2, hn2, rowsE_append, m0, m0', rowsE];done)|(simp [h1, h3, ho2, hn2, rowsE_append, m0, m0', rowsE];omega)|(simp [h1, h3, ho2, hn2, rowsE_append, m0, m0', rowsE];exact wrap_succ (by omega))|omega
      · have hkl : k = 20 := by simp at hd; omega
        subst hkl
        have he : ac2 = bL b0 := by rw [hac2, hacc]; rfl
        subst he
        repeat' first|refine nx ?_|refine xb_miss (by decide) ?_|(apply W_reg;(simp [h1, h3, ho2, hn2];exact .r _))
        simp [ho2]
/-- What l6Sort keeps: sorted; each row once, or each as often as it comes. -/
def SortI (once : Bool) (acc m : List Row) : Prop := if once = true then Asc acc ∧ ∀ x, x ∈ acc ↔ x ∈ m else Ord acc ∧ acc.Perm m
theorem SortI.ord {once : Bool} {acc m : List Row} (h : SortI once acc m) : Ord acc := by
  unfold SortI at h
  split at h
  · exact asc_ord h.1
  · exact h.1
theorem SortI.dup {acc m : List Row} {x : Row} (h : SortI true acc m) (hx : x ∈ acc) : SortI true acc (m ++ [x]) := by
  obtain ⟨h1, h2⟩ := h
  refine ⟨h1, fun y => ?_⟩
  rw [List.mem_append, List.mem_singleton, ← h2 y]
  exact ⟨Or.inl, fun h => h.elim id fun e => by rw [e]; exact hx⟩
theorem SortI.ins {once : Bool} {acc m : List Row} {x : Row} {k : Nat} (h : SortI once acc m) (hk : k ≤ acc.length) (h2 : ∀ j (hj : j < acc.length), k ≤ j → cmpI x acc[j] < 0)
    (hk1 : ∀ (hj : k - 1 < acc.length), 0 < k → ¬ cmpI x acc[k - 1] < 0) (hone : once = true → ∀ (hj : k - 1 < acc.length), 0 < k → acc[k - 1] ≠ x) : SortI once (acc.take k ++ [x] ++ acc.drop k) (m ++ [x]) := by
  have ho := h.ord
  have h1 : ∀ j (hj : j < acc.length), j < k → ¬ cmpI x acc[j] < 0 := by
    intro j hj hjk hlt
    have hkl : k - 1 < acc.length := by omega
    by_cases e : j = k - 1
    · subst e; exact hk1 hkl (by omega) hlt
    · have hp := List.pairwise_iff_getElem.1 ho j (k - 1) hj hkl (by omega)
      by_cases e2 : acc[k - 1] = acc[j]
      · exact hk1 hkl (by omega) (by rw [e2]; exact hlt)
      · exact hk1 hkl (by omega) (cmp_trans _ _ _ hlt (cmp_flip _ _ hp e2))
  unfold SortI at h ⊢
  split at h
  · rename_i e
    obtain ⟨ha, hm⟩ := h
    rw [if_pos e]
    refine ⟨asc_ins ha hk (fun j hj hjk => ?_) h2, fun y => ?_⟩
    · refine cmp_flip _ _ (h1 j hj hjk) (fun e3 => ?_)
      have hkl : k - 1 < acc.length := by omega
      by_cases e2 : j = k - 1
      · subst e2; exact hone e hkl (by omega) e3.symm
      · have hp := List.pairwise_iff_getElem.1 ha j (k - 1) hj hkl (by omega)
        rw [← e3] at hp
        exact hk1 hkl (by omega) hp
    · rw [(ins_perm acc x k).mem_iff, List.mem_append, List.mem_append, hm y]
  · rename_i e
    rw [if_neg e]
    exact ⟨ord_ins h.1 hk h1 h2, (ins_perm acc x k).trans (h.2.append_right [x])⟩
theorem SortI.eq {once : Bool} {acc m : List Row} (h : SortI once acc m) : acc = if once = true then srtU m else srt cmpI m := by
  unfold SortI at h
  split at h
  · rename_i e; rw [if_pos e]; exact srtU_of h.1 h.2
  · rename_i e; rw [if_neg e]; exact srt_of h.1 h.2
theorem uniq_len : ∀ l : List Row, (uniq l).length ≤ l.length
  | [] => by simp [uniq]
  | [a] => by simp [uniq]
  | a :: b :: l => by
    have h := uniq_len (b :: l)
    unfold uniq
    split
    · simp only [List.length_cons] at h ⊢; omega
    · simp only [List.length_cons] at h ⊢; omega
theorem SortI.len {once : Bool} {acc m : List Row} (h : SortI once acc m) : acc.length ≤ m.length := by
  rw [h.eq]
  split
  · exact Nat.le_trans (uniq_len _) (by rw [srt_perm.length_eq]; exact Nat.le_refl _)
  · rw [srt_perm.length_eq]; exact Nat.le_refl _
theorem SortI.mem {once : Bool} {acc m : List Row} (h : SortI once acc m) {x : Row} (hx : x ∈ acc) : x ∈ m := by
  unfold SortI at h
  split at h
  · exact (h.2 x).1 hx
  · exact h.2.mem_iff.1 hx
end Go.Proofs.YtpdpgfagklhpaaaGreat.V

