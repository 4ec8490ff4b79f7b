/- Several texts in one: what the claim needs of them. Conditions: each declaration's own. -/
import Derived.Test.YtmfifjbbjjdacaaGreatZUpdM5
namespace Go.Proofs.YtmfifjbbjjdacaaGreat.V
open Go Go.Proofs
set_option linter.unusedVariables false
set_option linter.unusedSimpArgs false
theorem within_r (x lo hi : Int) : Ret XX 128 [In x, In lo, In hi] (.t (.b (inR x lo hi)) false) := by
  refine ret_W rfl Tryz.func128 rfl rfl (by simp [Tryz.f128]) ?_
  simp only [Tryz.f128]
  by_cases h : lo ≤ x
  · repeat' first|refine W_seq ?_|refine W_block ?_|refine W_skip ?_|refine W_ret ?_|refine W_exit ?_|refine xb_hit ?_|refine xb_miss (by decide) ?_|(apply W_reg;(simp [h];exact .r _))
    simp [inR, h]
  · repeat' first|refine W_seq ?_|refine W_block ?_|refine W_skip ?_|refine W_ret ?_|refine W_exit ?_|refine xb_hit ?_|refine xb_miss (by decide) ?_|(apply W_reg;(simp [h];exact .r _))
    simp [inR, h]
theorem l1In_r (x lo hi : Int) : Ret XX 133 [In x, In lo, In hi] (.t (.b (inR x lo hi)) false) := by
  refine ret_W rfl Tryz.func133 rfl rfl (by simp [Tryz.f133]) ?_
  simp only [Tryz.f133]
  by_cases h : lo ≤ x
  · repeat' first|refine W_seq ?_|refine W_block ?_|refine W_skip ?_|refine W_ret ?_|refine W_exit ?_|refine xb_hit ?_|refine xb_miss (by decide) ?_|(apply W_reg;(simp [h];exact .r _))
    simp [inR, h]
  · repeat' first|refine W_seq ?_|refine W_block ?_|refine W_skip ?_|refine W_ret ?_|refine W_exit ?_|refine xb_hit ?_|refine xb_miss (by decide) ?_|(apply W_reg;(simp [h];exact .r _))
    simp [inR, h]
theorem implIsVar_r (t : Int) : Ret XX 122 [In t] (.t (.b (isVar t)) false) := by
  refine ret_W rfl Tryz.func122 rfl rfl (by simp [Tryz.f122]) ?_
  simp only [Tryz.f122]
  have hc := cv (within_r t 0 19)
  repeat' first|refine W_seq ?_|refine W_block ?_|refine W_skip ?_|refine W_ret ?_|refine W_exit ?_|refine xb_hit ?_|refine xb_miss (by decide) ?_|(apply W_reg;(simp [hc];exact .r _))
  simp [isVar]
theorem implIsTerm_r (t : Int) : Ret XX 124 [In t] (.t (.b (isTerm t)) false) := by
  refine ret_W rfl Tryz.func124 rfl rfl (by simp [Tryz.f124]) ?_
  simp only [Tryz.f124]
  have hc := cv (within_r t (-80) 19)
  repeat' first|refine W_seq ?_|refine W_block ?_|refine W_skip ?_|refine W_ret ?_|refine W_exit ?_|refine xb_hit ?_|refine xb_miss (by decide) ?_|(apply W_reg;(simp [hc];exact .r _))
  simp [isTerm]
theorem implConstOf_r (t : Int) : Ret XX 125 [In t] (.t (.i .i64 (constOf t)) false) := by
  refine ret_W rfl Tryz.func125 rfl rfl (by simp [Tryz.f125]) ?_
  simp only [Tryz.f125]
  have h1 := cv (implIsTerm_r t)
  have h2 := cv (implIsVar_r t)
  cases e1 : isTerm t
  · repeat' first|refine W_seq ?_|refine W_block ?_|refine W_skip ?_|refine W_ret ?_|refine W_exit ?_|refine xb_hit ?_|refine xb_miss (by decide) ?_|(apply W_reg;(simp [h1, e1];exact .r _))
    refine W_cond (by simp; exact .r _) (fun hc => ?_) (fun hc => ?_)
    · repeat' first|refine W_seq ?_|refine W_block ?_|refine W_skip ?_|refine W_ret ?_|refine W_exit ?_|refine xb_hit ?_|refine xb_miss (by decide) ?_|(apply W_reg;(simp;exact .r _))
      simp [constOf, e1]
    · cases hc
  · cases e2 : isVar t
    · repeat' first|refine W_seq ?_|refine W_block ?_|refine W_skip ?_|refine W_ret ?_|refine W_exit ?_|refine xb_hit ?_|refine xb_miss (by decide) ?_|(apply W_reg;(simp [h1, h2, e1, e2];exact .r _))
      refine W_cond (by simp; exact .r _) (fun hc => ?_) (fun hc => ?_)
      · cases hc
      · have hb := isTerm_iff.1 e1
        have hw : IntKind.i64.wrap (-1 - t) = -1 - t := wrap_ok (by omega) (by omega)
        repeat' first|refine W_seq ?_|refine W_block ?_|refine W_skip ?_|refine W_ret ?_|refine W_exit ?_|refine xb_hit ?_|refine xb_miss (by decide) ?_|(apply W_reg;(simp [hw];exact .r _))
        simp [constOf, e1, e2]
    · repeat' first|refine W_seq ?_|refine W_block ?_|refine W_skip ?_|refine W_ret ?_|refine W_exit ?_|refine xb_hit ?_|refine xb_miss (by decide) ?_|(apply W_reg;(simp [h1, h2, e1, e2];exact .r _))
      refine W_cond (by simp; exact .r _) (fun hc => ?_) (fun hc => ?_)
      · repeat' first|refine W_seq ?_|refine W_block ?_|refine W_skip ?_|refine W_ret ?_|refine W_exit ?_|refine xb_hit ?_|refine xb_miss (by decide) ?_|(apply W_reg;(simp;exact .r _))
        simp [constOf, e2]
      · cases hc
theorem specIsVar_r (t : Int) : Ret XX 131 [In t] (.t (.b (isVar t)) false) := by
  refine ret_W rfl Tryz.func131 rfl rfl (by simp [Tryz.f131]) ?_
  simp only [Tryz.f131]
  have hc := cv (l1In_r t 0 19)
  repeat' first|refine W_seq ?_|refine W_block ?_|refine W_skip ?_|refine W_ret ?_|refine W_exit ?_|refine xb_hit ?_|refine xb_miss (by decide) ?_|(apply W_reg;(simp [hc];exact .r _))
  simp [isVar]
theorem constOf_eq (t : Int) : constOf t = if inR t (-80) (-1) then -1 - t else -1 := by
  unfold constOf isTerm isVar inR
  have e1 : (decide (-80 ≤ t ∧ t ≤ 19) && !decide (0 ≤ t ∧ t ≤ 19)) = decide (-80 ≤ t ∧ t ≤ -1) := by rw [Bool.eq_iff_iff]; simp; omega
  rw [e1]
theorem specConstOf_r (t : Int) : Ret XX 132 [In t] (.t (.i .i64 (constOf t)) false) := by
  refine ret_W rfl Tryz.func132 rfl rfl (by simp [Tryz.f132]) ?_
  simp only [Tryz.f132]
  have h1 := cv (l1In_r t (-80) (-1))
  rw [constOf_eq]
  cases e1 : inR t (-80) (-1)
  · repeat' first|refine W_seq ?_|refine W_block ?_|refine W_skip ?_|refine W_ret ?_|refine W_exit ?_|refine xb_hit ?_|refine xb_miss (by decide) ?_|(apply W_reg;(simp [h1, e1];exact .r _))
    refine W_cond (by simp; exact .r _) (fun hc => ?_) (fun hc => ?_)
    · repeat' first|refine W_seq ?_|refine W_block ?_|refine W_skip ?_|refine W_ret ?_|refine W_exit ?_|refine xb_hit ?_|refine xb_miss (by decide) ?_|(apply W_reg;(simp;exact .r _))
      simp
    · cases hc
  · have hb : -80 ≤ t ∧ t ≤ -1 := by simpa [inR] using e1
    have hw : IntKind.i64.wrap (-1 - t) = -1 - t := wrap_ok (by omega) (by omega)
    repeat' first|refine W_seq ?_|refine W_block ?_|refine W_skip ?_|refine W_ret ?_|refine W_exit ?_|refine xb_hit ?_|refine xb_miss (by decide) ?_|(apply W_reg;(simp [h1, e1, hw];exact .r _))
    refine W_cond (by simp; exact .r _) (fun hc => ?_) (fun hc => ?_)
    · cases hc
    · repeat' first|refine W_seq ?_|refine W_block ?_|refine W_skip ?_|refine W_ret ?_|refine W_exit ?_|refine xb_hit ?_|refine xb_miss (by decide) ?_|(apply W_reg;(simp [hw];exact .r _))
      simp
theorem isTerm_or (t : Int) : isTerm t = (isVar t || decide (0 ≤ constOf t)) := by
  rw [Bool.eq_iff_iff, Bool.or_eq_true, isVar_iff, isTerm_iff, decide_eq_true_eq, constOf_eq]
  split
  · rename_i h; simp [inR] at h; omega
  · rename_i h; simp [inR] at h; omega
theorem specIsTerm_r (t : Int) : Ret XX 19 [In t] (.t (.b (isTerm t)) false) := by
  refine ret_W rfl Tryz.func19 rfl rfl (by simp [Tryz.f19]) ?_
  simp only [Tryz.f19]
  have h1 := cv (specIsVar_r t)
  have h2 := cv (specConstOf_r t)
  rw [isTerm_or]
  cases e : isVar t
  · repeat' first|refine W_seq ?_|refine W_block ?_|refine W_skip ?_|refine W_ret ?_|refine W_exit ?_|refine xb_hit ?_|refine xb_miss (by decide) ?_|(apply W_reg;(simp [h1, h2, e];exact .r _))
    simp
  · repeat' first|refine W_seq ?_|refine W_block ?_|refine W_skip ?_|refine W_ret ?_|refine W_exit ?_|refine xb_hit ?_|refine xb_miss (by decide) ?_|(apply W_reg;(simp [h1, h2, e];exact .r _))
    simp
theorem areTerms_r (l : List Int) (hl : Sm l) : Ret XX 129 [Ar l] (.t (.b (l.all isTerm)) false) := by
  refine ret_W rfl Tryz.func129 rfl rfl (by simp [Tryz.f129]) ?_
  simp only [Tryz.f129]
  repeat' first|refine W_seq ?_|refine W_block ?_|refine W_skip ?_|refine W_ret ?_|refine W_exit ?_|refine xb_hit ?_|refine xb_miss (by decide) ?_|(apply W_reg;(simp;exact .r _))
  refine W_loop (n := l.length) (fun n s => ∃ i : Nat, n = l.length - i ∧ s.nt = 15 ∧ s.tm 5 = Ar l ∧ s.tm 6 = In l.length ∧ s.tm 7 = In i ∧ i ≤ l.length ∧ l.all isTerm = (l.drop i).all isTerm) ⟨0, by simp⟩ ?_
  rintro n ⟨nt, tm, σ⟩ ⟨i, rfl, hnt, h5, h6, h7, hi, heq⟩
  simp only at hnt h5 h6 h7
  subst hnt
  repeat' first|refine W_seq ?_|refine W_block ?_|refine W_skip ?_|refine W_ret ?_|refine W_exit ?_|refine xb_hit ?_|refine xb_miss (by decide) ?_|(apply W_reg;(simp [h5, h6, h7];exact .r _))
  refine W_cond (by simp [h5, h6, h7]; exact .r _) (fun hc => ?_) (fun hc => ?_)
  · have hil : i < l.length := by simpa using hc
    have hcc := cv (implIsTerm_r l[i])
    repeat' first|refine W_seq ?_|refine W_block ?_|refine W_skip ?_|refine W_ret ?_|refine W_exit ?_|refine xb_hit ?_|refine xb_miss (by decide) ?_|(apply W_reg;(simp [h5, h6, h7, hil, hcc];exact .r _))
    rw [List.drop_eq_getElem_cons hil, List.all_cons] at heq
    refine W_cond (by simp [h5, h6, h7]; exact .r _) (fun hd => ?_) (fun hd => ?_)
    · repeat' first|refine W_seq ?_|refine W_block ?_|refine W_skip ?_|refine W_ret ?_|refine W_exit ?_|refine xb_hit ?_|refine xb_miss (by decide) ?_|(apply W_reg;(simp [h5, h6, h7];exact .r _))
      have hd' : isTerm l[i] = false := by simpa using hd
      rw [heq, hd']; simp
    · have hd' : isTerm l[i] = true := by simpa using hd
      repeat' first|refine W_seq ?_|refine W_block ?_|refine W_skip ?_|refine W_ret ?_|refine W_exit ?_|refine xb_hit ?_|refine xb_miss (by decide) ?_|(apply W_reg;(simp [h5, h6, h7];exact .r _))
      refine ⟨_, ?_, i + 1, rfl, rfl, ?_, ?_, ?_, by omega, by (rw [heq]; simp [hd'])⟩
      all_goals first|assumption|(simp [h5, h6, h7];done)|(simp [h5, h6, h7];omega)|(simp [h5, h6, h7];exact wrap_succ (by omega))|omega
  · have hil : i = l.length := by simp at hc; omega
    subst hil
    repeat' first|refine W_seq ?_|refine W_block ?_|refine W_skip ?_|refine W_ret ?_|refine W_exit ?_|refine xb_hit ?_|refine xb_miss (by decide) ?_|(apply W_reg;(simp [h5, h6, h7];exact .r _))
    rw [heq, List.drop_length]; simp
theorem areValues_r (l : List Int) (hl : Sm l) : Ret XX 148 [Ar l] (.t (.b (l.all fun x => inR x 0 99)) false) := by
  refine ret_W rfl Tryz.func148 rfl rfl (by simp [Tryz.f148]) ?_
  simp only [Tryz.f148]
  repeat' first|refine W_seq ?_|refine W_block ?_|refine W_skip ?_|refine W_ret ?_|refine W_exit ?_|refine xb_hit ?_|refine xb_miss (by decide) ?_|(apply W_reg;(simp;exact .r _))
  refine W_loop (n := l.length) (fun n s => ∃ i : Nat, n = l.length - i ∧ s.nt = 15 ∧ s.tm 5 = Ar l ∧ s.tm 6 = In l.length ∧ s.tm 7 = In i ∧ i ≤ l.length ∧ (l.all fun x => inR x 0 99) = ((l.drop i).all fun x => inR x 0 99)) ⟨0, by simp⟩ ?_
  rintro n ⟨nt, tm, σ⟩ ⟨i, rfl, hnt, h5, h6, h7, hi, heq⟩
  simp only at hnt h5 h6 h7
  subst hnt
  repeat' first|refine W_seq ?_|refine W_block ?_|refine W_skip ?_|refine W_ret ?_|refine W_exit ?_|refine xb_hit ?_|refine xb_miss (by decide) ?_|(apply W_reg;(simp [h5, h6, h7];exact .r _))
  refine W_cond (by simp [h5, h6, h7]; exact .r _) (fun hc => ?_) (fun hc => ?_)
  · have hil : i < l.length := by simpa using hc
    have hcc := cv (within_r l[i] 0 99)
    repeat' first|refine W_seq ?_|refine W_block ?_|refine W_skip ?_|refine W_ret ?_|refine W_exit ?_|refine xb_hit ?_|refine xb_miss (by decide) ?_|(apply W_reg;(simp [h5, h6, h7, hil, hcc];exact .r _))
    rw [List.drop_eq_getElem_cons hil, List.all_cons] at heq
    refine W_cond (by simp [h5, h6, h7]; exact .r _) (fun hd => ?_) (fun hd => ?_)
    · repeat' first|refine W_seq ?_|refine W_block ?_|refine W_skip ?_|refine W_ret ?_|refine W_exit ?_|refine xb_hit ?_|refine xb_miss (by decide) ?_|(apply W_reg;(simp [h5, h6, h7];exact .r _))
      have hd' : inR l[i] 0 99 = false := by simpa using hd
      rw [heq, hd']; simp
    · have hd' : inR l[i] 0 99 = true := by simpa using hd
      repeat' first|refine W_seq ?_|refine W_block ?_|refine W_skip ?_|refine W_ret ?_|refine W_exit ?_|refine xb_hit ?_|refine xb_miss (by decide) ?_|(apply W_reg;(simp [h5, h6, h7];exact .r _))
      refine ⟨_, ?_, i + 1, rfl, rfl, ?_, ?_, ?_, by omega, by (rw [heq]; simp [hd'])⟩
      all_goals first|assumption|(simp [h5, h6, h7];done)|(simp [h5, h6, h7];omega)|(simp [h5, h6, h7];exact wrap_succ (by omega))|omega
  · have hil : i = l.length := by simp at hc; omega
    subst hil
    repeat' first|refine W_seq ?_|refine W_block ?_|refine W_skip ?_|refine W_ret ?_|refine W_exit ?_|refine xb_hit ?_|refine xb_miss (by decide) ?_|(apply W_reg;(simp [h5, h6, h7];exact .r _))
    rw [heq, List.drop_length]; simp
theorem implIsSchema_r (c : Sch) (hl : Sm c.arity) : Ret XX 142 [Ag c] (.t (.b (isSch c)) false) := by
  refine ret_W rfl Tryz.func142 rfl rfl (by simp [Tryz.f142]) ?_
  simp only [Tryz.f142]
  repeat' first|refine W_seq ?_|refine W_block ?_|refine W_skip ?_|refine W_ret ?_|refine W_exit ?_|refine xb_hit ?_|refine xb_miss (by decide) ?_|(apply W_reg;(simp [Ag];exact .r _))
  refine W_loop (n := c.arity.length) (fun n s => ∃ i : Nat, n = c.arity.length - i ∧ s.nt = 20 ∧ s.tm 1 = .ptr 0 0 ∧ s.tm 6 = Ar c.arity ∧ s.tm 7 = In c.arity.length ∧ s.tm 8 = In i ∧ i ≤ c.arity.length ∧ c.arity.all (fun x => inR x 1 3) = (c.arity.drop i).all (fun x => inR x 1 3) ∧ s.σ.ob 0 = .box [Ar c.arity]) ⟨0, by simp⟩ ?_
  rintro n ⟨nt, tm, σ⟩ ⟨i, rfl, hnt, h1, h6, h7, h8, hi, heq, hb⟩
  simp only at hnt h1 h6 h7 h8 hb
  subst hnt
  repeat' first|refine W_seq ?_|refine W_block ?_|refine W_skip ?_|refine W_ret ?_|refine W_exit ?_|refine xb_hit ?_|refine xb_miss (by decide) ?_|(apply W_reg;(simp [h1, h6, h7, h8, hb];exact .r _))
  refine W_cond (by simp [h1, h6, h7, h8, hb]; exact .r _) (fun hc => ?_) (fun hc => ?_)
  · have hil : i < c.arity.length := by simpa using hc
    have hcc := cv (within_r c.arity[i] 1 3)
    repeat' first|refine W_seq ?_|refine W_block ?_|refine W_skip ?_|refine W_ret ?_|refine W_exit ?_|refine xb_hit ?_|refine xb_miss (by decide) ?_|(apply W_reg;(simp [h1, h6, h7, h8, hb, hil, hcc];exact .r _))
    rw [List.drop_eq_getElem_cons hil, List.all_cons] at heq
    refine W_cond (by simp [h1, h6, h7, h8, hb]; exact .r _) (fun hd => ?_) (fun hd => ?_)
    · repeat' first|refine W_seq ?_|refine W_block ?_|refine W_skip ?_|refine W_ret ?_|refine W_exit ?_|refine xb_hit ?_|refine xb_miss (by decide) ?_|(apply W_reg;(simp [h1, h6, h7, h8, hb];exact .r _))
      have hd' : (fun x => inR x 1 3) c.arity[i] = false := by simpa using hd
      simp [isSch, heq, hd']
    · have hd' : (fun x => inR x 1 3) c.arity[i] = true := by simpa using hd
      repeat' first|refine W_seq ?_|refine W_block ?_|refine W_skip ?_|refine W_ret ?_|refine W_exit ?_|refine xb_hit ?_|refine xb_miss (by decide) ?_|(apply W_reg;(simp [h1, h6, h7, h8, hb];exact .r _))
      refine ⟨_, ?_, i + 1, rfl, rfl, ?_, ?_, ?_, ?_, by omega, by (rw [heq]; simp [hd']), ?_⟩
      all_goals first|assumption|(simp [h1, h6, h7, h8, hb];done)|(simp [h1, h6, h7, h8, hb];omega)|(simp [h1, h6, h7, h8, hb];exact wrap_succ (by omega))|omega
  have hil : i = c.arity.length := by simp at hc; omega
  subst hil
  rw [List.drop_length, List.all_nil] at heq
  have h9 := cv (within_r c.arity.length 1 4)
  repeat' first|refine W_seq ?_|refine W_block ?_|refine W_skip ?_|refine W_ret ?_|refine W_exit ?_|refine xb_hit ?_|refine xb_miss (by decide) ?_|(apply W_reg;(simp [h1, h6, h7, h8, hb, h9];exact .r _))
  simp [isSch, heq]
theorem specIsSchema_r (c : Sch) (hl : Sm c.arity) : Ret XX 158 [Ag c] (.t (.b (isSch c)) false) := by
  refine ret_W rfl Tryz.func158 rfl rfl (by simp [Tryz.f158]) ?_
  simp only [Tryz.f158]
  repeat' first|refine W_seq ?_|refine W_block ?_|refine W_skip ?_|refine W_ret ?_|refine W_exit ?_|refine xb_hit ?_|refine xb_miss (by decide) ?_|(apply W_reg;(simp [Ag];exact .r _))
  refine W_loop (n := c.arity.length) (fun n s => ∃ i : Nat, n = c.arity.length - i ∧ s.nt = 22 ∧ s.tm 1 = .ptr 0 0 ∧ s.tm 3 = In i ∧ i ≤ c.arity.length ∧ c.arity.all (fun x => inR x 1 3) = (c.arity.drop i).all (fun x => inR x 1 3) ∧ s.σ.ob 0 = .box [Ar c.arity]) ⟨0, by simp⟩ ?_
  rintro n ⟨nt, tm, σ⟩ ⟨i, rfl, hnt, h1, h3, hi, heq, hb⟩
  simp only at hnt h1 h3 hb
  subst hnt
  repeat' first|refine W_seq ?_|refine W_block ?_|refine W_skip ?_|refine W_ret ?_|refine W_exit ?_|refine xb_hit ?_|refine xb_miss (by decide) ?_|(apply W_reg;(simp [h1, h3, hb];exact .r _))
  refine W_cond (by simp [h1, h3, hb]; exact .r _) (fun hc => ?_) (fun hc => ?_)
  · have hil : i < c.arity.length := by simpa using hc
    have hcc := cv (l1In_r c.arity[i] 1 3)
    repeat' first|refine W_seq ?_|refine W_block ?_|refine W_skip ?_|refine W_ret ?_|refine W_exit ?_|refine xb_hit ?_|refine xb_miss (by decide) ?_|(apply W_reg;(simp [h1, h3, hb, hil, hcc];exact .r _))
    rw [List.drop_eq_getElem_cons hil, List.all_cons] at heq
    refine W_cond (by simp [h1, h3, hb]; exact .r _) (fun hd => ?_) (fun hd => ?_)
    · repeat' first|refine W_seq ?_|refine W_block ?_|refine W_skip ?_|refine W_ret ?_|refine W_exit ?_|refine xb_hit ?_|refine xb_miss (by decide) ?_|(apply W_reg;(simp [h1, h3, hb];exact .r _))
      have hd' : (fun x => inR x 1 3) c.arity[i] = false := by simpa using hd
      simp [isSch, heq, hd']
    · have hd' : (fun x => inR x 1 3) c.arity[i] = true := by simpa using hd
      repeat' first|refine W_seq ?_|refine W_block ?_|refine W_skip ?_|refine W_ret ?_|refine W_exit ?_|refine xb_hit ?_|refine xb_miss (by decide) ?_|(apply W_reg;(simp [h1, h3, hb];exact .r _))
      refine ⟨_, ?_, i + 1, rfl, rfl, ?_, ?_, by omega, by (rw [heq]; simp [hd']), ?_⟩
      all_goals first|assumption|(simp [h1, h3, hb];done)|(simp [h1, h3, hb];omega)|(simp [h1, h3, hb];exact wrap_succ (by omega))|omega
  have hil : i = c.arity.length := by simp at hc; omega
  subst hil
  rw [List.drop_length, List.all_nil] at heq
  have h9 := cv (l1In_r c.arity.length 1 4)
  repeat' first|refine W_seq ?_|refine W_block ?_|refine W_skip ?_|refine W_ret ?_|refine W_exit ?_|refine xb_hit ?_|refine xb_miss (by decide) ?_|(apply W_reg;(simp [h1, h3, hb, h9];exact .r _))
  simp [isSch, heq]
theorem l3Terms_r (l : List Int) (hl : Sm l) : Ret XX 134 [Ar l] (.t (.b (l.all isTerm && decide (l.length ≤ 3))) false) := by
  refine ret_W rfl Tryz.func134 rfl rfl (by simp [Tryz.f134]) ?_
  simp only [Tryz.f134]
  repeat' first|refine W_seq ?_|refine W_block ?_|refine W_skip ?_|refine W_ret ?_|refine W_exit ?_|refine xb_hit ?_|refine xb_miss (by decide) ?_|(apply W_reg;(simp;exact .r _))
  refine W_loop (n := l.length) (fun n s => ∃ i : Nat, n = l.length - i ∧ s.nt = 19 ∧ s.tm 0 = Ar l ∧ s.tm 3 = In i ∧ i ≤ l.length ∧ l.all isTerm = (l.drop i).all isTerm) ⟨0, by simp⟩ ?_
  rintro n ⟨nt, tm, σ⟩ ⟨i, rfl, hnt, h0, h3, hi, heq⟩
  simp only at hnt h0 h3
  subst hnt
  repeat' first|refine W_seq ?_|refine W_block ?_|refine W_skip ?_|refine W_ret ?_|refine W_exit ?_|refine xb_hit ?_|refine xb_miss (by decide) ?_|(apply W_reg;(simp [h0, h3];exact .r _))
  refine W_cond (by simp [h0, h3]; exact .r _) (fun hc => ?_) (fun hc => ?_)
  · have hil : i < l.length := by simpa using hc
    have hcc := cv (specIsTerm_r l[i])
    repeat' first|refine W_seq ?_|refine W_block ?_|refine W_skip ?_|refine W_ret ?_|refine W_exit ?_|refine xb_hit ?_|refine xb_miss (by decide) ?_|(apply W_reg;(simp [h0, h3, hil, hcc];exact .r _))
    rw [List.drop_eq_getElem_cons hil, List.all_cons] at heq
    refine W_cond (by simp [h0, h3]; exact .r _) (fun hd => ?_) (fun hd => ?_)
    · repeat' first|refine W_seq ?_|refine W_block ?_|refine W_skip ?_|refine W_ret ?_|refine W_exit ?_|refine xb_hit ?_|refine xb_miss (by decide) ?_|(apply W_reg;(simp [h0, h3];exact .r _))
      have hd' : isTerm l[i] = false := by simpa using hd
      rw [heq, hd']; simp
    · have hd' : isTerm l[i] = true := by simpa using hd
      repeat' first|refine W_seq ?_|refine W_block ?_|refine W_skip ?_|refine W_ret ?_|refine W_exit ?_|refine xb_hit ?_|refine xb_miss (by decide) ?_|(apply W_reg;(simp [h0, h3];exact .r _))
      refine ⟨_, ?_, i + 1, rfl, rfl, ?_, ?_, by omega, by (rw [heq]; simp [hd'])⟩
      all_goals first|assumption|(simp [h0, h3];done)|(simp [h0, h3];omega)|(simp [h0, h3];exact wrap_succ (by omega))|omega
  have hil : i = l.length := by simp at hc; omega
  subst hil
  rw [List.drop_length, List.all_nil] at heq
  repeat' first|refine W_seq ?_|refine W_block ?_|refine W_skip ?_|refine W_ret ?_|refine W_exit ?_|refine xb_hit ?_|refine xb_miss (by decide) ?_|(apply W_reg;(simp [h0, h3];exact .r _))
  rw [heq]; simp <;> omega
theorem takes_r (c : Sch) (rel n : Int) (hl : Sm c.arity) : Ret XX 252 [Ag c, In rel, In n] (.t (.b (takes c rel n)) false) := by
  refine ret_W rfl Tryz.func252 rfl rfl (by simp [Tryz.f252]) ?_
  simp only [Tryz.f252]
  have h1 := cv (implIsSchema_r c hl)
  have h2 := cv (within_r rel 0 (c.arity.length - 1))
  have hw : IntKind.i64.wrap ((c.arity.length : Int) - 1) = (c.arity.length : Int) - 1 := wrap_ok (by omega) (by omega)
  simp only [Ag, cells_Sch, List.map_cons, List.map_nil] at h1
  cases e1 : isSch c
  · repeat' first|refine W_seq ?_|refine W_block ?_|refine W_skip ?_|refine W_ret ?_|refine W_exit ?_|refine xb_hit ?_|refine xb_miss (by decide) ?_|(apply W_reg;(simp [Ag, h1, e1];exact .r _))
    simp [takes, e1]
  · cases e2 : inR rel 0 (c.arity.length - 1)
    · repeat' first|refine W_seq ?_|refine W_block ?_|refine W_skip ?_|refine W_ret ?_|refine W_exit ?_|refine xb_hit ?_|refine xb_miss (by decide) ?_|(apply W_reg;(simp [Ag, h1, e1, h2, e2, hw];exact .r _))
      simp [takes, e2]
    · have hb : 0 ≤ rel ∧ rel ≤ c.arity.length - 1 := by simpa [inR] using e2
      have hr : rel.toNat < c.arity.length := by omega
      have hr0 : 0 ≤ rel := hb.1
      repeat' first|refine W_seq ?_|refine W_block ?_|refine W_skip ?_|refine W_ret ?_|refine W_exit ?_|refine xb_hit ?_|refine xb_miss (by decide) ?_|(apply W_reg;(simp [Ag, h1, e1, h2, e2, hw, hr, hr0];exact .r _))
      simp [takes, e1, e2, hr]
theorem implIsAtom_r (c : Sch) (a : RA) (hl : Sm c.arity) (ha : Sm a.args) : Ret XX 143 [Ag c, Ag a] (.t (.b (isAtom c a)) false) := by
  refine ret_W rfl Tryz.func143 rfl rfl (by simp [Tryz.f143]) ?_
  simp only [Tryz.f143]
  have h1 := cv (takes_r c a.rel a.args.length hl)
  have h2 := cv (areTerms_r a.args ha)
  simp only [Ag, cells_Sch, List.map_cons, List.map_nil] at h1
  cases e1 : takes c a.rel a.args.length
  · repeat' first|refine W_seq ?_|refine W_block ?_|refine W_skip ?_|refine W_ret ?_|refine W_exit ?_|refine xb_hit ?_|refine xb_miss (by decide) ?_|(apply W_reg;(simp [Ag, h1, e1];exact .r _))
    simp [isAtom, e1]
  · repeat' first|refine W_seq ?_|refine W_block ?_|refine W_skip ?_|refine W_ret ?_|refine W_exit ?_|refine xb_hit ?_|refine xb_miss (by decide) ?_|(apply W_reg;(simp [Ag, h1, e1, h2];exact .r _))
    simp [isAtom, e1]
theorem implIsFact_r (c : Sch) (a : RA) (hl : Sm c.arity) (ha : Sm a.args) : Ret XX 147 [Ag c, Ag a] (.t (.b (isFact c a)) false) := by
  refine ret_W rfl Tryz.func147 rfl rfl (by simp [Tryz.f147]) ?_
  simp only [Tryz.f147]
  have h1 := cv (takes_r c a.rel a.args.length hl)
  have h2 := cv (areValues_r a.args ha)
  simp only [Ag, cells_Sch, List.map_cons, List.map_nil] at h1
  cases e1 : takes c a.rel a.args.length
  · repeat' first|refine W_seq ?_|refine W_block ?_|refine W_skip ?_|refine W_ret ?_|refine W_exit ?_|refine xb_hit ?_|refine xb_miss (by decide) ?_|(apply W_reg;(simp [Ag, h1, e1];exact .r _))
    simp [isFact, e1]
  · repeat' first|refine W_seq ?_|refine W_block ?_|refine W_skip ?_|refine W_ret ?_|refine W_exit ?_|refine xb_hit ?_|refine xb_miss (by decide) ?_|(apply W_reg;(simp [Ag, h1, e1, h2];exact .r _))
    simp [isFact, e1]
theorem index_r (l : List Int) (x : Int) (hl : Sm l) : Ret XX 354 [Ar l, In x] (.t (.i .i64 (fidx (fun y => decide (x = y)) l 0)) false) := by
  refine ret_W rfl Tryz.func354 rfl rfl (by simp [Tryz.f354]) ?_
  simp only [Tryz.f354]
  repeat' first|refine W_seq ?_|refine W_block ?_|refine W_skip ?_|refine W_ret ?_|refine W_exit ?_|refine xb_hit ?_|refine xb_miss (by decide) ?_|(apply W_reg;(simp;exact .r _))
  refine W_loop (n := l.length) (fun n s => ∃ i : Nat, n = l.length - i ∧ s.nt = 19 ∧ s.tm 0 = Ar l ∧ s.tm 1 = In x ∧ s.tm 7 = In l.length ∧ s.tm 8 = In i ∧ i ≤ l.length ∧ fidx (fun y => decide (x = y)) l 0 = fidx (fun y => decide (x = y)) (l.drop i) i) ⟨0, by simp⟩ ?_
  rintro n ⟨nt, tm, σ⟩ ⟨i, rfl, hnt, h0, h1, h7, h8, hi, heq⟩
  simp only at hnt h0 h1 h7 h8
  subst hnt
  repeat' first|refine W_seq ?_|refine W_block ?_|refine W_skip ?_|refine W_ret ?_|refine W_exit ?_|refine xb_hit ?_|refine xb_miss (by decide) ?_|(apply W_reg;(simp [h0, h1, h7, h8];exact .r _))
  refine W_cond (by simp [h0, h1, h7, h8]; exact .r _) (fun hc => ?_) (fun hc => ?_)
  · have hil : i < l.length := by simpa using hc
    repeat' first|refine W_seq ?_|refine W_block ?_|refine W_skip ?_|refine W_ret ?_|refine W_exit ?_|refine xb_hit ?_|refine xb_miss (by decide) ?_|(apply W_reg;(simp [h0, h1, h7, h8, hil];exact .r _))
    rw [List.drop_eq_getElem_cons hil] at heq
    refine W_cond (by simp [h0, h1, h7, h8]; exact .r _) (fun hd => ?_) (fun hd => ?_)
    · repeat' first|refine W_seq ?_|refine W_block ?_|refine W_skip ?_|refine W_ret ?_|refine W_exit ?_|refine xb_hit ?_|refine xb_miss (by decide) ?_|(apply W_reg;(simp [h0, h1, h7, h8];exact .r _))
      have hd : x = l[i] := by simpa using hd
      rw [heq]; simp [fidx, ← hd]
    · have hd : ¬ x = l[i] := by simpa using hd
      repeat' first|refine W_seq ?_|refine W_block ?_|refine W_skip ?_|refine W_ret ?_|refine W_exit ?_|refine xb_hit ?_|refine xb_miss (by decide) ?_|(apply W_reg;(simp [h0, h1, h7, h8];exact .r _))
      refine ⟨_, ?_, i + 1, rfl, rfl, ?_, ?_, ?_, ?_, by omega, by (rw [heq]; simp [fidx, hd])⟩
      all_goals first|assumption|(simp [h0, h1, h7, h8];done)|(simp [h0, h1, h7, h8];omega)|(simp [h0, h1, h7, h8];exact wrap_succ (by omega))|omega
  have hil : i = l.length := by simp at hc; omega
  subst hil
  repeat' first|refine W_seq ?_|refine W_block ?_|refine W_skip ?_|refine W_ret ?_|refine W_exit ?_|refine xb_hit ?_|refine xb_miss (by decide) ?_|(apply W_reg;(simp [h0, h1, h7, h8];exact .r _))
  rw [heq, List.drop_length]; simp [fidx]
theorem fidx_has (x : Int) : ∀ (l : List Int) (k : Nat), decide (0 ≤ fidx (fun y => decide (x = y)) l k) = decide (x ∈ l)
  | [], k => by simp [fidx]
  | a :: l, k => by
    unfold fidx
    by_cases h : x = a
    · subst h; simp
    · simp only [h, decide_false, Bool.false_eq_true, if_false, fidx_has x l (k + 1), List.mem_cons, false_or]
theorem contains_r (l : List Int) (x : Int) (hl : Sm l) : Ret XX 311 [Ar l, In x] (.t (.b (decide (x ∈ l))) false) := by
  refine ret_W rfl Tryz.func311 rfl rfl (by simp [Tryz.f311]) ?_
  simp only [Tryz.f311]
  have h1 := cv (index_r l x hl)
  repeat' first|refine W_seq ?_|refine W_block ?_|refine W_skip ?_|refine W_ret ?_|refine W_exit ?_|refine xb_hit ?_|refine xb_miss (by decide) ?_|(apply W_reg;(simp [h1];exact .r _))
  rw [← fidx_has x l 0]
  simp
theorem l2Has_r (l : List Int) (x : Int) (hl : Sm l) : Ret XX 250 [Ar l, In x] (.t (.b (decide (x ∈ l))) false) := by
  refine ret_W rfl Tryz.func250 rfl rfl (by simp [Tryz.f250]) ?_
  simp only [Tryz.f250]
  repeat' first|refine W_seq ?_|refine W_block ?_|refine W_skip ?_|refine W_ret ?_|refine W_exit ?_|refine xb_hit ?_|refine xb_miss (by decide) ?_|(apply W_reg;(simp;exact .r _))
  refine W_loop (n := l.length) (fun n s => ∃ i : Nat, n = l.length - i ∧ s.nt = 18 ∧ s.tm 0 = Ar l ∧ s.tm 1 = In x ∧ s.tm 5 = In i ∧ i ≤ l.length ∧ (x ∈ l ↔ x ∈ l.drop i)) ⟨0, by simp⟩ ?_
  rintro n ⟨nt, tm, σ⟩ ⟨i, rfl, hnt, h0, h1, h5, hi, heq⟩
  simp only at hnt h0 h1 h5
  subst hnt
  repeat' first|refine W_seq ?_|refine W_block ?_|refine W_skip ?_|refine W_ret ?_|refine W_exit ?_|refine xb_hit ?_|refine xb_miss (by decide) ?_|(apply W_reg;(simp [h0, h1, h5];exact .r _))
  refine W_cond (by simp [h0, h1, h5]; exact .r _) (fun hc => ?_) (fun hc => ?_)
  · have hil : i < l.length := by simpa using hc
    repeat' first|refine W_seq ?_|refine W_block ?_|refine W_skip ?_|refine W_ret ?_|refine W_exit ?_|refine xb_hit ?_|refine xb_miss (by decide) ?_|(apply W_reg;(simp [h0, h1, h5, hil];exact .r _))
    rw [List.drop_eq_getElem_cons hil, List.mem_cons] at heq
    refine W_cond (by simp [h0, h1, h5]; exact .r _) (fun hd => ?_) (fun hd => ?_)
    · repeat' first|refine W_seq ?_|refine W_block ?_|refine W_skip ?_|refine W_ret ?_|refine W_exit ?_|refine xb_hit ?_|refine xb_miss (by decide) ?_|(apply W_reg;(simp [h0, h1, h5];exact .r _))
      have hd : l[i] = x := by simpa using hd
      have : x ∈ l := heq.2 (.inl hd.symm)
      simp [this]
    · have hd : ¬ l[i] = x := by simpa using hd
      repeat' first|refine W_seq ?_|refine W_block ?_|refine W_skip ?_|refine W_ret ?_|refine W_exit ?_|refine xb_hit ?_|refine xb_miss (by decide) ?_|(apply W_reg;(simp [h0, h1, h5];exact .r _))
      refine ⟨_, ?_, i + 1, rfl, rfl, ?_, ?_, ?_, by omega, by (rw [heq]; exact ⟨fun h => h.elim (fun e => absurd e.symm hd) id, .inr⟩)⟩
      all_goals first|assumption|(simp [h0, h1, h5];done)|(simp [h0, h1, h5];omega)|(simp [h0, h1, h5];exact wrap_succ (by omega))|omega
  have hil : i = l.length := by simp at hc; omega
  subst hil
  repeat' first|refine W_seq ?_|refine W_block ?_|refine W_skip ?_|refine W_ret ?_|refine W_exit ?_|refine xb_hit ?_|refine xb_miss (by decide) ?_|(apply W_reg;(simp [h0, h1, h5];exact .r _))
  rw [List.drop_length] at heq
  have : x ∉ l := fun h => by cases heq.1 h
  simp [this]
end Go.Proofs.YtmfifjbbjjdacaaGreat.V

namespace Go.Proofs.YtmfifjbbjjdacaaGreat.V
open Go Go.Proofs
set_option linter.unusedVariables false
set_option linter.unusedSimpArgs false
theorem occurs_r (q : Qry) (t : Int) (hb : Sm q.body) (ha : ∀ a ∈ q.body, Sm a.args) : Ret XX 253 [Ag q, In t] (.t (.b (occurs q t)) false) := by
  refine ret_W rfl Tryz.func253 rfl rfl (by simp [Tryz.f253]) ?_
  simp only [Tryz.f253]
  repeat' first|refine W_seq ?_|refine W_block ?_|refine W_skip ?_|refine W_ret ?_|refine W_exit ?_|refine xb_hit ?_|refine xb_miss (by decide) ?_|(apply W_reg;(simp [Ag];exact .r _))
  refine W_loop (n := q.body.length) (fun n s => ∃ i : Nat, n = q.body.length - i ∧ s.nt = 19 ∧ s.tm 1 = In t ∧ s.tm 8 = Ar q.body ∧ s.tm 9 = In q.body.length ∧ s.tm 10 = In i ∧ i ≤ q.body.length ∧ occurs q t = (q.body.drop i).any (fun a => decide (t ∈ a.args))) ⟨0, by simp [occurs]⟩ ?_
  rintro n ⟨nt, tm, σ⟩ ⟨i, rfl, hnt, h1, h8, h9, h10, hi, heq⟩
  simp only at hnt h1 h8 h9 h10
  subst hnt
  repeat' first|refine W_seq ?_|refine W_block ?_|refine W_skip ?_|refine W_ret ?_|refine W_exit ?_|refine xb_hit ?_|refine xb_miss (by decide) ?_|(apply W_reg;(simp [h1, h8, h9, h10];exact .r _))
  refine W_cond (by simp [h1, h8, h9, h10]; exact .r _) (fun hc => ?_) (fun hc => ?_)
  · have hil : i < q.body.length := by simpa using hc
    have hcc := cv (contains_r q.body[i].args t (ha _ (List.getElem_mem hil)))
    repeat' first|refine W_seq ?_|refine W_block ?_|refine W_skip ?_|refine W_ret ?_|refine W_exit ?_|refine xb_hit ?_|refine xb_miss (by decide) ?_|(apply W_reg;(simp [h1, h8, h9, h10, hil, hcc];exact .r _))
    rw [List.drop_eq_getElem_cons hil, List.any_cons] at heq
    refine W_cond (by simp [h1, h8, h9, h10]; exact .r _) (fun hd => ?_) (fun hd => ?_)
    · repeat' first|refine W_seq ?_|refine W_block ?_|refine W_skip ?_|refine W_ret ?_|refine W_exit ?_|refine xb_hit ?_|refine xb_miss (by decide) ?_|(apply W_reg;(simp [h1, h8, h9, h10];exact .r _))
      have hd' : t ∈ q.body[i].args := by simpa using hd
      rw [heq]; simp [hd']
    · have hd' : t ∉ q.body[i].args := by simpa using hd
      repeat' first|refine W_seq ?_|refine W_block ?_|refine W_skip ?_|refine W_ret ?_|refine W_exit ?_|refine xb_hit ?_|refine xb_miss (by decide) ?_|(apply W_reg;(simp [h1, h8, h9, h10];exact .r _))
      refine ⟨_, ?_, i + 1, rfl, rfl, ?_, ?_, ?_, ?_, by omega, by (rw [heq]; simp [hd'])⟩
      all_goals first|assumption|(simp [h1, h8, h9, h10];done)|(simp [h1, h8, h9, h10];omega)|(simp [h1, h8, h9, h10];exact wrap_succ (by omega))|omega
  have hil : i = q.body.length := by simp at hc; omega
  subst hil
  repeat' first|refine W_seq ?_|refine W_block ?_|refine W_skip ?_|refine W_ret ?_|refine W_exit ?_|refine xb_hit ?_|refine xb_miss (by decide) ?_|(apply W_reg;(simp [h1, h8, h9, h10];exact .r _))
  rw [heq, List.drop_length]; simp
theorem isSafe_r (q : Qry) (hh : Sm q.head) (hb : Sm q.body) (ha : ∀ a ∈ q.body, Sm a.args) : Ret XX 144 [Ag q] (.t (.b (isSafe q)) false) := by
  refine ret_W rfl Tryz.func144 rfl rfl (by simp [Tryz.f144]) ?_
  simp only [Tryz.f144]
  repeat' first|refine W_seq ?_|refine W_block ?_|refine W_skip ?_|refine W_ret ?_|refine W_exit ?_|refine xb_hit ?_|refine xb_miss (by decide) ?_|(apply W_reg;(simp [Ag];exact .r _))
  refine W_loop (n := q.head.length) (fun n s => ∃ i : Nat, n = q.head.length - i ∧ s.nt = 21 ∧ s.tm 1 = .ptr 0 0 ∧ s.tm 6 = Ar q.head ∧ s.tm 7 = In q.head.length ∧ s.tm 8 = In i ∧ i ≤ q.head.length ∧ s.σ.ob 0 = .box [Ar q.head, Ar q.body] ∧ isSafe q = (q.head.drop i).all (fun t => !isVar t || occurs q t)) ⟨0, by simp [isSafe]⟩ ?_
  rintro n ⟨nt, tm, σ⟩ ⟨i, rfl, hnt, h1, h6, h7, h8, hi, hb0, heq⟩
  simp only at hnt h1 h6 h7 h8 hb0
  subst hnt
  repeat' first|refine W_seq ?_|refine W_block ?_|refine W_skip ?_|refine W_ret ?_|refine W_exit ?_|refine xb_hit ?_|refine xb_miss (by decide) ?_|(apply W_reg;(simp [h1, h6, h7, h8, hb0];exact .r _))
  refine W_cond (by simp [h1, h6, h7, h8, hb0]; exact .r _) (fun hc => ?_) (fun hc => ?_)
  · have hil : i < q.head.length := by simpa using hc
    have c1 := cv (implIsVar_r q.head[i])
    have c2 := cv (occurs_r q q.head[i] hb ha)
    simp only [Ag, cells_Q, List.map_cons, List.map_nil] at c2
    rw [List.drop_eq_getElem_cons hil, List.all_cons] at heq
    cases e : isVar q.head[i]
    · repeat' first|refine W_seq ?_|refine W_block ?_|refine W_skip ?_|refine W_ret ?_|refine W_exit ?_|refine xb_hit ?_|refine xb_miss (by decide) ?_|(apply W_reg;(simp [h1, h6, h7, h8, hb0, hil, c1, c2, e];exact .r _))
      refine W_cond (by simp [h1, h6, h7, h8, hb0]; exact .r _) (fun hd => ?_) (fun hd => ?_)
      · cases hd
      · repeat' first|refine W_seq ?_|refine W_block ?_|refine W_skip ?_|refine W_ret ?_|refine W_exit ?_|refine xb_hit ?_|refine xb_miss (by decide) ?_|(apply W_reg;(simp [h1, h6, h7, h8, hb0];exact .r _))
        refine ⟨_, ?_, i + 1, rfl, rfl, ?_, ?_, ?_, ?_, by omega, ?_, by (rw [heq, e]; simp)⟩
        all_goals first|assumption|(simp [h1, h6, h7, h8, hb0];done)|(simp [h1, h6, h7, h8, hb0];omega)|(simp [h1, h6, h7, h8, hb0];exact wrap_succ (by omega))|omega
    · repeat' first|refine W_seq ?_|refine W_block ?_|refine W_skip ?_|refine W_ret ?_|refine W_exit ?_|refine xb_hit ?_|refine xb_miss (by decide) ?_|(apply W_reg;(simp [h1, h6, h7, h8, hb0, hil, c1, c2, e];exact .r _))
      refine W_cond (by simp [h1, h6, h7, h8, hb0]; exact .r _) (fun hd => ?_) (fun hd => ?_)
      · repeat' first|refine W_seq ?_|refine W_block ?_|refine W_skip ?_|refine W_ret ?_|refine W_exit ?_|refine xb_hit ?_|refine xb_miss (by decide) ?_|(apply W_reg;(simp [h1, h6, h7, h8, hb0];exact .r _))
        have hd' : occurs q q.head[i] = false := by simpa using hd
        rw [heq, e, hd']; simp
      · have hd' : occurs q q.head[i] = true := by simpa using hd
        repeat' first|refine W_seq ?_|refine W_block ?_|refine W_skip ?_|refine W_ret ?_|refine W_exit ?_|refine xb_hit ?_|refine xb_miss (by decide) ?_|(apply W_reg;(simp [h1, h6, h7, h8, hb0];exact .r _))
        refine ⟨_, ?_, i + 1, rfl, rfl, ?_, ?_, ?_, ?_, by omega, ?_, by (rw [heq, e, hd']; simp)⟩
        all_goals first|assumption|(simp [h1, h6, h7, h8, hb0];done)|(simp [h1, h6, h7, h8, hb0];omega)|(simp [h1, h6, h7, h8, hb0];exact wrap_succ (by omega))|omega
  have hil : i = q.head.length := by simp at hc; omega
  subst hil
  repeat' first|refine W_seq ?_|refine W_block ?_|refine W_skip ?_|refine W_ret ?_|refine W_exit ?_|refine xb_hit ?_|refine xb_miss (by decide) ?_|(apply W_reg;(simp [h1, h6, h7, h8, hb0];exact .r _))
  rw [heq, List.drop_length]; simp
theorem implIsQuery_r (c : Sch) (q : Qry) (hl : Sm c.arity) (hh : Sm q.head) (hb : Sm q.body) (ha : ∀ a ∈ q.body, Sm a.args) : Ret XX 27 [Ag c, Ag q] (.t (.b (isQry c q)) false) := by
  refine ret_W rfl Tryz.func27 rfl rfl (by simp [Tryz.f27]) ?_
  simp only [Tryz.f27]
  have h1 := cv (implIsSchema_r c hl)
  have h2 := cv (areTerms_r q.head hh)
  have h3 := cv (within_r q.body.length 1 4)
  have h4 := cv (isSafe_r q hh hb ha)
  simp only [Ag, cells_Sch, cells_Q, List.map_cons, List.map_nil] at h1 h4
  cases e1 : isSch c
  · repeat' first|refine W_seq ?_|refine W_block ?_|refine W_skip ?_|refine W_ret ?_|refine W_exit ?_|refine xb_hit ?_|refine xb_miss (by decide) ?_|(apply W_reg;(simp [Ag, h1, e1];exact .r _))
    refine W_cond (by simp; exact .r _) (fun hc => ?_) (fun hc => ?_)
    · repeat' first|refine W_seq ?_|refine W_block ?_|refine W_skip ?_|refine W_ret ?_|refine W_exit ?_|refine xb_hit ?_|refine xb_miss (by decide) ?_|(apply W_reg;(simp;exact .r _))
      simp [isQry, e1]
    · cases hc
  by_cases e2 : (q.head.length : Int) ≤ 3
  case neg =>
    have e2' : (3 : Int) < q.head.length := by omega
    have e2n : ¬ q.head.length ≤ 3 := by omega
    repeat' first|refine W_seq ?_|refine W_block ?_|refine W_skip ?_|refine W_ret ?_|refine W_exit ?_|refine xb_hit ?_|refine xb_miss (by decide) ?_|(apply W_reg;(simp [Ag, h1, e1, e2'];exact .r _))
    refine W_cond (by simp; exact .r _) (fun hc => ?_) (fun hc => ?_)
    · repeat' first|refine W_seq ?_|refine W_block ?_|refine W_skip ?_|refine W_ret ?_|refine W_exit ?_|refine xb_hit ?_|refine xb_miss (by decide) ?_|(apply W_reg;(simp;exact .r _))
      simp [isQry, e2n]
    · cases hc
  have e2' : ¬ (3 : Int) < q.head.length := by omega
  have e2n : q.head.length ≤ 3 := by omega
  cases e3 : q.head.all isTerm
  · repeat' first|refine W_seq ?_|refine W_block ?_|refine W_skip ?_|refine W_ret ?_|refine W_exit ?_|refine xb_hit ?_|refine xb_miss (by decide) ?_|(apply W_reg;(simp [Ag, h1, e1, e2', h2, e3];exact .r _))
    refine W_cond (by simp; exact .r _) (fun hc => ?_) (fun hc => ?_)
    · repeat' first|refine W_seq ?_|refine W_block ?_|refine W_skip ?_|refine W_ret ?_|refine W_exit ?_|refine xb_hit ?_|refine xb_miss (by decide) ?_|(apply W_reg;(simp;exact .r _))
      simp only [isQry, e3]; simp
    · cases hc
  cases e4 : inR q.body.length 1 4
  · repeat' first|refine W_seq ?_|refine W_block ?_|refine W_skip ?_|refine W_ret ?_|refine W_exit ?_|refine xb_hit ?_|refine xb_miss (by decide) ?_|(apply W_reg;(simp [Ag, h1, e1, e2', h2, e3, h3, e4];exact .r _))
    refine W_cond (by simp; exact .r _) (fun hc => ?_) (fun hc => ?_)
    · repeat' first|refine W_seq ?_|refine W_block ?_|refine W_skip ?_|refine W_ret ?_|refine W_exit ?_|refine xb_hit ?_|refine xb_miss (by decide) ?_|(apply W_reg;(simp;exact .r _))
      simp [isQry, e4]
    · cases hc
  repeat' first|refine W_seq ?_|refine W_block ?_|refine W_skip ?_|refine W_ret ?_|refine W_exit ?_|refine xb_hit ?_|refine xb_miss (by decide) ?_|(apply W_reg;(simp [Ag, h1, e1, e2', h2, e3, h3, e4];exact .r _))
  refine W_cond (by simp; exact .r _) (fun hc => ?_) (fun hc => ?_)
  · cases hc
  repeat' first|refine W_seq ?_|refine W_block ?_|refine W_skip ?_|refine W_ret ?_|refine W_exit ?_|refine xb_hit ?_|refine xb_miss (by decide) ?_|(apply W_reg;(simp;exact .r _))
  refine W_loop (n := q.body.length) (fun n s => ∃ i : Nat, n = q.body.length - i ∧ s.nt = 43 ∧ s.tm 2 = .ptr 0 0 ∧ s.tm 3 = .ptr 1 0 ∧ s.tm 30 = Ar q.body ∧ s.tm 31 = In q.body.length ∧ s.tm 32 = In i ∧ i ≤ q.body.length ∧ s.σ.ob 0 = .box [Ar c.arity] ∧ s.σ.ob 1 = .box [Ar q.head, Ar q.body] ∧ 2 ≤ s.σ.n ∧ q.body.all (isAtom c) = (q.body.drop i).all (isAtom c)) ⟨0, by simp⟩ ?_
  rintro n ⟨nt, tm, σ⟩ ⟨i, rfl, hnt, h2, h3, h30, h31, h32, hi, hb0, hb1, hn, heq⟩
  simp only at hnt h2 h3 h30 h31 h32 hb0 hb1 hn
  subst hnt
  have n0 : ¬ (0 = σ.n) := by omega
  have n1 : ¬ (1 = σ.n) := by omega
  have n0' : ¬ (σ.n = 0) := by omega
  have n1' : ¬ (σ.n = 1) := by omega
  repeat' first|refine W_seq ?_|refine W_block ?_|refine W_skip ?_|refine W_ret ?_|refine W_exit ?_|refine xb_hit ?_|refine xb_miss (by decide) ?_|(apply W_reg;(simp [h2, h3, h30, h31, h32, hb0, hb1, hn];exact .r _))
  refine W_cond (by simp [h2, h3, h30, h31, h32, hb0, hb1, hn]; exact .r _) (fun hc => ?_) (fun hc => ?_)
  · have hil : i < q.body.length := by simpa using hc
    have hcc := cv (implIsAtom_r c q.body[i] hl (ha _ (List.getElem_mem hil)))
    simp only [Ag, cells_Sch, cells_RA, List.map_cons, List.map_nil] at hcc
    repeat' first|refine W_seq ?_|refine W_block ?_|refine W_skip ?_|refine W_ret ?_|refine W_exit ?_|refine xb_hit ?_|refine xb_miss (by decide) ?_|(apply W_reg;(simp [h2, h3, h30, h31, h32, hb0, hb1, hn, hil, hcc, n0, n1, n0', n1'];exact .r _))
    rw [List.drop_eq_getElem_cons hil, List.all_cons] at heq
    refine W_cond (by simp [h2, h3, h30, h31, h32, hb0, hb1, hn]; exact .r _) (fun hd => ?_) (fun hd => ?_)
    · repeat' first|refine W_seq ?_|refine W_block ?_|refine W_skip ?_|refine W_ret ?_|refine W_exit ?_|refine xb_hit ?_|refine xb_miss (by decide) ?_|(apply W_reg;(simp [h2, h3, h30, h31, h32, hb0, hb1, hn];exact .r _))
      have hd' : isAtom c q.body[i] = false := by simpa using hd
      simp [isQry, heq, hd']
    · have hd' : isAtom c q.body[i] = true := by simpa using hd
      repeat' first|refine W_seq ?_|refine W_block ?_|refine W_skip ?_|refine W_ret ?_|refine W_exit ?_|refine xb_hit ?_|refine xb_miss (by decide) ?_|(apply W_reg;(simp [h2, h3, h30, h31, h32, hb0, hb1, hn];exact .r _))
      refine ⟨_, ?_, i + 1, rfl, rfl, ?_, ?_, ?_, ?_, ?_, by omega, ?_, ?_, ?_, by (rw [heq]; simp [hd'])⟩
      all_goals first|assumption|(simp [h2, h3, h30, h31, h32, hb0, hb1, hn, n0, n1, n0', n1'];done)|(simp [h2, h3, h30, h31, h32, hb0, hb1, hn, n0, n1, n0', n1'];omega)|(simp [h2, h3, h30, h31, h32, hb0, hb1, hn, n0, n1, n0', n1'];exact wrap_succ (by omega))|omega
  have hil : i = q.body.length := by simp at hc; omega
  subst hil
  rw [List.drop_length, List.all_nil] at heq
  repeat' first|refine W_seq ?_|refine W_block ?_|refine W_skip ?_|refine W_ret ?_|refine W_exit ?_|refine xb_hit ?_|refine xb_miss (by decide) ?_|(apply W_reg;(simp [h2, h3, h30, h31, h32, hb0, hb1, hn, h4];exact .r _))
  simp only [isQry, e1, e2n, e3, e4, heq]; simp
/-- The variables of a body, as the reference lists them. -/
def bvars1 (acc : List Int) (l : List Int) : List Int := l.foldl (fun acc t => if decide (0 ≤ t) && !decide (t ∈ acc) then acc ++ [t] else acc) acc
def bvars (acc : List Int) (body : List RA) : List Int := body.foldl (fun acc a => bvars1 acc a.args) acc
theorem bvars1_mem : ∀ (l acc : List Int) (x : Int), x ∈ bvars1 acc l ↔ x ∈ acc ∨ (0 ≤ x ∧ x ∈ l)
  | [], acc, x => by simp [bvars1]
  | t :: l, acc, x => by
    have ih := fun acc => bvars1_mem l acc x
    unfold bvars1 at ih ⊢
    rw [List.foldl_cons, ih]
    split
    · rename_i h
      simp only [Bool.and_eq_true, decide_eq_true_eq] at h
      simp only [List.mem_append, List.mem_cons, List.not_mem_nil, or_false]
      constructor
      · rintro ((h1 | rfl) | h1)
        · exact .inl h1
        · exact .inr ⟨h.1, .inl rfl⟩
        · exact .inr ⟨h1.1, .inr h1.2⟩
      · rintro (h1 | ⟨h1, rfl | h2⟩)
        · exact .inl (.inl h1)
        · exact .inl (.inr rfl)
        · exact .inr ⟨h1, h2⟩
    · rename_i h
      simp only [Bool.and_eq_true, decide_eq_true_eq, Bool.not_eq_true', decide_eq_false_iff_not, not_and, Classical.not_not] at h
      simp only [List.mem_cons]
      constructor
      · rintro (h1 | h1)
        · exact .inl h1
        · exact .inr ⟨h1.1, .inr h1.2⟩
      · rintro (h1 | ⟨h1, rfl | h2⟩)
        · exact .inl h1
        · exact .inl (h h1)
        · exact .inr ⟨h1, h2⟩
theorem bvars_mem : ∀ (body : List RA) (acc : List Int) (x : Int), x ∈ bvars acc body ↔ x ∈ acc ∨ (0 ≤ x ∧ ∃ a ∈ body, x ∈ a.args)
  | [], acc, x => by simp [bvars]
  | a :: body, acc, x => by
    have ih := bvars_mem body (bvars1 acc a.args) x
    unfold bvars at ih ⊢
    rw [List.foldl_cons, ih, bvars1_mem]
    constructor
    · rintro ((h | h) | ⟨h, b, hb, h2⟩)
      · exact .inl h
      · exact .inr ⟨h.1, a, by simp, h.2⟩
      · exact .inr ⟨h, b, by simp [hb], h2⟩
    · rintro (h | ⟨h, b, hb, h2⟩)
      · exact .inl (.inl h)
      · rcases List.mem_cons.1 hb with rfl | hb
        · exact .inl (.inr ⟨h, h2⟩)
        · exact .inr ⟨h, b, hb, h2⟩
theorem bvars1_take (l acc : List Int) (j : Nat) (h : j < l.length) : bvars1 acc (l.take (j + 1)) = if decide (0 ≤ l[j]) && !decide (l[j] ∈ bvars1 acc (l.take j)) then bvars1 acc (l.take j) ++ [l[j]] else bvars1 acc (l.take j) := by
  rw [List.take_succ_eq_append_getElem h]; unfold bvars1; rw [List.foldl_append]; rfl
theorem bvars_take (l : List RA) (acc : List Int) (j : Nat) (h : j < l.length) : bvars acc (l.take (j + 1)) = bvars1 (bvars acc (l.take j)) l[j].args := by
  rw [List.take_succ_eq_append_getElem h]; unfold bvars; rw [List.foldl_append]; rfl
theorem bodyVars_r (q : Qry) (hb : q.body.length ≤ 1000) (ha : ∀ a ∈ q.body, a.args.length ≤ 1000) : Ret XX 251 [Ag q] (.own 1 (rowsE (bvars [] q.body))) := by
  refine ret_W rfl Tryz.func251 rfl rfl (by simp [Tryz.f251]) ?_
  simp only [Tryz.f251]
  repeat' first|refine W_seq ?_|refine W_block ?_|refine W_skip ?_|refine W_ret ?_|refine W_exit ?_|refine xb_hit ?_|refine xb_miss (by decide) ?_|(apply W_reg;(simp [Ag];exact .r _))
  refine W_loop (n := q.body.length) (fun n s => ∃ i : Nat, ∃ acc : List Int, n = q.body.length - i ∧ s.nt = 48 ∧ s.tm 1 = .ptr 0 0 ∧ s.tm 3 = .ref 1 acc.length [] ∧ s.tm 4 = In i ∧ i ≤ q.body.length ∧ s.σ.ob 0 = .box [Ar q.head, Ar q.body] ∧ s.σ.ob 1 = .arr (.own 0) 0 1 (rowsE acc) ∧ 2 ≤ s.σ.n ∧ acc = bvars [] (q.body.take i) ∧ acc.length ≤ i * 1000) ⟨0, [], by simp [bvars]⟩ ?_
  rintro n ⟨nt, tm, σ⟩ ⟨i, acc, rfl, hnt, h1, h3, h4, hi, hb0, ho, hn, hac, hal⟩
  simp only at hnt h1 h3 h4 hb0 ho hn
  subst hnt
  have n0 : ¬ (0 = σ.n) := by omega
  have n1 : ¬ (1 = σ.n) := by omega
  have n0' : ¬ (σ.n = 0) := by omega
  have n1' : ¬ (σ.n = 1) := by omega
  repeat' first|refine W_seq ?_|refine W_block ?_|refine W_skip ?_|refine W_ret ?_|refine W_exit ?_|refine xb_hit ?_|refine xb_miss (by decide) ?_|(apply W_reg;(simp [h1, h3, h4, hb0, ho, hn];exact .r _))
  refine W_cond (by simp [h1, h3, h4, hb0, ho, hn]; exact .r _) (fun hc => ?_) (fun hc => ?_)
  · have hil : i < q.body.length := by simpa using hc
    have hal2 := ha _ (List.getElem_mem hil)
    repeat' first|refine W_seq ?_|refine W_block ?_|refine W_skip ?_|refine W_ret ?_|refine W_exit ?_|refine xb_hit ?_|refine xb_miss (by decide) ?_|(apply W_reg;(simp [h1, h3, h4, hb0, ho, hn, hil];exact .r _))
    refine W_loop (n := q.body[i].args.length) (fun n s => ∃ j : Nat, ∃ ac2 : List Int, n = q.body[i].args.length - j ∧ s.nt = 48 ∧ s.tm 1 = .ptr 0 0 ∧ s.tm 3 = .ref 1 ac2.length [] ∧ s.tm 4 = In i ∧ s.tm 5 = In j ∧ j ≤ q.body[i].args.length ∧ s.σ.ob 0 = .box [Ar q.head, Ar q.body] ∧ s.σ.ob 1 = .arr (.own 0) 0 1 (rowsE ac2) ∧ 2 ≤ s.σ.n ∧ ac2 = bvars1 acc (q.body[i].args.take j) ∧ ac2.length ≤ i * 1000 + j) ⟨0, acc, by simp [h1, h3, h4, hb0, ho, hn, bvars1, hal]⟩ ?_
    rintro n ⟨nt, tm, σ⟩ ⟨j, ac2, rfl, hnt, h1, h3, h4, h5, hj, hb0, ho, hn, hac2, hal3⟩
    simp only at hnt h1 h3 h4 h5 hb0 ho hn
    subst hnt
    have n0 : ¬ (0 = σ.n) := by omega
    have n1 : ¬ (1 = σ.n) := by omega
    have n0' : ¬ (σ.n = 0) := by omega
    have n1' : ¬ (σ.n = 1) := by omega
    repeat' first|refine W_seq ?_|refine W_block ?_|refine W_skip ?_|refine W_ret ?_|refine W_exit ?_|refine xb_hit ?_|refine xb_miss (by decide) ?_|(apply W_reg;(simp [h1, h3, h4, h5, hb0, ho, hn, hil];exact .r _))
    refine W_cond (by simp [h1, h3, h4, h5, hb0, ho, hn]; exact .r _) (fun hd => ?_) (fun hd => ?_)
    · have hjl : j < q.body[i].args.length := by simpa using hd
      have h2 := cv (l2Has_r ac2 q.body[i].args[j] (by unfold Sm; omega))
      have htk := bvars1_take q.body[i].args acc j hjl
      rw [← hac2] at htk
      by_cases e : 0 ≤ q.body[i].args[j]
      · repeat' first|refine W_seq ?_|refine W_block ?_|refine W_skip ?_|refine W_ret ?_|refine W_exit ?_|refine xb_hit ?_|refine xb_miss (by decide) ?_|(apply W_reg;(simp [h1, h3, h4, h5, hb0, ho, hn, hil, hjl, e, h2];exact .r _))
        have hb40 : ac2.length + 1 < 1099511627776 := by omega
        refine W_cond (by simp [h1, h3, h4, h5, hb0, ho, hn]; exact .r _) (fun he => ?_) (fun he => ?_)
        · have he' : q.body[i].args[j] ∉ ac2 := by simpa using he
          repeat' first|refine W_seq ?_|refine W_block ?_|refine W_skip ?_|refine W_ret ?_|refine W_exit ?_|refine xb_hit ?_|refine xb_miss (by decide) ?_|(apply W_reg;(simp [h1, h3, h4, h5, hb0, ho, hn, hb40, n0, n1, n0', n1'];exact .r _))
          refine ⟨_, ?_, j + 1, ac2 ++ [q.body[i].args[j]], rfl, rfl, ?_, ?_, ?_, ?_, by omega, ?_, ?_, ?_, by (rw [htk]; simp [e, he']), by (simp; omega)⟩
          all_goals first|assumption|(simp [h1, h3, h4, h5, hb0, ho, hn, n0, n1, n0', n1', rowsE_append, rowsE];done)|(simp [h1, h3, h4, h5, hb0, ho, hn, n0, n1, n0', n1', rowsE_append, rowsE];omega)|(simp [h1, h3, h4, h5, hb0, ho, hn, n0, n1, n0', n1', rowsE_append, rowsE];exact wrap_succ (by omega))|omega
        · have he' : q.body[i].args[j] ∈ ac2 := by simpa using he
          repeat' first|refine W_seq ?_|refine W_block ?_|refine W_skip ?_|refine W_ret ?_|refine W_exit ?_|refine xb_hit ?_|refine xb_miss (by decide) ?_|(apply W_reg;(simp [h1, h3, h4, h5, hb0, ho, hn];exact .r _))
          refine ⟨_, ?_, j + 1, ac2, rfl, rfl, ?_, ?_, ?_, ?_, by omega, ?_, ?_, ?_, by (rw [htk]; simp [he']), by omega⟩
          all_goals first|assumption|(simp [h1, h3, h4, h5, hb0, ho, hn];done)|(simp [h1, h3, h4, h5, hb0, ho, hn];omega)|(simp [h1, h3, h4, h5, hb0, ho, hn];exact wrap_succ (by omega))|omega
      · repeat' first|refine W_seq ?_|refine W_block ?_|refine W_skip ?_|refine W_ret ?_|refine W_exit ?_|refine xb_hit ?_|refine xb_miss (by decide) ?_|(apply W_reg;(simp [h1, h3, h4, h5, hb0, ho, hn, hil, hjl, e, h2];exact .r _))
        refine W_cond (by simp [h1, h3, h4, h5, hb0, ho, hn]; exact .r _) (fun he => ?_) (fun he => ?_)
        · cases he
        · repeat' first|refine W_seq ?_|refine W_block ?_|refine W_skip ?_|refine W_ret ?_|refine W_exit ?_|refine xb_hit ?_|refine xb_miss (by decide) ?_|(apply W_reg;(simp [h1, h3, h4, h5, hb0, ho, hn];exact .r _))
          refine ⟨_, ?_, j + 1, ac2, rfl, rfl, ?_, ?_, ?_, ?_, by omega, ?_, ?_, ?_, by (rw [htk]; simp [e]), by omega⟩
          all_goals first|assumption|(simp [h1, h3, h4, h5, hb0, ho, hn];done)|(simp [h1, h3, h4, h5, hb0, ho, hn];omega)|(simp [h1, h3, h4, h5, hb0, ho, hn];exact wrap_succ (by omega))|omega
    · have hje : j = q.body[i].args.length := by simp at hd; omega
      subst hje
      rw [List.take_length] at hac2
      repeat' first|refine W_seq ?_|refine W_block ?_|refine W_skip ?_|refine W_ret ?_|refine W_exit ?_|refine xb_hit ?_|refine xb_miss (by decide) ?_|(apply W_reg;(simp [h1, h3, h4, h5, hb0, ho, hn];exact .r _))
      exact ⟨q.body.length - (i + 1), by omega, i + 1, ac2, rfl, rfl, by simp [h1], by simp [h3], by simp [h4]; exact wrap_succ (by omega), by omega, by simp [hb0], by simp [ho], by simpa using hn, by rw [bvars_take _ _ _ hil, ← hac, hac2], by omega⟩
  have hil : i = q.body.length := by simp at hc; omega
  subst hil
  rw [List.take_length] at hac
  subst hac
  repeat' first|refine W_seq ?_|refine W_block ?_|refine W_skip ?_|refine W_ret ?_|refine W_exit ?_|refine xb_hit ?_|refine xb_miss (by decide) ?_|(apply W_reg;(simp [h1, h3, h4, hb0, ho];exact .r _))
  simp [ho]
theorem bvars_len (q : Qry) (hb : q.body.length ≤ 1000) (ha : ∀ a ∈ q.body, a.args.length ≤ 1000) : (bvars [] q.body).length ≤ 1000000 := by
  have h1 : ∀ (l acc : List Int), (bvars1 acc l).length ≤ acc.length + l.length := by
    intro l
    induction l with
    | nil => intro acc; simp [bvars1]
    | cons t l ih =>
      intro acc
      have := ih (if decide (0 ≤ t) && !decide (t ∈ acc) then acc ++ [t] else acc)
      unfold bvars1 at this ⊢
      rw [List.foldl_cons]
      refine Nat.le_trans this ?_
      split <;> simp <;> omega
  have h2 : ∀ (l : List RA) (acc : List Int), (∀ a ∈ l, a.args.length ≤ 1000) → (bvars acc l).length ≤ acc.length + l.length * 1000 := by
    intro l
    induction l with
    | nil => intro acc _; simp [bvars]
    | cons a l ih =>
      intro acc h
      have hx := ih (bvars1 acc a.args) fun b hb => h b (List.mem_cons_of_mem _ hb)
      have hy := h1 a.args acc
      have hz := h a (by simp)
      unfold bvars at hx ⊢
      rw [List.foldl_cons, List.length_cons]
      omega
  have := h2 q.body [] ha
  simp at this
  omega
end Go.Proofs.YtmfifjbbjjdacaaGreat.V

namespace Go.Proofs.YtmfifjbbjjdacaaGreat.V
open Go Go.Proofs
set_option linter.unusedVariables false
set_option linter.unusedSimpArgs false
theorem specIsAtom_r (c : Sch) (a : RA) (hl : Sm c.arity) (ha : Sm a.args) : Ret XX 249 [Ag c, Ag a] (.t (.b (isAtom c a)) false) := by
  refine ret_W rfl Tryz.func249 rfl rfl (by simp [Tryz.f249]) ?_
  simp only [Tryz.f249]
  have c1 := cv (specIsSchema_r c hl)
  have c2 := cv (l1In_r a.rel 0 (c.arity.length - 1))
  have c3 := cv (l3Terms_r a.args ha)
  have hw : IntKind.i64.wrap ((c.arity.length : Int) - 1) = (c.arity.length : Int) - 1 := wrap_ok (by omega) (by omega)
  simp only [Ag, cells_Sch, List.map_cons, List.map_nil] at c1
  cases e1 : isSch c
  · repeat' first|refine W_seq ?_|refine W_block ?_|refine W_skip ?_|refine W_ret ?_|refine W_exit ?_|refine xb_hit ?_|refine xb_miss (by decide) ?_|(apply W_reg;(simp [Ag, c1, e1];exact .r _))|(apply W_draw (id := 1) [0,1,3,7,15,7,39,103,231,511,1023,2047,4095,8191,16383,4095,36863,4095,135167,495615,1019903,2097151,4194303,8388607,16777215,33554431,67108863,134217727,268435455] rfl rfl; (· simp; exact .r _); (· simp [Ag, c1, e1]; exact .r _); (· first|trivial|simp))
    simp [isAtom, takes, e1]
  · cases e2 : inR a.rel 0 (c.arity.length - 1)
    · repeat' first|refine W_seq ?_|refine W_block ?_|refine W_skip ?_|refine W_ret ?_|refine W_exit ?_|refine xb_hit ?_|refine xb_miss (by decide) ?_|(apply W_reg;(simp [Ag, c1, e1, c2, e2, hw];exact .r _))|(apply W_draw (id := 1) [0,1,3,7,15,7,39,103,231,511,1023,2047,4095,8191,16383,4095,36863,4095,135167,495615,1019903,2097151,4194303,8388607,16777215,33554431,67108863,134217727,268435455] rfl rfl; (· simp; exact .r _); (· simp [Ag, c1, e1, c2, e2, hw]; exact .r _); (· first|trivial|simp))
      simp [isAtom, takes, e2]
    · have hb : 0 ≤ a.rel ∧ a.rel ≤ c.arity.length - 1 := by simpa [inR] using e2
      have hr : a.rel.toNat < c.arity.length := by omega
      have hr0 : 0 ≤ a.rel := hb.1
      by_cases e3 : (a.args.length : Int) = c.arity[a.rel.toNat]
      · have ht : takes c a.rel a.args.length = true := by simp [takes, e1, e2, hr, e3]
        have h3 := takes_len ht
        repeat' first|refine W_seq ?_|refine W_block ?_|refine W_skip ?_|refine W_ret ?_|refine W_exit ?_|refine xb_hit ?_|refine xb_miss (by decide) ?_|(apply W_reg;(simp [Ag, c1, e1, c2, e2, hw, hr, hr0, e3, c3];exact .r _))|(apply W_draw (id := 1) [0,1,3,7,15,7,39,103,231,511,1023,2047,4095,8191,16383,4095,36863,4095,135167,495615,1019903,2097151,4194303,8388607,16777215,33554431,67108863,134217727,268435455] rfl rfl; (· simp; exact .r _); (· simp [Ag, c1, e1, c2, e2, hw, hr, hr0, e3, c3]; exact .r _); (· first|trivial|simp))
        simp [isAtom, ht, h3]
      · have e3' : ¬ c.arity[a.rel.toNat] = (a.args.length : Int) := fun e => e3 e.symm
        repeat' first|refine W_seq ?_|refine W_block ?_|refine W_skip ?_|refine W_ret ?_|refine W_exit ?_|refine xb_hit ?_|refine xb_miss (by decide) ?_|(apply W_reg;(simp [Ag, c1, e1, c2, e2, hw, hr, hr0, e3];exact .r _))|(apply W_draw (id := 1) [0,1,3,7,15,7,39,103,231,511,1023,2047,4095,8191,16383,4095,36863,4095,135167,495615,1019903,2097151,4194303,8388607,16777215,33554431,67108863,134217727,268435455] rfl rfl; (· simp; exact .r _); (· simp [Ag, c1, e1, c2, e2, hw, hr, hr0, e3]; exact .r _); (· first|trivial|simp))
        simp [isAtom, takes, e1, e2, hr, e3']
theorem specIsFact_r (c : Sch) (a : RA) (hl : Sm c.arity) (ha : Sm a.args) : Ret XX 38 [Ag c, Ag a] (.t (.b (isFact c a)) false) := by
  refine ret_W rfl Tryz.func38 rfl rfl (by simp [Tryz.f38]) ?_
  simp only [Tryz.f38]
  have c1 := cv (specIsSchema_r c hl)
  have c2 := cv (l1In_r a.rel 0 (c.arity.length - 1))
  have hw : IntKind.i64.wrap ((c.arity.length : Int) - 1) = (c.arity.length : Int) - 1 := wrap_ok (by omega) (by omega)
  simp only [Ag, cells_Sch, List.map_cons, List.map_nil] at c1
  cases e1 : isSch c
  · repeat' first|refine W_seq ?_|refine W_block ?_|refine W_skip ?_|refine W_ret ?_|refine W_exit ?_|refine xb_hit ?_|refine xb_miss (by decide) ?_|(apply W_reg;(simp [Ag, c1, e1];exact .r _))|(apply W_draw (id := 1) [0,1,3,7,15,31,15,79,207,463,1023,2047,4095,8191,16383,32767,65535,16383,147455,16383,540671,1982463,4079615,8388607,16777215] rfl rfl; (· simp; exact .r _); (· simp [Ag, c1, e1]; exact .r _); (· first|trivial|simp))
    refine W_cond (by simp; exact .r _) (fun hc => ?_) (fun hc => ?_)
    · repeat' first|refine W_seq ?_|refine W_block ?_|refine W_skip ?_|refine W_ret ?_|refine W_exit ?_|refine xb_hit ?_|refine xb_miss (by decide) ?_|(apply W_reg;(simp;exact .r _))
      simp [isFact, takes, e1]
    · cases hc
  cases e2 : inR a.rel 0 (c.arity.length - 1)
  · repeat' first|refine W_seq ?_|refine W_block ?_|refine W_skip ?_|refine W_ret ?_|refine W_exit ?_|refine xb_hit ?_|refine xb_miss (by decide) ?_|(apply W_reg;(simp [Ag, c1, e1, c2, e2, hw];exact .r _))|(apply W_draw (id := 1) [0,1,3,7,15,31,15,79,207,463,1023,2047,4095,8191,16383,32767,65535,16383,147455,16383,540671,1982463,4079615,8388607,16777215] rfl rfl; (· simp; exact .r _); (· simp [Ag, c1, e1, c2, e2, hw]; exact .r _); (· first|trivial|simp))
    refine W_cond (by simp; exact .r _) (fun hc => ?_) (fun hc => ?_)
    · repeat' first|refine W_seq ?_|refine W_block ?_|refine W_skip ?_|refine W_ret ?_|refine W_exit ?_|refine xb_hit ?_|refine xb_miss (by decide) ?_|(apply W_reg;(simp;exact .r _))
      simp [isFact, takes, e2]
    · cases hc
  have hb : 0 ≤ a.rel ∧ a.rel ≤ c.arity.length - 1 := by simpa [inR] using e2
  have hr : a.rel.toNat < c.arity.length := by omega
  have hr0 : 0 ≤ a.rel := hb.1
  by_cases e3 : (a.args.length : Int) = c.arity[a.rel.toNat]
  case neg =>
    have e3' : ¬ c.arity[a.rel.toNat] = (a.args.length : Int) := fun e => e3 e.symm
    repeat' first|refine W_seq ?_|refine W_block ?_|refine W_skip ?_|refine W_ret ?_|refine W_exit ?_|refine xb_hit ?_|refine xb_miss (by decide) ?_|(apply W_reg;(simp [Ag, c1, e1, c2, e2, hw, hr, hr0, e3];exact .r _))|(apply W_draw (id := 1) [0,1,3,7,15,31,15,79,207,463,1023,2047,4095,8191,16383,32767,65535,16383,147455,16383,540671,1982463,4079615,8388607,16777215] rfl rfl; (· simp; exact .r _); (· simp [Ag, c1, e1, c2, e2, hw, hr, hr0, e3]; exact .r _); (· first|trivial|simp))
    refine W_cond (by simp; exact .r _) (fun hc => ?_) (fun hc => ?_)
    · repeat' first|refine W_seq ?_|refine W_block ?_|refine W_skip ?_|refine W_ret ?_|refine W_exit ?_|refine xb_hit ?_|refine xb_miss (by decide) ?_|(apply W_reg;(simp;exact .r _))
      simp [isFact, takes, e1, e2, hr, e3']
    · cases hc
  have ht : takes c a.rel a.args.length = true := by simp [takes, e1, e2, hr, e3]
  repeat' first|refine W_seq ?_|refine W_block ?_|refine W_skip ?_|refine W_ret ?_|refine W_exit ?_|refine xb_hit ?_|refine xb_miss (by decide) ?_|(apply W_reg;(simp [Ag, c1, e1, c2, e2, hw, hr, hr0, e3];exact .r _))|(apply W_draw (id := 1) [0,1,3,7,15,31,15,79,207,463,1023,2047,4095,8191,16383,32767,65535,16383,147455,16383,540671,1982463,4079615,8388607,16777215] rfl rfl; (· simp; exact .r _); (· simp [Ag, c1, e1, c2, e2, hw, hr, hr0, e3]; exact .r _); (· first|trivial|simp))
  refine W_cond (by simp; exact .r _) (fun hc => ?_) (fun hc => ?_)
  · cases hc
  repeat' first|refine W_seq ?_|refine W_block ?_|refine W_skip ?_|refine W_ret ?_|refine W_exit ?_|refine xb_hit ?_|refine xb_miss (by decide) ?_|(apply W_reg;(simp;exact .r _))
  refine W_loop (n := a.args.length) (fun n s => ∃ i : Nat, n = a.args.length - i ∧ s.nt = 45 ∧ s.tm 3 = .ptr 1 0 ∧ s.tm 5 = In i ∧ i ≤ a.args.length ∧ s.σ.ob 1 = .box [In a.rel, Ar a.args] ∧ a.args.all (fun x => inR x 0 99) = (a.args.drop i).all (fun x => inR x 0 99)) ⟨0, by simp⟩ ?_
  rintro n ⟨nt, tm, σ⟩ ⟨i, rfl, hnt, h3, h5, hi, hb1, heq⟩
  simp only at hnt h3 h5 hb1
  subst hnt
  repeat' first|refine W_seq ?_|refine W_block ?_|refine W_skip ?_|refine W_ret ?_|refine W_exit ?_|refine xb_hit ?_|refine xb_miss (by decide) ?_|(apply W_reg;(simp [h3, h5, hb1];exact .r _))
  refine W_cond (by simp [h3, h5, hb1]; exact .r _) (fun hc => ?_) (fun hc => ?_)
  · have hil : i < a.args.length := by simpa using hc
    have hcc := cv (l1In_r a.args[i] 0 99)
    repeat' first|refine W_seq ?_|refine W_block ?_|refine W_skip ?_|refine W_ret ?_|refine W_exit ?_|refine xb_hit ?_|refine xb_miss (by decide) ?_|(apply W_reg;(simp [h3, h5, hb1, hil, hcc];exact .r _))
    rw [List.drop_eq_getElem_cons hil, List.all_cons] at heq
    refine W_cond (by simp [h3, h5, hb1]; exact .r _) (fun hd => ?_) (fun hd => ?_)
    · repeat' first|refine W_seq ?_|refine W_block ?_|refine W_skip ?_|refine W_ret ?_|refine W_exit ?_|refine xb_hit ?_|refine xb_miss (by decide) ?_|(apply W_reg;(simp [h3, h5, hb1];exact .r _))
      have hd' : inR a.args[i] 0 99 = false := by simpa using hd
      simp [isFact, heq, hd']
    · have hd' : inR a.args[i] 0 99 = true := by simpa using hd
      repeat' first|refine W_seq ?_|refine W_block ?_|refine W_skip ?_|refine W_ret ?_|refine W_exit ?_|refine xb_hit ?_|refine xb_miss (by decide) ?_|(apply W_reg;(simp [h3, h5, hb1];exact .r _))
      refine ⟨_, ?_, i + 1, rfl, rfl, ?_, ?_, by omega, ?_, by (rw [heq]; simp [hd'])⟩
      all_goals first|assumption|(simp [h3, h5, hb1];done)|(simp [h3, h5, hb1];omega)|(simp [h3, h5, hb1];exact wrap_succ (by omega))|omega
  have hil : i = a.args.length := by simp at hc; omega
  subst hil
  rw [List.drop_length, List.all_nil] at heq
  repeat' first|refine W_seq ?_|refine W_block ?_|refine W_skip ?_|refine W_ret ?_|refine W_exit ?_|refine xb_hit ?_|refine xb_miss (by decide) ?_|(apply W_reg;(simp [h3, h5, hb1];exact .r _))
  simp [isFact, ht, heq]
theorem specIsQuery4_r (c : Sch) (q : Qry) (hl : Sm c.arity) (hh : Sm q.head) (hb : Sm q.body) (ha : ∀ a ∈ q.body, Sm a.args) : Ret XX 140 [Ag c, Ag q, In 4] (.t (.b (isQry c q)) false) := by
  refine ret_W rfl Tryz.func140 rfl rfl (by simp [Tryz.f140]) ?_
  simp only [Tryz.f140]
  have c1 := cv (specIsSchema_r c hl)
  have c2 := cv (l3Terms_r q.head hh)
  have c3 := cv (l1In_r q.body.length 1 4)
  simp only [Ag, cells_Sch, List.map_cons, List.map_nil] at c1
  cases e1 : isSch c
  · repeat' first|refine W_seq ?_|refine W_block ?_|refine W_skip ?_|refine W_ret ?_|refine W_exit ?_|refine xb_hit ?_|refine xb_miss (by decide) ?_|(apply W_reg;(simp [Ag, c1, e1];exact .r _))
    refine W_cond (by simp; exact .r _) (fun hc => ?_) (fun hc => ?_)
    · repeat' first|refine W_seq ?_|refine W_block ?_|refine W_skip ?_|refine W_ret ?_|refine W_exit ?_|refine xb_hit ?_|refine xb_miss (by decide) ?_|(apply W_reg;(simp;exact .r _))
      simp [isQry, e1]
    · cases hc
  cases e2 : (q.head.all isTerm && decide (q.head.length ≤ 3))
  · repeat' first|refine W_seq ?_|refine W_block ?_|refine W_skip ?_|refine W_ret ?_|refine W_exit ?_|refine xb_hit ?_|refine xb_miss (by decide) ?_|(apply W_reg;(simp [Ag, c1, e1, c2, e2];exact .r _))
    refine W_cond (by simp; exact .r _) (fun hc => ?_) (fun hc => ?_)
    · repeat' first|refine W_seq ?_|refine W_block ?_|refine W_skip ?_|refine W_ret ?_|refine W_exit ?_|refine xb_hit ?_|refine xb_miss (by decide) ?_|(apply W_reg;(simp;exact .r _))
      have : isQry c q = false := by
        cases h : isQry c q with
        | false => rfl
        | true => simp only [isQry, Bool.and_eq_true] at h; rw [h.1.1.1.2, h.1.1.1.1.2] at e2; cases e2
      simp [this]
    · cases hc
  cases e4 : inR q.body.length 1 4
  · repeat' first|refine W_seq ?_|refine W_block ?_|refine W_skip ?_|refine W_ret ?_|refine W_exit ?_|refine xb_hit ?_|refine xb_miss (by decide) ?_|(apply W_reg;(simp [Ag, c1, e1, c2, e2, c3, e4];exact .r _))
    refine W_cond (by simp; exact .r _) (fun hc => ?_) (fun hc => ?_)
    · repeat' first|refine W_seq ?_|refine W_block ?_|refine W_skip ?_|refine W_ret ?_|refine W_exit ?_|refine xb_hit ?_|refine xb_miss (by decide) ?_|(apply W_reg;(simp;exact .r _))
      simp [isQry, e4]
    · cases hc
  have e2' : (∀ x ∈ q.head, isTerm x = true) ∧ q.head.length ≤ 3 := by simpa using e2
  repeat' first|refine W_seq ?_|refine W_block ?_|refine W_skip ?_|refine W_ret ?_|refine W_exit ?_|refine xb_hit ?_|refine xb_miss (by decide) ?_|(apply W_reg;(simp [Ag, c1, e1, c2, e2, c3, e4];exact .r _))
  refine W_cond (by simp; exact .r _) (fun hc => ?_) (fun hc => ?_)
  · cases hc
  repeat' first|refine W_seq ?_|refine W_block ?_|refine W_skip ?_|refine W_ret ?_|refine W_exit ?_|refine xb_hit ?_|refine xb_miss (by decide) ?_|(apply W_reg;(simp;exact .r _))
  refine W_loop (n := q.body.length) (fun n s => ∃ i : Nat, n = q.body.length - i ∧ s.nt = 65 ∧ s.tm 3 = .ptr 0 0 ∧ s.tm 4 = .ptr 1 0 ∧ s.tm 7 = In i ∧ i ≤ q.body.length ∧ s.σ.ob 0 = .box [Ar c.arity] ∧ s.σ.ob 1 = .box [Ar q.head, Ar q.body] ∧ 2 ≤ s.σ.n ∧ q.body.all (isAtom c) = (q.body.drop i).all (isAtom c)) ⟨0, by simp⟩ ?_
  rintro n ⟨nt, tm, σ⟩ ⟨i, rfl, hnt, h3, h4, h7, hi, hb0, hb1, hn, heq⟩
  simp only at hnt h3 h4 h7 hb0 hb1 hn
  subst hnt
  have n0 : ¬ (0 = σ.n) := by omega
  have n1 : ¬ (1 = σ.n) := by omega
  have n0' : ¬ (σ.n = 0) := by omega
  have n1' : ¬ (σ.n = 1) := by omega
  repeat' first|refine W_seq ?_|refine W_block ?_|refine W_skip ?_|refine W_ret ?_|refine W_exit ?_|refine xb_hit ?_|refine xb_miss (by decide) ?_|(apply W_reg;(simp [h3, h4, h7, hb0, hb1, hn];exact .r _))
  refine W_cond (by simp [h3, h4, h7, hb0, hb1, hn]; exact .r _) (fun hc => ?_) (fun hc => ?_)
  · have hil : i < q.body.length := by simpa using hc
    have hcc := cv (specIsAtom_r c q.body[i] hl (ha _ (List.getElem_mem hil)))
    simp only [Ag, cells_Sch, cells_RA, List.map_cons, List.map_nil] at hcc
    repeat' first|refine W_seq ?_|refine W_block ?_|refine W_skip ?_|refine W_ret ?_|refine W_exit ?_|refine xb_hit ?_|refine xb_miss (by decide) ?_|(apply W_reg;(simp [h3, h4, h7, hb0, hb1, hn, hil, hcc, n0, n1, n0', n1'];exact .r _))|(apply W_draw (id := 6) [0,0,2,0,14,30,63,127] rfl rfl; (· simp; exact .r _); (· simp [h3, h4, h7, hb0, hb1, hn, hil, hcc, n0, n1, n0', n1']; exact .r _); (· first|trivial|simp))
    rw [List.drop_eq_getElem_cons hil, List.all_cons] at heq
    refine W_cond (by simp [h3, h4, h7, hb0, hb1, hn]; exact .r _) (fun hd => ?_) (fun hd => ?_)
    · repeat' first|refine W_seq ?_|refine W_block ?_|refine W_skip ?_|refine W_ret ?_|refine W_exit ?_|refine xb_hit ?_|refine xb_miss (by decide) ?_|(apply W_reg;(simp [h3, h4, h7, hb0, hb1, hn];exact .r _))
      have hd' : isAtom c q.body[i] = false := by simpa using hd
      simp [isQry, heq, hd']
    · have hd' : isAtom c q.body[i] = true := by simpa using hd
      repeat' first|refine W_seq ?_|refine W_block ?_|refine W_skip ?_|refine W_ret ?_|refine W_exit ?_|refine xb_hit ?_|refine xb_miss (by decide) ?_|(apply W_reg;(simp [h3, h4, h7, hb0, hb1, hn];exact .r _))
      refine ⟨_, ?_, i + 1, rfl, rfl, ?_, ?_, ?_, by omega, ?_, ?_, ?_, by (rw [heq]; simp [hd'])⟩
      all_goals first|assumption|(simp [h3, h4, h7, hb0, hb1, hn, n0, n1, n0', n1'];done)|(simp [h3, h4, h7, hb0, hb1, hn, n0, n1, n0', n1'];omega)|(simp [h3, h4, h7, hb0, hb1, hn, n0, n1, n0', n1'];exact wrap_succ (by omega))|omega
  have hil : i = q.body.length := by simp at hc; omega
  subst hil
  rw [List.drop_length, List.all_nil] at heq
  have hbl : q.body.length ≤ 4 := by simp [inR] at e4; omega
  have hal : ∀ a ∈ q.body, a.args.length ≤ 3 := fun a ha => by
    have := List.all_eq_true.1 heq a ha
    simp only [isAtom, Bool.and_eq_true] at this
    exact takes_len this.1
  have c4 := cv (bodyVars_r q (by omega) fun a ha => by have := hal a ha; omega)
  simp only [Ag, cells_Q, List.map_cons, List.map_nil] at c4
  have hbv := bvars_len q (by omega) fun a ha => by have := hal a ha; omega
  repeat' first|refine W_seq ?_|refine W_block ?_|refine W_skip ?_|refine W_ret ?_|refine W_exit ?_|refine xb_hit ?_|refine xb_miss (by decide) ?_|(apply W_reg;(simp [h3, h4, h7, hb0, hb1, hn];exact .r _))
  refine W_loop (n := q.head.length) (fun n s => ∃ i : Nat, n = q.head.length - i ∧ s.nt = 65 ∧ s.tm 4 = .ptr 1 0 ∧ s.tm 8 = In i ∧ i ≤ q.head.length ∧ s.σ.ob 1 = .box [Ar q.head, Ar q.body] ∧ 2 ≤ s.σ.n ∧ isSafe q = (q.head.drop i).all (fun t => !isVar t || occurs q t)) ⟨0, by simp [h4, hb1, hn, isSafe]⟩ ?_
  rintro n ⟨nt, tm, σ⟩ ⟨i, rfl, hnt, h4, h8, hi, hb1, hn, hsf⟩
  simp only at hnt h4 h8 hb1 hn
  subst hnt
  have n1 : ¬ (1 = σ.n) := by omega
  have n1' : ¬ (σ.n = 1) := by omega
  repeat' first|refine W_seq ?_|refine W_block ?_|refine W_skip ?_|refine W_ret ?_|refine W_exit ?_|refine xb_hit ?_|refine xb_miss (by decide) ?_|(apply W_reg;(simp [h4, h8, hb1, hn];exact .r _))
  refine W_cond (by simp [h4, h8, hb1, hn]; exact .r _) (fun hc => ?_) (fun hc => ?_)
  · have hil : i < q.head.length := by simpa using hc
    have c5 := cv (specIsVar_r q.head[i])
    have c6 := cv (l2Has_r (bvars [] q.body) q.head[i] (by unfold Sm; omega))
    rw [List.drop_eq_getElem_cons hil, List.all_cons] at hsf
    cases e : isVar q.head[i]
    · repeat' first|refine W_seq ?_|refine W_block ?_|refine W_skip ?_|refine W_ret ?_|refine W_exit ?_|refine xb_hit ?_|refine xb_miss (by decide) ?_|(apply W_reg;(simp [h4, h8, hb1, hn, hil, c5, e, n1, n1'];exact .r _))|(apply W_draw (id := 11) [0,1,0,7,15,31,63,127,255,127,639,127,3711,7807,16383,32767,65535] rfl rfl; (· simp; exact .r _); (· simp [h4, h8, hb1, hn, hil, c5, e, n1, n1']; exact .r _); (· first|trivial|simp))
      refine W_cond (by simp [h4, h8, hb1, hn]; exact .r _) (fun hd => ?_) (fun hd => ?_)
      · cases hd
      · repeat' first|refine W_seq ?_|refine W_block ?_|refine W_skip ?_|refine W_ret ?_|refine W_exit ?_|refine xb_hit ?_|refine xb_miss (by decide) ?_|(apply W_reg;(simp [h4, h8, hb1, hn];exact .r _))
        refine ⟨_, ?_, i + 1, rfl, rfl, ?_, ?_, by omega, ?_, ?_, by (rw [hsf, e]; simp)⟩
        all_goals first|assumption|(simp [h4, h8, hb1, hn, n1, n1'];done)|(simp [h4, h8, hb1, hn, n1, n1'];omega)|(simp [h4, h8, hb1, hn, n1, n1'];exact wrap_succ (by omega))|omega
    · have hm : q.head[i] ∈ bvars [] q.body ↔ ∃ a ∈ q.body, q.head[i] ∈ a.args := by
        rw [bvars_mem]
        have h0 := (isVar_iff.1 e).1
        simp [h0]
      repeat' first|refine W_seq ?_|refine W_block ?_|refine W_skip ?_|refine W_ret ?_|refine W_exit ?_|refine xb_hit ?_|refine xb_miss (by decide) ?_|(apply W_reg;(simp [h4, h8, hb1, hn, hil, c5, e, c4, c6, n1, n1'];exact .r _))|(apply W_draw (id := 11) [0,1,0,7,15,31,63,127,255,127,639,127,3711,7807,16383,32767,65535] rfl rfl; (· simp; exact .r _); (· simp [h4, h8, hb1, hn, hil, c5, e, c4, c6, n1, n1']; exact .r _); (· first|trivial|simp))
      refine W_cond (by simp [h4, h8, hb1, hn]; exact .r _) (fun hd => ?_) (fun hd => ?_)
      · have hd' : q.head[i] ∉ bvars [] q.body := by simpa using hd
        have ho : occurs q q.head[i] = false := by
          cases h : occurs q q.head[i] with
          | false => rfl
          | true => exact absurd (hm.2 (by simpa [occurs] using h)) hd'
        repeat' first|refine W_seq ?_|refine W_block ?_|refine W_skip ?_|refine W_ret ?_|refine W_exit ?_|refine xb_hit ?_|refine xb_miss (by decide) ?_|(apply W_reg;(simp [h4, h8, hb1, hn];exact .r _))
        simp [isQry, hsf, e, ho]
      · have hd' : q.head[i] ∈ bvars [] q.body := by simpa using hd
        have ho : occurs q q.head[i] = true := by
          simpa [occurs] using hm.1 hd'
        repeat' first|refine W_seq ?_|refine W_block ?_|refine W_skip ?_|refine W_ret ?_|refine W_exit ?_|refine xb_hit ?_|refine xb_miss (by decide) ?_|(apply W_reg;(simp [h4, h8, hb1, hn];exact .r _))
        refine ⟨_, ?_, i + 1, rfl, rfl, ?_, ?_, by omega, ?_, ?_, by (rw [hsf, e, ho]; simp)⟩
        all_goals first|assumption|(simp [h4, h8, hb1, hn, n1, n1'];done)|(simp [h4, h8, hb1, hn, n1, n1'];omega)|(simp [h4, h8, hb1, hn, n1, n1'];exact wrap_succ (by omega))|omega
  have hil : i = q.head.length := by simp at hc; omega
  subst hil
  rw [List.drop_length, List.all_nil] at hsf
  repeat' first|refine W_seq ?_|refine W_block ?_|refine W_skip ?_|refine W_ret ?_|refine W_exit ?_|refine xb_hit ?_|refine xb_miss (by decide) ?_|(apply W_reg;(simp [h4, h8, hb1, hn];exact .r _))
  have e2a : q.head.all isTerm = true := List.all_eq_true.2 e2'.1
  simp only [isQry, e1, e2a, e2'.2, e4, heq, hsf]; simp
theorem specIsQuery_r (c : Sch) (q : Qry) (hl : Sm c.arity) (hh : Sm q.head) (hb : Sm q.body) (ha : ∀ a ∈ q.body, Sm a.args) : Ret XX 25 [Ag c, Ag q] (.t (.b (isQry c q)) false) := by
  refine ret_W rfl Tryz.func25 rfl rfl (by simp [Tryz.f25]) ?_
  simp only [Tryz.f25]
  have c1 := cv (specIsQuery4_r c q hl hh hb ha)
  simp only [Ag, cells_Sch, cells_Q, List.map_cons, List.map_nil] at c1
  repeat' first|refine W_seq ?_|refine W_block ?_|refine W_skip ?_|refine W_ret ?_|refine W_exit ?_|refine xb_hit ?_|refine xb_miss (by decide) ?_|(apply W_reg;(simp [Ag, c1];exact .r _))
  simp
theorem equalFact_r (a b : RA) (ha : Sm a.args) : Ret XX 160 [Ag a, Ag b] (.t (.b (decide (a = b))) false) := by
  refine ret_W rfl Tryz.func160 rfl rfl (by simp [Tryz.f160]) ?_
  simp only [Tryz.f160]
  have c1 := cv (eqInts_r a.args b.args ha)
  by_cases h : a.rel = b.rel
  · repeat' first|refine W_seq ?_|refine W_block ?_|refine W_skip ?_|refine W_ret ?_|refine W_exit ?_|refine xb_hit ?_|refine xb_miss (by decide) ?_|(apply W_reg;(simp [Ag, c1, h];exact .r _))
    have : a = b ↔ a.args = b.args := ⟨fun e => by rw [e], fun e => by cases a; cases b; simp only at h e; rw [h, e]⟩
    simp [this]
  · repeat' first|refine W_seq ?_|refine W_block ?_|refine W_skip ?_|refine W_ret ?_|refine W_exit ?_|refine xb_hit ?_|refine xb_miss (by decide) ?_|(apply W_reg;(simp [Ag, c1, h];exact .r _))
    have : a ≠ b := fun e => h (by rw [e])
    simp [this]
theorem l5Same_r (a b : RA) (ha : Sm a.args) : Ret XX 174 [Ag a, Ag b] (.t (.b (decide (a = b))) false) := by
  refine ret_W rfl Tryz.func174 rfl rfl (by simp [Tryz.f174]) ?_
  simp only [Tryz.f174]
  have c1 := cv (l2Ints_r a.args b.args ha)
  by_cases h : a.rel = b.rel
  · repeat' first|refine W_seq ?_|refine W_block ?_|refine W_skip ?_|refine W_ret ?_|refine W_exit ?_|refine xb_hit ?_|refine xb_miss (by decide) ?_|(apply W_reg;(simp [Ag, c1, h];exact .r _))
    have : a = b ↔ a.args = b.args := ⟨fun e => by rw [e], fun e => by cases a; cases b; simp only at h e; rw [h, e]⟩
    simp [this]
  · repeat' first|refine W_seq ?_|refine W_block ?_|refine W_skip ?_|refine W_ret ?_|refine W_exit ?_|refine xb_hit ?_|refine xb_miss (by decide) ?_|(apply W_reg;(simp [Ag, c1, h];exact .r _))
    have : a ≠ b := fun e => h (by rw [e])
    simp [this]
theorem l5Less_r (a b : RA) (ha : Sm a.args) : Ret XX 261 [Ag a, Ag b] (.t (.b (decide (cmpF a b < 0))) false) := by
  refine ret_W rfl Tryz.func261 rfl rfl (by simp [Tryz.f261]) ?_
  simp only [Tryz.f261]
  have c1 := cv (l2Less_r a.args b.args ha)
  by_cases h : a.rel = b.rel
  · repeat' first|refine W_seq ?_|refine W_block ?_|refine W_skip ?_|refine W_ret ?_|refine W_exit ?_|refine xb_hit ?_|refine xb_miss (by decide) ?_|(apply W_reg;(simp [Ag, h];exact .r _))
    refine W_cond (by simp; exact .r _) (fun hc => ?_) (fun hc => ?_)
    · cases hc
    repeat' first|refine W_seq ?_|refine W_block ?_|refine W_skip ?_|refine W_ret ?_|refine W_exit ?_|refine xb_hit ?_|refine xb_miss (by decide) ?_|(apply W_reg;(simp [Ag, c1, h];exact .r _))
    have : cmpF a b = cmpI a.args b.args := by unfold cmpF; rw [if_neg (by omega), if_neg (by omega)]
    simp [this]
  · repeat' first|refine W_seq ?_|refine W_block ?_|refine W_skip ?_|refine W_ret ?_|refine W_exit ?_|refine xb_hit ?_|refine xb_miss (by decide) ?_|(apply W_reg;(simp [Ag, h];exact .r _))
    refine W_cond (by simp; exact .r _) (fun hc => ?_) (fun hc => ?_)
    · repeat' first|refine W_seq ?_|refine W_block ?_|refine W_skip ?_|refine W_ret ?_|refine W_exit ?_|refine xb_hit ?_|refine xb_miss (by decide) ?_|(apply W_reg;(simp;exact .r _))
      by_cases h2 : a.rel < b.rel
      · have : cmpF a b = -1 := by unfold cmpF; rw [if_pos h2]
        simp [this, h2]
      · have : cmpF a b = 1 := by unfold cmpF; rw [if_neg h2, if_pos (by omega)]
        simp [this, h2]
    · cases hc
theorem ascF_short : ∀ {l : List RA}, l.length ≤ 1 → ascF l = true
  | [], _ => rfl
  | [_], _ => rfl
/-- A database's facts, from the i-th on, seen from the one before. -/
def dbOk (c : Sch) (db : List RA) (i : Nat) : Bool := (db.drop i).all (isFact c) && ascF (db.drop (i - 1))
theorem dbOk_end {c : Sch} {db : List RA} : dbOk c db db.length = true := by
  unfold dbOk
  rw [List.drop_length, ascF_short (by simp; omega)]; rfl
theorem dbOk_step {c : Sch} {db : List RA} {i : Nat} (h : i < db.length) : dbOk c db i = (isFact c db[i] && (i == 0 || decide (cmpF db[i - 1] db[i] < 0)) && dbOk c db (i + 1)) := by
  unfold dbOk
  rw [List.drop_eq_getElem_cons h, List.all_cons]
  cases i with
  | zero =>
    simp only [Nat.zero_sub, List.drop_zero, Nat.zero_add, Nat.sub_self, beq_self_eq_true, Bool.true_or, Bool.and_true]
    rw [Bool.and_assoc]
  | succ i =>
    have e : (i + 1 - 1) = i := by omega
    simp only [e]
    have e2 : i + 1 + 1 - 1 = i + 1 := by omega
    rw [e2, show db.drop i = db[i] :: db[i + 1] :: db.drop (i + 2) by rw [List.drop_eq_getElem_cons (by omega), List.drop_eq_getElem_cons h], ascF, ← List.drop_eq_getElem_cons h]
    have e3 : (i + 1 == 0) = false := rfl
    rw [e3, Bool.false_or]
    cases isFact c db[i + 1] <;> cases decide (cmpF db[i] db[i + 1] < 0) <;> cases (List.drop (i + 1 + 1) db).all (isFact c) <;> rfl
theorem isDb_of (c : Sch) (db : List RA) : isDb c db = (dbOk c db 0 && isSch c && decide (db.length ≤ 24)) := by
  unfold isDb dbOk; simp
theorem implIsDb_r (c : Sch) (db : List RA) (hl : Sm c.arity) (hd : Sm db) (ha : ∀ a ∈ db, Sm a.args) : Ret XX 181 [Ag c, Ar db] (.t (.b (isDb c db)) false) := by
  refine ret_W rfl Tryz.func181 rfl rfl (by simp [Tryz.f181]) ?_
  simp only [Tryz.f181]
  have d1 := cv (implIsSchema_r c hl)
  simp only [Ag, cells_Sch, List.map_cons, List.map_nil] at d1
  repeat' first|refine W_seq ?_|refine W_block ?_|refine W_skip ?_|refine W_ret ?_|refine W_exit ?_|refine xb_hit ?_|refine xb_miss (by decide) ?_|(apply W_reg;(simp [Ag];exact .r _))
  refine W_loop (n := db.length) (fun n s => ∃ i : Nat, n = db.length - i ∧ s.nt = 40 ∧ s.tm 1 = Ar db ∧ s.tm 2 = .ptr 0 0 ∧ s.tm 7 = Ar db ∧ s.tm 8 = In db.length ∧ s.tm 9 = In i ∧ i ≤ db.length ∧ s.σ.ob 0 = .box [Ar c.arity] ∧ 1 ≤ s.σ.n ∧ dbOk c db 0 = dbOk c db i) ⟨0, by simp⟩ ?_
  rintro n ⟨nt, tm, σ⟩ ⟨i, rfl, hnt, h1, h2, h7, h8, h9, hi, hb0, hn, heq⟩
  simp only at hnt h1 h2 h7 h8 h9 hb0 hn
  subst hnt
  have n0 : ¬ (0 = σ.n) := by omega
  have n0' : ¬ (σ.n = 0) := by omega
  repeat' first|refine W_seq ?_|refine W_block ?_|refine W_skip ?_|refine W_ret ?_|refine W_exit ?_|refine xb_hit ?_|refine xb_miss (by decide) ?_|(apply W_reg;(simp [h1, h2, h7, h8, h9, hb0, hn];exact .r _))
  refine W_cond (by simp [h1, h2, h7, h8, h9, hb0, hn]; exact .r _) (fun hc => ?_) (fun hc => ?_)
  · have hil : i < db.length := by simpa using hc
    have d2 := cv (implIsFact_r c db[i] hl (ha _ (List.getElem_mem hil)))
    simp only [Ag, cells_Sch, cells_RA, List.map_cons, List.map_nil] at d2
    rw [dbOk_step hil] at heq
    cases e1 : isFact c db[i]
    · repeat' first|refine W_seq ?_|refine W_block ?_|refine W_skip ?_|refine W_ret ?_|refine W_exit ?_|refine xb_hit ?_|refine xb_miss (by decide) ?_|(apply W_reg;(simp [h1, h2, h7, h8, h9, hb0, hn, hil, d2, e1, n0, n0'];exact .r _))|(apply W_draw (id := 4) [0,0,3,7,15,31,63,127,255,255,767,2047,4095,255,16383,32767,65535,131071] rfl rfl; (· simp; exact .r _); (· simp [h1, h2, h7, h8, h9, hb0, hn, hil, d2, e1, n0, n0']; exact .r _); (· first|trivial|simp))
      refine W_cond (by simp [h1, h2, h7, h8, h9, hb0, hn]; exact .r _) (fun he => ?_) (fun he => ?_)
      · repeat' first|refine W_seq ?_|refine W_block ?_|refine W_skip ?_|refine W_ret ?_|refine W_exit ?_|refine xb_hit ?_|refine xb_miss (by decide) ?_|(apply W_reg;(simp [h1, h2, h7, h8, h9, hb0, hn];exact .r _))
        rw [isDb_of, heq, e1]; simp
      · cases he
    · cases i with
      | zero =>
        repeat' first|refine W_seq ?_|refine W_block ?_|refine W_skip ?_|refine W_ret ?_|refine W_exit ?_|refine xb_hit ?_|refine xb_miss (by decide) ?_|(apply W_reg;(simp [h1, h2, h7, h8, h9, hb0, hn, hil, d2, e1, n0, n0'];exact .r _))|(apply W_draw (id := 4) [0,0,3,7,15,31,63,127,255,255,767,2047,4095,255,16383,32767,65535,131071] rfl rfl; (· simp; exact .r _); (· simp [h1, h2, h7, h8, h9, hb0, hn, hil, d2, e1, n0, n0']; exact .r _); (· first|trivial|simp))
        refine W_cond (by simp [h1, h2, h7, h8, h9, hb0, hn]; exact .r _) (fun he => ?_) (fun he => ?_)
        · cases he
        · repeat' first|refine W_seq ?_|refine W_block ?_|refine W_skip ?_|refine W_ret ?_|refine W_exit ?_|refine xb_hit ?_|refine xb_miss (by decide) ?_|(apply W_reg;(simp [h1, h2, h7, h8, h9, hb0, hn];exact .r _))
          refine ⟨_, ?_, 1, rfl, rfl, ?_, ?_, ?_, ?_, ?_, by omega, ?_, ?_, by (rw [heq, e1]; simp)⟩
          all_goals first|assumption|(simp [h1, h2, h7, h8, h9, hb0, hn, n0, n0'];done)|(simp [h1, h2, h7, h8, h9, hb0, hn, n0, n0'];omega)|(simp [h1, h2, h7, h8, h9, hb0, hn, n0, n0'];exact wrap_succ (by omega))|omega
      | succ i =>
        have hi1 : i < db.length := by omega
        have d3 := cv (cmpF_r db[i] db[i + 1] (ha _ (List.getElem_mem hi1)))
        simp only [Ag, cells_RA, List.map_cons, List.map_nil] at d3
        have hw : IntKind.i64.wrap (i : Int) = (i : Int) := wrap_ok (by omega) (by omega)
        have hp : (0 : Int) < (i : Int) + 1 := by omega
        have h5 : (0 : Int) ≤ (i : Int) + 1 := by omega
        have h6 : ((i : Int) + 1).toNat = i + 1 := by omega
        repeat' first|refine W_seq ?_|refine W_block ?_|refine W_skip ?_|refine W_ret ?_|refine W_exit ?_|refine xb_hit ?_|refine xb_miss (by decide) ?_|(apply W_reg;(simp [h1, h2, h7, h8, h9, hb0, hn, hil, hi1, d2, e1, d3, hw, hp, h5, h6, n0, n0'];exact .r _))|(apply W_draw (id := 4) [0,0,3,7,15,31,63,127,255,255,767,2047,4095,255,16383,32767,65535,131071] rfl rfl; (· simp; exact .r _); (· simp [h1, h2, h7, h8, h9, hb0, hn, hil, hi1, d2, e1, d3, hw, hp, h5, h6, n0, n0']; exact .r _); (· first|trivial|simp))
        refine W_cond (by simp [h1, h2, h7, h8, h9, hb0, hn]; exact .r _) (fun he => ?_) (fun he => ?_)
        · repeat' first|refine W_seq ?_|refine W_block ?_|refine W_skip ?_|refine W_ret ?_|refine W_exit ?_|refine xb_hit ?_|refine xb_miss (by decide) ?_|(apply W_reg;(simp [h1, h2, h7, h8, h9, hb0, hn];exact .r _))
          have : ¬ cmpF db[i] db[i + 1] < 0 := by simp at he; omega
          rw [isDb_of, heq]; simp [this]
        · have : cmpF db[i] db[i + 1] < 0 := by simp at he; omega
          repeat' first|refine W_seq ?_|refine W_block ?_|refine W_skip ?_|refine W_ret ?_|refine W_exit ?_|refine xb_hit ?_|refine xb_miss (by decide) ?_|(apply W_reg;(simp [h1, h2, h7, h8, h9, hb0, hn];exact .r _))
          refine ⟨_, ?_, i + 1 + 1, rfl, rfl, ?_, ?_, ?_, ?_, by (simp [h9]; rw [wrap_ok (by omega) (by omega)]; omega), by omega, ?_, ?_, by (rw [heq, e1]; simp [this])⟩
          all_goals first|assumption|(simp [h1, h2, h7, h8, h9, hb0, hn, n0, n0'];done)|(simp [h1, h2, h7, h8, h9, hb0, hn, n0, n0'];omega)|(simp [h1, h2, h7, h8, h9, hb0, hn, n0, n0'];exact wrap_succ (by omega))|omega
  have hil : i = db.length := by simp at hc; omega
  subst hil
  rw [dbOk_end] at heq
  rw [isDb_of, heq]
  cases e : isSch c
  · repeat' first|refine W_seq ?_|refine W_block ?_|refine W_skip ?_|refine W_ret ?_|refine W_exit ?_|refine xb_hit ?_|refine xb_miss (by decide) ?_|(apply W_reg;(simp [h1, h2, h7, h8, h9, hb0, hn, d1, e];exact .r _))
    simp
  · repeat' first|refine W_seq ?_|refine W_block ?_|refine W_skip ?_|refine W_ret ?_|refine W_exit ?_|refine xb_hit ?_|refine xb_miss (by decide) ?_|(apply W_reg;(simp [h1, h2, h7, h8, h9, hb0, hn, d1, e];exact .r _))
    simp; omega
theorem specIsDb_r (c : Sch) (db : List RA) (hl : Sm c.arity) (hd : Sm db) (ha : ∀ a ∈ db, Sm a.args) : Ret XX 171 [Ag c, Ar db] (.t (.b (isDb c db)) false) := by
  refine ret_W rfl Tryz.func171 rfl rfl (by simp [Tryz.f171]) ?_
  simp only [Tryz.f171]
  have d1 := cv (specIsSchema_r c hl)
  simp only [Ag, cells_Sch, List.map_cons, List.map_nil] at d1
  repeat' first|refine W_seq ?_|refine W_block ?_|refine W_skip ?_|refine W_ret ?_|refine W_exit ?_|refine xb_hit ?_|refine xb_miss (by decide) ?_|(apply W_reg;(simp [Ag];exact .r _))
  refine W_loop (n := db.length) (fun n s => ∃ i : Nat, n = db.length - i ∧ s.nt = 43 ∧ s.tm 1 = Ar db ∧ s.tm 2 = .ptr 0 0 ∧ s.tm 5 = In i ∧ i ≤ db.length ∧ s.σ.ob 0 = .box [Ar c.arity] ∧ 1 ≤ s.σ.n ∧ dbOk c db 0 = dbOk c db i) ⟨0, by simp⟩ ?_
  rintro n ⟨nt, tm, σ⟩ ⟨i, rfl, hnt, h1, h2, h5, hi, hb0, hn, heq⟩
  simp only at hnt h1 h2 h5 hb0 hn
  subst hnt
  have n0 : ¬ (0 = σ.n) := by omega
  have n0' : ¬ (σ.n = 0) := by omega
  repeat' first|refine W_seq ?_|refine W_block ?_|refine W_skip ?_|refine W_ret ?_|refine W_exit ?_|refine xb_hit ?_|refine xb_miss (by decide) ?_|(apply W_reg;(simp [h1, h2, h5, hb0, hn];exact .r _))
  refine W_cond (by simp [h1, h2, h5, hb0, hn]; exact .r _) (fun hc => ?_) (fun hc => ?_)
  · have hil : i < db.length := by simpa using hc
    have d2 := cv (specIsFact_r c db[i] hl (ha _ (List.getElem_mem hil)))
    simp only [Ag, cells_Sch, cells_RA, List.map_cons, List.map_nil] at d2
    rw [dbOk_step hil] at heq
    cases e1 : isFact c db[i]
    · repeat' first|refine W_seq ?_|refine W_block ?_|refine W_skip ?_|refine W_ret ?_|refine W_exit ?_|refine xb_hit ?_|refine xb_miss (by decide) ?_|(apply W_reg;(simp [h1, h2, h5, hb0, hn, hil, d2, e1, n0, n0'];exact .r _))|(apply W_draw (id := 4) [0,0,0,6,14,31,63,127,255,511,1023,2047,2047,6143,16383,32767,2047,2047,198655,460799,1048575,2097151,4194303,8388607] rfl rfl; (· simp; exact .r _); (· simp [h1, h2, h5, hb0, hn, hil, d2, e1, n0, n0']; exact .r _); (· first|trivial|simp))
      refine W_cond (by simp [h1, h2, h5, hb0, hn]; exact .r _) (fun he => ?_) (fun he => ?_)
      · repeat' first|refine W_seq ?_|refine W_block ?_|refine W_skip ?_|refine W_ret ?_|refine W_exit ?_|refine xb_hit ?_|refine xb_miss (by decide) ?_|(apply W_reg;(simp [h1, h2, h5, hb0, hn];exact .r _))
        rw [isDb_of, heq, e1]; simp
      · cases he
    · cases i with
      | zero =>
        repeat' first|refine W_seq ?_|refine W_block ?_|refine W_skip ?_|refine W_ret ?_|refine W_exit ?_|refine xb_hit ?_|refine xb_miss (by decide) ?_|(apply W_reg;(simp [h1, h2, h5, hb0, hn, hil, d2, e1, n0, n0'];exact .r _))|(apply W_draw (id := 4) [0,0,0,6,14,31,63,127,255,511,1023,2047,2047,6143,16383,32767,2047,2047,198655,460799,1048575,2097151,4194303,8388607] rfl rfl; (· simp; exact .r _); (· simp [h1, h2, h5, hb0, hn, hil, d2, e1, n0, n0']; exact .r _); (· first|trivial|simp))
        refine W_cond (by simp [h1, h2, h5, hb0, hn]; exact .r _) (fun he => ?_) (fun he => ?_)
        · cases he
        · repeat' first|refine W_seq ?_|refine W_block ?_|refine W_skip ?_|refine W_ret ?_|refine W_exit ?_|refine xb_hit ?_|refine xb_miss (by decide) ?_|(apply W_reg;(simp [h1, h2, h5, hb0, hn];exact .r _))
          refine ⟨_, ?_, 1, rfl, rfl, ?_, ?_, ?_, by omega, ?_, ?_, by (rw [heq, e1]; simp)⟩
          all_goals first|assumption|(simp [h1, h2, h5, hb0, hn, n0, n0'];done)|(simp [h1, h2, h5, hb0, hn, n0, n0'];omega)|(simp [h1, h2, h5, hb0, hn, n0, n0'];exact wrap_succ (by omega))|omega
      | succ i =>
        have hi1 : i < db.length := by omega
        have d3 := cv (l5Less_r db[i] db[i + 1] (ha _ (List.getElem_mem hi1)))
        simp only [Ag, cells_RA, List.map_cons, List.map_nil] at d3
        have hw : IntKind.i64.wrap (i : Int) = (i : Int) := wrap_ok (by omega) (by omega)
        have hp : (0 : Int) < (i : Int) + 1 := by omega
        have h5' : (0 : Int) ≤ (i : Int) + 1 := by omega
        have h6 : ((i : Int) + 1).toNat = i + 1 := by omega
        repeat' first|refine W_seq ?_|refine W_block ?_|refine W_skip ?_|refine W_ret ?_|refine W_exit ?_|refine xb_hit ?_|refine xb_miss (by decide) ?_|(apply W_reg;(simp [h1, h2, h5, hb0, hn, hil, hi1, d2, e1, d3, hw, hp, h5', h6, n0, n0'];exact .r _))|(apply W_draw (id := 4) [0,0,0,6,14,31,63,127,255,511,1023,2047,2047,6143,16383,32767,2047,2047,198655,460799,1048575,2097151,4194303,8388607] rfl rfl; (· simp; exact .r _); (· simp [h1, h2, h5, hb0, hn, hil, hi1, d2, e1, d3, hw, hp, h5', h6, n0, n0']; exact .r _); (· first|trivial|simp))
        refine W_cond (by simp [h1, h2, h5, hb0, hn]; exact .r _) (fun he => ?_) (fun he => ?_)
        · repeat' first|refine W_seq ?_|refine W_block ?_|refine W_skip ?_|refine W_ret ?_|refine W_exit ?_|refine xb_hit ?_|refine xb_miss (by decide) ?_|(apply W_reg;(simp [h1, h2, h5, hb0, hn];exact .r _))
          have : ¬ cmpF db[i] db[i + 1] < 0 := by simp at he; omega
          rw [isDb_of, heq]; simp [this]
        · have : cmpF db[i] db[i + 1] < 0 := by simp at he; omega
          repeat' first|refine W_seq ?_|refine W_block ?_|refine W_skip ?_|refine W_ret ?_|refine W_exit ?_|refine xb_hit ?_|refine xb_miss (by decide) ?_|(apply W_reg;(simp [h1, h2, h5, hb0, hn];exact .r _))
          refine ⟨_, ?_, i + 1 + 1, rfl, rfl, ?_, ?_, by (simp [h5]; rw [wrap_ok (by omega) (by omega)]; omega), by omega, ?_, ?_, by (rw [heq, e1]; simp [this])⟩
          all_goals first|assumption|(simp [h1, h2, h5, hb0, hn, n0, n0'];done)|(simp [h1, h2, h5, hb0, hn, n0, n0'];omega)|(simp [h1, h2, h5, hb0, hn, n0, n0'];exact wrap_succ (by omega))|omega
  have hil : i = db.length := by simp at hc; omega
  subst hil
  rw [dbOk_end] at heq
  rw [isDb_of, heq]
  cases e : isSch c
  · repeat' first|refine W_seq ?_|refine W_block ?_|refine W_skip ?_|refine W_ret ?_|refine W_exit ?_|refine xb_hit ?_|refine xb_miss (by decide) ?_|(apply W_reg;(simp [h1, h2, h5, hb0, hn, d1, e];exact .r _))
    simp
  · repeat' first|refine W_seq ?_|refine W_block ?_|refine W_skip ?_|refine W_ret ?_|refine W_exit ?_|refine xb_hit ?_|refine xb_miss (by decide) ?_|(apply W_reg;(simp [h1, h2, h5, hb0, hn, d1, e];exact .r _))
    simp; omega
end Go.Proofs.YtmfifjbbjjdacaaGreat.V

namespace Go.Proofs.YtmfifjbbjjdacaaGreat.V
open Go Go.Proofs
set_option linter.unusedVariables false
set_option linter.unusedSimpArgs false
/-- A binding's cells: the values, then which of them are bound. -/
def tB (b : Bnd) : List T := b.map (fun o => T.i .i64 (o.getD 0)) ++ b.map fun o => T.b o.isSome
def cB (b : Bnd) : List AV := (tB b).map .t
theorem tB_len {b : Bnd} (h : b.length = 20) : (tB b).length = 40 := by simp [tB, h]
theorem cB_len {b : Bnd} (h : b.length = 20) : (cB b).length = 40 := by simp [cB, tB, h]
theorem cB_one (b : Bnd) : (cB b).all AV.one = true := by simp [cB, AV.one]
theorem cB_take {b : Bnd} (h : b.length = 20) : (cB b).take 40 = cB b := by rw [List.take_of_length_le]; rw [cB_len h]; exact Nat.le_refl _
theorem cB_clean (b : Bnd) (n : Nat) : (cB b).all (cleanA n) = true := by simp [cB, cleanA, clean1]
theorem tB_flat (b : Bnd) : ∀ x ∈ tB b, x.flat = true ∧ x.nz = x := by
  intro x hx
  simp only [tB, List.mem_append, List.mem_map] at hx
  rcases hx with ⟨o, _, rfl⟩ | ⟨o, _, rfl⟩ <;> exact ⟨rfl, rfl⟩
theorem mapM_re {σ : Sto} : ∀ {l : List T}, (∀ x ∈ l, x.flat = true ∧ x.nz = x) → (l.map AV.t).mapM (reify1 σ) = some l
  | [], _ => rfl
  | x :: l, h => by
    have e : reify1 σ (.t x) = some x := by show some x.nz = some x; rw [(h x (by simp)).2]
    rw [List.map_cons, List.mapM_cons, e, mapM_re fun y hy => h y (List.mem_cons_of_mem _ hy)]
    rfl
theorem cB_re (b : Bnd) (σ : Sto) : (cB b).mapM (reify1 σ) = some (tB b) := mapM_re (tB_flat b)
theorem expL_flat {σ : Sto} : ∀ {l : List T}, (∀ x ∈ l, x.flat = true ∧ x.nz = x) → expL σ (l.map AV.t) = some (l.map fun x => XV.t x false, σ)
  | [], _ => rfl
  | x :: l, h => by
    have h1 := h x (by simp)
    have e : exp1 σ (.t x) = some (XV.t x false, σ) := by
      simp only [exp1, h1.2]
      cases x with
      | sl => cases h1.1
      | _ => rfl
    simp only [List.map_cons, expL, e, expL_flat fun y hy => h y (List.mem_cons_of_mem _ hy)]
theorem cB_exp (b : Bnd) (σ : Sto) : expL σ (cB b) = some ((tB b).map fun x => XV.t x false, σ) := expL_flat (tB_flat b)
theorem placeL_flat (c : Sto) : ∀ (l : List T), placeL c (l.map fun x => XV.t x false) = (l.map .t, c)
  | [] => rfl
  | x :: l => by simp only [List.map_cons, placeL, place1, placeL_flat c l]
theorem cB_place (b : Bnd) (c : Sto) : placeL c ((tB b).map fun x => XV.t x false) = (cB b, c) := placeL_flat c _
theorem cB_sh (b : Bnd) : ((tB b).map fun x => XV.t x false).any XV.sh1 = false := by simp [XV.sh1]
theorem getB_lt {b : Bnd} {t : Int} (h : t.toNat < b.length) : getB b t = b[t.toNat] := by simp [getB, h]
theorem tB_val {b : Bnd} {n : Nat} (h : n < b.length) : (tB b)[n]? = some (T.i .i64 ((b[n]).getD 0)) := by
  simp [tB, List.getElem?_append_left, h]
theorem tB_flag {b : Bnd} {n : Nat} (h : n < b.length) (hb : b.length = 20) : (tB b)[20 + n]? = some (T.b (b[n]).isSome) := by
  rw [tB, List.getElem?_append_right (by simp; omega)]
  simp [hb, h]
  exact ⟨b[n], by simp [h], rfl⟩
theorem take_one {α : Type} {l : List α} {n : Nat} {x : α} (h : l[n]? = some x) : (l.drop n).take 1 = [x] := by
  obtain ⟨hn, rfl⟩ := List.getElem?_eq_some_iff.1 h
  rw [List.drop_eq_getElem_cons hn]; rfl
theorem cB_flag {b : Bnd} {n : Nat} (h : n < b.length) (hb : b.length = 20) : ((cB b).drop (20 + n)).take 1 = [Bo (b[n]).isSome] := take_one (by rw [cB, List.getElem?_map, tB_flag h hb]; rfl)
theorem tBd_val {b : Bnd} {n : Nat} (h : n < b.length) : ((tB b).drop n).take 1 = [T.i .i64 ((b[n]).getD 0)] := take_one (tB_val h)
theorem putL_set {cs : List AV} {n : Nat} {x : AV} (h : n < cs.length) : cs.take n ++ x :: cs.drop (n + 1) = cs.set n x := by
  rw [List.set_eq_take_append_cons_drop, if_pos h]
theorem cB_set {b : Bnd} {n : Nat} {v : Int} (h : n < b.length) (hb : b.length = 20) : ((cB b).set (20 + n) (Bo true)).set n (In v) = cB (b.set n (some v)) := by
  unfold cB tB
  rw [List.map_append, List.set_append_right _ _ (by simp; omega), List.set_append_left _ _ (by simpa using h), List.map_append]
  have e : 20 + n - (List.map AV.t (List.map (fun o : Option Int => T.i .i64 (o.getD 0)) b)).length = n := by simp; omega
  rw [e]
  congr 1
  · simp only [List.map_map, List.map_set]; rfl
  · simp only [List.map_map, List.map_set]; rfl
/-- The value of a term under a binding. -/
def valI (b : Bnd) (t : Int) : Int := if isVar t then (getB b t).getD 0 else constOf t
theorem valI_eq {b : Bnd} {t : Int} (h : isTerm t = true) : valI b t = valB b t := by
  unfold valI valB
  have h1 := isTerm_iff.1 h
  by_cases h0 : t < 0
  · have e : isVar t = false := by
      cases hv : isVar t with
      | false => rfl
      | true => have := (isVar_iff.1 hv).1; omega
    rw [e, if_neg (by simp), if_pos h0, constOf, e, h]; rfl
  · rw [if_pos (isVar_iff.2 ⟨by omega, h1.2⟩), if_neg h0]
theorem valueOf_r (b : Bnd) (hb : b.length = 20) (t : Int) : Ret XX 265 [.fptr (tB b), In t] (.t (.i .i64 (valI b t)) false) := by
  refine ret_W rfl Tryz.func265 rfl rfl (by simp [Tryz.f265]) ?_
  simp only [Tryz.f265]
  have c1 := cv (implIsVar_r t)
  have c2 := cv (implConstOf_r t)
  repeat' first|refine W_seq ?_|refine W_block ?_|refine W_skip ?_|refine W_ret ?_|refine W_exit ?_|refine xb_hit ?_|refine xb_miss (by decide) ?_|(apply W_reg;(simp [c1];exact .r _))
  cases e : isVar t
  · refine W_cond (by simp; exact .r _) (fun hc => ?_) (fun hc => ?_)
    · cases hc
    repeat' first|refine W_seq ?_|refine W_block ?_|refine W_skip ?_|refine W_ret ?_|refine W_exit ?_|refine xb_hit ?_|refine xb_miss (by decide) ?_|(apply W_reg;(simp [c2];exact .r _))
    simp [valI, e]
  · have h1 := isVar_iff.1 e
    have ht : t.toNat < b.length := by omega
    have h40 := tB_len hb
    have hv := tBd_val (b := b) (n := t.toNat) ht
    have hg := getB_lt ht
    refine W_cond (by simp; exact .r _) (fun hc => ?_) (fun hc => ?_)
    · repeat' first|refine W_seq ?_|refine W_block ?_|refine W_skip ?_|refine W_ret ?_|refine W_exit ?_|refine xb_hit ?_|refine xb_miss (by decide) ?_|(apply W_reg;(simp [h1.1, h40, hv, show t.toNat < 20 by omega, show t.toNat < 40 by omega, show 1 ≤ 40 - t.toNat by omega];exact .r _))
      simp [valI, e, hg]
    · cases hc
theorem tuple_r (b : Bnd) (hb : b.length = 20) (l : List Int) (hl : Sm l) : Ret XX 184 [.fptr (tB b), Ar l] (.own 1 (rowsE (l.map (valI b)))) := by
  refine ret_W rfl Tryz.func184 rfl rfl (by simp [Tryz.f184]) ?_
  simp only [Tryz.f184]
  repeat' first|refine W_seq ?_|refine W_block ?_|refine W_skip ?_|refine W_ret ?_|refine W_exit ?_|refine xb_hit ?_|refine xb_miss (by decide) ?_|(apply W_reg;(simp;exact .r _))
  refine W_loop (n := l.length) (fun n s => ∃ i : Nat, n = l.length - i ∧ s.nt = 23 ∧ s.tm 0 = .fptr (tB b) ∧ s.tm 5 = .ref 0 i [] ∧ s.tm 9 = Ar l ∧ s.tm 10 = In l.length ∧ s.tm 11 = In i ∧ i ≤ l.length ∧ s.σ.ob 0 = .arr (.own 0) 0 1 (rowsE ((l.map (valI b)).take i)) ∧ 1 ≤ s.σ.n) ⟨0, by simp⟩ ?_
  rintro n ⟨nt, tm, σ⟩ ⟨i, rfl, hnt, h0, h5, h9, h10, h11, hi, ho, hn⟩
  simp only at hnt h0 h5 h9 h10 h11 ho hn
  subst hnt
  have n0 : ¬ (0 = σ.n) := by omega
  have n0' : ¬ (σ.n = 0) := by omega
  repeat' first|refine W_seq ?_|refine W_block ?_|refine W_skip ?_|refine W_ret ?_|refine W_exit ?_|refine xb_hit ?_|refine xb_miss (by decide) ?_|(apply W_reg;(simp [h0, h5, h9, h10, h11, ho, hn];exact .r _))
  refine W_cond (by simp [h0, h5, h9, h10, h11, ho, hn]; exact .r _) (fun hc => ?_) (fun hc => ?_)
  · have hil : i < l.length := by simpa using hc
    have c1 := cv (valueOf_r b hb l[i])
    have hmin : min i l.length = i := by omega
    repeat' first|refine W_seq ?_|refine W_block ?_|refine W_skip ?_|refine W_ret ?_|refine W_exit ?_|refine xb_hit ?_|refine xb_miss (by decide) ?_|(apply W_reg;(simp [h0, h5, h9, h10, h11, ho, hn, hil, c1, n0, n0', hmin, show i + 1 < 1099511627776 by omega];exact .r _))
    refine ⟨_, ?_, i + 1, rfl, rfl, ?_, ?_, ?_, ?_, ?_, by omega, by (simp [n0, n0']; rw [rowsE_take (l.map (valI b)) i (by simpa using hil)]; simp), ?_⟩
    all_goals first|assumption|(simp [h0, h5, h9, h10, h11, ho, hn, n0, n0'];done)|(simp [h0, h5, h9, h10, h11, ho, hn, n0, n0'];omega)|(simp [h0, h5, h9, h10, h11, ho, hn, n0, n0'];exact wrap_succ (by omega))|omega
  have hil : i = l.length := by simp at hc; omega
  subst hil
  rw [List.take_of_length_le (by simp)] at ho
  repeat' first|refine W_seq ?_|refine W_block ?_|refine W_skip ?_|refine W_ret ?_|refine W_exit ?_|refine xb_hit ?_|refine xb_miss (by decide) ?_|(apply W_reg;(simp [h0, h5, h9, h10, h11, ho, hn];exact .r _))
  simp [ho]
/-- How the program matches: how far it came, and whether it came to the end. -/
def mtch2 : List Int → List Int → Bnd → Bnd × Bool
  | t :: ts, v :: vs, b => if isVar t && !(getB b t).isSome then mtch2 ts vs (b.set t.toNat (some v)) else if valI b t = v then mtch2 ts vs b else (b, false)
  | _, _, b => (b, true)
theorem mtch2_eq : ∀ (ts vs : List Int) (b : Bnd), (∀ t ∈ ts, isTerm t = true) → mtch ts vs b = if (mtch2 ts vs b).2 then some (mtch2 ts vs b).1 else none
  | [], vs, b, _ => by cases vs <;> simp [mtch, mtch2]
  | t :: ts, [], b, _ => by simp [mtch, mtch2]
  | t :: ts, v :: vs, b, h => by
    have ht := h t (by simp)
    have hts : ∀ t ∈ ts, isTerm t = true := fun u hu => h u (List.mem_cons_of_mem _ hu)
    have ih := fun b => mtch2_eq ts vs b hts
    have h1 := isTerm_iff.1 ht
    unfold mtch mtch2
    by_cases h0 : t < 0
    · have e : isVar t = false := by
        cases hv : isVar t with
        | false => rfl
        | true => have := (isVar_iff.1 hv).1; omega
      rw [if_pos h0, e, valI_eq ht, valB, if_pos h0]
      simp only [Bool.false_and, Bool.false_eq_true, if_false]
      split
      · exact ih b
      · rfl
    · have e : isVar t = true := isVar_iff.2 ⟨by omega, h1.2⟩
      rw [if_neg h0, e, valI_eq ht, valB, if_neg h0]
      cases hg : getB b t with
      | none => simp only [Option.isSome_none, Bool.not_false, Bool.and_true, if_true]; exact ih _
      | some x =>
        simp only [Option.isSome_some, Bool.not_true, Bool.and_false, Bool.false_eq_true, if_false, Option.getD_some]
        split
        · exact ih b
        · rfl
theorem match_r (b : Bnd) (hb : b.length = 20) (a f : RA) (ha : a.args.length ≤ 1000) (hf : f.args.length ≤ 1099511627774) : ∃ b', b'.length = 20 ∧ (∀ c, mtchA a f b = some c → (∀ t ∈ a.args, isTerm t = true) → b' = c) ∧
    Ret XX 264 [.agg (cB b), Ag a, Ag f] (.tup [.agg ((tB b').map fun x => XV.t x false), .t (.b (decide (a.rel = f.rel ∧ a.args.length = f.args.length) && (mtch2 a.args f.args b).2)) false]) := by
  by_cases hr : a.rel = f.rel ∧ a.args.length = f.args.length
  case neg =>
    refine ⟨b, hb, fun c h _ => (by unfold mtchA at h; rw [if_neg hr] at h; cases h), ?_⟩
    have h40 := cB_len hb
    have ho := cB_one b
    have htk := cB_take hb
    refine ret_W rfl Tryz.func264 rfl rfl (by simp [Tryz.f264]) ?_
    simp only [Tryz.f264]
    by_cases h1 : a.rel = f.rel
    · have h2 : ¬ a.args.length = f.args.length := fun e => hr ⟨h1, e⟩
      have h2' : ¬ (a.args.length : Int) = f.args.length := by omega
      repeat' first|refine W_seq ?_|refine W_block ?_|refine W_skip ?_|refine W_ret ?_|refine W_exit ?_|refine xb_hit ?_|refine xb_miss (by decide) ?_|(apply W_reg;(simp [Ag, ho, h1, h2, h2', h40, htk];exact .r _))
      refine W_cond (by simp; exact .r _) (fun hc => ?_) (fun hc => ?_)
      · repeat' first|refine W_seq ?_|refine W_block ?_|refine W_skip ?_|refine W_ret ?_|refine W_exit ?_|refine xb_hit ?_|refine xb_miss (by decide) ?_|(apply W_reg;(simp [ho, h40, htk];exact .r _))
        simp [h40, htk, cB_exp, hr, h2]
      · cases hc
    · repeat' first|refine W_seq ?_|refine W_block ?_|refine W_skip ?_|refine W_ret ?_|refine W_exit ?_|refine xb_hit ?_|refine xb_miss (by decide) ?_|(apply W_reg;(simp [Ag, ho, h1, h40, htk];exact .r _))
      refine W_cond (by simp; exact .r _) (fun hc => ?_) (fun hc => ?_)
      · repeat' first|refine W_seq ?_|refine W_block ?_|refine W_skip ?_|refine W_ret ?_|refine W_exit ?_|refine xb_hit ?_|refine xb_miss (by decide) ?_|(apply W_reg;(simp [ho, h40, htk];exact .r _))
        simp [h40, htk, cB_exp, h1]
      · cases hc
  have hl : a.args.length = f.args.length := hr.2
  have hfin : ∃ b', (mtch2 a.args f.args b).1 = b' := ⟨_, rfl⟩
  have hlen : ∀ (ts vs : List Int) (b : Bnd), (mtch2 ts vs b).1.length = b.length := by
    intro ts
    induction ts with
    | nil => intro vs b; cases vs <;> rfl
    | cons t ts ih =>
      intro vs b
      cases vs with
      | nil => rfl
      | cons v vs =>
        unfold mtch2
        split
        · rw [ih]; simp
        · split
          · exact ih vs b
          · rfl
  refine ⟨(mtch2 a.args f.args b).1, by rw [hlen]; exact hb, fun c h ht => ?_, ?_⟩
  · unfold mtchA at h
    rw [if_pos hr, mtch2_eq _ _ _ ht] at h
    split at h
    · exact Option.some.inj h
    · cases h
  have h40 := cB_len hb
  have ho := cB_one b
  have htk := cB_take hb
  refine ret_W rfl Tryz.func264 rfl rfl (by simp [Tryz.f264]) ?_
  simp only [Tryz.f264]
  repeat' first|refine W_seq ?_|refine W_block ?_|refine W_skip ?_|refine W_ret ?_|refine W_exit ?_|refine xb_hit ?_|refine xb_miss (by decide) ?_|(apply W_reg;(simp [Ag, ho, hr.1, hl, h40, htk];exact .r _))
  refine W_cond (by simp; exact .r _) (fun hc => ?_) (fun hc => ?_)
  · cases hc
  repeat' first|refine W_seq ?_|refine W_block ?_|refine W_skip ?_|refine W_ret ?_|refine W_exit ?_|refine xb_hit ?_|refine xb_miss (by decide) ?_|(apply W_reg;(simp [Ag, ho];exact .r _))
  have z40 : ∀ l : List AV, l.length = 40 → l.drop 40 = [] := fun l h => List.drop_eq_nil_of_le (by omega)
  refine W_loop (n := a.args.length) (fun n s => ∃ i : Nat, ∃ c : Bnd, ∃ z : List AV, n = a.args.length - i ∧ s.nt = 64 ∧ s.tm 3 = .ptr 0 0 ∧ s.tm 5 = .ptr 2 0 ∧ s.tm 6 = .ptr 3 0 ∧ s.tm 26 = Ar a.args ∧ s.tm 27 = In a.args.length ∧ s.tm 28 = In i ∧ i ≤ a.args.length ∧ c.length = 20 ∧ s.σ.ob 0 = .box (cB c) ∧ s.σ.ob 2 = .box [In f.rel, Ar f.args] ∧ s.σ.ob 3 = .box z ∧ z.length = 40 ∧ mtch2 a.args f.args b = mtch2 (a.args.drop i) (f.args.drop i) c) ⟨0, b, cB b0, by simp [hb]; exact ⟨rfl, rfl⟩⟩ ?_
  rintro n ⟨nt, tm, σ⟩ ⟨i, c, z, rfl, hnt, h3, h5, h6, h26, h27, h28, hi, hcl, hb0, hb2, hb3, hz, heq⟩
  simp only at hnt h3 h5 h6 h26 h27 h28 hb0 hb2 hb3
  subst hnt
  repeat' first|refine W_seq ?_|refine W_block ?_|refine W_skip ?_|refine W_ret ?_|refine W_exit ?_|refine xb_hit ?_|refine xb_miss (by decide) ?_|(apply W_reg;(simp [h3, h5, h6, h26, h27, h28, hb0, hb2, hb3];exact .r _))
  have k40 := cB_len hcl
  have ko := cB_one c
  have ktk := cB_take hcl
  have zd := z40 z hz
  refine W_cond (by simp [h3, h5, h6, h26, h27, h28, hb0, hb2, hb3]; exact .r _) (fun hc => ?_) (fun hc => ?_)
  · have hil : i < a.args.length := by simpa using hc
    have hfl : i < f.args.length := by omega
    have c1 := cv (implIsVar_r a.args[i])
    rw [List.drop_eq_getElem_cons hil, List.drop_eq_getElem_cons hfl, mtch2] at heq
    by_cases e1 : isVar a.args[i] = true ∧ (getB c a.args[i]).isSome = false
    · have hv := isVar_iff.1 e1.1
      have htl : a.args[i].toNat < c.length := by omega
      have hg := getB_lt htl
      have fl := cB_flag htl hcl
      have e2 : c[a.args[i].toNat].isSome = false := by rw [← hg]; exact e1.2
      rw [e1.1, e1.2, if_pos (by rfl)] at heq
      repeat' first|refine W_seq ?_|refine W_block ?_|refine W_skip ?_|refine W_ret ?_|refine W_exit ?_|refine xb_hit ?_|refine xb_miss (by decide) ?_|(apply W_reg;(simp [h3, h5, h6, h26, h27, h28, hb0, hb2, hb3, hil, c1, e1.1, hv.1, k40, fl, e2, show a.args[i].toNat < 20 by omega, show 20 + a.args[i].toNat + 1 ≤ 40 by omega, show 20 + a.args[i].toNat < 40 by omega, show 20 + (a.args[i].toNat + 1) ≤ 40 by omega];exact .r _))
      refine W_cond (by simp [h3, h5, h6, h26, h27, h28, hb0, hb2, hb3]; exact .r _) (fun hd => ?_) (fun hd => ?_)
      · have hs1 : ∀ x : AV, List.take (20 + a.args[i].toNat) (cB c) ++ x :: List.drop (20 + (a.args[i].toNat + 1)) (cB c) = (cB c).set (20 + a.args[i].toNat) x := fun x => putL_set (by omega)
        have hs2 : ∀ x y : AV, List.take a.args[i].toNat ((cB c).set (20 + a.args[i].toNat) y) ++ x :: List.drop (a.args[i].toNat + 1) ((cB c).set (20 + a.args[i].toNat) y) = ((cB c).set (20 + a.args[i].toNat) y).set a.args[i].toNat x := fun x y => putL_set (by simp; omega)
        have hs3 := cB_set (v := f.args[i]) htl hcl
        repeat' first|refine W_seq ?_|refine W_block ?_|refine W_skip ?_|refine W_ret ?_|refine W_exit ?_|refine xb_hit ?_|refine xb_miss (by decide) ?_|(apply W_reg;(simp [h3, h5, h6, h26, h27, h28, hb0, hb2, hb3, hil, hfl, hv.1, k40, hs1, hs2, hs3, show a.args[i].toNat < 20 by omega, show 20 + (a.args[i].toNat + 1) ≤ 40 by omega, show a.args[i].toNat + 1 ≤ 40 by omega, show a.args[i].toNat < 40 by omega, show 20 + a.args[i].toNat < 40 by omega];exact .r _))
        refine ⟨_, ?_, i + 1, c.set a.args[i].toNat (some f.args[i]), z, rfl, rfl, ?_, ?_, ?_, ?_, ?_, ?_, by omega, by simpa using hcl, ?_, ?_, ?_, hz, heq⟩
        all_goals first|assumption|(simp [h3, h5, h6, h26, h27, h28, hb0, hb2, hb3, hs1, hs2, hs3];done)|(simp [h3, h5, h6, h26, h27, h28, hb0, hb2, hb3, hs1, hs2, hs3];omega)|(simp [h3, h5, h6, h26, h27, h28, hb0, hb2, hb3, hs1, hs2, hs3];exact wrap_succ (by omega))|omega
      · cases hd
    · have e1' : (isVar a.args[i] && !(getB c a.args[i]).isSome) = false := by
        cases ea : isVar a.args[i] with
        | false => rfl
        | true =>
          cases eb : (getB c a.args[i]).isSome with
          | true => rfl
          | false => exact absurd ⟨ea, eb⟩ e1
      rw [e1', if_neg (by simp)] at heq
      have c2 := cv (valueOf_r c hcl a.args[i])
      have kre := cB_re c
      cases ea : isVar a.args[i]
      · repeat' first|refine W_seq ?_|refine W_block ?_|refine W_skip ?_|refine W_ret ?_|refine W_exit ?_|refine xb_hit ?_|refine xb_miss (by decide) ?_|(apply W_reg;(simp [h3, h5, h6, h26, h27, h28, hb0, hb2, hb3, hil, c1, ea];exact .r _))
        refine W_cond (by simp [h3, h5, h6, h26, h27, h28, hb0, hb2, hb3]; exact .r _) (fun hd => ?_) (fun hd => ?_)
        · cases hd
        repeat' first|refine W_seq ?_|refine W_block ?_|refine W_skip ?_|refine W_ret ?_|refine W_exit ?_|refine xb_hit ?_|refine xb_miss (by decide) ?_|(apply W_reg;(simp [h3, h5, h6, h26, h27, h28, hb0, hb2, hb3, hil, hfl, c2, kre, k40];exact .r _))|(apply W_draw (id := 9) [0,1,0,4,0,28,60,127] rfl rfl; (· simp; exact .r _); (· simp [h3, h5, h6, h26, h27, h28, hb0, hb2, hb3, hil, hfl, c2, kre, k40]; exact .r _); (· first|trivial|simp))
        refine W_cond (by simp [h3, h5, h6, h26, h27, h28, hb0, hb2, hb3]; exact .r _) (fun hg => ?_) (fun hg => ?_)
        · have hne : ¬ valI c a.args[i] = f.args[i] := by simpa using hg
          rw [if_neg hne] at heq
          repeat' first|refine W_seq ?_|refine W_block ?_|refine W_skip ?_|refine W_ret ?_|refine W_exit ?_|refine xb_hit ?_|refine xb_miss (by decide) ?_|(apply W_reg;(simp [h3, h5, h6, h26, h27, h28, hb0, hb2, hb3, ko, k40, ktk, zd, hz];exact .r _))
          simp [h6, hb3, k40, ktk, heq, cB_exp, hr.1, hl]
        · have hne : valI c a.args[i] = f.args[i] := by simpa using hg
          rw [if_pos hne] at heq
          repeat' first|refine W_seq ?_|refine W_block ?_|refine W_skip ?_|refine W_ret ?_|refine W_exit ?_|refine xb_hit ?_|refine xb_miss (by decide) ?_|(apply W_reg;(simp [h3, h5, h6, h26, h27, h28, hb0, hb2, hb3];exact .r _))
          refine ⟨_, ?_, i + 1, c, z, rfl, rfl, ?_, ?_, ?_, ?_, ?_, ?_, by omega, hcl, ?_, ?_, ?_, hz, heq⟩
          all_goals first|assumption|(simp [h3, h5, h6, h26, h27, h28, hb0, hb2, hb3];done)|(simp [h3, h5, h6, h26, h27, h28, hb0, hb2, hb3];omega)|(simp [h3, h5, h6, h26, h27, h28, hb0, hb2, hb3];exact wrap_succ (by omega))|omega
      · have hv := isVar_iff.1 ea
        have htl : a.args[i].toNat < c.length := by omega
        have hgb := getB_lt htl
        have fl := cB_flag htl hcl
        have e2 : c[a.args[i].toNat].isSome = true := by
          rw [← hgb]
          cases eb : (getB c a.args[i]).isSome with
          | true => rfl
          | false => exact absurd ⟨ea, eb⟩ e1
        repeat' first|refine W_seq ?_|refine W_block ?_|refine W_skip ?_|refine W_ret ?_|refine W_exit ?_|refine xb_hit ?_|refine xb_miss (by decide) ?_|(apply W_reg;(simp [h3, h5, h6, h26, h27, h28, hb0, hb2, hb3, hil, c1, ea, hv.1, k40, fl, e2, show a.args[i].toNat < 20 by omega, show 20 + a.args[i].toNat + 1 ≤ 40 by omega, show 20 + a.args[i].toNat < 40 by omega, show 20 + (a.args[i].toNat + 1) ≤ 40 by omega];exact .r _))
        refine W_cond (by simp [h3, h5, h6, h26, h27, h28, hb0, hb2, hb3]; exact .r _) (fun hd => ?_) (fun hd => ?_)
        · cases hd
        repeat' first|refine W_seq ?_|refine W_block ?_|refine W_skip ?_|refine W_ret ?_|refine W_exit ?_|refine xb_hit ?_|refine xb_miss (by decide) ?_|(apply W_reg;(simp [h3, h5, h6, h26, h27, h28, hb0, hb2, hb3, hil, hfl, c2, kre, k40];exact .r _))|(apply W_draw (id := 9) [0,1,0,4,0,28,60,127] rfl rfl; (· simp; exact .r _); (· simp [h3, h5, h6, h26, h27, h28, hb0, hb2, hb3, hil, hfl, c2, kre, k40]; exact .r _); (· first|trivial|simp))
        refine W_cond (by simp [h3, h5, h6, h26, h27, h28, hb0, hb2, hb3]; exact .r _) (fun hg => ?_) (fun hg => ?_)
        · have hne : ¬ valI c a.args[i] = f.args[i] := by simpa using hg
          rw [if_neg hne] at heq
          repeat' first|refine W_seq ?_|refine W_block ?_|refine W_skip ?_|refine W_ret ?_|refine W_exit ?_|refine xb_hit ?_|refine xb_miss (by decide) ?_|(apply W_reg;(simp [h3, h5, h6, h26, h27, h28, hb0, hb2, hb3, ko, k40, ktk, zd, hz];exact .r _))
          simp [h6, hb3, k40, ktk, heq, cB_exp, hr.1, hl]
        · have hne : valI c a.args[i] = f.args[i] := by simpa using hg
          rw [if_pos hne] at heq
          repeat' first|refine W_seq ?_|refine W_block ?_|refine W_skip ?_|refine W_ret ?_|refine W_exit ?_|refine xb_hit ?_|refine xb_miss (by decide) ?_|(apply W_reg;(simp [h3, h5, h6, h26, h27, h28, hb0, hb2, hb3];exact .r _))
          refine ⟨_, ?_, i + 1, c, z, rfl, rfl, ?_, ?_, ?_, ?_, ?_, ?_, by omega, hcl, ?_, ?_, ?_, hz, heq⟩
          all_goals first|assumption|(simp [h3, h5, h6, h26, h27, h28, hb0, hb2, hb3];done)|(simp [h3, h5, h6, h26, h27, h28, hb0, hb2, hb3];omega)|(simp [h3, h5, h6, h26, h27, h28, hb0, hb2, hb3];exact wrap_succ (by omega))|omega
  have hil : i = a.args.length := by simp at hc; omega
  subst hil
  rw [List.drop_length, hl, List.drop_length] at heq
  have heq2 : mtch2 a.args f.args b = (c, true) := heq
  repeat' first|refine W_seq ?_|refine W_block ?_|refine W_skip ?_|refine W_ret ?_|refine W_exit ?_|refine xb_hit ?_|refine xb_miss (by decide) ?_|(apply W_reg;(simp [h3, h5, h6, h26, h27, h28, hb0, hb2, hb3, ko, k40, ktk, zd, hz];exact .r _))
  simp [h6, hb3, k40, ktk, heq2, cB_exp, hr.1, hl]
end Go.Proofs.YtmfifjbbjjdacaaGreat.V

namespace Go.Proofs.YtmfifjbbjjdacaaGreat.V
open Go Go.Proofs
set_option linter.unusedVariables false
set_option linter.unusedSimpArgs false
theorem W_gen {P : Program} {M : Nat → Bool} {G : Giv} {c : Code} {nt : Nat} {tm : Nat → AV} {σ : Sto} {N : VS → Prop} {X : Nat → VS → Prop} {K : VS → Prop} (Q : Sto → Prop) (h : Q σ) (hw : ∀ σ2, Q σ2 → W P M G c ⟨nt, tm, σ2⟩ N X K) : W P M G c ⟨nt, tm, σ⟩ N X K := hw σ h
theorem clean1_mono {n m : Nat} (h : n ≤ m) : ∀ {a : AV}, clean1 n a = true → clean1 m a = true := by
  intro a ha
  cases a with
  | ref o v p => simp only [clean1, decide_eq_true_eq] at ha ⊢; omega
  | ptr o v => simp only [clean1, decide_eq_true_eq] at ha ⊢; omega
  | eptr o v p i j => simp only [clean1, decide_eq_true_eq] at ha ⊢; omega
  | clo f c => cases ha
  | agg c => cases ha
  | tup c => cases ha
  | _ => rfl
theorem cleanA_mono {n m : Nat} (h : n ≤ m) {a : AV} (ha : cleanA n a = true) : cleanA m a = true := by
  cases a with
  | clo f l => simp only [cleanA, List.all_eq_true] at ha ⊢; exact fun x hx => clean1_mono h (ha x hx)
  | agg l => simp only [cleanA, List.all_eq_true] at ha ⊢; exact fun x hx => clean1_mono h (ha x hx)
  | tup l => cases ha
  | t x => rfl
  | ref o v p => exact clean1_mono h (a := .ref o v p) ha
  | ptr o v => exact clean1_mono h (a := .ptr o v) ha
  | eptr o v p i j => exact clean1_mono h (a := .eptr o v p i j) ha
  | _ => rfl
theorem clean_mono {n m : Nat} (h : n ≤ m) {x : VO} (hx : x.clean n = true) : x.clean m = true := by
  cases x with
  | box cs => simp only [VO.clean, List.all_eq_true] at hx ⊢; exact fun a ha => cleanA_mono h (hx a ha)
  | _ => rfl
/-- Over the caller's store: a call that answers nothing; what it made is forgotten. -/
theorem callV_cut {M : Nat → Bool} {X : Ora} {σ σ1 σ' : Sto} {f : Nat} {args : List AV} (hM : M f = true) (H : X f args σ = some (.tup [], σ1)) (hn : σ.n < σ1.n) (hn' : σ'.n = σ.n) (h1 : ∀ x, x < σ.n → σ1.ob x = σ'.ob x)
    (hcl : ∀ x, x < σ.n → (σ'.ob x).clean σ.n = true) (hdd : ∀ x, σ.n ≤ x → σ'.ob x = .dead) : callV M X σ f args = some (.tup [], σ') := by
  unfold callV
  rw [if_pos hM, H]
  simp only
  rw [if_neg (by omega), if_pos (by rw [List.all_eq_true]; exact fun o ho => by rw [h1 o (List.mem_range.1 ho)]; exact hcl o (List.mem_range.1 ho)), cut_eq hn' h1 hdd]
  rfl
/-- The store: a box p that names rows in o; ks: what else is there and stays. -/
structure Ok (p o : Nat) (ks : List (Nat × VO)) (σ : Sto) (acc : List Row) : Prop where
  hp : σ.ob p = .box [.ref o acc.length []]
  ho : σ.ob o = .arr (.own 0) 0 1 (rowsE acc)
  pn : p < σ.n
  on : o < σ.n
  po : p ≠ o
  ks : ∀ q ∈ ks, σ.ob q.1 = q.2 ∧ q.1 ≠ p ∧ q.1 ≠ o ∧ q.1 < σ.n
  cl : ∀ x, x < σ.n → (σ.ob x).clean σ.n = true
  dd : ∀ x, σ.n ≤ x → σ.ob x = .dead
def St (p o : Nat) (σ : Sto) (acc : List Row) : Sto := ⟨σ.n, upd (upd σ.ob p (.box [.ref o acc.length []])) o (.arr (.own 0) 0 1 (rowsE acc))⟩
variable {p o : Nat} {ks : List (Nat × VO)} {σ σ2 : Sto} {acc acc2 : List Row}
theorem St_ob {x : Nat} : (St p o σ acc).ob x = if x = o then .arr (.own 0) 0 1 (rowsE acc) else if x = p then .box [.ref o acc.length []] else σ.ob x := rfl
theorem Ok.st (h : Ok p o ks σ acc) (acc2 : List Row) : Ok p o ks (St p o σ acc2) acc2 := by
  refine ⟨?_, ?_, h.pn, h.on, h.po, fun q hq => ?_, fun x hx => ?_, fun x hx => ?_⟩
  · rw [St_ob, if_neg h.po, if_pos rfl]
  · rw [St_ob, if_pos rfl]
  · obtain ⟨h1, h2, h3, h4⟩ := h.ks q hq
    exact ⟨by rw [St_ob, if_neg h3, if_neg h2]; exact h1, h2, h3, h4⟩
  · rw [St_ob]
    split
    · rfl
    · split
      · have := h.on
        simp [VO.clean, cleanA, clean1, St, this]
      · exact h.cl x hx
  · have hx : σ.n ≤ x := hx
    have h1 := h.on
    have h2 := h.pn
    rw [St_ob, if_neg (by omega), if_neg (by omega)]; exact h.dd x hx
theorem Ok.grow (h : Ok p o ks σ acc) (hn : σ.n ≤ σ2.n) (h1 : ∀ x, x < σ.n → σ2.ob x = σ.ob x) (h2 : ∀ x, σ.n ≤ x → x < σ2.n → (σ2.ob x).clean σ2.n = true) (h3 : ∀ x, σ2.n ≤ x → σ2.ob x = .dead) : Ok p o ks σ2 acc := by
  refine ⟨by rw [h1 p h.pn]; exact h.hp, by rw [h1 o h.on]; exact h.ho, Nat.lt_of_lt_of_le h.pn hn, Nat.lt_of_lt_of_le h.on hn, h.po, fun q hq => ?_, fun x hx => ?_, h3⟩
  · obtain ⟨g1, g2, g3, g4⟩ := h.ks q hq
    exact ⟨by rw [h1 _ g4]; exact g1, g2, g3, Nat.lt_of_lt_of_le g4 hn⟩
  · rcases Nat.lt_or_ge x σ.n with g | g
    · rw [h1 x g]; exact clean_mono hn (h.cl x g)
    · exact h2 x g hx
/-- What is done with a binding: at most one row is put behind the others. -/
def TakeOk (g : Nat) (caps : List AV) (p o : Nat) (ks : List (Nat × VO)) (f : Bnd → List Row) : Prop :=
  ∀ (σ : Sto) (acc : List Row) (b : Bnd), Ok p o ks σ acc → b.length = 20 → acc.length + 1 < 1099511627776 → callV Ms XX σ g (.agg (cB b) :: caps) = some (.tup [], St p o σ (acc ++ f b))
theorem match_v (b : Bnd) (hb : b.length = 20) (a f : RA) (ha : a.args.length ≤ 1000) (ht : ∀ t ∈ a.args, isTerm t = true) (hf : f.args.length ≤ 1099511627774) : ∃ b', b'.length = 20 ∧ (∀ c, mtchA a f b = some c → b' = c) ∧
    Ret XX 264 [.agg (cB b), Ag a, Ag f] (.tup [.agg ((tB b').map fun x => XV.t x false), .t (.b (mtchA a f b).isSome) false]) := by
  obtain ⟨b', h1, h2, h3⟩ := match_r b hb a f ha hf
  refine ⟨b', h1, fun c hc => h2 c hc ht, ?_⟩
  have e : (decide (a.rel = f.rel ∧ a.args.length = f.args.length) && (mtch2 a.args f.args b).2) = (mtchA a f b).isSome := by
    unfold mtchA
    by_cases h : a.rel = f.rel ∧ a.args.length = f.args.length
    · rw [if_pos h, mtch2_eq _ _ _ ht, decide_eq_true h]
      cases (mtch2 a.args f.args b).2 <;> rfl
    · rw [if_neg h, decide_eq_false h]; rfl
  rw [e] at h3
  exact h3
theorem flatMap_len {α β : Type} {f : α → List β} (h : ∀ x, (f x).length ≤ 1) : ∀ l : List α, (l.flatMap f).length ≤ l.length
  | [] => by simp
  | a :: l => by
    have h1 := h a
    have h2 := flatMap_len h l
    simp only [List.flatMap_cons, List.length_append, List.length_cons]; omega
section
variable {g : Nat} {caps : List AV} {f : Bnd → List Row} {body db : List RA}
theorem visit_c (hT : TakeOk g caps p o ks f) (hf1 : ∀ b, (f b).length ≤ 1) (hbl : body.length ≤ 1000) (hbody : ∀ a ∈ body, a.args.length ≤ 1000 ∧ ∀ t ∈ a.args, isTerm t = true) (hdl : Sm db) (hdb : ∀ x ∈ db, x.args.length ≤ 1099511627774) :
    ∀ (d i : Nat) (b : Bnd) (σ0 : Sto) (acc0 : List Row), body.length - i = d → i ≤ body.length → b.length = 20 → Ok p o ks σ0 acc0 → acc0.length + (binds db (body.drop i) b).length + 1 < 1099511627776 →
      callV Ms XX σ0 182 [Ar body, Ar db, .agg (cB b), In i, .clo g caps] = some (.tup [], St p o σ0 (acc0 ++ (binds db (body.drop i) b).flatMap f)) := by
  intro d
  induction d with
  | zero =>
    intro i b σ0 acc0 hd hi hb hok hN
    have hie : i = body.length := by omega
    subst hie
    rw [List.drop_length]
    simp only [binds, List.flatMap_cons, List.flatMap_nil, List.append_nil]
    have hc1 := cB_len hb
    have hc2 := cB_one b
    have hc3 := cB_take hb
    have hokn : Ok p o ks ⟨σ0.n + 1, upd σ0.ob σ0.n (.box (cB b))⟩ acc0 := hok.grow (Nat.le_succ _) (fun x hx => by simp only [upd_app]; rw [if_neg (by omega)]) (fun x h1 h2 => by
      have h2' : x < σ0.n + 1 := h2
      have : x = σ0.n := by omega
      subst this; simp only [upd_app, if_true, VO.clean]; exact cB_clean b _) (fun x hx => by
      have hx' : σ0.n + 1 ≤ x := hx
      simp only [upd_app]; rw [if_neg (by omega)]; exact hok.dd x (by omega))
    have hcall := hT _ acc0 b hokn hb (by omega)
    have key : ∃ r σ1, XX 182 [Ar body, Ar db, .agg (cB b), In body.length, .clo g caps] σ0 = some (r, σ1) ∧ (r = .tup [] ∧ σ0.n < σ1.n ∧ ∀ x, x < σ0.n → σ1.ob x = (St p o σ0 (acc0 ++ f b)).ob x) := by
      refine W_fn rfl Tryz.func182 rfl rfl (by simp [Tryz.f182]) ?_
      simp only [Tryz.f182]
      repeat' first|refine W_seq ?_|refine W_block ?_|refine W_skip ?_|refine W_ret ?_|refine W_exit ?_|refine xb_hit ?_|refine xb_miss (by decide) ?_|(apply W_reg;(simp [hc2, hc3];exact .r _))
      refine W_cond (by simp; exact .r _) (fun hc => ?_) (fun hc => ?_)
      · repeat' first|refine W_seq ?_|refine W_block ?_|refine W_skip ?_|refine W_ret ?_|refine W_exit ?_|refine xb_hit ?_|refine xb_miss (by decide) ?_|(apply W_reg;(simp [hc1, hc3, hcall];exact .r _))
        refine ⟨.tup [], rfl, rfl, ?_, fun x hx => ?_⟩
        · simp [St]
        · simp only [St, upd_app]
          split
          · rfl
          · split
            · rfl
            · rw [if_neg (by omega)]
      · simp at hc
    obtain ⟨r, σ1, h1, rfl, h3, h4⟩ := key
    have hst := hok.st (acc0 ++ f b)
    exact callV_cut (by rfl) h1 h3 rfl h4 (fun x hx => hst.cl x hx) (fun x hx => hst.dd x hx)
  | succ d ih =>
    intro i b σ0 acc0 hd hi hb hok hN
    have hil : i < body.length := by omega
    have hc1 := cB_len hb
    have hc2 := cB_one b
    have hc3 := cB_take hb
    have hbi := hbody _ (List.getElem_mem hil)
    have hne : ¬ ((i : Int) = body.length) := by omega
    let G : RA → List Bnd := fun x => match mtchA body[i] x b with
      | some b' => binds db (body.drop (i + 1)) b'
      | none => []
    have hG : binds db (body.drop i) b = db.flatMap G := by rw [List.drop_eq_getElem_cons hil]; rfl
    rw [hG] at hN ⊢
    have key : ∃ r σ1, XX 182 [Ar body, Ar db, .agg (cB b), In i, .clo g caps] σ0 = some (r, σ1) ∧ (r = .tup [] ∧ σ0.n < σ1.n ∧ ∀ x, x < σ0.n → σ1.ob x = (St p o σ0 (acc0 ++ (db.flatMap G).flatMap f)).ob x) := by
      refine W_fn rfl Tryz.func182 rfl rfl (by simp [Tryz.f182]) ?_
      simp only [Tryz.f182]
      repeat' first|refine W_seq ?_|refine W_block ?_|refine W_skip ?_|refine W_ret ?_|refine W_exit ?_|refine xb_hit ?_|refine xb_miss (by decide) ?_|(apply W_reg;(simp [hc2, hc3, hne];exact .r _))
      refine W_cond (by simp; exact .r _) (fun hc => ?_) (fun hc => ?_)
      · cases hc
      repeat' first|refine W_seq ?_|refine W_block ?_|refine W_skip ?_|refine W_ret ?_|refine W_exit ?_|refine xb_hit ?_|refine xb_miss (by decide) ?_|(apply W_reg;(simp;exact .r _))
      have hokn : Ok p o ks ⟨σ0.n + 1, upd σ0.ob σ0.n (.box (cB b))⟩ acc0 := hok.grow (Nat.le_succ _) (fun x hx => by simp only [upd_app]; rw [if_neg (by omega)]) (fun x h1 h2 => by
        have h2' : x < σ0.n + 1 := h2
        have : x = σ0.n := by omega
        subst this; simp only [upd_app, if_true, VO.clean]; exact cB_clean b _) (fun x hx => by
        have hx' : σ0.n + 1 ≤ x := hx
        simp only [upd_app]; rw [if_neg (by omega)]; exact hok.dd x (by omega))
      refine W_loop (n := db.length) (fun n s => ∃ j : Nat, ∃ acc1 : List Row, n = db.length - j ∧ s.nt = 46 ∧ s.tm 0 = Ar body ∧ s.tm 1 = Ar db ∧ s.tm 3 = In i ∧ s.tm 4 = .clo g caps ∧ s.tm 7 = .ptr σ0.n 0 ∧ s.tm 21 = Ar db ∧ s.tm 22 = In db.length ∧ s.tm 23 = In j ∧ j ≤ db.length ∧ Ok p o ks s.σ acc1 ∧ s.σ.ob σ0.n = .box (cB b) ∧ σ0.n < s.σ.n ∧ (∀ x, x < σ0.n → x ≠ p → x ≠ o → s.σ.ob x = σ0.ob x) ∧ acc1 = acc0 ++ ((db.take j).flatMap G).flatMap f) ⟨0, acc0, by simp; exact ⟨hokn, fun x h1 h2 h3 e => by omega⟩⟩ ?_
      rintro n ⟨nt, tm, σ⟩ ⟨j, acc1, rfl, hnt, h0, h1, h3, h4, h7, h21, h22, h23, hj, hok1, hbx, hnn, hfr, hacc⟩
      simp only at hnt h0 h1 h3 h4 h7 h21 h22 h23 hok1 hbx hnn hfr
      subst hnt
      repeat' first|refine W_seq ?_|refine W_block ?_|refine W_skip ?_|refine W_ret ?_|refine W_exit ?_|refine xb_hit ?_|refine xb_miss (by decide) ?_|(apply W_reg;(simp [h0, h1, h3, h4, h7, h21, h22, h23, hok1, hbx, hnn, hfr];exact .r _))
      refine W_cond (by simp [h0, h1, h3, h4, h7, h21, h22, h23, hok1, hbx, hnn, hfr]; exact .r _) (fun hc => ?_) (fun hc => ?_)
      · have hjl : j < db.length := by simpa using hc
        obtain ⟨b', hb', hbc, hm⟩ := match_v b hb body[i] db[j] hbi.1 hbi.2 (hdb _ (List.getElem_mem hjl))
        have hm := cv hm
        simp only [Ag, cells_RA, List.map_cons, List.map_nil] at hm
        have kc1 := cB_len hb'
        have kc2 := cB_one b'
        have kc3 := cB_take hb'
        have kpl := cB_place b'
        have ksh := cB_sh b'
        have kre : ∀ σ : Sto, (cB b).mapM (reify1 σ) = some (tB b) := cB_re b
        have krt : (tB b).map AV.t = cB b := rfl
        have n0 : ¬ (σ0.n = σ.n) := by omega
        have n0' : ¬ (σ.n = σ0.n) := by omega
        have n1 : ¬ (σ0.n = σ.n + 1) := by omega
        have n1' : ¬ (σ.n + 1 = σ0.n) := by omega
        repeat' first|refine W_seq ?_|refine W_block ?_|refine W_skip ?_|refine W_ret ?_|refine W_exit ?_|refine xb_hit ?_|refine xb_miss (by decide) ?_|(apply W_reg;(simp [h0, h1, h3, h4, h7, h21, h22, h23, hok1, hbx, hnn, hfr, hjl, hil, hm, hc1, hc2, hc3, kc1, kc2, kc3, kpl, ksh, kre, krt, n0, n0', n1, n1'];exact .r _))|(apply W_draw (id := 6) [0,0,0,6,14,0,63,127,255,255,0,1535,4095] rfl rfl; (· simp; exact .r _); (· simp [h0, h1, h3, h4, h7, h21, h22, h23, hok1, hbx, hnn, hfr, hjl, hil, hm, hc1, hc2, hc3, kc1, kc2, kc3, kpl, ksh, kre, krt, n0, n0', n1, n1']; exact .r _); (· first|trivial|simp))
        refine W_gen (fun s2 => Ok p o ks s2 acc1 ∧ s2.ob σ0.n = .box (cB b) ∧ σ.n < s2.n ∧ (∀ x, x < σ0.n → x ≠ p → x ≠ o → s2.ob x = σ0.ob x) ∧ s2.ob (σ.n + 1) = .box (cB b')) ?_ (fun s2 hq => ?_)
        · refine ⟨hok1.grow (Nat.le_add_right _ _) (fun x hx => ?_) (fun x h1 h2 => ?_) (fun x hx => ?_), ?_, ?_, fun x h1 h2 h3 => ?_, ?_⟩
          · simp [upd_app, show ¬ x = σ.n by omega, show ¬ x = σ.n + 1 by omega]
          · have h2' : x < σ.n + 2 := h2
            rcases (by omega : x = σ.n ∨ x = σ.n + 1) with rfl | rfl
            · simp [upd_app, VO.clean, cleanA, clean1]
            · simp only [upd_app, if_true, VO.clean]; exact cB_clean b' _
          · have hx' : σ.n + 2 ≤ x := hx
            simp [upd_app, show ¬ x = σ.n by omega, show ¬ x = σ.n + 1 by omega]
            exact hok1.dd x (by omega)
          · simp [upd_app, n0, n1]; exact hbx
          · show σ.n < σ.n + 2
            omega
          · simp [upd_app, show ¬ x = σ.n by omega, show ¬ x = σ.n + 1 by omega]
            exact hfr x h1 h2 h3
          · simp [upd_app]
        obtain ⟨q1, q2, q3, q4, q5⟩ := hq
        have htk : (db.take (j + 1)).flatMap G = (db.take j).flatMap G ++ G db[j] := by rw [List.take_succ_eq_append_getElem hjl, List.flatMap_append]; simp
        have hsp : (db.flatMap G).length = ((db.take j).flatMap G).length + (G db[j]).length + ((db.drop (j + 1)).flatMap G).length := by
          conv => lhs; rw [← List.take_append_drop j db, List.flatMap_append, List.drop_eq_getElem_cons hjl, List.flatMap_cons]
          simp only [List.length_append]; omega
        have hla : acc1.length ≤ acc0.length + ((db.take j).flatMap G).length := by
          rw [hacc, List.length_append]
          have := flatMap_len hf1 ((db.take j).flatMap G)
          omega
        cases hm2 : mtchA body[i] db[j] b with
        | none =>
          have hGj : G db[j] = [] := by simp only [G, hm2]
          refine W_cond (by simp [h0, h1, h3, h4, h7, h21, h22, h23, hok1, hbx, hnn, hfr, hm2]; exact .r _) (fun hz => ?_) (fun hz => ?_)
          · cases hz
          repeat' first|refine W_seq ?_|refine W_block ?_|refine W_skip ?_|refine W_ret ?_|refine W_exit ?_|refine xb_hit ?_|refine xb_miss (by decide) ?_|(apply W_reg;(simp [h0, h1, h3, h4, h7, h21, h22, h23, hok1, hbx, hnn, hfr];exact .r _))
          refine ⟨_, ?_, j + 1, acc1, rfl, rfl, ?_, ?_, ?_, ?_, ?_, ?_, ?_, ?_, by omega, q1, q2, (by show σ0.n < s2.n; omega), q4, by rw [htk, hGj, List.append_nil, hacc]⟩
          all_goals first|assumption|(simp [h0, h1, h3, h4, h7, h21, h22, h23, hok1, hbx, hnn, hfr];done)|(simp [h0, h1, h3, h4, h7, h21, h22, h23, hok1, hbx, hnn, hfr];omega)|(simp [h0, h1, h3, h4, h7, h21, h22, h23, hok1, hbx, hnn, hfr];exact wrap_succ (by omega))|omega
        | some c =>
          have hcb := hbc c hm2
          subst hcb
          have hGj : G db[j] = binds db (body.drop (i + 1)) b' := by simp only [G, hm2]
          have hcall := ih (i + 1) b' s2 acc1 (by omega) (by omega) hb' q1 (by rw [← hGj]; omega)
          rw [show ((i + 1 : Nat) : Int) = (i : Int) + 1 by omega] at hcall
          have hw : IntKind.i64.wrap ((i : Int) + 1) = (i : Int) + 1 := wrap_succ (by omega)
          refine W_cond (by simp [h0, h1, h3, h4, h7, h21, h22, h23, hok1, hbx, hnn, hfr, hm2]; exact .r _) (fun hz => ?_) (fun hz => ?_)
          · repeat' first|refine W_seq ?_|refine W_block ?_|refine W_skip ?_|refine W_ret ?_|refine W_exit ?_|refine xb_hit ?_|refine xb_miss (by decide) ?_|(apply W_reg;(simp [h0, h1, h3, h4, h7, h21, h22, h23, hok1, hbx, hnn, hfr, q5, kc1, kc3, hw, hcall];exact .r _))
            have hst := q1.st (acc1 ++ (binds db (body.drop (i + 1)) b').flatMap f)
            have hp0 := hok.pn
            have ho0 := hok.on
            refine ⟨_, ?_, j + 1, acc1 ++ (binds db (body.drop (i + 1)) b').flatMap f, rfl, rfl, ?_, ?_, ?_, ?_, ?_, ?_, ?_, ?_, by omega, hst, (by rw [St_ob, if_neg (by omega), if_neg (by omega)]; exact q2), (by show σ0.n < s2.n; omega), (fun x h1 h2 h3 => by rw [St_ob, if_neg h3, if_neg h2]; exact q4 x h1 h2 h3), by rw [htk, hGj, List.flatMap_append, ← List.append_assoc, ← hacc]⟩
            all_goals first|assumption|(simp [h0, h1, h3, h4, h7, h21, h22, h23, hok1, hbx, hnn, hfr];done)|(simp [h0, h1, h3, h4, h7, h21, h22, h23, hok1, hbx, hnn, hfr];omega)|(simp [h0, h1, h3, h4, h7, h21, h22, h23, hok1, hbx, hnn, hfr];exact wrap_succ (by omega))|omega
          · cases hz
      · have hjl : j = db.length := by simp at hc; omega
        subst hjl
        rw [List.take_length] at hacc
        repeat' first|refine W_seq ?_|refine W_block ?_|refine W_skip ?_|refine W_ret ?_|refine W_exit ?_|refine xb_hit ?_|refine xb_miss (by decide) ?_|(apply W_reg;(simp [h0, h1, h3, h4, h7, h21, h22, h23, hok1, hbx, hnn, hfr];exact .r _))
        refine ⟨.tup [], rfl, rfl, hnn, fun x hx => ?_⟩
        simp only
        rw [St_ob]
        split
        · rename_i e; subst e; rw [hok1.ho, hacc]
        · split
          · rename_i e; subst e; rw [hok1.hp, hacc]
          · rename_i e1 e2; exact hfr x hx e2 e1
    obtain ⟨r, σ1, h1, rfl, h3, h4⟩ := key
    have hst := hok.st (acc0 ++ (db.flatMap G).flatMap f)
    exact callV_cut (by rfl) h1 h3 rfl h4 (fun x hx => hst.cl x hx) (fun x hx => hst.dd x hx)
end
end Go.Proofs.YtmfifjbbjjdacaaGreat.V

namespace Go.Proofs.YtmfifjbbjjdacaaGreat.V
open Go Go.Proofs
set_option linter.unusedVariables false
set_option linter.unusedSimpArgs false
/-- Over the caller's store: a call that answers a slice that it made. -/
theorem callV_new {M : Nat → Bool} {X : Ora} {σ σ1 σ' : Sto} {f o' v st sz : Nat} {rows : List (List T)} {args : List AV} (hM : M f = true) (H : X f args σ = some (.ref o' v [], σ1)) (ho' : σ.n ≤ o') (hob : σ1.ob o' = .arr (.own 0) st sz rows) (hv : rows.length = v) (hn : σ.n < σ1.n) (hn' : σ'.n = σ.n)
    (h1 : ∀ x, x < σ.n → σ1.ob x = σ'.ob x) (hcl : ∀ x, x < σ.n → (σ'.ob x).clean σ.n = true) (hdd : ∀ x, σ.n ≤ x → σ'.ob x = .dead) : callV M X σ f args = some (.ref σ.n v [], σ'.new (.arr (.own 0) 0 sz rows)) := by
  unfold callV
  rw [if_pos hM, H]
  simp only
  rw [if_neg (by omega), if_pos (by rw [List.all_eq_true]; exact fun o ho => by rw [h1 o (List.mem_range.1 ho)]; exact hcl o (List.mem_range.1 ho)), cut_eq hn' h1 hdd]
  simp only [impR, impA, imp1]
  rw [if_neg (by omega), hob]
  simp only
  rw [if_pos ⟨hv, trivial⟩, hn']
  rfl
theorem cv_sortI {σ : Sto} {o st v : Nat} {xs : List Row} (hob : σ.ob o = .arr (.own 0) st 1 (rowsE xs)) (hv : v = xs.length) (hlen : xs.length < 4611686018427387904) (h : ∀ x ∈ xs, Sm x) :
    callV Ms XX σ 266 [.ref o v [], .clo 201 []] = some (.tup [], σ.set o (.arr (.own 0) (st + 1) 1 (rowsE (srt cmpI xs)))) :=
  callV_d (by rfl) ((R_giv (drawV_go) (by rfl) _ _).trans (sortG_eq (α := List Int) hob hv hlen ⟨h, fun a b _ _ h1 h2 => antiL a b h1 h2⟩)) rfl
theorem binds_le (db : List RA) : ∀ (body : List RA) (b : Bnd), (binds db body b).length ≤ db.length ^ body.length
  | [], b => by simp [binds]
  | a :: body, b => by
    have h : ∀ l : List RA, (l.flatMap fun f => match mtchA a f b with | some b' => binds db body b' | none => []).length ≤ l.length * db.length ^ body.length := by
      intro l
      induction l with
      | nil => simp
      | cons f l ih =>
        rw [List.flatMap_cons, List.length_append, List.length_cons, Nat.add_mul, Nat.one_mul, Nat.add_comm]
        refine Nat.add_le_add ih ?_
        cases mtchA a f b with
        | none => simp
        | some b' => exact binds_le db body b'
    have := h db
    rw [List.length_cons, Nat.pow_succ, Nat.mul_comm]
    exact this
theorem zeros_b0 : ([AV.t (T.i IntKind.i64 0), AV.t (T.i IntKind.i64 0), AV.t (T.i IntKind.i64 0), AV.t (T.i IntKind.i64 0), AV.t (T.i IntKind.i64 0), AV.t (T.i IntKind.i64 0), AV.t (T.i IntKind.i64 0), AV.t (T.i IntKind.i64 0), AV.t (T.i IntKind.i64 0), AV.t (T.i IntKind.i64 0), AV.t (T.i IntKind.i64 0), AV.t (T.i IntKind.i64 0), AV.t (T.i IntKind.i64 0), AV.t (T.i IntKind.i64 0), AV.t (T.i IntKind.i64 0), AV.t (T.i IntKind.i64 0), AV.t (T.i IntKind.i64 0), AV.t (T.i IntKind.i64 0), AV.t (T.i IntKind.i64 0), AV.t (T.i IntKind.i64 0), AV.t (T.b false), AV.t (T.b false), AV.t (T.b false), AV.t (T.b false), AV.t (T.b false), AV.t (T.b false), AV.t (T.b false), AV.t (T.b false), AV.t (T.b false), AV.t (T.b false), AV.t (T.b false), AV.t (T.b false), AV.t (T.b false), AV.t (T.b false), AV.t (T.b false), AV.t (T.b false), AV.t (T.b false), AV.t (T.b false), AV.t (T.b false), AV.t (T.b false)] : List AV) = cB b0 := rfl
end Go.Proofs.YtmfifjbbjjdacaaGreat.V

namespace Go.Proofs.YtmfifjbbjjdacaaGreat.V
open Go Go.Proofs
set_option linter.unusedVariables false
set_option linter.unusedSimpArgs false
/-- The reference's binding: the values, then 1 for each that is bound. -/
def bL (b : Bnd) : List Int := encB b ++ b.map fun o => if o.isSome then 1 else 0
theorem encB_len (b : Bnd) : (encB b).length = b.length := by simp [encB]
theorem bL_len {b : Bnd} (h : b.length = 20) : (bL b).length = 40 := by simp [bL, encB_len, h]
theorem rowE_get {l : List Int} {n : Nat} {x : Int} (h : l[n]? = some x) : (rowsE l)[n]? = some [T.i .i64 x] := by rw [rowsE, List.getElem?_map, h]; rfl
theorem bL_val {b : Bnd} {n : Nat} (h : n < b.length) : (bL b)[n]? = some ((b[n]).getD (-1)) := by
  rw [bL, List.getElem?_append_left (by rw [encB_len]; exact h), encB, List.getElem?_map, List.getElem?_eq_getElem h]; rfl
theorem bL_flag {b : Bnd} {n : Nat} (h : n < b.length) (hb : b.length = 20) : (bL b)[20 + n]? = some (if (b[n]).isSome then 1 else 0) := by
  rw [bL, List.getElem?_append_right (by rw [encB_len]; omega), encB_len, hb, Nat.add_sub_cancel_left, List.getElem?_map, List.getElem?_eq_getElem h]; rfl
theorem bL_set {b : Bnd} {n : Nat} {v : Int} (h : n < b.length) (hb : b.length = 20) : ((bL b).set n v).set (20 + n) 1 = bL (b.set n (some v)) := by
  unfold bL
  rw [List.set_append_left _ _ (by rw [encB_len]; exact h), List.set_append_right _ _ (by simp [encB_len]; omega)]
  have e : 20 + n - ((encB b).set n v).length = n := by simp [encB_len]; omega
  rw [e]
  congr 1
  · simp only [encB, List.map_set]; rfl
  · simp only [List.map_set]; rfl
theorem l6Bind_r (b : Bnd) (hb : b.length = 20) (ts vs : List Int) (hl : ts.length = vs.length) (hs : Sm ts) (ht : ∀ t ∈ ts, isTerm t = true) : ∃ b', b'.length = 20 ∧ (∀ c, mtch ts vs b = some c → b' = c) ∧
    Ret XX 355 [Ar ts, Ar vs, Ar (bL b)] (.tup [.own 1 (rowsE (bL b')), .t (.b (mtch ts vs b).isSome) false]) := by
  have hlen2 : ∀ (ts vs : List Int) (b : Bnd), (mtch2 ts vs b).1.length = b.length := by
    intro ts
    induction ts with
    | nil => intro vs b; cases vs <;> rfl
    | cons t ts ih =>
      intro vs b
      cases vs with
      | nil => rfl
      | cons v vs =>
        unfold mtch2
        split
        · rw [ih]; simp
        · split
          · exact ih vs b
          · rfl
  have hfl : (mtch ts vs b).isSome = (mtch2 ts vs b).2 := by rw [mtch2_eq _ _ _ ht]; cases (mtch2 ts vs b).2 <;> rfl
  refine ⟨(mtch2 ts vs b).1, by rw [hlen2]; exact hb, fun c h => ?_, ?_⟩
  · rw [mtch2_eq _ _ _ ht] at h
    split at h
    · exact Option.some.inj h
    · cases h
  rw [hfl]
  refine ret_W rfl Tryz.func355 rfl rfl (by simp [Tryz.f355]) ?_
  simp only [Tryz.f355]
  have h40 := bL_len hb
  repeat' first|refine W_seq ?_|refine W_block ?_|refine W_skip ?_|refine W_ret ?_|refine W_exit ?_|refine xb_hit ?_|refine xb_miss (by decide) ?_|(apply W_reg;(simp [h40];exact .r _))
  refine W_loop (n := ts.length) (fun n s => ∃ i : Nat, ∃ c : Bnd, n = ts.length - i ∧ s.nt = 65 ∧ s.tm 0 = Ar ts ∧ s.tm 1 = Ar vs ∧ s.tm 8 = .ref 0 40 [] ∧ s.tm 9 = In i ∧ i ≤ ts.length ∧ c.length = 20 ∧ s.σ.ob 0 = .arr (.own 0) 0 1 (rowsE (bL c)) ∧ mtch2 ts vs b = mtch2 (ts.drop i) (vs.drop i) c) ⟨0, b, by simp [hb, h40]⟩ ?_
  rintro n ⟨nt, tm, σ⟩ ⟨i, c, rfl, hnt, h0, h1, h8, h9, hi, hcl, ho, heq⟩
  simp only at hnt h0 h1 h8 h9 ho
  subst hnt
  repeat' first|refine W_seq ?_|refine W_block ?_|refine W_skip ?_|refine W_ret ?_|refine W_exit ?_|refine xb_hit ?_|refine xb_miss (by decide) ?_|(apply W_reg;(simp [h0, h1, h8, h9, ho];exact .r _))
  have k40 := bL_len hcl
  refine W_cond (by simp [h0, h1, h8, h9, ho]; exact .r _) (fun hc => ?_) (fun hc => ?_)
  · have hil : i < ts.length := by simpa using hc
    have hvl : i < vs.length := by omega
    have hti := ht _ (List.getElem_mem hil)
    have htr := isTerm_iff.1 hti
    rw [List.drop_eq_getElem_cons hil, List.drop_eq_getElem_cons hvl, mtch2, valI_eq hti] at heq
    repeat' first|refine W_seq ?_|refine W_block ?_|refine W_skip ?_|refine W_ret ?_|refine W_exit ?_|refine xb_hit ?_|refine xb_miss (by decide) ?_|(apply W_reg;(simp [h0, h1, h8, h9, ho, hil];exact .r _))
    refine W_cond (by simp [h0, h1, h8, h9, ho]; exact .r _) (fun hd => ?_) (fun hd => ?_)
    · have h0 : ts[i] < 0 := by simpa using hd
      have hw : IntKind.i64.wrap (-1 - ts[i]) = -1 - ts[i] := wrap_ok (by omega) (by omega)
      have hnv : isVar ts[i] = false := by
        cases hv : isVar ts[i] with
        | false => rfl
        | true => have := (isVar_iff.1 hv).1; omega
      rw [hnv, Bool.false_and, if_neg (by simp), valB, if_pos h0] at heq
      repeat' first|refine W_seq ?_|refine W_block ?_|refine W_skip ?_|refine W_ret ?_|refine W_exit ?_|refine xb_hit ?_|refine xb_miss (by decide) ?_|(apply W_reg;(simp [h0, h1, h8, h9, ho, hil, hvl, hw];exact .r _))
      refine W_cond (by simp [h0, h1, h8, h9, ho]; exact .r _) (fun he => ?_) (fun he => ?_)
      · have hne : ¬ -1 - ts[i] = vs[i] := by simpa using he
        rw [if_neg hne] at heq
        repeat' first|refine W_seq ?_|refine W_block ?_|refine W_skip ?_|refine W_ret ?_|refine W_exit ?_|refine xb_hit ?_|refine xb_miss (by decide) ?_|(apply W_reg;(simp [h0, h1, h8, h9, ho];exact .r _))
        simp [heq, ho, k40]
      · have hne : -1 - ts[i] = vs[i] := by simpa using he
        rw [if_pos hne] at heq
        repeat' first|refine W_seq ?_|refine W_block ?_|refine W_skip ?_|refine W_ret ?_|refine W_exit ?_|refine xb_hit ?_|refine xb_miss (by decide) ?_|(apply W_reg;(simp [h0, h1, h8, h9, ho];exact .r _))
        refine ⟨_, ?_, i + 1, c, rfl, rfl, ?_, ?_, ?_, ?_, by omega, hcl, ?_, heq⟩
        all_goals first|assumption|(simp [h0, h1, h8, h9, ho];done)|(simp [h0, h1, h8, h9, ho];omega)|(simp [h0, h1, h8, h9, ho];exact wrap_succ (by omega))|omega
    · have h0 : 0 ≤ ts[i] := by simp at hd; omega
      have hv : isVar ts[i] = true := isVar_iff.2 ⟨h0, htr.2⟩
      have htl : ts[i].toNat < c.length := by omega
      have hgb := getB_lt htl
      have hw : IntKind.i64.wrap (20 + ts[i]) = 20 + ts[i] := wrap_ok (by omega) (by omega)
      have h20 : (0 : Int) ≤ 20 + ts[i] := by omega
      have h20n : (20 + ts[i]).toNat = 20 + ts[i].toNat := by omega
      have g1 := rowE_get (bL_flag htl hcl)
      have g2 := rowE_get (bL_val htl)
      have hvb : valB c ts[i] = (getB c ts[i]).getD 0 := by unfold valB; rw [if_neg (by omega)]
      rw [hv, Bool.true_and, hvb, hgb] at heq
      cases e : c[ts[i].toNat] with
      | none =>
        rw [e] at g1 heq
        simp only [Option.isSome_none, Bool.false_eq_true, if_false] at g1
        simp only [Option.isSome_none, Bool.not_false, if_true] at heq
        repeat' first|refine W_seq ?_|refine W_block ?_|refine W_skip ?_|refine W_ret ?_|refine W_exit ?_|refine xb_hit ?_|refine xb_miss (by decide) ?_|(apply W_reg;(simp [h0, h1, h8, h9, ho, hil, hw, h20, h20n, k40, g1];exact .r _))
        refine W_cond (by simp [h0, h1, h8, h9, ho]; exact .r _) (fun he => ?_) (fun he => ?_)
        · have hset := bL_set (v := vs[i]) htl hcl
          have hs1 : ((rowsE (bL c)).set ts[i].toNat [T.i .i64 vs[i]])[20 + ts[i].toNat]? = some [T.i .i64 0] := by rw [List.getElem?_set_ne (by omega)]; exact g1
          repeat' first|refine W_seq ?_|refine W_block ?_|refine W_skip ?_|refine W_ret ?_|refine W_exit ?_|refine xb_hit ?_|refine xb_miss (by decide) ?_|(apply W_reg;(simp [h0, h1, h8, h9, ho, hil, hvl, h0, hw, h20, h20n, k40, g2, hs1];exact .r _))
          refine ⟨_, ?_, i + 1, c.set ts[i].toNat (some vs[i]), rfl, rfl, ?_, ?_, ?_, ?_, by omega, by simpa using hcl, (by simp; rw [← hset, rowsE_set, rowsE_set]; rfl), heq⟩
          all_goals first|assumption|(simp [h0, h1, h8, h9, ho];done)|(simp [h0, h1, h8, h9, ho];omega)|(simp [h0, h1, h8, h9, ho];exact wrap_succ (by omega))|omega
        · cases he
      | some x =>
        rw [e] at g1 g2 heq
        simp only [Option.isSome_some, if_true, Option.getD_some] at g1 g2
        simp only [Option.isSome_some, Bool.not_true, Bool.false_eq_true, if_false, Option.getD_some] at heq
        repeat' first|refine W_seq ?_|refine W_block ?_|refine W_skip ?_|refine W_ret ?_|refine W_exit ?_|refine xb_hit ?_|refine xb_miss (by decide) ?_|(apply W_reg;(simp [h0, h1, h8, h9, ho, hil, hw, h20, h20n, k40, g1];exact .r _))
        refine W_cond (by simp [h0, h1, h8, h9, ho]; exact .r _) (fun he => ?_) (fun he => ?_)
        · cases he
        · repeat' first|refine W_seq ?_|refine W_block ?_|refine W_skip ?_|refine W_ret ?_|refine W_exit ?_|refine xb_hit ?_|refine xb_miss (by decide) ?_|(apply W_reg;(simp [h0, h1, h8, h9, ho, hil, hvl, h0, k40, g2];exact .r _))|(apply W_draw (id := 12) [0,0,3,7,0,0,48,112,255,511] rfl rfl; (· simp; exact .r _); (· simp [h0, h1, h8, h9, ho, hil, hvl, h0, k40, g2]; exact .r _); (· first|trivial|simp))
          refine W_cond (by simp [h0, h1, h8, h9, ho]; exact .r _) (fun hf => ?_) (fun hf => ?_)
          · have hne : ¬ x = vs[i] := by simpa using hf
            rw [if_neg hne] at heq
            repeat' first|refine W_seq ?_|refine W_block ?_|refine W_skip ?_|refine W_ret ?_|refine W_exit ?_|refine xb_hit ?_|refine xb_miss (by decide) ?_|(apply W_reg;(simp [h0, h1, h8, h9, ho];exact .r _))
            simp [heq, ho, k40]
          · have hne : x = vs[i] := by simpa using hf
            rw [if_pos hne] at heq
            repeat' first|refine W_seq ?_|refine W_block ?_|refine W_skip ?_|refine W_ret ?_|refine W_exit ?_|refine xb_hit ?_|refine xb_miss (by decide) ?_|(apply W_reg;(simp [h0, h1, h8, h9, ho];exact .r _))
            refine ⟨_, ?_, i + 1, c, rfl, rfl, ?_, ?_, ?_, ?_, by omega, hcl, ?_, heq⟩
            all_goals first|assumption|(simp [h0, h1, h8, h9, ho];done)|(simp [h0, h1, h8, h9, ho];omega)|(simp [h0, h1, h8, h9, ho];exact wrap_succ (by omega))|omega
  have hil : i = ts.length := by simp at hc; omega
  subst hil
  rw [List.drop_length, hl, List.drop_length] at heq
  have heq2 : mtch2 ts vs b = (c, true) := heq
  repeat' first|refine W_seq ?_|refine W_block ?_|refine W_skip ?_|refine W_ret ?_|refine W_exit ?_|refine xb_hit ?_|refine xb_miss (by decide) ?_|(apply W_reg;(simp [h0, h1, h8, h9, ho];exact .r _))
  simp [heq2, ho, k40]
end Go.Proofs.YtmfifjbbjjdacaaGreat.V

