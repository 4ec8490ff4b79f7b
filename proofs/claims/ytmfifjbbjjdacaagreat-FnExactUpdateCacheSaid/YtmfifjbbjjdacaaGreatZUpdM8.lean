/- Several texts in one: what the claim needs of them. Conditions: each declaration's own. -/
import Derived.Test.YtmfifjbbjjdacaaGreatZUpdM7
namespace Go.Proofs.YtmfifjbbjjdacaaGreat.V
open Go Go.Proofs
set_option linter.unusedVariables false
set_option linter.unusedSimpArgs false
/-- Each one fine and after the one before. -/
def asc2 {α : Type} (lt : α → α → Bool) : List α → Bool
  | a :: b :: l => lt a b && asc2 lt (b :: l)
  | _ => true
def allP {α : Type} (p : α → Bool) (l : List α) : Bool := l.all p
theorem allP_cons {α : Type} {p : α → Bool} {a : α} {l : List α} : allP p (a :: l) = (p a && allP p l) := rfl
theorem allP_nil {α : Type} {p : α → Bool} : allP p [] = true := rfl
def chk {α : Type} (p : α → Bool) (lt : α → α → Bool) (l : List α) (i : Nat) : Bool := allP p (l.drop i) && asc2 lt (l.drop (i - 1))
theorem asc2_short {α : Type} {lt : α → α → Bool} : ∀ {l : List α}, l.length ≤ 1 → asc2 lt l = true
  | [], _ => rfl
  | [_], _ => rfl
theorem chk_end {α : Type} {p : α → Bool} {lt : α → α → Bool} {l : List α} : chk p lt l l.length = true := by
  unfold chk
  rw [List.drop_length, allP_nil, asc2_short (by simp; omega)]; rfl
theorem chk_step {α : Type} {p : α → Bool} {lt : α → α → Bool} {l : List α} {i : Nat} (h : i < l.length) : chk p lt l i = (p l[i] && (i == 0 || lt l[i - 1] l[i]) && chk p lt l (i + 1)) := by
  unfold chk
  rw [List.drop_eq_getElem_cons h, allP_cons]
  cases i with
  | zero =>
    simp only [Nat.zero_sub, List.drop_zero, Nat.zero_add, Nat.sub_self, beq_self_eq_true, Bool.true_or, Bool.and_true]
    rw [Bool.and_assoc]
  | succ i =>
    have e : (i + 1 - 1) = i := by omega
    simp only [e]
    have e2 : i + 1 + 1 - 1 = i + 1 := by omega
    rw [e2, show l.drop i = l[i] :: l[i + 1] :: l.drop (i + 2) by rw [List.drop_eq_getElem_cons (by omega), List.drop_eq_getElem_cons h], asc2, ← List.drop_eq_getElem_cons h]
    have e3 : (i + 1 == 0) = false := rfl
    rw [e3, Bool.false_or]
    cases p l[i + 1] <;> cases lt l[i] l[i + 1] <;> cases allP p (List.drop (i + 1 + 1) l) <;> rfl
def vals (r : Row) : Bool := r.all fun x => inR x 0 99
def rowOk (n : Nat) (r : Row) : Bool := decide (r.length = n) && vals r
def ltR (a b : Row) : Bool := decide (cmpI a b < 0)
def tblOk (n : Nat) (t : List Row) : Bool := decide (t.length ≤ 90) && chk (rowOk n) ltR t 0
def tabsOk : List Qry → List (List Row) → Bool
  | v :: vs, t :: ts => tblOk v.head.length t && tabsOk vs ts
  | _, _ => true
def isCch (c : Sch) (x : Cch) : Bool := areVs c x.views && decide (x.tables.length = x.views.length) && inR x.version 0 1000 && tabsOk x.views x.tables
/-- Lengths of a cache. -/
def SmC (x : Cch) : Prop := Sm x.views ∧ (∀ q ∈ x.views, SmQ q) ∧ Sm x.tables ∧ ∀ t ∈ x.tables, Sm t ∧ ∀ r ∈ t, Sm r
theorem SmC.of {N : Nat} (hN : N < 1099511627775) {x : Cch} (h : Lw.bd N x) : SmC x := ⟨Nat.lt_of_le_of_lt h.1.1 hN, fun q hq => SmQ.of hN (h.1.2 q hq), Nat.lt_of_le_of_lt h.2.1 hN, fun t ht => ⟨Nat.lt_of_le_of_lt (h.2.2 t ht).1 hN, fun r hr => Nat.lt_of_le_of_lt ((h.2.2 t ht).2 r hr).1 hN⟩⟩
theorem tabsOk_drop {vs : List Qry} {ts : List (List Row)} {i : Nat} (h : i < ts.length) (hv : i < vs.length) : tabsOk (vs.drop i) (ts.drop i) = (tblOk vs[i].head.length ts[i] && tabsOk (vs.drop (i + 1)) (ts.drop (i + 1))) := by
  rw [List.drop_eq_getElem_cons h, List.drop_eq_getElem_cons hv]; rfl
theorem tabsOk_end {vs : List Qry} {ts : List (List Row)} : tabsOk (vs.drop ts.length) (ts.drop ts.length) = true := by
  rw [List.drop_length]
  cases vs.drop ts.length <;> rfl
theorem implIsCch_r (c : Sch) (x : Cch) (sc : Sm c.arity) (h : SmC x) : Ret XX 218 [Ag c, Ag x] (.t (.b (isCch c x)) false) := by
  refine ret_W rfl Tryz.func218 rfl rfl (by simp [Tryz.f218]) ?_
  simp only [Tryz.f218]
  obtain ⟨h1, h2, h3, h4⟩ := h
  have c1 := cv (implAreVs_r c x.views sc h1 h2)
  have c2 := cv (within_r x.version 0 1000)
  simp only [Ag, cells_Sch, cells_Q, List.map_cons, List.map_nil] at c1
  cases e1 : areVs c x.views
  · repeat' first|refine W_seq ?_|refine W_block ?_|refine W_skip ?_|refine W_ret ?_|refine W_exit ?_|refine xb_hit ?_|refine xb_miss (by decide) ?_|(apply W_reg;(simp [Ag, c1, e1];exact .r _))
    refine W_cond (by simp; exact .r _) (fun hc => ?_) (fun hc => ?_)
    · repeat' first|refine W_seq ?_|refine W_block ?_|refine W_skip ?_|refine W_ret ?_|refine W_exit ?_|refine xb_hit ?_|refine xb_miss (by decide) ?_|(apply W_reg;(simp;exact .r _))
      simp [isCch, e1]
    · cases hc
  by_cases e2 : x.tables.length = x.views.length
  case neg =>
    have e2' : ¬ (x.tables.length : Int) = x.views.length := by omega
    repeat' first|refine W_seq ?_|refine W_block ?_|refine W_skip ?_|refine W_ret ?_|refine W_exit ?_|refine xb_hit ?_|refine xb_miss (by decide) ?_|(apply W_reg;(simp [Ag, c1, e1, e2'];exact .r _))
    refine W_cond (by simp; exact .r _) (fun hc => ?_) (fun hc => ?_)
    · repeat' first|refine W_seq ?_|refine W_block ?_|refine W_skip ?_|refine W_ret ?_|refine W_exit ?_|refine xb_hit ?_|refine xb_miss (by decide) ?_|(apply W_reg;(simp;exact .r _))
      simp [isCch, e2]
    · cases hc
  have e2' : (x.tables.length : Int) = x.views.length := by omega
  cases e3 : inR x.version 0 1000
  · repeat' first|refine W_seq ?_|refine W_block ?_|refine W_skip ?_|refine W_ret ?_|refine W_exit ?_|refine xb_hit ?_|refine xb_miss (by decide) ?_|(apply W_reg;(simp [Ag, c1, e1, e2', c2, e3];exact .r _))
    refine W_cond (by simp; exact .r _) (fun hc => ?_) (fun hc => ?_)
    · repeat' first|refine W_seq ?_|refine W_block ?_|refine W_skip ?_|refine W_ret ?_|refine W_exit ?_|refine xb_hit ?_|refine xb_miss (by decide) ?_|(apply W_reg;(simp;exact .r _))
      simp [isCch, e3]
    · cases hc
  repeat' first|refine W_seq ?_|refine W_block ?_|refine W_skip ?_|refine W_ret ?_|refine W_exit ?_|refine xb_hit ?_|refine xb_miss (by decide) ?_|(apply W_reg;(simp [Ag, c1, e1, e2', c2, e3];exact .r _))
  refine W_cond (by simp; exact .r _) (fun hc => ?_) (fun hc => ?_)
  · cases hc
  repeat' first|refine W_seq ?_|refine W_block ?_|refine W_skip ?_|refine W_ret ?_|refine W_exit ?_|refine xb_hit ?_|refine xb_miss (by decide) ?_|(apply W_reg;(simp;exact .r _))
  refine W_loop (n := x.tables.length) (fun n s => ∃ i : Nat, n = x.tables.length - i ∧ s.nt = 78 ∧ s.tm 3 = .ptr 1 0 ∧ s.tm 30 = Ar x.tables ∧ s.tm 31 = In x.tables.length ∧ s.tm 32 = In i ∧ i ≤ x.tables.length ∧ s.σ.ob 1 = .box [Ar x.views, Ar x.tables, In x.version] ∧ isCch c x = tabsOk (x.views.drop i) (x.tables.drop i)) ⟨0, by simp [e2', isCch, e1, e2, e3]⟩ ?_
  rintro n ⟨nt, tm, σ⟩ ⟨i, rfl, hnt, h3, h30, h31, h32, hi, hb1, heq⟩
  simp only at hnt h3 h30 h31 h32 hb1
  subst hnt
  repeat' first|refine W_seq ?_|refine W_block ?_|refine W_skip ?_|refine W_ret ?_|refine W_exit ?_|refine xb_hit ?_|refine xb_miss (by decide) ?_|(apply W_reg;(simp [h3, h30, h31, h32, hb1];exact .r _))
  refine W_cond (by simp [h3, h30, h31, h32, hb1]; exact .r _) (fun hc => ?_) (fun hc => ?_)
  · have hil : i < x.tables.length := by simpa using hc
    have hiv : i < x.views.length := by omega
    have ht := h4 _ (List.getElem_mem hil)
    rw [tabsOk_drop hil hiv] at heq
    repeat' first|refine W_seq ?_|refine W_block ?_|refine W_skip ?_|refine W_ret ?_|refine W_exit ?_|refine xb_hit ?_|refine xb_miss (by decide) ?_|(apply W_reg;(simp [h3, h30, h31, h32, hb1, hil];exact .r _))
    refine W_cond (by simp [h3, h30, h31, h32, hb1]; exact .r _) (fun hd => ?_) (fun hd => ?_)
    · have hd' : ¬ x.tables[i].length ≤ 90 := by simp at hd; omega
      repeat' first|refine W_seq ?_|refine W_block ?_|refine W_skip ?_|refine W_ret ?_|refine W_exit ?_|refine xb_hit ?_|refine xb_miss (by decide) ?_|(apply W_reg;(simp [h3, h30, h31, h32, hb1];exact .r _))
      rw [heq]
      simp [tblOk, hd']
    have hd' : x.tables[i].length ≤ 90 := by simp at hd; omega
    repeat' first|refine W_seq ?_|refine W_block ?_|refine W_skip ?_|refine W_ret ?_|refine W_exit ?_|refine xb_hit ?_|refine xb_miss (by decide) ?_|(apply W_reg;(simp [h3, h30, h31, h32, hb1];exact .r _))
    refine W_loop (n := x.tables[i].length) (fun n s => ∃ k : Nat, n = x.tables[i].length - k ∧ s.nt = 78 ∧ s.tm 3 = .ptr 1 0 ∧ s.tm 5 = In i ∧ s.tm 6 = Ar x.tables[i] ∧ s.tm 30 = Ar x.tables ∧ s.tm 31 = In x.tables.length ∧ s.tm 32 = In i ∧ s.tm 40 = Ar x.tables[i] ∧ s.tm 41 = In x.tables[i].length ∧ s.tm 42 = In k ∧ k ≤ x.tables[i].length ∧ s.σ.ob 1 = .box [Ar x.views, Ar x.tables, In x.version] ∧ chk (rowOk x.views[i].head.length) ltR x.tables[i] 0 = chk (rowOk x.views[i].head.length) ltR x.tables[i] k) ⟨0, by simp [h3, h30, h31, h32, hb1]⟩ ?_
    rintro n ⟨nt, tm, σ⟩ ⟨k, rfl, hnt, h3, h5, h6, h30, h31, h32, h40, h41, h42, hk, hb1, hek⟩
    simp only at hnt h3 h5 h6 h30 h31 h32 h40 h41 h42 hb1
    subst hnt
    repeat' first|refine W_seq ?_|refine W_block ?_|refine W_skip ?_|refine W_ret ?_|refine W_exit ?_|refine xb_hit ?_|refine xb_miss (by decide) ?_|(apply W_reg;(simp [h3, h5, h6, h30, h31, h32, h40, h41, h42, hb1];exact .r _))
    refine W_cond (by simp [h3, h5, h6, h30, h31, h32, h40, h41, h42, hb1]; exact .r _) (fun hcc => ?_) (fun hcc => ?_)
    · have hkl : k < x.tables[i].length := by simpa using hcc
      have hr := ht.2 _ (List.getElem_mem hkl)
      have c4 := cv (areValues_r x.tables[i][k] hr)
      rw [show (x.tables[i][k].all fun x => inR x 0 99) = vals x.tables[i][k] from rfl] at c4
      rw [chk_step hkl] at hek
      have hkk : ∀ b : Bool, rowOk x.views[i].head.length x.tables[i][k] = b → rowOk x.views[i].head.length x.tables[i][k] = b := fun _ h => h
      by_cases g1 : x.tables[i][k].length = x.views[i].head.length
      case neg =>
        have g1' : ¬ (x.tables[i][k].length : Int) = x.views[i].head.length := by omega
        repeat' first|refine W_seq ?_|refine W_block ?_|refine W_skip ?_|refine W_ret ?_|refine W_exit ?_|refine xb_hit ?_|refine xb_miss (by decide) ?_|(apply W_reg;(simp [h3, h5, h6, h30, h31, h32, h40, h41, h42, hb1, hkl, hiv, g1'];exact .r _))
        refine W_cond (by simp [h3, h5, h6, h30, h31, h32, h40, h41, h42, hb1]; exact .r _) (fun he => ?_) (fun he => ?_)
        · repeat' first|refine W_seq ?_|refine W_block ?_|refine W_skip ?_|refine W_ret ?_|refine W_exit ?_|refine xb_hit ?_|refine xb_miss (by decide) ?_|(apply W_reg;(simp [h3, h5, h6, h30, h31, h32, h40, h41, h42, hb1];exact .r _))
          rw [heq]; simp [tblOk, hek, rowOk, g1]
        · cases he
      have g1' : (x.tables[i][k].length : Int) = x.views[i].head.length := by omega
      cases g2 : vals x.tables[i][k]
      · repeat' first|refine W_seq ?_|refine W_block ?_|refine W_skip ?_|refine W_ret ?_|refine W_exit ?_|refine xb_hit ?_|refine xb_miss (by decide) ?_|(apply W_reg;(simp [h3, h5, h6, h30, h31, h32, h40, h41, h42, hb1, hkl, hiv, g1', c4, g2];exact .r _))
        refine W_cond (by simp [h3, h5, h6, h30, h31, h32, h40, h41, h42, hb1]; exact .r _) (fun he => ?_) (fun he => ?_)
        · repeat' first|refine W_seq ?_|refine W_block ?_|refine W_skip ?_|refine W_ret ?_|refine W_exit ?_|refine xb_hit ?_|refine xb_miss (by decide) ?_|(apply W_reg;(simp [h3, h5, h6, h30, h31, h32, h40, h41, h42, hb1];exact .r _))
          rw [heq]; simp [tblOk, hek, rowOk, g2]
        · cases he
      have hro : rowOk x.views[i].head.length x.tables[i][k] = true := by simp [rowOk, g1, g2]
      cases k with
      | zero =>
        repeat' first|refine W_seq ?_|refine W_block ?_|refine W_skip ?_|refine W_ret ?_|refine W_exit ?_|refine xb_hit ?_|refine xb_miss (by decide) ?_|(apply W_reg;(simp [h3, h5, h6, h30, h31, h32, h40, h41, h42, hb1, hkl, hiv, g1', c4, g2];exact .r _))
        refine W_cond (by simp [h3, h5, h6, h30, h31, h32, h40, h41, h42, hb1]; exact .r _) (fun he => ?_) (fun he => ?_)
        · cases he
        · repeat' first|refine W_seq ?_|refine W_block ?_|refine W_skip ?_|refine W_ret ?_|refine W_exit ?_|refine xb_hit ?_|refine xb_miss (by decide) ?_|(apply W_reg;(simp [h3, h5, h6, h30, h31, h32, h40, h41, h42, hb1];exact .r _))
          refine ⟨_, ?_, 1, rfl, rfl, ?_, ?_, ?_, ?_, ?_, ?_, ?_, ?_, ?_, by omega, ?_, (by rw [hek, hro]; rfl)⟩
          all_goals first|assumption|(simp [h3, h5, h6, h30, h31, h32, h40, h41, h42, hb1];done)|(simp [h3, h5, h6, h30, h31, h32, h40, h41, h42, hb1];omega)|(simp [h3, h5, h6, h30, h31, h32, h40, h41, h42, hb1];exact wrap_succ (by omega))|omega
      | succ k =>
        have hk1 : k < x.tables[i].length := by omega
        have c5 := cv (cmpRow_r x.tables[i][k] x.tables[i][k + 1] (ht.2 _ (List.getElem_mem hk1)))
        have wr1_ : IntKind.i64.wrap ((k : Int)) = (k : Int) := wrap_ok (by omega) (by omega)
        repeat' first|refine W_seq ?_|refine W_block ?_|refine W_skip ?_|refine W_ret ?_|refine W_exit ?_|refine xb_hit ?_|refine xb_miss (by decide) ?_|(apply W_reg;(simp [h3, h5, h6, h30, h31, h32, h40, h41, h42, hb1, wr1_, hkl, hk1, hiv, g1', c4, g2, c5, show (0 : Int) < (k : Int) + 1 by omega, show (0 : Int) ≤ (k : Int) + 1 by omega, show ((k : Int) + 1).toNat = k + 1 by omega];exact .r _))
        refine W_cond (by simp [h3, h5, h6, h30, h31, h32, h40, h41, h42, hb1, wr1_]; exact .r _) (fun he => ?_) (fun he => ?_)
        · have he' : ¬ cmpI x.tables[i][k] x.tables[i][k + 1] < 0 := by simp at he; omega
          repeat' first|refine W_seq ?_|refine W_block ?_|refine W_skip ?_|refine W_ret ?_|refine W_exit ?_|refine xb_hit ?_|refine xb_miss (by decide) ?_|(apply W_reg;(simp [h3, h5, h6, h30, h31, h32, h40, h41, h42, hb1, wr1_];exact .r _))
          rw [heq]; simp [tblOk, hek, ltR, he']
        · have he' : cmpI x.tables[i][k] x.tables[i][k + 1] < 0 := by simp at he; omega
          repeat' first|refine W_seq ?_|refine W_block ?_|refine W_skip ?_|refine W_ret ?_|refine W_exit ?_|refine xb_hit ?_|refine xb_miss (by decide) ?_|(apply W_reg;(simp [h3, h5, h6, h30, h31, h32, h40, h41, h42, hb1, wr1_];exact .r _))
          refine ⟨_, ?_, k + 1 + 1, rfl, rfl, ?_, ?_, ?_, ?_, ?_, ?_, ?_, ?_, (by simp [h42]; rw [wrap_ok (by omega) (by omega)]; omega), by omega, ?_, (by rw [hek, hro]; simp [ltR, he'])⟩
          all_goals first|assumption|(simp [h3, h5, h6, h30, h31, h32, h40, h41, h42, hb1, wr1_];done)|(simp [h3, h5, h6, h30, h31, h32, h40, h41, h42, hb1, wr1_];omega)|(simp [h3, h5, h6, h30, h31, h32, h40, h41, h42, hb1, wr1_];exact wrap_succ (by omega))|omega
    · have hkl : k = x.tables[i].length := by simp at hcc; omega
      subst hkl
      rw [chk_end] at hek
      repeat' first|refine W_seq ?_|refine W_block ?_|refine W_skip ?_|refine W_ret ?_|refine W_exit ?_|refine xb_hit ?_|refine xb_miss (by decide) ?_|(apply W_reg;(simp [h3, h5, h6, h30, h31, h32, h40, h41, h42, hb1];exact .r _))
      refine ⟨_, ?_, i + 1, rfl, rfl, ?_, ?_, ?_, ?_, by omega, ?_, (by rw [heq]; simp [tblOk, hd', hek])⟩
      all_goals first|assumption|(simp [h3, h30, h31, h32, hb1, hb1, h3, h30, h31, h32];done)|(simp [h3, h30, h31, h32, hb1, hb1, h3, h30, h31, h32];omega)|(simp [h3, h30, h31, h32, hb1, hb1, h3, h30, h31, h32];exact wrap_succ (by omega))|omega
  · have hil : i = x.tables.length := by simp at hc; omega
    subst hil
    rw [tabsOk_end] at heq
    repeat' first|refine W_seq ?_|refine W_block ?_|refine W_skip ?_|refine W_ret ?_|refine W_exit ?_|refine xb_hit ?_|refine xb_miss (by decide) ?_|(apply W_reg;(simp [h3, h30, h31, h32, hb1];exact .r _))
    simp [heq]
theorem vals_cons {x : Int} {l : List Int} : vals (x :: l) = (inR x 0 99 && vals l) := rfl
theorem vals_nil : vals [] = true := rfl
set_option maxHeartbeats 1000000 in
theorem specIsCch_r (c : Sch) (x : Cch) (sc : Sm c.arity) (h : SmC x) : Ret XX 215 [Ag c, Ag x] (.t (.b (isCch c x)) false) := by
  refine ret_W rfl Tryz.func215 rfl rfl (by simp [Tryz.f215]) ?_
  simp only [Tryz.f215]
  obtain ⟨h1, h2, h3, h4⟩ := h
  have c1 := cv (specAreVs_r c x.views sc h1 h2)
  have c2 := cv (l1In_r x.version 0 1000)
  simp only [Ag, cells_Sch, cells_Q, List.map_cons, List.map_nil] at c1
  cases e1 : areVs c x.views
  · repeat' first|refine W_seq ?_|refine W_block ?_|refine W_skip ?_|refine W_ret ?_|refine W_exit ?_|refine xb_hit ?_|refine xb_miss (by decide) ?_|(apply W_reg;(simp [Ag, c1, e1];exact .r _))
    refine W_cond (by simp; exact .r _) (fun hc => ?_) (fun hc => ?_)
    · repeat' first|refine W_seq ?_|refine W_block ?_|refine W_skip ?_|refine W_ret ?_|refine W_exit ?_|refine xb_hit ?_|refine xb_miss (by decide) ?_|(apply W_reg;(simp;exact .r _))
      simp [isCch, e1]
    · cases hc
  by_cases e2 : x.tables.length = x.views.length
  case neg =>
    have e2' : ¬ (x.tables.length : Int) = x.views.length := by omega
    repeat' first|refine W_seq ?_|refine W_block ?_|refine W_skip ?_|refine W_ret ?_|refine W_exit ?_|refine xb_hit ?_|refine xb_miss (by decide) ?_|(apply W_reg;(simp [Ag, c1, e1, e2'];exact .r _))
    refine W_cond (by simp; exact .r _) (fun hc => ?_) (fun hc => ?_)
    · repeat' first|refine W_seq ?_|refine W_block ?_|refine W_skip ?_|refine W_ret ?_|refine W_exit ?_|refine xb_hit ?_|refine xb_miss (by decide) ?_|(apply W_reg;(simp;exact .r _))
      simp [isCch, e2]
    · cases hc
  have e2' : (x.tables.length : Int) = x.views.length := by omega
  cases e3 : inR x.version 0 1000
  · repeat' first|refine W_seq ?_|refine W_block ?_|refine W_skip ?_|refine W_ret ?_|refine W_exit ?_|refine xb_hit ?_|refine xb_miss (by decide) ?_|(apply W_reg;(simp [Ag, c1, e1, e2', c2, e3];exact .r _))
    refine W_cond (by simp; exact .r _) (fun hc => ?_) (fun hc => ?_)
    · repeat' first|refine W_seq ?_|refine W_block ?_|refine W_skip ?_|refine W_ret ?_|refine W_exit ?_|refine xb_hit ?_|refine xb_miss (by decide) ?_|(apply W_reg;(simp;exact .r _))
      simp [isCch, e3]
    · cases hc
  repeat' first|refine W_seq ?_|refine W_block ?_|refine W_skip ?_|refine W_ret ?_|refine W_exit ?_|refine xb_hit ?_|refine xb_miss (by decide) ?_|(apply W_reg;(simp [Ag, c1, e1, e2', c2, e3];exact .r _))
  refine W_cond (by simp; exact .r _) (fun hc => ?_) (fun hc => ?_)
  · cases hc
  repeat' first|refine W_seq ?_|refine W_block ?_|refine W_skip ?_|refine W_ret ?_|refine W_exit ?_|refine xb_hit ?_|refine xb_miss (by decide) ?_|(apply W_reg;(simp;exact .r _))
  refine W_loop (n := x.tables.length) (fun n s => ∃ i : Nat, n = x.tables.length - i ∧ s.nt = 98 ∧ s.tm 3 = .ptr 1 0 ∧ s.tm 5 = In i ∧ i ≤ x.tables.length ∧ s.σ.ob 1 = .box [Ar x.views, Ar x.tables, In x.version] ∧ isCch c x = tabsOk (x.views.drop i) (x.tables.drop i)) ⟨0, by simp [e2', isCch, e1, e2, e3]⟩ ?_
  rintro n ⟨nt, tm, σ⟩ ⟨i, rfl, hnt, h3, h5, hi, hb1, heq⟩
  simp only at hnt h3 h5 hb1
  subst hnt
  repeat' first|refine W_seq ?_|refine W_block ?_|refine W_skip ?_|refine W_ret ?_|refine W_exit ?_|refine xb_hit ?_|refine xb_miss (by decide) ?_|(apply W_reg;(simp [h3, h5, hb1];exact .r _))
  refine W_cond (by simp [h3, h5, hb1]; exact .r _) (fun hc => ?_) (fun hc => ?_)
  · have hil : i < x.tables.length := by simpa using hc
    have hiv : i < x.views.length := by omega
    have ht := h4 _ (List.getElem_mem hil)
    rw [tabsOk_drop hil hiv] at heq
    repeat' first|refine W_seq ?_|refine W_block ?_|refine W_skip ?_|refine W_ret ?_|refine W_exit ?_|refine xb_hit ?_|refine xb_miss (by decide) ?_|(apply W_reg;(simp [h3, h5, hb1, hil];exact .r _))
    refine W_loop (n := x.tables[i].length) (fun n s => ∃ k : Nat, n = x.tables[i].length - k ∧ s.nt = 98 ∧ s.tm 3 = .ptr 1 0 ∧ s.tm 5 = In i ∧ s.tm 6 = Ar x.tables[i] ∧ s.tm 7 = In k ∧ k ≤ x.tables[i].length ∧ s.σ.ob 1 = .box [Ar x.views, Ar x.tables, In x.version] ∧ chk (rowOk x.views[i].head.length) ltR x.tables[i] 0 = chk (rowOk x.views[i].head.length) ltR x.tables[i] k) ⟨0, by simp [h3, h5, hb1]⟩ ?_
    rintro n ⟨nt, tm, σ⟩ ⟨k, rfl, hnt, h3, h5, h6, h7, hk, hb1, hek⟩
    simp only at hnt h3 h5 h6 h7 hb1
    subst hnt
    repeat' first|refine W_seq ?_|refine W_block ?_|refine W_skip ?_|refine W_ret ?_|refine W_exit ?_|refine xb_hit ?_|refine xb_miss (by decide) ?_|(apply W_reg;(simp [h3, h5, h6, h7, hb1];exact .r _))
    refine W_cond (by simp [h3, h5, h6, h7, hb1]; exact .r _) (fun hcc => ?_) (fun hcc => ?_)
    · have hkl : k < x.tables[i].length := by simpa using hcc
      have hr := ht.2 _ (List.getElem_mem hkl)
      rw [chk_step hkl] at hek
      by_cases g1 : x.tables[i][k].length = x.views[i].head.length
      case neg =>
        have g1' : ¬ (x.tables[i][k].length : Int) = x.views[i].head.length := by omega
        repeat' first|refine W_seq ?_|refine W_block ?_|refine W_skip ?_|refine W_ret ?_|refine W_exit ?_|refine xb_hit ?_|refine xb_miss (by decide) ?_|(apply W_reg;(simp [h3, h5, h6, h7, hb1, hkl, hiv, g1'];exact .r _))|(apply W_draw (id := 10) [0,0,3,7,15,0,32,0,224,480,992,2016,4095,8191,16383,32767,65535,131071,131071,393215,1048575,2097151,131071,131071,12713983,29491199,67108863,134217727,268435455,536870911] rfl rfl; (· simp; exact .r _); (· simp [h3, h5, h6, h7, hb1, hkl, hiv, g1']; exact .r _); (· first|trivial|simp))
        refine W_cond (by simp [h3, h5, h6, h7, hb1]; exact .r _) (fun he => ?_) (fun he => ?_)
        · repeat' first|refine W_seq ?_|refine W_block ?_|refine W_skip ?_|refine W_ret ?_|refine W_exit ?_|refine xb_hit ?_|refine xb_miss (by decide) ?_|(apply W_reg;(simp [h3, h5, h6, h7, hb1];exact .r _))
          rw [heq]; simp [tblOk, hek, rowOk, g1]
        · cases he
      have g1' : (x.tables[i][k].length : Int) = x.views[i].head.length := by omega
      -- the order
      by_cases g2 : k = 0 ∨ cmpI x.tables[i][k - 1] x.tables[i][k] < 0
      case neg =>
        obtain ⟨k', rfl⟩ : ∃ k', k = k' + 1 := ⟨k - 1, by omega⟩
        have hk1 : k' < x.tables[i].length := by omega
        have he' : ¬ cmpI x.tables[i][k'] x.tables[i][k' + 1] < 0 := fun h => g2 (.inr h)
        have c5 := cv (l2Less_r x.tables[i][k'] x.tables[i][k' + 1] (ht.2 _ (List.getElem_mem hk1)))
        have wr2_ : IntKind.i64.wrap ((k' : Int)) = (k' : Int) := wrap_ok (by omega) (by omega)
        repeat' first|refine W_seq ?_|refine W_block ?_|refine W_skip ?_|refine W_ret ?_|refine W_exit ?_|refine xb_hit ?_|refine xb_miss (by decide) ?_|(apply W_reg;(simp [h3, h5, h6, h7, hb1, wr2_, hkl, hk1, hiv, g1', c5, he', show (0 : Int) < (k' : Int) + 1 by omega, show (0 : Int) ≤ (k' : Int) + 1 by omega, show ((k' : Int) + 1).toNat = k' + 1 by omega];exact .r _))|(apply W_draw (id := 10) [0,0,3,7,15,0,32,0,224,480,992,2016,4095,8191,16383,32767,65535,131071,131071,393215,1048575,2097151,131071,131071,12713983,29491199,67108863,134217727,268435455,536870911] rfl rfl; (· simp; exact .r _); (· simp [h3, h5, h6, h7, hb1, wr2_, hkl, hk1, hiv, g1', c5, he', show (0 : Int) < (k' : Int) + 1 by omega, show (0 : Int) ≤ (k' : Int) + 1 by omega, show ((k' : Int) + 1).toNat = k' + 1 by omega]; exact .r _); (· first|trivial|simp))
        refine W_cond (by simp [h3, h5, h6, h7, hb1, wr2_]; exact .r _) (fun he => ?_) (fun he => ?_)
        · repeat' first|refine W_seq ?_|refine W_block ?_|refine W_skip ?_|refine W_ret ?_|refine W_exit ?_|refine xb_hit ?_|refine xb_miss (by decide) ?_|(apply W_reg;(simp [h3, h5, h6, h7, hb1, wr2_];exact .r _))
          rw [heq]; simp [tblOk, hek, ltR, he']
        · cases he
      have gord : (k == 0 || ltR x.tables[i][k - 1] x.tables[i][k]) = true := by
        rcases g2 with g | g
        · simp [g]
        · simp [ltR, g]
      rw [gord, Bool.and_true] at hek
      rcases Nat.eq_zero_or_pos k with h0 | h0
      · repeat' first|refine W_seq ?_|refine W_block ?_|refine W_skip ?_|refine W_ret ?_|refine W_exit ?_|refine xb_hit ?_|refine xb_miss (by decide) ?_|(apply W_reg;(simp [h3, h5, h6, h7, hb1, hkl, hiv, g1', show ¬ 0 < k by omega];exact .r _))|(apply W_draw (id := 10) [0,0,3,7,15,0,32,0,224,480,992,2016,4095,8191,16383,32767,65535,131071,131071,393215,1048575,2097151,131071,131071,12713983,29491199,67108863,134217727,268435455,536870911] rfl rfl; (· simp; exact .r _); (· simp [h3, h5, h6, h7, hb1, hkl, hiv, g1', show ¬ 0 < k by omega]; exact .r _); (· first|trivial|simp))
        refine W_cond (by simp [h3, h5, h6, h7, hb1]; exact .r _) (fun he => ?_) (fun he => ?_)
        · cases he
        repeat' first|refine W_seq ?_|refine W_block ?_|refine W_skip ?_|refine W_ret ?_|refine W_exit ?_|refine xb_hit ?_|refine xb_miss (by decide) ?_|(apply W_reg;(simp [h3, h5, h6, h7, hb1];exact .r _))
        refine W_loop (n := x.tables[i][k].length) (fun n s => ∃ j : Nat, n = x.tables[i][k].length - j ∧ s.nt = 98 ∧ s.tm 3 = .ptr 1 0 ∧ s.tm 5 = In i ∧ s.tm 6 = Ar x.tables[i] ∧ s.tm 7 = In k ∧ s.tm 8 = In j ∧ j ≤ x.tables[i][k].length ∧ s.σ.ob 1 = .box [Ar x.views, Ar x.tables, In x.version] ∧ vals x.tables[i][k] = vals (x.tables[i][k].drop j)) ⟨0, by simp [h3, h5, h6, h7, hb1]⟩ ?_
        rintro n ⟨nt, tm, σ⟩ ⟨j, rfl, hnt, h3, h5, h6, h7, h8, hj, hb1, hev⟩
        simp only at hnt h3 h5 h6 h7 h8 hb1
        subst hnt
        repeat' first|refine W_seq ?_|refine W_block ?_|refine W_skip ?_|refine W_ret ?_|refine W_exit ?_|refine xb_hit ?_|refine xb_miss (by decide) ?_|(apply W_reg;(simp [h3, h5, h6, h7, h8, hb1, hkl];exact .r _))
        refine W_cond (by simp [h3, h5, h6, h7, h8, hb1]; exact .r _) (fun hcj => ?_) (fun hcj => ?_)
        · have hjl : j < x.tables[i][k].length := by simpa using hcj
          have c6 := cv (l1In_r x.tables[i][k][j] 0 99)
          rw [List.drop_eq_getElem_cons hjl, vals_cons] at hev
          cases g4 : inR x.tables[i][k][j] 0 99
          · repeat' first|refine W_seq ?_|refine W_block ?_|refine W_skip ?_|refine W_ret ?_|refine W_exit ?_|refine xb_hit ?_|refine xb_miss (by decide) ?_|(apply W_reg;(simp [h3, h5, h6, h7, h8, hb1, hkl, hjl, c6, g4];exact .r _))
            refine W_cond (by simp [h3, h5, h6, h7, h8, hb1]; exact .r _) (fun hz => ?_) (fun hz => ?_)
            · repeat' first|refine W_seq ?_|refine W_block ?_|refine W_skip ?_|refine W_ret ?_|refine W_exit ?_|refine xb_hit ?_|refine xb_miss (by decide) ?_|(apply W_reg;(simp [h3, h5, h6, h7, h8, hb1];exact .r _))
              rw [g4] at hev
              rw [heq]; simp [tblOk, hek, rowOk, hev]
            · cases hz
          · repeat' first|refine W_seq ?_|refine W_block ?_|refine W_skip ?_|refine W_ret ?_|refine W_exit ?_|refine xb_hit ?_|refine xb_miss (by decide) ?_|(apply W_reg;(simp [h3, h5, h6, h7, h8, hb1, hkl, hjl, c6, g4];exact .r _))
            refine W_cond (by simp [h3, h5, h6, h7, h8, hb1]; exact .r _) (fun hz => ?_) (fun hz => ?_)
            · cases hz
            repeat' first|refine W_seq ?_|refine W_block ?_|refine W_skip ?_|refine W_ret ?_|refine W_exit ?_|refine xb_hit ?_|refine xb_miss (by decide) ?_|(apply W_reg;(simp [h3, h5, h6, h7, h8, hb1];exact .r _))
            refine ⟨_, ?_, j + 1, rfl, rfl, ?_, ?_, ?_, ?_, ?_, by omega, ?_, (by rw [hev, g4]; rfl)⟩
            all_goals first|assumption|(simp [h3, h5, h6, h7, h8, hb1];done)|(simp [h3, h5, h6, h7, h8, hb1];omega)|(simp [h3, h5, h6, h7, h8, hb1];exact wrap_succ (by omega))|omega
        · have hjl : j = x.tables[i][k].length := by simp at hcj; omega
          subst hjl
          rw [List.drop_length, vals_nil] at hev
          repeat' first|refine W_seq ?_|refine W_block ?_|refine W_skip ?_|refine W_ret ?_|refine W_exit ?_|refine xb_hit ?_|refine xb_miss (by decide) ?_|(apply W_reg;(simp [h3, h5, h6, h7, h8, hb1];exact .r _))
          refine ⟨_, ?_, k + 1, rfl, rfl, ?_, ?_, ?_, ?_, by omega, ?_, (by rw [hek]; simp [rowOk, g1, hev])⟩
          all_goals first|assumption|(simp [h3, h5, h6, h7, hb1, hb1, h3, h5, h6, h7];done)|(simp [h3, h5, h6, h7, hb1, hb1, h3, h5, h6, h7];omega)|(simp [h3, h5, h6, h7, hb1, hb1, h3, h5, h6, h7];exact wrap_succ (by omega))|omega
      · have hlt : cmpI x.tables[i][k - 1] x.tables[i][k] < 0 := g2.resolve_left (by omega)
        have hk1 : k - 1 < x.tables[i].length := by omega
        have c5 := cv (l2Less_r x.tables[i][k - 1] x.tables[i][k] (ht.2 _ (List.getElem_mem hk1)))
        have wr3_ : IntKind.i64.wrap ((k : Int) - 1) = (k : Int) - 1 := wrap_ok (by omega) (by omega)
        repeat' first|refine W_seq ?_|refine W_block ?_|refine W_skip ?_|refine W_ret ?_|refine W_exit ?_|refine xb_hit ?_|refine xb_miss (by decide) ?_|(apply W_reg;(simp [h3, h5, h6, h7, hb1, wr3_, hkl, hk1, hiv, g1', c5, hlt, show 0 < k by omega, show (1 : Int) ≤ (k : Int) by omega, show ((k : Int) - 1).toNat = k - 1 by omega];exact .r _))|(apply W_draw (id := 10) [0,0,3,7,15,0,32,0,224,480,992,2016,4095,8191,16383,32767,65535,131071,131071,393215,1048575,2097151,131071,131071,12713983,29491199,67108863,134217727,268435455,536870911] rfl rfl; (· simp; exact .r _); (· simp [h3, h5, h6, h7, hb1, wr3_, hkl, hk1, hiv, g1', c5, hlt, show 0 < k by omega, show (1 : Int) ≤ (k : Int) by omega, show ((k : Int) - 1).toNat = k - 1 by omega]; exact .r _); (· first|trivial|simp))
        refine W_cond (by simp [h3, h5, h6, h7, hb1, wr3_]; exact .r _) (fun he => ?_) (fun he => ?_)
        · cases he
        repeat' first|refine W_seq ?_|refine W_block ?_|refine W_skip ?_|refine W_ret ?_|refine W_exit ?_|refine xb_hit ?_|refine xb_miss (by decide) ?_|(apply W_reg;(simp [h3, h5, h6, h7, hb1, wr3_];exact .r _))
        refine W_loop (n := x.tables[i][k].length) (fun n s => ∃ j : Nat, n = x.tables[i][k].length - j ∧ s.nt = 98 ∧ s.tm 3 = .ptr 1 0 ∧ s.tm 5 = In i ∧ s.tm 6 = Ar x.tables[i] ∧ s.tm 7 = In k ∧ s.tm 8 = In j ∧ j ≤ x.tables[i][k].length ∧ s.σ.ob 1 = .box [Ar x.views, Ar x.tables, In x.version] ∧ vals x.tables[i][k] = vals (x.tables[i][k].drop j)) ⟨0, by simp [h3, h5, h6, h7, hb1, wr3_]⟩ ?_
        rintro n ⟨nt, tm, σ⟩ ⟨j, rfl, hnt, h3, h5, h6, h7, h8, hj, hb1, hev⟩
        simp only at hnt h3 h5 h6 h7 h8 hb1
        subst hnt
        repeat' first|refine W_seq ?_|refine W_block ?_|refine W_skip ?_|refine W_ret ?_|refine W_exit ?_|refine xb_hit ?_|refine xb_miss (by decide) ?_|(apply W_reg;(simp [h3, h5, h6, h7, h8, hb1, hkl];exact .r _))
        refine W_cond (by simp [h3, h5, h6, h7, h8, hb1]; exact .r _) (fun hcj => ?_) (fun hcj => ?_)
        · have hjl : j < x.tables[i][k].length := by simpa using hcj
          have c6 := cv (l1In_r x.tables[i][k][j] 0 99)
          rw [List.drop_eq_getElem_cons hjl, vals_cons] at hev
          cases g4 : inR x.tables[i][k][j] 0 99
          · repeat' first|refine W_seq ?_|refine W_block ?_|refine W_skip ?_|refine W_ret ?_|refine W_exit ?_|refine xb_hit ?_|refine xb_miss (by decide) ?_|(apply W_reg;(simp [h3, h5, h6, h7, h8, hb1, hkl, hjl, c6, g4];exact .r _))
            refine W_cond (by simp [h3, h5, h6, h7, h8, hb1]; exact .r _) (fun hz => ?_) (fun hz => ?_)
            · repeat' first|refine W_seq ?_|refine W_block ?_|refine W_skip ?_|refine W_ret ?_|refine W_exit ?_|refine xb_hit ?_|refine xb_miss (by decide) ?_|(apply W_reg;(simp [h3, h5, h6, h7, h8, hb1];exact .r _))
              rw [g4] at hev
              rw [heq]; simp [tblOk, hek, rowOk, hev]
            · cases hz
          · repeat' first|refine W_seq ?_|refine W_block ?_|refine W_skip ?_|refine W_ret ?_|refine W_exit ?_|refine xb_hit ?_|refine xb_miss (by decide) ?_|(apply W_reg;(simp [h3, h5, h6, h7, h8, hb1, hkl, hjl, c6, g4];exact .r _))
            refine W_cond (by simp [h3, h5, h6, h7, h8, hb1]; exact .r _) (fun hz => ?_) (fun hz => ?_)
            · cases hz
            repeat' first|refine W_seq ?_|refine W_block ?_|refine W_skip ?_|refine W_ret ?_|refine W_exit ?_|refine xb_hit ?_|refine xb_miss (by decide) ?_|(apply W_reg;(simp [h3, h5, h6, h7, h8, hb1];exact .r _))
            refine ⟨_, ?_, j + 1, rfl, rfl, ?_, ?_, ?_, ?_, ?_, by omega, ?_, (by rw [hev, g4]; rfl)⟩
            all_goals first|assumption|(simp [h3, h5, h6, h7, h8, hb1];done)|(simp [h3, h5, h6, h7, h8, hb1];omega)|(simp [h3, h5, h6, h7, h8, hb1];exact wrap_succ (by omega))|omega
        · have hjl : j = x.tables[i][k].length := by simp at hcj; omega
          subst hjl
          rw [List.drop_length, vals_nil] at hev
          repeat' first|refine W_seq ?_|refine W_block ?_|refine W_skip ?_|refine W_ret ?_|refine W_exit ?_|refine xb_hit ?_|refine xb_miss (by decide) ?_|(apply W_reg;(simp [h3, h5, h6, h7, h8, hb1];exact .r _))
          refine ⟨_, ?_, k + 1, rfl, rfl, ?_, ?_, ?_, ?_, by omega, ?_, (by rw [hek]; simp [rowOk, g1, hev])⟩
          all_goals first|assumption|(simp [h3, h5, h6, h7, hb1, hb1, h3, h5, h6, h7];done)|(simp [h3, h5, h6, h7, hb1, hb1, h3, h5, h6, h7];omega)|(simp [h3, h5, h6, h7, hb1, hb1, h3, h5, h6, h7];exact wrap_succ (by omega))|omega
    · have hkl : k = x.tables[i].length := by simp at hcc; omega
      subst hkl
      rw [chk_end] at hek
      repeat' first|refine W_seq ?_|refine W_block ?_|refine W_skip ?_|refine W_ret ?_|refine W_exit ?_|refine xb_hit ?_|refine xb_miss (by decide) ?_|(apply W_reg;(simp [h3, h5, h6, h7, hb1];exact .r _))
      refine W_cond (by simp [h3, h5, h6, h7, hb1]; exact .r _) (fun hd => ?_) (fun hd => ?_)
      · have hd' : ¬ x.tables[i].length ≤ 90 := by simp at hd; omega
        repeat' first|refine W_seq ?_|refine W_block ?_|refine W_skip ?_|refine W_ret ?_|refine W_exit ?_|refine xb_hit ?_|refine xb_miss (by decide) ?_|(apply W_reg;(simp [h3, h5, h6, h7, hb1];exact .r _))
        rw [heq]
        simp [tblOk, hd']
      have hd' : x.tables[i].length ≤ 90 := by simp at hd; omega
      repeat' first|refine W_seq ?_|refine W_block ?_|refine W_skip ?_|refine W_ret ?_|refine W_exit ?_|refine xb_hit ?_|refine xb_miss (by decide) ?_|(apply W_reg;(simp [h3, h5, h6, h7, hb1];exact .r _))
      refine ⟨_, ?_, i + 1, rfl, rfl, ?_, ?_, by omega, ?_, by (rw [heq]; simp [tblOk, hd', hek])⟩
      all_goals first|assumption|(simp [h3, h5, hb1, hb1, h3, h5];done)|(simp [h3, h5, hb1, hb1, h3, h5];omega)|(simp [h3, h5, hb1, hb1, h3, h5];exact wrap_succ (by omega))|omega
  · have hil : i = x.tables.length := by simp at hc; omega
    subst hil
    rw [tabsOk_end] at heq
    repeat' first|refine W_seq ?_|refine W_block ?_|refine W_skip ?_|refine W_ret ?_|refine W_exit ?_|refine xb_hit ?_|refine xb_miss (by decide) ?_|(apply W_reg;(simp [h3, h5, hb1];exact .r _))
    simp [heq]
end Go.Proofs.YtmfifjbbjjdacaaGreat.V

namespace Go.Proofs.YtmfifjbbjjdacaaGreat.V
open Go Go.Proofs
set_option linter.unusedVariables false
set_option linter.unusedSimpArgs false
abbrev xvF (a : RA) : XV := .agg [.t (.i .i64 a.rel) false, .own 1 (rowsE a.args)]
/-- Lengths of facts. -/
def SmF (l : List RA) : Prop := Sm l ∧ ∀ a ∈ l, Sm a.args
theorem copyFact_r (a : RA) (h : Sm a.args) : Ret XX 332 [Ag a] (xvF a) := by
  refine ret_W rfl Tryz.func332 rfl rfl (by simp [Tryz.f332]) ?_
  simp only [Tryz.f332]
  have c1 := cv (copyInts_r a.args h)
  repeat' first|refine W_seq ?_|refine W_block ?_|refine W_skip ?_|refine W_ret ?_|refine W_exit ?_|refine xb_hit ?_|refine xb_miss (by decide) ?_|(apply W_reg;(simp [Ag, c1];exact .r _))|(apply W_draw (id := 1) [0,1,0,4,12,31,63] rfl rfl; (· simp; exact .r _); (· simp [Ag, c1]; exact .r _); (· first|trivial|simp))
  simp
theorem l5Copy_r (a : RA) (h : Sm a.args) : Ret XX 169 [Ag a] (xvF a) := by
  refine ret_W rfl Tryz.func169 rfl rfl (by simp [Tryz.f169]) ?_
  simp only [Tryz.f169]
  repeat' first|refine W_seq ?_|refine W_block ?_|refine W_skip ?_|refine W_ret ?_|refine W_exit ?_|refine xb_hit ?_|refine xb_miss (by decide) ?_|(apply W_reg;(simp [Ag, show a.args.length < 1099511627776 by unfold Sm at h; omega];exact .r _))|(apply W_draw (id := 1) [0,1,0,0,8,28,63,127] rfl rfl; (· simp; exact .r _); (· simp [Ag, show a.args.length < 1099511627776 by unfold Sm at h; omega]; exact .r _); (· first|trivial|simp))
  simp
theorem copyFacts_r (l : List RA) (h : SmF l) : Ret XX 293 [Ar l] (.own 2 (rowsE l)) := by
  refine ret_W rfl Tryz.func293 rfl rfl (by simp [Tryz.f293]) ?_
  simp only [Tryz.f293]
  have hs : l.length < 1099511627775 := h.1
  repeat' first|refine W_seq ?_|refine W_block ?_|refine W_skip ?_|refine W_ret ?_|refine W_exit ?_|refine xb_hit ?_|refine xb_miss (by decide) ?_|(apply W_reg;(simp;exact .r _))
  refine W_loop (n := l.length) (fun n s => ∃ i : Nat, n = l.length - i ∧ s.nt = 20 ∧ s.tm 3 = .ref 0 i [] ∧ s.tm 7 = Ar l ∧ s.tm 8 = In l.length ∧ s.tm 9 = In i ∧ i ≤ l.length ∧ s.σ.ob 0 = .arr (.own 0) 0 2 (rowsE (l.take i)) ∧ 1 ≤ s.σ.n) ⟨0, by simp⟩ ?_
  rintro n ⟨nt, tm, σ⟩ ⟨i, rfl, hnt, h3, h7, h8, h9, hi, ho, hn⟩
  simp only at hnt h3 h7 h8 h9 ho hn
  subst hnt
  have ap1_ := apart hn
  repeat' first|refine W_seq ?_|refine W_block ?_|refine W_skip ?_|refine W_ret ?_|refine W_exit ?_|refine xb_hit ?_|refine xb_miss (by decide) ?_|(apply W_reg;(simp [h3, h7, h8, h9, ho, hn, ap1_];exact .r _))
  refine W_cond (by simp [h3, h7, h8, h9, ho, hn, ap1_]; exact .r _) (fun hc => ?_) (fun hc => ?_)
  · have hil : i < l.length := by simpa using hc
    have c1 := cv (copyFact_r l[i] (h.2 _ (List.getElem_mem hil)))
    simp only [Ag, cells_RA, List.map_cons, List.map_nil] at c1
    repeat' first|refine W_seq ?_|refine W_block ?_|refine W_skip ?_|refine W_ret ?_|refine W_exit ?_|refine xb_hit ?_|refine xb_miss (by decide) ?_|(apply W_reg;(simp [h3, h7, h8, h9, ho, hn, ap1_, hil, c1, show min i l.length = i by omega, show i + 1 < 1099511627776 by omega];exact .r _))
    refine ⟨_, ?_, i + 1, rfl, rfl, ?_, ?_, ?_, ?_, by omega, (by simp [h3, h7, h8, h9, ho, hn, ap1_]; rw [rowsE_take l i hil]; simp), ?_⟩
    all_goals first|assumption|(simp [h3, h7, h8, h9, ho, hn, ap1_];done)|(simp [h3, h7, h8, h9, ho, hn, ap1_];omega)|(simp [h3, h7, h8, h9, ho, hn, ap1_];exact wrap_succ (by omega))|omega
  · have hil : i = l.length := by simp at hc; omega
    subst hil
    rw [List.take_length] at ho
    repeat' first|refine W_seq ?_|refine W_block ?_|refine W_skip ?_|refine W_ret ?_|refine W_exit ?_|refine xb_hit ?_|refine xb_miss (by decide) ?_|(apply W_reg;(simp [h3, h7, h8, h9, ho, hn, ap1_];exact .r _))
    simp [ho]
theorem l5All_r (l : List RA) (h : SmF l) : Ret XX 173 [Ar l] (.own 2 (rowsE l)) := by
  refine ret_W rfl Tryz.func173 rfl rfl (by simp [Tryz.f173]) ?_
  simp only [Tryz.f173]
  have hs : l.length < 1099511627775 := h.1
  repeat' first|refine W_seq ?_|refine W_block ?_|refine W_skip ?_|refine W_ret ?_|refine W_exit ?_|refine xb_hit ?_|refine xb_miss (by decide) ?_|(apply W_reg;(simp;exact .r _))
  refine W_loop (n := l.length) (fun n s => ∃ i : Nat, n = l.length - i ∧ s.nt = 23 ∧ s.tm 0 = Ar l ∧ s.tm 3 = .ref 0 i [] ∧ s.tm 4 = In i ∧ i ≤ l.length ∧ s.σ.ob 0 = .arr (.own 0) 0 2 (rowsE (l.take i)) ∧ 1 ≤ s.σ.n) ⟨0, by simp⟩ ?_
  rintro n ⟨nt, tm, σ⟩ ⟨i, rfl, hnt, h0, h3, h4, hi, ho, hn⟩
  simp only at hnt h0 h3 h4 ho hn
  subst hnt
  have ap2_ := apart hn
  repeat' first|refine W_seq ?_|refine W_block ?_|refine W_skip ?_|refine W_ret ?_|refine W_exit ?_|refine xb_hit ?_|refine xb_miss (by decide) ?_|(apply W_reg;(simp [h0, h3, h4, ho, hn, ap2_];exact .r _))
  refine W_cond (by simp [h0, h3, h4, ho, hn, ap2_]; exact .r _) (fun hc => ?_) (fun hc => ?_)
  · have hil : i < l.length := by simpa using hc
    have c1 := cv (l5Copy_r l[i] (h.2 _ (List.getElem_mem hil)))
    simp only [Ag, cells_RA, List.map_cons, List.map_nil] at c1
    repeat' first|refine W_seq ?_|refine W_block ?_|refine W_skip ?_|refine W_ret ?_|refine W_exit ?_|refine xb_hit ?_|refine xb_miss (by decide) ?_|(apply W_reg;(simp [h0, h3, h4, ho, hn, ap2_, hil, c1, show min i l.length = i by omega, show i + 1 < 1099511627776 by omega];exact .r _))
    refine ⟨_, ?_, i + 1, rfl, rfl, ?_, ?_, ?_, by omega, (by simp [h0, h3, h4, ho, hn, ap2_]; rw [rowsE_take l i hil]; simp), ?_⟩
    all_goals first|assumption|(simp [h0, h3, h4, ho, hn, ap2_];done)|(simp [h0, h3, h4, ho, hn, ap2_];omega)|(simp [h0, h3, h4, ho, hn, ap2_];exact wrap_succ (by omega))|omega
  · have hil : i = l.length := by simp at hc; omega
    subst hil
    rw [List.take_length] at ho
    repeat' first|refine W_seq ?_|refine W_block ?_|refine W_skip ?_|refine W_ret ?_|refine W_exit ?_|refine xb_hit ?_|refine xb_miss (by decide) ?_|(apply W_reg;(simp [h0, h3, h4, ho, hn, ap2_];exact .r _))
    simp [ho]
theorem implHas_r (l : List RA) (f : RA) (h : SmF l) : Ret XX 331 [Ar l, Ag f] (.t (.b (decide (f ∈ l))) false) := by
  refine ret_W rfl Tryz.func331 rfl rfl (by simp [Tryz.f331]) ?_
  simp only [Tryz.f331]
  have hs : l.length < 1099511627775 := h.1
  repeat' first|refine W_seq ?_|refine W_block ?_|refine W_skip ?_|refine W_ret ?_|refine W_exit ?_|refine xb_hit ?_|refine xb_miss (by decide) ?_|(apply W_reg;(simp [Ag];exact .r _))
  refine W_loop (n := l.length) (fun n s => ∃ i : Nat, n = l.length - i ∧ s.nt = 17 ∧ s.tm 3 = .ptr 0 0 ∧ s.tm 7 = Ar l ∧ s.tm 8 = In l.length ∧ s.tm 9 = In i ∧ i ≤ l.length ∧ s.σ.ob 0 = .box [In f.rel, Ar f.args] ∧ 1 ≤ s.σ.n ∧ (f ∈ l ↔ f ∈ l.drop i)) ⟨0, by simp⟩ ?_
  rintro n ⟨nt, tm, σ⟩ ⟨i, rfl, hnt, h3, h7, h8, h9, hi, hb0, hn, heq⟩
  simp only at hnt h3 h7 h8 h9 hb0 hn
  subst hnt
  have ap3_ := apart hn
  repeat' first|refine W_seq ?_|refine W_block ?_|refine W_skip ?_|refine W_ret ?_|refine W_exit ?_|refine xb_hit ?_|refine xb_miss (by decide) ?_|(apply W_reg;(simp [h3, h7, h8, h9, hb0, hn, ap3_];exact .r _))
  refine W_cond (by simp [h3, h7, h8, h9, hb0, hn, ap3_]; exact .r _) (fun hc => ?_) (fun hc => ?_)
  · have hil : i < l.length := by simpa using hc
    have c1 := cv (equalFact_r l[i] f (h.2 _ (List.getElem_mem hil)))
    simp only [Ag, cells_RA, List.map_cons, List.map_nil] at c1
    rw [List.drop_eq_getElem_cons hil, List.mem_cons] at heq
    repeat' first|refine W_seq ?_|refine W_block ?_|refine W_skip ?_|refine W_ret ?_|refine W_exit ?_|refine xb_hit ?_|refine xb_miss (by decide) ?_|(apply W_reg;(simp [h3, h7, h8, h9, hb0, hn, ap3_, hil, c1];exact .r _))
    refine W_cond (by simp [h3, h7, h8, h9, hb0, hn, ap3_]; exact .r _) (fun hd => ?_) (fun hd => ?_)
    · have hd' : l[i] = f := by simpa using hd
      have : f ∈ l := heq.2 (.inl hd'.symm)
      repeat' first|refine W_seq ?_|refine W_block ?_|refine W_skip ?_|refine W_ret ?_|refine W_exit ?_|refine xb_hit ?_|refine xb_miss (by decide) ?_|(apply W_reg;(simp [h3, h7, h8, h9, hb0, hn, ap3_];exact .r _))
      simp [this]
    · have hd' : ¬ l[i] = f := by simpa using hd
      repeat' first|refine W_seq ?_|refine W_block ?_|refine W_skip ?_|refine W_ret ?_|refine W_exit ?_|refine xb_hit ?_|refine xb_miss (by decide) ?_|(apply W_reg;(simp [h3, h7, h8, h9, hb0, hn, ap3_];exact .r _))
      refine ⟨_, ?_, i + 1, rfl, rfl, ?_, ?_, ?_, ?_, by omega, ?_, ?_, (by rw [heq]; exact ⟨fun h => h.elim (fun e => absurd e.symm hd') id, .inr⟩)⟩
      all_goals first|assumption|(simp [h3, h7, h8, h9, hb0, hn, ap3_];done)|(simp [h3, h7, h8, h9, hb0, hn, ap3_];omega)|(simp [h3, h7, h8, h9, hb0, hn, ap3_];exact wrap_succ (by omega))|omega
  · have hil : i = l.length := by simp at hc; omega
    subst hil
    rw [List.drop_length] at heq
    have : f ∉ l := fun h => by cases heq.1 h
    repeat' first|refine W_seq ?_|refine W_block ?_|refine W_skip ?_|refine W_ret ?_|refine W_exit ?_|refine xb_hit ?_|refine xb_miss (by decide) ?_|(apply W_reg;(simp [h3, h7, h8, h9, hb0, hn, ap3_];exact .r _))
    simp [this]
theorem specHas_r (l : List RA) (f : RA) (h : SmF l) : Ret XX 172 [Ar l, Ag f] (.t (.b (decide (f ∈ l))) false) := by
  refine ret_W rfl Tryz.func172 rfl rfl (by simp [Tryz.f172]) ?_
  simp only [Tryz.f172]
  have hs : l.length < 1099511627775 := h.1
  repeat' first|refine W_seq ?_|refine W_block ?_|refine W_skip ?_|refine W_ret ?_|refine W_exit ?_|refine xb_hit ?_|refine xb_miss (by decide) ?_|(apply W_reg;(simp [Ag];exact .r _))
  refine W_loop (n := l.length) (fun n s => ∃ i : Nat, n = l.length - i ∧ s.nt = 18 ∧ s.tm 0 = Ar l ∧ s.tm 3 = .ptr 0 0 ∧ s.tm 5 = In i ∧ i ≤ l.length ∧ s.σ.ob 0 = .box [In f.rel, Ar f.args] ∧ 1 ≤ s.σ.n ∧ (f ∈ l ↔ f ∈ l.drop i)) ⟨0, by simp⟩ ?_
  rintro n ⟨nt, tm, σ⟩ ⟨i, rfl, hnt, h0, h3, h5, hi, hb0, hn, heq⟩
  simp only at hnt h0 h3 h5 hb0 hn
  subst hnt
  have ap4_ := apart hn
  repeat' first|refine W_seq ?_|refine W_block ?_|refine W_skip ?_|refine W_ret ?_|refine W_exit ?_|refine xb_hit ?_|refine xb_miss (by decide) ?_|(apply W_reg;(simp [h0, h3, h5, hb0, hn, ap4_];exact .r _))
  refine W_cond (by simp [h0, h3, h5, hb0, hn, ap4_]; exact .r _) (fun hc => ?_) (fun hc => ?_)
  · have hil : i < l.length := by simpa using hc
    have c1 := cv (l5Same_r l[i] f (h.2 _ (List.getElem_mem hil)))
    simp only [Ag, cells_RA, List.map_cons, List.map_nil] at c1
    rw [List.drop_eq_getElem_cons hil, List.mem_cons] at heq
    repeat' first|refine W_seq ?_|refine W_block ?_|refine W_skip ?_|refine W_ret ?_|refine W_exit ?_|refine xb_hit ?_|refine xb_miss (by decide) ?_|(apply W_reg;(simp [h0, h3, h5, hb0, hn, ap4_, hil, c1];exact .r _))|(apply W_draw (id := 4) [0,0,3,7,0,31] rfl rfl; (· simp; exact .r _); (· simp [h0, h3, h5, hb0, hn, ap4_, hil, c1]; exact .r _); (· first|trivial|simp))
    refine W_cond (by simp [h0, h3, h5, hb0, hn, ap4_]; exact .r _) (fun hd => ?_) (fun hd => ?_)
    · have hd' : l[i] = f := by simpa using hd
      have : f ∈ l := heq.2 (.inl hd'.symm)
      repeat' first|refine W_seq ?_|refine W_block ?_|refine W_skip ?_|refine W_ret ?_|refine W_exit ?_|refine xb_hit ?_|refine xb_miss (by decide) ?_|(apply W_reg;(simp [h0, h3, h5, hb0, hn, ap4_];exact .r _))
      simp [this]
    · have hd' : ¬ l[i] = f := by simpa using hd
      repeat' first|refine W_seq ?_|refine W_block ?_|refine W_skip ?_|refine W_ret ?_|refine W_exit ?_|refine xb_hit ?_|refine xb_miss (by decide) ?_|(apply W_reg;(simp [h0, h3, h5, hb0, hn, ap4_];exact .r _))
      refine ⟨_, ?_, i + 1, rfl, rfl, ?_, ?_, ?_, by omega, ?_, ?_, (by rw [heq]; exact ⟨fun h => h.elim (fun e => absurd e.symm hd') id, .inr⟩)⟩
      all_goals first|assumption|(simp [h0, h3, h5, hb0, hn, ap4_];done)|(simp [h0, h3, h5, hb0, hn, ap4_];omega)|(simp [h0, h3, h5, hb0, hn, ap4_];exact wrap_succ (by omega))|omega
  · have hil : i = l.length := by simp at hc; omega
    subst hil
    rw [List.drop_length] at heq
    have : f ∉ l := fun h => by cases heq.1 h
    repeat' first|refine W_seq ?_|refine W_block ?_|refine W_skip ?_|refine W_ret ?_|refine W_exit ?_|refine xb_hit ?_|refine xb_miss (by decide) ?_|(apply W_reg;(simp [h0, h3, h5, hb0, hn, ap4_];exact .r _))
    simp [this]
/-- Without a fact. -/
def remF (l : List RA) (f : RA) : List RA := l.filter fun x => !decide (x = f)
def xRem (c : Sch) (l : List RA) (f : RA) : XV := if isDb c l && decide (f ∈ l) then .tup [.own 2 (rowsE (remF l f)), .t (.b true) false] else .tup [.own 2 (rowsE l), .t (.b false) false]
theorem remF_take (l : List RA) (f : RA) (i : Nat) (h : i < l.length) : remF (l.take (i + 1)) f = remF (l.take i) f ++ (if l[i] = f then [] else [l[i]]) := by
  rw [List.take_succ_eq_append_getElem h, remF, remF, List.filter_append]
  congr 1
  by_cases e : l[i] = f <;> simp [e]
theorem remF_len (l : List RA) (f : RA) : (remF l f).length ≤ l.length := List.length_filter_le _ _
theorem implRem_r (c : Sch) (l : List RA) (f : RA) (sc : Sm c.arity) (h : SmF l) (hf : Sm f.args) : Ret XX 290 [Ag c, Ar l, Ag f] (xRem c l f) := by
  refine ret_W rfl Tryz.func290 rfl rfl (by simp [Tryz.f290]) ?_
  simp only [Tryz.f290]
  have c1 := cv (implIsDb_r c l sc h.1 h.2)
  have c2 := cv (implHas_r l f h)
  have c3 := cv (copyFacts_r l h)
  have hs : l.length < 1099511627775 := h.1
  simp only [Ag, cells_Sch, cells_RA, List.map_cons, List.map_nil] at c1 c2
  cases e1 : isDb c l
  · repeat' first|refine W_seq ?_|refine W_block ?_|refine W_skip ?_|refine W_ret ?_|refine W_exit ?_|refine xb_hit ?_|refine xb_miss (by decide) ?_|(apply W_reg;(simp [Ag, c1, e1];exact .r _))
    refine W_cond (by simp; exact .r _) (fun hc => ?_) (fun hc => ?_)
    · repeat' first|refine W_seq ?_|refine W_block ?_|refine W_skip ?_|refine W_ret ?_|refine W_exit ?_|refine xb_hit ?_|refine xb_miss (by decide) ?_|(apply W_reg;(simp [c3];exact .r _))
      simp [xRem, e1]
    · cases hc
  by_cases e2 : f ∈ l
  case neg =>
    repeat' first|refine W_seq ?_|refine W_block ?_|refine W_skip ?_|refine W_ret ?_|refine W_exit ?_|refine xb_hit ?_|refine xb_miss (by decide) ?_|(apply W_reg;(simp [Ag, c1, e1, c2, e2];exact .r _))
    refine W_cond (by simp; exact .r _) (fun hc => ?_) (fun hc => ?_)
    · repeat' first|refine W_seq ?_|refine W_block ?_|refine W_skip ?_|refine W_ret ?_|refine W_exit ?_|refine xb_hit ?_|refine xb_miss (by decide) ?_|(apply W_reg;(simp [c3];exact .r _))
      simp [xRem, e2]
    · cases hc
  repeat' first|refine W_seq ?_|refine W_block ?_|refine W_skip ?_|refine W_ret ?_|refine W_exit ?_|refine xb_hit ?_|refine xb_miss (by decide) ?_|(apply W_reg;(simp [Ag, c1, e1, c2, e2];exact .r _))
  refine W_cond (by simp; exact .r _) (fun hc => ?_) (fun hc => ?_)
  · cases hc
  repeat' first|refine W_seq ?_|refine W_block ?_|refine W_skip ?_|refine W_ret ?_|refine W_exit ?_|refine xb_hit ?_|refine xb_miss (by decide) ?_|(apply W_reg;(simp;exact .r _))
  refine W_loop (n := l.length) (fun n s => ∃ i : Nat, ∃ R : List RA, n = l.length - i ∧ s.nt = 41 ∧ s.tm 5 = .ptr 1 0 ∧ s.tm 8 = .ref 2 R.length [] ∧ s.tm 24 = Ar l ∧ s.tm 25 = In l.length ∧ s.tm 26 = In i ∧ i ≤ l.length ∧ s.σ.ob 1 = .box [In f.rel, Ar f.args] ∧ s.σ.ob 2 = .arr (.own 0) 0 2 (rowsE R) ∧ 3 ≤ s.σ.n ∧ R = remF (l.take i) f) ⟨0, [], by simp [remF]⟩ ?_
  rintro n ⟨nt, tm, σ⟩ ⟨i, R, rfl, hnt, h5, h8, h24, h25, h26, hi, hb1, ho, hn, hR⟩
  simp only at hnt h5 h8 h24 h25 h26 hb1 ho hn
  subst hnt
  have ap5_ := apart hn
  have hRl : R.length ≤ i := by rw [hR]; have := remF_len (l.take i) f; rw [List.length_take] at this; omega
  repeat' first|refine W_seq ?_|refine W_block ?_|refine W_skip ?_|refine W_ret ?_|refine W_exit ?_|refine xb_hit ?_|refine xb_miss (by decide) ?_|(apply W_reg;(simp [h5, h8, h24, h25, h26, hb1, ho, hn, ap5_];exact .r _))
  refine W_cond (by simp [h5, h8, h24, h25, h26, hb1, ho, hn, ap5_]; exact .r _) (fun hc => ?_) (fun hc => ?_)
  · have hil : i < l.length := by simpa using hc
    have hsm := h.2 _ (List.getElem_mem hil)
    have c4 := cv (equalFact_r l[i] f hsm)
    have c5 := cv (copyFact_r l[i] hsm)
    simp only [Ag, cells_RA, List.map_cons, List.map_nil] at c4 c5
    have ht := remF_take l f i hil
    rw [← hR] at ht
    by_cases e : l[i] = f
    · rw [if_pos e, List.append_nil] at ht
      repeat' first|refine W_seq ?_|refine W_block ?_|refine W_skip ?_|refine W_ret ?_|refine W_exit ?_|refine xb_hit ?_|refine xb_miss (by decide) ?_|(apply W_reg;(simp [h5, h8, h24, h25, h26, hb1, ho, hn, ap5_, hil, c4, e];exact .r _))
      refine W_cond (by simp [h5, h8, h24, h25, h26, hb1, ho, hn, ap5_]; exact .r _) (fun hd => ?_) (fun hd => ?_)
      · cases hd
      repeat' first|refine W_seq ?_|refine W_block ?_|refine W_skip ?_|refine W_ret ?_|refine W_exit ?_|refine xb_hit ?_|refine xb_miss (by decide) ?_|(apply W_reg;(simp [h5, h8, h24, h25, h26, hb1, ho, hn, ap5_];exact .r _))
      refine ⟨_, ?_, i + 1, R, rfl, rfl, ?_, ?_, ?_, ?_, ?_, by omega, ?_, ?_, ?_, ht.symm⟩
      all_goals first|assumption|(simp [h5, h8, h24, h25, h26, hb1, ho, hn, ap5_];done)|(simp [h5, h8, h24, h25, h26, hb1, ho, hn, ap5_];omega)|(simp [h5, h8, h24, h25, h26, hb1, ho, hn, ap5_];exact wrap_succ (by omega))|omega
    · rw [if_neg e] at ht
      repeat' first|refine W_seq ?_|refine W_block ?_|refine W_skip ?_|refine W_ret ?_|refine W_exit ?_|refine xb_hit ?_|refine xb_miss (by decide) ?_|(apply W_reg;(simp [h5, h8, h24, h25, h26, hb1, ho, hn, ap5_, hil, c4, e];exact .r _))
      refine W_cond (by simp [h5, h8, h24, h25, h26, hb1, ho, hn, ap5_]; exact .r _) (fun hd => ?_) (fun hd => ?_)
      · repeat' first|refine W_seq ?_|refine W_block ?_|refine W_skip ?_|refine W_ret ?_|refine W_exit ?_|refine xb_hit ?_|refine xb_miss (by decide) ?_|(apply W_reg;(simp [h5, h8, h24, h25, h26, hb1, ho, hn, ap5_, hil, c5, show R.length + 1 < 1099511627776 by omega];exact .r _))
        refine ⟨_, ?_, i + 1, R ++ [l[i]], rfl, rfl, ?_, ?_, ?_, ?_, ?_, by omega, ?_, (by simp [h5, h8, h24, h25, h26, hb1, ho, hn, ap5_, rowsE]), ?_, ht.symm⟩
        all_goals first|assumption|(simp [h5, h8, h24, h25, h26, hb1, ho, hn, ap5_];done)|(simp [h5, h8, h24, h25, h26, hb1, ho, hn, ap5_];omega)|(simp [h5, h8, h24, h25, h26, hb1, ho, hn, ap5_];exact wrap_succ (by omega))|omega
      · cases hd
  · have hil : i = l.length := by simp at hc; omega
    subst hil
    rw [List.take_length] at hR
    subst hR
    repeat' first|refine W_seq ?_|refine W_block ?_|refine W_skip ?_|refine W_ret ?_|refine W_exit ?_|refine xb_hit ?_|refine xb_miss (by decide) ?_|(apply W_reg;(simp [h5, h8, h24, h25, h26, hb1, ho, hn, ap5_];exact .r _))
    simp [xRem, e1, e2, ho]
theorem specRem_r (c : Sch) (l : List RA) (f : RA) (sc : Sm c.arity) (h : SmF l) (hf : Sm f.args) : Ret XX 48 [Ag c, Ar l, Ag f] (xRem c l f) := by
  refine ret_W rfl Tryz.func48 rfl rfl (by simp [Tryz.f48]) ?_
  simp only [Tryz.f48]
  have c1 := cv (specIsDb_r c l sc h.1 h.2)
  have c2 := cv (specHas_r l f h)
  have c3 := cv (l5All_r l h)
  have hs : l.length < 1099511627775 := h.1
  simp only [Ag, cells_Sch, cells_RA, List.map_cons, List.map_nil] at c1 c2
  cases e1 : isDb c l
  · repeat' first|refine W_seq ?_|refine W_block ?_|refine W_skip ?_|refine W_ret ?_|refine W_exit ?_|refine xb_hit ?_|refine xb_miss (by decide) ?_|(apply W_reg;(simp [Ag, c1, e1];exact .r _))
    refine W_cond (by simp; exact .r _) (fun hc => ?_) (fun hc => ?_)
    · repeat' first|refine W_seq ?_|refine W_block ?_|refine W_skip ?_|refine W_ret ?_|refine W_exit ?_|refine xb_hit ?_|refine xb_miss (by decide) ?_|(apply W_reg;(simp [c3];exact .r _))
      simp [xRem, e1]
    · cases hc
  by_cases e2 : f ∈ l
  case neg =>
    repeat' first|refine W_seq ?_|refine W_block ?_|refine W_skip ?_|refine W_ret ?_|refine W_exit ?_|refine xb_hit ?_|refine xb_miss (by decide) ?_|(apply W_reg;(simp [Ag, c1, e1, c2, e2];exact .r _))
    refine W_cond (by simp; exact .r _) (fun hc => ?_) (fun hc => ?_)
    · repeat' first|refine W_seq ?_|refine W_block ?_|refine W_skip ?_|refine W_ret ?_|refine W_exit ?_|refine xb_hit ?_|refine xb_miss (by decide) ?_|(apply W_reg;(simp [c3];exact .r _))
      simp [xRem, e2]
    · cases hc
  repeat' first|refine W_seq ?_|refine W_block ?_|refine W_skip ?_|refine W_ret ?_|refine W_exit ?_|refine xb_hit ?_|refine xb_miss (by decide) ?_|(apply W_reg;(simp [Ag, c1, e1, c2, e2];exact .r _))
  refine W_cond (by simp; exact .r _) (fun hc => ?_) (fun hc => ?_)
  · cases hc
  repeat' first|refine W_seq ?_|refine W_block ?_|refine W_skip ?_|refine W_ret ?_|refine W_exit ?_|refine xb_hit ?_|refine xb_miss (by decide) ?_|(apply W_reg;(simp;exact .r _))
  refine W_loop (n := l.length) (fun n s => ∃ i : Nat, ∃ R : List RA, n = l.length - i ∧ s.nt = 45 ∧ s.tm 1 = Ar l ∧ s.tm 5 = .ptr 1 0 ∧ s.tm 8 = .ref 2 R.length [] ∧ s.tm 9 = In i ∧ i ≤ l.length ∧ s.σ.ob 1 = .box [In f.rel, Ar f.args] ∧ s.σ.ob 2 = .arr (.own 0) 0 2 (rowsE R) ∧ 3 ≤ s.σ.n ∧ R = remF (l.take i) f) ⟨0, [], by simp [remF]⟩ ?_
  rintro n ⟨nt, tm, σ⟩ ⟨i, R, rfl, hnt, h1, h5, h8, h9, hi, hb1, ho, hn, hR⟩
  simp only at hnt h1 h5 h8 h9 hb1 ho hn
  subst hnt
  have ap6_ := apart hn
  have hRl : R.length ≤ i := by rw [hR]; have := remF_len (l.take i) f; rw [List.length_take] at this; omega
  repeat' first|refine W_seq ?_|refine W_block ?_|refine W_skip ?_|refine W_ret ?_|refine W_exit ?_|refine xb_hit ?_|refine xb_miss (by decide) ?_|(apply W_reg;(simp [h1, h5, h8, h9, hb1, ho, hn, ap6_];exact .r _))
  refine W_cond (by simp [h1, h5, h8, h9, hb1, ho, hn, ap6_]; exact .r _) (fun hc => ?_) (fun hc => ?_)
  · have hil : i < l.length := by simpa using hc
    have hsm := h.2 _ (List.getElem_mem hil)
    have c4 := cv (l5Same_r l[i] f hsm)
    have c5 := cv (l5Copy_r l[i] hsm)
    simp only [Ag, cells_RA, List.map_cons, List.map_nil] at c4 c5
    have ht := remF_take l f i hil
    rw [← hR] at ht
    by_cases e : l[i] = f
    · rw [if_pos e, List.append_nil] at ht
      repeat' first|refine W_seq ?_|refine W_block ?_|refine W_skip ?_|refine W_ret ?_|refine W_exit ?_|refine xb_hit ?_|refine xb_miss (by decide) ?_|(apply W_reg;(simp [h1, h5, h8, h9, hb1, ho, hn, ap6_, hil, c4, e];exact .r _))|(apply W_draw (id := 7) [0,0,3,7,0,31,63] rfl rfl; (· simp; exact .r _); (· simp [h1, h5, h8, h9, hb1, ho, hn, ap6_, hil, c4, e]; exact .r _); (· first|trivial|simp))
      refine W_cond (by simp [h1, h5, h8, h9, hb1, ho, hn, ap6_]; exact .r _) (fun hd => ?_) (fun hd => ?_)
      · cases hd
      repeat' first|refine W_seq ?_|refine W_block ?_|refine W_skip ?_|refine W_ret ?_|refine W_exit ?_|refine xb_hit ?_|refine xb_miss (by decide) ?_|(apply W_reg;(simp [h1, h5, h8, h9, hb1, ho, hn, ap6_];exact .r _))
      refine ⟨_, ?_, i + 1, R, rfl, rfl, ?_, ?_, ?_, ?_, by omega, ?_, ?_, ?_, ht.symm⟩
      all_goals first|assumption|(simp [h1, h5, h8, h9, hb1, ho, hn, ap6_];done)|(simp [h1, h5, h8, h9, hb1, ho, hn, ap6_];omega)|(simp [h1, h5, h8, h9, hb1, ho, hn, ap6_];exact wrap_succ (by omega))|omega
    · rw [if_neg e] at ht
      repeat' first|refine W_seq ?_|refine W_block ?_|refine W_skip ?_|refine W_ret ?_|refine W_exit ?_|refine xb_hit ?_|refine xb_miss (by decide) ?_|(apply W_reg;(simp [h1, h5, h8, h9, hb1, ho, hn, ap6_, hil, c4, e];exact .r _))|(apply W_draw (id := 7) [0,0,3,7,0,31,63] rfl rfl; (· simp; exact .r _); (· simp [h1, h5, h8, h9, hb1, ho, hn, ap6_, hil, c4, e]; exact .r _); (· first|trivial|simp))
      refine W_cond (by simp [h1, h5, h8, h9, hb1, ho, hn, ap6_]; exact .r _) (fun hd => ?_) (fun hd => ?_)
      · repeat' first|refine W_seq ?_|refine W_block ?_|refine W_skip ?_|refine W_ret ?_|refine W_exit ?_|refine xb_hit ?_|refine xb_miss (by decide) ?_|(apply W_reg;(simp [h1, h5, h8, h9, hb1, ho, hn, ap6_, hil, c5, show R.length + 1 < 1099511627776 by omega];exact .r _))
        refine ⟨_, ?_, i + 1, R ++ [l[i]], rfl, rfl, ?_, ?_, ?_, ?_, by omega, ?_, (by simp [h1, h5, h8, h9, hb1, ho, hn, ap6_, rowsE]), ?_, ht.symm⟩
        all_goals first|assumption|(simp [h1, h5, h8, h9, hb1, ho, hn, ap6_];done)|(simp [h1, h5, h8, h9, hb1, ho, hn, ap6_];omega)|(simp [h1, h5, h8, h9, hb1, ho, hn, ap6_];exact wrap_succ (by omega))|omega
      · cases hd
  · have hil : i = l.length := by simp at hc; omega
    subst hil
    rw [List.take_length] at hR
    subst hR
    repeat' first|refine W_seq ?_|refine W_block ?_|refine W_skip ?_|refine W_ret ?_|refine W_exit ?_|refine xb_hit ?_|refine xb_miss (by decide) ?_|(apply W_reg;(simp [h1, h5, h8, h9, hb1, ho, hn, ap6_];exact .r _))
    simp [xRem, e1, e2, ho]
end Go.Proofs.YtmfifjbbjjdacaaGreat.V

namespace Go.Proofs.YtmfifjbbjjdacaaGreat.V
open Go Go.Proofs
set_option linter.unusedVariables false
set_option linter.unusedSimpArgs false
theorem cv_sortF {σ : Sto} {o st v : Nat} {xs : List RA} (hob : σ.ob o = .arr (.own 0) st 2 (rowsE xs)) (hv : v = xs.length) (hlen : xs.length < 4611686018427387904) (h : ∀ x ∈ xs, Sm x.args) :
    callV Ms XX σ 333 [.ref o v [], .clo 263 []] = some (.tup [], σ.set o (.arr (.own 0) (st + 1) 2 (rowsE (srt cmpF xs)))) :=
  callV_d (by rfl) ((R_giv (drawV_go) (by rfl) _ _).trans (sortG_eq hob hv hlen ⟨h, fun a b _ _ h1 h2 => antiF a b h1 h2⟩)) rfl
def addF (l : List RA) (f : RA) : List RA := srt cmpF (l ++ [f])
def xAdd (c : Sch) (l : List RA) (f : RA) : XV := if isDb c l && isFact c f && !decide (f ∈ l) && !decide (l.length = 24) then .tup [.own 2 (rowsE (addF l f)), .t (.b true) false] else .tup [.own 2 (rowsE l), .t (.b false) false]
def putF (f : RA) : Bool → List RA → List RA
  | d, [] => if d then [] else [f]
  | true, x :: l => x :: putF f true l
  | false, x :: l => if cmpF x f < 0 then x :: putF f false l else if x = f then x :: putF f true l else f :: x :: putF f true l
theorem putF_t (f : RA) : ∀ l, putF f true l = l
  | [] => rfl
  | x :: l => by rw [putF, putF_t f l]
theorem putF_f {f : RA} : ∀ {l : List RA}, (l.Pairwise fun a b => cmpF a b < 0) → f ∉ l → (putF f false l).Perm (l ++ [f]) ∧ (putF f false l).Pairwise fun a b => ¬ cmpF b a < 0
  | [], _, _ => ⟨.refl _, List.pairwise_singleton _ _⟩
  | x :: l, h, hn => by
    rw [List.pairwise_cons] at h
    have asy : ∀ a b : RA, cmpF a b < 0 → ¬ cmpF b a < 0 := fun a b h1 h2 => by
      have := swoF.trans a b a (by rw [lt_dec]; exact decide_eq_true h1) (by rw [lt_dec]; exact decide_eq_true h2)
      rw [swoF.irrefl] at this; cases this
    have tr : ∀ a b c : RA, cmpF a b < 0 → cmpF b c < 0 → cmpF a c < 0 := fun a b c h1 h2 => by
      have := swoF.trans a b c (by rw [lt_dec]; exact decide_eq_true h1) (by rw [lt_dec]; exact decide_eq_true h2)
      rw [lt_dec, decide_eq_true_eq] at this; exact this
    rw [List.mem_cons, not_or] at hn
    by_cases c : cmpF x f < 0
    · obtain ⟨h1, h2⟩ := putF_f h.2 hn.2
      rw [putF, if_pos c]
      refine ⟨.cons _ h1, List.pairwise_cons.2 ⟨fun y hy => ?_, h2⟩⟩
      rcases List.mem_append.1 (h1.mem_iff.1 hy) with hy | hy
      · exact asy _ _ (h.1 y hy)
      · rw [List.mem_singleton] at hy; subst hy; exact asy _ _ c
    · have e : ¬ x = f := fun e => hn.1 e.symm
      have lt : cmpF f x < 0 := Classical.byContradiction fun hh => e (antiF x f hh c)
      rw [putF, if_neg c, if_neg e, putF_t]
      refine ⟨(List.perm_append_comm (l₁ := [f]) (l₂ := x :: l)), List.pairwise_cons.2 ⟨fun y hy => ?_, List.pairwise_cons.2 ⟨fun y hy => asy _ _ (h.1 y hy), h.2.imp (asy _ _)⟩⟩⟩
      rcases List.mem_cons.1 hy with rfl | hy
      · exact asy _ _ lt
      · exact asy _ _ (tr _ _ _ lt (h.1 y hy))
theorem putF_add {l : List RA} {f : RA} (h : ascF l = true) (hn : f ∉ l) : putF f false l = addF l f :=
  have := putF_f (ascF_pair h) hn
  srt_eq swoF (fun a b _ _ h1 h2 => antiF a b h1 h2) this.1 this.2
theorem implAdd_r (c : Sch) (l : List RA) (f : RA) (sc : Sm c.arity) (h : SmF l) (hf : Sm f.args) : Ret XX 291 [Ag c, Ar l, Ag f] (xAdd c l f) := by
  refine ret_W rfl Tryz.func291 rfl rfl (by simp [Tryz.f291]) ?_
  simp only [Tryz.f291]
  have c1 := cv (implIsDb_r c l sc h.1 h.2)
  have c2 := cv (implHas_r l f h)
  have c3 := cv (copyFacts_r l h)
  have c4 := cv (implIsFact_r c f sc hf)
  have c5 := cv (copyFact_r f hf)
  have hs : l.length < 1099511627775 := h.1
  simp only [Ag, cells_Sch, cells_RA, List.map_cons, List.map_nil] at c1 c2 c4 c5
  cases e1 : isDb c l
  · repeat' first|refine W_seq ?_|refine W_block ?_|refine W_skip ?_|refine W_ret ?_|refine W_exit ?_|refine xb_hit ?_|refine xb_miss (by decide) ?_|(apply W_reg;(simp [Ag, c1, c3, e1];exact .r _))
    refine W_cond (by simp; exact .r _) (fun hc => ?_) (fun hc => ?_)
    · repeat' first|refine W_seq ?_|refine W_block ?_|refine W_skip ?_|refine W_ret ?_|refine W_exit ?_|refine xb_hit ?_|refine xb_miss (by decide) ?_|(apply W_reg;(simp;exact .r _))
      simp [xAdd, e1]
    · cases hc
  cases e2 : isFact c f
  · repeat' first|refine W_seq ?_|refine W_block ?_|refine W_skip ?_|refine W_ret ?_|refine W_exit ?_|refine xb_hit ?_|refine xb_miss (by decide) ?_|(apply W_reg;(simp [Ag, c1, c3, e1, c4, e2];exact .r _))
    refine W_cond (by simp; exact .r _) (fun hc => ?_) (fun hc => ?_)
    · repeat' first|refine W_seq ?_|refine W_block ?_|refine W_skip ?_|refine W_ret ?_|refine W_exit ?_|refine xb_hit ?_|refine xb_miss (by decide) ?_|(apply W_reg;(simp;exact .r _))
      simp [xAdd, e2]
    · cases hc
  by_cases e3 : f ∈ l
  · repeat' first|refine W_seq ?_|refine W_block ?_|refine W_skip ?_|refine W_ret ?_|refine W_exit ?_|refine xb_hit ?_|refine xb_miss (by decide) ?_|(apply W_reg;(simp [Ag, c1, c3, e1, c4, e2, c2, e3];exact .r _))
    refine W_cond (by simp; exact .r _) (fun hc => ?_) (fun hc => ?_)
    · repeat' first|refine W_seq ?_|refine W_block ?_|refine W_skip ?_|refine W_ret ?_|refine W_exit ?_|refine xb_hit ?_|refine xb_miss (by decide) ?_|(apply W_reg;(simp;exact .r _))
      simp [xAdd, e3]
    · cases hc
  by_cases e4 : l.length = 24
  · repeat' first|refine W_seq ?_|refine W_block ?_|refine W_skip ?_|refine W_ret ?_|refine W_exit ?_|refine xb_hit ?_|refine xb_miss (by decide) ?_|(apply W_reg;(simp [Ag, c1, c3, e1, c4, e2, c2, e3, e4];exact .r _))
    refine W_cond (by simp; exact .r _) (fun hc => ?_) (fun hc => ?_)
    · repeat' first|refine W_seq ?_|refine W_block ?_|refine W_skip ?_|refine W_ret ?_|refine W_exit ?_|refine xb_hit ?_|refine xb_miss (by decide) ?_|(apply W_reg;(simp;exact .r _))
      simp [xAdd, e4]
    · simp at hc
  have e4' : ¬ (l.length : Int) = 24 := by omega
  repeat' first|refine W_seq ?_|refine W_block ?_|refine W_skip ?_|refine W_ret ?_|refine W_exit ?_|refine xb_hit ?_|refine xb_miss (by decide) ?_|(apply W_reg;(simp [Ag, c1, c3, e1, c4, e2, c2, e3, e4, e4'];exact .r _))
  refine W_cond (by simp; exact .r _) (fun hc => ?_) (fun hc => ?_)
  · simp at hc
  have hsm : ∀ x ∈ l ++ [f], Sm x.args := fun x hx => by
    rcases List.mem_append.1 hx with hx | hx
    · exact h.2 x hx
    · rw [List.mem_singleton] at hx; rw [hx]; exact hf
  have hll : (l ++ [f]).length < 4611686018427387904 := by simp; omega
  repeat' first|refine W_seq ?_|refine W_block ?_|refine W_skip ?_|refine W_ret ?_|refine W_exit ?_|refine xb_hit ?_|refine xb_miss (by decide) ?_|(apply W_reg;(simp [c5, show l.length + 1 < 1099511627776 by omega];exact .r _))
  refine W_gen (fun s2 => ∃ st, s2.ob 2 = .arr (.own 0) st 2 (rowsE (l ++ [f]))) ?_ (fun s2 hq2 => ?_)
  · exact ⟨_, by simp [upd_app, rowsE]; rfl⟩
  obtain ⟨st, hq2⟩ := hq2
  have hso := cv_sortF (σ := s2) (o := 2) (st := st) (v := l.length + 1) (xs := l ++ [f]) hq2 (by simp) hll hsm
  have hsl : (srt cmpF (l ++ [f])).length = l.length + 1 := by rw [srt_perm.length_eq]; simp
  repeat' first|refine W_seq ?_|refine W_block ?_|refine W_skip ?_|refine W_ret ?_|refine W_exit ?_|refine xb_hit ?_|refine xb_miss (by decide) ?_|(apply W_reg;(simp [hso];exact .r _))
  simp [xAdd, e1, e2, e3, e4, addF, hsl]
theorem l5Put_r (l : List RA) (f : RA) (h : SmF l) (hf : Sm f.args) : Ret XX 312 [Ar l, Ag f] (.own 2 (rowsE (putF f false l))) := by
  refine ret_W rfl Tryz.func312 rfl rfl (by simp [Tryz.f312]) ?_
  simp only [Tryz.f312]
  have hs : l.length < 1099511627775 := h.1
  have c5 := cv (l5Copy_r f hf)
  simp only [Ag, cells_RA, List.map_cons, List.map_nil] at c5
  repeat' first|refine W_seq ?_|refine W_block ?_|refine W_skip ?_|refine W_ret ?_|refine W_exit ?_|refine xb_hit ?_|refine xb_miss (by decide) ?_|(apply W_reg;(simp [Ag];exact .r _))
  refine W_loop (n := l.length) (fun n s => ∃ i : Nat, ∃ d : Bool, ∃ R : List RA, n = l.length - i ∧ s.nt = 54 ∧ s.tm 0 = Ar l ∧ s.tm 3 = .ptr 0 0 ∧ s.tm 5 = .ref 1 R.length [] ∧ s.tm 6 = Bo d ∧ s.tm 7 = In i ∧ i ≤ l.length ∧ s.σ.ob 0 = .box [In f.rel, Ar f.args] ∧ s.σ.ob 1 = .arr (.own 0) 0 2 (rowsE R) ∧ 2 ≤ s.σ.n ∧ putF f false l = R ++ putF f d (l.drop i) ∧ R.length ≤ i + 1 ∧ (d = false → R.length ≤ i)) ⟨0, false, [], by simp⟩ ?_
  rintro n ⟨nt, tm, σ⟩ ⟨i, d, R, rfl, hnt, h0, h3, h5, h6, h7, hi, hb0, ho, hn, hR, hRl, hRd⟩
  simp only at hnt h0 h3 h5 h6 h7 hb0 ho hn
  subst hnt
  have ap1_ := apart hn
  repeat' first|refine W_seq ?_|refine W_block ?_|refine W_skip ?_|refine W_ret ?_|refine W_exit ?_|refine xb_hit ?_|refine xb_miss (by decide) ?_|(apply W_reg;(simp [h0, h3, h5, h6, h7, hb0, ho, hn, ap1_];exact .r _))
  refine W_cond (by simp [h0, h3, h5, h6, h7, hb0, ho, hn, ap1_]; exact .r _) (fun hc => ?_) (fun hc => ?_)
  · have hil : i < l.length := by simpa using hc
    have hsm := h.2 _ (List.getElem_mem hil)
    have c1 := cv (l5Less_r l[i] f hsm)
    have c2 := cv (l5Same_r l[i] f hsm)
    have c3 := cv (l5Copy_r l[i] hsm)
    simp only [Ag, cells_RA, List.map_cons, List.map_nil] at c1 c2 c3
    rw [List.drop_eq_getElem_cons hil] at hR
    cases d
    case true =>
      rw [putF] at hR
      repeat' first|refine W_seq ?_|refine W_block ?_|refine W_skip ?_|refine W_ret ?_|refine W_exit ?_|refine xb_hit ?_|refine xb_miss (by decide) ?_|(apply W_reg;(simp [h0, h3, h5, h6, h7, hb0, ho, hn, ap1_, hil];exact .r _))|(apply W_draw (id := 6) [0,1,3,7,7,31,63,7,255,511,1023] rfl rfl; (· simp; exact .r _); (· simp [h0, h3, h5, h6, h7, hb0, ho, hn, ap1_, hil]; exact .r _); (· first|trivial|simp))
      refine W_cond (by simp [h0, h3, h5, h6, h7, hb0, ho, hn, ap1_]; exact .r _) (fun hd => ?_) (fun hd => ?_)
      · cases hd
      repeat' first|refine W_seq ?_|refine W_block ?_|refine W_skip ?_|refine W_ret ?_|refine W_exit ?_|refine xb_hit ?_|refine xb_miss (by decide) ?_|(apply W_reg;(simp [h0, h3, h5, h6, h7, hb0, ho, hn, ap1_, hil, c3, show R.length + 1 < 1099511627776 by omega];exact .r _))
      refine ⟨_, ?_, i + 1, true, R ++ [l[i]], rfl, rfl, ?_, ?_, ?_, ?_, ?_, by omega, ?_, (by simp [h0, h3, h5, h6, h7, hb0, ho, hn, ap1_, rowsE]), ?_, (by rw [hR]; simp), (by simp; omega), (fun h => by cases h)⟩
      all_goals first|assumption|(simp [h0, h3, h5, h6, h7, hb0, ho, hn, ap1_];done)|(simp [h0, h3, h5, h6, h7, hb0, ho, hn, ap1_];omega)|(simp [h0, h3, h5, h6, h7, hb0, ho, hn, ap1_];exact wrap_succ (by omega))|omega
    have hRd' := hRd rfl
    by_cases e1 : cmpF l[i] f < 0
    · rw [putF, if_pos e1] at hR
      repeat' first|refine W_seq ?_|refine W_block ?_|refine W_skip ?_|refine W_ret ?_|refine W_exit ?_|refine xb_hit ?_|refine xb_miss (by decide) ?_|(apply W_reg;(simp [h0, h3, h5, h6, h7, hb0, ho, hn, ap1_, hil, c1, e1];exact .r _))|(apply W_draw (id := 6) [0,1,3,7,7,31,63,7,255,511,1023] rfl rfl; (· simp; exact .r _); (· simp [h0, h3, h5, h6, h7, hb0, ho, hn, ap1_, hil, c1, e1]; exact .r _); (· first|trivial|simp))
      refine W_cond (by simp [h0, h3, h5, h6, h7, hb0, ho, hn, ap1_]; exact .r _) (fun hd => ?_) (fun hd => ?_)
      · cases hd
      repeat' first|refine W_seq ?_|refine W_block ?_|refine W_skip ?_|refine W_ret ?_|refine W_exit ?_|refine xb_hit ?_|refine xb_miss (by decide) ?_|(apply W_reg;(simp [h0, h3, h5, h6, h7, hb0, ho, hn, ap1_, hil, c3, show R.length + 1 < 1099511627776 by omega];exact .r _))
      refine ⟨_, ?_, i + 1, false, R ++ [l[i]], rfl, rfl, ?_, ?_, ?_, ?_, ?_, by omega, ?_, (by simp [h0, h3, h5, h6, h7, hb0, ho, hn, ap1_, rowsE]), ?_, (by rw [hR]; simp), (by simp; omega), (fun h => by simp; omega)⟩
      all_goals first|assumption|(simp [h0, h3, h5, h6, h7, hb0, ho, hn, ap1_];done)|(simp [h0, h3, h5, h6, h7, hb0, ho, hn, ap1_];omega)|(simp [h0, h3, h5, h6, h7, hb0, ho, hn, ap1_];exact wrap_succ (by omega))|omega
    by_cases e2 : l[i] = f
    · rw [putF, if_neg e1, if_pos e2] at hR
      repeat' first|refine W_seq ?_|refine W_block ?_|refine W_skip ?_|refine W_ret ?_|refine W_exit ?_|refine xb_hit ?_|refine xb_miss (by decide) ?_|(apply W_reg;(simp [h0, h3, h5, h6, h7, hb0, ho, hn, ap1_, hil, c1, e1];exact .r _))|(apply W_draw (id := 6) [0,1,3,7,7,31,63,7,255,511,1023] rfl rfl; (· simp; exact .r _); (· simp [h0, h3, h5, h6, h7, hb0, ho, hn, ap1_, hil, c1, e1]; exact .r _); (· first|trivial|simp))
      refine W_cond (by simp [h0, h3, h5, h6, h7, hb0, ho, hn, ap1_]; exact .r _) (fun hd => ?_) (fun hd => ?_)
      · repeat' first|refine W_seq ?_|refine W_block ?_|refine W_skip ?_|refine W_ret ?_|refine W_exit ?_|refine xb_hit ?_|refine xb_miss (by decide) ?_|(apply W_reg;(simp [h0, h3, h5, h6, h7, hb0, ho, hn, ap1_, hil, c2, e2];exact .r _))|(apply W_draw (id := 8) [0,0,3,7,0,31,63] rfl rfl; (· simp; exact .r _); (· simp [h0, h3, h5, h6, h7, hb0, ho, hn, ap1_, hil, c2, e2]; exact .r _); (· first|trivial|simp))
        refine W_cond (by simp [h0, h3, h5, h6, h7, hb0, ho, hn, ap1_]; exact .r _) (fun hd2 => ?_) (fun hd2 => ?_)
        · cases hd2
        rw [← e2] at c5
        repeat' first|refine W_seq ?_|refine W_block ?_|refine W_skip ?_|refine W_ret ?_|refine W_exit ?_|refine xb_hit ?_|refine xb_miss (by decide) ?_|(apply W_reg;(simp [h0, h3, h5, h6, h7, hb0, ho, hn, ap1_, hil, c3, show R.length + 1 < 1099511627776 by omega];exact .r _))
        refine ⟨_, ?_, i + 1, true, R ++ [l[i]], rfl, rfl, ?_, ?_, ?_, ?_, ?_, by omega, ?_, (by simp [h0, h3, h5, h6, h7, hb0, ho, hn, ap1_, rowsE]), ?_, (by rw [hR]; simp), (by simp; omega), (fun h => by cases h)⟩
        all_goals first|assumption|(simp [h0, h3, h5, h6, h7, hb0, ho, hn, ap1_];done)|(simp [h0, h3, h5, h6, h7, hb0, ho, hn, ap1_];omega)|(simp [h0, h3, h5, h6, h7, hb0, ho, hn, ap1_];exact wrap_succ (by omega))|omega
      · cases hd
    · rw [putF, if_neg e1, if_neg e2] at hR
      repeat' first|refine W_seq ?_|refine W_block ?_|refine W_skip ?_|refine W_ret ?_|refine W_exit ?_|refine xb_hit ?_|refine xb_miss (by decide) ?_|(apply W_reg;(simp [h0, h3, h5, h6, h7, hb0, ho, hn, ap1_, hil, c1, e1];exact .r _))|(apply W_draw (id := 6) [0,1,3,7,7,31,63,7,255,511,1023] rfl rfl; (· simp; exact .r _); (· simp [h0, h3, h5, h6, h7, hb0, ho, hn, ap1_, hil, c1, e1]; exact .r _); (· first|trivial|simp))
      refine W_cond (by simp [h0, h3, h5, h6, h7, hb0, ho, hn, ap1_]; exact .r _) (fun hd => ?_) (fun hd => ?_)
      · repeat' first|refine W_seq ?_|refine W_block ?_|refine W_skip ?_|refine W_ret ?_|refine W_exit ?_|refine xb_hit ?_|refine xb_miss (by decide) ?_|(apply W_reg;(simp [h0, h3, h5, h6, h7, hb0, ho, hn, ap1_, hil, c2, e2];exact .r _))|(apply W_draw (id := 8) [0,0,3,7,0,31,63] rfl rfl; (· simp; exact .r _); (· simp [h0, h3, h5, h6, h7, hb0, ho, hn, ap1_, hil, c2, e2]; exact .r _); (· first|trivial|simp))
        refine W_cond (by simp [h0, h3, h5, h6, h7, hb0, ho, hn, ap1_]; exact .r _) (fun hd2 => ?_) (fun hd2 => ?_)
        · repeat' first|refine W_seq ?_|refine W_block ?_|refine W_skip ?_|refine W_ret ?_|refine W_exit ?_|refine xb_hit ?_|refine xb_miss (by decide) ?_|(apply W_reg;(simp [h0, h3, h5, h6, h7, hb0, ho, hn, ap1_, hil, c5, c3, show R.length + 1 < 1099511627776 by omega, show R.length + 1 + 1 < 1099511627776 by omega];exact .r _))
          refine ⟨_, ?_, i + 1, true, R ++ [f, l[i]], rfl, rfl, ?_, ?_, ?_, ?_, ?_, by omega, ?_, (by simp [h0, h3, h5, h6, h7, hb0, ho, hn, ap1_, rowsE]), ?_, (by rw [hR]; simp), (by simp; omega), (fun h => by cases h)⟩
          all_goals first|assumption|(simp [h0, h3, h5, h6, h7, hb0, ho, hn, ap1_];done)|(simp [h0, h3, h5, h6, h7, hb0, ho, hn, ap1_];omega)|(simp [h0, h3, h5, h6, h7, hb0, ho, hn, ap1_];exact wrap_succ (by omega))|omega
        · cases hd2
      · cases hd
  · have hil : i = l.length := by simp at hc; omega
    subst hil
    rw [List.drop_length] at hR
    cases d
    · have hRd' := hRd rfl
      repeat' first|refine W_seq ?_|refine W_block ?_|refine W_skip ?_|refine W_ret ?_|refine W_exit ?_|refine xb_hit ?_|refine xb_miss (by decide) ?_|(apply W_reg;(simp [h0, h3, h5, h6, h7, hb0, ho, hn, ap1_];exact .r _))
      refine W_cond (by simp [h0, h3, h5, h6, h7, hb0, ho, hn, ap1_]; exact .r _) (fun hd => ?_) (fun hd => ?_)
      · repeat' first|refine W_seq ?_|refine W_block ?_|refine W_skip ?_|refine W_ret ?_|refine W_exit ?_|refine xb_hit ?_|refine xb_miss (by decide) ?_|(apply W_reg;(simp [h0, h3, h5, h6, h7, hb0, ho, hn, ap1_, c5, show R.length + 1 < 1099511627776 by omega];exact .r _))
        rw [hR]
        simp [ho, putF, rowsE]
      · cases hd
    · repeat' first|refine W_seq ?_|refine W_block ?_|refine W_skip ?_|refine W_ret ?_|refine W_exit ?_|refine xb_hit ?_|refine xb_miss (by decide) ?_|(apply W_reg;(simp [h0, h3, h5, h6, h7, hb0, ho, hn, ap1_];exact .r _))
      refine W_cond (by simp [h0, h3, h5, h6, h7, hb0, ho, hn, ap1_]; exact .r _) (fun hd => ?_) (fun hd => ?_)
      · cases hd
      repeat' first|refine W_seq ?_|refine W_block ?_|refine W_skip ?_|refine W_ret ?_|refine W_exit ?_|refine xb_hit ?_|refine xb_miss (by decide) ?_|(apply W_reg;(simp [h0, h3, h5, h6, h7, hb0, ho, hn, ap1_];exact .r _))
      rw [hR]
      simp [ho, putF]
theorem specAdd_r (c : Sch) (l : List RA) (f : RA) (sc : Sm c.arity) (h : SmF l) (hf : Sm f.args) : Ret XX 294 [Ag c, Ar l, Ag f] (xAdd c l f) := by
  refine ret_W rfl Tryz.func294 rfl rfl (by simp [Tryz.f294]) ?_
  simp only [Tryz.f294]
  have c1 := cv (specIsDb_r c l sc h.1 h.2)
  have c2 := cv (specHas_r l f h)
  have c3 := cv (l5All_r l h)
  have c4 := cv (specIsFact_r c f sc hf)
  have c5 := cv (l5Put_r l f h hf)
  have hs : l.length < 1099511627775 := h.1
  simp only [Ag, cells_Sch, cells_RA, List.map_cons, List.map_nil] at c1 c2 c4 c5
  cases e1 : isDb c l
  · repeat' first|refine W_seq ?_|refine W_block ?_|refine W_skip ?_|refine W_ret ?_|refine W_exit ?_|refine xb_hit ?_|refine xb_miss (by decide) ?_|(apply W_reg;(simp [Ag, c1, c3, e1];exact .r _))
    refine W_cond (by simp; exact .r _) (fun hc => ?_) (fun hc => ?_)
    · repeat' first|refine W_seq ?_|refine W_block ?_|refine W_skip ?_|refine W_ret ?_|refine W_exit ?_|refine xb_hit ?_|refine xb_miss (by decide) ?_|(apply W_reg;(simp [c3];exact .r _))
      simp [xAdd, e1]
    · cases hc
  cases e2 : isFact c f
  · repeat' first|refine W_seq ?_|refine W_block ?_|refine W_skip ?_|refine W_ret ?_|refine W_exit ?_|refine xb_hit ?_|refine xb_miss (by decide) ?_|(apply W_reg;(simp [Ag, c1, c3, e1, c4, e2];exact .r _))
    refine W_cond (by simp; exact .r _) (fun hc => ?_) (fun hc => ?_)
    · repeat' first|refine W_seq ?_|refine W_block ?_|refine W_skip ?_|refine W_ret ?_|refine W_exit ?_|refine xb_hit ?_|refine xb_miss (by decide) ?_|(apply W_reg;(simp [c3];exact .r _))
      simp [xAdd, e2]
    · cases hc
  by_cases e3 : f ∈ l
  · repeat' first|refine W_seq ?_|refine W_block ?_|refine W_skip ?_|refine W_ret ?_|refine W_exit ?_|refine xb_hit ?_|refine xb_miss (by decide) ?_|(apply W_reg;(simp [Ag, c1, c3, e1, c4, e2, c2, e3];exact .r _))
    refine W_cond (by simp; exact .r _) (fun hc => ?_) (fun hc => ?_)
    · repeat' first|refine W_seq ?_|refine W_block ?_|refine W_skip ?_|refine W_ret ?_|refine W_exit ?_|refine xb_hit ?_|refine xb_miss (by decide) ?_|(apply W_reg;(simp [c3];exact .r _))
      simp [xAdd, e3]
    · cases hc
  have hle : l.length ≤ 24 := by simp only [isDb, Bool.and_eq_true, decide_eq_true_eq] at e1; exact e1.2
  by_cases e4 : l.length = 24
  · repeat' first|refine W_seq ?_|refine W_block ?_|refine W_skip ?_|refine W_ret ?_|refine W_exit ?_|refine xb_hit ?_|refine xb_miss (by decide) ?_|(apply W_reg;(simp [Ag, c1, c3, e1, c4, e2, c2, e3, e4];exact .r _))
    refine W_cond (by simp; exact .r _) (fun hc => ?_) (fun hc => ?_)
    · repeat' first|refine W_seq ?_|refine W_block ?_|refine W_skip ?_|refine W_ret ?_|refine W_exit ?_|refine xb_hit ?_|refine xb_miss (by decide) ?_|(apply W_reg;(simp [c3];exact .r _))
      simp [xAdd, e4]
    · simp at hc
  have e4' : ¬ 24 ≤ l.length := by omega
  have e5 : putF f false l = addF l f := putF_add (by simp only [isDb, Bool.and_eq_true] at e1; exact e1.1.1.2) e3
  rw [e5] at c5
  repeat' first|refine W_seq ?_|refine W_block ?_|refine W_skip ?_|refine W_ret ?_|refine W_exit ?_|refine xb_hit ?_|refine xb_miss (by decide) ?_|(apply W_reg;(simp [Ag, c1, c3, e1, c4, e2, c2, e3, e4, e4'];exact .r _))
  refine W_cond (by simp; exact .r _) (fun hc => ?_) (fun hc => ?_)
  · simp at hc; omega
  repeat' first|refine W_seq ?_|refine W_block ?_|refine W_skip ?_|refine W_ret ?_|refine W_exit ?_|refine xb_hit ?_|refine xb_miss (by decide) ?_|(apply W_reg;(simp [c5];exact .r _))
  simp [xAdd, e1, e2, e3, e4]
end Go.Proofs.YtmfifjbbjjdacaaGreat.V

namespace Go.Proofs.YtmfifjbbjjdacaaGreat.V
open Go Go.Proofs
set_option linter.unusedVariables false
set_option linter.unusedSimpArgs false
def posOk (t v : Int) : Bool := isVar t || (isTerm t && decide (constOf t = v))
def pos (xs ys : List Int) (k : Nat) : Prop := posOk xs[k]! ys[k]! = true ∧ ∀ j, j < k → xs[j]! = xs[k]! → ys[j]! = ys[k]!
instance (xs ys : List Int) (k : Nat) : Decidable (pos xs ys k) := by unfold pos; infer_instance
def fitA (a f : RA) : Bool := decide (a.rel = f.rel) && decide (a.args.length = f.args.length) && decide (∀ k, k < a.args.length → pos a.args f.args k)
theorem fitA_no {a f : RA} {k : Nat} (h : k < a.args.length) (hn : ¬ pos a.args f.args k) : fitA a f = false := by
  unfold fitA
  rw [Bool.and_eq_false_iff]
  exact .inr (decide_eq_false fun hh => hn (hh k h))
theorem fitA_yes {a f : RA} (h1 : a.rel = f.rel) (h2 : a.args.length = f.args.length) (h : ∀ k, k < a.args.length → pos a.args f.args k) : fitA a f = true := by
  unfold fitA
  rw [decide_eq_true h1, decide_eq_true h2, decide_eq_true h]; rfl
theorem below_succ {p : Nat → Prop} {i : Nat} (h : ∀ k, k < i → p k) (hi : p i) : ∀ k, k < i + 1 → p k := fun k hk => by
  by_cases e : k = i
  · rw [e]; exact hi
  · exact h k (by omega)
theorem canBe_r (a f : RA) (ha : Sm a.args) (hf : Sm f.args) : Ret XX 165 [Ag a, Ag f] (.t (.b (fitA a f)) false) := by
  refine ret_W rfl Tryz.func165 rfl rfl (by simp [Tryz.f165]) ?_
  simp only [Tryz.f165]
  by_cases e1 : a.rel = f.rel
  case neg =>
    repeat' first|refine W_seq ?_|refine W_block ?_|refine W_skip ?_|refine W_ret ?_|refine W_exit ?_|refine xb_hit ?_|refine xb_miss (by decide) ?_|(apply W_reg;(simp [Ag, e1];exact .r _))
    refine W_cond (by simp; exact .r _) (fun hc => ?_) (fun hc => ?_)
    · repeat' first|refine W_seq ?_|refine W_block ?_|refine W_skip ?_|refine W_ret ?_|refine W_exit ?_|refine xb_hit ?_|refine xb_miss (by decide) ?_|(apply W_reg;(simp;exact .r _))
      simp [fitA, e1]
    · simp at hc
  by_cases e2 : a.args.length = f.args.length
  case neg =>
    repeat' first|refine W_seq ?_|refine W_block ?_|refine W_skip ?_|refine W_ret ?_|refine W_exit ?_|refine xb_hit ?_|refine xb_miss (by decide) ?_|(apply W_reg;(simp [Ag, e1, e2];exact .r _))
    refine W_cond (by simp; exact .r _) (fun hc => ?_) (fun hc => ?_)
    · repeat' first|refine W_seq ?_|refine W_block ?_|refine W_skip ?_|refine W_ret ?_|refine W_exit ?_|refine xb_hit ?_|refine xb_miss (by decide) ?_|(apply W_reg;(simp;exact .r _))
      simp [fitA, e2]
    · simp at hc; omega
  have hl : a.args.length < 1099511627775 := ha
  repeat' first|refine W_seq ?_|refine W_block ?_|refine W_skip ?_|refine W_ret ?_|refine W_exit ?_|refine xb_hit ?_|refine xb_miss (by decide) ?_|(apply W_reg;(simp [Ag, e1, e2];exact .r _))
  refine W_cond (by simp; exact .r _) (fun hc => ?_) (fun hc => ?_)
  · simp at hc
  repeat' first|refine W_seq ?_|refine W_block ?_|refine W_skip ?_|refine W_ret ?_|refine W_exit ?_|refine xb_hit ?_|refine xb_miss (by decide) ?_|(apply W_reg;(simp;exact .r _))
  refine W_loop (n := a.args.length) (fun n s => ∃ i : Nat, n = a.args.length - i ∧ s.nt = 77 ∧ s.tm 2 = .ptr 0 0 ∧ s.tm 3 = .ptr 1 0 ∧ s.tm 24 = Ar a.args ∧ s.tm 25 = In a.args.length ∧ s.tm 26 = In i ∧ i ≤ a.args.length ∧ s.σ.ob 0 = .box [In a.rel, Ar a.args] ∧ s.σ.ob 1 = .box [In f.rel, Ar f.args] ∧ 2 ≤ s.σ.n ∧ (∀ k, k < i → pos a.args f.args k)) ⟨0, by simp [e1, e2]⟩ ?_
  rintro n ⟨nt, tm, σ⟩ ⟨i, rfl, hnt, h2, h3, h24, h25, h26, hi, hb0, hb1, hn, hp⟩
  simp only at hnt h2 h3 h24 h25 h26 hb0 hb1 hn
  subst hnt
  have ap1_ := apart hn
  repeat' first|refine W_seq ?_|refine W_block ?_|refine W_skip ?_|refine W_ret ?_|refine W_exit ?_|refine xb_hit ?_|refine xb_miss (by decide) ?_|(apply W_reg;(simp [h2, h3, h24, h25, h26, hb0, hb1, hn, ap1_];exact .r _))
  refine W_cond (by simp [h2, h3, h24, h25, h26, hb0, hb1, hn, ap1_]; exact .r _) (fun hc => ?_) (fun hc => ?_)
  · have hil : i < a.args.length := by simpa using hc
    have hif : i < f.args.length := by omega
    have q1 := getElem!_pos a.args i hil
    have q2 := getElem!_pos f.args i hif
    have d1 := cv (implIsVar_r a.args[i])
    have d2 := cv (implConstOf_r a.args[i])
    have ht := isTerm_or a.args[i]
    have hpe : posOk a.args[i]! f.args[i]! = (isVar a.args[i] || (isTerm a.args[i] && decide (constOf a.args[i] = f.args[i]))) := by rw [q1, q2]; rfl
    by_cases hpo : posOk a.args[i]! f.args[i]! = true
    case neg =>
      have hno := fitA_no (f := f) hil fun h => hpo h.1
      rw [hpe] at hpo
      have g1 : isVar a.args[i] = false := by cases h : isVar a.args[i] <;> simp_all
      rw [g1, Bool.false_or] at hpo ht
      by_cases g2 : constOf a.args[i] < 0
      · repeat' first|refine W_seq ?_|refine W_block ?_|refine W_skip ?_|refine W_ret ?_|refine W_exit ?_|refine xb_hit ?_|refine xb_miss (by decide) ?_|(apply W_reg;(simp [h2, h3, h24, h25, h26, hb0, hb1, hn, ap1_, hil, hif, d1, g1, d2, g2];exact .r _))|(apply W_draw (id := 6) [0,1,3,7,15,31,63,127,255,511,255,1279,255,7423,15615,32767,65535,131071] rfl rfl; (· simp; exact .r _); (· simp [h2, h3, h24, h25, h26, hb0, hb1, hn, ap1_, hil, hif, d1, g1, d2, g2]; exact .r _); (· first|trivial|simp))
        refine W_cond (by simp [h2, h3, h24, h25, h26, hb0, hb1, hn, ap1_]; exact .r _) (fun hd => ?_) (fun hd => ?_)
        · repeat' first|refine W_seq ?_|refine W_block ?_|refine W_skip ?_|refine W_ret ?_|refine W_exit ?_|refine xb_hit ?_|refine xb_miss (by decide) ?_|(apply W_reg;(simp [h2, h3, h24, h25, h26, hb0, hb1, hn, ap1_];exact .r _))
          simp [hno]
        · simp at hd
      · have g3 : ¬ constOf a.args[i] = f.args[i] := fun e => hpo (by rw [ht, decide_eq_true e, decide_eq_true (by omega)]; rfl)
        repeat' first|refine W_seq ?_|refine W_block ?_|refine W_skip ?_|refine W_ret ?_|refine W_exit ?_|refine xb_hit ?_|refine xb_miss (by decide) ?_|(apply W_reg;(simp [h2, h3, h24, h25, h26, hb0, hb1, hn, ap1_, hil, hif, d1, g1, d2, g2, g3];exact .r _))|(apply W_draw (id := 6) [0,1,3,7,15,31,63,127,255,511,255,1279,255,7423,15615,32767,65535,131071] rfl rfl; (· simp; exact .r _); (· simp [h2, h3, h24, h25, h26, hb0, hb1, hn, ap1_, hil, hif, d1, g1, d2, g2, g3]; exact .r _); (· first|trivial|simp))
        refine W_cond (by simp [h2, h3, h24, h25, h26, hb0, hb1, hn, ap1_]; exact .r _) (fun hd => ?_) (fun hd => ?_)
        · repeat' first|refine W_seq ?_|refine W_block ?_|refine W_skip ?_|refine W_ret ?_|refine W_exit ?_|refine xb_hit ?_|refine xb_miss (by decide) ?_|(apply W_reg;(simp [h2, h3, h24, h25, h26, hb0, hb1, hn, ap1_];exact .r _))
          simp [hno]
        · simp at hd
    have hpo2 := hpo
    rw [hpe] at hpo2
    have hg : (isVar a.args[i] = true ∧ True ∧ True) ∨ (isVar a.args[i] = false ∧ constOf a.args[i] = f.args[i] ∧ ¬ f.args[i] < 0) := by
      cases g1 : isVar a.args[i]
      · rw [g1, Bool.false_or, Bool.and_eq_true, decide_eq_true_eq] at hpo2
        rw [g1, Bool.false_or, hpo2.1] at ht
        have := of_decide_eq_true ht.symm
        exact .inr ⟨rfl, hpo2.2, by rw [← hpo2.2]; omega⟩
      · exact .inl ⟨rfl, trivial, trivial⟩
    rcases hg with ⟨g1, g2, g3⟩ | ⟨g1, g2, g3⟩
    all_goals
      repeat' first|refine W_seq ?_|refine W_block ?_|refine W_skip ?_|refine W_ret ?_|refine W_exit ?_|refine xb_hit ?_|refine xb_miss (by decide) ?_|(apply W_reg;(simp [h2, h3, h24, h25, h26, hb0, hb1, hn, ap1_, hil, hif, d1, g1, d2, g2, g3];exact .r _))|(apply W_draw (id := 6) [0,1,3,7,15,31,63,127,255,511,255,1279,255,7423,15615,32767,65535,131071] rfl rfl; (· simp; exact .r _); (· simp [h2, h3, h24, h25, h26, hb0, hb1, hn, ap1_, hil, hif, d1, g1, d2, g2, g3]; exact .r _); (· first|trivial|simp))
      refine W_cond (by simp [h2, h3, h24, h25, h26, hb0, hb1, hn, ap1_]; exact .r _) (fun hd => ?_) (fun hd => ?_)
      · simp at hd
      repeat' first|refine W_seq ?_|refine W_block ?_|refine W_skip ?_|refine W_ret ?_|refine W_exit ?_|refine xb_hit ?_|refine xb_miss (by decide) ?_|(apply W_reg;(simp [h2, h3, h24, h25, h26, hb0, hb1, hn, ap1_, hi, show min i a.args.length = i by omega];exact .r _))
      refine W_loop (n := i) (fun n s => ∃ j : Nat, n = i - j ∧ s.nt = 77 ∧ s.tm 2 = .ptr 0 0 ∧ s.tm 3 = .ptr 1 0 ∧ s.tm 5 = In i ∧ s.tm 6 = In a.args[i] ∧ s.tm 24 = Ar a.args ∧ s.tm 25 = In a.args.length ∧ s.tm 26 = In i ∧ s.tm 52 = Ar (a.args.take i) ∧ s.tm 53 = In i ∧ s.tm 54 = In j ∧ j ≤ i ∧ s.σ.ob 0 = .box [In a.rel, Ar a.args] ∧ s.σ.ob 1 = .box [In f.rel, Ar f.args] ∧ 2 ≤ s.σ.n ∧ (∀ k, k < j → a.args[k]! = a.args[i]! → f.args[k]! = f.args[i]!)) ⟨0, by simp [h2, h3, h24, h25, h26, hb0, hb1, hn, ap1_, show (rowsE a.args).take i = rowsE (a.args.take i) from (List.map_take ..).symm]⟩ ?_
      rintro n ⟨nt, tm, σ⟩ ⟨j, rfl, hnt, h2, h3, h5, h6, h24, h25, h26, h52, h53, h54, hj, hb0, hb1, hn, hq⟩
      simp only at hnt h2 h3 h5 h6 h24 h25 h26 h52 h53 h54 hb0 hb1 hn
      subst hnt
      have ap2_ := apart hn
      repeat' first|refine W_seq ?_|refine W_block ?_|refine W_skip ?_|refine W_ret ?_|refine W_exit ?_|refine xb_hit ?_|refine xb_miss (by decide) ?_|(apply W_reg;(simp [h2, h3, h5, h6, h24, h25, h26, h52, h53, h54, hb0, hb1, hn, ap2_];exact .r _))
      refine W_cond (by simp [h2, h3, h5, h6, h24, h25, h26, h52, h53, h54, hb0, hb1, hn, ap2_]; exact .r _) (fun hd => ?_) (fun hd => ?_)
      · have hjl : j < i := by simpa using hd
        have hja : j < a.args.length := by omega
        have hjf : j < f.args.length := by omega
        have q3 := getElem!_pos a.args j hja
        have q4 := getElem!_pos f.args j hjf
        by_cases r1 : a.args[i] = a.args[j]
        · by_cases r2 : f.args[i] = f.args[j]
          · repeat' first|refine W_seq ?_|refine W_block ?_|refine W_skip ?_|refine W_ret ?_|refine W_exit ?_|refine xb_hit ?_|refine xb_miss (by decide) ?_|(apply W_reg;(simp [h2, h3, h5, h6, h24, h25, h26, h52, h53, h54, hb0, hb1, hn, ap2_, show min i a.args.length = i by omega, hjl, hja, hjf, hif, hil, r1, r2];exact .r _))|(apply W_draw (id := 11) [0,0,3,7,15,31,15,127,255,15,527,15,3599,7695,16383,32767] rfl rfl; (· simp; exact .r _); (· simp [h2, h3, h5, h6, h24, h25, h26, h52, h53, h54, hb0, hb1, hn, ap2_, show min i a.args.length = i by omega, hjl, hja, hjf, hif, hil, r1, r2]; exact .r _); (· first|trivial|simp))
            refine W_cond (by simp [h2, h3, h5, h6, h24, h25, h26, h52, h53, h54, hb0, hb1, hn, ap2_]; exact .r _) (fun hdd => ?_) (fun hdd => ?_)
            · simp at hdd
            repeat' first|refine W_seq ?_|refine W_block ?_|refine W_skip ?_|refine W_ret ?_|refine W_exit ?_|refine xb_hit ?_|refine xb_miss (by decide) ?_|(apply W_reg;(simp [h2, h3, h5, h6, h24, h25, h26, h52, h53, h54, hb0, hb1, hn, ap2_];exact .r _))
            refine ⟨_, ?_, j + 1, rfl, rfl, ?_, ?_, ?_, ?_, ?_, ?_, ?_, ?_, ?_, ?_, by omega, ?_, ?_, ?_, below_succ hq fun _ => (by rw [q2, q4]; exact r2.symm)⟩
            all_goals first|assumption|(simp [h2, h3, h5, h6, h24, h25, h26, h52, h53, h54, hb0, hb1, hn, ap2_];done)|(simp [h2, h3, h5, h6, h24, h25, h26, h52, h53, h54, hb0, hb1, hn, ap2_];omega)|(simp [h2, h3, h5, h6, h24, h25, h26, h52, h53, h54, hb0, hb1, hn, ap2_];exact wrap_succ (by omega))|omega
          · have hno := fitA_no (f := f) hil fun h => r2 (by rw [← q4, ← q2]; exact (h.2 j hjl (by rw [q1, q3]; exact r1.symm)).symm)
            repeat' first|refine W_seq ?_|refine W_block ?_|refine W_skip ?_|refine W_ret ?_|refine W_exit ?_|refine xb_hit ?_|refine xb_miss (by decide) ?_|(apply W_reg;(simp [h2, h3, h5, h6, h24, h25, h26, h52, h53, h54, hb0, hb1, hn, ap2_, show min i a.args.length = i by omega, hjl, hja, hjf, hif, hil, r1, r2];exact .r _))|(apply W_draw (id := 11) [0,0,3,7,15,31,15,127,255,15,527,15,3599,7695,16383,32767] rfl rfl; (· simp; exact .r _); (· simp [h2, h3, h5, h6, h24, h25, h26, h52, h53, h54, hb0, hb1, hn, ap2_, show min i a.args.length = i by omega, hjl, hja, hjf, hif, hil, r1, r2]; exact .r _); (· first|trivial|simp))
            refine W_cond (by simp [h2, h3, h5, h6, h24, h25, h26, h52, h53, h54, hb0, hb1, hn, ap2_]; exact .r _) (fun hdd => ?_) (fun hdd => ?_)
            · repeat' first|refine W_seq ?_|refine W_block ?_|refine W_skip ?_|refine W_ret ?_|refine W_exit ?_|refine xb_hit ?_|refine xb_miss (by decide) ?_|(apply W_reg;(simp [h2, h3, h5, h6, h24, h25, h26, h52, h53, h54, hb0, hb1, hn, ap2_];exact .r _))
              simp [hno]
            · simp at hdd
        · repeat' first|refine W_seq ?_|refine W_block ?_|refine W_skip ?_|refine W_ret ?_|refine W_exit ?_|refine xb_hit ?_|refine xb_miss (by decide) ?_|(apply W_reg;(simp [h2, h3, h5, h6, h24, h25, h26, h52, h53, h54, hb0, hb1, hn, ap2_, show min i a.args.length = i by omega, hjl, hja, hjf, hif, hil, r1];exact .r _))|(apply W_draw (id := 11) [0,0,3,7,15,31,15,127,255,15,527,15,3599,7695,16383,32767] rfl rfl; (· simp; exact .r _); (· simp [h2, h3, h5, h6, h24, h25, h26, h52, h53, h54, hb0, hb1, hn, ap2_, show min i a.args.length = i by omega, hjl, hja, hjf, hif, hil, r1]; exact .r _); (· first|trivial|simp))
          refine W_cond (by simp [h2, h3, h5, h6, h24, h25, h26, h52, h53, h54, hb0, hb1, hn, ap2_]; exact .r _) (fun hdd => ?_) (fun hdd => ?_)
          · simp at hdd
          repeat' first|refine W_seq ?_|refine W_block ?_|refine W_skip ?_|refine W_ret ?_|refine W_exit ?_|refine xb_hit ?_|refine xb_miss (by decide) ?_|(apply W_reg;(simp [h2, h3, h5, h6, h24, h25, h26, h52, h53, h54, hb0, hb1, hn, ap2_];exact .r _))
          refine ⟨_, ?_, j + 1, rfl, rfl, ?_, ?_, ?_, ?_, ?_, ?_, ?_, ?_, ?_, ?_, by omega, ?_, ?_, ?_, below_succ hq fun h => absurd (by rw [← q1, ← q3]; exact h.symm) r1⟩
          all_goals first|assumption|(simp [h2, h3, h5, h6, h24, h25, h26, h52, h53, h54, hb0, hb1, hn, ap2_];done)|(simp [h2, h3, h5, h6, h24, h25, h26, h52, h53, h54, hb0, hb1, hn, ap2_];omega)|(simp [h2, h3, h5, h6, h24, h25, h26, h52, h53, h54, hb0, hb1, hn, ap2_];exact wrap_succ (by omega))|omega
      · have hjl : j = i := by simp at hd; omega
        subst hjl
        repeat' first|refine W_seq ?_|refine W_block ?_|refine W_skip ?_|refine W_ret ?_|refine W_exit ?_|refine xb_hit ?_|refine xb_miss (by decide) ?_|(apply W_reg;(simp [h2, h3, h5, h6, h24, h25, h26, h52, h53, h54, hb0, hb1, hn, ap2_];exact .r _))
        refine ⟨_, ?_, j + 1, rfl, rfl, ?_, ?_, ?_, ?_, ?_, by omega, ?_, ?_, ?_, below_succ hp ⟨hpo, hq⟩⟩
        all_goals first|assumption|(simp [h2, h3, h5, h6, h24, h25, h26, h52, h53, h54, hb0, hb1, hn, ap2_];done)|(simp [h2, h3, h5, h6, h24, h25, h26, h52, h53, h54, hb0, hb1, hn, ap2_];omega)|(simp [h2, h3, h5, h6, h24, h25, h26, h52, h53, h54, hb0, hb1, hn, ap2_];exact wrap_succ (by omega))|omega
  · have hil : i = a.args.length := by simp at hc; omega
    subst hil
    repeat' first|refine W_seq ?_|refine W_block ?_|refine W_skip ?_|refine W_ret ?_|refine W_exit ?_|refine xb_hit ?_|refine xb_miss (by decide) ?_|(apply W_reg;(simp [h2, h3, h24, h25, h26, hb0, hb1, hn];exact .r _))
    simp [fitA_yes e1 e2 hp]
theorem l19Fits_r (a f : RA) (ha : Sm a.args) (hf : Sm f.args) : Ret XX 166 [Ag a, Ag f] (.t (.b (fitA a f)) false) := by
  refine ret_W rfl Tryz.func166 rfl rfl (by simp [Tryz.f166]) ?_
  simp only [Tryz.f166]
  by_cases e1 : a.rel = f.rel
  case neg =>
    repeat' first|refine W_seq ?_|refine W_block ?_|refine W_skip ?_|refine W_ret ?_|refine W_exit ?_|refine xb_hit ?_|refine xb_miss (by decide) ?_|(apply W_reg;(simp [Ag, e1];exact .r _))
    refine W_cond (by simp; exact .r _) (fun hc => ?_) (fun hc => ?_)
    · repeat' first|refine W_seq ?_|refine W_block ?_|refine W_skip ?_|refine W_ret ?_|refine W_exit ?_|refine xb_hit ?_|refine xb_miss (by decide) ?_|(apply W_reg;(simp;exact .r _))
      simp [fitA, e1]
    · simp at hc
  by_cases e2 : a.args.length = f.args.length
  case neg =>
    repeat' first|refine W_seq ?_|refine W_block ?_|refine W_skip ?_|refine W_ret ?_|refine W_exit ?_|refine xb_hit ?_|refine xb_miss (by decide) ?_|(apply W_reg;(simp [Ag, e1, e2];exact .r _))
    refine W_cond (by simp; exact .r _) (fun hc => ?_) (fun hc => ?_)
    · repeat' first|refine W_seq ?_|refine W_block ?_|refine W_skip ?_|refine W_ret ?_|refine W_exit ?_|refine xb_hit ?_|refine xb_miss (by decide) ?_|(apply W_reg;(simp;exact .r _))
      simp [fitA, e1, e2]
    · simp at hc; omega
  have hl : a.args.length < 1099511627775 := ha
  repeat' first|refine W_seq ?_|refine W_block ?_|refine W_skip ?_|refine W_ret ?_|refine W_exit ?_|refine xb_hit ?_|refine xb_miss (by decide) ?_|(apply W_reg;(simp [Ag, e1, e2];exact .r _))
  refine W_cond (by simp; exact .r _) (fun hc => ?_) (fun hc => ?_)
  · simp at hc
  repeat' first|refine W_seq ?_|refine W_block ?_|refine W_skip ?_|refine W_ret ?_|refine W_exit ?_|refine xb_hit ?_|refine xb_miss (by decide) ?_|(apply W_reg;(simp;exact .r _))
  refine W_loop (n := a.args.length) (fun n s => ∃ i : Nat, n = a.args.length - i ∧ s.nt = 87 ∧ s.tm 2 = .ptr 0 0 ∧ s.tm 3 = .ptr 1 0 ∧ s.tm 5 = In i ∧ i ≤ a.args.length ∧ s.σ.ob 0 = .box [In a.rel, Ar a.args] ∧ s.σ.ob 1 = .box [In f.rel, Ar f.args] ∧ 2 ≤ s.σ.n ∧ (∀ k, k < i → pos a.args f.args k)) ⟨0, by simp [e1, e2]⟩ ?_
  rintro n ⟨nt, tm, σ⟩ ⟨i, rfl, hnt, h2, h3, h5, hi, hb0, hb1, hn, hp⟩
  simp only at hnt h2 h3 h5 hb0 hb1 hn
  subst hnt
  have ap3_ := apart hn
  repeat' first|refine W_seq ?_|refine W_block ?_|refine W_skip ?_|refine W_ret ?_|refine W_exit ?_|refine xb_hit ?_|refine xb_miss (by decide) ?_|(apply W_reg;(simp [h2, h3, h5, hb0, hb1, hn, ap3_];exact .r _))
  refine W_cond (by simp [h2, h3, h5, hb0, hb1, hn, ap3_]; exact .r _) (fun hc => ?_) (fun hc => ?_)
  · have hil : i < a.args.length := by simpa using hc
    have hif : i < f.args.length := by omega
    have q1 := getElem!_pos a.args i hil
    have q2 := getElem!_pos f.args i hif
    have d1 := cv (specIsVar_r a.args[i])
    have d2 := cv (specIsTerm_r a.args[i])
    have ht := isTerm_or a.args[i]
    have hco := constOf_eq a.args[i]
    have hpe : posOk a.args[i]! f.args[i]! = (isVar a.args[i] || (isTerm a.args[i] && decide (constOf a.args[i] = f.args[i]))) := by rw [q1, q2]; rfl
    by_cases hpo : posOk a.args[i]! f.args[i]! = true
    case neg =>
      have hno := fitA_no (f := f) hil fun h => hpo h.1
      rw [hpe] at hpo
      have g1 : isVar a.args[i] = false := by cases h : isVar a.args[i] <;> simp_all
      rw [g1, Bool.false_or] at hpo ht
      cases g2 : isTerm a.args[i]
      · repeat' first|refine W_seq ?_|refine W_block ?_|refine W_skip ?_|refine W_ret ?_|refine W_exit ?_|refine xb_hit ?_|refine xb_miss (by decide) ?_|(apply W_reg;(simp [h2, h3, h5, hb0, hb1, hn, ap3_, hil, hif, d1, g1, d2, g2];exact .r _))|(apply W_draw (id := 6) [0,1,0,7,15,31,63,127,255,511,255,2047,4095,8191,16383,32767,65535,131071,65535,524287,1048575,2097151,65535,4259839,65535,29425663,62980095,134217727,268435455,536870911] rfl rfl; (· simp; exact .r _); (· simp [h2, h3, h5, hb0, hb1, hn, ap3_, hil, hif, d1, g1, d2, g2]; exact .r _); (· first|trivial|simp))
        refine W_cond (by simp [h2, h3, h5, hb0, hb1, hn, ap3_]; exact .r _) (fun hd => ?_) (fun hd => ?_)
        · repeat' first|refine W_seq ?_|refine W_block ?_|refine W_skip ?_|refine W_ret ?_|refine W_exit ?_|refine xb_hit ?_|refine xb_miss (by decide) ?_|(apply W_reg;(simp [h2, h3, h5, hb0, hb1, hn, ap3_];exact .r _))
          simp [hno]
        · simp at hd
      · have g3 : ¬ constOf a.args[i] = f.args[i] := fun e => hpo (by rw [g2, decide_eq_true e]; rfl)
        rw [g2] at ht
        have h0 := of_decide_eq_true ht.symm
        have hin : inR a.args[i] (-80) (-1) = true := by cases h : inR a.args[i] (-80) (-1); (rw [h] at hco; simp at hco; omega); rfl
        rw [hin, if_pos rfl] at hco
        have hb := hin
        simp only [inR, decide_eq_true_eq, Bool.and_eq_true] at hb
        rw [hco] at g3
        have wr4_ : IntKind.i64.wrap (-1 - a.args[i]) = -1 - a.args[i] := wrap_ok (by omega) (by omega)
        repeat' first|refine W_seq ?_|refine W_block ?_|refine W_skip ?_|refine W_ret ?_|refine W_exit ?_|refine xb_hit ?_|refine xb_miss (by decide) ?_|(apply W_reg;(simp [h2, h3, h5, hb0, hb1, hn, ap3_, wr4_, hil, hif, d1, g1, d2, g2, g3];exact .r _))|(apply W_draw (id := 6) [0,1,0,7,15,31,63,127,255,511,255,2047,4095,8191,16383,32767,65535,131071,65535,524287,1048575,2097151,65535,4259839,65535,29425663,62980095,134217727,268435455,536870911] rfl rfl; (· simp; exact .r _); (· simp [h2, h3, h5, hb0, hb1, hn, ap3_, wr4_, hil, hif, d1, g1, d2, g2, g3]; exact .r _); (· first|trivial|simp))
        refine W_cond (by simp [h2, h3, h5, hb0, hb1, hn, ap3_, wr4_]; exact .r _) (fun hd => ?_) (fun hd => ?_)
        · repeat' first|refine W_seq ?_|refine W_block ?_|refine W_skip ?_|refine W_ret ?_|refine W_exit ?_|refine xb_hit ?_|refine xb_miss (by decide) ?_|(apply W_reg;(simp [h2, h3, h5, hb0, hb1, hn, ap3_, wr4_];exact .r _))
          simp [hno]
        · simp at hd
    have hpo2 := hpo
    rw [hpe] at hpo2
    have hg : (isVar a.args[i] = true ∧ True ∧ True ∧ True ∧ True) ∨ (isVar a.args[i] = false ∧ isTerm a.args[i] = true ∧ -1 - a.args[i] = f.args[i] ∧ -80 ≤ a.args[i] ∧ a.args[i] ≤ -1) := by
      cases g1 : isVar a.args[i]
      · rw [g1, Bool.false_or, Bool.and_eq_true, decide_eq_true_eq] at hpo2
        rw [g1, Bool.false_or, hpo2.1] at ht
        have h0 := of_decide_eq_true ht.symm
        have hin : inR a.args[i] (-80) (-1) = true := by cases h : inR a.args[i] (-80) (-1); (rw [h] at hco; simp at hco; omega); rfl
        rw [hin, if_pos rfl] at hco
        simp only [inR, decide_eq_true_eq, Bool.and_eq_true] at hin
        exact .inr ⟨rfl, hpo2.1, by rw [← hco]; exact hpo2.2, hin⟩
      · exact .inl ⟨rfl, trivial, trivial, trivial, trivial⟩
    rcases hg with ⟨g1, g2, g3, g4, g5⟩ | ⟨g1, g2, g3, g4, g5⟩
    all_goals
      have hw : isVar a.args[i] = true ∨ IntKind.i64.wrap (-1 - a.args[i]) = -1 - a.args[i] := by first | exact .inl g1 | exact .inr (wrap_ok (by omega) (by omega))
      rw [g1] at hw
      try rw [or_iff_right (by decide)] at hw
      try rw [g3] at hw
      repeat' first|refine W_seq ?_|refine W_block ?_|refine W_skip ?_|refine W_ret ?_|refine W_exit ?_|refine xb_hit ?_|refine xb_miss (by decide) ?_|(apply W_reg;(simp [h2, h3, h5, hb0, hb1, hn, ap3_, hil, hif, d1, g1, d2, g2, hw, g3];exact .r _))|(apply W_draw (id := 6) [0,1,0,7,15,31,63,127,255,511,255,2047,4095,8191,16383,32767,65535,131071,65535,524287,1048575,2097151,65535,4259839,65535,29425663,62980095,134217727,268435455,536870911] rfl rfl; (· simp; exact .r _); (· simp [h2, h3, h5, hb0, hb1, hn, ap3_, hil, hif, d1, g1, d2, g2, hw, g3]; exact .r _); (· first|trivial|simp))
      refine W_cond (by simp [h2, h3, h5, hb0, hb1, hn, ap3_]; exact .r _) (fun hd => ?_) (fun hd => ?_)
      · simp at hd
      repeat' first|refine W_seq ?_|refine W_block ?_|refine W_skip ?_|refine W_ret ?_|refine W_exit ?_|refine xb_hit ?_|refine xb_miss (by decide) ?_|(apply W_reg;(simp [h2, h3, h5, hb0, hb1, hn, ap3_];exact .r _))
      refine W_loop (n := i) (fun n s => ∃ j : Nat, n = i - j ∧ s.nt = 87 ∧ s.tm 2 = .ptr 0 0 ∧ s.tm 3 = .ptr 1 0 ∧ s.tm 5 = In i ∧ s.tm 6 = In j ∧ j ≤ i ∧ s.σ.ob 0 = .box [In a.rel, Ar a.args] ∧ s.σ.ob 1 = .box [In f.rel, Ar f.args] ∧ 2 ≤ s.σ.n ∧ (∀ k, k < j → a.args[k]! = a.args[i]! → f.args[k]! = f.args[i]!)) ⟨0, by simp [h2, h3, h5, hb0, hb1, hn, ap3_]⟩ ?_
      rintro n ⟨nt, tm, σ⟩ ⟨j, rfl, hnt, h2, h3, h5, h6, hj, hb0, hb1, hn, hq⟩
      simp only at hnt h2 h3 h5 h6 hb0 hb1 hn
      subst hnt
      have ap5_ := apart hn
      repeat' first|refine W_seq ?_|refine W_block ?_|refine W_skip ?_|refine W_ret ?_|refine W_exit ?_|refine xb_hit ?_|refine xb_miss (by decide) ?_|(apply W_reg;(simp [h2, h3, h5, h6, hb0, hb1, hn, ap5_];exact .r _))
      refine W_cond (by simp [h2, h3, h5, h6, hb0, hb1, hn, ap5_]; exact .r _) (fun hd => ?_) (fun hd => ?_)
      · have hjl : j < i := by simpa using hd
        have hja : j < a.args.length := by omega
        have hjf : j < f.args.length := by omega
        have q3 := getElem!_pos a.args j hja
        have q4 := getElem!_pos f.args j hjf
        by_cases r1 : a.args[j] = a.args[i]
        · by_cases r2 : f.args[j] = f.args[i]
          · repeat' first|refine W_seq ?_|refine W_block ?_|refine W_skip ?_|refine W_ret ?_|refine W_exit ?_|refine xb_hit ?_|refine xb_miss (by decide) ?_|(apply W_reg;(simp [h2, h3, h5, h6, hb0, hb1, hn, ap5_, hja, hjf, hif, hil, r1, r2];exact .r _))|(apply W_draw (id := 11) [0,1,0,7,15,0,32,0,224,480,1023,2047,4095,8191,4095,32767,65535,4095,135167,4095,921599,1970175,4194303,8388607] rfl rfl; (· simp; exact .r _); (· simp [h2, h3, h5, h6, hb0, hb1, hn, ap5_, hja, hjf, hif, hil, r1, r2]; exact .r _); (· first|trivial|simp))
            refine W_cond (by simp [h2, h3, h5, h6, hb0, hb1, hn, ap5_]; exact .r _) (fun hdd => ?_) (fun hdd => ?_)
            · simp at hdd
            repeat' first|refine W_seq ?_|refine W_block ?_|refine W_skip ?_|refine W_ret ?_|refine W_exit ?_|refine xb_hit ?_|refine xb_miss (by decide) ?_|(apply W_reg;(simp [h2, h3, h5, h6, hb0, hb1, hn, ap5_];exact .r _))
            refine ⟨_, ?_, j + 1, rfl, rfl, ?_, ?_, ?_, ?_, by omega, ?_, ?_, ?_, below_succ hq fun _ => (by rw [q2, q4]; exact r2)⟩
            all_goals first|assumption|(simp [h2, h3, h5, h6, hb0, hb1, hn, ap5_];done)|(simp [h2, h3, h5, h6, hb0, hb1, hn, ap5_];omega)|(simp [h2, h3, h5, h6, hb0, hb1, hn, ap5_];exact wrap_succ (by omega))|omega
          · have hno := fitA_no (f := f) hil fun h => r2 (by rw [← q4, ← q2]; exact h.2 j hjl (by rw [q1, q3]; exact r1))
            repeat' first|refine W_seq ?_|refine W_block ?_|refine W_skip ?_|refine W_ret ?_|refine W_exit ?_|refine xb_hit ?_|refine xb_miss (by decide) ?_|(apply W_reg;(simp [h2, h3, h5, h6, hb0, hb1, hn, ap5_, hja, hjf, hif, hil, r1, r2];exact .r _))|(apply W_draw (id := 11) [0,1,0,7,15,0,32,0,224,480,1023,2047,4095,8191,4095,32767,65535,4095,135167,4095,921599,1970175,4194303,8388607] rfl rfl; (· simp; exact .r _); (· simp [h2, h3, h5, h6, hb0, hb1, hn, ap5_, hja, hjf, hif, hil, r1, r2]; exact .r _); (· first|trivial|simp))
            refine W_cond (by simp [h2, h3, h5, h6, hb0, hb1, hn, ap5_]; exact .r _) (fun hdd => ?_) (fun hdd => ?_)
            · repeat' first|refine W_seq ?_|refine W_block ?_|refine W_skip ?_|refine W_ret ?_|refine W_exit ?_|refine xb_hit ?_|refine xb_miss (by decide) ?_|(apply W_reg;(simp [h2, h3, h5, h6, hb0, hb1, hn, ap5_];exact .r _))
              simp [hno]
            · simp at hdd
        · repeat' first|refine W_seq ?_|refine W_block ?_|refine W_skip ?_|refine W_ret ?_|refine W_exit ?_|refine xb_hit ?_|refine xb_miss (by decide) ?_|(apply W_reg;(simp [h2, h3, h5, h6, hb0, hb1, hn, ap5_, hja, hjf, hif, hil, r1];exact .r _))|(apply W_draw (id := 11) [0,1,0,7,15,0,32,0,224,480,1023,2047,4095,8191,4095,32767,65535,4095,135167,4095,921599,1970175,4194303,8388607] rfl rfl; (· simp; exact .r _); (· simp [h2, h3, h5, h6, hb0, hb1, hn, ap5_, hja, hjf, hif, hil, r1]; exact .r _); (· first|trivial|simp))
          refine W_cond (by simp [h2, h3, h5, h6, hb0, hb1, hn, ap5_]; exact .r _) (fun hdd => ?_) (fun hdd => ?_)
          · simp at hdd
          repeat' first|refine W_seq ?_|refine W_block ?_|refine W_skip ?_|refine W_ret ?_|refine W_exit ?_|refine xb_hit ?_|refine xb_miss (by decide) ?_|(apply W_reg;(simp [h2, h3, h5, h6, hb0, hb1, hn, ap5_];exact .r _))
          refine ⟨_, ?_, j + 1, rfl, rfl, ?_, ?_, ?_, ?_, by omega, ?_, ?_, ?_, below_succ hq fun h => absurd (by rw [← q1, ← q3]; exact h) r1⟩
          all_goals first|assumption|(simp [h2, h3, h5, h6, hb0, hb1, hn, ap5_];done)|(simp [h2, h3, h5, h6, hb0, hb1, hn, ap5_];omega)|(simp [h2, h3, h5, h6, hb0, hb1, hn, ap5_];exact wrap_succ (by omega))|omega
      · have hjl : j = i := by simp at hd; omega
        subst hjl
        repeat' first|refine W_seq ?_|refine W_block ?_|refine W_skip ?_|refine W_ret ?_|refine W_exit ?_|refine xb_hit ?_|refine xb_miss (by decide) ?_|(apply W_reg;(simp [h2, h3, h5, h6, hb0, hb1, hn, ap5_];exact .r _))
        refine ⟨_, ?_, j + 1, rfl, rfl, ?_, ?_, ?_, by omega, ?_, ?_, ?_, below_succ hp ⟨hpo, hq⟩⟩
        all_goals first|assumption|(simp [h2, h3, h5, h6, hb0, hb1, hn, ap5_];done)|(simp [h2, h3, h5, h6, hb0, hb1, hn, ap5_];omega)|(simp [h2, h3, h5, h6, hb0, hb1, hn, ap5_];exact wrap_succ (by omega))|omega
  · have hil : i = a.args.length := by simp at hc; omega
    subst hil
    repeat' first|refine W_seq ?_|refine W_block ?_|refine W_skip ?_|refine W_ret ?_|refine W_exit ?_|refine xb_hit ?_|refine xb_miss (by decide) ?_|(apply W_reg;(simp [h2, h3, h5, hb0, hb1, hn];exact .r _))
    simp [fitA_yes e1 e2 hp]
def mayA (q : Qry) (f : RA) : Bool := q.body.any fun a => fitA a f
theorem implMay_r (q : Qry) (f : RA) (h : SmQ q) (hf : Sm f.args) : Ret XX 45 [Ag q, Ag f] (.t (.b (mayA q f)) false) := by
  refine ret_W rfl Tryz.func45 rfl rfl (by simp [Tryz.f45]) ?_
  simp only [Tryz.f45]
  have hl : q.body.length < 1099511627775 := h.2.1
  repeat' first|refine W_seq ?_|refine W_block ?_|refine W_skip ?_|refine W_ret ?_|refine W_exit ?_|refine xb_hit ?_|refine xb_miss (by decide) ?_|(apply W_reg;(simp [Ag];exact .r _))
  refine W_loop (n := q.body.length) (fun n s => ∃ i : Nat, n = q.body.length - i ∧ s.nt = 18 ∧ s.tm 3 = .ptr 1 0 ∧ s.tm 8 = Ar q.body ∧ s.tm 9 = In q.body.length ∧ s.tm 10 = In i ∧ i ≤ q.body.length ∧ s.σ.ob 1 = .box [In f.rel, Ar f.args] ∧ 2 ≤ s.σ.n ∧ mayA q f = (q.body.drop i).any fun a => fitA a f) ⟨0, by simp [mayA]⟩ ?_
  rintro n ⟨nt, tm, σ⟩ ⟨i, rfl, hnt, h3, h8, h9, h10, hi, hb1, hn, heq⟩
  simp only at hnt h3 h8 h9 h10 hb1 hn
  subst hnt
  have ap6_ := apart hn
  repeat' first|refine W_seq ?_|refine W_block ?_|refine W_skip ?_|refine W_ret ?_|refine W_exit ?_|refine xb_hit ?_|refine xb_miss (by decide) ?_|(apply W_reg;(simp [h3, h8, h9, h10, hb1, hn, ap6_];exact .r _))
  refine W_cond (by simp [h3, h8, h9, h10, hb1, hn, ap6_]; exact .r _) (fun hc => ?_) (fun hc => ?_)
  · have hil : i < q.body.length := by simpa using hc
    have c1 := cv (canBe_r q.body[i] f (h.2.2 _ (List.getElem_mem hil)) hf)
    simp only [Ag, cells_RA, List.map_cons, List.map_nil] at c1
    rw [List.drop_eq_getElem_cons hil, List.any_cons] at heq
    cases e : fitA q.body[i] f
    · rw [e, Bool.false_or] at heq
      repeat' first|refine W_seq ?_|refine W_block ?_|refine W_skip ?_|refine W_ret ?_|refine W_exit ?_|refine xb_hit ?_|refine xb_miss (by decide) ?_|(apply W_reg;(simp [h3, h8, h9, h10, hb1, hn, ap6_, hil, c1, e];exact .r _))
      refine W_cond (by simp [h3, h8, h9, h10, hb1, hn, ap6_]; exact .r _) (fun hd => ?_) (fun hd => ?_)
      · cases hd
      repeat' first|refine W_seq ?_|refine W_block ?_|refine W_skip ?_|refine W_ret ?_|refine W_exit ?_|refine xb_hit ?_|refine xb_miss (by decide) ?_|(apply W_reg;(simp [h3, h8, h9, h10, hb1, hn, ap6_];exact .r _))
      refine ⟨_, ?_, i + 1, rfl, rfl, ?_, ?_, ?_, ?_, by omega, ?_, ?_, heq⟩
      all_goals first|assumption|(simp [h3, h8, h9, h10, hb1, hn, ap6_];done)|(simp [h3, h8, h9, h10, hb1, hn, ap6_];omega)|(simp [h3, h8, h9, h10, hb1, hn, ap6_];exact wrap_succ (by omega))|omega
    · rw [e, Bool.true_or] at heq
      repeat' first|refine W_seq ?_|refine W_block ?_|refine W_skip ?_|refine W_ret ?_|refine W_exit ?_|refine xb_hit ?_|refine xb_miss (by decide) ?_|(apply W_reg;(simp [h3, h8, h9, h10, hb1, hn, ap6_, hil, c1, e];exact .r _))
      refine W_cond (by simp [h3, h8, h9, h10, hb1, hn, ap6_]; exact .r _) (fun hd => ?_) (fun hd => ?_)
      · repeat' first|refine W_seq ?_|refine W_block ?_|refine W_skip ?_|refine W_ret ?_|refine W_exit ?_|refine xb_hit ?_|refine xb_miss (by decide) ?_|(apply W_reg;(simp [h3, h8, h9, h10, hb1, hn, ap6_];exact .r _))
        simp [heq]
      · cases hd
  · have hil : i = q.body.length := by simp at hc; omega
    subst hil
    rw [List.drop_length] at heq
    repeat' first|refine W_seq ?_|refine W_block ?_|refine W_skip ?_|refine W_ret ?_|refine W_exit ?_|refine xb_hit ?_|refine xb_miss (by decide) ?_|(apply W_reg;(simp [h3, h8, h9, h10, hb1, hn, ap6_];exact .r _))
    simp [heq]
theorem specMay_r (q : Qry) (f : RA) (h : SmQ q) (hf : Sm f.args) : Ret XX 46 [Ag q, Ag f] (.t (.b (mayA q f)) false) := by
  refine ret_W rfl Tryz.func46 rfl rfl (by simp [Tryz.f46]) ?_
  simp only [Tryz.f46]
  have hl : q.body.length < 1099511627775 := h.2.1
  repeat' first|refine W_seq ?_|refine W_block ?_|refine W_skip ?_|refine W_ret ?_|refine W_exit ?_|refine xb_hit ?_|refine xb_miss (by decide) ?_|(apply W_reg;(simp [Ag];exact .r _))
  refine W_loop (n := q.body.length) (fun n s => ∃ i : Nat, n = q.body.length - i ∧ s.nt = 20 ∧ s.tm 2 = .ptr 0 0 ∧ s.tm 3 = .ptr 1 0 ∧ s.tm 5 = In i ∧ i ≤ q.body.length ∧ s.σ.ob 0 = .box [Ar q.head, Ar q.body] ∧ s.σ.ob 1 = .box [In f.rel, Ar f.args] ∧ 2 ≤ s.σ.n ∧ mayA q f = (q.body.drop i).any fun a => fitA a f) ⟨0, by simp [mayA]⟩ ?_
  rintro n ⟨nt, tm, σ⟩ ⟨i, rfl, hnt, h2, h3, h5, hi, hb0, hb1, hn, heq⟩
  simp only at hnt h2 h3 h5 hb0 hb1 hn
  subst hnt
  have ap7_ := apart hn
  repeat' first|refine W_seq ?_|refine W_block ?_|refine W_skip ?_|refine W_ret ?_|refine W_exit ?_|refine xb_hit ?_|refine xb_miss (by decide) ?_|(apply W_reg;(simp [h2, h3, h5, hb0, hb1, hn, ap7_];exact .r _))
  refine W_cond (by simp [h2, h3, h5, hb0, hb1, hn, ap7_]; exact .r _) (fun hc => ?_) (fun hc => ?_)
  · have hil : i < q.body.length := by simpa using hc
    have c1 := cv (l19Fits_r q.body[i] f (h.2.2 _ (List.getElem_mem hil)) hf)
    simp only [Ag, cells_RA, List.map_cons, List.map_nil] at c1
    rw [List.drop_eq_getElem_cons hil, List.any_cons] at heq
    cases e : fitA q.body[i] f
    · rw [e, Bool.false_or] at heq
      repeat' first|refine W_seq ?_|refine W_block ?_|refine W_skip ?_|refine W_ret ?_|refine W_exit ?_|refine xb_hit ?_|refine xb_miss (by decide) ?_|(apply W_reg;(simp [h2, h3, h5, hb0, hb1, hn, ap7_, hil, c1, e];exact .r _))|(apply W_draw (id := 4) [0,1,0,7,15,0,63] rfl rfl; (· simp; exact .r _); (· simp [h2, h3, h5, hb0, hb1, hn, ap7_, hil, c1, e]; exact .r _); (· first|trivial|simp))
      refine W_cond (by simp [h2, h3, h5, hb0, hb1, hn, ap7_]; exact .r _) (fun hd => ?_) (fun hd => ?_)
      · cases hd
      repeat' first|refine W_seq ?_|refine W_block ?_|refine W_skip ?_|refine W_ret ?_|refine W_exit ?_|refine xb_hit ?_|refine xb_miss (by decide) ?_|(apply W_reg;(simp [h2, h3, h5, hb0, hb1, hn, ap7_];exact .r _))
      refine ⟨_, ?_, i + 1, rfl, rfl, ?_, ?_, ?_, by omega, ?_, ?_, ?_, heq⟩
      all_goals first|assumption|(simp [h2, h3, h5, hb0, hb1, hn, ap7_];done)|(simp [h2, h3, h5, hb0, hb1, hn, ap7_];omega)|(simp [h2, h3, h5, hb0, hb1, hn, ap7_];exact wrap_succ (by omega))|omega
    · rw [e, Bool.true_or] at heq
      repeat' first|refine W_seq ?_|refine W_block ?_|refine W_skip ?_|refine W_ret ?_|refine W_exit ?_|refine xb_hit ?_|refine xb_miss (by decide) ?_|(apply W_reg;(simp [h2, h3, h5, hb0, hb1, hn, ap7_, hil, c1, e];exact .r _))|(apply W_draw (id := 4) [0,1,0,7,15,0,63] rfl rfl; (· simp; exact .r _); (· simp [h2, h3, h5, hb0, hb1, hn, ap7_, hil, c1, e]; exact .r _); (· first|trivial|simp))
      refine W_cond (by simp [h2, h3, h5, hb0, hb1, hn, ap7_]; exact .r _) (fun hd => ?_) (fun hd => ?_)
      · repeat' first|refine W_seq ?_|refine W_block ?_|refine W_skip ?_|refine W_ret ?_|refine W_exit ?_|refine xb_hit ?_|refine xb_miss (by decide) ?_|(apply W_reg;(simp [h2, h3, h5, hb0, hb1, hn, ap7_];exact .r _))
        simp [heq]
      · cases hd
  · have hil : i = q.body.length := by simp at hc; omega
    subst hil
    rw [List.drop_length] at heq
    repeat' first|refine W_seq ?_|refine W_block ?_|refine W_skip ?_|refine W_ret ?_|refine W_exit ?_|refine xb_hit ?_|refine xb_miss (by decide) ?_|(apply W_reg;(simp [h2, h3, h5, hb0, hb1, hn, ap7_];exact .r _))
    simp [heq]
end Go.Proofs.YtmfifjbbjjdacaaGreat.V

namespace Go.Proofs.YtmfifjbbjjdacaaGreat.V
open Go Go.Proofs
set_option linter.unusedVariables false
set_option linter.unusedSimpArgs false
def isSrc (c : Sch) (s : Src) : Bool := isDb c s.facts && inR s.version 0 1000
theorem implIsSrc_r (c : Sch) (s : Src) (sc : Sm c.arity) (sd : Sm s.facts) (sda : ∀ a ∈ s.facts, Sm a.args) : Ret XX 219 [Ag c, Ag s] (.t (.b (isSrc c s)) false) := by
  refine ret_W rfl Tryz.func219 rfl rfl (by simp [Tryz.f219]) ?_
  simp only [Tryz.f219]
  have c2 := cv (implIsDb_r c s.facts sc sd sda)
  have c3 := cv (within_r s.version 0 1000)
  simp only [Ag, cells_Sch, List.map_cons, List.map_nil] at c2
  cases e2 : isDb c s.facts
  · repeat' first|refine W_seq ?_|refine W_block ?_|refine W_skip ?_|refine W_ret ?_|refine W_exit ?_|refine xb_hit ?_|refine xb_miss (by decide) ?_|(apply W_reg;(simp [Ag, c2, e2];exact .r _))
    simp [isSrc, e2]
  · repeat' first|refine W_seq ?_|refine W_block ?_|refine W_skip ?_|refine W_ret ?_|refine W_exit ?_|refine xb_hit ?_|refine xb_miss (by decide) ?_|(apply W_reg;(simp [Ag, c2, e2, c3];exact .r _))
    simp [isSrc, e2]
theorem specIsSrc_r (c : Sch) (s : Src) (sc : Sm c.arity) (sd : Sm s.facts) (sda : ∀ a ∈ s.facts, Sm a.args) : Ret XX 216 [Ag c, Ag s] (.t (.b (isSrc c s)) false) := by
  refine ret_W rfl Tryz.func216 rfl rfl (by simp [Tryz.f216]) ?_
  simp only [Tryz.f216]
  have c2 := cv (specIsDb_r c s.facts sc sd sda)
  have c3 := cv (l1In_r s.version 0 1000)
  simp only [Ag, cells_Sch, List.map_cons, List.map_nil] at c2
  cases e2 : isDb c s.facts
  · repeat' first|refine W_seq ?_|refine W_block ?_|refine W_skip ?_|refine W_ret ?_|refine W_exit ?_|refine xb_hit ?_|refine xb_miss (by decide) ?_|(apply W_reg;(simp [Ag, c2, e2];exact .r _))
    simp [isSrc, e2]
  · repeat' first|refine W_seq ?_|refine W_block ?_|refine W_skip ?_|refine W_ret ?_|refine W_exit ?_|refine xb_hit ?_|refine xb_miss (by decide) ?_|(apply W_reg;(simp [Ag, c2, e2, c3];exact .r _))
    simp [isSrc, e2]
end Go.Proofs.YtmfifjbbjjdacaaGreat.V

