/- Several texts in one: what the claim needs of them. Conditions: each declaration's own. -/
import Derived.Test.YtlehbgapjibeeaaZChkM6
namespace Go.Proofs.Ytlehbgapjibeeaa.V
open Go Go.Proofs
set_option linter.unusedVariables false
set_option linter.unusedSimpArgs false
theorem repl1_r (o b x : Int) : Ret XX 134 [In x, .fptr [.i .i64 o], .fptr [.i .i64 b]] (.t (.i .i64 (sb (o, b) x)) false) := by
  refine ret_W rfl Try.func134 rfl rfl (by simp [Try.f134]) ?_
  simp only [Try.f134]
  by_cases e : x = o
  · repeat' first|refine nx ?_|refine xb_miss (by decide) ?_|(apply W_reg;(simp [e];exact .r _))
    refine W_cond (by simp; exact .r _) (fun hc => ?_) (fun hc => ?_)
    · repeat' first|refine nx ?_|refine xb_miss (by decide) ?_|(apply W_reg;(simp;exact .r _))
      simp [sb, e]
    · simp at hc
  · repeat' first|refine nx ?_|refine xb_miss (by decide) ?_|(apply W_reg;(simp [e];exact .r _))
    refine W_cond (by simp; exact .r _) (fun hc => ?_) (fun hc => ?_)
    · simp at hc
    · repeat' first|refine nx ?_|refine xb_miss (by decide) ?_|(apply W_reg;(simp;exact .r _))
      simp [sb, e]
theorem ren1_r (to : List Int) (h : Sm to) (x : Int) : Ret XX 108 [In x, .fptr [.sl (rowsE to)]] (.t (.i .i64 (rnI to x)) false) := by
  refine ret_W rfl Try.func108 rfl rfl (by simp [Try.f108]) ?_
  simp only [Try.f108]
  have c1 := cv (within_r x 0 ((to.length : Int) - 1))
  have wr1_ : IntKind.i64.wrap ((to.length : Int) - 1) = (to.length : Int) - 1 := wrap_ok (by omega) (by omega)
  by_cases e : 0 ≤ x ∧ x ≤ (to.length : Int) - 1
  · have hi : inR x 0 ((to.length : Int) - 1) = true := by simp [inR]; omega
    have hx : x.toNat < to.length := by omega
    have hx0 : 0 ≤ x := e.1
    have hg : rnI to x = to[x.toNat] := by unfold rnI; rw [if_pos e, List.getElem?_eq_getElem hx]; rfl
    repeat' first|refine nx ?_|refine xb_miss (by decide) ?_|(apply W_reg;(simp [wr1_, c1, hi];exact .r _))
    refine W_cond (by simp [wr1_]; exact .r _) (fun hc => ?_) (fun hc => ?_)
    · repeat' first|refine nx ?_|refine xb_miss (by decide) ?_|(apply W_reg;(simp [wr1_, hx, hx0];exact .r _))
      simp [hg]
    · cases hc
  · have hi : inR x 0 ((to.length : Int) - 1) = false := by simp [inR]; omega
    have hg : rnI to x = x := by unfold rnI; rw [if_neg e]
    repeat' first|refine nx ?_|refine xb_miss (by decide) ?_|(apply W_reg;(simp [wr1_, c1, hi];exact .r _))
    refine W_cond (by simp [wr1_]; exact .r _) (fun hc => ?_) (fun hc => ?_)
    · cases hc
    · repeat' first|refine nx ?_|refine xb_miss (by decide) ?_|(apply W_reg;(simp [wr1_];exact .r _))
      simp [hg]
theorem mod_row {C : List RA} {k j : Nat} {rel v : Int} {A : List Int} (hk : k < C.length) (hc : C[k] = ⟨rel, A⟩) :
    (rowsE C).modify k (fun r => r.modify 1 fun x => match x with | .sl q => .sl (q.set j [.i .i64 v]) | x => x) = rowsE (C.set k ⟨rel, A.set j v⟩) := by
  have hr : (rowsE C)[k]? = some [.i .i64 rel, .sl (rowsE A)] := by simp [rowsE, hk, hc]
  have hl : k < (rowsE C).length := by rw [rowsE_len]; exact hk
  rw [rowsE_set]
  apply List.ext_getElem?
  intro m
  rw [List.getElem?_modify, List.getElem?_set]
  by_cases e : k = m
  · subst e
    rw [if_pos rfl, if_pos hl, hr]
    simp [rowsE_set]
  · rw [if_neg e]; simp [e]
theorem changed_r (q : Qry) (f : Int → Int) (g : Nat) (caps : List AV) (h : SmQ q) (hM : Ms g = false) (hcp : ∀ σ, caps.mapM (reify σ) = some caps) (hp : ∀ x : Int, Ret XX g (In x :: caps) (.t (.i .i64 (f x)) false)) : Ret XX 76 [Ag q, .clo g caps] (xvQ (chg f q)) := by
  refine ret_W rfl Try.func76 rfl rfl (by simp [Try.f76]) ?_
  simp only [Try.f76]
  have c1 := cv (copyQuery_r q h)
  have hh : q.head.length < 1099511627775 := h.1
  have hb : q.body.length < 1099511627775 := h.2.1
  have hcall : ∀ (x : Int) (σ : Sto), callV Ms XX σ g (In x :: caps) = some (In (f x), σ) := fun x σ => by rw [cv (hp x) hM σ (In x :: caps) (by simp [hcp])]; rfl
  simp only [Ag, cells_Q, List.map_cons, List.map_nil] at c1
  repeat' first|refine nx ?_|refine xb_miss (by decide) ?_|(apply W_reg;(simp [Ag, c1];exact .r _))
  refine W_loop (n := q.head.length) (fun n s => ∃ i : Nat, ∃ L : List Int, n = q.head.length - i ∧ s.nt = 55 ∧ s.tm 1 = .clo g caps ∧ s.tm 4 = .ptr 1 0 ∧ s.tm 5 = .ptr 4 0 ∧ s.tm 15 = .ref 2 q.head.length [] ∧ s.tm 16 = In q.head.length ∧ s.tm 17 = In i ∧ i ≤ q.head.length ∧ s.σ.ob 1 = .box [.t .nl, .t .nl] ∧ s.σ.ob 2 = .arr (.own 0) 0 1 (rowsE L) ∧ s.σ.ob 3 = .arr (.own 0) 0 2 (rowsE q.body) ∧ s.σ.ob 4 = .box [.ref 2 q.head.length [], .ref 3 q.body.length []] ∧ 5 ≤ s.σ.n ∧ L = mix f q.head i) ⟨0, q.head, by simp [mix_zero]⟩ ?_
  rintro n ⟨nt, tm, σ⟩ ⟨i, L, rfl, hnt, h1, h4, h5, h15, h16, h17, hi, hb1, hb2, hb3, hb4, hn, hL⟩
  simp only at hnt h1 h4 h5 h15 h16 h17 hb1 hb2 hb3 hb4 hn
  subst hnt
  have ap2_ := apart hn
  have hLl : L.length = q.head.length := by rw [hL]; exact mix_len hi
  repeat' first|refine nx ?_|refine xb_miss (by decide) ?_|(apply W_reg;(simp [h1, h4, h5, h15, h16, h17, hb1, hb2, hb3, hb4, hn, ap2_, hLl];exact .r _))
  refine W_cond (by simp [h1, h4, h5, h15, h16, h17, hb1, hb2, hb3, hb4, hn, ap2_]; exact .r _) (fun hc => ?_) (fun hc => ?_)
  · have hil : i < q.head.length := by simpa using hc
    have hiL : i < L.length := by omega
    have hg : L[i] = q.head[i] := by subst hL; exact mix_get hil hiL
    have hst := mix_set (f := f) hil
    rw [← hL] at hst
    repeat' first|refine nx ?_|refine xb_miss (by decide) ?_|(apply W_reg;(simp [h1, h4, h5, h15, h16, h17, hb1, hb2, hb3, hb4, hn, ap2_, hiL, hil, hLl, hg, hcall];exact .r _))|(apply W_draw (id := 5) [0,1,0,0,0,24,63,127] rfl rfl; (· simp; exact .r _); (· simp [h1, h4, h5, h15, h16, h17, hb1, hb2, hb3, hb4, hn, ap2_, hiL, hil, hLl, hg, hcall]; exact .r _); (· first|trivial|simp))
    refine ⟨_, ?_, i + 1, L.set i (f q.head[i]), rfl, rfl, ?_, ?_, ?_, ?_, ?_, ?_, by omega, ?_, (by simp [h1, h4, h5, h15, h16, h17, hb1, hb2, hb3, hb4, hn, ap2_, rowsE_set, putT]), ?_, ?_, ?_, hst⟩
    all_goals first|assumption|(simp [h1, h4, h5, h15, h16, h17, hb1, hb2, hb3, hb4, hn, ap2_];done)|(simp [h1, h4, h5, h15, h16, h17, hb1, hb2, hb3, hb4, hn, ap2_];omega)|(simp [h1, h4, h5, h15, h16, h17, hb1, hb2, hb3, hb4, hn, ap2_];exact wrap_succ (by omega))|omega
  · have hil : i = q.head.length := by simp at hc; omega
    subst hil
    rw [mix_end] at hL
    subst hL
    repeat' first|refine nx ?_|refine xb_miss (by decide) ?_|(apply W_reg;(simp [h1, h4, h5, h15, h16, h17, hb1, hb2, hb3, hb4, hn, ap2_];exact .r _))
    refine W_loop (n := q.body.length) (fun n s => ∃ k : Nat, ∃ B : List RA, n = q.body.length - k ∧ s.nt = 55 ∧ s.tm 1 = .clo g caps ∧ s.tm 4 = .ptr 1 0 ∧ s.tm 5 = .ptr 4 0 ∧ s.tm 31 = .ref 3 q.body.length [] ∧ s.tm 32 = In q.body.length ∧ s.tm 33 = In k ∧ k ≤ q.body.length ∧ s.σ.ob 1 = .box [.t .nl, .t .nl] ∧ s.σ.ob 2 = .arr (.own 0) 0 1 (rowsE (q.head.map f)) ∧ s.σ.ob 3 = .arr (.own 0) 0 2 (rowsE B) ∧ s.σ.ob 4 = .box [.ref 2 q.head.length [], .ref 3 q.body.length []] ∧ 5 ≤ s.σ.n ∧ B = mix (mapA f) q.body k) ⟨0, q.body, by simp [h1, h4, h5, h15, h16, h17, hb1, hb2, hb3, hb4, hn, ap2_, mix_zero]⟩ ?_
    rintro n ⟨nt, tm, σ⟩ ⟨k, B, rfl, hnt, h1, h4, h5, h31, h32, h33, hi, hb1, hb2, hb3, hb4, hn, hB⟩
    simp only at hnt h1 h4 h5 h31 h32 h33 hb1 hb2 hb3 hb4 hn
    subst hnt
    have ap3_ := apart hn
    have hBl : B.length = q.body.length := by rw [hB]; exact mix_len hi
    repeat' first|refine nx ?_|refine xb_miss (by decide) ?_|(apply W_reg;(simp [h1, h4, h5, h31, h32, h33, hb1, hb2, hb3, hb4, hn, ap3_];exact .r _))
    refine W_cond (by simp [h1, h4, h5, h31, h32, h33, hb1, hb2, hb3, hb4, hn, ap3_]; exact .r _) (fun hc => ?_) (fun hc => ?_)
    · have hkl : k < q.body.length := by simpa using hc
      have hkB : k < B.length := by omega
      have hg : B[k] = q.body[k] := by subst hB; exact mix_get hkl hkB
      have hst := mix_set (f := mapA f) hkl
      rw [← hB] at hst
      obtain ⟨σT, eT⟩ : ∃ y : Sto, y = σ := ⟨σ, rfl⟩
      have hn0 : 5 ≤ σT.n := by rw [eT]; exact hn
      have hal : q.body[k].args.length < 1099511627775 := h.2.2 _ (List.getElem_mem hkl)
      repeat' first|refine nx ?_|refine xb_miss (by decide) ?_|(apply W_reg;(simp [h1, h4, h5, h31, h32, h33, hb1, hb2, hb3, hb4, hn, ap3_, hkB, hkl, hBl, hg];exact .r _))
      refine W_loop (n := q.body[k].args.length) (fun n s => ∃ j : Nat, ∃ A : List Int, ∃ C : List RA, n = q.body[k].args.length - j ∧ s.nt = 55 ∧ s.tm 1 = .clo g caps ∧ s.tm 4 = .ptr 1 0 ∧ s.tm 5 = .ptr 4 0 ∧ s.tm 9 = .ptr σT.n 0 ∧ s.tm 31 = .ref 3 q.body.length [] ∧ s.tm 32 = In q.body.length ∧ s.tm 33 = In k ∧ s.tm 38 = .ref 3 0 [(k, 1)] ∧ s.tm 39 = In q.body[k].args.length ∧ s.tm 40 = In j ∧ j ≤ q.body[k].args.length ∧ s.σ.ob 1 = .box [.t .nl, .t .nl] ∧ s.σ.ob 2 = .arr (.own 0) 0 1 (rowsE (q.head.map f)) ∧ s.σ.ob 3 = .arr (.own 0) 0 2 (rowsE C) ∧ s.σ.ob 4 = .box [.ref 2 q.head.length [], .ref 3 q.body.length []] ∧ s.σ.ob σT.n = .box [In q.body[k].rel, .ref 3 0 [(k, 1)]] ∧ σT.n < s.σ.n ∧ A = mix f q.body[k].args j ∧ C = B.set k ⟨q.body[k].rel, A⟩) ⟨0, q.body[k].args, B, by simp [h1, h4, h5, h31, h32, h33, hb1, hb2, hb3, hb4, hn, ap3_, mix_zero, eT, show B.set k q.body[k] = B by rw [← hg]; exact List.set_getElem_self hkB]⟩ ?_
      rintro n ⟨nt, tm, σ⟩ ⟨j, A, C, rfl, hnt, h1, h4, h5, h9, h31, h32, h33, h38, h39, h40, hj, hb1, hb2, hb3, hb4, hbx, hn, hA, hC⟩
      simp only at hnt h1 h4 h5 h9 h31 h32 h33 h38 h39 h40 hb1 hb2 hb3 hb4 hbx hn
      subst hnt
      have ap4_ := apart hn
      have hn5 : 5 ≤ σ.n := by omega
      have ap5_ := apart hn5
      have ne6_ : ¬ (σT.n = 1) := by omega
      have ne7_ : ¬ (1 = σT.n) := by omega
      have ne8_ : ¬ (σT.n = 2) := by omega
      have ne9_ : ¬ (2 = σT.n) := by omega
      have ne10_ : ¬ (σT.n = 3) := by omega
      have ne11_ : ¬ (3 = σT.n) := by omega
      have ne12_ : ¬ (σT.n = 4) := by omega
      have ne13_ : ¬ (4 = σT.n) := by omega
      have hAl : A.length = q.body[k].args.length := by rw [hA]; exact mix_len hj
      have hCl : C.length = B.length := by rw [hC]; simp
      have hkC : k < C.length := by omega
      have hCk : C[k] = ⟨q.body[k].rel, A⟩ := by subst hC; simp
      repeat' first|refine nx ?_|refine xb_miss (by decide) ?_|(apply W_reg;(simp [h1, h4, h5, h9, h31, h32, h33, h38, h39, h40, hb1, hb2, hb3, hb4, hbx, hn, ap4_, ap5_, ne6_, ne7_, ne8_, ne9_, ne10_, ne11_, ne12_, ne13_];exact .r _))
      refine W_cond (by simp [h1, h4, h5, h9, h31, h32, h33, h38, h39, h40, hb1, hb2, hb3, hb4, hbx, hn, ap4_, ap5_, ne6_, ne7_, ne8_, ne9_, ne10_, ne11_, ne12_, ne13_]; exact .r _) (fun hd => ?_) (fun hd => ?_)
      · have hjl : j < q.body[k].args.length := by simpa using hd
        have hjA : j < A.length := by omega
        have hgA : A[j] = q.body[k].args[j] := by subst hA; exact mix_get hjl hjA
        have hsA := mix_set (f := f) hjl
        rw [← hA] at hsA
        repeat' first|refine nx ?_|refine xb_miss (by decide) ?_|(apply W_reg;(simp [h1, h4, h5, h9, h31, h32, h33, h38, h39, h40, hb1, hb2, hb3, hb4, hbx, hn, ap4_, ap5_, ne6_, ne7_, ne8_, ne9_, ne10_, ne11_, ne12_, ne13_, hjl, hjA, hAl, hkC, hCk, hgA, hcall];exact .r _))|(apply W_draw (id := 13) [0,1,0,0,0,24,63,127] rfl rfl; (· simp; exact .r _); (· simp [h1, h4, h5, h9, h31, h32, h33, h38, h39, h40, hb1, hb2, hb3, hb4, hbx, hn, ap4_, ap5_, ne6_, ne7_, ne8_, ne9_, ne10_, ne11_, ne12_, ne13_, hjl, hjA, hAl, hkC, hCk, hgA, hcall]; exact .r _); (· first|trivial|simp))
        refine ⟨_, ?_, j + 1, A.set j (f q.body[k].args[j]), C.set k ⟨q.body[k].rel, A.set j (f q.body[k].args[j])⟩, rfl, rfl, ?_, ?_, ?_, ?_, ?_, ?_, ?_, ?_, ?_, ?_, by omega, ?_, ?_, (by simp [h1, h4, h5, h9, h31, h32, h33, h38, h39, h40, hb1, hb2, hb3, hb4, hbx, hn, ap4_, ap5_, ne6_, ne7_, ne8_, ne9_, ne10_, ne11_, ne12_, ne13_]; exact mod_row hkC hCk), ?_, ?_, ?_, hsA, (by rw [hC, List.set_set])⟩
        all_goals first|assumption|(simp [h1, h4, h5, h9, h31, h32, h33, h38, h39, h40, hb1, hb2, hb3, hb4, hbx, hn, ap4_, ap5_, ne6_, ne7_, ne8_, ne9_, ne10_, ne11_, ne12_, ne13_];done)|(simp [h1, h4, h5, h9, h31, h32, h33, h38, h39, h40, hb1, hb2, hb3, hb4, hbx, hn, ap4_, ap5_, ne6_, ne7_, ne8_, ne9_, ne10_, ne11_, ne12_, ne13_];omega)|(simp [h1, h4, h5, h9, h31, h32, h33, h38, h39, h40, hb1, hb2, hb3, hb4, hbx, hn, ap4_, ap5_, ne6_, ne7_, ne8_, ne9_, ne10_, ne11_, ne12_, ne13_];exact wrap_succ (by omega))|omega
      · have hjl : j = q.body[k].args.length := by simp at hd; omega
        subst hjl
        rw [mix_end] at hA
        subst hA
        have hC2 : C = B.set k (mapA f q.body[k]) := hC
        repeat' first|refine nx ?_|refine xb_miss (by decide) ?_|(apply W_reg;(simp [h1, h4, h5, h9, h31, h32, h33, h38, h39, h40, hb1, hb2, hb3, hb4, hbx, hn, ap4_, ap5_, ne6_, ne7_, ne8_, ne9_, ne10_, ne11_, ne12_, ne13_];exact .r _))
        refine ⟨_, ?_, k + 1, C, rfl, rfl, ?_, ?_, ?_, ?_, ?_, ?_, by omega, ?_, ?_, ?_, ?_, ?_, (by rw [hC2]; exact hst)⟩
        all_goals first|assumption|(simp [h1, h4, h5, h9, h31, h32, h33, h38, h39, h40, hb1, hb2, hb3, hb4, hbx, hn, ap4_, ap5_, ne6_, ne7_, ne8_, ne9_, ne10_, ne11_, ne12_, ne13_];done)|(simp [h1, h4, h5, h9, h31, h32, h33, h38, h39, h40, hb1, hb2, hb3, hb4, hbx, hn, ap4_, ap5_, ne6_, ne7_, ne8_, ne9_, ne10_, ne11_, ne12_, ne13_];omega)|(simp [h1, h4, h5, h9, h31, h32, h33, h38, h39, h40, hb1, hb2, hb3, hb4, hbx, hn, ap4_, ap5_, ne6_, ne7_, ne8_, ne9_, ne10_, ne11_, ne12_, ne13_];exact wrap_succ (by omega))|omega
    · have hkl : k = q.body.length := by simp at hc; omega
      subst hkl
      rw [mix_end] at hB
      subst hB
      repeat' first|refine nx ?_|refine xb_miss (by decide) ?_|(apply W_reg;(simp [h1, h4, h5, h31, h32, h33, hb1, hb2, hb3, hb4, hn];exact .r _))
      simp [chg, h1, h4, h5, h31, h32, h33, hb1, hb2, hb3, hb4, hn]
end Go.Proofs.Ytlehbgapjibeeaa.V

namespace Go.Proofs.Ytlehbgapjibeeaa.V
open Go Go.Proofs
set_option linter.unusedVariables false
set_option linter.unusedSimpArgs false
theorem implRen_r (q : Qry) (to : List Int) (h : SmQ q) (ht : Sm to) : Ret XX 69 [Ag q, Ar to] (xvQ (chg (rnI to) q)) := by
  refine ret_W rfl Try.func69 rfl rfl (by simp [Try.f69]) ?_
  simp only [Try.f69]
  have c1 := cv (changed_r q (rnI to) 108 [.fptr [.sl (rowsE to)]] h rfl (fun σ => by simp) (fun x => ren1_r to ht x))
  simp only [Ag, cells_Q, List.map_cons, List.map_nil] at c1
  repeat' first|refine nx ?_|refine xb_miss (by decide) ?_|(apply W_reg;(simp [Ag, c1];exact .r _))
  simp
theorem implRepl_r (q : Qry) (o b : Int) (h : SmQ q) : Ret XX 110 [Ag q, In o, In b] (xvQ (chg (sb (o, b)) q)) := by
  refine ret_W rfl Try.func110 rfl rfl (by simp [Try.f110]) ?_
  simp only [Try.f110]
  have c1 := cv (changed_r q (sb (o, b)) 134 [.fptr [.i .i64 o], .fptr [.i .i64 b]] h rfl (fun σ => by simp) (fun x => repl1_r o b x))
  simp only [Ag, cells_Q, List.map_cons, List.map_nil] at c1
  repeat' first|refine nx ?_|refine xb_miss (by decide) ?_|(apply W_reg;(simp [Ag, c1];exact .r _))
  simp
def xEqI (q : Qry) (t u : Int) : XV := match eqt t u with
  | none => .tup [.agg [.t .nl false, .t .nl false], .t (.b false) false]
  | some p => if t = u then .tup [xvQs q, .t (.b true) false] else .tup [xvQ (chg (sb p) q), .t (.b true) false]
theorem equate_r (q : Qry) (t u : Int) (h : SmQ q) (ht : isVar t = !decide (t < 0)) (hu : isVar u = !decide (u < 0)) : Ret XX 70 [Ag q, In t, In u] (xEqI q t u) := by
  refine ret_W rfl Try.func70 rfl rfl (by simp [Try.f70]) ?_
  simp only [Try.f70]
  have d1 := cv (implIsVar_r t)
  have d2 := cv (implIsVar_r u)
  by_cases e1 : t = u
  · subst e1
    repeat' first|refine nx ?_|refine xb_miss (by decide) ?_|(apply W_reg;(simp [Ag];exact .r _))
    refine W_cond (by simp; exact .r _) (fun hc => ?_) (fun hc => ?_)
    · repeat' first|refine nx ?_|refine xb_miss (by decide) ?_|(apply W_reg;(simp;exact .r _))
      simp [xEqI, eqt]
    · simp at hc
  repeat' first|refine nx ?_|refine xb_miss (by decide) ?_|(apply W_reg;(simp [Ag, e1];exact .r _))
  refine W_cond (by simp; exact .r _) (fun hc => ?_) (fun hc => ?_)
  · simp at hc
  by_cases e2 : t < 0
  · have g1 : isVar t = false := by rw [ht, decide_eq_true e2]; rfl
    by_cases e3 : u < 0
    · have g2 : isVar u = false := by rw [hu, decide_eq_true e3]; rfl
      repeat' first|refine nx ?_|refine xb_miss (by decide) ?_|(apply W_reg;(simp [d1, d2, g1, g2];exact .r _))
      refine W_cond (by simp; exact .r _) (fun hc => ?_) (fun hc => ?_)
      · repeat' first|refine nx ?_|refine xb_miss (by decide) ?_|(apply W_reg;(simp;exact .r _))
        simp [xEqI, eqt, e1, e2, e3]
      · simp at hc
    · have g2 : isVar u = true := by rw [hu, decide_eq_false e3]; rfl
      have c1 := cv (implRepl_r q u t h)
      simp only [Ag, cells_Q, List.map_cons, List.map_nil] at c1
      repeat' first|refine nx ?_|refine xb_miss (by decide) ?_|(apply W_reg;(simp [d1, d2, g1, g2];exact .r _))
      refine W_cond (by simp; exact .r _) (fun hc => ?_) (fun hc => ?_)
      · simp at hc
      repeat' first|refine nx ?_|refine xb_miss (by decide) ?_|(apply W_reg;(simp [d1, d2, g1, g2];exact .r _))
      refine W_cond (by simp; exact .r _) (fun hc => ?_) (fun hc => ?_)
      · repeat' first|refine nx ?_|refine xb_miss (by decide) ?_|(apply W_reg;(simp [c1];exact .r _))
        simp [xEqI, eqt, e1, e2, e3]
      · simp at hc
  · have g1 : isVar t = true := by rw [ht, decide_eq_false e2]; rfl
    by_cases e3 : u < 0
    · have g2 : isVar u = false := by rw [hu, decide_eq_true e3]; rfl
      have c1 := cv (implRepl_r q t u h)
      simp only [Ag, cells_Q, List.map_cons, List.map_nil] at c1
      repeat' first|refine nx ?_|refine xb_miss (by decide) ?_|(apply W_reg;(simp [d1, d2, g1, g2];exact .r _))
      refine W_cond (by simp; exact .r _) (fun hc => ?_) (fun hc => ?_)
      · simp at hc
      repeat' first|refine nx ?_|refine xb_miss (by decide) ?_|(apply W_reg;(simp [d1, d2, g1, g2];exact .r _))
      refine W_cond (by simp; exact .r _) (fun hc => ?_) (fun hc => ?_)
      · simp at hc
      repeat' first|refine nx ?_|refine xb_miss (by decide) ?_|(apply W_reg;(simp [c1];exact .r _))
      simp [xEqI, eqt, e1, e2, e3]
    · have g2 : isVar u = true := by rw [hu, decide_eq_false e3]; rfl
      by_cases e4 : t < u
      · have c1 := cv (implRepl_r q u t h)
        simp only [Ag, cells_Q, List.map_cons, List.map_nil] at c1
        have hmx : max t u = u := by omega
        have hmn : min t u = t := by omega
        repeat' first|refine nx ?_|refine xb_miss (by decide) ?_|(apply W_reg;(simp [d1, d2, g1, g2];exact .r _))
        refine W_cond (by simp; exact .r _) (fun hc => ?_) (fun hc => ?_)
        · simp at hc
        repeat' first|refine nx ?_|refine xb_miss (by decide) ?_|(apply W_reg;(simp [d1, d2, g1, g2, e4];exact .r _))
        refine W_cond (by simp; exact .r _) (fun hc => ?_) (fun hc => ?_)
        · repeat' first|refine nx ?_|refine xb_miss (by decide) ?_|(apply W_reg;(simp [c1];exact .r _))
          simp [xEqI, eqt, e1, e2, e3, hmx, hmn]
        · simp at hc
      · have c1 := cv (implRepl_r q t u h)
        simp only [Ag, cells_Q, List.map_cons, List.map_nil] at c1
        have hmx : max t u = t := by omega
        have hmn : min t u = u := by omega
        repeat' first|refine nx ?_|refine xb_miss (by decide) ?_|(apply W_reg;(simp [d1, d2, g1, g2];exact .r _))
        refine W_cond (by simp; exact .r _) (fun hc => ?_) (fun hc => ?_)
        · simp at hc
        repeat' first|refine nx ?_|refine xb_miss (by decide) ?_|(apply W_reg;(simp [d1, d2, g1, g2, e4];exact .r _))
        refine W_cond (by simp; exact .r _) (fun hc => ?_) (fun hc => ?_)
        · simp at hc
        repeat' first|refine nx ?_|refine xb_miss (by decide) ?_|(apply W_reg;(simp [c1];exact .r _))
        simp [xEqI, eqt, e1, e2, e3, hmx, hmn]
end Go.Proofs.Ytlehbgapjibeeaa.V

namespace Go.Proofs.Ytlehbgapjibeeaa.V
open Go Go.Proofs
set_option linter.unusedVariables false
set_option linter.unusedSimpArgs false
theorem nd_inj {α : Type} {l : List α} (h : l.Nodup) {i j : Nat} (hi : i < l.length) (hj : j < l.length) (e : l[i] = l[j]) : i = j := by
  rcases Nat.lt_trichotomy i j with h1 | h1 | h1
  · exact absurd e (List.pairwise_iff_getElem.1 h i j hi hj h1)
  · exact h1
  · exact absurd e.symm (List.pairwise_iff_getElem.1 h j i hj hi h1)
theorem rep_bs : List.replicate 20 [T.b false] = rowsE (bs []) := rfl
theorem rep_z : List.replicate 20 [T.i .i64 0] = rowsE (List.replicate 20 (0 : Int)) := rfl
theorem isVar_le {t : Int} (h : t ≤ 19) : isVar t = !decide (t < 0) := by
  unfold isVar inR
  rw [Bool.eq_iff_iff]; simp; omega
theorem uEqI (p : Int × Int) (u : Ust) : chg (sb p) ⟨u.h ++ (u.l ++ u.r), u.b⟩ = ⟨(u.sub p).h ++ ((u.sub p).l ++ (u.sub p).r), (u.sub p).b⟩ := by simp [chg, Ust.sub]
set_option maxRecDepth 10000 in
set_option maxHeartbeats 4000000 in
theorem implUnf_r (c : Sch) (vs : List Qry) (q : Qry) (sc : Sm c.arity) (hsv : Sm vs) (hvq : ∀ v ∈ vs, SmQ v) (hqq : SmQ q) : Ret XX 35 [Ag c, Ar vs, Ag q] (xUnf (unfold c vs q)) := by
  refine ret_W rfl Try.func35 rfl rfl (by simp [Try.f35]) ?_
  simp only [Try.f35]
  have c1 := cv (implAreVs_r c vs sc hsv hvq)
  simp only [Ag, cells_Sch, List.map_cons, List.map_nil] at c1
  cases e1 : areVs c vs
  · repeat' first|refine nx ?_|refine xb_miss (by decide) ?_|(apply W_reg;(simp [Ag, c1, e1];exact .r _))|(apply W_draw (id := 1) [0,0,3,7,15,31,63,31,255,511,1023] rfl rfl; (· simp; exact .r _); (· simp [Ag, c1, e1]; exact .r _); (· first|trivial|simp))
    refine W_cond (by simp; exact .r _) (fun hc => ?_) (fun hc => ?_)
    · repeat' first|refine nx ?_|refine xb_miss (by decide) ?_|(apply W_reg;(simp;exact .r _))
      simp [xUnf, unfold, e1]
    · cases hc
  have hav := areVs_mem e1
  have hne : vs ≠ [] := fun e => by rw [e] at hav; simp at hav
  have c2 := cv (implVSch_r vs hsv hne)
  have c3 := cv (implIsQuery_r ⟨hds vs⟩ q (by simpa [hds, Sm] using hsv) hqq.1 hqq.2.1 hqq.2.2)
  simp only [Ag, cells_Sch, cells_Q, List.map_cons, List.map_nil] at c2 c3
  cases hq : isQry ⟨hds vs⟩ q
  · repeat' first|refine nx ?_|refine xb_miss (by decide) ?_|(apply W_reg;(simp [Ag, c1, e1, c2, c3, hq];exact .r _))|(apply W_draw (id := 1) [0,0,3,7,15,31,63,31,255,511,1023] rfl rfl; (· simp; exact .r _); (· simp [Ag, c1, e1, c2, c3, hq]; exact .r _); (· first|trivial|simp))
    refine W_cond (by simp; exact .r _) (fun hc => ?_) (fun hc => ?_)
    · repeat' first|refine nx ?_|refine xb_miss (by decide) ?_|(apply W_reg;(simp;exact .r _))
      simp [xUnf, unfold, e1, show isQry (vSch vs) q = false from hq]
    · cases hc
  replace hq : isQry (vSch vs) q = true := hq
  have hun : unfold c vs q = unfQ vs q := by simp [unfold, e1, hq]
  rw [hun]
  have hq' : isQry ⟨hds vs⟩ q = true := hq
  have hqs := isQry_small hq
  have c4 := cv (implVars_r q hqq)
  have c5 := cv (copyInts_r q.head hqq.1)
  simp only [Ag, cells_Q, List.map_cons, List.map_nil] at c4
  have hvl : (varsQ q).length ≤ 20 := varL_len q 20
  have hr0 := rep_bs
  repeat' first|refine nx ?_|refine xb_miss (by decide) ?_|(apply W_reg;(simp [Ag, c1, e1, c2, c3, hq'];exact .r _))|(apply W_draw (id := 1) [0,0,3,7,15,31,63,31,255,511,1023] rfl rfl; (· simp; exact .r _); (· simp [Ag, c1, e1, c2, c3, hq']; exact .r _); (· first|trivial|simp))
  refine W_cond (by simp; exact .r _) (fun hc => ?_) (fun hc => ?_)
  · cases hc
  repeat' first|refine nx ?_|refine xb_miss (by decide) ?_|(apply W_reg;(simp [c4, hr0];exact .r _))
  refine W_loop (n := (varsQ q).length) (fun n s => ∃ k : Nat, n = (varsQ q).length - k ∧ s.nt = 167 ∧ s.tm 1 = Ar vs ∧ s.tm 5 = .ptr 1 0 ∧ s.tm 6 = .ptr 2 0 ∧ s.tm 8 = .ref 4 20 [] ∧ s.tm 39 = .ref 5 (varsQ q).length [] ∧ s.tm 40 = In (varsQ q).length ∧ s.tm 41 = In k ∧ k ≤ (varsQ q).length ∧ s.σ.ob 1 = .box [Ar q.head, Ar q.body] ∧ s.σ.ob 2 = .box [.t .nl, .t .nl] ∧ s.σ.ob 4 = .arr (.own 0) 0 1 (rowsE (bs ((varsQ q).take k))) ∧ s.σ.ob 5 = .arr (.own 0) 0 1 (rowsE (varsQ q)) ∧ s.σ.n = 6) ⟨0, by simp [bs_len]⟩ ?_
  rintro n ⟨nt, tm, σ⟩ ⟨k, rfl, hnt, h1, h5, h6, h8, h39, h40, h41, hk, hb1, hb2, hb4, hb5, hn⟩
  simp only at hnt h1 h5 h6 h8 h39 h40 h41 hb1 hb2 hb4 hb5 hn
  subst hnt
  repeat' first|refine nx ?_|refine xb_miss (by decide) ?_|(apply W_reg;(simp [h1, h5, h6, h8, h39, h40, h41, hb1, hb2, hb4, hb5, hn];exact .r _))
  refine W_cond (by simp [h1, h5, h6, h8, h39, h40, h41, hb1, hb2, hb4, hb5, hn]; exact .r _) (fun hc => ?_) (fun hc => ?_)
  · have hkl : k < (varsQ q).length := by simpa using hc
    have hm := varsQ_mem.1 (List.getElem_mem hkl)
    have h0 : 0 ≤ (varsQ q)[k] := hm.1.1
    have h20 : (varsQ q)[k].toNat < 20 := by omega
    have hst := bs_set (us := (varsQ q).take k) h20
    rw [show (((varsQ q)[k].toNat : Nat) : Int) = (varsQ q)[k] by omega, ← List.take_succ_eq_append_getElem hkl] at hst
    repeat' first|refine nx ?_|refine xb_miss (by decide) ?_|(apply W_reg;(simp [h1, h5, h6, h8, h39, h40, h41, hb1, hb2, hb4, hb5, hn, hkl, h0, h20, bs_len];exact .r _))
    refine ⟨_, ?_, k + 1, rfl, rfl, ?_, ?_, ?_, ?_, ?_, ?_, ?_, by omega, ?_, ?_, (by rw [← hst]; simp [h1, h5, h6, h8, h39, h40, h41, hb1, hb2, hb4, hb5, hn, rowsE_set, putT]), ?_, ?_⟩
    all_goals first|assumption|(simp [h1, h5, h6, h8, h39, h40, h41, hb1, hb2, hb4, hb5, hn];done)|(simp [h1, h5, h6, h8, h39, h40, h41, hb1, hb2, hb4, hb5, hn];omega)|(simp [h1, h5, h6, h8, h39, h40, h41, hb1, hb2, hb4, hb5, hn];exact wrap_succ (by omega))|omega
  have hkl : k = (varsQ q).length := by simp at hc; omega
  subst hkl
  rw [List.take_length] at hb4
  have hqh : q.head.length < 1099511627776 := by omega
  repeat' first|refine nx ?_|refine xb_miss (by decide) ?_|(apply W_reg;(simp [h1, h5, h6, h8, h39, h40, h41, hb1, hb2, hb4, hb5, hn, c5, hqh];exact .r _))
  refine W_loop (n := q.body.length) (fun n s => ∃ i : Nat, ∃ U : List Int, ∃ oT : Nat, ∃ st : Nat, ∃ B : List RA, ∃ L : List Int, ∃ R : List Int, n = q.body.length - i ∧ s.nt = 167 ∧ s.tm 1 = Ar vs ∧ s.tm 6 = .ptr 2 0 ∧ s.tm 8 = .ref 4 20 [] ∧ s.tm 11 = .ptr 7 0 ∧ s.tm 12 = .ref 8 L.length [] ∧ s.tm 13 = .ref 9 R.length [] ∧ s.tm 56 = Ar q.body ∧ s.tm 57 = In q.body.length ∧ s.tm 58 = In i ∧ i ≤ q.body.length ∧ s.σ.ob 2 = .box [.t .nl, .t .nl] ∧ s.σ.ob 4 = .arr (.own 0) 0 1 (rowsE (bs U)) ∧ s.σ.ob 6 = .arr (.own 0) 0 1 (rowsE q.head) ∧ s.σ.ob 7 = .box [.ref 6 q.head.length [], gc oT B.length] ∧ s.σ.ob 8 = .arr (.own 0) 0 1 (rowsE L) ∧ s.σ.ob 9 = .arr (.own 0) 0 1 (rowsE R) ∧ 10 ≤ s.σ.n ∧ (i = 0 ∨ (s.σ.ob oT = .arr (.own 0) st 2 (rowsE B) ∧ 10 ≤ oT ∧ oT < s.σ.n)) ∧ U.length ≤ 20 + 20 * i ∧ Acc i B L R ∧ unfS vs q.body (varsQ q) = (unfS vs (q.body.drop i) U).map (cat B L R)) ⟨0, varsQ q, 0, 0, [], [], [], by (simp [h1, h5, h6, h8, h39, h40, h41, hb1, hb2, hb4, hb5, hn, bs_len]; exact ⟨hvl, Acc.zero, (by cases unfS vs q.body (varsQ q) <;> simp [cat])⟩)⟩ ?_
  rintro n ⟨nt, tm, σ⟩ ⟨i, U, oT, st, B, L, R, rfl, hnt, h1, h6, h8, h11, h12, h13, h56, h57, h58, hi, hb2, hb4, hb6, hb7, hb8, hb9, hn, hT, hUl, hacc, heq⟩
  simp only at hnt h1 h6 h8 h11 h12 h13 h56 h57 h58 hb2 hb4 hb6 hb7 hb8 hb9 hn hT
  subst hnt
  have ap1_ := apart hn
  repeat' first|refine nx ?_|refine xb_miss (by decide) ?_|(apply W_reg;(simp [h1, h6, h8, h11, h12, h13, h56, h57, h58, hb2, hb4, hb6, hb7, hb8, hb9, hn, hT, ap1_];exact .r _))
  refine W_cond (by simp [h1, h6, h8, h11, h12, h13, h56, h57, h58, hb2, hb4, hb6, hb7, hb8, hb9, hn, hT, ap1_]; exact .r _) (fun hc2 => ?_) (fun hc2 => ?_)
  · have hil : i < q.body.length := by simpa using hc2
    have hA := List.getElem_mem hil
    obtain ⟨hr0', hrl, hal, hat⟩ := uq_atom hq hA
    have hv := (hav.1 _ (List.getElem_mem hrl)).1
    have hqv := isQry_small hv
    have hvne := isQry_ne hv
    obtain ⟨v, hve⟩ : ∃ v, vs[q.body[i].rel.toNat] = v := ⟨_, rfl⟩
    rw [hve] at hqv
    have hvq2 : SmQ v := ⟨by unfold Sm; omega, by unfold Sm; omega, fun a ha => by have := (hqv.2.2.2 a ha).1; unfold Sm; omega⟩
    have hlv : v.head.length = q.body[i].args.length := by rw [← hve]; exact hal.symm
    have hvb : v.body.length ≤ 4 := hqv.2.1
    have c6 := cv (implVars_r v hvq2)
    simp only [Ag, cells_Q, List.map_cons, List.map_nil] at c6
    have hvv : (varsQ v).length ≤ 20 := varL_len v 20
    have hrz := rep_z
    obtain ⟨σT, eT⟩ : ∃ y : Sto, y = σ := ⟨σ, rfl⟩
    have hnT : 10 ≤ σT.n := by rw [eT]; exact hn
    have hTo : ∀ s : Sto, (∀ x, x < σT.n → x ≠ 4 → s.ob x = σT.ob x) → i = 0 ∨ (s.ob oT = .arr (.own 0) st 2 (rowsE B) ∧ 10 ≤ oT ∧ oT < σT.n) := fun s h => hT.imp id fun h2 => ⟨by rw [h _ (by rw [eT]; exact h2.2.2) (by omega), eT]; exact h2.1, h2.2.1, by rw [eT]; exact h2.2.2⟩
    repeat' first|refine nx ?_|refine xb_miss (by decide) ?_|(apply W_reg;(simp [h1, h6, h8, h11, h12, h13, h56, h57, h58, hb2, hb4, hb6, hb7, hb8, hb9, hn, hT, ap1_, hil, hr0', hrl, hve, c6, hrz];exact .r _))
    refine W_loop (n := (varsQ v).length) (fun n s => ∃ j : Nat, ∃ w : Nat, ∃ ps : List (Int × Int), ∃ U2 : List Int, ∃ N : List Int, n = (varsQ v).length - j ∧ s.nt = 167 ∧ s.tm 1 = Ar vs ∧ s.tm 6 = .ptr 2 0 ∧ s.tm 8 = .ref 4 20 [] ∧ s.tm 11 = .ptr 7 0 ∧ s.tm 12 = .ref 8 L.length [] ∧ s.tm 13 = .ref 9 R.length [] ∧ s.tm 15 = .ptr σT.n 0 ∧ s.tm 16 = .ref (σT.n + 1) 20 [] ∧ s.tm 17 = In w ∧ s.tm 56 = Ar q.body ∧ s.tm 57 = In q.body.length ∧ s.tm 58 = In i ∧ s.tm 68 = .ref (σT.n + 2) (varsQ v).length [] ∧ s.tm 69 = In (varsQ v).length ∧ s.tm 70 = In j ∧ j ≤ (varsQ v).length ∧ s.σ.ob 2 = .box [.t .nl, .t .nl] ∧ s.σ.ob 4 = .arr (.own 0) 0 1 (rowsE (bs U2)) ∧ s.σ.ob 6 = .arr (.own 0) 0 1 (rowsE q.head) ∧ s.σ.ob 7 = .box [.ref 6 q.head.length [], gc oT B.length] ∧ s.σ.ob 8 = .arr (.own 0) 0 1 (rowsE L) ∧ s.σ.ob 9 = .arr (.own 0) 0 1 (rowsE R) ∧ s.σ.ob σT.n = .box [In q.body[i].rel, Ar q.body[i].args] ∧ s.σ.ob (σT.n + 1) = .arr (.own 0) 0 1 (rowsE N) ∧ s.σ.ob (σT.n + 2) = .arr (.own 0) 0 1 (rowsE (varsQ v)) ∧ σT.n + 3 ≤ s.σ.n ∧ (∀ x, x < σT.n → x ≠ 4 → s.σ.ob x = σT.ob x) ∧ N.length = 20 ∧ (∀ t ∈ (varsQ v).take j, N[t.toNat]? = some (asn ps t)) ∧ (ps, U2) = fr ((varsQ v).take j) U ∧ frOk ps = true ∧ low U2 w ∧ w ≤ 20) ⟨0, 0, [], U, List.replicate 20 0, by (simp [h1, h6, h8, h11, h12, h13, h56, h57, h58, hb2, hb4, hb6, hb7, hb8, hb9, hn, hT, ap1_, eT]; exact ⟨fun x y1 y2 => (by rw [if_neg (by omega), if_neg (by omega), if_neg (by omega), if_neg (by omega)]), rfl, rfl, fun u hu => absurd hu (by omega)⟩)⟩ ?_
    rintro n ⟨nt, tm, σ⟩ ⟨j, w, ps, U2, N, rfl, hnt, h1, h6, h8, h11, h12, h13, h15, h16, h17, h56, h57, h58, h68, h69, h70, hj, hb2, hb4, hb6, hb7, hb8, hb9, hbT, hbN, hbW, hn, hfr, hNl, hNp, hPU, hok, hlow, hw⟩
    simp only at hnt h1 h6 h8 h11 h12 h13 h15 h16 h17 h56 h57 h58 h68 h69 h70 hb2 hb4 hb6 hb7 hb8 hb9 hbT hbN hbW hn hfr
    subst hnt
    have hn10 : 10 ≤ σ.n := by omega
    have ap2_ := apart hn
    have ap3_ := apart hn10
    have ne4_ : ¬ (σT.n = 2) := by omega
    have ne5_ : ¬ (2 = σT.n) := by omega
    have ne6_ : ¬ (σT.n = 4) := by omega
    have ne7_ : ¬ (4 = σT.n) := by omega
    have ne8_ : ¬ (σT.n = 6) := by omega
    have ne9_ : ¬ (6 = σT.n) := by omega
    have ne10_ : ¬ (σT.n = 7) := by omega
    have ne11_ : ¬ (7 = σT.n) := by omega
    have ne12_ : ¬ (σT.n = 8) := by omega
    have ne13_ : ¬ (8 = σT.n) := by omega
    have ne14_ : ¬ (σT.n = 9) := by omega
    have ne15_ : ¬ (9 = σT.n) := by omega
    have ne16_ : ¬ (σT.n + 1 = 2) := by omega
    have ne17_ : ¬ (2 = σT.n + 1) := by omega
    have ne18_ : ¬ (σT.n + 1 = 4) := by omega
    have ne19_ : ¬ (4 = σT.n + 1) := by omega
    have ne20_ : ¬ (σT.n + 1 = 6) := by omega
    have ne21_ : ¬ (6 = σT.n + 1) := by omega
    have ne22_ : ¬ (σT.n + 1 = 7) := by omega
    have ne23_ : ¬ (7 = σT.n + 1) := by omega
    have ne24_ : ¬ (σT.n + 1 = 8) := by omega
    have ne25_ : ¬ (8 = σT.n + 1) := by omega
    have ne26_ : ¬ (σT.n + 1 = 9) := by omega
    have ne27_ : ¬ (9 = σT.n + 1) := by omega
    have ne28_ : ¬ (σT.n + 2 = 2) := by omega
    have ne29_ : ¬ (2 = σT.n + 2) := by omega
    have ne30_ : ¬ (σT.n + 2 = 4) := by omega
    have ne31_ : ¬ (4 = σT.n + 2) := by omega
    have ne32_ : ¬ (σT.n + 2 = 6) := by omega
    have ne33_ : ¬ (6 = σT.n + 2) := by omega
    have ne34_ : ¬ (σT.n + 2 = 7) := by omega
    have ne35_ : ¬ (7 = σT.n + 2) := by omega
    have ne36_ : ¬ (σT.n + 2 = 8) := by omega
    have ne37_ : ¬ (8 = σT.n + 2) := by omega
    have ne38_ : ¬ (σT.n + 2 = 9) := by omega
    have ne39_ : ¬ (9 = σT.n + 2) := by omega
    repeat' first|refine nx ?_|refine xb_miss (by decide) ?_|(apply W_reg;(simp [h1, h6, h8, h11, h12, h13, h15, h16, h17, h56, h57, h58, h68, h69, h70, hb2, hb4, hb6, hb7, hb8, hb9, hbT, hbN, hbW, hn, hfr, ap2_, ap3_, ne4_, ne5_, ne6_, ne7_, ne8_, ne9_, ne10_, ne11_, ne12_, ne13_, ne14_, ne15_, ne16_, ne17_, ne18_, ne19_, ne20_, ne21_, ne22_, ne23_, ne24_, ne25_, ne26_, ne27_, ne28_, ne29_, ne30_, ne31_, ne32_, ne33_, ne34_, ne35_, ne36_, ne37_, ne38_, ne39_];exact .r _))
    refine W_cond (by simp [h1, h6, h8, h11, h12, h13, h15, h16, h17, h56, h57, h58, h68, h69, h70, hb2, hb4, hb6, hb7, hb8, hb9, hbT, hbN, hbW, hn, hfr, ap2_, ap3_, ne4_, ne5_, ne6_, ne7_, ne8_, ne9_, ne10_, ne11_, ne12_, ne13_, ne14_, ne15_, ne16_, ne17_, ne18_, ne19_, ne20_, ne21_, ne22_, ne23_, ne24_, ne25_, ne26_, ne27_, ne28_, ne29_, ne30_, ne31_, ne32_, ne33_, ne34_, ne35_, ne36_, ne37_, ne38_, ne39_]; exact .r _) (fun hc3 => ?_) (fun hc3 => ?_)
    · have hjl : j < (varsQ v).length := by simpa using hc3
      have hm := varsQ_mem.1 (List.getElem_mem hjl)
      have h0 : 0 ≤ (varsQ v)[j] := hm.1.1
      have h20 : (varsQ v)[j].toNat < 20 := by omega
      repeat' first|refine nx ?_|refine xb_miss (by decide) ?_|(apply W_reg;(simp [h1, h6, h8, h11, h12, h13, h15, h16, h17, h56, h57, h58, h68, h69, h70, hb2, hb4, hb6, hb7, hb8, hb9, hbT, hbN, hbW, hn, hfr, ap2_, ap3_, ne4_, ne5_, ne6_, ne7_, ne8_, ne9_, ne10_, ne11_, ne12_, ne13_, ne14_, ne15_, ne16_, ne17_, ne18_, ne19_, ne20_, ne21_, ne22_, ne23_, ne24_, ne25_, ne26_, ne27_, ne28_, ne29_, ne30_, ne31_, ne32_, ne33_, ne34_, ne35_, ne36_, ne37_, ne38_, ne39_, hjl];exact .r _))
      refine W_loop (n := 20 - w) (fun n s => ∃ y : Nat, n = 20 - y ∧ s.nt = 167 ∧ s.tm 1 = Ar vs ∧ s.tm 6 = .ptr 2 0 ∧ s.tm 8 = .ref 4 20 [] ∧ s.tm 11 = .ptr 7 0 ∧ s.tm 12 = .ref 8 L.length [] ∧ s.tm 13 = .ref 9 R.length [] ∧ s.tm 15 = .ptr σT.n 0 ∧ s.tm 16 = .ref (σT.n + 1) 20 [] ∧ s.tm 17 = In y ∧ s.tm 19 = In (varsQ v)[j] ∧ s.tm 56 = Ar q.body ∧ s.tm 57 = In q.body.length ∧ s.tm 58 = In i ∧ s.tm 68 = .ref (σT.n + 2) (varsQ v).length [] ∧ s.tm 69 = In (varsQ v).length ∧ s.tm 70 = In j ∧ s.σ.ob 2 = .box [.t .nl, .t .nl] ∧ s.σ.ob 4 = .arr (.own 0) 0 1 (rowsE (bs U2)) ∧ s.σ.ob 6 = .arr (.own 0) 0 1 (rowsE q.head) ∧ s.σ.ob 7 = .box [.ref 6 q.head.length [], gc oT B.length] ∧ s.σ.ob 8 = .arr (.own 0) 0 1 (rowsE L) ∧ s.σ.ob 9 = .arr (.own 0) 0 1 (rowsE R) ∧ s.σ.ob σT.n = .box [In q.body[i].rel, Ar q.body[i].args] ∧ s.σ.ob (σT.n + 1) = .arr (.own 0) 0 1 (rowsE N) ∧ s.σ.ob (σT.n + 2) = .arr (.own 0) 0 1 (rowsE (varsQ v)) ∧ σT.n + 3 ≤ s.σ.n ∧ (∀ x, x < σT.n → x ≠ 4 → s.σ.ob x = σT.ob x) ∧ low U2 y ∧ y ≤ 20) ⟨w, by (simp [h1, h6, h8, h11, h12, h13, h15, h16, h17, h56, h57, h58, h68, h69, h70, hb2, hb4, hb6, hb7, hb8, hb9, hbT, hbN, hbW, hn, hfr, ap2_, ap3_, ne4_, ne5_, ne6_, ne7_, ne8_, ne9_, ne10_, ne11_, ne12_, ne13_, ne14_, ne15_, ne16_, ne17_, ne18_, ne19_, ne20_, ne21_, ne22_, ne23_, ne24_, ne25_, ne26_, ne27_, ne28_, ne29_, ne30_, ne31_, ne32_, ne33_, ne34_, ne35_, ne36_, ne37_, ne38_, ne39_]; exact ⟨hfr, hlow, hw⟩)⟩ ?_
      rintro n ⟨nt, tm, σ⟩ ⟨y, rfl, hnt, h1, h6, h8, h11, h12, h13, h15, h16, h17, h19, h56, h57, h58, h68, h69, h70, hb2, hb4, hb6, hb7, hb8, hb9, hbT, hbN, hbW, hn, hfr, hlow2, hy⟩
      simp only at hnt h1 h6 h8 h11 h12 h13 h15 h16 h17 h19 h56 h57 h58 h68 h69 h70 hb2 hb4 hb6 hb7 hb8 hb9 hbT hbN hbW hn hfr
      subst hnt
      have hn11 : 10 ≤ σ.n := by omega
      have ap40_ := apart hn
      have ap41_ := apart hn11
      have ne42_ : ¬ (σT.n = 2) := by omega
      have ne43_ : ¬ (2 = σT.n) := by omega
      have ne44_ : ¬ (σT.n = 4) := by omega
      have ne45_ : ¬ (4 = σT.n) := by omega
      have ne46_ : ¬ (σT.n = 6) := by omega
      have ne47_ : ¬ (6 = σT.n) := by omega
      have ne48_ : ¬ (σT.n = 7) := by omega
      have ne49_ : ¬ (7 = σT.n) := by omega
      have ne50_ : ¬ (σT.n = 8) := by omega
      have ne51_ : ¬ (8 = σT.n) := by omega
      have ne52_ : ¬ (σT.n = 9) := by omega
      have ne53_ : ¬ (9 = σT.n) := by omega
      have ne54_ : ¬ (σT.n + 1 = 2) := by omega
      have ne55_ : ¬ (2 = σT.n + 1) := by omega
      have ne56_ : ¬ (σT.n + 1 = 4) := by omega
      have ne57_ : ¬ (4 = σT.n + 1) := by omega
      have ne58_ : ¬ (σT.n + 1 = 6) := by omega
      have ne59_ : ¬ (6 = σT.n + 1) := by omega
      have ne60_ : ¬ (σT.n + 1 = 7) := by omega
      have ne61_ : ¬ (7 = σT.n + 1) := by omega
      have ne62_ : ¬ (σT.n + 1 = 8) := by omega
      have ne63_ : ¬ (8 = σT.n + 1) := by omega
      have ne64_ : ¬ (σT.n + 1 = 9) := by omega
      have ne65_ : ¬ (9 = σT.n + 1) := by omega
      have ne66_ : ¬ (σT.n + 2 = 2) := by omega
      have ne67_ : ¬ (2 = σT.n + 2) := by omega
      have ne68_ : ¬ (σT.n + 2 = 4) := by omega
      have ne69_ : ¬ (4 = σT.n + 2) := by omega
      have ne70_ : ¬ (σT.n + 2 = 6) := by omega
      have ne71_ : ¬ (6 = σT.n + 2) := by omega
      have ne72_ : ¬ (σT.n + 2 = 7) := by omega
      have ne73_ : ¬ (7 = σT.n + 2) := by omega
      have ne74_ : ¬ (σT.n + 2 = 8) := by omega
      have ne75_ : ¬ (8 = σT.n + 2) := by omega
      have ne76_ : ¬ (σT.n + 2 = 9) := by omega
      have ne77_ : ¬ (9 = σT.n + 2) := by omega
      have hgb : ∀ z : Nat, z < 20 → (rowsE (bs U2))[z]? = some [.b (decide ((z : Int) ∈ U2))] := fun z hz => by
        have hz2 : z < (bs U2).length := by rw [bs_len]; exact hz
        simp [rowsE, hz2, bs_get hz]
      by_cases hy20 : y < 20
      · have hyb := hgb y hy20
        have hyi : (y : Int) < 20 := by omega
        by_cases hm2 : (y : Int) ∈ U2
        · repeat' first|refine nx ?_|refine xb_miss (by decide) ?_|(apply W_reg;(simp [h1, h6, h8, h11, h12, h13, h15, h16, h17, h19, h56, h57, h58, h68, h69, h70, hb2, hb4, hb6, hb7, hb8, hb9, hbT, hbN, hbW, hn, hfr, ap40_, ap41_, ne42_, ne43_, ne44_, ne45_, ne46_, ne47_, ne48_, ne49_, ne50_, ne51_, ne52_, ne53_, ne54_, ne55_, ne56_, ne57_, ne58_, ne59_, ne60_, ne61_, ne62_, ne63_, ne64_, ne65_, ne66_, ne67_, ne68_, ne69_, ne70_, ne71_, ne72_, ne73_, ne74_, ne75_, ne76_, ne77_, hyi, hyb, hm2, bs_len];exact .r _))
          refine W_cond (by simp [h1, h6, h8, h11, h12, h13, h15, h16, h17, h19, h56, h57, h58, h68, h69, h70, hb2, hb4, hb6, hb7, hb8, hb9, hbT, hbN, hbW, hn, hfr, ap40_, ap41_, ne42_, ne43_, ne44_, ne45_, ne46_, ne47_, ne48_, ne49_, ne50_, ne51_, ne52_, ne53_, ne54_, ne55_, ne56_, ne57_, ne58_, ne59_, ne60_, ne61_, ne62_, ne63_, ne64_, ne65_, ne66_, ne67_, ne68_, ne69_, ne70_, ne71_, ne72_, ne73_, ne74_, ne75_, ne76_, ne77_]; exact .r _) (fun he => ?_) (fun he => ?_)
          · repeat' first|refine nx ?_|refine xb_miss (by decide) ?_|(apply W_reg;(simp [h1, h6, h8, h11, h12, h13, h15, h16, h17, h19, h56, h57, h58, h68, h69, h70, hb2, hb4, hb6, hb7, hb8, hb9, hbT, hbN, hbW, hn, hfr, ap40_, ap41_, ne42_, ne43_, ne44_, ne45_, ne46_, ne47_, ne48_, ne49_, ne50_, ne51_, ne52_, ne53_, ne54_, ne55_, ne56_, ne57_, ne58_, ne59_, ne60_, ne61_, ne62_, ne63_, ne64_, ne65_, ne66_, ne67_, ne68_, ne69_, ne70_, ne71_, ne72_, ne73_, ne74_, ne75_, ne76_, ne77_];exact .r _))
            refine ⟨_, ?_, y + 1, rfl, rfl, ?_, ?_, ?_, ?_, ?_, ?_, ?_, ?_, ?_, ?_, ?_, ?_, ?_, ?_, ?_, ?_, ?_, ?_, ?_, ?_, ?_, ?_, ?_, ?_, ?_, ?_, ?_, low_succ hlow2 hm2, by omega⟩
            all_goals first|assumption|(simp [h1, h6, h8, h11, h12, h13, h15, h16, h17, h19, h56, h57, h58, h68, h69, h70, hb2, hb4, hb6, hb7, hb8, hb9, hbT, hbN, hbW, hn, hfr, ap40_, ap41_, ne42_, ne43_, ne44_, ne45_, ne46_, ne47_, ne48_, ne49_, ne50_, ne51_, ne52_, ne53_, ne54_, ne55_, ne56_, ne57_, ne58_, ne59_, ne60_, ne61_, ne62_, ne63_, ne64_, ne65_, ne66_, ne67_, ne68_, ne69_, ne70_, ne71_, ne72_, ne73_, ne74_, ne75_, ne76_, ne77_];done)|(simp [h1, h6, h8, h11, h12, h13, h15, h16, h17, h19, h56, h57, h58, h68, h69, h70, hb2, hb4, hb6, hb7, hb8, hb9, hbT, hbN, hbW, hn, hfr, ap40_, ap41_, ne42_, ne43_, ne44_, ne45_, ne46_, ne47_, ne48_, ne49_, ne50_, ne51_, ne52_, ne53_, ne54_, ne55_, ne56_, ne57_, ne58_, ne59_, ne60_, ne61_, ne62_, ne63_, ne64_, ne65_, ne66_, ne67_, ne68_, ne69_, ne70_, ne71_, ne72_, ne73_, ne74_, ne75_, ne76_, ne77_];omega)|(simp [h1, h6, h8, h11, h12, h13, h15, h16, h17, h19, h56, h57, h58, h68, h69, h70, hb2, hb4, hb6, hb7, hb8, hb9, hbT, hbN, hbW, hn, hfr, ap40_, ap41_, ne42_, ne43_, ne44_, ne45_, ne46_, ne47_, ne48_, ne49_, ne50_, ne51_, ne52_, ne53_, ne54_, ne55_, ne56_, ne57_, ne58_, ne59_, ne60_, ne61_, ne62_, ne63_, ne64_, ne65_, ne66_, ne67_, ne68_, ne69_, ne70_, ne71_, ne72_, ne73_, ne74_, ne75_, ne76_, ne77_];exact wrap_succ (by omega))|omega
          · simp at he
        · have hlst := lst_eq hlow2 hm2
          have hne20 : ¬ ((y : Int) = 20) := by omega
          have hbst := bs_set (us := U2) hy20
          have hPU2 : (ps ++ [((varsQ v)[j], (y : Int))], U2 ++ [(y : Int)]) = fr ((varsQ v).take (j + 1)) U := by rw [List.take_succ_eq_append_getElem hjl, fr_snoc, ← hPU, frF, hlst]
          have hks : ps.map (·.1) = (varsQ v).take j := by have := fr_keys ((varsQ v).take j) U; rw [← hPU] at this; exact this
          have hnew : (varsQ v)[j] ∉ ps.map (·.1) := by
            rw [hks, List.mem_take_iff_getElem]
            rintro ⟨z, hz, ez⟩
            have := nd_inj (varsQ_nodup v) (by omega) hjl ez
            omega
          have hNp2 : ∀ t ∈ (varsQ v).take (j + 1), (N.set (varsQ v)[j].toNat (y : Int))[t.toNat]? = some (asn (ps ++ [((varsQ v)[j], (y : Int))]) t) := by
            intro t ht
            rw [List.take_succ_eq_append_getElem hjl, List.mem_append, List.mem_singleton] at ht
            rcases ht with ht | rfl
            · have ht0 := (varsQ_mem.1 (List.mem_of_mem_take ht)).1.1
              have hne : (varsQ v)[j] ≠ t := fun e => hnew (by rw [hks, e]; exact ht)
              rw [List.getElem?_set_ne (by omega), hNp t ht, asn_app_ne (by exact hne)]
            · rw [asn_app_new hnew, List.getElem?_set_self (by omega)]
          repeat' first|refine nx ?_|refine xb_miss (by decide) ?_|(apply W_reg;(simp [h1, h6, h8, h11, h12, h13, h15, h16, h17, h19, h56, h57, h58, h68, h69, h70, hb2, hb4, hb6, hb7, hb8, hb9, hbT, hbN, hbW, hn, hfr, ap40_, ap41_, ne42_, ne43_, ne44_, ne45_, ne46_, ne47_, ne48_, ne49_, ne50_, ne51_, ne52_, ne53_, ne54_, ne55_, ne56_, ne57_, ne58_, ne59_, ne60_, ne61_, ne62_, ne63_, ne64_, ne65_, ne66_, ne67_, ne68_, ne69_, ne70_, ne71_, ne72_, ne73_, ne74_, ne75_, ne76_, ne77_, hyi, hyb, hm2, bs_len];exact .r _))
          refine W_cond (by simp [h1, h6, h8, h11, h12, h13, h15, h16, h17, h19, h56, h57, h58, h68, h69, h70, hb2, hb4, hb6, hb7, hb8, hb9, hbT, hbN, hbW, hn, hfr, ap40_, ap41_, ne42_, ne43_, ne44_, ne45_, ne46_, ne47_, ne48_, ne49_, ne50_, ne51_, ne52_, ne53_, ne54_, ne55_, ne56_, ne57_, ne58_, ne59_, ne60_, ne61_, ne62_, ne63_, ne64_, ne65_, ne66_, ne67_, ne68_, ne69_, ne70_, ne71_, ne72_, ne73_, ne74_, ne75_, ne76_, ne77_]; exact .r _) (fun he => ?_) (fun he => ?_)
          · simp at he
          repeat' first|refine nx ?_|refine xb_miss (by decide) ?_|(apply W_reg;(simp [h1, h6, h8, h11, h12, h13, h15, h16, h17, h19, h56, h57, h58, h68, h69, h70, hb2, hb4, hb6, hb7, hb8, hb9, hbT, hbN, hbW, hn, hfr, ap40_, ap41_, ne42_, ne43_, ne44_, ne45_, ne46_, ne47_, ne48_, ne49_, ne50_, ne51_, ne52_, ne53_, ne54_, ne55_, ne56_, ne57_, ne58_, ne59_, ne60_, ne61_, ne62_, ne63_, ne64_, ne65_, ne66_, ne67_, ne68_, ne69_, ne70_, ne71_, ne72_, ne73_, ne74_, ne75_, ne76_, ne77_, hne20];exact .r _))
          refine W_cond (by simp [h1, h6, h8, h11, h12, h13, h15, h16, h17, h19, h56, h57, h58, h68, h69, h70, hb2, hb4, hb6, hb7, hb8, hb9, hbT, hbN, hbW, hn, hfr, ap40_, ap41_, ne42_, ne43_, ne44_, ne45_, ne46_, ne47_, ne48_, ne49_, ne50_, ne51_, ne52_, ne53_, ne54_, ne55_, ne56_, ne57_, ne58_, ne59_, ne60_, ne61_, ne62_, ne63_, ne64_, ne65_, ne66_, ne67_, ne68_, ne69_, ne70_, ne71_, ne72_, ne73_, ne74_, ne75_, ne76_, ne77_]; exact .r _) (fun hf => ?_) (fun hf => ?_)
          · simp [hne20] at hf
          repeat' first|refine nx ?_|refine xb_miss (by decide) ?_|(apply W_reg;(simp [h1, h6, h8, h11, h12, h13, h15, h16, h17, h19, h56, h57, h58, h68, h69, h70, hb2, hb4, hb6, hb7, hb8, hb9, hbT, hbN, hbW, hn, hfr, ap40_, ap41_, ne42_, ne43_, ne44_, ne45_, ne46_, ne47_, ne48_, ne49_, ne50_, ne51_, ne52_, ne53_, ne54_, ne55_, ne56_, ne57_, ne58_, ne59_, ne60_, ne61_, ne62_, ne63_, ne64_, ne65_, ne66_, ne67_, ne68_, ne69_, ne70_, ne71_, ne72_, ne73_, ne74_, ne75_, ne76_, ne77_, hy20, h0, h20, hNl, bs_len];exact .r _))
          refine ⟨_, ?_, j + 1, y, ps ++ [((varsQ v)[j], (y : Int))], U2 ++ [(y : Int)], N.set (varsQ v)[j].toNat (y : Int), rfl, rfl, ?_, ?_, ?_, ?_, ?_, ?_, ?_, ?_, ?_, ?_, ?_, ?_, ?_, ?_, ?_, by omega, ?_, (by rw [← hbst]; simp [h1, h6, h8, h11, h12, h13, h15, h16, h17, h19, h56, h57, h58, h68, h69, h70, hb2, hb4, hb6, hb7, hb8, hb9, hbT, hbN, hbW, hn, hfr, ap40_, ap41_, ne42_, ne43_, ne44_, ne45_, ne46_, ne47_, ne48_, ne49_, ne50_, ne51_, ne52_, ne53_, ne54_, ne55_, ne56_, ne57_, ne58_, ne59_, ne60_, ne61_, ne62_, ne63_, ne64_, ne65_, ne66_, ne67_, ne68_, ne69_, ne70_, ne71_, ne72_, ne73_, ne74_, ne75_, ne76_, ne77_, rowsE_set, putT]), ?_, ?_, ?_, ?_, ?_, (by simp [h1, h6, h8, h11, h12, h13, h15, h16, h17, h19, h56, h57, h58, h68, h69, h70, hb2, hb4, hb6, hb7, hb8, hb9, hbT, hbN, hbW, hn, hfr, ap40_, ap41_, ne42_, ne43_, ne44_, ne45_, ne46_, ne47_, ne48_, ne49_, ne50_, ne51_, ne52_, ne53_, ne54_, ne55_, ne56_, ne57_, ne58_, ne59_, ne60_, ne61_, ne62_, ne63_, ne64_, ne65_, ne66_, ne67_, ne68_, ne69_, ne70_, ne71_, ne72_, ne73_, ne74_, ne75_, ne76_, ne77_, rowsE_set, putT]), ?_, ?_, (fun x y1 y2 => by (simp [upd_app, show ¬ x = σT.n + 1 by omega, y2]; exact hfr x y1 y2)), (by simp [hNl]), hNp2, hPU2, frOk_step hok hy20, low_app hlow2 _, hy⟩
          all_goals first|assumption|(simp [h1, h6, h8, h11, h12, h13, h15, h16, h17, h19, h56, h57, h58, h68, h69, h70, hb2, hb4, hb6, hb7, hb8, hb9, hbT, hbN, hbW, hn, hfr, ap40_, ap41_, ne42_, ne43_, ne44_, ne45_, ne46_, ne47_, ne48_, ne49_, ne50_, ne51_, ne52_, ne53_, ne54_, ne55_, ne56_, ne57_, ne58_, ne59_, ne60_, ne61_, ne62_, ne63_, ne64_, ne65_, ne66_, ne67_, ne68_, ne69_, ne70_, ne71_, ne72_, ne73_, ne74_, ne75_, ne76_, ne77_];done)|(simp [h1, h6, h8, h11, h12, h13, h15, h16, h17, h19, h56, h57, h58, h68, h69, h70, hb2, hb4, hb6, hb7, hb8, hb9, hbT, hbN, hbW, hn, hfr, ap40_, ap41_, ne42_, ne43_, ne44_, ne45_, ne46_, ne47_, ne48_, ne49_, ne50_, ne51_, ne52_, ne53_, ne54_, ne55_, ne56_, ne57_, ne58_, ne59_, ne60_, ne61_, ne62_, ne63_, ne64_, ne65_, ne66_, ne67_, ne68_, ne69_, ne70_, ne71_, ne72_, ne73_, ne74_, ne75_, ne76_, ne77_];omega)|(simp [h1, h6, h8, h11, h12, h13, h15, h16, h17, h19, h56, h57, h58, h68, h69, h70, hb2, hb4, hb6, hb7, hb8, hb9, hbT, hbN, hbW, hn, hfr, ap40_, ap41_, ne42_, ne43_, ne44_, ne45_, ne46_, ne47_, ne48_, ne49_, ne50_, ne51_, ne52_, ne53_, ne54_, ne55_, ne56_, ne57_, ne58_, ne59_, ne60_, ne61_, ne62_, ne63_, ne64_, ne65_, ne66_, ne67_, ne68_, ne69_, ne70_, ne71_, ne72_, ne73_, ne74_, ne75_, ne76_, ne77_];exact wrap_succ (by omega))|omega
      · have hy2 : y = 20 := by omega
        subst hy2
        have hno := unfS_no (us := varsQ q) heq hil hrl (by rw [hve]; exact frOk_no hjl (by rw [← hPU]; exact low_le hlow2))
        repeat' first|refine nx ?_|refine xb_miss (by decide) ?_|(apply W_reg;(simp [h1, h6, h8, h11, h12, h13, h15, h16, h17, h19, h56, h57, h58, h68, h69, h70, hb2, hb4, hb6, hb7, hb8, hb9, hbT, hbN, hbW, hn, hfr, ap40_, ap41_, ne42_, ne43_, ne44_, ne45_, ne46_, ne47_, ne48_, ne49_, ne50_, ne51_, ne52_, ne53_, ne54_, ne55_, ne56_, ne57_, ne58_, ne59_, ne60_, ne61_, ne62_, ne63_, ne64_, ne65_, ne66_, ne67_, ne68_, ne69_, ne70_, ne71_, ne72_, ne73_, ne74_, ne75_, ne76_, ne77_];exact .r _))
        refine W_cond (by simp [h1, h6, h8, h11, h12, h13, h15, h16, h17, h19, h56, h57, h58, h68, h69, h70, hb2, hb4, hb6, hb7, hb8, hb9, hbT, hbN, hbW, hn, hfr, ap40_, ap41_, ne42_, ne43_, ne44_, ne45_, ne46_, ne47_, ne48_, ne49_, ne50_, ne51_, ne52_, ne53_, ne54_, ne55_, ne56_, ne57_, ne58_, ne59_, ne60_, ne61_, ne62_, ne63_, ne64_, ne65_, ne66_, ne67_, ne68_, ne69_, ne70_, ne71_, ne72_, ne73_, ne74_, ne75_, ne76_, ne77_]; exact .r _) (fun he => ?_) (fun he => ?_)
        · simp at he
        repeat' first|refine nx ?_|refine xb_miss (by decide) ?_|(apply W_reg;(simp [h1, h6, h8, h11, h12, h13, h15, h16, h17, h19, h56, h57, h58, h68, h69, h70, hb2, hb4, hb6, hb7, hb8, hb9, hbT, hbN, hbW, hn, hfr, ap40_, ap41_, ne42_, ne43_, ne44_, ne45_, ne46_, ne47_, ne48_, ne49_, ne50_, ne51_, ne52_, ne53_, ne54_, ne55_, ne56_, ne57_, ne58_, ne59_, ne60_, ne61_, ne62_, ne63_, ne64_, ne65_, ne66_, ne67_, ne68_, ne69_, ne70_, ne71_, ne72_, ne73_, ne74_, ne75_, ne76_, ne77_];exact .r _))
        refine W_cond (by simp [h1, h6, h8, h11, h12, h13, h15, h16, h17, h19, h56, h57, h58, h68, h69, h70, hb2, hb4, hb6, hb7, hb8, hb9, hbT, hbN, hbW, hn, hfr, ap40_, ap41_, ne42_, ne43_, ne44_, ne45_, ne46_, ne47_, ne48_, ne49_, ne50_, ne51_, ne52_, ne53_, ne54_, ne55_, ne56_, ne57_, ne58_, ne59_, ne60_, ne61_, ne62_, ne63_, ne64_, ne65_, ne66_, ne67_, ne68_, ne69_, ne70_, ne71_, ne72_, ne73_, ne74_, ne75_, ne76_, ne77_]; exact .r _) (fun hf => ?_) (fun hf => ?_)
        · repeat' first|refine nx ?_|refine xb_miss (by decide) ?_|(apply W_reg;(simp [h1, h6, h8, h11, h12, h13, h15, h16, h17, h19, h56, h57, h58, h68, h69, h70, hb2, hb4, hb6, hb7, hb8, hb9, hbT, hbN, hbW, hn, hfr, ap40_, ap41_, ne42_, ne43_, ne44_, ne45_, ne46_, ne47_, ne48_, ne49_, ne50_, ne51_, ne52_, ne53_, ne54_, ne55_, ne56_, ne57_, ne58_, ne59_, ne60_, ne61_, ne62_, ne63_, ne64_, ne65_, ne66_, ne67_, ne68_, ne69_, ne70_, ne71_, ne72_, ne73_, ne74_, ne75_, ne76_, ne77_];exact .r _))
          simp [xUnf, unfQ, hno, h1, h6, h8, h11, h12, h13, h15, h16, h17, h19, h56, h57, h58, h68, h69, h70, hb2, hb4, hb6, hb7, hb8, hb9, hbT, hbN, hbW, hn, hfr, ap40_, ap41_, ne42_, ne43_, ne44_, ne45_, ne46_, ne47_, ne48_, ne49_, ne50_, ne51_, ne52_, ne53_, ne54_, ne55_, ne56_, ne57_, ne58_, ne59_, ne60_, ne61_, ne62_, ne63_, ne64_, ne65_, ne66_, ne67_, ne68_, ne69_, ne70_, ne71_, ne72_, ne73_, ne74_, ne75_, ne76_, ne77_]
        · simp at hf
    · have hjl : j = (varsQ v).length := by simp at hc3; omega
      subst hjl
      rw [List.take_length] at hNp hPU
      have ap78_ := apart hn
      have ap79_ := apart hn10
      have ne80_ : ¬ (σT.n = 2) := by omega
      have ne81_ : ¬ (2 = σT.n) := by omega
      have ne82_ : ¬ (σT.n = 4) := by omega
      have ne83_ : ¬ (4 = σT.n) := by omega
      have ne84_ : ¬ (σT.n = 6) := by omega
      have ne85_ : ¬ (6 = σT.n) := by omega
      have ne86_ : ¬ (σT.n = 7) := by omega
      have ne87_ : ¬ (7 = σT.n) := by omega
      have ne88_ : ¬ (σT.n = 8) := by omega
      have ne89_ : ¬ (8 = σT.n) := by omega
      have ne90_ : ¬ (σT.n = 9) := by omega
      have ne91_ : ¬ (9 = σT.n) := by omega
      have ne92_ : ¬ (σT.n + 1 = 2) := by omega
      have ne93_ : ¬ (2 = σT.n + 1) := by omega
      have ne94_ : ¬ (σT.n + 1 = 4) := by omega
      have ne95_ : ¬ (4 = σT.n + 1) := by omega
      have ne96_ : ¬ (σT.n + 1 = 6) := by omega
      have ne97_ : ¬ (6 = σT.n + 1) := by omega
      have ne98_ : ¬ (σT.n + 1 = 7) := by omega
      have ne99_ : ¬ (7 = σT.n + 1) := by omega
      have ne100_ : ¬ (σT.n + 1 = 8) := by omega
      have ne101_ : ¬ (8 = σT.n + 1) := by omega
      have ne102_ : ¬ (σT.n + 1 = 9) := by omega
      have ne103_ : ¬ (9 = σT.n + 1) := by omega
      have ne104_ : ¬ (σT.n + 2 = 2) := by omega
      have ne105_ : ¬ (2 = σT.n + 2) := by omega
      have ne106_ : ¬ (σT.n + 2 = 4) := by omega
      have ne107_ : ¬ (4 = σT.n + 2) := by omega
      have ne108_ : ¬ (σT.n + 2 = 6) := by omega
      have ne109_ : ¬ (6 = σT.n + 2) := by omega
      have ne110_ : ¬ (σT.n + 2 = 7) := by omega
      have ne111_ : ¬ (7 = σT.n + 2) := by omega
      have ne112_ : ¬ (σT.n + 2 = 8) := by omega
      have ne113_ : ¬ (8 = σT.n + 2) := by omega
      have ne114_ : ¬ (σT.n + 2 = 9) := by omega
      have ne115_ : ¬ (9 = σT.n + 2) := by omega
      have hks : ps.map (·.1) = varsQ v := by have := fr_keys (varsQ v) U; rw [← hPU] at this; exact this
      have hv' : isQry c v = true := by rw [← hve]; exact hv
      have hcn : chg (rnI N) v = chg (asn ps) v := chg_names hv' hks hNl hNp
      have c7 := cv (implRen_r v N hvq2 (by unfold Sm; omega))
      rw [hcn] at c7
      simp only [Ag, cells_Q, List.map_cons, List.map_nil] at c7
      have hfu : fr (varsQ v) U = (ps, U2) := hPU.symm
      have hgo := unfS_go (us := varsQ q) heq hil hrl (by rw [hve, hfu]; exact hok)
      have hac := hacc.step hv hal hat (ps := ps) hok hvne
      rw [hve] at hgo hac
      rw [hfu] at hgo
      have hLb := hacc.l
      have hLR := hacc.lr
      have hBb := hacc.b
      have hA3 := (hqs.2.2.2 _ hA).1
      have hb1_ : L.length + q.body[i].args.length < 1099511627776 := by omega
      have hb2_ : R.length + v.head.length < 1099511627776 := by omega
      have hb3_ : B.length + v.body.length < 1099511627776 := by omega
      have hb4_ : v.body.length < 1099511627776 := by omega
      have hvn : ¬ v.body = [] := by rw [← hve]; exact hvne
      have hvn0 : v.body.length ≠ 0 := fun e => hvn (List.length_eq_zero_iff.1 e)
      have hlN : (rowsE N).length = 20 := by rw [rowsE_len]; exact hNl
      rcases Nat.eq_zero_or_pos i with h0i | h0i
      · have hB0 : B = [] := List.eq_nil_of_length_eq_zero (by omega)
        subst hB0
        repeat' first|refine nx ?_|refine xb_miss (by decide) ?_|(apply W_reg;(simp [h1, h6, h8, h11, h12, h13, h15, h16, h17, h56, h57, h58, h68, h69, h70, hb2, hb4, hb6, hb7, hb8, hb9, hbT, hbN, hbW, hn, hfr, ap78_, ap79_, ne80_, ne81_, ne82_, ne83_, ne84_, ne85_, ne86_, ne87_, ne88_, ne89_, ne90_, ne91_, ne92_, ne93_, ne94_, ne95_, ne96_, ne97_, ne98_, ne99_, ne100_, ne101_, ne102_, ne103_, ne104_, ne105_, ne106_, ne107_, ne108_, ne109_, ne110_, ne111_, ne112_, ne113_, ne114_, ne115_, hr0', hrl, hve, c7, hNl, hb1_, hb2_, hb4_, chg, hvn];exact .r _))
        refine ⟨_, ?_, i + 1, U2, σ.n + 3, 0, [] ++ v.body.map (mapA (asn ps)), L ++ q.body[i].args, R ++ v.head.map (asn ps), rfl, rfl, ?_, ?_, ?_, ?_, ?_, ?_, ?_, ?_, ?_, by omega, ?_, ?_, ?_, (by simp [h1, h6, h8, h11, h12, h13, h15, h16, h17, h56, h57, h58, h68, h69, h70, hb2, hb4, hb6, hb7, hb8, hb9, hbT, hbN, hbW, hn, hfr, ap78_, ap79_, ne80_, ne81_, ne82_, ne83_, ne84_, ne85_, ne86_, ne87_, ne88_, ne89_, ne90_, ne91_, ne92_, ne93_, ne94_, ne95_, ne96_, ne97_, ne98_, ne99_, ne100_, ne101_, ne102_, ne103_, ne104_, ne105_, ne106_, ne107_, ne108_, ne109_, ne110_, ne111_, ne112_, ne113_, ne114_, ne115_, gc_pos (show v.body.length ≠ 0 by omega)]), (by simp [h1, h6, h8, h11, h12, h13, h15, h16, h17, h56, h57, h58, h68, h69, h70, hb2, hb4, hb6, hb7, hb8, hb9, hbT, hbN, hbW, hn, hfr, ap78_, ap79_, ne80_, ne81_, ne82_, ne83_, ne84_, ne85_, ne86_, ne87_, ne88_, ne89_, ne90_, ne91_, ne92_, ne93_, ne94_, ne95_, ne96_, ne97_, ne98_, ne99_, ne100_, ne101_, ne102_, ne103_, ne104_, ne105_, ne106_, ne107_, ne108_, ne109_, ne110_, ne111_, ne112_, ne113_, ne114_, ne115_, rowsE_append]), (by simp [h1, h6, h8, h11, h12, h13, h15, h16, h17, h56, h57, h58, h68, h69, h70, hb2, hb4, hb6, hb7, hb8, hb9, hbT, hbN, hbW, hn, hfr, ap78_, ap79_, ne80_, ne81_, ne82_, ne83_, ne84_, ne85_, ne86_, ne87_, ne88_, ne89_, ne90_, ne91_, ne92_, ne93_, ne94_, ne95_, ne96_, ne97_, ne98_, ne99_, ne100_, ne101_, ne102_, ne103_, ne104_, ne105_, ne106_, ne107_, ne108_, ne109_, ne110_, ne111_, ne112_, ne113_, ne114_, ne115_, rowsE_append]), ?_, (.inr ⟨by simp [h1, h6, h8, h11, h12, h13, h15, h16, h17, h56, h57, h58, h68, h69, h70, hb2, hb4, hb6, hb7, hb8, hb9, hbT, hbN, hbW, hn, hfr, ap78_, ap79_, ne80_, ne81_, ne82_, ne83_, ne84_, ne85_, ne86_, ne87_, ne88_, ne89_, ne90_, ne91_, ne92_, ne93_, ne94_, ne95_, ne96_, ne97_, ne98_, ne99_, ne100_, ne101_, ne102_, ne103_, ne104_, ne105_, ne106_, ne107_, ne108_, ne109_, ne110_, ne111_, ne112_, ne113_, ne114_, ne115_], by omega, by simp⟩), (by have h9 := fr_len (varsQ v) U; rw [← hPU] at h9; simp only at h9; omega), hac, hgo⟩
        all_goals first|assumption|(simp [h1, h6, h8, h11, h12, h13, h15, h16, h17, h56, h57, h58, h68, h69, h70, hb2, hb4, hb6, hb7, hb8, hb9, hbT, hbN, hbW, hn, hfr, ap78_, ap79_, ne80_, ne81_, ne82_, ne83_, ne84_, ne85_, ne86_, ne87_, ne88_, ne89_, ne90_, ne91_, ne92_, ne93_, ne94_, ne95_, ne96_, ne97_, ne98_, ne99_, ne100_, ne101_, ne102_, ne103_, ne104_, ne105_, ne106_, ne107_, ne108_, ne109_, ne110_, ne111_, ne112_, ne113_, ne114_, ne115_];done)|(simp [h1, h6, h8, h11, h12, h13, h15, h16, h17, h56, h57, h58, h68, h69, h70, hb2, hb4, hb6, hb7, hb8, hb9, hbT, hbN, hbW, hn, hfr, ap78_, ap79_, ne80_, ne81_, ne82_, ne83_, ne84_, ne85_, ne86_, ne87_, ne88_, ne89_, ne90_, ne91_, ne92_, ne93_, ne94_, ne95_, ne96_, ne97_, ne98_, ne99_, ne100_, ne101_, ne102_, ne103_, ne104_, ne105_, ne106_, ne107_, ne108_, ne109_, ne110_, ne111_, ne112_, ne113_, ne114_, ne115_];omega)|(simp [h1, h6, h8, h11, h12, h13, h15, h16, h17, h56, h57, h58, h68, h69, h70, hb2, hb4, hb6, hb7, hb8, hb9, hbT, hbN, hbW, hn, hfr, ap78_, ap79_, ne80_, ne81_, ne82_, ne83_, ne84_, ne85_, ne86_, ne87_, ne88_, ne89_, ne90_, ne91_, ne92_, ne93_, ne94_, ne95_, ne96_, ne97_, ne98_, ne99_, ne100_, ne101_, ne102_, ne103_, ne104_, ne105_, ne106_, ne107_, ne108_, ne109_, ne110_, ne111_, ne112_, ne113_, ne114_, ne115_];exact wrap_succ (by omega))|omega
      · obtain ⟨hT1, hT2, hT3⟩ := (hTo σ hfr).resolve_left (by omega)
        have hBne := hacc.ne h0i
        have hgc := gc_pos (o := oT) (show B.length ≠ 0 from fun e => hBne (List.length_eq_zero_iff.1 e))
        have hT4 : oT < σ.n := by omega
        have ap116_ := apart hT4
        have ne117_ : ¬ (oT = 2) := by omega
        have ne118_ : ¬ (2 = oT) := by omega
        have ne119_ : ¬ (oT = 4) := by omega
        have ne120_ : ¬ (4 = oT) := by omega
        have ne121_ : ¬ (oT = 6) := by omega
        have ne122_ : ¬ (6 = oT) := by omega
        have ne123_ : ¬ (oT = 7) := by omega
        have ne124_ : ¬ (7 = oT) := by omega
        have ne125_ : ¬ (oT = 8) := by omega
        have ne126_ : ¬ (8 = oT) := by omega
        have ne127_ : ¬ (oT = 9) := by omega
        have ne128_ : ¬ (9 = oT) := by omega
        have ne129_ : ¬ (oT = σT.n) := by omega
        have ne130_ : ¬ (σT.n = oT) := by omega
        have ne131_ : ¬ (oT = σT.n + 1) := by omega
        have ne132_ : ¬ (σT.n + 1 = oT) := by omega
        have ne133_ : ¬ (oT = σT.n + 2) := by omega
        have ne134_ : ¬ (σT.n + 2 = oT) := by omega
        repeat' first|refine nx ?_|refine xb_miss (by decide) ?_|(apply W_reg;(simp [h1, h6, h8, h11, h12, h13, h15, h16, h17, h56, h57, h58, h68, h69, h70, hb2, hb4, hb6, hb7, hb8, hb9, hbT, hbN, hbW, hn, hfr, ap78_, ap79_, ne80_, ne81_, ne82_, ne83_, ne84_, ne85_, ne86_, ne87_, ne88_, ne89_, ne90_, ne91_, ne92_, ne93_, ne94_, ne95_, ne96_, ne97_, ne98_, ne99_, ne100_, ne101_, ne102_, ne103_, ne104_, ne105_, ne106_, ne107_, ne108_, ne109_, ne110_, ne111_, ne112_, ne113_, ne114_, ne115_, hT1, ap116_, ne117_, ne118_, ne119_, ne120_, ne121_, ne122_, ne123_, ne124_, ne125_, ne126_, ne127_, ne128_, ne129_, ne130_, ne131_, ne132_, ne133_, ne134_, hr0', hrl, hve, c7, hNl, hb1_, hb2_, hb3_, chg, hvn, hgc];exact .r _))
        refine ⟨_, ?_, i + 1, U2, oT, st, B ++ v.body.map (mapA (asn ps)), L ++ q.body[i].args, R ++ v.head.map (asn ps), rfl, rfl, ?_, ?_, ?_, ?_, ?_, ?_, ?_, ?_, ?_, by omega, ?_, ?_, ?_, (by simp [h1, h6, h8, h11, h12, h13, h15, h16, h17, h56, h57, h58, h68, h69, h70, hb2, hb4, hb6, hb7, hb8, hb9, hbT, hbN, hbW, hn, hfr, ap78_, ap79_, ne80_, ne81_, ne82_, ne83_, ne84_, ne85_, ne86_, ne87_, ne88_, ne89_, ne90_, ne91_, ne92_, ne93_, ne94_, ne95_, ne96_, ne97_, ne98_, ne99_, ne100_, ne101_, ne102_, ne103_, ne104_, ne105_, ne106_, ne107_, ne108_, ne109_, ne110_, ne111_, ne112_, ne113_, ne114_, ne115_, hT1, ap116_, ne117_, ne118_, ne119_, ne120_, ne121_, ne122_, ne123_, ne124_, ne125_, ne126_, ne127_, ne128_, ne129_, ne130_, ne131_, ne132_, ne133_, ne134_, gc_pos (show B.length + v.body.length ≠ 0 by omega)]), (by simp [h1, h6, h8, h11, h12, h13, h15, h16, h17, h56, h57, h58, h68, h69, h70, hb2, hb4, hb6, hb7, hb8, hb9, hbT, hbN, hbW, hn, hfr, ap78_, ap79_, ne80_, ne81_, ne82_, ne83_, ne84_, ne85_, ne86_, ne87_, ne88_, ne89_, ne90_, ne91_, ne92_, ne93_, ne94_, ne95_, ne96_, ne97_, ne98_, ne99_, ne100_, ne101_, ne102_, ne103_, ne104_, ne105_, ne106_, ne107_, ne108_, ne109_, ne110_, ne111_, ne112_, ne113_, ne114_, ne115_, hT1, ap116_, ne117_, ne118_, ne119_, ne120_, ne121_, ne122_, ne123_, ne124_, ne125_, ne126_, ne127_, ne128_, ne129_, ne130_, ne131_, ne132_, ne133_, ne134_, rowsE_append]), (by simp [h1, h6, h8, h11, h12, h13, h15, h16, h17, h56, h57, h58, h68, h69, h70, hb2, hb4, hb6, hb7, hb8, hb9, hbT, hbN, hbW, hn, hfr, ap78_, ap79_, ne80_, ne81_, ne82_, ne83_, ne84_, ne85_, ne86_, ne87_, ne88_, ne89_, ne90_, ne91_, ne92_, ne93_, ne94_, ne95_, ne96_, ne97_, ne98_, ne99_, ne100_, ne101_, ne102_, ne103_, ne104_, ne105_, ne106_, ne107_, ne108_, ne109_, ne110_, ne111_, ne112_, ne113_, ne114_, ne115_, hT1, ap116_, ne117_, ne118_, ne119_, ne120_, ne121_, ne122_, ne123_, ne124_, ne125_, ne126_, ne127_, ne128_, ne129_, ne130_, ne131_, ne132_, ne133_, ne134_, rowsE_append]), ?_, (.inr ⟨by simp [h1, h6, h8, h11, h12, h13, h15, h16, h17, h56, h57, h58, h68, h69, h70, hb2, hb4, hb6, hb7, hb8, hb9, hbT, hbN, hbW, hn, hfr, ap78_, ap79_, ne80_, ne81_, ne82_, ne83_, ne84_, ne85_, ne86_, ne87_, ne88_, ne89_, ne90_, ne91_, ne92_, ne93_, ne94_, ne95_, ne96_, ne97_, ne98_, ne99_, ne100_, ne101_, ne102_, ne103_, ne104_, ne105_, ne106_, ne107_, ne108_, ne109_, ne110_, ne111_, ne112_, ne113_, ne114_, ne115_, hT1, ap116_, ne117_, ne118_, ne119_, ne120_, ne121_, ne122_, ne123_, ne124_, ne125_, ne126_, ne127_, ne128_, ne129_, ne130_, ne131_, ne132_, ne133_, ne134_, rowsE_append], hT2, by (simp; omega)⟩), (by have h9 := fr_len (varsQ v) U; rw [← hPU] at h9; simp only at h9; omega), hac, hgo⟩
        all_goals first|assumption|(simp [h1, h6, h8, h11, h12, h13, h15, h16, h17, h56, h57, h58, h68, h69, h70, hb2, hb4, hb6, hb7, hb8, hb9, hbT, hbN, hbW, hn, hfr, ap78_, ap79_, ne80_, ne81_, ne82_, ne83_, ne84_, ne85_, ne86_, ne87_, ne88_, ne89_, ne90_, ne91_, ne92_, ne93_, ne94_, ne95_, ne96_, ne97_, ne98_, ne99_, ne100_, ne101_, ne102_, ne103_, ne104_, ne105_, ne106_, ne107_, ne108_, ne109_, ne110_, ne111_, ne112_, ne113_, ne114_, ne115_, hT1, ap116_, ne117_, ne118_, ne119_, ne120_, ne121_, ne122_, ne123_, ne124_, ne125_, ne126_, ne127_, ne128_, ne129_, ne130_, ne131_, ne132_, ne133_, ne134_];done)|(simp [h1, h6, h8, h11, h12, h13, h15, h16, h17, h56, h57, h58, h68, h69, h70, hb2, hb4, hb6, hb7, hb8, hb9, hbT, hbN, hbW, hn, hfr, ap78_, ap79_, ne80_, ne81_, ne82_, ne83_, ne84_, ne85_, ne86_, ne87_, ne88_, ne89_, ne90_, ne91_, ne92_, ne93_, ne94_, ne95_, ne96_, ne97_, ne98_, ne99_, ne100_, ne101_, ne102_, ne103_, ne104_, ne105_, ne106_, ne107_, ne108_, ne109_, ne110_, ne111_, ne112_, ne113_, ne114_, ne115_, hT1, ap116_, ne117_, ne118_, ne119_, ne120_, ne121_, ne122_, ne123_, ne124_, ne125_, ne126_, ne127_, ne128_, ne129_, ne130_, ne131_, ne132_, ne133_, ne134_];omega)|(simp [h1, h6, h8, h11, h12, h13, h15, h16, h17, h56, h57, h58, h68, h69, h70, hb2, hb4, hb6, hb7, hb8, hb9, hbT, hbN, hbW, hn, hfr, ap78_, ap79_, ne80_, ne81_, ne82_, ne83_, ne84_, ne85_, ne86_, ne87_, ne88_, ne89_, ne90_, ne91_, ne92_, ne93_, ne94_, ne95_, ne96_, ne97_, ne98_, ne99_, ne100_, ne101_, ne102_, ne103_, ne104_, ne105_, ne106_, ne107_, ne108_, ne109_, ne110_, ne111_, ne112_, ne113_, ne114_, ne115_, hT1, ap116_, ne117_, ne118_, ne119_, ne120_, ne121_, ne122_, ne123_, ne124_, ne125_, ne126_, ne127_, ne128_, ne129_, ne130_, ne131_, ne132_, ne133_, ne134_];exact wrap_succ (by omega))|omega
  · have hil : i = q.body.length := by simp at hc2; omega
    subst hil
    have hS := unfS_end (us := varsQ q) heq
    have hqne := isQry_ne hq
    have hi0 : 0 < q.body.length := List.length_pos_iff.2 hqne
    obtain ⟨hT1, hT2, hT3⟩ := hT.resolve_left (by omega)
    have hBne := hacc.ne hi0
    have hB0 : B.length ≠ 0 := fun e => hBne (List.length_eq_zero_iff.1 e)
    have hgc := gc_pos (o := oT) hB0
    have hLb := hacc.l
    have hLR := hacc.lr
    have hBb := hacc.b
    have hq4 := hqs.2.1
    have hq3 := hqs.1
    have hb5_ : q.head.length + L.length < 1099511627776 := by omega
    have hb6_ : q.head.length + (L.length + R.length) < 1099511627776 := by omega
    have ap135_ := apart hn
    have ap136_ := apart hT3
    have ne137_ : ¬ (oT = 2) := by omega
    have ne138_ : ¬ (2 = oT) := by omega
    have ne139_ : ¬ (oT = 4) := by omega
    have ne140_ : ¬ (4 = oT) := by omega
    have ne141_ : ¬ (oT = 6) := by omega
    have ne142_ : ¬ (6 = oT) := by omega
    have ne143_ : ¬ (oT = 7) := by omega
    have ne144_ : ¬ (7 = oT) := by omega
    have ne145_ : ¬ (oT = 8) := by omega
    have ne146_ : ¬ (8 = oT) := by omega
    have ne147_ : ¬ (oT = 9) := by omega
    have ne148_ : ¬ (9 = oT) := by omega
    repeat' first|refine nx ?_|refine xb_miss (by decide) ?_|(apply W_reg;(simp [h1, h6, h8, h11, h12, h13, h56, h57, h58, hb2, hb4, hb6, hb7, hb8, hb9, hn, hT, hT1, ap135_, ap136_, ne137_, ne138_, ne139_, ne140_, ne141_, ne142_, ne143_, ne144_, ne145_, ne146_, ne147_, ne148_, hgc, hb5_, hb6_];exact .r _))
    refine W_loop (n := L.length) (fun n s => ∃ k : Nat, ∃ u : Ust, n = L.length - k ∧ s.nt = 167 ∧ s.tm 6 = .ptr 2 0 ∧ s.tm 11 = .ptr 7 0 ∧ s.tm 12 = .ref 8 L.length [] ∧ s.tm 21 = In q.head.length ∧ s.tm 128 = In L.length ∧ s.tm 129 = In k ∧ k ≤ L.length ∧ s.σ.ob 2 = .box [.t .nl, .t .nl] ∧ s.σ.ob 8 = .arr (.own 0) 0 1 (rowsE L) ∧ 10 ≤ s.σ.n ∧ eqS (List.range L.length) ⟨q.head, B, L, R⟩ = eqS ((List.range L.length).drop k) u ∧ u.l.length = L.length ∧ u.r.length = L.length ∧ u.b.length = B.length ∧ u.h.length = q.head.length ∧ (∀ a ∈ u.b, a.args.length ≤ 3) ∧ (∀ t ∈ u.l, t ≤ 19) ∧ (∀ t ∈ u.r, t ≤ 19) ∧ ((s.σ.ob 7 = .box [.t (.sl (rowsE (u.h ++ (u.l ++ u.r)))), .t (.sl (rowsE u.b))]) ∨ (∃ oh ob sh sb_ : Nat, s.σ.ob 7 = .box [.ref oh (u.h.length + (u.l.length + u.r.length)) [], .ref ob u.b.length []] ∧ s.σ.ob oh = .arr (.own 0) sh 1 (rowsE (u.h ++ (u.l ++ u.r))) ∧ s.σ.ob ob = .arr (.own 0) sb_ 2 (rowsE u.b) ∧ (oh = 6 ∨ 10 ≤ oh) ∧ oh < s.σ.n ∧ 10 ≤ ob ∧ ob < s.σ.n ∧ oh ≠ ob))) ⟨0, ⟨q.head, B, L, R⟩, by (simp [h1, h6, h8, h11, h12, h13, h56, h57, h58, hb2, hb4, hb6, hb7, hb8, hb9, hn, hT, hT1, ap135_, ap136_, ne137_, ne138_, ne139_, ne140_, ne141_, ne142_, ne143_, ne144_, ne145_, ne146_, ne147_, ne148_, hgc]; exact ⟨hLR.symm, hacc.a, hacc.tl, hacc.tr, 6, oT, ⟨rfl, rfl⟩, ⟨0, by simp [h1, h6, h8, h11, h12, h13, h56, h57, h58, hb2, hb4, hb6, hb7, hb8, hb9, hn, hT, hT1, ap135_, ap136_, ne137_, ne138_, ne139_, ne140_, ne141_, ne142_, ne143_, ne144_, ne145_, ne146_, ne147_, ne148_, rowsE]⟩, ⟨st, by simp [h1, h6, h8, h11, h12, h13, h56, h57, h58, hb2, hb4, hb6, hb7, hb8, hb9, hn, hT, hT1, ap135_, ap136_, ne137_, ne138_, ne139_, ne140_, ne141_, ne142_, ne143_, ne144_, ne145_, ne146_, ne147_, ne148_]⟩, .inl rfl, by omega, hT2, by omega, by omega⟩)⟩ ?_
    rintro n ⟨nt, tm, σ⟩ ⟨k, u, rfl, hnt, h6, h11, h12, h21, h128, h129, hk, hb2, hb8, hn, hes, hul, hur, hub, huh, hba, hbl, hbr, hX⟩
    simp only at hnt h6 h11 h12 h21 h128 h129 hb2 hb8 hn hX
    subst hnt
    have ap149_ := apart hn
    have hel : ∀ (h : k < L.length), ∃ (h1 : k < u.l.length) (h2 : k < u.r.length), eqS (List.range L.length) ⟨q.head, B, L, R⟩ = (eqt u.l[k] u.r[k]).bind fun p => eqS ((List.range L.length).drop (k + 1)) (u.sub p) := fun h => ⟨by omega, by omega, eqS_go hes h (by omega) (by omega)⟩
    have hsq : SmQ ⟨u.h ++ (u.l ++ u.r), u.b⟩ := by
      refine ⟨by unfold Sm; simp only [List.length_append]; omega, by unfold Sm; simp only; omega, fun a ha => ?_⟩
      have := hba a ha; unfold Sm; omega
    rcases hX with hX | ⟨oh, ob, sh, sb_, hX, hX1, hX2, hX3, hX4, hX5, hX6, hX7⟩
    · have hX0 := hX
      repeat' first|refine nx ?_|refine xb_miss (by decide) ?_|(apply W_reg;(simp [h6, h11, h12, h21, h128, h129, hb2, hb8, hn, hX, ap149_, hX];exact .r _))
      refine W_cond (by simp [h6, h11, h12, h21, h128, h129, hb2, hb8, hn, hX, ap149_, hX]; exact .r _) (fun hc4 => ?_) (fun hc4 => ?_)
      · have hkl : k < L.length := by simpa using hc4
        obtain ⟨hl1, hl2, hel2⟩ := hel hkl
        have tl1 := hbl _ (List.getElem_mem hl1)
        have tr1 := hbr _ (List.getElem_mem hl2)
        have c8 := cv (equate_r ⟨u.h ++ (u.l ++ u.r), u.b⟩ u.l[k] u.r[k] hsq (isVar_le tl1) (isVar_le tr1))
        have hg1 : (rowsE (u.h ++ (u.l ++ u.r)))[q.head.length + k]? = some [.i .i64 u.l[k]] := by
          rw [← huh]; simp [rowsE, hl1, List.getElem?_append, show ¬ (u.h.length + k < u.h.length) by omega]
        have hg2 : (rowsE (u.h ++ (u.l ++ u.r)))[q.head.length + (L.length + k)]? = some [.i .i64 u.r[k]] := by
          rw [← huh, ← hul, ← Nat.add_assoc]; simp [rowsE, hl2, List.getElem?_append, show ¬ (u.h.length + u.l.length + k < u.h.length) by omega, show ¬ (u.h.length + u.l.length + k < u.h.length + u.l.length) by omega, show u.h.length + u.l.length + k - u.h.length = u.l.length + k by omega]
        have hp1 : 0 ≤ (q.head.length : Int) + k := by omega
        have hp2 : 0 ≤ (q.head.length : Int) + L.length + k := by omega
        have hp3 : ((q.head.length : Int) + k).toNat = q.head.length + k := by omega
        have hp4 : ((q.head.length : Int) + L.length + k).toNat = q.head.length + (L.length + k) := by omega
        have hp5 : 0 ≤ (q.head.length : Int) + (L.length + k) := by omega
        have hp6 : ((q.head.length : Int) + (L.length + k)).toNat = q.head.length + (L.length + k) := by omega
        have wr150_ : IntKind.i64.wrap ((q.head.length : Int) + k) = (q.head.length : Int) + k := wrap_ok (by omega) (by omega)
        have wr151_ : IntKind.i64.wrap ((q.head.length : Int) + L.length) = (q.head.length : Int) + L.length := wrap_ok (by omega) (by omega)
        have wr152_ : IntKind.i64.wrap ((q.head.length : Int) + L.length + k) = (q.head.length : Int) + L.length + k := wrap_ok (by omega) (by omega)
        have wr153_ : IntKind.i64.wrap ((q.head.length : Int) + (L.length + k)) = (q.head.length : Int) + (L.length + k) := wrap_ok (by omega) (by omega)
        cases e : eqt u.l[k] u.r[k] with
        | none =>
          rw [e] at hel2
          rw [show xEqI ⟨u.h ++ (u.l ++ u.r), u.b⟩ u.l[k] u.r[k] = .tup [.agg [.t .nl false, .t .nl false], .t (.b false) false] by unfold xEqI; rw [e]] at c8
          simp only [Ag, cells_Q, List.map_cons, List.map_nil] at c8
          repeat' first|refine nx ?_|refine xb_miss (by decide) ?_|(apply W_reg;(simp [h6, h11, h12, h21, h128, h129, hb2, hb8, hn, hX, ap149_, hX, wr150_, wr151_, wr152_, wr153_, hg1, hg2, hl1, hl2, c8, hp1, hp2, hp3, hp4, hp5, hp6];exact .r _))|(apply W_draw (id := 36) [0,0,2,0,0,24,62,126,0,256,0,0,2048,7168,0,31744,65280,130816,262143,524287,1048575,1048575,0,6291455,16777215] rfl rfl; (· simp; exact .r _); (· simp [h6, h11, h12, h21, h128, h129, hb2, hb8, hn, hX, ap149_, hX, wr150_, wr151_, wr152_, wr153_, hg1, hg2, hl1, hl2, c8, hp1, hp2, hp3, hp4, hp5, hp6]; exact .r _); (· first|trivial|simp))
          refine W_cond (by simp [h6, h11, h12, h21, h128, h129, hb2, hb8, hn, hX, ap149_, hX, wr150_, wr151_, wr152_, wr153_]; exact .r _) (fun hd => ?_) (fun hd => ?_)
          · repeat' first|refine nx ?_|refine xb_miss (by decide) ?_|(apply W_reg;(simp [h6, h11, h12, h21, h128, h129, hb2, hb8, hn, hX, ap149_, hX, wr150_, wr151_, wr152_, wr153_];exact .r _))
            simp [xUnf, unfQ, hS, hel2, h6, h11, h12, h21, h128, h129, hb2, hb8, hn, hX, ap149_, hX, wr150_, wr151_, wr152_, wr153_]
          · cases hd
        | some p =>
          rw [e] at hel2
          by_cases et : u.l[k] = u.r[k]
          · rw [show xEqI ⟨u.h ++ (u.l ++ u.r), u.b⟩ u.l[k] u.r[k] = .tup [xvQs ⟨u.h ++ (u.l ++ u.r), u.b⟩, .t (.b true) false] by unfold xEqI; rw [e]; exact if_pos et] at c8
            have hpe : u.sub p = u := by
              rw [et, eqt_self] at e
              cases e; exact sub_same _ _
            rw [Option.bind_some, hpe] at hel2
            simp only [Ag, cells_Q, List.map_cons, List.map_nil] at c8
            repeat' first|refine nx ?_|refine xb_miss (by decide) ?_|(apply W_reg;(simp [h6, h11, h12, h21, h128, h129, hb2, hb8, hn, hX, ap149_, hX, wr150_, wr151_, wr152_, wr153_, hg1, hg2, hl1, hl2, c8, hp1, hp2, hp3, hp4, hp5, hp6];exact .r _))|(apply W_draw (id := 36) [0,0,2,0,0,24,62,126,0,256,0,0,2048,7168,0,31744,65280,130816,262143,524287,1048575,1048575,0,6291455,16777215] rfl rfl; (· simp; exact .r _); (· simp [h6, h11, h12, h21, h128, h129, hb2, hb8, hn, hX, ap149_, hX, wr150_, wr151_, wr152_, wr153_, hg1, hg2, hl1, hl2, c8, hp1, hp2, hp3, hp4, hp5, hp6]; exact .r _); (· first|trivial|simp))
            refine W_cond (by simp [h6, h11, h12, h21, h128, h129, hb2, hb8, hn, hX, ap149_, hX, wr150_, wr151_, wr152_, wr153_]; exact .r _) (fun hd => ?_) (fun hd => ?_)
            · cases hd
            repeat' first|refine nx ?_|refine xb_miss (by decide) ?_|(apply W_reg;(simp [h6, h11, h12, h21, h128, h129, hb2, hb8, hn, hX, ap149_, hX, wr150_, wr151_, wr152_, wr153_];exact .r _))
            refine ⟨_, ?_, k + 1, u, rfl, rfl, ?_, ?_, ?_, ?_, ?_, ?_, by omega, ?_, ?_, ?_, hel2, hul, hur, hub, huh, hba, hbl, hbr, .inl (by simp [h6, h11, h12, h21, h128, h129, hb2, hb8, hn, hX, ap149_, hX, wr150_, wr151_, wr152_, wr153_])⟩
            all_goals first|assumption|(simp [h6, h11, h12, h21, h128, h129, hb2, hb8, hn, hX, ap149_, hX, wr150_, wr151_, wr152_, wr153_];done)|(simp [h6, h11, h12, h21, h128, h129, hb2, hb8, hn, hX, ap149_, hX, wr150_, wr151_, wr152_, wr153_];omega)|(simp [h6, h11, h12, h21, h128, h129, hb2, hb8, hn, hX, ap149_, hX, wr150_, wr151_, wr152_, wr153_];exact wrap_succ (by omega))|omega
          · rw [show xEqI ⟨u.h ++ (u.l ++ u.r), u.b⟩ u.l[k] u.r[k] = .tup [xvQ (chg (sb p) ⟨u.h ++ (u.l ++ u.r), u.b⟩), .t (.b true) false] by unfold xEqI; rw [e]; exact if_neg et, uEqI] at c8
            simp only [Ag, cells_Q, List.map_cons, List.map_nil] at c8
            rw [Option.bind_some] at hel2
            have hp2le := eqt_le e tl1 tr1
            repeat' first|refine nx ?_|refine xb_miss (by decide) ?_|(apply W_reg;(simp [h6, h11, h12, h21, h128, h129, hb2, hb8, hn, hX, ap149_, hX, wr150_, wr151_, wr152_, wr153_, hg1, hg2, hl1, hl2, c8, hp1, hp2, hp3, hp4, hp5, hp6];exact .r _))|(apply W_draw (id := 36) [0,0,2,0,0,24,62,126,0,256,0,0,2048,7168,0,31744,65280,130816,262143,524287,1048575,1048575,0,6291455,16777215] rfl rfl; (· simp; exact .r _); (· simp [h6, h11, h12, h21, h128, h129, hb2, hb8, hn, hX, ap149_, hX, wr150_, wr151_, wr152_, wr153_, hg1, hg2, hl1, hl2, c8, hp1, hp2, hp3, hp4, hp5, hp6]; exact .r _); (· first|trivial|simp))
            refine W_cond (by simp [h6, h11, h12, h21, h128, h129, hb2, hb8, hn, hX, ap149_, hX, wr150_, wr151_, wr152_, wr153_]; exact .r _) (fun hd => ?_) (fun hd => ?_)
            · cases hd
            repeat' first|refine nx ?_|refine xb_miss (by decide) ?_|(apply W_reg;(simp [h6, h11, h12, h21, h128, h129, hb2, hb8, hn, hX, ap149_, hX, wr150_, wr151_, wr152_, wr153_];exact .r _))
            refine ⟨_, ?_, k + 1, u.sub p, rfl, rfl, ?_, ?_, ?_, ?_, ?_, ?_, by omega, ?_, ?_, ?_, hel2, (by simp [Ust.sub, hul]), (by simp [Ust.sub, hur]), (by simp [Ust.sub, hub]), (by simp [Ust.sub, huh]), (fun a ha => by (obtain ⟨y, hy, rfl⟩ := List.mem_map.1 ha; have := hba y hy; simpa [mapA] using this)), (fun t ht => by (obtain ⟨y, hy, rfl⟩ := List.mem_map.1 ht; exact sb_le hp2le (hbl y hy))), (fun t ht => by (obtain ⟨y, hy, rfl⟩ := List.mem_map.1 ht; exact sb_le hp2le (hbr y hy))), .inr ⟨σ.n + 1, σ.n + 2, 0, 0, by simp [h6, h11, h12, h21, h128, h129, hb2, hb8, hn, hX, ap149_, hX, wr150_, wr151_, wr152_, wr153_], by simp [h6, h11, h12, h21, h128, h129, hb2, hb8, hn, hX, ap149_, hX, wr150_, wr151_, wr152_, wr153_], by simp [h6, h11, h12, h21, h128, h129, hb2, hb8, hn, hX, ap149_, hX, wr150_, wr151_, wr152_, wr153_], .inr (by omega), by simp, by omega, by simp, by omega⟩⟩
            all_goals first|assumption|(simp [h6, h11, h12, h21, h128, h129, hb2, hb8, hn, hX, ap149_, hX, wr150_, wr151_, wr152_, wr153_];done)|(simp [h6, h11, h12, h21, h128, h129, hb2, hb8, hn, hX, ap149_, hX, wr150_, wr151_, wr152_, wr153_];omega)|(simp [h6, h11, h12, h21, h128, h129, hb2, hb8, hn, hX, ap149_, hX, wr150_, wr151_, wr152_, wr153_];exact wrap_succ (by omega))|omega
      · have hkl : k = L.length := by simp at hc4; omega
        subst hkl
        have hE := eqS_end hes
        have hu0 : u.b ≠ [] := fun e => hB0 (by rw [← hub, e]; rfl)
        have c9 := cv (implDed_r ⟨u.h, u.b⟩ ⟨by unfold Sm; simp only; omega, hsq.2.1, hsq.2.2⟩ hu0)
        simp only [Ag, cells_Q, List.map_cons, List.map_nil] at c9
        have htk : List.take q.head.length (rowsE (u.h ++ (u.l ++ u.r))) = rowsE u.h := by
          rw [rowsE_append, rowsE_append, ← huh]; simp
        have hle2 : q.head.length ≤ u.h.length + (u.l.length + u.r.length) := by omega
        repeat' first|refine nx ?_|refine xb_miss (by decide) ?_|(apply W_reg;(simp [h6, h11, h12, h21, h128, h129, hb2, hb8, hn, hX, ap149_, hX, htk, c9, hle2];exact .r _))
        simp [xUnf, unfQ, hS, hE, h6, h11, h12, h21, h128, h129, hb2, hb8, hn, hX, ap149_, hX]
    · have hX0 := hX
      have ap154_ := apart hX4
      have ap155_ := apart hX6
      have ne156_ : ¬ (oh = 2) := by omega
      have ne157_ : ¬ (2 = oh) := by omega
      have ne158_ : ¬ (oh = 7) := by omega
      have ne159_ : ¬ (7 = oh) := by omega
      have ne160_ : ¬ (oh = 8) := by omega
      have ne161_ : ¬ (8 = oh) := by omega
      have ne162_ : ¬ (ob = 2) := by omega
      have ne163_ : ¬ (2 = ob) := by omega
      have ne164_ : ¬ (ob = 7) := by omega
      have ne165_ : ¬ (7 = ob) := by omega
      have ne166_ : ¬ (ob = 8) := by omega
      have ne167_ : ¬ (8 = ob) := by omega
      have ne168_ : ¬ (oh = ob) := by omega
      have ne169_ : ¬ (ob = oh) := by omega
      repeat' first|refine nx ?_|refine xb_miss (by decide) ?_|(apply W_reg;(simp [h6, h11, h12, h21, h128, h129, hb2, hb8, hn, hX, ap149_, hX, ap154_, ap155_, ne156_, ne157_, ne158_, ne159_, ne160_, ne161_, ne162_, ne163_, ne164_, ne165_, ne166_, ne167_, ne168_, ne169_, hX, hX1, hX2];exact .r _))
      refine W_cond (by simp [h6, h11, h12, h21, h128, h129, hb2, hb8, hn, hX, ap149_, hX, ap154_, ap155_, ne156_, ne157_, ne158_, ne159_, ne160_, ne161_, ne162_, ne163_, ne164_, ne165_, ne166_, ne167_, ne168_, ne169_, hX, hX1, hX2]; exact .r _) (fun hc4 => ?_) (fun hc4 => ?_)
      · have hkl : k < L.length := by simpa using hc4
        obtain ⟨hl1, hl2, hel2⟩ := hel hkl
        have tl1 := hbl _ (List.getElem_mem hl1)
        have tr1 := hbr _ (List.getElem_mem hl2)
        have c8 := cv (equate_r ⟨u.h ++ (u.l ++ u.r), u.b⟩ u.l[k] u.r[k] hsq (isVar_le tl1) (isVar_le tr1))
        have hg1 : (rowsE (u.h ++ (u.l ++ u.r)))[q.head.length + k]? = some [.i .i64 u.l[k]] := by
          rw [← huh]; simp [rowsE, hl1, List.getElem?_append, show ¬ (u.h.length + k < u.h.length) by omega]
        have hg2 : (rowsE (u.h ++ (u.l ++ u.r)))[q.head.length + (L.length + k)]? = some [.i .i64 u.r[k]] := by
          rw [← huh, ← hul, ← Nat.add_assoc]; simp [rowsE, hl2, List.getElem?_append, show ¬ (u.h.length + u.l.length + k < u.h.length) by omega, show ¬ (u.h.length + u.l.length + k < u.h.length + u.l.length) by omega, show u.h.length + u.l.length + k - u.h.length = u.l.length + k by omega]
        have hp1 : 0 ≤ (q.head.length : Int) + k := by omega
        have hp2 : 0 ≤ (q.head.length : Int) + L.length + k := by omega
        have hp3 : ((q.head.length : Int) + k).toNat = q.head.length + k := by omega
        have hp4 : ((q.head.length : Int) + L.length + k).toNat = q.head.length + (L.length + k) := by omega
        have hp5 : 0 ≤ (q.head.length : Int) + (L.length + k) := by omega
        have hp6 : ((q.head.length : Int) + (L.length + k)).toNat = q.head.length + (L.length + k) := by omega
        have wr170_ : IntKind.i64.wrap ((q.head.length : Int) + k) = (q.head.length : Int) + k := wrap_ok (by omega) (by omega)
        have wr171_ : IntKind.i64.wrap ((q.head.length : Int) + L.length) = (q.head.length : Int) + L.length := wrap_ok (by omega) (by omega)
        have wr172_ : IntKind.i64.wrap ((q.head.length : Int) + L.length + k) = (q.head.length : Int) + L.length + k := wrap_ok (by omega) (by omega)
        have wr173_ : IntKind.i64.wrap ((q.head.length : Int) + (L.length + k)) = (q.head.length : Int) + (L.length + k) := wrap_ok (by omega) (by omega)
        cases e : eqt u.l[k] u.r[k] with
        | none =>
          rw [e] at hel2
          rw [show xEqI ⟨u.h ++ (u.l ++ u.r), u.b⟩ u.l[k] u.r[k] = .tup [.agg [.t .nl false, .t .nl false], .t (.b false) false] by unfold xEqI; rw [e]] at c8
          simp only [Ag, cells_Q, List.map_cons, List.map_nil] at c8
          repeat' first|refine nx ?_|refine xb_miss (by decide) ?_|(apply W_reg;(simp [h6, h11, h12, h21, h128, h129, hb2, hb8, hn, hX, ap149_, hX, ap154_, ap155_, ne156_, ne157_, ne158_, ne159_, ne160_, ne161_, ne162_, ne163_, ne164_, ne165_, ne166_, ne167_, ne168_, ne169_, hX, hX1, hX2, wr170_, wr171_, wr172_, wr173_, hg1, hg2, hl1, hl2, c8, hp1, hp2, hp3, hp4, hp5, hp6];exact .r _))|(apply W_draw (id := 36) [0,0,2,0,0,24,62,126,0,256,0,0,2048,7168,0,31744,65280,130816,262143,524287,1048575,1048575,0,6291455,16777215] rfl rfl; (· simp; exact .r _); (· simp [h6, h11, h12, h21, h128, h129, hb2, hb8, hn, hX, ap149_, hX, ap154_, ap155_, ne156_, ne157_, ne158_, ne159_, ne160_, ne161_, ne162_, ne163_, ne164_, ne165_, ne166_, ne167_, ne168_, ne169_, hX, hX1, hX2, wr170_, wr171_, wr172_, wr173_, hg1, hg2, hl1, hl2, c8, hp1, hp2, hp3, hp4, hp5, hp6]; exact .r _); (· first|trivial|simp))
          refine W_cond (by simp [h6, h11, h12, h21, h128, h129, hb2, hb8, hn, hX, ap149_, hX, ap154_, ap155_, ne156_, ne157_, ne158_, ne159_, ne160_, ne161_, ne162_, ne163_, ne164_, ne165_, ne166_, ne167_, ne168_, ne169_, hX, hX1, hX2, wr170_, wr171_, wr172_, wr173_]; exact .r _) (fun hd => ?_) (fun hd => ?_)
          · repeat' first|refine nx ?_|refine xb_miss (by decide) ?_|(apply W_reg;(simp [h6, h11, h12, h21, h128, h129, hb2, hb8, hn, hX, ap149_, hX, ap154_, ap155_, ne156_, ne157_, ne158_, ne159_, ne160_, ne161_, ne162_, ne163_, ne164_, ne165_, ne166_, ne167_, ne168_, ne169_, hX, hX1, hX2, wr170_, wr171_, wr172_, wr173_];exact .r _))
            simp [xUnf, unfQ, hS, hel2, h6, h11, h12, h21, h128, h129, hb2, hb8, hn, hX, ap149_, hX, ap154_, ap155_, ne156_, ne157_, ne158_, ne159_, ne160_, ne161_, ne162_, ne163_, ne164_, ne165_, ne166_, ne167_, ne168_, ne169_, hX, hX1, hX2, wr170_, wr171_, wr172_, wr173_]
          · cases hd
        | some p =>
          rw [e] at hel2
          by_cases et : u.l[k] = u.r[k]
          · rw [show xEqI ⟨u.h ++ (u.l ++ u.r), u.b⟩ u.l[k] u.r[k] = .tup [xvQs ⟨u.h ++ (u.l ++ u.r), u.b⟩, .t (.b true) false] by unfold xEqI; rw [e]; exact if_pos et] at c8
            have hpe : u.sub p = u := by
              rw [et, eqt_self] at e
              cases e; exact sub_same _ _
            rw [Option.bind_some, hpe] at hel2
            simp only [Ag, cells_Q, List.map_cons, List.map_nil] at c8
            repeat' first|refine nx ?_|refine xb_miss (by decide) ?_|(apply W_reg;(simp [h6, h11, h12, h21, h128, h129, hb2, hb8, hn, hX, ap149_, hX, ap154_, ap155_, ne156_, ne157_, ne158_, ne159_, ne160_, ne161_, ne162_, ne163_, ne164_, ne165_, ne166_, ne167_, ne168_, ne169_, hX, hX1, hX2, wr170_, wr171_, wr172_, wr173_, hg1, hg2, hl1, hl2, c8, hp1, hp2, hp3, hp4, hp5, hp6];exact .r _))|(apply W_draw (id := 36) [0,0,2,0,0,24,62,126,0,256,0,0,2048,7168,0,31744,65280,130816,262143,524287,1048575,1048575,0,6291455,16777215] rfl rfl; (· simp; exact .r _); (· simp [h6, h11, h12, h21, h128, h129, hb2, hb8, hn, hX, ap149_, hX, ap154_, ap155_, ne156_, ne157_, ne158_, ne159_, ne160_, ne161_, ne162_, ne163_, ne164_, ne165_, ne166_, ne167_, ne168_, ne169_, hX, hX1, hX2, wr170_, wr171_, wr172_, wr173_, hg1, hg2, hl1, hl2, c8, hp1, hp2, hp3, hp4, hp5, hp6]; exact .r _); (· first|trivial|simp))
            refine W_cond (by simp [h6, h11, h12, h21, h128, h129, hb2, hb8, hn, hX, ap149_, hX, ap154_, ap155_, ne156_, ne157_, ne158_, ne159_, ne160_, ne161_, ne162_, ne163_, ne164_, ne165_, ne166_, ne167_, ne168_, ne169_, hX, hX1, hX2, wr170_, wr171_, wr172_, wr173_]; exact .r _) (fun hd => ?_) (fun hd => ?_)
            · cases hd
            repeat' first|refine nx ?_|refine xb_miss (by decide) ?_|(apply W_reg;(simp [h6, h11, h12, h21, h128, h129, hb2, hb8, hn, hX, ap149_, hX, ap154_, ap155_, ne156_, ne157_, ne158_, ne159_, ne160_, ne161_, ne162_, ne163_, ne164_, ne165_, ne166_, ne167_, ne168_, ne169_, hX, hX1, hX2, wr170_, wr171_, wr172_, wr173_];exact .r _))
            refine ⟨_, ?_, k + 1, u, rfl, rfl, ?_, ?_, ?_, ?_, ?_, ?_, by omega, ?_, ?_, ?_, hel2, hul, hur, hub, huh, hba, hbl, hbr, .inl (by simp [h6, h11, h12, h21, h128, h129, hb2, hb8, hn, hX, ap149_, hX, ap154_, ap155_, ne156_, ne157_, ne158_, ne159_, ne160_, ne161_, ne162_, ne163_, ne164_, ne165_, ne166_, ne167_, ne168_, ne169_, hX, hX1, hX2, wr170_, wr171_, wr172_, wr173_])⟩
            all_goals first|assumption|(simp [h6, h11, h12, h21, h128, h129, hb2, hb8, hn, hX, ap149_, hX, ap154_, ap155_, ne156_, ne157_, ne158_, ne159_, ne160_, ne161_, ne162_, ne163_, ne164_, ne165_, ne166_, ne167_, ne168_, ne169_, hX, hX1, hX2, wr170_, wr171_, wr172_, wr173_];done)|(simp [h6, h11, h12, h21, h128, h129, hb2, hb8, hn, hX, ap149_, hX, ap154_, ap155_, ne156_, ne157_, ne158_, ne159_, ne160_, ne161_, ne162_, ne163_, ne164_, ne165_, ne166_, ne167_, ne168_, ne169_, hX, hX1, hX2, wr170_, wr171_, wr172_, wr173_];omega)|(simp [h6, h11, h12, h21, h128, h129, hb2, hb8, hn, hX, ap149_, hX, ap154_, ap155_, ne156_, ne157_, ne158_, ne159_, ne160_, ne161_, ne162_, ne163_, ne164_, ne165_, ne166_, ne167_, ne168_, ne169_, hX, hX1, hX2, wr170_, wr171_, wr172_, wr173_];exact wrap_succ (by omega))|omega
          · rw [show xEqI ⟨u.h ++ (u.l ++ u.r), u.b⟩ u.l[k] u.r[k] = .tup [xvQ (chg (sb p) ⟨u.h ++ (u.l ++ u.r), u.b⟩), .t (.b true) false] by unfold xEqI; rw [e]; exact if_neg et, uEqI] at c8
            simp only [Ag, cells_Q, List.map_cons, List.map_nil] at c8
            rw [Option.bind_some] at hel2
            have hp2le := eqt_le e tl1 tr1
            repeat' first|refine nx ?_|refine xb_miss (by decide) ?_|(apply W_reg;(simp [h6, h11, h12, h21, h128, h129, hb2, hb8, hn, hX, ap149_, hX, ap154_, ap155_, ne156_, ne157_, ne158_, ne159_, ne160_, ne161_, ne162_, ne163_, ne164_, ne165_, ne166_, ne167_, ne168_, ne169_, hX, hX1, hX2, wr170_, wr171_, wr172_, wr173_, hg1, hg2, hl1, hl2, c8, hp1, hp2, hp3, hp4, hp5, hp6];exact .r _))|(apply W_draw (id := 36) [0,0,2,0,0,24,62,126,0,256,0,0,2048,7168,0,31744,65280,130816,262143,524287,1048575,1048575,0,6291455,16777215] rfl rfl; (· simp; exact .r _); (· simp [h6, h11, h12, h21, h128, h129, hb2, hb8, hn, hX, ap149_, hX, ap154_, ap155_, ne156_, ne157_, ne158_, ne159_, ne160_, ne161_, ne162_, ne163_, ne164_, ne165_, ne166_, ne167_, ne168_, ne169_, hX, hX1, hX2, wr170_, wr171_, wr172_, wr173_, hg1, hg2, hl1, hl2, c8, hp1, hp2, hp3, hp4, hp5, hp6]; exact .r _); (· first|trivial|simp))
            refine W_cond (by simp [h6, h11, h12, h21, h128, h129, hb2, hb8, hn, hX, ap149_, hX, ap154_, ap155_, ne156_, ne157_, ne158_, ne159_, ne160_, ne161_, ne162_, ne163_, ne164_, ne165_, ne166_, ne167_, ne168_, ne169_, hX, hX1, hX2, wr170_, wr171_, wr172_, wr173_]; exact .r _) (fun hd => ?_) (fun hd => ?_)
            · cases hd
            repeat' first|refine nx ?_|refine xb_miss (by decide) ?_|(apply W_reg;(simp [h6, h11, h12, h21, h128, h129, hb2, hb8, hn, hX, ap149_, hX, ap154_, ap155_, ne156_, ne157_, ne158_, ne159_, ne160_, ne161_, ne162_, ne163_, ne164_, ne165_, ne166_, ne167_, ne168_, ne169_, hX, hX1, hX2, wr170_, wr171_, wr172_, wr173_];exact .r _))
            refine ⟨_, ?_, k + 1, u.sub p, rfl, rfl, ?_, ?_, ?_, ?_, ?_, ?_, by omega, ?_, ?_, ?_, hel2, (by simp [Ust.sub, hul]), (by simp [Ust.sub, hur]), (by simp [Ust.sub, hub]), (by simp [Ust.sub, huh]), (fun a ha => by (obtain ⟨y, hy, rfl⟩ := List.mem_map.1 ha; have := hba y hy; simpa [mapA] using this)), (fun t ht => by (obtain ⟨y, hy, rfl⟩ := List.mem_map.1 ht; exact sb_le hp2le (hbl y hy))), (fun t ht => by (obtain ⟨y, hy, rfl⟩ := List.mem_map.1 ht; exact sb_le hp2le (hbr y hy))), .inr ⟨σ.n + 1, σ.n + 2, 0, 0, by simp [h6, h11, h12, h21, h128, h129, hb2, hb8, hn, hX, ap149_, hX, ap154_, ap155_, ne156_, ne157_, ne158_, ne159_, ne160_, ne161_, ne162_, ne163_, ne164_, ne165_, ne166_, ne167_, ne168_, ne169_, hX, hX1, hX2, wr170_, wr171_, wr172_, wr173_], by simp [h6, h11, h12, h21, h128, h129, hb2, hb8, hn, hX, ap149_, hX, ap154_, ap155_, ne156_, ne157_, ne158_, ne159_, ne160_, ne161_, ne162_, ne163_, ne164_, ne165_, ne166_, ne167_, ne168_, ne169_, hX, hX1, hX2, wr170_, wr171_, wr172_, wr173_], by simp [h6, h11, h12, h21, h128, h129, hb2, hb8, hn, hX, ap149_, hX, ap154_, ap155_, ne156_, ne157_, ne158_, ne159_, ne160_, ne161_, ne162_, ne163_, ne164_, ne165_, ne166_, ne167_, ne168_, ne169_, hX, hX1, hX2, wr170_, wr171_, wr172_, wr173_], .inr (by omega), by simp, by omega, by simp, by omega⟩⟩
            all_goals first|assumption|(simp [h6, h11, h12, h21, h128, h129, hb2, hb8, hn, hX, ap149_, hX, ap154_, ap155_, ne156_, ne157_, ne158_, ne159_, ne160_, ne161_, ne162_, ne163_, ne164_, ne165_, ne166_, ne167_, ne168_, ne169_, hX, hX1, hX2, wr170_, wr171_, wr172_, wr173_];done)|(simp [h6, h11, h12, h21, h128, h129, hb2, hb8, hn, hX, ap149_, hX, ap154_, ap155_, ne156_, ne157_, ne158_, ne159_, ne160_, ne161_, ne162_, ne163_, ne164_, ne165_, ne166_, ne167_, ne168_, ne169_, hX, hX1, hX2, wr170_, wr171_, wr172_, wr173_];omega)|(simp [h6, h11, h12, h21, h128, h129, hb2, hb8, hn, hX, ap149_, hX, ap154_, ap155_, ne156_, ne157_, ne158_, ne159_, ne160_, ne161_, ne162_, ne163_, ne164_, ne165_, ne166_, ne167_, ne168_, ne169_, hX, hX1, hX2, wr170_, wr171_, wr172_, wr173_];exact wrap_succ (by omega))|omega
      · have hkl : k = L.length := by simp at hc4; omega
        subst hkl
        have hE := eqS_end hes
        have hu0 : u.b ≠ [] := fun e => hB0 (by rw [← hub, e]; rfl)
        have c9 := cv (implDed_r ⟨u.h, u.b⟩ ⟨by unfold Sm; simp only; omega, hsq.2.1, hsq.2.2⟩ hu0)
        simp only [Ag, cells_Q, List.map_cons, List.map_nil] at c9
        have htk : List.take q.head.length (rowsE (u.h ++ (u.l ++ u.r))) = rowsE u.h := by
          rw [rowsE_append, rowsE_append, ← huh]; simp
        have hle2 : q.head.length ≤ u.h.length + (u.l.length + u.r.length) := by omega
        repeat' first|refine nx ?_|refine xb_miss (by decide) ?_|(apply W_reg;(simp [h6, h11, h12, h21, h128, h129, hb2, hb8, hn, hX, ap149_, hX, ap154_, ap155_, ne156_, ne157_, ne158_, ne159_, ne160_, ne161_, ne162_, ne163_, ne164_, ne165_, ne166_, ne167_, ne168_, ne169_, hX, hX1, hX2, htk, c9, hle2];exact .r _))
        simp [xUnf, unfQ, hS, hE, h6, h11, h12, h21, h128, h129, hb2, hb8, hn, hX, ap149_, hX, ap154_, ap155_, ne156_, ne157_, ne158_, ne159_, ne160_, ne161_, ne162_, ne163_, ne164_, ne165_, ne166_, ne167_, ne168_, ne169_, hX, hX1, hX2]
end Go.Proofs.Ytlehbgapjibeeaa.V

namespace Go.Proofs.Ytlehbgapjibeeaa.V
open Go Go.Proofs
set_option linter.unusedVariables false
set_option linter.unusedSimpArgs false
theorem specApM_r (m : List Int) (t : Int) (hm : Sm m) : Ret XX 105 [Ar m, In t] (.t (.i .i64 (appM m t)) false) := by
  refine ret_W rfl Try.func105 rfl rfl (by simp [Try.f105]) ?_
  simp only [Try.f105]
  have hl : m.length < 1099511627775 := hm
  have c1 := cv (l1In_r t 0 ((m.length : Int) - 1))
  have wr1_ : IntKind.i64.wrap ((m.length : Int) - 1) = (m.length : Int) - 1 := wrap_ok (by omega) (by omega)
  by_cases e : 0 ≤ t ∧ t ≤ (m.length : Int) - 1
  · have hi : inR t 0 ((m.length : Int) - 1) = true := by simp [inR]; omega
    have hx : t.toNat < m.length := by omega
    have hx0 : 0 ≤ t := e.1
    have hg : mGet m t = m[t.toNat] := by unfold mGet; rw [List.getElem?_eq_getElem hx]; rfl
    repeat' first|refine nx ?_|refine xb_miss (by decide) ?_|(apply W_reg;(simp [wr1_, c1, hi, hx, hx0];exact .r _))
    refine W_cond (by simp [wr1_]; exact .r _) (fun hc => ?_) (fun hc => ?_)
    · have he : m[t.toNat] = -1000 := by simpa using hc
      repeat' first|refine nx ?_|refine xb_miss (by decide) ?_|(apply W_reg;(simp [wr1_];exact .r _))
      simp [appM, hg, he]
    · have he : ¬ m[t.toNat] = -1000 := by simpa using hc
      repeat' first|refine nx ?_|refine xb_miss (by decide) ?_|(apply W_reg;(simp [wr1_, hx, hx0];exact .r _))
      simp [appM, hg, he, hx0, show t < m.length by omega]
  · have hi : inR t 0 ((m.length : Int) - 1) = false := by simp [inR]; omega
    repeat' first|refine nx ?_|refine xb_miss (by decide) ?_|(apply W_reg;(simp [wr1_, c1, hi];exact .r _))
    refine W_cond (by simp [wr1_]; exact .r _) (fun hc => ?_) (fun hc => ?_)
    · repeat' first|refine nx ?_|refine xb_miss (by decide) ?_|(apply W_reg;(simp [wr1_];exact .r _))
      simp [appM, show ¬ (0 ≤ t ∧ t < (m.length : Int) ∧ ¬ mGet m t = -1000) from fun h => e ⟨h.1, by omega⟩]
    · cases hc
theorem implApM_r (m : List Int) (t : Int) (hm : Sm m) : Ret XX 78 [Ar m, In t] (.t (.i .i64 (appM m t)) false) := by
  refine ret_W rfl Try.func78 rfl rfl (by simp [Try.f78]) ?_
  simp only [Try.f78]
  have hl : m.length < 1099511627775 := hm
  have c1 := cv (within_r t 0 ((m.length : Int) - 1))
  have wr2_ : IntKind.i64.wrap ((m.length : Int) - 1) = (m.length : Int) - 1 := wrap_ok (by omega) (by omega)
  by_cases e : 0 ≤ t ∧ t ≤ (m.length : Int) - 1
  · have hi : inR t 0 ((m.length : Int) - 1) = true := by simp [inR]; omega
    have hx : t.toNat < m.length := by omega
    have hx0 : 0 ≤ t := e.1
    have hg : mGet m t = m[t.toNat] := by unfold mGet; rw [List.getElem?_eq_getElem hx]; rfl
    repeat' first|refine nx ?_|refine xb_miss (by decide) ?_|(apply W_reg;(simp [wr2_, c1, hi, hx, hx0];exact .r _))
    refine W_cond (by simp [wr2_]; exact .r _) (fun hc => ?_) (fun hc => ?_)
    · have he : ¬ m[t.toNat] = -1000 := by simpa using hc
      repeat' first|refine nx ?_|refine xb_miss (by decide) ?_|(apply W_reg;(simp [wr2_, hx, hx0];exact .r _))
      simp [appM, hg, he, hx0, show t < m.length by omega]
    · have he : m[t.toNat] = -1000 := by simpa using hc
      repeat' first|refine nx ?_|refine xb_miss (by decide) ?_|(apply W_reg;(simp [wr2_];exact .r _))
      simp [appM, hg, he]
  · have hi : inR t 0 ((m.length : Int) - 1) = false := by simp [inR]; omega
    repeat' first|refine nx ?_|refine xb_miss (by decide) ?_|(apply W_reg;(simp [wr2_, c1, hi];exact .r _))
    refine W_cond (by simp [wr2_]; exact .r _) (fun hc => ?_) (fun hc => ?_)
    · cases hc
    · repeat' first|refine nx ?_|refine xb_miss (by decide) ?_|(apply W_reg;(simp [wr2_];exact .r _))
      simp [appM, show ¬ (0 ≤ t ∧ t < (m.length : Int) ∧ ¬ mGet m t = -1000) from fun h => e ⟨h.1, by omega⟩]
theorem l7List_r (m l : List Int) (hm : Sm m) (hl : Sm l) : Ret XX 62 [Ar m, Ar l] (.own 1 (rowsE (l.map (appM m)))) := by
  refine ret_W rfl Try.func62 rfl rfl (by simp [Try.f62]) ?_
  simp only [Try.f62]
  have hll : l.length < 1099511627775 := hl
  repeat' first|refine nx ?_|refine xb_miss (by decide) ?_|(apply W_reg;(simp;exact .r _))
  refine W_loop (n := l.length) (fun n s => ∃ i : Nat, n = l.length - i ∧ s.nt = 24 ∧ s.tm 0 = Ar m ∧ s.tm 1 = Ar l ∧ s.tm 5 = .ref 0 i [] ∧ s.tm 6 = In i ∧ i ≤ l.length ∧ s.σ.ob 0 = .arr (.own 0) 0 1 (rowsE ((l.map (appM m)).take i)) ∧ 1 ≤ s.σ.n) ⟨0, by simp⟩ ?_
  rintro n ⟨nt, tm, σ⟩ ⟨i, rfl, hnt, h0, h1, h5, h6, hi, ho, hn⟩
  simp only at hnt h0 h1 h5 h6 ho hn
  subst hnt
  have ap3_ := apart hn
  repeat' first|refine nx ?_|refine xb_miss (by decide) ?_|(apply W_reg;(simp [h0, h1, h5, h6, ho, hn, ap3_];exact .r _))
  refine W_cond (by simp [h0, h1, h5, h6, ho, hn, ap3_]; exact .r _) (fun hc => ?_) (fun hc => ?_)
  · have hil : i < l.length := by simpa using hc
    have hit : i < (l.map (appM m)).length := by simpa using hil
    have c1 := cv (specApM_r m l[i] hm)
    have htk := rowsE_take (l.map (appM m)) i hit
    rw [List.getElem_map] at htk
    repeat' first|refine nx ?_|refine xb_miss (by decide) ?_|(apply W_reg;(simp [h0, h1, h5, h6, ho, hn, ap3_, hil, c1, show min i l.length = i by omega, show i + 1 < 1099511627776 by omega];exact .r _))
    refine ⟨_, ?_, i + 1, rfl, rfl, ?_, ?_, ?_, ?_, by omega, (by simp [h0, h1, h5, h6, ho, hn, ap3_]; rw [htk]; simp), ?_⟩
    all_goals first|assumption|(simp [h0, h1, h5, h6, ho, hn, ap3_];done)|(simp [h0, h1, h5, h6, ho, hn, ap3_];omega)|(simp [h0, h1, h5, h6, ho, hn, ap3_];exact wrap_succ (by omega))|omega
  · have hil : i = l.length := by simp at hc; omega
    subst hil
    rw [show l.length = (l.map (appM m)).length by simp, List.take_length] at ho
    repeat' first|refine nx ?_|refine xb_miss (by decide) ?_|(apply W_reg;(simp [h0, h1, h5, h6, ho, hn, ap3_];exact .r _))
    simp [ho]
set_option maxRecDepth 10000 in
theorem l7Is_r (q to : Qry) (m : List Int) (hm : Sm m) (hq : SmQ q) (ht : SmQ to) : Ret XX 32 [Ag q, Ag to, Ar m] (.t (.b (isMap q to m)) false) := by
  refine ret_W rfl Try.func32 rfl rfl (by simp [Try.f32]) ?_
  simp only [Try.f32]
  have hml : m.length < 1099511627775 := hm
  have c1 := cv (l7List_r m q.head hm hq.1)
  have c2 := cv (l2Ints_r (q.head.map (appM m)) to.head (by simpa [Sm] using hq.1))
  have hbl : q.body.length < 1099511627775 := hq.2.1
  have htl : to.body.length < 1099511627775 := ht.2.1
  by_cases e1 : m.length = 20
  · by_cases e2 : q.head.map (appM m) = to.head
    · repeat' first|refine nx ?_|refine xb_miss (by decide) ?_|(apply W_reg;(simp [Ag, c1, c2, e1, e2];exact .r _))|(apply W_draw (id := 1) [0,1,3,7,15,15,47,127,15,271,1023,2047,4095] rfl rfl; (· simp; exact .r _); (· simp [Ag, c1, c2, e1, e2]; exact .r _); (· first|trivial|simp))
      refine W_cond (by simp; exact .r _) (fun hc => ?_) (fun hc => ?_)
      · cases hc
      repeat' first|refine nx ?_|refine xb_miss (by decide) ?_|(apply W_reg;(simp;exact .r _))
      refine W_loop (n := q.body.length) (fun n s => ∃ i : Nat, n = q.body.length - i ∧ s.nt = 65 ∧ s.tm 2 = Ar m ∧ s.tm 3 = .ptr 0 0 ∧ s.tm 4 = .ptr 1 0 ∧ s.tm 7 = In i ∧ i ≤ q.body.length ∧ s.σ.ob 0 = .box [Ar q.head, Ar q.body] ∧ s.σ.ob 1 = .box [Ar to.head, Ar to.body] ∧ 3 ≤ s.σ.n ∧ isMap q to m = (q.body.drop i).all (fun a => decide (mapA (appM m) a ∈ to.body))) ⟨0, by (simp [isMap, chg, e1, e2]; rfl)⟩ ?_
      rintro n ⟨nt, tm, σ⟩ ⟨i, rfl, hnt, h2, h3, h4, h7, hi, hb0, hb1, hn, heq⟩
      simp only at hnt h2 h3 h4 h7 hb0 hb1 hn
      subst hnt
      have ap4_ := apart hn
      repeat' first|refine nx ?_|refine xb_miss (by decide) ?_|(apply W_reg;(simp [h2, h3, h4, h7, hb0, hb1, hn, ap4_];exact .r _))
      refine W_cond (by simp [h2, h3, h4, h7, hb0, hb1, hn, ap4_]; exact .r _) (fun hc => ?_) (fun hc => ?_)
      · have hil : i < q.body.length := by simpa using hc
        rw [List.drop_eq_getElem_cons hil, List.all_cons] at heq
        have hai := hq.2.2 _ (List.getElem_mem hil)
        have c3 := cv (l7List_r m q.body[i].args hm hai)
        obtain ⟨σT, eT⟩ : ∃ y : Sto, y = σ := ⟨σ, rfl⟩
        have hn0 : 3 ≤ σT.n := by rw [eT]; exact hn
        have hrl : (rowsE (q.body[i].args.map (appM m))).length = q.body[i].args.length := by rw [rowsE_len, List.length_map]
        repeat' first|refine nx ?_|refine xb_miss (by decide) ?_|(apply W_reg;(simp [h2, h3, h4, h7, hb0, hb1, hn, ap4_, hil, c3, hrl];exact .r _))|(apply W_draw (id := 6) [0,1,0,7,15,31,0,0,128,0,896,1920,3968,8128,16383,0,65535] rfl rfl; (· simp; exact .r _); (· simp [h2, h3, h4, h7, hb0, hb1, hn, ap4_, hil, c3, hrl]; exact .r _); (· first|trivial|simp))
        refine W_loop (n := to.body.length) (fun n s => ∃ k : Nat, ∃ d : Bool, n = to.body.length - k ∧ s.nt = 65 ∧ s.tm 2 = Ar m ∧ s.tm 3 = .ptr 0 0 ∧ s.tm 4 = .ptr 1 0 ∧ s.tm 7 = In i ∧ s.tm 8 = .ptr σT.n 0 ∧ s.tm 9 = Bo d ∧ s.tm 10 = In k ∧ k ≤ to.body.length ∧ s.σ.ob 0 = .box [Ar q.head, Ar q.body] ∧ s.σ.ob 1 = .box [Ar to.head, Ar to.body] ∧ s.σ.ob σT.n = .box [In q.body[i].rel, .ref (σT.n + 1) q.body[i].args.length []] ∧ s.σ.ob (σT.n + 1) = .arr (.own 0) 0 1 (rowsE (q.body[i].args.map (appM m))) ∧ σT.n + 2 ≤ s.σ.n ∧ d = decide (mapA (appM m) q.body[i] ∈ to.body.take k)) ⟨0, false, by simp [eT, h2, h3, h4, h7, hb0, hb1, hn, ap4_]⟩ ?_
        rintro n ⟨nt, tm, σ⟩ ⟨k, d, rfl, hnt, h2, h3, h4, h7, h8, h9, h10, hk, hb0, hb1, hbT, hbA, hn, hd⟩
        simp only at hnt h2 h3 h4 h7 h8 h9 h10 hb0 hb1 hbT hbA hn
        subst hnt
        have hn3 : 3 ≤ σ.n := by omega
        have ap5_ := apart hn
        have ap6_ := apart hn3
        have ne7_ : ¬ (σT.n = 0) := by omega
        have ne8_ : ¬ (0 = σT.n) := by omega
        have ne9_ : ¬ (σT.n = 1) := by omega
        have ne10_ : ¬ (1 = σT.n) := by omega
        have ne11_ : ¬ (σT.n = 2) := by omega
        have ne12_ : ¬ (2 = σT.n) := by omega
        have ne13_ : ¬ (σT.n + 1 = 0) := by omega
        have ne14_ : ¬ (0 = σT.n + 1) := by omega
        have ne15_ : ¬ (σT.n + 1 = 1) := by omega
        have ne16_ : ¬ (1 = σT.n + 1) := by omega
        have ne17_ : ¬ (σT.n + 1 = 2) := by omega
        have ne18_ : ¬ (2 = σT.n + 1) := by omega
        repeat' first|refine nx ?_|refine xb_miss (by decide) ?_|(apply W_reg;(simp [h2, h3, h4, h7, h8, h9, h10, hb0, hb1, hbT, hbA, hn, ap5_, ap6_, ne7_, ne8_, ne9_, ne10_, ne11_, ne12_, ne13_, ne14_, ne15_, ne16_, ne17_, ne18_];exact .r _))
        refine W_cond (by simp [h2, h3, h4, h7, h8, h9, h10, hb0, hb1, hbT, hbA, hn, ap5_, ap6_, ne7_, ne8_, ne9_, ne10_, ne11_, ne12_, ne13_, ne14_, ne15_, ne16_, ne17_, ne18_]; exact .r _) (fun hc2 => ?_) (fun hc2 => ?_)
        · have hkl : k < to.body.length := by simpa using hc2
          have c4 := cv (specEqA_r (mapA (appM m) q.body[i]) to.body[k] (by simpa [mapA, Sm] using hai))
          obtain ⟨dd, hdd⟩ : ∃ dd : Bool, decide (mapA (appM m) q.body[i] = to.body[k]) = dd := ⟨_, rfl⟩
          rw [hdd] at c4
          simp only [Ag, cells_RA, List.map_cons, List.map_nil, mapA] at c4
          have htk : decide (mapA (appM m) q.body[i] ∈ to.body.take (k + 1)) = (d || dd) := by
            rw [hd, Bool.eq_iff_iff, ← hdd]
            simp only [Bool.or_eq_true, decide_eq_true_eq]
            rw [List.take_succ_eq_append_getElem hkl, List.mem_append, List.mem_singleton]
          cases d
          · repeat' first|refine nx ?_|refine xb_miss (by decide) ?_|(apply W_reg;(simp [h2, h3, h4, h7, h8, h9, h10, hb0, hb1, hbT, hbA, hn, ap5_, ap6_, ne7_, ne8_, ne9_, ne10_, ne11_, ne12_, ne13_, ne14_, ne15_, ne16_, ne17_, ne18_, hkl, c4];exact .r _))|(apply W_draw (id := 11) [0,1,3,3,11,3,59,123,255,511,1023] rfl rfl; (· simp; exact .r _); (· simp [h2, h3, h4, h7, h8, h9, h10, hb0, hb1, hbT, hbA, hn, ap5_, ap6_, ne7_, ne8_, ne9_, ne10_, ne11_, ne12_, ne13_, ne14_, ne15_, ne16_, ne17_, ne18_, hkl, c4]; exact .r _); (· first|trivial|simp))
            refine ⟨_, ?_, k + 1, dd, rfl, rfl, ?_, ?_, ?_, ?_, ?_, ?_, ?_, by omega, ?_, ?_, ?_, ?_, ?_, (by rw [htk, Bool.false_or])⟩
            all_goals first|assumption|(simp [h2, h3, h4, h7, h8, h9, h10, hb0, hb1, hbT, hbA, hn, ap5_, ap6_, ne7_, ne8_, ne9_, ne10_, ne11_, ne12_, ne13_, ne14_, ne15_, ne16_, ne17_, ne18_];done)|(simp [h2, h3, h4, h7, h8, h9, h10, hb0, hb1, hbT, hbA, hn, ap5_, ap6_, ne7_, ne8_, ne9_, ne10_, ne11_, ne12_, ne13_, ne14_, ne15_, ne16_, ne17_, ne18_];omega)|(simp [h2, h3, h4, h7, h8, h9, h10, hb0, hb1, hbT, hbA, hn, ap5_, ap6_, ne7_, ne8_, ne9_, ne10_, ne11_, ne12_, ne13_, ne14_, ne15_, ne16_, ne17_, ne18_];exact wrap_succ (by omega))|omega
          · repeat' first|refine nx ?_|refine xb_miss (by decide) ?_|(apply W_reg;(simp [h2, h3, h4, h7, h8, h9, h10, hb0, hb1, hbT, hbA, hn, ap5_, ap6_, ne7_, ne8_, ne9_, ne10_, ne11_, ne12_, ne13_, ne14_, ne15_, ne16_, ne17_, ne18_, hkl];exact .r _))|(apply W_draw (id := 11) [0,1,3,3,11,3,59,123,255,511,1023] rfl rfl; (· simp; exact .r _); (· simp [h2, h3, h4, h7, h8, h9, h10, hb0, hb1, hbT, hbA, hn, ap5_, ap6_, ne7_, ne8_, ne9_, ne10_, ne11_, ne12_, ne13_, ne14_, ne15_, ne16_, ne17_, ne18_, hkl]; exact .r _); (· first|trivial|simp))
            refine ⟨_, ?_, k + 1, true, rfl, rfl, ?_, ?_, ?_, ?_, ?_, ?_, ?_, by omega, ?_, ?_, ?_, ?_, ?_, (by rw [htk, Bool.true_or])⟩
            all_goals first|assumption|(simp [h2, h3, h4, h7, h8, h9, h10, hb0, hb1, hbT, hbA, hn, ap5_, ap6_, ne7_, ne8_, ne9_, ne10_, ne11_, ne12_, ne13_, ne14_, ne15_, ne16_, ne17_, ne18_];done)|(simp [h2, h3, h4, h7, h8, h9, h10, hb0, hb1, hbT, hbA, hn, ap5_, ap6_, ne7_, ne8_, ne9_, ne10_, ne11_, ne12_, ne13_, ne14_, ne15_, ne16_, ne17_, ne18_];omega)|(simp [h2, h3, h4, h7, h8, h9, h10, hb0, hb1, hbT, hbA, hn, ap5_, ap6_, ne7_, ne8_, ne9_, ne10_, ne11_, ne12_, ne13_, ne14_, ne15_, ne16_, ne17_, ne18_];exact wrap_succ (by omega))|omega
        · have hkl : k = to.body.length := by simp at hc2; omega
          subst hkl
          rw [List.take_length] at hd
          cases d
          · repeat' first|refine nx ?_|refine xb_miss (by decide) ?_|(apply W_reg;(simp [h2, h3, h4, h7, h8, h9, h10, hb0, hb1, hbT, hbA, hn, ap5_, ap6_, ne7_, ne8_, ne9_, ne10_, ne11_, ne12_, ne13_, ne14_, ne15_, ne16_, ne17_, ne18_];exact .r _))
            refine W_cond (by simp [h2, h3, h4, h7, h8, h9, h10, hb0, hb1, hbT, hbA, hn, ap5_, ap6_, ne7_, ne8_, ne9_, ne10_, ne11_, ne12_, ne13_, ne14_, ne15_, ne16_, ne17_, ne18_]; exact .r _) (fun hd2 => ?_) (fun hd2 => ?_)
            · repeat' first|refine nx ?_|refine xb_miss (by decide) ?_|(apply W_reg;(simp [h2, h3, h4, h7, h8, h9, h10, hb0, hb1, hbT, hbA, hn, ap5_, ap6_, ne7_, ne8_, ne9_, ne10_, ne11_, ne12_, ne13_, ne14_, ne15_, ne16_, ne17_, ne18_];exact .r _))
              rw [heq, ← hd]; simp
            · cases hd2
          · repeat' first|refine nx ?_|refine xb_miss (by decide) ?_|(apply W_reg;(simp [h2, h3, h4, h7, h8, h9, h10, hb0, hb1, hbT, hbA, hn, ap5_, ap6_, ne7_, ne8_, ne9_, ne10_, ne11_, ne12_, ne13_, ne14_, ne15_, ne16_, ne17_, ne18_];exact .r _))
            refine W_cond (by simp [h2, h3, h4, h7, h8, h9, h10, hb0, hb1, hbT, hbA, hn, ap5_, ap6_, ne7_, ne8_, ne9_, ne10_, ne11_, ne12_, ne13_, ne14_, ne15_, ne16_, ne17_, ne18_]; exact .r _) (fun hd2 => ?_) (fun hd2 => ?_)
            · cases hd2
            repeat' first|refine nx ?_|refine xb_miss (by decide) ?_|(apply W_reg;(simp [h2, h3, h4, h7, h8, h9, h10, hb0, hb1, hbT, hbA, hn, ap5_, ap6_, ne7_, ne8_, ne9_, ne10_, ne11_, ne12_, ne13_, ne14_, ne15_, ne16_, ne17_, ne18_];exact .r _))
            refine ⟨_, ?_, i + 1, rfl, rfl, ?_, ?_, ?_, ?_, by omega, ?_, ?_, ?_, (by rw [heq, ← hd, Bool.true_and])⟩
            all_goals first|assumption|(simp [h2, h3, h4, h7, h8, h9, h10, hb0, hb1, hbT, hbA, hn, ap5_, ap6_, ne7_, ne8_, ne9_, ne10_, ne11_, ne12_, ne13_, ne14_, ne15_, ne16_, ne17_, ne18_];done)|(simp [h2, h3, h4, h7, h8, h9, h10, hb0, hb1, hbT, hbA, hn, ap5_, ap6_, ne7_, ne8_, ne9_, ne10_, ne11_, ne12_, ne13_, ne14_, ne15_, ne16_, ne17_, ne18_];omega)|(simp [h2, h3, h4, h7, h8, h9, h10, hb0, hb1, hbT, hbA, hn, ap5_, ap6_, ne7_, ne8_, ne9_, ne10_, ne11_, ne12_, ne13_, ne14_, ne15_, ne16_, ne17_, ne18_];exact wrap_succ (by omega))|omega
      · have hil : i = q.body.length := by simp at hc; omega
        subst hil
        rw [List.drop_length, List.all_nil] at heq
        repeat' first|refine nx ?_|refine xb_miss (by decide) ?_|(apply W_reg;(simp [h2, h3, h4, h7, hb0, hb1, hn];exact .r _))
        simp [heq]
    · repeat' first|refine nx ?_|refine xb_miss (by decide) ?_|(apply W_reg;(simp [Ag, c1, c2, e1, e2];exact .r _))|(apply W_draw (id := 1) [0,1,3,7,15,15,47,127,15,271,1023,2047,4095] rfl rfl; (· simp; exact .r _); (· simp [Ag, c1, c2, e1, e2]; exact .r _); (· first|trivial|simp))
      refine W_cond (by simp; exact .r _) (fun hc => ?_) (fun hc => ?_)
      · repeat' first|refine nx ?_|refine xb_miss (by decide) ?_|(apply W_reg;(simp;exact .r _))
        simp [isMap, chg, e2]
      · cases hc
  · have e2 : ¬ ((m.length : Int) = 20) := by omega
    repeat' first|refine nx ?_|refine xb_miss (by decide) ?_|(apply W_reg;(simp [Ag, e2];exact .r _))|(apply W_draw (id := 1) [0,1,3,7,15,15,47,127,15,271,1023,2047,4095] rfl rfl; (· simp; exact .r _); (· simp [Ag, e2]; exact .r _); (· first|trivial|simp))
    refine W_cond (by simp; exact .r _) (fun hc => ?_) (fun hc => ?_)
    · repeat' first|refine nx ?_|refine xb_miss (by decide) ?_|(apply W_reg;(simp;exact .r _))
      simp [isMap, e1]
    · simp [e1] at hc
theorem maps1_r (m : List Int) (hm : Sm m) (x : Int) : Ret XX 77 [In x, .fptr [.sl (rowsE m)]] (.t (.i .i64 (appM m x)) false) := by
  refine ret_W rfl Try.func77 rfl rfl (by simp [Try.f77]) ?_
  simp only [Try.f77]
  have c1 := cv (implApM_r m x hm)
  repeat' first|refine nx ?_|refine xb_miss (by decide) ?_|(apply W_reg;(simp [c1];exact .r _))
  simp
theorem maps2_r (a b : RA) (ha : Sm a.args) : Ret XX 80 [Ag b, .fptr [.i .i64 a.rel, .sl (rowsE a.args)]] (.t (.b (decide (a = b))) false) := by
  refine ret_W rfl Try.func80 rfl rfl (by simp [Try.f80]) ?_
  simp only [Try.f80]
  have c1 := cv (eqAtoms_d a b ha)
  simp only [Ag, cells_RA, List.map_cons, List.map_nil] at c1
  repeat' first|refine nx ?_|refine xb_miss (by decide) ?_|(apply W_reg;(simp [Ag, c1];exact .r _))
  simp
theorem fidx_lt {α : Type} (p : α → Bool) : ∀ (l : List α) (k : Nat), decide (0 ≤ fidx p l k) = l.any p
  | [], k => by simp [fidx]
  | a :: l, k => by
    unfold fidx
    cases e : p a
    · simp [e, fidx_lt p l (k + 1)]
    · simp [e]
theorem indexAtom_r (l : List RA) (hl : Sm l) (g : Nat) (caps : List AV) (p : RA → Bool) (hcap : ∀ σ, caps.mapM (reify σ) = some caps) (hM : Ms g = false) (hp : ∀ x ∈ l, Ret XX g (Ag x :: caps) (.t (.b (p x)) false)) :
    Ret XX 115 [Ar l, .clo g caps] (.t (.i .i64 (fidx p l 0)) false) := by
  refine ret_W rfl Try.func115 rfl rfl (by simp [Try.f115]) ?_
  simp only [Try.f115]
  have hll : l.length < 1099511627775 := hl
  repeat' first|refine nx ?_|refine xb_miss (by decide) ?_|(apply W_reg;(simp;exact .r _))
  refine W_loop (n := l.length) (fun n s => ∃ i : Nat, n = l.length - i ∧ s.nt = 19 ∧ s.tm 0 = Ar l ∧ s.tm 1 = .clo g caps ∧ s.tm 7 = In l.length ∧ s.tm 8 = In i ∧ i ≤ l.length ∧ fidx p l 0 = fidx p (l.drop i) i) ⟨0, by simp⟩ ?_
  rintro n ⟨nt, tm, σ⟩ ⟨i, rfl, hnt, h0, h1, h7, h8, hi, heq⟩
  simp only at hnt h0 h1 h7 h8
  subst hnt
  repeat' first|refine nx ?_|refine xb_miss (by decide) ?_|(apply W_reg;(simp [h0, h1, h7, h8];exact .r _))
  refine W_cond (by simp [h0, h1, h7, h8]; exact .r _) (fun hc => ?_) (fun hc => ?_)
  · have hil : i < l.length := by simpa using hc
    have hcc := cv (hp l[i] (by simp)) hM
    have hre : ∀ σ, (Ag l[i] :: caps).mapM (reify σ) = some (Ag l[i] :: caps) := fun σ => by
      rw [List.mapM_cons, hcap σ]; simp [Ag]
    have hcall : ∀ σ, callV Ms XX σ g (Ag l[i] :: caps) = some (.t (.b (p l[i])), σ) := fun σ => by rw [hcc σ _ (hre σ)]; rfl
    simp only [Ag, cells_RA, List.map_cons, List.map_nil] at hcall
    rw [List.drop_eq_getElem_cons hil] at heq
    repeat' first|refine nx ?_|refine xb_miss (by decide) ?_|(apply W_reg;(simp [h0, h1, h7, h8, hil, hcall];exact .r _))
    refine W_cond (by simp [h0, h1, h7, h8]; exact .r _) (fun he => ?_) (fun he => ?_)
    · repeat' first|refine nx ?_|refine xb_miss (by decide) ?_|(apply W_reg;(simp [h0, h1, h7, h8];exact .r _))
      rw [heq]; simp [fidx, he]
    · repeat' first|refine nx ?_|refine xb_miss (by decide) ?_|(apply W_reg;(simp [h0, h1, h7, h8];exact .r _))
      refine ⟨_, ?_, i + 1, rfl, rfl, ?_, ?_, ?_, ?_, by omega, (by rw [heq]; simp [fidx, he])⟩
      all_goals first|assumption|(simp [h0, h1, h7, h8];done)|(simp [h0, h1, h7, h8];omega)|(simp [h0, h1, h7, h8];exact wrap_succ (by omega))|omega
  · have hil : i = l.length := by simp at hc; omega
    subst hil
    repeat' first|refine nx ?_|refine xb_miss (by decide) ?_|(apply W_reg;(simp [h0, h1, h7, h8];exact .r _))
    rw [heq, List.drop_length]
    simp [fidx]
theorem contAtom_r (l : List RA) (hl : Sm l) (g : Nat) (caps : List AV) (p : RA → Bool) (hcap : ∀ σ, caps.mapM (reify σ) = some caps) (hM : Ms g = false) (hcap2 : ∀ σ, caps.mapM (reifyP σ) = some caps) (hp : ∀ x ∈ l, Ret XX g (Ag x :: caps) (.t (.b (p x)) false)) :
    Ret XX 79 [Ar l, .clo g caps] (.t (.b (l.any p)) false) := by
  refine ret_W rfl Try.func79 rfl rfl (by simp [Try.f79]) ?_
  simp only [Try.f79]
  have hcc := cv (indexAtom_r l hl g caps p hcap hM hp)
  have hre : ∀ σ, ([Ar l, .clo g caps] : List AV).mapM (reify σ) = some [Ar l, .clo g caps] := fun σ => by
    simp [reify, hcap2 σ]
  have hcall : ∀ σ, callV Ms XX σ 115 [Ar l, .clo g caps] = some (.t (.i .i64 (fidx p l 0)), σ) := fun σ => by rw [hcc σ _ (hre σ)]; rfl
  have hf := fidx_lt p l 0
  repeat' first|refine nx ?_|refine xb_miss (by decide) ?_|(apply W_reg;(simp [hcall];exact .r _))
  simp [← hf]
set_option maxRecDepth 10000 in
theorem maps_r (q to : Qry) (m : List Int) (hm : Sm m) (hq : SmQ q) (ht : SmQ to) : Ret XX 37 [Ag q, Ag to, Ar m] (.t (.b (isMap q to m)) false) := by
  refine ret_W rfl Try.func37 rfl rfl (by simp [Try.f37]) ?_
  simp only [Try.f37]
  have hml : m.length < 1099511627775 := hm
  have hbl : q.body.length < 1099511627775 := hq.2.1
  have c1 := cv (changed_r q (appM m) 77 [.fptr [.sl (rowsE m)]] hq rfl (fun σ => by simp) (fun x => maps1_r m hm x))
  have c2 := cv (eqInts_r (q.head.map (appM m)) to.head (by simpa [Sm] using hq.1))
  simp only [Ag, cells_Q, List.map_cons, List.map_nil] at c1
  have hcb : (chg (appM m) q).body.length = q.body.length := by simp [chg]
  by_cases e1 : m.length = 20
  · repeat' first|refine nx ?_|refine xb_miss (by decide) ?_|(apply W_reg;(simp [Ag, e1];exact .r _))
    refine W_cond (by simp; exact .r _) (fun hc => ?_) (fun hc => ?_)
    · cases hc
    repeat' first|refine nx ?_|refine xb_miss (by decide) ?_|(apply W_reg;(simp [c1];exact .r _))
    refine W_loop (n := q.body.length) (fun n s => ∃ i : Nat, n = q.body.length - i ∧ s.nt = 34 ∧ s.tm 4 = .ptr 1 0 ∧ s.tm 7 = .ptr 5 0 ∧ s.tm 17 = .ref 4 q.body.length [] ∧ s.tm 18 = In q.body.length ∧ s.tm 19 = In i ∧ i ≤ q.body.length ∧ s.σ.ob 1 = .box [Ar to.head, Ar to.body] ∧ s.σ.ob 3 = .arr (.own 0) 0 1 (rowsE (q.head.map (appM m))) ∧ s.σ.ob 4 = .arr (.own 0) 0 2 (rowsE (chg (appM m) q).body) ∧ s.σ.ob 5 = .box [.ref 3 q.head.length [], .ref 4 q.body.length []] ∧ 6 ≤ s.σ.n ∧ isMap q to m = (decide (q.head.map (appM m) = to.head) && ((chg (appM m) q).body.drop i).all (fun a => decide (a ∈ to.body)))) ⟨0, by (simp [isMap, chg, e1]; rw [Bool.and_comm]; rfl)⟩ ?_
    rintro n ⟨nt, tm, σ⟩ ⟨i, rfl, hnt, h4, h7, h17, h18, h19, hi, hb1, hb3, hb4, hb5, hn, heq⟩
    simp only at hnt h4 h7 h17 h18 h19 hb1 hb3 hb4 hb5 hn
    subst hnt
    have ap19_ := apart hn
    repeat' first|refine nx ?_|refine xb_miss (by decide) ?_|(apply W_reg;(simp [h4, h7, h17, h18, h19, hb1, hb3, hb4, hb5, hn, ap19_];exact .r _))
    refine W_cond (by simp [h4, h7, h17, h18, h19, hb1, hb3, hb4, hb5, hn, ap19_]; exact .r _) (fun hc => ?_) (fun hc => ?_)
    · have hil : i < q.body.length := by simpa using hc
      have hic : i < (chg (appM m) q).body.length := by rw [hcb]; exact hil
      have hsa : Sm ((chg (appM m) q).body[i]).args := by
        have := hq.2.2 _ (List.getElem_mem hil)
        simpa [chg, mapA, Sm] using this
      rw [List.drop_eq_getElem_cons hic, List.all_cons] at heq
      obtain ⟨A, hA⟩ : ∃ A, (chg (appM m) q).body[i] = A := ⟨_, rfl⟩
      rw [hA] at heq hsa
      have c3 := cv (contAtom_r to.body ht.2.1 80 [.fptr [.i .i64 A.rel, .sl (rowsE A.args)]] (fun b => decide (A = b)) (fun σ => by simp) rfl (fun σ => by simp) (fun x hx => maps2_r A x hsa))
      have hany : to.body.any (fun b => decide (A = b)) = decide (A ∈ to.body) := by
        rw [Bool.eq_iff_iff, List.any_eq_true, decide_eq_true_eq]
        exact ⟨fun ⟨x, h1, h2⟩ => by rw [of_decide_eq_true h2]; exact h1, fun h => ⟨A, h, by simp⟩⟩
      rw [hany] at c3
      have hg : (rowsE (chg (appM m) q).body)[i]? = some [.i .i64 A.rel, .sl (rowsE A.args)] := by simp [rowsE, hic, hA]
      by_cases e2 : A ∈ to.body
      · rw [decide_eq_true e2, Bool.true_and] at heq
        repeat' first|refine nx ?_|refine xb_miss (by decide) ?_|(apply W_reg;(simp [h4, h7, h17, h18, h19, hb1, hb3, hb4, hb5, hn, ap19_, hg, hic, hcb, c3, e2];exact .r _))
        refine W_cond (by simp [h4, h7, h17, h18, h19, hb1, hb3, hb4, hb5, hn, ap19_]; exact .r _) (fun hd => ?_) (fun hd => ?_)
        · cases hd
        repeat' first|refine nx ?_|refine xb_miss (by decide) ?_|(apply W_reg;(simp [h4, h7, h17, h18, h19, hb1, hb3, hb4, hb5, hn, ap19_];exact .r _))
        refine ⟨_, ?_, i + 1, rfl, rfl, ?_, ?_, ?_, ?_, ?_, by omega, ?_, ?_, ?_, ?_, ?_, heq⟩
        all_goals first|assumption|(simp [h4, h7, h17, h18, h19, hb1, hb3, hb4, hb5, hn, ap19_];done)|(simp [h4, h7, h17, h18, h19, hb1, hb3, hb4, hb5, hn, ap19_];omega)|(simp [h4, h7, h17, h18, h19, hb1, hb3, hb4, hb5, hn, ap19_];exact wrap_succ (by omega))|omega
      · rw [decide_eq_false e2, Bool.false_and, Bool.and_false] at heq
        repeat' first|refine nx ?_|refine xb_miss (by decide) ?_|(apply W_reg;(simp [h4, h7, h17, h18, h19, hb1, hb3, hb4, hb5, hn, ap19_, hg, hic, hcb, c3, e2];exact .r _))
        refine W_cond (by simp [h4, h7, h17, h18, h19, hb1, hb3, hb4, hb5, hn, ap19_]; exact .r _) (fun hd => ?_) (fun hd => ?_)
        · repeat' first|refine nx ?_|refine xb_miss (by decide) ?_|(apply W_reg;(simp [h4, h7, h17, h18, h19, hb1, hb3, hb4, hb5, hn, ap19_];exact .r _))
          rw [heq]; simp
        · cases hd
    · have hil : i = q.body.length := by simp at hc; omega
      subst hil
      rw [← hcb, List.drop_length, List.all_nil, Bool.and_true] at heq
      repeat' first|refine nx ?_|refine xb_miss (by decide) ?_|(apply W_reg;(simp [h4, h7, h17, h18, h19, hb1, hb3, hb4, hb5, hn, ap19_, c2];exact .r _))
      simp [heq]
  · have e2 : ¬ ((m.length : Int) = 20) := by omega
    repeat' first|refine nx ?_|refine xb_miss (by decide) ?_|(apply W_reg;(simp [Ag, e2];exact .r _))
    refine W_cond (by simp; exact .r _) (fun hc => ?_) (fun hc => ?_)
    · repeat' first|refine nx ?_|refine xb_miss (by decide) ?_|(apply W_reg;(simp;exact .r _))
      simp [isMap, e1]
    · simp [e1] at hc
end Go.Proofs.Ytlehbgapjibeeaa.V

namespace Go.Proofs.Ytlehbgapjibeeaa.V
open Go Go.Proofs
set_option linter.unusedVariables false
set_option linter.unusedSimpArgs false
theorem ddp_bd (l : List RA) : (ddp l).length ≤ l.length ∧ ∀ a ∈ ddp l, a ∈ l := by
  have h : ddp l = ddL l l.length := by rw [ddL, List.take_length]
  rw [h]
  exact ⟨ddL_len (Nat.le_refl _), ddL_mem⟩
theorem eqS_bd : ∀ (is : List Nat) (u w : Ust), eqS is u = some w → w.h.length = u.h.length ∧ w.b.length = u.b.length ∧ ∀ N, (∀ a ∈ u.b, a.args.length ≤ N) → ∀ a ∈ w.b, a.args.length ≤ N
  | [], u, w, h => by cases h; exact ⟨rfl, rfl, fun N h => h⟩
  | i :: is, u, w, h => by
    rw [eqS, Option.bind_eq_some_iff] at h
    obtain ⟨p, _, h2⟩ := h
    obtain ⟨h3, h4, h5⟩ := eqS_bd is _ w h2
    refine ⟨by rw [h3]; simp [Ust.sub], by rw [h4]; simp [Ust.sub], fun N hN => h5 N fun a ha => ?_⟩
    obtain ⟨y, hy, rfl⟩ := List.mem_map.1 ha
    have := hN y hy
    simpa [mapA] using this
theorem unfS_bd {vs : List Qry} {c : Sch} (hvs : ∀ v ∈ vs, isQry c v = true) : ∀ (l : List RA) (us : List Int) (s : List RA × List Int × List Int), unfS vs l us = some s → s.1.length ≤ 4 * l.length ∧ ∀ a ∈ s.1, a.args.length ≤ 3
  | [], us, s, h => by cases h; exact ⟨by simp, fun a h => by cases h⟩
  | a :: l, us, s, h => by
    rw [unfS] at h
    cases hv : vs[a.rel.toNat]? with
    | none => rw [hv] at h; cases h
    | some v =>
      rw [hv] at h
      simp only at h
      have hq := isQry_small (hvs v (List.mem_of_getElem? hv))
      split at h
      · rw [Option.map_eq_some_iff] at h
        obtain ⟨r, h1, rfl⟩ := h
        obtain ⟨h2, h3⟩ := unfS_bd hvs l _ r h1
        refine ⟨by simp only [List.length_append, List.length_map, List.length_cons]; omega, fun x hx => ?_⟩
        rcases List.mem_append.1 hx with hx | hx
        · obtain ⟨y, hy, rfl⟩ := List.mem_map.1 hx
          have := (hq.2.2.2 y hy).1
          simpa [mapA] using this
        · exact h3 x hx
      · cases h
theorem unfold_bd {c : Sch} {vs : List Qry} {q y : Qry} (h : unfold c vs q = some y) : y.head.length ≤ 3 ∧ y.body.length ≤ 16 ∧ ∀ a ∈ y.body, a.args.length ≤ 3 := by
  unfold unfold at h
  split at h
  · rename_i hc
    rw [Bool.and_eq_true] at hc
    have hav := areVs_mem hc.1
    have hqs := isQry_small hc.2
    rw [unfQ, Option.bind_eq_some_iff] at h
    obtain ⟨s, h1, h2⟩ := h
    rw [Option.map_eq_some_iff] at h2
    obtain ⟨u, h3, rfl⟩ := h2
    obtain ⟨h4, h5, h6⟩ := eqS_bd _ _ _ h3
    obtain ⟨h7, h8⟩ := unfS_bd (fun v hv => (hav.1 v hv).1) _ _ _ h1
    obtain ⟨h9, h10⟩ := ddp_bd u.b
    simp only at h4 h5 h6
    exact ⟨by simp only; omega, by simp only; omega, fun a ha => h6 3 h8 a (h10 a ha)⟩
  · cases h
theorem unfold_sm {c : Sch} {vs : List Qry} {q y : Qry} (h : unfold c vs q = some y) : SmQ y := by
  obtain ⟨h1, h2, h3⟩ := unfold_bd h
  exact ⟨by unfold Sm; omega, by unfold Sm; omega, fun a ha => by have := h3 a ha; unfold Sm; omega⟩
theorem specUnf_r (c : Sch) (vs : List Qry) (q : Qry) (sc : Sm c.arity) (hsv : Sm vs) (hvq : ∀ v ∈ vs, SmQ v) (hqq : SmQ q) : Ret XX 31 [Ag c, Ar vs, Ag q] (xUnf (unfold c vs q)) := by
  refine ret_W rfl Try.func31 rfl rfl (by simp [Try.f31]) ?_
  simp only [Try.f31]
  have c1 := cv (specAreVs_r c vs sc hsv hvq)
  simp only [Ag, cells_Sch, List.map_cons, List.map_nil] at c1
  cases e1 : areVs c vs
  · repeat' first|refine nx ?_|refine xb_miss (by decide) ?_|(apply W_reg;(simp [Ag, c1, e1];exact .r _))|(apply W_draw (id := 1) [0,0,3,7,15,31,63,31,255,511,1023] rfl rfl; (· simp; exact .r _); (· simp [Ag, c1, e1]; exact .r _); (· first|trivial|simp))
    refine W_cond (by simp; exact .r _) (fun hc => ?_) (fun hc => ?_)
    · repeat' first|refine nx ?_|refine xb_miss (by decide) ?_|(apply W_reg;(simp;exact .r _))
      simp [xUnf, unfold, e1]
    · cases hc
  have hav := areVs_mem e1
  have hne : vs ≠ [] := fun e => by rw [e] at hav; simp at hav
  have c2 := cv (specVSch_r vs hsv hne)
  have c3 := cv (specIsQuery_r ⟨hds vs⟩ q (by simpa [hds, Sm] using hsv) hqq.1 hqq.2.1 hqq.2.2)
  simp only [Ag, cells_Sch, cells_Q, List.map_cons, List.map_nil] at c2 c3
  cases hq : isQry ⟨hds vs⟩ q
  · repeat' first|refine nx ?_|refine xb_miss (by decide) ?_|(apply W_reg;(simp [Ag, c1, e1, c2, c3, hq];exact .r _))|(apply W_draw (id := 1) [0,0,3,7,15,31,63,31,255,511,1023] rfl rfl; (· simp; exact .r _); (· simp [Ag, c1, e1, c2, c3, hq]; exact .r _); (· first|trivial|simp))
    refine W_cond (by simp; exact .r _) (fun hc => ?_) (fun hc => ?_)
    · repeat' first|refine nx ?_|refine xb_miss (by decide) ?_|(apply W_reg;(simp;exact .r _))
      simp [xUnf, unfold, e1, show isQry (vSch vs) q = false from hq]
    · cases hc
  have hq' : isQry (vSch vs) q = true := hq
  have hun : unfold c vs q = unfQ vs q := by simp [unfold, e1, hq']
  have c4 := cv (l15Unfold_r c vs q (fun v hv => (hav.1 v hv).1) hq')
  rw [← hun] at c4
  simp only [Ag, cells_Q, List.map_cons, List.map_nil] at c4
  cases e2 : unfold c vs q with
  | none =>
    rw [e2, xUnf] at c4
    repeat' first|refine nx ?_|refine xb_miss (by decide) ?_|(apply W_reg;(simp [Ag, c1, e1, c2, c3, hq];exact .r _))|(apply W_draw (id := 1) [0,0,3,7,15,31,63,31,255,511,1023] rfl rfl; (· simp; exact .r _); (· simp [Ag, c1, e1, c2, c3, hq]; exact .r _); (· first|trivial|simp))
    refine W_cond (by simp; exact .r _) (fun hc => ?_) (fun hc => ?_)
    · cases hc
    repeat' first|refine nx ?_|refine xb_miss (by decide) ?_|(apply W_reg;(simp [c4];exact .r _))
    simp [xUnf]
  | some y =>
    rw [e2, xUnf] at c4
    repeat' first|refine nx ?_|refine xb_miss (by decide) ?_|(apply W_reg;(simp [Ag, c1, e1, c2, c3, hq];exact .r _))|(apply W_draw (id := 1) [0,0,3,7,15,31,63,31,255,511,1023] rfl rfl; (· simp; exact .r _); (· simp [Ag, c1, e1, c2, c3, hq]; exact .r _); (· first|trivial|simp))
    refine W_cond (by simp; exact .r _) (fun hc => ?_) (fun hc => ?_)
    · cases hc
    repeat' first|refine nx ?_|refine xb_miss (by decide) ?_|(apply W_reg;(simp [c4];exact .r _))
    simp [xUnf]
theorem l17Fine_r (c : Sch) (vs : List Qry) (q : Qry) (sc : Sm c.arity) (hsv : Sm vs) (hvq : ∀ v ∈ vs, SmQ v) (hqq : SmQ q) : Ret XX 30 [Ag c, Ar vs, Ag q] (.t (.b (areVs c vs && isQry c q)) false) := by
  refine ret_W rfl Try.func30 rfl rfl (by simp [Try.f30]) ?_
  simp only [Try.f30]
  have c1 := cv (specAreVs_r c vs sc hsv hvq)
  have c2 := cv (specIsQuery_r c q sc hqq.1 hqq.2.1 hqq.2.2)
  simp only [Ag, cells_Sch, cells_Q, List.map_cons, List.map_nil] at c1 c2
  cases e1 : areVs c vs
  · repeat' first|refine nx ?_|refine xb_miss (by decide) ?_|(apply W_reg;(simp [Ag, c1, e1];exact .r _))
    simp
  · repeat' first|refine nx ?_|refine xb_miss (by decide) ?_|(apply W_reg;(simp [Ag, c1, e1, c2];exact .r _))
    simp
def chkC (c : Sch) (vs : List Qry) (q : Qry) (x : Crt) : Bool := areVs c vs && isQry c q && match unfold c vs x.rw_ with
  | none => false
  | some y => isMap q y x.forth && isMap y q x.back
theorem specChk_r (c : Sch) (vs : List Qry) (q : Qry) (x : Crt) (sc : Sm c.arity) (hsv : Sm vs) (hvq : ∀ v ∈ vs, SmQ v) (hqq : SmQ q) (hx : SmQ x.rw_) (hf : Sm x.forth) (hb : Sm x.back) : Ret XX 9 [Ag c, Ar vs, Ag q, Ag x] (.t (.b (chkC c vs q x)) false) := by
  refine ret_W rfl Try.func9 rfl rfl (by simp [Try.f9]) ?_
  simp only [Try.f9]
  have c1 := cv (l17Fine_r c vs q sc hsv hvq hqq)
  have c2 := cv (specUnf_r c vs x.rw_ sc hsv hvq hx)
  simp only [Ag, cells_Sch, cells_Q, List.map_cons, List.map_nil] at c1 c2
  cases e1 : areVs c vs && isQry c q
  · repeat' first|refine nx ?_|refine xb_miss (by decide) ?_|(apply W_reg;(simp [Ag, c1, e1];exact .r _))
    refine W_cond (by simp; exact .r _) (fun hc => ?_) (fun hc => ?_)
    · repeat' first|refine nx ?_|refine xb_miss (by decide) ?_|(apply W_reg;(simp;exact .r _))
      simp [chkC, e1]
    · cases hc
  cases e2 : unfold c vs x.rw_ with
  | none =>
    rw [e2, xUnf] at c2
    repeat' first|refine nx ?_|refine xb_miss (by decide) ?_|(apply W_reg;(simp [Ag, c1, e1];exact .r _))
    refine W_cond (by simp; exact .r _) (fun hc => ?_) (fun hc => ?_)
    · cases hc
    repeat' first|refine nx ?_|refine xb_miss (by decide) ?_|(apply W_reg;(simp [c2];exact .r _))
    simp [chkC, e2]
  | some y =>
    rw [e2, xUnf] at c2
    have hy := unfold_sm e2
    have c3 := cv (l7Is_r q y x.forth hf hqq hy)
    have c4 := cv (l7Is_r y q x.back hb hy hqq)
    simp only [Ag, cells_Q, List.map_cons, List.map_nil] at c3 c4
    cases e3 : isMap q y x.forth
    · repeat' first|refine nx ?_|refine xb_miss (by decide) ?_|(apply W_reg;(simp [Ag, c1, e1];exact .r _))
      refine W_cond (by simp; exact .r _) (fun hc => ?_) (fun hc => ?_)
      · cases hc
      repeat' first|refine nx ?_|refine xb_miss (by decide) ?_|(apply W_reg;(simp [c2, c3, e3];exact .r _))
      simp [chkC, e2, e3]
    · repeat' first|refine nx ?_|refine xb_miss (by decide) ?_|(apply W_reg;(simp [Ag, c1, e1];exact .r _))
      refine W_cond (by simp; exact .r _) (fun hc => ?_) (fun hc => ?_)
      · cases hc
      repeat' first|refine nx ?_|refine xb_miss (by decide) ?_|(apply W_reg;(simp [c2, c3, e3, c4];exact .r _))
      simp [chkC, e1, e2, e3]
theorem implChk_r (c : Sch) (vs : List Qry) (q : Qry) (x : Crt) (sc : Sm c.arity) (hsv : Sm vs) (hvq : ∀ v ∈ vs, SmQ v) (hqq : SmQ q) (hx : SmQ x.rw_) (hf : Sm x.forth) (hb : Sm x.back) : Ret XX 14 [Ag c, Ar vs, Ag q, Ag x] (.t (.b (chkC c vs q x)) false) := by
  refine ret_W rfl Try.func14 rfl rfl (by simp [Try.f14]) ?_
  simp only [Try.f14]
  have c1 := cv (implIsQuery_r c q sc hqq.1 hqq.2.1 hqq.2.2)
  have c2 := cv (implUnf_r c vs x.rw_ sc hsv hvq hx)
  simp only [Ag, cells_Sch, cells_Q, List.map_cons, List.map_nil] at c1 c2
  cases e2 : unfold c vs x.rw_ with
  | none =>
    rw [e2, xUnf] at c2
    repeat' first|refine nx ?_|refine xb_miss (by decide) ?_|(apply W_reg;(simp [Ag, c2];exact .r _))
    simp [chkC, e2]
  | some y =>
    rw [e2, xUnf] at c2
    have hav : areVs c vs = true := by
      unfold unfold at e2
      split at e2
      · rename_i hc; rw [Bool.and_eq_true] at hc; exact hc.1
      · cases e2
    cases e1 : isQry c q
    · repeat' first|refine nx ?_|refine xb_miss (by decide) ?_|(apply W_reg;(simp [Ag, c2, c1, e1];exact .r _))
      simp [chkC, e1]
    have hy := unfold_sm e2
    have c3 := cv (maps_r q y x.forth hf hqq hy)
    have c4 := cv (maps_r y q x.back hb hy hqq)
    simp only [Ag, cells_Q, List.map_cons, List.map_nil] at c3 c4
    cases e3 : isMap q y x.forth
    · repeat' first|refine nx ?_|refine xb_miss (by decide) ?_|(apply W_reg;(simp [Ag, c2, c1, e1, c3, e3];exact .r _))
      simp [chkC, e2, e3]
    · repeat' first|refine nx ?_|refine xb_miss (by decide) ?_|(apply W_reg;(simp [Ag, c2, c1, e1, c3, e3, c4];exact .r _))
      simp [chkC, hav, e1, e2, e3]
end Go.Proofs.Ytlehbgapjibeeaa.V

