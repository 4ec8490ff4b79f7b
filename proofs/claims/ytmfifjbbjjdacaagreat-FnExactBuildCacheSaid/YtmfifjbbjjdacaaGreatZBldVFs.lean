/- Out of YtmfifjbbjjdacaaGreatVFs: what the claim needs of it. Conditions: each declaration's own. -/
import Derived.Test.YtmfifjbbjjdacaaGreatZBldM8
import Derived.Test.YtmfifjbbjjdacaaGreatZBldM6
namespace Go.Proofs.YtmfifjbbjjdacaaGreat.V
open Go Go.Proofs
set_option linter.unusedVariables false
set_option linter.unusedSimpArgs false
def tabs (c : Sch) (vs : List Qry) (db : List RA) : List (List Row) := vs.map fun v => ansC c v db
def fewT (ts : List (List Row)) : Bool := ts.all fun t => decide (t.length ≤ 90)
theorem fewT_cons {t : List Row} {ts : List (List Row)} : fewT (t :: ts) = (decide (t.length ≤ 90) && fewT ts) := rfl
theorem fewT_nil : fewT [] = true := rfl
def okB (c : Sch) (vs : List Qry) (db : List RA) (ver : Int) : Bool := areVs c vs && isDb c db && inR ver 0 1000 && fewT (tabs c vs db)
abbrev xvC (vs : List Qry) (ts : List (List Row)) (ver : Int) : XV := .agg [.own 2 (rowsE vs), .own 1 (rowsE ts), .t (.i .i64 ver) false]
abbrev xvC0 : XV := .agg [.t (.sl []) false, .t (.sl []) false, .t (.i .i64 0) false]
def xBuild (c : Sch) (vs : List Qry) (db : List RA) (ver : Int) : XV := if okB c vs db ver then .tup [xvC vs (tabs c vs db) ver, .t (.b true) false] else .tup [xvC0, .t (.b false) false]
theorem implBuild_r (c : Sch) (vs : List Qry) (db : List RA) (ver : Int) (sc : Sm c.arity) (sv : Sm vs) (sq : ∀ q ∈ vs, SmQ q) (sd : Sm db) (sda : ∀ a ∈ db, Sm a.args) : Ret XX 85 [Ag c, Ar vs, Ar db, In ver] (xBuild c vs db ver) := by
  refine ret_W rfl Tryz.func85 rfl rfl (by simp [Tryz.f85]) ?_
  simp only [Tryz.f85]
  have c1 := cv (implAreVs_r c vs sc sv sq)
  have c2 := cv (implIsDb_r c db sc sd sda)
  have c3 := cv (within_r ver 0 1000)
  have c4 := cv (copyQueries_r vs sv sq)
  simp only [Ag, cells_Sch, cells_Q, List.map_cons, List.map_nil] at c1 c2
  cases e1 : areVs c vs
  · repeat' first|refine W_seq ?_|refine W_block ?_|refine W_skip ?_|refine W_ret ?_|refine W_exit ?_|refine xb_hit ?_|refine xb_miss (by decide) ?_|(apply W_reg;(simp [Ag, c1, e1];exact .r _))
    refine W_cond (by simp; exact .r _) (fun hc => ?_) (fun hc => ?_)
    · repeat' first|refine W_seq ?_|refine W_block ?_|refine W_skip ?_|refine W_ret ?_|refine W_exit ?_|refine xb_hit ?_|refine xb_miss (by decide) ?_|(apply W_reg;(simp;exact .r _))
      simp [xBuild, okB, e1]
    · cases hc
  cases e2 : isDb c db
  · repeat' first|refine W_seq ?_|refine W_block ?_|refine W_skip ?_|refine W_ret ?_|refine W_exit ?_|refine xb_hit ?_|refine xb_miss (by decide) ?_|(apply W_reg;(simp [Ag, c1, e1, c2, e2];exact .r _))
    refine W_cond (by simp; exact .r _) (fun hc => ?_) (fun hc => ?_)
    · repeat' first|refine W_seq ?_|refine W_block ?_|refine W_skip ?_|refine W_ret ?_|refine W_exit ?_|refine xb_hit ?_|refine xb_miss (by decide) ?_|(apply W_reg;(simp;exact .r _))
      simp [xBuild, okB, e2]
    · cases hc
  cases e3 : inR ver 0 1000
  · repeat' first|refine W_seq ?_|refine W_block ?_|refine W_skip ?_|refine W_ret ?_|refine W_exit ?_|refine xb_hit ?_|refine xb_miss (by decide) ?_|(apply W_reg;(simp [Ag, c1, e1, c2, e2, c3, e3];exact .r _))
    refine W_cond (by simp; exact .r _) (fun hc => ?_) (fun hc => ?_)
    · repeat' first|refine W_seq ?_|refine W_block ?_|refine W_skip ?_|refine W_ret ?_|refine W_exit ?_|refine xb_hit ?_|refine xb_miss (by decide) ?_|(apply W_reg;(simp;exact .r _))
      simp [xBuild, okB, e3]
    · cases hc
  repeat' first|refine W_seq ?_|refine W_block ?_|refine W_skip ?_|refine W_ret ?_|refine W_exit ?_|refine xb_hit ?_|refine xb_miss (by decide) ?_|(apply W_reg;(simp [Ag, c1, e1, c2, e2, c3, e3];exact .r _))
  refine W_cond (by simp; exact .r _) (fun hc => ?_) (fun hc => ?_)
  · cases hc
  repeat' first|refine W_seq ?_|refine W_block ?_|refine W_skip ?_|refine W_ret ?_|refine W_exit ?_|refine xb_hit ?_|refine xb_miss (by decide) ?_|(apply W_reg;(simp [c4];exact .r _))
  have htl : (tabs c vs db).length = vs.length := by simp [tabs]
  refine W_loop (n := vs.length) (fun n s => ∃ i : Nat, ∃ oT : Nat, ∃ st : Nat, n = vs.length - i ∧ s.nt = 56 ∧ s.tm 2 = Ar db ∧ s.tm 4 = .ptr 0 0 ∧ s.tm 8 = .ptr 1 0 ∧ s.tm 10 = .ptr 3 0 ∧ s.tm 34 = Ar vs ∧ s.tm 35 = In vs.length ∧ s.tm 36 = In i ∧ i ≤ vs.length ∧ s.σ.ob 0 = .box [Ar c.arity] ∧ s.σ.ob 1 = .box [.t .nl, .t .nl, In 0] ∧ s.σ.ob 2 = .arr (.own 0) 0 2 (rowsE vs) ∧ s.σ.ob 3 = .box [.ref 2 vs.length [], gc oT i, In ver] ∧ 4 ≤ s.σ.n ∧ (i = 0 ∨ (s.σ.ob oT = .arr (.own 0) st 1 (rowsE ((tabs c vs db).take i)) ∧ 4 ≤ oT ∧ oT < s.σ.n)) ∧ fewT (tabs c vs db) = fewT ((tabs c vs db).drop i)) ⟨0, 0, 0, by simp⟩ ?_
  rintro n ⟨nt, tm, σ⟩ ⟨i, oT, st, rfl, hnt, h2, h4, h8, h10, h34, h35, h36, hi, hb0, hb1, hb2, hb3, hn, hT, heq⟩
  simp only at hnt h2 h4 h8 h10 h34 h35 h36 hb0 hb1 hb2 hb3 hn hT
  subst hnt
  have ne1_ : ¬ (0 = σ.n) := by omega
  have ne2_ : ¬ (σ.n = 0) := by omega
  have ne3_ : ¬ (0 = σ.n + 1) := by omega
  have ne4_ : ¬ (σ.n + 1 = 0) := by omega
  have ne5_ : ¬ (0 = σ.n + 2) := by omega
  have ne6_ : ¬ (σ.n + 2 = 0) := by omega
  have ne7_ : ¬ (0 = σ.n + 3) := by omega
  have ne8_ : ¬ (σ.n + 3 = 0) := by omega
  have ne9_ : ¬ (1 = σ.n) := by omega
  have ne10_ : ¬ (σ.n = 1) := by omega
  have ne11_ : ¬ (1 = σ.n + 1) := by omega
  have ne12_ : ¬ (σ.n + 1 = 1) := by omega
  have ne13_ : ¬ (1 = σ.n + 2) := by omega
  have ne14_ : ¬ (σ.n + 2 = 1) := by omega
  have ne15_ : ¬ (1 = σ.n + 3) := by omega
  have ne16_ : ¬ (σ.n + 3 = 1) := by omega
  have ne17_ : ¬ (2 = σ.n) := by omega
  have ne18_ : ¬ (σ.n = 2) := by omega
  have ne19_ : ¬ (2 = σ.n + 1) := by omega
  have ne20_ : ¬ (σ.n + 1 = 2) := by omega
  have ne21_ : ¬ (2 = σ.n + 2) := by omega
  have ne22_ : ¬ (σ.n + 2 = 2) := by omega
  have ne23_ : ¬ (2 = σ.n + 3) := by omega
  have ne24_ : ¬ (σ.n + 3 = 2) := by omega
  have ne25_ : ¬ (3 = σ.n) := by omega
  have ne26_ : ¬ (σ.n = 3) := by omega
  have ne27_ : ¬ (3 = σ.n + 1) := by omega
  have ne28_ : ¬ (σ.n + 1 = 3) := by omega
  have ne29_ : ¬ (3 = σ.n + 2) := by omega
  have ne30_ : ¬ (σ.n + 2 = 3) := by omega
  have ne31_ : ¬ (3 = σ.n + 3) := by omega
  have ne32_ : ¬ (σ.n + 3 = 3) := by omega
  repeat' first|refine W_seq ?_|refine W_block ?_|refine W_skip ?_|refine W_ret ?_|refine W_exit ?_|refine xb_hit ?_|refine xb_miss (by decide) ?_|(apply W_reg;(simp [h2, h4, h8, h10, h34, h35, h36, hb0, hb1, hb2, hb3, hn, hT, ne1_, ne2_, ne3_, ne4_, ne5_, ne6_, ne7_, ne8_, ne9_, ne10_, ne11_, ne12_, ne13_, ne14_, ne15_, ne16_, ne17_, ne18_, ne19_, ne20_, ne21_, ne22_, ne23_, ne24_, ne25_, ne26_, ne27_, ne28_, ne29_, ne30_, ne31_, ne32_];exact .r _))
  refine W_cond (by simp [h2, h4, h8, h10, h34, h35, h36, hb0, hb1, hb2, hb3, hn, hT, ne1_, ne2_, ne3_, ne4_, ne5_, ne6_, ne7_, ne8_, ne9_, ne10_, ne11_, ne12_, ne13_, ne14_, ne15_, ne16_, ne17_, ne18_, ne19_, ne20_, ne21_, ne22_, ne23_, ne24_, ne25_, ne26_, ne27_, ne28_, ne29_, ne30_, ne31_, ne32_]; exact .r _) (fun hc => ?_) (fun hc => ?_)
  · have hil : i < vs.length := by simpa using hc
    have hit : i < (tabs c vs db).length := by omega
    have hq := sq _ (List.getElem_mem hil)
    have c5 := cv (implAns_r c vs[i] db sc hq.1 hq.2.1 hq.2.2 sd sda)
    simp only [Ag, cells_Sch, cells_Q, List.map_cons, List.map_nil] at c5
    have hti : (tabs c vs db)[i] = ansC c vs[i] db := by simp [tabs]
    have hrl : (rowsE (ansC c vs[i] db)).length = (ansC c vs[i] db).length := rowsE_len ..
    rw [List.drop_eq_getElem_cons hit, fewT_cons, hti] at heq
    repeat' first|refine W_seq ?_|refine W_block ?_|refine W_skip ?_|refine W_ret ?_|refine W_exit ?_|refine xb_hit ?_|refine xb_miss (by decide) ?_|(apply W_reg;(simp [h2, h4, h8, h10, h34, h35, h36, hb0, hb1, hb2, hb3, hn, hT, ne1_, ne2_, ne3_, ne4_, ne5_, ne6_, ne7_, ne8_, ne9_, ne10_, ne11_, ne12_, ne13_, ne14_, ne15_, ne16_, ne17_, ne18_, ne19_, ne20_, ne21_, ne22_, ne23_, ne24_, ne25_, ne26_, ne27_, ne28_, ne29_, ne30_, ne31_, ne32_, hil, c5, hrl];exact .r _))
    refine W_cond (by simp [h2, h4, h8, h10, h34, h35, h36, hb0, hb1, hb2, hb3, hn, hT, ne1_, ne2_, ne3_, ne4_, ne5_, ne6_, ne7_, ne8_, ne9_, ne10_, ne11_, ne12_, ne13_, ne14_, ne15_, ne16_, ne17_, ne18_, ne19_, ne20_, ne21_, ne22_, ne23_, ne24_, ne25_, ne26_, ne27_, ne28_, ne29_, ne30_, ne31_, ne32_]; exact .r _) (fun hd => ?_) (fun hd => ?_)
    · have hd' : 90 < (ansC c vs[i] db).length := by simp at hd; omega
      have hf : decide ((ansC c vs[i] db).length ≤ 90) = false := decide_eq_false (by omega)
      repeat' first|refine W_seq ?_|refine W_block ?_|refine W_skip ?_|refine W_ret ?_|refine W_exit ?_|refine xb_hit ?_|refine xb_miss (by decide) ?_|(apply W_reg;(simp [h2, h4, h8, h10, h34, h35, h36, hb0, hb1, hb2, hb3, hn, hT, ne1_, ne2_, ne3_, ne4_, ne5_, ne6_, ne7_, ne8_, ne9_, ne10_, ne11_, ne12_, ne13_, ne14_, ne15_, ne16_, ne17_, ne18_, ne19_, ne20_, ne21_, ne22_, ne23_, ne24_, ne25_, ne26_, ne27_, ne28_, ne29_, ne30_, ne31_, ne32_];exact .r _))
      simp [xBuild, okB, heq, hf, h8]
    · have hd' : (ansC c vs[i] db).length ≤ 90 := by simp at hd; omega
      have hf : decide ((ansC c vs[i] db).length ≤ 90) = true := decide_eq_true hd'
      rw [hf, Bool.true_and] at heq
      have hbt : i + 1 < 1099511627776 := by unfold Sm at sv; omega
      cases i with
      | zero =>
        repeat' first|refine W_seq ?_|refine W_block ?_|refine W_skip ?_|refine W_ret ?_|refine W_exit ?_|refine xb_hit ?_|refine xb_miss (by decide) ?_|(apply W_reg;(simp [h2, h4, h8, h10, h34, h35, h36, hb0, hb1, hb2, hb3, hn, hT, ne1_, ne2_, ne3_, ne4_, ne5_, ne6_, ne7_, ne8_, ne9_, ne10_, ne11_, ne12_, ne13_, ne14_, ne15_, ne16_, ne17_, ne18_, ne19_, ne20_, ne21_, ne22_, ne23_, ne24_, ne25_, ne26_, ne27_, ne28_, ne29_, ne30_, ne31_, ne32_, hrl];exact .r _))
        refine ⟨_, ?_, 0 + 1, σ.n + 3, 0, rfl, rfl, ?_, ?_, ?_, ?_, ?_, ?_, ?_, by omega, ?_, ?_, ?_, ?_, ?_, (.inr ⟨by (simp [h2, h4, h8, h10, h34, h35, h36, hb0, hb1, hb2, hb3, hn, hT, ne1_, ne2_, ne3_, ne4_, ne5_, ne6_, ne7_, ne8_, ne9_, ne10_, ne11_, ne12_, ne13_, ne14_, ne15_, ne16_, ne17_, ne18_, ne19_, ne20_, ne21_, ne22_, ne23_, ne24_, ne25_, ne26_, ne27_, ne28_, ne29_, ne30_, ne31_, ne32_]; rw [rowsE_take _ _ hit, hti]; simp [rowsE]), by omega, by (simp)⟩), heq⟩
        all_goals first|assumption|(simp [h2, h4, h8, h10, h34, h35, h36, hb0, hb1, hb2, hb3, hn, hT, ne1_, ne2_, ne3_, ne4_, ne5_, ne6_, ne7_, ne8_, ne9_, ne10_, ne11_, ne12_, ne13_, ne14_, ne15_, ne16_, ne17_, ne18_, ne19_, ne20_, ne21_, ne22_, ne23_, ne24_, ne25_, ne26_, ne27_, ne28_, ne29_, ne30_, ne31_, ne32_];done)|(simp [h2, h4, h8, h10, h34, h35, h36, hb0, hb1, hb2, hb3, hn, hT, ne1_, ne2_, ne3_, ne4_, ne5_, ne6_, ne7_, ne8_, ne9_, ne10_, ne11_, ne12_, ne13_, ne14_, ne15_, ne16_, ne17_, ne18_, ne19_, ne20_, ne21_, ne22_, ne23_, ne24_, ne25_, ne26_, ne27_, ne28_, ne29_, ne30_, ne31_, ne32_];omega)|(simp [h2, h4, h8, h10, h34, h35, h36, hb0, hb1, hb2, hb3, hn, hT, ne1_, ne2_, ne3_, ne4_, ne5_, ne6_, ne7_, ne8_, ne9_, ne10_, ne11_, ne12_, ne13_, ne14_, ne15_, ne16_, ne17_, ne18_, ne19_, ne20_, ne21_, ne22_, ne23_, ne24_, ne25_, ne26_, ne27_, ne28_, ne29_, ne30_, ne31_, ne32_];exact wrap_succ (by omega))|omega
      | succ i =>
        obtain ⟨hT1, hT2, hT3⟩ := hT.resolve_left (by omega)
        have ne33_ : ¬ (oT = 0) := by omega
        have ne34_ : ¬ (0 = oT) := by omega
        have ne35_ : ¬ (oT = 1) := by omega
        have ne36_ : ¬ (1 = oT) := by omega
        have ne37_ : ¬ (oT = 2) := by omega
        have ne38_ : ¬ (2 = oT) := by omega
        have ne39_ : ¬ (oT = 3) := by omega
        have ne40_ : ¬ (3 = oT) := by omega
        have ne41_ : ¬ (oT = σ.n) := by omega
        have ne42_ : ¬ (σ.n = oT) := by omega
        have ne43_ : ¬ (oT = σ.n + 1) := by omega
        have ne44_ : ¬ (σ.n + 1 = oT) := by omega
        have ne45_ : ¬ (oT = σ.n + 2) := by omega
        have ne46_ : ¬ (σ.n + 2 = oT) := by omega
        have ne47_ : ¬ (oT = σ.n + 3) := by omega
        have ne48_ : ¬ (σ.n + 3 = oT) := by omega
        repeat' first|refine W_seq ?_|refine W_block ?_|refine W_skip ?_|refine W_ret ?_|refine W_exit ?_|refine xb_hit ?_|refine xb_miss (by decide) ?_|(apply W_reg;(simp [h2, h4, h8, h10, h34, h35, h36, hb0, hb1, hb2, hb3, hn, hT, ne1_, ne2_, ne3_, ne4_, ne5_, ne6_, ne7_, ne8_, ne9_, ne10_, ne11_, ne12_, ne13_, ne14_, ne15_, ne16_, ne17_, ne18_, ne19_, ne20_, ne21_, ne22_, ne23_, ne24_, ne25_, ne26_, ne27_, ne28_, ne29_, ne30_, ne31_, ne32_, ne33_, ne34_, ne35_, ne36_, ne37_, ne38_, ne39_, ne40_, ne41_, ne42_, ne43_, ne44_, ne45_, ne46_, ne47_, ne48_, hrl, hT1, hbt, show min (i + 1) (tabs c vs db).length = i + 1 by omega];exact .r _))
        refine ⟨_, ?_, i + 1 + 1, oT, st, rfl, rfl, ?_, ?_, ?_, ?_, ?_, ?_, (by simp [h36]; rw [wrap_ok (by omega) (by omega)]; omega), by omega, ?_, ?_, ?_, ?_, ?_, (.inr ⟨by (simp [h2, h4, h8, h10, h34, h35, h36, hb0, hb1, hb2, hb3, hn, hT, ne1_, ne2_, ne3_, ne4_, ne5_, ne6_, ne7_, ne8_, ne9_, ne10_, ne11_, ne12_, ne13_, ne14_, ne15_, ne16_, ne17_, ne18_, ne19_, ne20_, ne21_, ne22_, ne23_, ne24_, ne25_, ne26_, ne27_, ne28_, ne29_, ne30_, ne31_, ne32_, ne33_, ne34_, ne35_, ne36_, ne37_, ne38_, ne39_, ne40_, ne41_, ne42_, ne43_, ne44_, ne45_, ne46_, ne47_, ne48_]; rw [rowsE_take _ _ hit, hti]; simp [rowsE]), hT2, by (simp; omega)⟩), heq⟩
        all_goals first|assumption|(simp [h2, h4, h8, h10, h34, h35, h36, hb0, hb1, hb2, hb3, hn, hT, ne1_, ne2_, ne3_, ne4_, ne5_, ne6_, ne7_, ne8_, ne9_, ne10_, ne11_, ne12_, ne13_, ne14_, ne15_, ne16_, ne17_, ne18_, ne19_, ne20_, ne21_, ne22_, ne23_, ne24_, ne25_, ne26_, ne27_, ne28_, ne29_, ne30_, ne31_, ne32_, ne33_, ne34_, ne35_, ne36_, ne37_, ne38_, ne39_, ne40_, ne41_, ne42_, ne43_, ne44_, ne45_, ne46_, ne47_, ne48_];done)|(simp [h2, h4, h8, h10, h34, h35, h36, hb0, hb1, hb2, hb3, hn, hT, ne1_, ne2_, ne3_, ne4_, ne5_, ne6_, ne7_, ne8_, ne9_, ne10_, ne11_, ne12_, ne13_, ne14_, ne15_, ne16_, ne17_, ne18_, ne19_, ne20_, ne21_, ne22_, ne23_, ne24_, ne25_, ne26_, ne27_, ne28_, ne29_, ne30_, ne31_, ne32_, ne33_, ne34_, ne35_, ne36_, ne37_, ne38_, ne39_, ne40_, ne41_, ne42_, ne43_, ne44_, ne45_, ne46_, ne47_, ne48_];omega)|(simp [h2, h4, h8, h10, h34, h35, h36, hb0, hb1, hb2, hb3, hn, hT, ne1_, ne2_, ne3_, ne4_, ne5_, ne6_, ne7_, ne8_, ne9_, ne10_, ne11_, ne12_, ne13_, ne14_, ne15_, ne16_, ne17_, ne18_, ne19_, ne20_, ne21_, ne22_, ne23_, ne24_, ne25_, ne26_, ne27_, ne28_, ne29_, ne30_, ne31_, ne32_, ne33_, ne34_, ne35_, ne36_, ne37_, ne38_, ne39_, ne40_, ne41_, ne42_, ne43_, ne44_, ne45_, ne46_, ne47_, ne48_];exact wrap_succ (by omega))|omega
  · have hil : i = vs.length := by simp at hc; omega
    subst hil
    rw [← htl, List.drop_length, fewT_nil] at heq
    have hne : vs.length ≠ 0 := by have := areVs_mem e1; omega
    obtain ⟨hT1, hT2, hT3⟩ := hT.resolve_left hne
    rw [← htl, List.take_length] at hT1
    have hgc := gc_pos (o := oT) hne
    have ne49_ : ¬ (oT = 0) := by omega
    have ne50_ : ¬ (0 = oT) := by omega
    have ne51_ : ¬ (oT = 1) := by omega
    have ne52_ : ¬ (1 = oT) := by omega
    have ne53_ : ¬ (oT = 2) := by omega
    have ne54_ : ¬ (2 = oT) := by omega
    have ne55_ : ¬ (oT = 3) := by omega
    have ne56_ : ¬ (3 = oT) := by omega
    repeat' first|refine W_seq ?_|refine W_block ?_|refine W_skip ?_|refine W_ret ?_|refine W_exit ?_|refine xb_hit ?_|refine xb_miss (by decide) ?_|(apply W_reg;(simp [h2, h4, h8, h10, h34, h35, h36, hb0, hb1, hb2, hb3, hn, hT, ne1_, ne2_, ne3_, ne4_, ne5_, ne6_, ne7_, ne8_, ne9_, ne10_, ne11_, ne12_, ne13_, ne14_, ne15_, ne16_, ne17_, ne18_, ne19_, ne20_, ne21_, ne22_, ne23_, ne24_, ne25_, ne26_, ne27_, ne28_, ne29_, ne30_, ne31_, ne32_, ne49_, ne50_, ne51_, ne52_, ne53_, ne54_, ne55_, ne56_, hgc];exact .r _))
    simp [xBuild, okB, e1, e2, e3, heq, h8, hgc, hb2, hT1, htl, h2, h4, h8, h10, h34, h35, h36, hb0, hb1, hb2, hb3, hn, hT, ne1_, ne2_, ne3_, ne4_, ne5_, ne6_, ne7_, ne8_, ne9_, ne10_, ne11_, ne12_, ne13_, ne14_, ne15_, ne16_, ne17_, ne18_, ne19_, ne20_, ne21_, ne22_, ne23_, ne24_, ne25_, ne26_, ne27_, ne28_, ne29_, ne30_, ne31_, ne32_, ne49_, ne50_, ne51_, ne52_, ne53_, ne54_, ne55_, ne56_]
set_option maxRecDepth 10000 in
set_option maxHeartbeats 2000000 in
theorem specBuild_r (c : Sch) (vs : List Qry) (db : List RA) (ver : Int) (hcS : Lw.bd 1048576 c) (hv : Lw.bd 1048576 vs) (hd : Lw.bd 1048576 db) : Ret XX 83 [Ag c, Ar vs, Ar db, In ver] (xBuild c vs db ver) := by
  refine ret_W rfl Tryz.func83 rfl rfl (by simp [Tryz.f83]) ?_
  simp only [Tryz.f83]
  have sc : Sm c.arity := Nat.lt_of_le_of_lt hcS.1 (by omega)
  have sv : Sm vs := Nat.lt_of_le_of_lt hv.1 (by omega)
  have sq : ∀ q ∈ vs, SmQ q := fun q hq => SmQ.of (by omega) (hv.2 q hq)
  have sd : Sm db := Nat.lt_of_le_of_lt hd.1 (by omega)
  have sda : ∀ a ∈ db, Sm a.args := fun a ha => Nat.lt_of_le_of_lt (hd.2 a ha).1 (by omega)
  have c1 := cv (specAreVs_r c vs sc sv sq)
  have c2 := cv (specIsDb_r c db sc sd sda)
  have c3 := cv (l1In_r ver 0 1000)
  simp only [Ag, cells_Sch, cells_Q, List.map_cons, List.map_nil] at c1 c2
  cases e1 : areVs c vs
  · repeat' first|refine W_seq ?_|refine W_block ?_|refine W_skip ?_|refine W_ret ?_|refine W_exit ?_|refine xb_hit ?_|refine xb_miss (by decide) ?_|(apply W_reg;(simp [Ag, c1, e1];exact .r _))
    refine W_cond (by simp; exact .r _) (fun hc => ?_) (fun hc => ?_)
    · repeat' first|refine W_seq ?_|refine W_block ?_|refine W_skip ?_|refine W_ret ?_|refine W_exit ?_|refine xb_hit ?_|refine xb_miss (by decide) ?_|(apply W_reg;(simp;exact .r _))
      simp [xBuild, okB, e1]
    · cases hc
  cases e2 : isDb c db
  · repeat' first|refine W_seq ?_|refine W_block ?_|refine W_skip ?_|refine W_ret ?_|refine W_exit ?_|refine xb_hit ?_|refine xb_miss (by decide) ?_|(apply W_reg;(simp [Ag, c1, e1, c2, e2];exact .r _))
    refine W_cond (by simp; exact .r _) (fun hc => ?_) (fun hc => ?_)
    · repeat' first|refine W_seq ?_|refine W_block ?_|refine W_skip ?_|refine W_ret ?_|refine W_exit ?_|refine xb_hit ?_|refine xb_miss (by decide) ?_|(apply W_reg;(simp;exact .r _))
      simp [xBuild, okB, e2]
    · cases hc
  cases e3 : inR ver 0 1000
  · repeat' first|refine W_seq ?_|refine W_block ?_|refine W_skip ?_|refine W_ret ?_|refine W_exit ?_|refine xb_hit ?_|refine xb_miss (by decide) ?_|(apply W_reg;(simp [Ag, c1, e1, c2, e2, c3, e3];exact .r _))
    refine W_cond (by simp; exact .r _) (fun hc => ?_) (fun hc => ?_)
    · repeat' first|refine W_seq ?_|refine W_block ?_|refine W_skip ?_|refine W_ret ?_|refine W_exit ?_|refine xb_hit ?_|refine xb_miss (by decide) ?_|(apply W_reg;(simp;exact .r _))
      simp [xBuild, okB, e3]
    · cases hc
  repeat' first|refine W_seq ?_|refine W_block ?_|refine W_skip ?_|refine W_ret ?_|refine W_exit ?_|refine xb_hit ?_|refine xb_miss (by decide) ?_|(apply W_reg;(simp [Ag, c1, e1, c2, e2, c3, e3];exact .r _))
  refine W_cond (by simp; exact .r _) (fun hc => ?_) (fun hc => ?_)
  · cases hc
  repeat' first|refine W_seq ?_|refine W_block ?_|refine W_skip ?_|refine W_ret ?_|refine W_exit ?_|refine xb_hit ?_|refine xb_miss (by decide) ?_|(apply W_reg;(simp;exact .r _))
  have htl : (tabs c vs db).length = vs.length := by simp [tabs]
  refine W_loop (n := vs.length) (fun n s => ∃ i : Nat, ∃ oV : Nat, ∃ sV : Nat, ∃ oT : Nat, ∃ st : Nat, n = vs.length - i ∧ s.nt = 65 ∧ s.tm 1 = Ar vs ∧ s.tm 2 = Ar db ∧ s.tm 4 = .ptr 0 0 ∧ s.tm 8 = .ptr 1 0 ∧ s.tm 10 = .ptr 2 0 ∧ s.tm 11 = In i ∧ i ≤ vs.length ∧ s.σ.ob 0 = .box [Ar c.arity] ∧ s.σ.ob 1 = .box [.t .nl, .t .nl, In 0] ∧ s.σ.ob 2 = .box [gc oV i, gc oT i, In ver] ∧ 3 ≤ s.σ.n ∧ (i = 0 ∨ (s.σ.ob oV = .arr (.own 0) sV 2 (rowsE (vs.take i)) ∧ s.σ.ob oT = .arr (.own 0) st 1 (rowsE ((tabs c vs db).take i)) ∧ 3 ≤ oT ∧ oT < s.σ.n ∧ 3 ≤ oV ∧ oV < s.σ.n ∧ ¬ oV = oT)) ∧ fewT (tabs c vs db) = fewT ((tabs c vs db).drop i)) ⟨0, 0, 0, 0, 0, by simp⟩ ?_
  rintro n ⟨nt, tm, σ⟩ ⟨i, oV, sV, oT, st, rfl, hnt, h1, h2, h4, h8, h10, h11, hi, hb0, hb1, hb2, hn, hT, heq⟩
  simp only at hnt h1 h2 h4 h8 h10 h11 hb0 hb1 hb2 hn hT
  subst hnt
  have ne57_ : ¬ (0 = σ.n) := by omega
  have ne58_ : ¬ (σ.n = 0) := by omega
  have ne59_ : ¬ (0 = σ.n + 1) := by omega
  have ne60_ : ¬ (σ.n + 1 = 0) := by omega
  have ne61_ : ¬ (0 = σ.n + 2) := by omega
  have ne62_ : ¬ (σ.n + 2 = 0) := by omega
  have ne63_ : ¬ (0 = σ.n + 3) := by omega
  have ne64_ : ¬ (σ.n + 3 = 0) := by omega
  have ne65_ : ¬ (0 = σ.n + 4) := by omega
  have ne66_ : ¬ (σ.n + 4 = 0) := by omega
  have ne67_ : ¬ (0 = σ.n + 5) := by omega
  have ne68_ : ¬ (σ.n + 5 = 0) := by omega
  have ne69_ : ¬ (0 = σ.n + 6) := by omega
  have ne70_ : ¬ (σ.n + 6 = 0) := by omega
  have ne71_ : ¬ (1 = σ.n) := by omega
  have ne72_ : ¬ (σ.n = 1) := by omega
  have ne73_ : ¬ (1 = σ.n + 1) := by omega
  have ne74_ : ¬ (σ.n + 1 = 1) := by omega
  have ne75_ : ¬ (1 = σ.n + 2) := by omega
  have ne76_ : ¬ (σ.n + 2 = 1) := by omega
  have ne77_ : ¬ (1 = σ.n + 3) := by omega
  have ne78_ : ¬ (σ.n + 3 = 1) := by omega
  have ne79_ : ¬ (1 = σ.n + 4) := by omega
  have ne80_ : ¬ (σ.n + 4 = 1) := by omega
  have ne81_ : ¬ (1 = σ.n + 5) := by omega
  have ne82_ : ¬ (σ.n + 5 = 1) := by omega
  have ne83_ : ¬ (1 = σ.n + 6) := by omega
  have ne84_ : ¬ (σ.n + 6 = 1) := by omega
  have ne85_ : ¬ (2 = σ.n) := by omega
  have ne86_ : ¬ (σ.n = 2) := by omega
  have ne87_ : ¬ (2 = σ.n + 1) := by omega
  have ne88_ : ¬ (σ.n + 1 = 2) := by omega
  have ne89_ : ¬ (2 = σ.n + 2) := by omega
  have ne90_ : ¬ (σ.n + 2 = 2) := by omega
  have ne91_ : ¬ (2 = σ.n + 3) := by omega
  have ne92_ : ¬ (σ.n + 3 = 2) := by omega
  have ne93_ : ¬ (2 = σ.n + 4) := by omega
  have ne94_ : ¬ (σ.n + 4 = 2) := by omega
  have ne95_ : ¬ (2 = σ.n + 5) := by omega
  have ne96_ : ¬ (σ.n + 5 = 2) := by omega
  have ne97_ : ¬ (2 = σ.n + 6) := by omega
  have ne98_ : ¬ (σ.n + 6 = 2) := by omega
  repeat' first|refine W_seq ?_|refine W_block ?_|refine W_skip ?_|refine W_ret ?_|refine W_exit ?_|refine xb_hit ?_|refine xb_miss (by decide) ?_|(apply W_reg;(simp [h1, h2, h4, h8, h10, h11, hb0, hb1, hb2, hn, hT, ne57_, ne58_, ne59_, ne60_, ne61_, ne62_, ne63_, ne64_, ne65_, ne66_, ne67_, ne68_, ne69_, ne70_, ne71_, ne72_, ne73_, ne74_, ne75_, ne76_, ne77_, ne78_, ne79_, ne80_, ne81_, ne82_, ne83_, ne84_, ne85_, ne86_, ne87_, ne88_, ne89_, ne90_, ne91_, ne92_, ne93_, ne94_, ne95_, ne96_, ne97_, ne98_];exact .r _))
  refine W_cond (by simp [h1, h2, h4, h8, h10, h11, hb0, hb1, hb2, hn, hT, ne57_, ne58_, ne59_, ne60_, ne61_, ne62_, ne63_, ne64_, ne65_, ne66_, ne67_, ne68_, ne69_, ne70_, ne71_, ne72_, ne73_, ne74_, ne75_, ne76_, ne77_, ne78_, ne79_, ne80_, ne81_, ne82_, ne83_, ne84_, ne85_, ne86_, ne87_, ne88_, ne89_, ne90_, ne91_, ne92_, ne93_, ne94_, ne95_, ne96_, ne97_, ne98_]; exact .r _) (fun hc => ?_) (fun hc => ?_)
  · have hil : i < vs.length := by simpa using hc
    have hit : i < (tabs c vs db).length := by omega
    have hq := sq _ (List.getElem_mem hil)
    have hqv := (areVs_mem e1).1 _ (List.getElem_mem hil)
    have hbne : vs[i].body ≠ [] := fun e => by
      have := hqv.1
      simp [isQry, inR, e] at this
    have c5 := cv (specAns_r c vs[i] db hcS (hv.2 _ (List.getElem_mem hil)) hd)
    have c6 := cv (l4Copy_r vs[i] hq hbne)
    simp only [Ag, cells_Sch, cells_Q, List.map_cons, List.map_nil] at c5 c6
    have hti : (tabs c vs db)[i] = ansC c vs[i] db := by simp [tabs]
    have hrl : (rowsE (ansC c vs[i] db)).length = (ansC c vs[i] db).length := rowsE_len ..
    rw [List.drop_eq_getElem_cons hit, fewT_cons, hti] at heq
    repeat' first|refine W_seq ?_|refine W_block ?_|refine W_skip ?_|refine W_ret ?_|refine W_exit ?_|refine xb_hit ?_|refine xb_miss (by decide) ?_|(apply W_reg;(simp [h1, h2, h4, h8, h10, h11, hb0, hb1, hb2, hn, hT, ne57_, ne58_, ne59_, ne60_, ne61_, ne62_, ne63_, ne64_, ne65_, ne66_, ne67_, ne68_, ne69_, ne70_, ne71_, ne72_, ne73_, ne74_, ne75_, ne76_, ne77_, ne78_, ne79_, ne80_, ne81_, ne82_, ne83_, ne84_, ne85_, ne86_, ne87_, ne88_, ne89_, ne90_, ne91_, ne92_, ne93_, ne94_, ne95_, ne96_, ne97_, ne98_, hil, c5, hrl];exact .r _))|(apply W_draw (id := 7) [0,0,0,6,14,0,63,127] rfl rfl; (· simp; exact .r _); (· simp [h1, h2, h4, h8, h10, h11, hb0, hb1, hb2, hn, hT, ne57_, ne58_, ne59_, ne60_, ne61_, ne62_, ne63_, ne64_, ne65_, ne66_, ne67_, ne68_, ne69_, ne70_, ne71_, ne72_, ne73_, ne74_, ne75_, ne76_, ne77_, ne78_, ne79_, ne80_, ne81_, ne82_, ne83_, ne84_, ne85_, ne86_, ne87_, ne88_, ne89_, ne90_, ne91_, ne92_, ne93_, ne94_, ne95_, ne96_, ne97_, ne98_, hil, c5, hrl]; exact .r _); (· first|trivial|simp))
    refine W_cond (by simp [h1, h2, h4, h8, h10, h11, hb0, hb1, hb2, hn, hT, ne57_, ne58_, ne59_, ne60_, ne61_, ne62_, ne63_, ne64_, ne65_, ne66_, ne67_, ne68_, ne69_, ne70_, ne71_, ne72_, ne73_, ne74_, ne75_, ne76_, ne77_, ne78_, ne79_, ne80_, ne81_, ne82_, ne83_, ne84_, ne85_, ne86_, ne87_, ne88_, ne89_, ne90_, ne91_, ne92_, ne93_, ne94_, ne95_, ne96_, ne97_, ne98_]; exact .r _) (fun hd => ?_) (fun hd => ?_)
    · have hd' : 90 < (ansC c vs[i] db).length := by simp at hd; omega
      have hf : decide ((ansC c vs[i] db).length ≤ 90) = false := decide_eq_false (by omega)
      repeat' first|refine W_seq ?_|refine W_block ?_|refine W_skip ?_|refine W_ret ?_|refine W_exit ?_|refine xb_hit ?_|refine xb_miss (by decide) ?_|(apply W_reg;(simp [h1, h2, h4, h8, h10, h11, hb0, hb1, hb2, hn, hT, ne57_, ne58_, ne59_, ne60_, ne61_, ne62_, ne63_, ne64_, ne65_, ne66_, ne67_, ne68_, ne69_, ne70_, ne71_, ne72_, ne73_, ne74_, ne75_, ne76_, ne77_, ne78_, ne79_, ne80_, ne81_, ne82_, ne83_, ne84_, ne85_, ne86_, ne87_, ne88_, ne89_, ne90_, ne91_, ne92_, ne93_, ne94_, ne95_, ne96_, ne97_, ne98_];exact .r _))
      simp [xBuild, okB, heq, hf, h8]
    · have hd' : (ansC c vs[i] db).length ≤ 90 := by simp at hd; omega
      have hf : decide ((ansC c vs[i] db).length ≤ 90) = true := decide_eq_true hd'
      rw [hf, Bool.true_and] at heq
      have hbt : i + 1 < 1099511627776 := by unfold Sm at sv; omega
      rcases Nat.eq_zero_or_pos i with h0 | h0
      · subst h0
        repeat' first|refine W_seq ?_|refine W_block ?_|refine W_skip ?_|refine W_ret ?_|refine W_exit ?_|refine xb_hit ?_|refine xb_miss (by decide) ?_|(apply W_reg;(simp [h1, h2, h4, h8, h10, h11, hb0, hb1, hb2, hn, hT, ne57_, ne58_, ne59_, ne60_, ne61_, ne62_, ne63_, ne64_, ne65_, ne66_, ne67_, ne68_, ne69_, ne70_, ne71_, ne72_, ne73_, ne74_, ne75_, ne76_, ne77_, ne78_, ne79_, ne80_, ne81_, ne82_, ne83_, ne84_, ne85_, ne86_, ne87_, ne88_, ne89_, ne90_, ne91_, ne92_, ne93_, ne94_, ne95_, ne96_, ne97_, ne98_, hrl, hil, c6];exact .r _))|(apply W_draw (id := 10) [0,1,0,0,12,28,60,124,255,511,1023] rfl rfl; (· simp; exact .r _); (· simp [h1, h2, h4, h8, h10, h11, hb0, hb1, hb2, hn, hT, ne57_, ne58_, ne59_, ne60_, ne61_, ne62_, ne63_, ne64_, ne65_, ne66_, ne67_, ne68_, ne69_, ne70_, ne71_, ne72_, ne73_, ne74_, ne75_, ne76_, ne77_, ne78_, ne79_, ne80_, ne81_, ne82_, ne83_, ne84_, ne85_, ne86_, ne87_, ne88_, ne89_, ne90_, ne91_, ne92_, ne93_, ne94_, ne95_, ne96_, ne97_, ne98_, hrl, hil, c6]; exact .r _); (· first|trivial|simp))
        refine ⟨_, ?_, 0 + 1, σ.n + 4, 0, σ.n + 6, 0, rfl, rfl, ?_, ?_, ?_, ?_, ?_, ?_, by omega, ?_, ?_, ?_, ?_, (.inr ⟨by (simp [h1, h2, h4, h8, h10, h11, hb0, hb1, hb2, hn, hT, ne57_, ne58_, ne59_, ne60_, ne61_, ne62_, ne63_, ne64_, ne65_, ne66_, ne67_, ne68_, ne69_, ne70_, ne71_, ne72_, ne73_, ne74_, ne75_, ne76_, ne77_, ne78_, ne79_, ne80_, ne81_, ne82_, ne83_, ne84_, ne85_, ne86_, ne87_, ne88_, ne89_, ne90_, ne91_, ne92_, ne93_, ne94_, ne95_, ne96_, ne97_, ne98_]; rw [rowsE_take _ _ hil]; simp [rowsE]), by (simp [h1, h2, h4, h8, h10, h11, hb0, hb1, hb2, hn, hT, ne57_, ne58_, ne59_, ne60_, ne61_, ne62_, ne63_, ne64_, ne65_, ne66_, ne67_, ne68_, ne69_, ne70_, ne71_, ne72_, ne73_, ne74_, ne75_, ne76_, ne77_, ne78_, ne79_, ne80_, ne81_, ne82_, ne83_, ne84_, ne85_, ne86_, ne87_, ne88_, ne89_, ne90_, ne91_, ne92_, ne93_, ne94_, ne95_, ne96_, ne97_, ne98_]; rw [rowsE_take _ _ hit, hti]; simp [rowsE]), by omega, by (simp), by omega, by (simp), by omega⟩), heq⟩
        all_goals first|assumption|(simp [h1, h2, h4, h8, h10, h11, hb0, hb1, hb2, hn, hT, ne57_, ne58_, ne59_, ne60_, ne61_, ne62_, ne63_, ne64_, ne65_, ne66_, ne67_, ne68_, ne69_, ne70_, ne71_, ne72_, ne73_, ne74_, ne75_, ne76_, ne77_, ne78_, ne79_, ne80_, ne81_, ne82_, ne83_, ne84_, ne85_, ne86_, ne87_, ne88_, ne89_, ne90_, ne91_, ne92_, ne93_, ne94_, ne95_, ne96_, ne97_, ne98_];done)|(simp [h1, h2, h4, h8, h10, h11, hb0, hb1, hb2, hn, hT, ne57_, ne58_, ne59_, ne60_, ne61_, ne62_, ne63_, ne64_, ne65_, ne66_, ne67_, ne68_, ne69_, ne70_, ne71_, ne72_, ne73_, ne74_, ne75_, ne76_, ne77_, ne78_, ne79_, ne80_, ne81_, ne82_, ne83_, ne84_, ne85_, ne86_, ne87_, ne88_, ne89_, ne90_, ne91_, ne92_, ne93_, ne94_, ne95_, ne96_, ne97_, ne98_];omega)|(simp [h1, h2, h4, h8, h10, h11, hb0, hb1, hb2, hn, hT, ne57_, ne58_, ne59_, ne60_, ne61_, ne62_, ne63_, ne64_, ne65_, ne66_, ne67_, ne68_, ne69_, ne70_, ne71_, ne72_, ne73_, ne74_, ne75_, ne76_, ne77_, ne78_, ne79_, ne80_, ne81_, ne82_, ne83_, ne84_, ne85_, ne86_, ne87_, ne88_, ne89_, ne90_, ne91_, ne92_, ne93_, ne94_, ne95_, ne96_, ne97_, ne98_];exact wrap_succ (by omega))|omega
      · obtain ⟨hV1, hT1, hT2, hT3, hV2, hV3, hVT⟩ := hT.resolve_left (by omega)
        have hgV := gc_pos (o := oV) (show i ≠ 0 by omega)
        have hgT := gc_pos (o := oT) (show i ≠ 0 by omega)
        have hVT' : ¬ oT = oV := fun e => hVT e.symm
        have ne99_ : ¬ (oT = 0) := by omega
        have ne100_ : ¬ (0 = oT) := by omega
        have ne101_ : ¬ (oT = 1) := by omega
        have ne102_ : ¬ (1 = oT) := by omega
        have ne103_ : ¬ (oT = 2) := by omega
        have ne104_ : ¬ (2 = oT) := by omega
        have ne105_ : ¬ (oT = σ.n) := by omega
        have ne106_ : ¬ (σ.n = oT) := by omega
        have ne107_ : ¬ (oT = σ.n + 1) := by omega
        have ne108_ : ¬ (σ.n + 1 = oT) := by omega
        have ne109_ : ¬ (oT = σ.n + 2) := by omega
        have ne110_ : ¬ (σ.n + 2 = oT) := by omega
        have ne111_ : ¬ (oT = σ.n + 3) := by omega
        have ne112_ : ¬ (σ.n + 3 = oT) := by omega
        have ne113_ : ¬ (oT = σ.n + 4) := by omega
        have ne114_ : ¬ (σ.n + 4 = oT) := by omega
        have ne115_ : ¬ (oT = σ.n + 5) := by omega
        have ne116_ : ¬ (σ.n + 5 = oT) := by omega
        have ne117_ : ¬ (oT = σ.n + 6) := by omega
        have ne118_ : ¬ (σ.n + 6 = oT) := by omega
        have ne119_ : ¬ (oV = 0) := by omega
        have ne120_ : ¬ (0 = oV) := by omega
        have ne121_ : ¬ (oV = 1) := by omega
        have ne122_ : ¬ (1 = oV) := by omega
        have ne123_ : ¬ (oV = 2) := by omega
        have ne124_ : ¬ (2 = oV) := by omega
        have ne125_ : ¬ (oV = σ.n) := by omega
        have ne126_ : ¬ (σ.n = oV) := by omega
        have ne127_ : ¬ (oV = σ.n + 1) := by omega
        have ne128_ : ¬ (σ.n + 1 = oV) := by omega
        have ne129_ : ¬ (oV = σ.n + 2) := by omega
        have ne130_ : ¬ (σ.n + 2 = oV) := by omega
        have ne131_ : ¬ (oV = σ.n + 3) := by omega
        have ne132_ : ¬ (σ.n + 3 = oV) := by omega
        have ne133_ : ¬ (oV = σ.n + 4) := by omega
        have ne134_ : ¬ (σ.n + 4 = oV) := by omega
        have ne135_ : ¬ (oV = σ.n + 5) := by omega
        have ne136_ : ¬ (σ.n + 5 = oV) := by omega
        have ne137_ : ¬ (oV = σ.n + 6) := by omega
        have ne138_ : ¬ (σ.n + 6 = oV) := by omega
        repeat' first|refine W_seq ?_|refine W_block ?_|refine W_skip ?_|refine W_ret ?_|refine W_exit ?_|refine xb_hit ?_|refine xb_miss (by decide) ?_|(apply W_reg;(simp [h1, h2, h4, h8, h10, h11, hb0, hb1, hb2, hn, hT, ne57_, ne58_, ne59_, ne60_, ne61_, ne62_, ne63_, ne64_, ne65_, ne66_, ne67_, ne68_, ne69_, ne70_, ne71_, ne72_, ne73_, ne74_, ne75_, ne76_, ne77_, ne78_, ne79_, ne80_, ne81_, ne82_, ne83_, ne84_, ne85_, ne86_, ne87_, ne88_, ne89_, ne90_, ne91_, ne92_, ne93_, ne94_, ne95_, ne96_, ne97_, ne98_, ne99_, ne100_, ne101_, ne102_, ne103_, ne104_, ne105_, ne106_, ne107_, ne108_, ne109_, ne110_, ne111_, ne112_, ne113_, ne114_, ne115_, ne116_, ne117_, ne118_, ne119_, ne120_, ne121_, ne122_, ne123_, ne124_, ne125_, ne126_, ne127_, ne128_, ne129_, ne130_, ne131_, ne132_, ne133_, ne134_, ne135_, ne136_, ne137_, ne138_, hrl, hil, c6, hT1, hV1, hgV, hgT, hbt, hVT, hVT', show min i vs.length = i by omega, show min i (tabs c vs db).length = i by omega];exact .r _))|(apply W_draw (id := 10) [0,1,0,0,12,28,60,124,255,511,1023] rfl rfl; (· simp; exact .r _); (· simp [h1, h2, h4, h8, h10, h11, hb0, hb1, hb2, hn, hT, ne57_, ne58_, ne59_, ne60_, ne61_, ne62_, ne63_, ne64_, ne65_, ne66_, ne67_, ne68_, ne69_, ne70_, ne71_, ne72_, ne73_, ne74_, ne75_, ne76_, ne77_, ne78_, ne79_, ne80_, ne81_, ne82_, ne83_, ne84_, ne85_, ne86_, ne87_, ne88_, ne89_, ne90_, ne91_, ne92_, ne93_, ne94_, ne95_, ne96_, ne97_, ne98_, ne99_, ne100_, ne101_, ne102_, ne103_, ne104_, ne105_, ne106_, ne107_, ne108_, ne109_, ne110_, ne111_, ne112_, ne113_, ne114_, ne115_, ne116_, ne117_, ne118_, ne119_, ne120_, ne121_, ne122_, ne123_, ne124_, ne125_, ne126_, ne127_, ne128_, ne129_, ne130_, ne131_, ne132_, ne133_, ne134_, ne135_, ne136_, ne137_, ne138_, hrl, hil, c6, hT1, hV1, hgV, hgT, hbt, hVT, hVT', show min i vs.length = i by omega, show min i (tabs c vs db).length = i by omega]; exact .r _); (· first|trivial|simp))
        refine ⟨_, ?_, i + 1, oV, sV, oT, st, rfl, rfl, ?_, ?_, ?_, ?_, ?_, ?_, by omega, ?_, ?_, ?_, ?_, (.inr ⟨by (simp [h1, h2, h4, h8, h10, h11, hb0, hb1, hb2, hn, hT, ne57_, ne58_, ne59_, ne60_, ne61_, ne62_, ne63_, ne64_, ne65_, ne66_, ne67_, ne68_, ne69_, ne70_, ne71_, ne72_, ne73_, ne74_, ne75_, ne76_, ne77_, ne78_, ne79_, ne80_, ne81_, ne82_, ne83_, ne84_, ne85_, ne86_, ne87_, ne88_, ne89_, ne90_, ne91_, ne92_, ne93_, ne94_, ne95_, ne96_, ne97_, ne98_, ne99_, ne100_, ne101_, ne102_, ne103_, ne104_, ne105_, ne106_, ne107_, ne108_, ne109_, ne110_, ne111_, ne112_, ne113_, ne114_, ne115_, ne116_, ne117_, ne118_, ne119_, ne120_, ne121_, ne122_, ne123_, ne124_, ne125_, ne126_, ne127_, ne128_, ne129_, ne130_, ne131_, ne132_, ne133_, ne134_, ne135_, ne136_, ne137_, ne138_, hVT, hVT']; rw [rowsE_take _ _ hil]; simp [rowsE]), by (simp [h1, h2, h4, h8, h10, h11, hb0, hb1, hb2, hn, hT, ne57_, ne58_, ne59_, ne60_, ne61_, ne62_, ne63_, ne64_, ne65_, ne66_, ne67_, ne68_, ne69_, ne70_, ne71_, ne72_, ne73_, ne74_, ne75_, ne76_, ne77_, ne78_, ne79_, ne80_, ne81_, ne82_, ne83_, ne84_, ne85_, ne86_, ne87_, ne88_, ne89_, ne90_, ne91_, ne92_, ne93_, ne94_, ne95_, ne96_, ne97_, ne98_, ne99_, ne100_, ne101_, ne102_, ne103_, ne104_, ne105_, ne106_, ne107_, ne108_, ne109_, ne110_, ne111_, ne112_, ne113_, ne114_, ne115_, ne116_, ne117_, ne118_, ne119_, ne120_, ne121_, ne122_, ne123_, ne124_, ne125_, ne126_, ne127_, ne128_, ne129_, ne130_, ne131_, ne132_, ne133_, ne134_, ne135_, ne136_, ne137_, ne138_, hVT, hVT']; rw [rowsE_take _ _ hit, hti]; simp [rowsE]), hT2, by (simp; omega), hV2, by (simp; omega), hVT⟩), heq⟩
        all_goals first|assumption|(simp [h1, h2, h4, h8, h10, h11, hb0, hb1, hb2, hn, hT, ne57_, ne58_, ne59_, ne60_, ne61_, ne62_, ne63_, ne64_, ne65_, ne66_, ne67_, ne68_, ne69_, ne70_, ne71_, ne72_, ne73_, ne74_, ne75_, ne76_, ne77_, ne78_, ne79_, ne80_, ne81_, ne82_, ne83_, ne84_, ne85_, ne86_, ne87_, ne88_, ne89_, ne90_, ne91_, ne92_, ne93_, ne94_, ne95_, ne96_, ne97_, ne98_, ne99_, ne100_, ne101_, ne102_, ne103_, ne104_, ne105_, ne106_, ne107_, ne108_, ne109_, ne110_, ne111_, ne112_, ne113_, ne114_, ne115_, ne116_, ne117_, ne118_, ne119_, ne120_, ne121_, ne122_, ne123_, ne124_, ne125_, ne126_, ne127_, ne128_, ne129_, ne130_, ne131_, ne132_, ne133_, ne134_, ne135_, ne136_, ne137_, ne138_];done)|(simp [h1, h2, h4, h8, h10, h11, hb0, hb1, hb2, hn, hT, ne57_, ne58_, ne59_, ne60_, ne61_, ne62_, ne63_, ne64_, ne65_, ne66_, ne67_, ne68_, ne69_, ne70_, ne71_, ne72_, ne73_, ne74_, ne75_, ne76_, ne77_, ne78_, ne79_, ne80_, ne81_, ne82_, ne83_, ne84_, ne85_, ne86_, ne87_, ne88_, ne89_, ne90_, ne91_, ne92_, ne93_, ne94_, ne95_, ne96_, ne97_, ne98_, ne99_, ne100_, ne101_, ne102_, ne103_, ne104_, ne105_, ne106_, ne107_, ne108_, ne109_, ne110_, ne111_, ne112_, ne113_, ne114_, ne115_, ne116_, ne117_, ne118_, ne119_, ne120_, ne121_, ne122_, ne123_, ne124_, ne125_, ne126_, ne127_, ne128_, ne129_, ne130_, ne131_, ne132_, ne133_, ne134_, ne135_, ne136_, ne137_, ne138_];omega)|(simp [h1, h2, h4, h8, h10, h11, hb0, hb1, hb2, hn, hT, ne57_, ne58_, ne59_, ne60_, ne61_, ne62_, ne63_, ne64_, ne65_, ne66_, ne67_, ne68_, ne69_, ne70_, ne71_, ne72_, ne73_, ne74_, ne75_, ne76_, ne77_, ne78_, ne79_, ne80_, ne81_, ne82_, ne83_, ne84_, ne85_, ne86_, ne87_, ne88_, ne89_, ne90_, ne91_, ne92_, ne93_, ne94_, ne95_, ne96_, ne97_, ne98_, ne99_, ne100_, ne101_, ne102_, ne103_, ne104_, ne105_, ne106_, ne107_, ne108_, ne109_, ne110_, ne111_, ne112_, ne113_, ne114_, ne115_, ne116_, ne117_, ne118_, ne119_, ne120_, ne121_, ne122_, ne123_, ne124_, ne125_, ne126_, ne127_, ne128_, ne129_, ne130_, ne131_, ne132_, ne133_, ne134_, ne135_, ne136_, ne137_, ne138_];exact wrap_succ (by omega))|omega
  · have hil : i = vs.length := by simp at hc; omega
    subst hil
    rw [← htl, List.drop_length, fewT_nil] at heq
    have hne : vs.length ≠ 0 := by have := areVs_mem e1; omega
    obtain ⟨hV1, hT1, hT2, hT3, hV2, hV3, hVT⟩ := hT.resolve_left hne
    rw [← htl, List.take_length] at hT1
    rw [List.take_length] at hV1
    have hgV := gc_pos (o := oV) hne
    have hgT := gc_pos (o := oT) hne
    have hVT' : ¬ oT = oV := fun e => hVT e.symm
    have ne139_ : ¬ (oT = 0) := by omega
    have ne140_ : ¬ (0 = oT) := by omega
    have ne141_ : ¬ (oT = 1) := by omega
    have ne142_ : ¬ (1 = oT) := by omega
    have ne143_ : ¬ (oT = 2) := by omega
    have ne144_ : ¬ (2 = oT) := by omega
    have ne145_ : ¬ (oV = 0) := by omega
    have ne146_ : ¬ (0 = oV) := by omega
    have ne147_ : ¬ (oV = 1) := by omega
    have ne148_ : ¬ (1 = oV) := by omega
    have ne149_ : ¬ (oV = 2) := by omega
    have ne150_ : ¬ (2 = oV) := by omega
    repeat' first|refine W_seq ?_|refine W_block ?_|refine W_skip ?_|refine W_ret ?_|refine W_exit ?_|refine xb_hit ?_|refine xb_miss (by decide) ?_|(apply W_reg;(simp [h1, h2, h4, h8, h10, h11, hb0, hb1, hb2, hn, hT, ne57_, ne58_, ne59_, ne60_, ne61_, ne62_, ne63_, ne64_, ne65_, ne66_, ne67_, ne68_, ne69_, ne70_, ne71_, ne72_, ne73_, ne74_, ne75_, ne76_, ne77_, ne78_, ne79_, ne80_, ne81_, ne82_, ne83_, ne84_, ne85_, ne86_, ne87_, ne88_, ne89_, ne90_, ne91_, ne92_, ne93_, ne94_, ne95_, ne96_, ne97_, ne98_, ne139_, ne140_, ne141_, ne142_, ne143_, ne144_, ne145_, ne146_, ne147_, ne148_, ne149_, ne150_, hgV, hgT];exact .r _))
    simp [xBuild, okB, e1, e2, e3, heq, h8, hgV, hgT, hV1, hT1, htl, hVT, hVT', h1, h2, h4, h8, h10, h11, hb0, hb1, hb2, hn, hT, ne57_, ne58_, ne59_, ne60_, ne61_, ne62_, ne63_, ne64_, ne65_, ne66_, ne67_, ne68_, ne69_, ne70_, ne71_, ne72_, ne73_, ne74_, ne75_, ne76_, ne77_, ne78_, ne79_, ne80_, ne81_, ne82_, ne83_, ne84_, ne85_, ne86_, ne87_, ne88_, ne89_, ne90_, ne91_, ne92_, ne93_, ne94_, ne95_, ne96_, ne97_, ne98_, ne139_, ne140_, ne141_, ne142_, ne143_, ne144_, ne145_, ne146_, ne147_, ne148_, ne149_, ne150_]
end Go.Proofs.YtmfifjbbjjdacaaGreat.V

