/- Several texts in one: what the claim needs of them. Conditions: each declaration's own. -/
import Derived.Test.YtmfifjbbjjdacaaGreatZFrsM8
import Derived.Test.YtmfifjbbjjdacaaGreatZFrsM6
namespace Go.Proofs.YtmfifjbbjjdacaaGreat.V
open Go Go.Proofs
set_option linter.unusedVariables false
set_option linter.unusedSimpArgs false
def tabs (c : Sch) (vs : List Qry) (db : List RA) : List (List Row) := vs.map fun v => ansC c v db
def fewT (ts : List (List Row)) : Bool := ts.all fun t => decide (t.length ≤ 90)
theorem fewT_cons {t : List Row} {ts : List (List Row)} : fewT (t :: ts) = (decide (t.length ≤ 90) && fewT ts) := rfl
theorem fewT_nil : fewT [] = true := rfl
def okB (c : Sch) (vs : List Qry) (db : List RA) (ver : Int) : Bool := areVs c vs && isDb c db && inR ver 0 1000 && fewT (tabs c vs db)
abbrev xvC (vs : List Qry) (ts : List (List Row)) (ver : Int) : XV := .agg [.own 2 (rowsE vs), .own 1 (rowsE ts), .t (.i .i64 ver) false]
abbrev xvC0 : XV := .agg [.t (.sl []) false, .t (.sl []) false, .t (.i .i64 0) false]
def xBuild (c : Sch) (vs : List Qry) (db : List RA) (ver : Int) : XV := if okB c vs db ver then .tup [xvC vs (tabs c vs db) ver, .t (.b true) false] else .tup [xvC0, .t (.b false) false]
theorem implBuild_r (c : Sch) (vs : List Qry) (db : List RA) (ver : Int) (sc : Sm c.arity) (sv : Sm vs) (sq : ∀ q ∈ vs, SmQ q) (sd : Sm db) (sda : ∀ a ∈ db, Sm a.args) : Ret XX 85 [Ag c, Ar vs, Ar db, In ver] (xBuild c vs db ver) := by
  refine ret_W rfl Tryz.func85 rfl rfl (by simp [Tryz.f85]) ?_
  simp only [Tryz.f85]
  have c1 := cv (implAreVs_r c vs sc sv sq)
  have c2 := cv (implIsDb_r c db sc sd sda)
  have c3 := cv (within_r ver 0 1000)
  have c4 := cv (copyQueries_r vs sv sq)
  simp only [Ag, cells_Sch, cells_Q, List.map_cons, List.map_nil] at c1 c2
  cases e1 : areVs c vs
  · repeat' first|refine W_seq ?_|refine W_block ?_|refine W_skip ?_|refine W_ret ?_|refine W_exit ?_|refine xb_hit ?_|refine xb_miss (by decide) ?_|(apply W_reg;(simp [Ag, c1, e1];exact .r _))
    refine W_cond (by simp; exact .r _) (fun hc => ?_) (fun hc => ?_)
    · repeat' first|refine W_seq ?_|refine W_block ?_|refine W_skip ?_|refine W_ret ?_|refine W_exit ?_|refine xb_hit ?_|refine xb_miss (by decide) ?_|(apply W_reg;(simp;exact .r _))
      simp [xBuild, okB, e1]
    · cases hc
  cases e2 : isDb c db
  · repeat' first|refine W_seq ?_|refine W_block ?_|refine W_skip ?_|refine W_ret ?_|refine W_exit ?_|refine xb_hit ?_|refine xb_miss (by decide) ?_|(apply W_reg;(simp [Ag, c1, e1, c2, e2];exact .r _))
    refine W_cond (by simp; exact .r _) (fun hc => ?_) (fun hc => ?_)
    · repeat' first|refine W_seq ?_|refine W_block ?_|refine W_skip ?_|refine W_ret ?_|refine W_exit ?_|refine xb_hit ?_|refine xb_miss (by decide) ?_|(apply W_reg;(simp;exact .r _))
      simp [xBuild, okB, e2]
    · cases hc
  cases e3 : inR ver 0 1000
  · repeat' first|refine W_seq ?_|refine W_block ?_|refine W_skip ?_|refine W_ret ?_|refine W_exit ?_|refine xb_hit ?_|refine xb_miss (by decide) ?_|(apply W_reg;(simp [Ag, c1, e1, c2, e2, c3, e3];exact .r _))
    refine W_cond (by simp; exact .r _) (fun hc => ?_) (fun hc => ?_)
    · repeat' first|refine W_seq ?_|refine W_block ?_|refine W_skip ?_|refine W_ret ?_|refine W_exit ?_|refine xb_hit ?_|refine xb_miss (by decide) ?_|(apply W_reg;(simp;exact .r _))
      simp [xBuild, okB, e3]
    · cases hc
  repeat' first|refine W_seq ?_|refine W_block ?_|refine W_skip ?_|refine W_ret ?_|refine W_exit ?_|refine xb_hit ?_|refine xb_miss (by decide) ?_|(apply W_reg;(simp [Ag, c1, e1, c2, e2, c3, e3];exact .r _))
  refine W_cond (by simp; exact .r _) (fun hc => ?_) (fun hc => ?_)
  · cases hc
  repeat' first|refine W_seq ?_|refine W_block ?_|refine W_skip ?_|refine W_ret ?_|refine W_exit ?_|refine xb_hit ?_|refine xb_miss (by decide) ?_|(apply W_reg;(simp [c4];exact .r _))
  have htl : (tabs c vs db).length = vs.length := by simp [tabs]
  refine W_loop (n := vs.length) (fun n s => ∃ i : Nat, ∃ oT : Nat, ∃ st : Nat, n = vs.length - i ∧ s.nt = 56 ∧ s.tm 2 = Ar db ∧ s.tm 4 = .ptr 0 0 ∧ s.tm 8 = .ptr 1 0 ∧ s.tm 10 = .ptr 3 0 ∧ s.tm 34 = Ar vs ∧ s.tm 35 = In vs.length ∧ s.tm 36 = In i ∧ i ≤ vs.length ∧ s.σ.ob 0 = .box [Ar c.arity] ∧ s.σ.ob 1 = .box [.t .nl, .t .nl, In 0] ∧ s.σ.ob 2 = .arr (.own 0) 0 2 (rowsE vs) ∧ s.σ.ob 3 = .box [.ref 2 vs.length [], gc oT i, In ver] ∧ 4 ≤ s.σ.n ∧ (i = 0 ∨ (s.σ.ob oT = .arr (.own 0) st 1 (rowsE ((tabs c vs db).take i)) ∧ 4 ≤ oT ∧ oT < s.σ.n)) ∧ fewT (tabs c vs db) = fewT ((tabs c vs db).drop i)) ⟨0, 0, 0, by simp⟩ ?_
  rintro n ⟨nt, tm, σ⟩ ⟨i, oT, st, rfl, hnt, h2, h4, h8, h10, h34, h35, h36, hi, hb0, hb1, hb2, hb3, hn, hT, heq⟩
  simp only at hnt h2 h4 h8 h10 h34 h35 h36 hb0 hb1 hb2 hb3 hn hT
  subst hnt
  have ne1_ : ¬ (0 = σ.n) := by omega
  have ne2_ : ¬ (σ.n = 0) := by omega
  have ne3_ : ¬ (0 = σ.n + 1) := by omega
  have ne4_ : ¬ (σ.n + 1 = 0) := by omega
  have ne5_ : ¬ (0 = σ.n + 2) := by omega
  have ne6_ : ¬ (σ.n + 2 = 0) := by omega
  have ne7_ : ¬ (0 = σ.n + 3) := by omega
  have ne8_ : ¬ (σ.n + 3 = 0) := by omega
  have ne9_ : ¬ (1 = σ.n) := by omega
  have ne10_ : ¬ (σ.n = 1) := by omega
  have ne11_ : ¬ (1 = σ.n + 1) := by omega
  have ne12_ : ¬ (σ.n + 1 = 1) := by omega
  have ne13_ : ¬ (1 = σ.n + 2) := by omega
  have ne14_ : ¬ (σ.n + 2 = 1) := by omega
  have ne15_ : ¬ (1 = σ.n + 3) := by omega
  have ne16_ : ¬ (σ.n + 3 = 1) := by omega
  have ne17_ : ¬ (2 = σ.n) := by omega
  have ne18_ : ¬ (σ.n = 2) := by omega
  have ne19_ : ¬ (2 = σ.n + 1) := by omega
  have ne20_ : ¬ (σ.n + 1 = 2) := by omega
  have ne21_ : ¬ (2 = σ.n + 2) := by omega
  have ne22_ : ¬ (σ.n + 2 = 2) := by omega
  have ne23_ : ¬ (2 = σ.n + 3) := by omega
  have ne24_ : ¬ (σ.n + 3 = 2) := by omega
  have ne25_ : ¬ (3 = σ.n) := by omega
  have ne26_ : ¬ (σ.n = 3) := by omega
  have ne27_ : ¬ (3 = σ.n + 1) := by omega
  have ne28_ : ¬ (σ.n + 1 = 3) := by omega
  have ne29_ : ¬ (3 = σ.n + 2) := by omega
  have ne30_ : ¬ (σ.n + 2 = 3) := by omega
  have ne31_ : ¬ (3 = σ.n + 3) := by omega
  have ne32_ : ¬ (σ.n + 3 = 3) := by omega
  repeat' first|refine W_seq ?_|refine W_block ?_|refine W_skip ?_|refine W_ret ?_|refine W_exit ?_|refine xb_hit ?_|refine xb_miss (by decide) ?_|(apply W_reg;(simp [h2, h4, h8, h10, h34, h35, h36, hb0, hb1, hb2, hb3, hn, hT, ne1_, ne2_, ne3_, ne4_, ne5_, ne6_, ne7_, ne8_, ne9_, ne10_, ne11_, ne12_, ne13_, ne14_, ne15_, ne16_, ne17_, ne18_, ne19_, ne20_, ne21_, ne22_, ne23_, ne24_, ne25_, ne26_, ne27_, ne28_, ne29_, ne30_, ne31_, ne32_];exact .r _))
  refine W_cond (by simp [h2, h4, h8, h10, h34, h35, h36, hb0, hb1, hb2, hb3, hn, hT, ne1_, ne2_, ne3_, ne4_, ne5_, ne6_, ne7_, ne8_, ne9_, ne10_, ne11_, ne12_, ne13_, ne14_, ne15_, ne16_, ne17_, ne18_, ne19_, ne20_, ne21_, ne22_, ne23_, ne24_, ne25_, ne26_, ne27_, ne28_, ne29_, ne30_, ne31_, ne32_]; exact .r _) (fun hc => ?_) (fun hc => ?_)
  · have hil : i < vs.length := by simpa using hc
    have hit : i < (tabs c vs db).length := by omega
    have hq := sq _ (List.getElem_mem hil)
    have c5 := cv (implAns_r c vs[i] db sc hq.1 hq.2.1 hq.2.2 sd sda)
    simp only [Ag, cells_Sch, cells_Q, List.map_cons, List.map_nil] at c5
    have hti : (tabs c vs db)[i] = ansC c vs[i] db := by simp [tabs]
    have hrl : (rowsE (ansC c vs[i] db)).length = (ansC c vs[i] db).length := rowsE_len ..
    rw [List.drop_eq_getElem_cons hit, fewT_cons, hti] at heq
    repeat' first|refine W_seq ?_|refine W_block ?_|refine W_skip ?_|refine W_ret ?_|refine W_exit ?_|refine xb_hit ?_|refine xb_miss (by decide) ?_|(apply W_reg;(simp [h2, h4, h8, h10, h34, h35, h36, hb0, hb1, hb2, hb3, hn, hT, ne1_, ne2_, ne3_, ne4_, ne5_, ne6_, ne7_, ne8_, ne9_, ne10_, ne11_, ne12_, ne13_, ne14_, ne15_, ne16_, ne17_, ne18_, ne19_, ne20_, ne21_, ne22_, ne23_, ne24_, ne25_, ne26_, ne27_, ne28_, ne29_, ne30_, ne31_, ne32_, hil, c5, hrl];exact .r _))
    refine W_cond (by simp [h2, h4, h8, h10, h34, h35, h36, hb0, hb1, hb2, hb3, hn, hT, ne1_, ne2_, ne3_, ne4_, ne5_, ne6_, ne7_, ne8_, ne9_, ne10_, ne11_, ne12_, ne13_, ne14_, ne15_, ne16_, ne17_, ne18_, ne19_, ne20_, ne21_, ne22_, ne23_, ne24_, ne25_, ne26_, ne27_, ne28_, ne29_, ne30_, ne31_, ne32_]; exact .r _) (fun hd => ?_) (fun hd => ?_)
    · have hd' : 90 < (ansC c vs[i] db).length := by simp at hd; omega
      have hf : decide ((ansC c vs[i] db).length ≤ 90) = false := decide_eq_false (by omega)
      repeat' first|refine W_seq ?_|refine W_block ?_|refine W_skip ?_|refine W_ret ?_|refine W_exit ?_|refine xb_hit ?_|refine xb_miss (by decide) ?_|(apply W_reg;(simp [h2, h4, h8, h10, h34, h35, h36, hb0, hb1, hb2, hb3, hn, hT, ne1_, ne2_, ne3_, ne4_, ne5_, ne6_, ne7_, ne8_, ne9_, ne10_, ne11_, ne12_, ne13_, ne14_, ne15_, ne16_, ne17_, ne18_, ne19_, ne20_, ne21_, ne22_, ne23_, ne24_, ne25_, ne26_, ne27_, ne28_, ne29_, ne30_, ne31_, ne32_];exact .r _))
      simp [xBuild, okB, heq, hf, h8]
    · have hd' : (ansC c vs[i] db).length ≤ 90 := by simp at hd; omega
      have hf : decide ((ansC c vs[i] db).length ≤ 90) = true := decide_eq_true hd'
      rw [hf, Bool.true_and] at heq
      have hbt : i + 1 < 1099511627776 := by unfold Sm at sv; omega
      cases i with
      | zero =>
        repeat' first|refine W_seq ?_|refine W_block ?_|refine W_skip ?_|refine W_ret ?_|refine W_exit ?_|refine xb_hit ?_|refine xb_miss (by decide) ?_|(apply W_reg;(simp [h2, h4, h8, h10, h34, h35, h36, hb0, hb1, hb2, hb3, hn, hT, ne1_, ne2_, ne3_, ne4_, ne5_, ne6_, ne7_, ne8_, ne9_, ne10_, ne11_, ne12_, ne13_, ne14_, ne15_, ne16_, ne17_, ne18_, ne19_, ne20_, ne21_, ne22_, ne23_, ne24_, ne25_, ne26_, ne27_, ne28_, ne29_, ne30_, ne31_, ne32_, hrl];exact .r _))
        refine ⟨_, ?_, 0 + 1, σ.n + 3, 0, rfl, rfl, ?_, ?_, ?_, ?_, ?_, ?_, ?_, by omega, ?_, ?_, ?_, ?_, ?_, (.inr ⟨by (simp [h2, h4, h8, h10, h34, h35, h36, hb0, hb1, hb2, hb3, hn, hT, ne1_, ne2_, ne3_, ne4_, ne5_, ne6_, ne7_, ne8_, ne9_, ne10_, ne11_, ne12_, ne13_, ne14_, ne15_, ne16_, ne17_, ne18_, ne19_, ne20_, ne21_, ne22_, ne23_, ne24_, ne25_, ne26_, ne27_, ne28_, ne29_, ne30_, ne31_, ne32_]; rw [rowsE_take _ _ hit, hti]; simp [rowsE]), by omega, by (simp)⟩), heq⟩
        all_goals first|assumption|(simp [h2, h4, h8, h10, h34, h35, h36, hb0, hb1, hb2, hb3, hn, hT, ne1_, ne2_, ne3_, ne4_, ne5_, ne6_, ne7_, ne8_, ne9_, ne10_, ne11_, ne12_, ne13_, ne14_, ne15_, ne16_, ne17_, ne18_, ne19_, ne20_, ne21_, ne22_, ne23_, ne24_, ne25_, ne26_, ne27_, ne28_, ne29_, ne30_, ne31_, ne32_];done)|(simp [h2, h4, h8, h10, h34, h35, h36, hb0, hb1, hb2, hb3, hn, hT, ne1_, ne2_, ne3_, ne4_, ne5_, ne6_, ne7_, ne8_, ne9_, ne10_, ne11_, ne12_, ne13_, ne14_, ne15_, ne16_, ne17_, ne18_, ne19_, ne20_, ne21_, ne22_, ne23_, ne24_, ne25_, ne26_, ne27_, ne28_, ne29_, ne30_, ne31_, ne32_];omega)|(simp [h2, h4, h8, h10, h34, h35, h36, hb0, hb1, hb2, hb3, hn, hT, ne1_, ne2_, ne3_, ne4_, ne5_, ne6_, ne7_, ne8_, ne9_, ne10_, ne11_, ne12_, ne13_, ne14_, ne15_, ne16_, ne17_, ne18_, ne19_, ne20_, ne21_, ne22_, ne23_, ne24_, ne25_, ne26_, ne27_, ne28_, ne29_, ne30_, ne31_, ne32_];exact wrap_succ (by omega))|omega
      | succ i =>
        obtain ⟨hT1, hT2, hT3⟩ := hT.resolve_left (by omega)
        have ne33_ : ¬ (oT = 0) := by omega
        have ne34_ : ¬ (0 = oT) := by omega
        have ne35_ : ¬ (oT = 1) := by omega
        have ne36_ : ¬ (1 = oT) := by omega
        have ne37_ : ¬ (oT = 2) := by omega
        have ne38_ : ¬ (2 = oT) := by omega
        have ne39_ : ¬ (oT = 3) := by omega
        have ne40_ : ¬ (3 = oT) := by omega
        have ne41_ : ¬ (oT = σ.n) := by omega
        have ne42_ : ¬ (σ.n = oT) := by omega
        have ne43_ : ¬ (oT = σ.n + 1) := by omega
        have ne44_ : ¬ (σ.n + 1 = oT) := by omega
        have ne45_ : ¬ (oT = σ.n + 2) := by omega
        have ne46_ : ¬ (σ.n + 2 = oT) := by omega
        have ne47_ : ¬ (oT = σ.n + 3) := by omega
        have ne48_ : ¬ (σ.n + 3 = oT) := by omega
        repeat' first|refine W_seq ?_|refine W_block ?_|refine W_skip ?_|refine W_ret ?_|refine W_exit ?_|refine xb_hit ?_|refine xb_miss (by decide) ?_|(apply W_reg;(simp [h2, h4, h8, h10, h34, h35, h36, hb0, hb1, hb2, hb3, hn, hT, ne1_, ne2_, ne3_, ne4_, ne5_, ne6_, ne7_, ne8_, ne9_, ne10_, ne11_, ne12_, ne13_, ne14_, ne15_, ne16_, ne17_, ne18_, ne19_, ne20_, ne21_, ne22_, ne23_, ne24_, ne25_, ne26_, ne27_, ne28_, ne29_, ne30_, ne31_, ne32_, ne33_, ne34_, ne35_, ne36_, ne37_, ne38_, ne39_, ne40_, ne41_, ne42_, ne43_, ne44_, ne45_, ne46_, ne47_, ne48_, hrl, hT1, hbt, show min (i + 1) (tabs c vs db).length = i + 1 by omega];exact .r _))
        refine ⟨_, ?_, i + 1 + 1, oT, st, rfl, rfl, ?_, ?_, ?_, ?_, ?_, ?_, (by simp [h36]; rw [wrap_ok (by omega) (by omega)]; omega), by omega, ?_, ?_, ?_, ?_, ?_, (.inr ⟨by (simp [h2, h4, h8, h10, h34, h35, h36, hb0, hb1, hb2, hb3, hn, hT, ne1_, ne2_, ne3_, ne4_, ne5_, ne6_, ne7_, ne8_, ne9_, ne10_, ne11_, ne12_, ne13_, ne14_, ne15_, ne16_, ne17_, ne18_, ne19_, ne20_, ne21_, ne22_, ne23_, ne24_, ne25_, ne26_, ne27_, ne28_, ne29_, ne30_, ne31_, ne32_, ne33_, ne34_, ne35_, ne36_, ne37_, ne38_, ne39_, ne40_, ne41_, ne42_, ne43_, ne44_, ne45_, ne46_, ne47_, ne48_]; rw [rowsE_take _ _ hit, hti]; simp [rowsE]), hT2, by (simp; omega)⟩), heq⟩
        all_goals first|assumption|(simp [h2, h4, h8, h10, h34, h35, h36, hb0, hb1, hb2, hb3, hn, hT, ne1_, ne2_, ne3_, ne4_, ne5_, ne6_, ne7_, ne8_, ne9_, ne10_, ne11_, ne12_, ne13_, ne14_, ne15_, ne16_, ne17_, ne18_, ne19_, ne20_, ne21_, ne22_, ne23_, ne24_, ne25_, ne26_, ne27_, ne28_, ne29_, ne30_, ne31_, ne32_, ne33_, ne34_, ne35_, ne36_, ne37_, ne38_, ne39_, ne40_, ne41_, ne42_, ne43_, ne44_, ne45_, ne46_, ne47_, ne48_];done)|(simp [h2, h4, h8, h10, h34, h35, h36, hb0, hb1, hb2, hb3, hn, hT, ne1_, ne2_, ne3_, ne4_, ne5_, ne6_, ne7_, ne8_, ne9_, ne10_, ne11_, ne12_, ne13_, ne14_, ne15_, ne16_, ne17_, ne18_, ne19_, ne20_, ne21_, ne22_, ne23_, ne24_, ne25_, ne26_, ne27_, ne28_, ne29_, ne30_, ne31_, ne32_, ne33_, ne34_, ne35_, ne36_, ne37_, ne38_, ne39_, ne40_, ne41_, ne42_, ne43_, ne44_, ne45_, ne46_, ne47_, ne48_];omega)|(simp [h2, h4, h8, h10, h34, h35, h36, hb0, hb1, hb2, hb3, hn, hT, ne1_, ne2_, ne3_, ne4_, ne5_, ne6_, ne7_, ne8_, ne9_, ne10_, ne11_, ne12_, ne13_, ne14_, ne15_, ne16_, ne17_, ne18_, ne19_, ne20_, ne21_, ne22_, ne23_, ne24_, ne25_, ne26_, ne27_, ne28_, ne29_, ne30_, ne31_, ne32_, ne33_, ne34_, ne35_, ne36_, ne37_, ne38_, ne39_, ne40_, ne41_, ne42_, ne43_, ne44_, ne45_, ne46_, ne47_, ne48_];exact wrap_succ (by omega))|omega
  · have hil : i = vs.length := by simp at hc; omega
    subst hil
    rw [← htl, List.drop_length, fewT_nil] at heq
    have hne : vs.length ≠ 0 := by have := areVs_mem e1; omega
    obtain ⟨hT1, hT2, hT3⟩ := hT.resolve_left hne
    rw [← htl, List.take_length] at hT1
    have hgc := gc_pos (o := oT) hne
    have ne49_ : ¬ (oT = 0) := by omega
    have ne50_ : ¬ (0 = oT) := by omega
    have ne51_ : ¬ (oT = 1) := by omega
    have ne52_ : ¬ (1 = oT) := by omega
    have ne53_ : ¬ (oT = 2) := by omega
    have ne54_ : ¬ (2 = oT) := by omega
    have ne55_ : ¬ (oT = 3) := by omega
    have ne56_ : ¬ (3 = oT) := by omega
    repeat' first|refine W_seq ?_|refine W_block ?_|refine W_skip ?_|refine W_ret ?_|refine W_exit ?_|refine xb_hit ?_|refine xb_miss (by decide) ?_|(apply W_reg;(simp [h2, h4, h8, h10, h34, h35, h36, hb0, hb1, hb2, hb3, hn, hT, ne1_, ne2_, ne3_, ne4_, ne5_, ne6_, ne7_, ne8_, ne9_, ne10_, ne11_, ne12_, ne13_, ne14_, ne15_, ne16_, ne17_, ne18_, ne19_, ne20_, ne21_, ne22_, ne23_, ne24_, ne25_, ne26_, ne27_, ne28_, ne29_, ne30_, ne31_, ne32_, ne49_, ne50_, ne51_, ne52_, ne53_, ne54_, ne55_, ne56_, hgc];exact .r _))
    simp [xBuild, okB, e1, e2, e3, heq, h8, hgc, hb2, hT1, htl, h2, h4, h8, h10, h34, h35, h36, hb0, hb1, hb2, hb3, hn, hT, ne1_, ne2_, ne3_, ne4_, ne5_, ne6_, ne7_, ne8_, ne9_, ne10_, ne11_, ne12_, ne13_, ne14_, ne15_, ne16_, ne17_, ne18_, ne19_, ne20_, ne21_, ne22_, ne23_, ne24_, ne25_, ne26_, ne27_, ne28_, ne29_, ne30_, ne31_, ne32_, ne49_, ne50_, ne51_, ne52_, ne53_, ne54_, ne55_, ne56_]
set_option maxRecDepth 10000 in
set_option maxHeartbeats 2000000 in
theorem specBuild_r (c : Sch) (vs : List Qry) (db : List RA) (ver : Int) (hcS : Lw.bd 1048576 c) (hv : Lw.bd 1048576 vs) (hd : Lw.bd 1048576 db) : Ret XX 83 [Ag c, Ar vs, Ar db, In ver] (xBuild c vs db ver) := by
  refine ret_W rfl Tryz.func83 rfl rfl (by simp [Tryz.f83]) ?_
  simp only [Tryz.f83]
  have sc : Sm c.arity := Nat.lt_of_le_of_lt hcS.1 (by omega)
  have sv : Sm vs := Nat.lt_of_le_of_lt hv.1 (by omega)
  have sq : ∀ q ∈ vs, SmQ q := fun q hq => SmQ.of (by omega) (hv.2 q hq)
  have sd : Sm db := Nat.lt_of_le_of_lt hd.1 (by omega)
  have sda : ∀ a ∈ db, Sm a.args := fun a ha => Nat.lt_of_le_of_lt (hd.2 a ha).1 (by omega)
  have c1 := cv (specAreVs_r c vs sc sv sq)
  have c2 := cv (specIsDb_r c db sc sd sda)
  have c3 := cv (l1In_r ver 0 1000)
  simp only [Ag, cells_Sch, cells_Q, List.map_cons, List.map_nil] at c1 c2
  cases e1 : areVs c vs
  · repeat' first|refine W_seq ?_|refine W_block ?_|refine W_skip ?_|refine W_ret ?_|refine W_exit ?_|refine xb_hit ?_|refine xb_miss (by decide) ?_|(apply W_reg;(simp [Ag, c1, e1];exact .r _))
    refine W_cond (by simp; exact .r _) (fun hc => ?_) (fun hc => ?_)
    · repeat' first|refine W_seq ?_|refine W_block ?_|refine W_skip ?_|refine W_ret ?_|refine W_exit ?_|refine xb_hit ?_|refine xb_miss (by decide) ?_|(apply W_reg;(simp;exact .r _))
      simp [xBuild, okB, e1]
    · cases hc
  cases e2 : isDb c db
  · repeat' first|refine W_seq ?_|refine W_block ?_|refine W_skip ?_|refine W_ret ?_|refine W_exit ?_|refine xb_hit ?_|refine xb_miss (by decide) ?_|(apply W_reg;(simp [Ag, c1, e1, c2, e2];exact .r _))
    refine W_cond (by simp; exact .r _) (fun hc => ?_) (fun hc => ?_)
    · repeat' first|refine W_seq ?_|refine W_block ?_|refine W_skip ?_|refine W_ret ?_|refine W_exit ?_|refine xb_hit ?_|refine xb_miss (by decide) ?_|(apply W_reg;(simp;exact .r _))
      simp [xBuild, okB, e2]
    · cases hc
  cases e3 : inR ver 0 1000
  · repeat' first|refine W_seq ?_|refine W_block ?_|refine W_skip ?_|refine W_ret ?_|refine W_exit ?_|refine xb_hit ?_|refine xb_miss (by decide) ?_|(apply W_reg;(simp [Ag, c1, e1, c2, e2, c3, e3];exact .r _))
    refine W_cond (by simp; exact .r _) (fun hc => ?_) (fun hc => ?_)
    · repeat' first|refine W_seq ?_|refine W_block ?_|refine W_skip ?_|refine W_ret ?_|refine W_exit ?_|refine xb_hit ?_|refine xb_miss (by decide) ?_|(apply W_reg;(simp;exact .r _))
      simp [xBuild, okB, e3]
    · cases hc
  repeat' first|refine W_seq ?_|refine W_block ?_|refine W_skip ?_|refine W_ret ?_|refine W_exit ?_|refine xb_hit ?_|refine xb_miss (by decide) ?_|(apply W_reg;(simp [Ag, c1, e1, c2, e2, c3, e3];exact .r _))
  refine W_cond (by simp; exact .r _) (fun hc => ?_) (fun hc => ?_)
  · cases hc
  repeat' first|refine W_seq ?_|refine W_block ?_|refine W_skip ?_|refine W_ret ?_|refine W_exit ?_|refine xb_hit ?_|refine xb_miss (by decide) ?_|(apply W_reg;(simp;exact .r _))
  have htl : (tabs c vs db).length = vs.length := by simp [tabs]
  refine W_loop (n := vs.length) (fun n s => ∃ i : Nat, ∃ oV : Nat, ∃ sV : Nat, ∃ oT : Nat, ∃ st : Nat, n = vs.length - i ∧ s.nt = 65 ∧ s.tm 1 = Ar vs ∧ s.tm 2 = Ar db ∧ s.tm 4 = .ptr 0 0 ∧ s.tm 8 = .ptr 1 0 ∧ s.tm 10 = .ptr 2 0 ∧ s.tm 11 = In i ∧ i ≤ vs.length ∧ s.σ.ob 0 = .box [Ar c.arity] ∧ s.σ.ob 1 = .box [.t .nl, .t .nl, In 0] ∧ s.σ.ob 2 = .box [gc oV i, gc oT i, In ver] ∧ 3 ≤ s.σ.n ∧ (i = 0 ∨ (s.σ.ob oV = .arr (.own 0) sV 2 (rowsE (vs.take i)) ∧ s.σ.ob oT = .arr (.own 0) st 1 (rowsE ((tabs c vs db).take i)) ∧ 3 ≤ oT ∧ oT < s.σ.n ∧ 3 ≤ oV ∧ oV < s.σ.n ∧ ¬ oV = oT)) ∧ fewT (tabs c vs db) = fewT ((tabs c vs db).drop i)) ⟨0, 0, 0, 0, 0, by simp⟩ ?_
  rintro n ⟨nt, tm, σ⟩ ⟨i, oV, sV, oT, st, rfl, hnt, h1, h2, h4, h8, h10, h11, hi, hb0, hb1, hb2, hn, hT, heq⟩
  simp only at hnt h1 h2 h4 h8 h10 h11 hb0 hb1 hb2 hn hT
  subst hnt
  have ne57_ : ¬ (0 = σ.n) := by omega
  have ne58_ : ¬ (σ.n = 0) := by omega
  have ne59_ : ¬ (0 = σ.n + 1) := by omega
  have ne60_ : ¬ (σ.n + 1 = 0) := by omega
  have ne61_ : ¬ (0 = σ.n + 2) := by omega
  have ne62_ : ¬ (σ.n + 2 = 0) := by omega
  have ne63_ : ¬ (0 = σ.n + 3) := by omega
  have ne64_ : ¬ (σ.n + 3 = 0) := by omega
  have ne65_ : ¬ (0 = σ.n + 4) := by omega
  have ne66_ : ¬ (σ.n + 4 = 0) := by omega
  have ne67_ : ¬ (0 = σ.n + 5) := by omega
  have ne68_ : ¬ (σ.n + 5 = 0) := by omega
  have ne69_ : ¬ (0 = σ.n + 6) := by omega
  have ne70_ : ¬ (σ.n + 6 = 0) := by omega
  have ne71_ : ¬ (1 = σ.n) := by omega
  have ne72_ : ¬ (σ.n = 1) := by omega
  have ne73_ : ¬ (1 = σ.n + 1) := by omega
  have ne74_ : ¬ (σ.n + 1 = 1) := by omega
  have ne75_ : ¬ (1 = σ.n + 2) := by omega
  have ne76_ : ¬ (σ.n + 2 = 1) := by omega
  have ne77_ : ¬ (1 = σ.n + 3) := by omega
  have ne78_ : ¬ (σ.n + 3 = 1) := by omega
  have ne79_ : ¬ (1 = σ.n + 4) := by omega
  have ne80_ : ¬ (σ.n + 4 = 1) := by omega
  have ne81_ : ¬ (1 = σ.n + 5) := by omega
  have ne82_ : ¬ (σ.n + 5 = 1) := by omega
  have ne83_ : ¬ (1 = σ.n + 6) := by omega
  have ne84_ : ¬ (σ.n + 6 = 1) := by omega
  have ne85_ : ¬ (2 = σ.n) := by omega
  have ne86_ : ¬ (σ.n = 2) := by omega
  have ne87_ : ¬ (2 = σ.n + 1) := by omega
  have ne88_ : ¬ (σ.n + 1 = 2) := by omega
  have ne89_ : ¬ (2 = σ.n + 2) := by omega
  have ne90_ : ¬ (σ.n + 2 = 2) := by omega
  have ne91_ : ¬ (2 = σ.n + 3) := by omega
  have ne92_ : ¬ (σ.n + 3 = 2) := by omega
  have ne93_ : ¬ (2 = σ.n + 4) := by omega
  have ne94_ : ¬ (σ.n + 4 = 2) := by omega
  have ne95_ : ¬ (2 = σ.n + 5) := by omega
  have ne96_ : ¬ (σ.n + 5 = 2) := by omega
  have ne97_ : ¬ (2 = σ.n + 6) := by omega
  have ne98_ : ¬ (σ.n + 6 = 2) := by omega
  repeat' first|refine W_seq ?_|refine W_block ?_|refine W_skip ?_|refine W_ret ?_|refine W_exit ?_|refine xb_hit ?_|refine xb_miss (by decide) ?_|(apply W_reg;(simp [h1, h2, h4, h8, h10, h11, hb0, hb1, hb2, hn, hT, ne57_, ne58_, ne59_, ne60_, ne61_, ne62_, ne63_, ne64_, ne65_, ne66_, ne67_, ne68_, ne69_, ne70_, ne71_, ne72_, ne73_, ne74_, ne75_, ne76_, ne77_, ne78_, ne79_, ne80_, ne81_, ne82_, ne83_, ne84_, ne85_, ne86_, ne87_, ne88_, ne89_, ne90_, ne91_, ne92_, ne93_, ne94_, ne95_, ne96_, ne97_, ne98_];exact .r _))
  refine W_cond (by simp [h1, h2, h4, h8, h10, h11, hb0, hb1, hb2, hn, hT, ne57_, ne58_, ne59_, ne60_, ne61_, ne62_, ne63_, ne64_, ne65_, ne66_, ne67_, ne68_, ne69_, ne70_, ne71_, ne72_, ne73_, ne74_, ne75_, ne76_, ne77_, ne78_, ne79_, ne80_, ne81_, ne82_, ne83_, ne84_, ne85_, ne86_, ne87_, ne88_, ne89_, ne90_, ne91_, ne92_, ne93_, ne94_, ne95_, ne96_, ne97_, ne98_]; exact .r _) (fun hc => ?_) (fun hc => ?_)
  · have hil : i < vs.length := by simpa using hc
    have hit : i < (tabs c vs db).length := by omega
    have hq := sq _ (List.getElem_mem hil)
    have hqv := (areVs_mem e1).1 _ (List.getElem_mem hil)
    have hbne : vs[i].body ≠ [] := fun e => by
      have := hqv.1
      simp [isQry, inR, e] at this
    have c5 := cv (specAns_r c vs[i] db hcS (hv.2 _ (List.getElem_mem hil)) hd)
    have c6 := cv (l4Copy_r vs[i] hq hbne)
    simp only [Ag, cells_Sch, cells_Q, List.map_cons, List.map_nil] at c5 c6
    have hti : (tabs c vs db)[i] = ansC c vs[i] db := by simp [tabs]
    have hrl : (rowsE (ansC c vs[i] db)).length = (ansC c vs[i] db).length := rowsE_len ..
    rw [List.drop_eq_getElem_cons hit, fewT_cons, hti] at heq
    repeat' first|refine W_seq ?_|refine W_block ?_|refine W_skip ?_|refine W_ret ?_|refine W_exit ?_|refine xb_hit ?_|refine xb_miss (by decide) ?_|(apply W_reg;(simp [h1, h2, h4, h8, h10, h11, hb0, hb1, hb2, hn, hT, ne57_, ne58_, ne59_, ne60_, ne61_, ne62_, ne63_, ne64_, ne65_, ne66_, ne67_, ne68_, ne69_, ne70_, ne71_, ne72_, ne73_, ne74_, ne75_, ne76_, ne77_, ne78_, ne79_, ne80_, ne81_, ne82_, ne83_, ne84_, ne85_, ne86_, ne87_, ne88_, ne89_, ne90_, ne91_, ne92_, ne93_, ne94_, ne95_, ne96_, ne97_, ne98_, hil, c5, hrl];exact .r _))|(apply W_draw (id := 7) [0,0,0,6,14,0,63,127] rfl rfl; (· simp; exact .r _); (· simp [h1, h2, h4, h8, h10, h11, hb0, hb1, hb2, hn, hT, ne57_, ne58_, ne59_, ne60_, ne61_, ne62_, ne63_, ne64_, ne65_, ne66_, ne67_, ne68_, ne69_, ne70_, ne71_, ne72_, ne73_, ne74_, ne75_, ne76_, ne77_, ne78_, ne79_, ne80_, ne81_, ne82_, ne83_, ne84_, ne85_, ne86_, ne87_, ne88_, ne89_, ne90_, ne91_, ne92_, ne93_, ne94_, ne95_, ne96_, ne97_, ne98_, hil, c5, hrl]; exact .r _); (· first|trivial|simp))
    refine W_cond (by simp [h1, h2, h4, h8, h10, h11, hb0, hb1, hb2, hn, hT, ne57_, ne58_, ne59_, ne60_, ne61_, ne62_, ne63_, ne64_, ne65_, ne66_, ne67_, ne68_, ne69_, ne70_, ne71_, ne72_, ne73_, ne74_, ne75_, ne76_, ne77_, ne78_, ne79_, ne80_, ne81_, ne82_, ne83_, ne84_, ne85_, ne86_, ne87_, ne88_, ne89_, ne90_, ne91_, ne92_, ne93_, ne94_, ne95_, ne96_, ne97_, ne98_]; exact .r _) (fun hd => ?_) (fun hd => ?_)
    · have hd' : 90 < (ansC c vs[i] db).length := by simp at hd; omega
      have hf : decide ((ansC c vs[i] db).length ≤ 90) = false := decide_eq_false (by omega)
      repeat' first|refine W_seq ?_|refine W_block ?_|refine W_skip ?_|refine W_ret ?_|refine W_exit ?_|refine xb_hit ?_|refine xb_miss (by decide) ?_|(apply W_reg;(simp [h1, h2, h4, h8, h10, h11, hb0, hb1, hb2, hn, hT, ne57_, ne58_, ne59_, ne60_, ne61_, ne62_, ne63_, ne64_, ne65_, ne66_, ne67_, ne68_, ne69_, ne70_, ne71_, ne72_, ne73_, ne74_, ne75_, ne76_, ne77_, ne78_, ne79_, ne80_, ne81_, ne82_, ne83_, ne84_, ne85_, ne86_, ne87_, ne88_, ne89_, ne90_, ne91_, ne92_, ne93_, ne94_, ne95_, ne96_, ne97_, ne98_];exact .r _))
      simp [xBuild, okB, heq, hf, h8]
    · have hd' : (ansC c vs[i] db).length ≤ 90 := by simp at hd; omega
      have hf : decide ((ansC c vs[i] db).length ≤ 90) = true := decide_eq_true hd'
      rw [hf, Bool.true_and] at heq
      have hbt : i + 1 < 1099511627776 := by unfold Sm at sv; omega
      rcases Nat.eq_zero_or_pos i with h0 | h0
      · subst h0
        repeat' first|refine W_seq ?_|refine W_block ?_|refine W_skip ?_|refine W_ret ?_|refine W_exit ?_|refine xb_hit ?_|refine xb_miss (by decide) ?_|(apply W_reg;(simp [h1, h2, h4, h8, h10, h11, hb0, hb1, hb2, hn, hT, ne57_, ne58_, ne59_, ne60_, ne61_, ne62_, ne63_, ne64_, ne65_, ne66_, ne67_, ne68_, ne69_, ne70_, ne71_, ne72_, ne73_, ne74_, ne75_, ne76_, ne77_, ne78_, ne79_, ne80_, ne81_, ne82_, ne83_, ne84_, ne85_, ne86_, ne87_, ne88_, ne89_, ne90_, ne91_, ne92_, ne93_, ne94_, ne95_, ne96_, ne97_, ne98_, hrl, hil, c6];exact .r _))|(apply W_draw (id := 10) [0,1,0,0,12,28,60,124,255,511,1023] rfl rfl; (· simp; exact .r _); (· simp [h1, h2, h4, h8, h10, h11, hb0, hb1, hb2, hn, hT, ne57_, ne58_, ne59_, ne60_, ne61_, ne62_, ne63_, ne64_, ne65_, ne66_, ne67_, ne68_, ne69_, ne70_, ne71_, ne72_, ne73_, ne74_, ne75_, ne76_, ne77_, ne78_, ne79_, ne80_, ne81_, ne82_, ne83_, ne84_, ne85_, ne86_, ne87_, ne88_, ne89_, ne90_, ne91_, ne92_, ne93_, ne94_, ne95_, ne96_, ne97_, ne98_, hrl, hil, c6]; exact .r _); (· first|trivial|simp))
        refine ⟨_, ?_, 0 + 1, σ.n + 4, 0, σ.n + 6, 0, rfl, rfl, ?_, ?_, ?_, ?_, ?_, ?_, by omega, ?_, ?_, ?_, ?_, (.inr ⟨by (simp [h1, h2, h4, h8, h10, h11, hb0, hb1, hb2, hn, hT, ne57_, ne58_, ne59_, ne60_, ne61_, ne62_, ne63_, ne64_, ne65_, ne66_, ne67_, ne68_, ne69_, ne70_, ne71_, ne72_, ne73_, ne74_, ne75_, ne76_, ne77_, ne78_, ne79_, ne80_, ne81_, ne82_, ne83_, ne84_, ne85_, ne86_, ne87_, ne88_, ne89_, ne90_, ne91_, ne92_, ne93_, ne94_, ne95_, ne96_, ne97_, ne98_]; rw [rowsE_take _ _ hil]; simp [rowsE]), by (simp [h1, h2, h4, h8, h10, h11, hb0, hb1, hb2, hn, hT, ne57_, ne58_, ne59_, ne60_, ne61_, ne62_, ne63_, ne64_, ne65_, ne66_, ne67_, ne68_, ne69_, ne70_, ne71_, ne72_, ne73_, ne74_, ne75_, ne76_, ne77_, ne78_, ne79_, ne80_, ne81_, ne82_, ne83_, ne84_, ne85_, ne86_, ne87_, ne88_, ne89_, ne90_, ne91_, ne92_, ne93_, ne94_, ne95_, ne96_, ne97_, ne98_]; rw [rowsE_take _ _ hit, hti]; simp [rowsE]), by omega, by (simp), by omega, by (simp), by omega⟩), heq⟩
        all_goals first|assumption|(simp [h1, h2, h4, h8, h10, h11, hb0, hb1, hb2, hn, hT, ne57_, ne58_, ne59_, ne60_, ne61_, ne62_, ne63_, ne64_, ne65_, ne66_, ne67_, ne68_, ne69_, ne70_, ne71_, ne72_, ne73_, ne74_, ne75_, ne76_, ne77_, ne78_, ne79_, ne80_, ne81_, ne82_, ne83_, ne84_, ne85_, ne86_, ne87_, ne88_, ne89_, ne90_, ne91_, ne92_, ne93_, ne94_, ne95_, ne96_, ne97_, ne98_];done)|(simp [h1, h2, h4, h8, h10, h11, hb0, hb1, hb2, hn, hT, ne57_, ne58_, ne59_, ne60_, ne61_, ne62_, ne63_, ne64_, ne65_, ne66_, ne67_, ne68_, ne69_, ne70_, ne71_, ne72_, ne73_, ne74_, ne75_, ne76_, ne77_, ne78_, ne79_, ne80_, ne81_, ne82_, ne83_, ne84_, ne85_, ne86_, ne87_, ne88_, ne89_, ne90_, ne91_, ne92_, ne93_, ne94_, ne95_, ne96_, ne97_, ne98_];omega)|(simp [h1, h2, h4, h8, h10, h11, hb0, hb1, hb2, hn, hT, ne57_, ne58_, ne59_, ne60_, ne61_, ne62_, ne63_, ne64_, ne65_, ne66_, ne67_, ne68_, ne69_, ne70_, ne71_, ne72_, ne73_, ne74_, ne75_, ne76_, ne77_, ne78_, ne79_, ne80_, ne81_, ne82_, ne83_, ne84_, ne85_, ne86_, ne87_, ne88_, ne89_, ne90_, ne91_, ne92_, ne93_, ne94_, ne95_, ne96_, ne97_, ne98_];exact wrap_succ (by omega))|omega
      · obtain ⟨hV1, hT1, hT2, hT3, hV2, hV3, hVT⟩ := hT.resolve_left (by omega)
        have hgV := gc_pos (o := oV) (show i ≠ 0 by omega)
        have hgT := gc_pos (o := oT) (show i ≠ 0 by omega)
        have hVT' : ¬ oT = oV := fun e => hVT e.symm
        have ne99_ : ¬ (oT = 0) := by omega
        have ne100_ : ¬ (0 = oT) := by omega
        have ne101_ : ¬ (oT = 1) := by omega
        have ne102_ : ¬ (1 = oT) := by omega
        have ne103_ : ¬ (oT = 2) := by omega
        have ne104_ : ¬ (2 = oT) := by omega
        have ne105_ : ¬ (oT = σ.n) := by omega
        have ne106_ : ¬ (σ.n = oT) := by omega
        have ne107_ : ¬ (oT = σ.n + 1) := by omega
        have ne108_ : ¬ (σ.n + 1 = oT) := by omega
        have ne109_ : ¬ (oT = σ.n + 2) := by omega
        have ne110_ : ¬ (σ.n + 2 = oT) := by omega
        have ne111_ : ¬ (oT = σ.n + 3) := by omega
        have ne112_ : ¬ (σ.n + 3 = oT) := by omega
        have ne113_ : ¬ (oT = σ.n + 4) := by omega
        have ne114_ : ¬ (σ.n + 4 = oT) := by omega
        have ne115_ : ¬ (oT = σ.n + 5) := by omega
        have ne116_ : ¬ (σ.n + 5 = oT) := by omega
        have ne117_ : ¬ (oT = σ.n + 6) := by omega
        have ne118_ : ¬ (σ.n + 6 = oT) := by omega
        have ne119_ : ¬ (oV = 0) := by omega
        have ne120_ : ¬ (0 = oV) := by omega
        have ne121_ : ¬ (oV = 1) := by omega
        have ne122_ : ¬ (1 = oV) := by omega
        have ne123_ : ¬ (oV = 2) := by omega
        have ne124_ : ¬ (2 = oV) := by omega
        have ne125_ : ¬ (oV = σ.n) := by omega
        have ne126_ : ¬ (σ.n = oV) := by omega
        have ne127_ : ¬ (oV = σ.n + 1) := by omega
        have ne128_ : ¬ (σ.n + 1 = oV) := by omega
        have ne129_ : ¬ (oV = σ.n + 2) := by omega
        have ne130_ : ¬ (σ.n + 2 = oV) := by omega
        have ne131_ : ¬ (oV = σ.n + 3) := by omega
        have ne132_ : ¬ (σ.n + 3 = oV) := by omega
        have ne133_ : ¬ (oV = σ.n + 4) := by omega
        have ne134_ : ¬ (σ.n + 4 = oV) := by omega
        have ne135_ : ¬ (oV = σ.n + 5) := by omega
        have ne136_ : ¬ (σ.n + 5 = oV) := by omega
        have ne137_ : ¬ (oV = σ.n + 6) := by omega
        have ne138_ : ¬ (σ.n + 6 = oV) := by omega
        repeat' first|refine W_seq ?_|refine W_block ?_|refine W_skip ?_|refine W_ret ?_|refine W_exit ?_|refine xb_hit ?_|refine xb_miss (by decide) ?_|(apply W_reg;(simp [h1, h2, h4, h8, h10, h11, hb0, hb1, hb2, hn, hT, ne57_, ne58_, ne59_, ne60_, ne61_, ne62_, ne63_, ne64_, ne65_, ne66_, ne67_, ne68_, ne69_, ne70_, ne71_, ne72_, ne73_, ne74_, ne75_, ne76_, ne77_, ne78_, ne79_, ne80_, ne81_, ne82_, ne83_, ne84_, ne85_, ne86_, ne87_, ne88_, ne89_, ne90_, ne91_, ne92_, ne93_, ne94_, ne95_, ne96_, ne97_, ne98_, ne99_, ne100_, ne101_, ne102_, ne103_, ne104_, ne105_, ne106_, ne107_, ne108_, ne109_, ne110_, ne111_, ne112_, ne113_, ne114_, ne115_, ne116_, ne117_, ne118_, ne119_, ne120_, ne121_, ne122_, ne123_, ne124_, ne125_, ne126_, ne127_, ne128_, ne129_, ne130_, ne131_, ne132_, ne133_, ne134_, ne135_, ne136_, ne137_, ne138_, hrl, hil, c6, hT1, hV1, hgV, hgT, hbt, hVT, hVT', show min i vs.length = i by omega, show min i (tabs c vs db).length = i by omega];exact .r _))|(apply W_draw (id := 10) [0,1,0,0,12,28,60,124,255,511,1023] rfl rfl; (· simp; exact .r _); (· simp [h1, h2, h4, h8, h10, h11, hb0, hb1, hb2, hn, hT, ne57_, ne58_, ne59_, ne60_, ne61_, ne62_, ne63_, ne64_, ne65_, ne66_, ne67_, ne68_, ne69_, ne70_, ne71_, ne72_, ne73_, ne74_, ne75_, ne76_, ne77_, ne78_, ne79_, ne80_, ne81_, ne82_, ne83_, ne84_, ne85_, ne86_, ne87_, ne88_, ne89_, ne90_, ne91_, ne92_, ne93_, ne94_, ne95_, ne96_, ne97_, ne98_, ne99_, ne100_, ne101_, ne102_, ne103_, ne104_, ne105_, ne106_, ne107_, ne108_, ne109_, ne110_, ne111_, ne112_, ne113_, ne114_, ne115_, ne116_, ne117_, ne118_, ne119_, ne120_, ne121_, ne122_, ne123_, ne124_, ne125_, ne126_, ne127_, ne128_, ne129_, ne130_, ne131_, ne132_, ne133_, ne134_, ne135_, ne136_, ne137_, ne138_, hrl, hil, c6, hT1, hV1, hgV, hgT, hbt, hVT, hVT', show min i vs.length = i by omega, show min i (tabs c vs db).length = i by omega]; exact .r _); (· first|trivial|simp))
        refine ⟨_, ?_, i + 1, oV, sV, oT, st, rfl, rfl, ?_, ?_, ?_, ?_, ?_, ?_, by omega, ?_, ?_, ?_, ?_, (.inr ⟨by (simp [h1, h2, h4, h8, h10, h11, hb0, hb1, hb2, hn, hT, ne57_, ne58_, ne59_, ne60_, ne61_, ne62_, ne63_, ne64_, ne65_, ne66_, ne67_, ne68_, ne69_, ne70_, ne71_, ne72_, ne73_, ne74_, ne75_, ne76_, ne77_, ne78_, ne79_, ne80_, ne81_, ne82_, ne83_, ne84_, ne85_, ne86_, ne87_, ne88_, ne89_, ne90_, ne91_, ne92_, ne93_, ne94_, ne95_, ne96_, ne97_, ne98_, ne99_, ne100_, ne101_, ne102_, ne103_, ne104_, ne105_, ne106_, ne107_, ne108_, ne109_, ne110_, ne111_, ne112_, ne113_, ne114_, ne115_, ne116_, ne117_, ne118_, ne119_, ne120_, ne121_, ne122_, ne123_, ne124_, ne125_, ne126_, ne127_, ne128_, ne129_, ne130_, ne131_, ne132_, ne133_, ne134_, ne135_, ne136_, ne137_, ne138_, hVT, hVT']; rw [rowsE_take _ _ hil]; simp [rowsE]), by (simp [h1, h2, h4, h8, h10, h11, hb0, hb1, hb2, hn, hT, ne57_, ne58_, ne59_, ne60_, ne61_, ne62_, ne63_, ne64_, ne65_, ne66_, ne67_, ne68_, ne69_, ne70_, ne71_, ne72_, ne73_, ne74_, ne75_, ne76_, ne77_, ne78_, ne79_, ne80_, ne81_, ne82_, ne83_, ne84_, ne85_, ne86_, ne87_, ne88_, ne89_, ne90_, ne91_, ne92_, ne93_, ne94_, ne95_, ne96_, ne97_, ne98_, ne99_, ne100_, ne101_, ne102_, ne103_, ne104_, ne105_, ne106_, ne107_, ne108_, ne109_, ne110_, ne111_, ne112_, ne113_, ne114_, ne115_, ne116_, ne117_, ne118_, ne119_, ne120_, ne121_, ne122_, ne123_, ne124_, ne125_, ne126_, ne127_, ne128_, ne129_, ne130_, ne131_, ne132_, ne133_, ne134_, ne135_, ne136_, ne137_, ne138_, hVT, hVT']; rw [rowsE_take _ _ hit, hti]; simp [rowsE]), hT2, by (simp; omega), hV2, by (simp; omega), hVT⟩), heq⟩
        all_goals first|assumption|(simp [h1, h2, h4, h8, h10, h11, hb0, hb1, hb2, hn, hT, ne57_, ne58_, ne59_, ne60_, ne61_, ne62_, ne63_, ne64_, ne65_, ne66_, ne67_, ne68_, ne69_, ne70_, ne71_, ne72_, ne73_, ne74_, ne75_, ne76_, ne77_, ne78_, ne79_, ne80_, ne81_, ne82_, ne83_, ne84_, ne85_, ne86_, ne87_, ne88_, ne89_, ne90_, ne91_, ne92_, ne93_, ne94_, ne95_, ne96_, ne97_, ne98_, ne99_, ne100_, ne101_, ne102_, ne103_, ne104_, ne105_, ne106_, ne107_, ne108_, ne109_, ne110_, ne111_, ne112_, ne113_, ne114_, ne115_, ne116_, ne117_, ne118_, ne119_, ne120_, ne121_, ne122_, ne123_, ne124_, ne125_, ne126_, ne127_, ne128_, ne129_, ne130_, ne131_, ne132_, ne133_, ne134_, ne135_, ne136_, ne137_, ne138_];done)|(simp [h1, h2, h4, h8, h10, h11, hb0, hb1, hb2, hn, hT, ne57_, ne58_, ne59_, ne60_, ne61_, ne62_, ne63_, ne64_, ne65_, ne66_, ne67_, ne68_, ne69_, ne70_, ne71_, ne72_, ne73_, ne74_, ne75_, ne76_, ne77_, ne78_, ne79_, ne80_, ne81_, ne82_, ne83_, ne84_, ne85_, ne86_, ne87_, ne88_, ne89_, ne90_, ne91_, ne92_, ne93_, ne94_, ne95_, ne96_, ne97_, ne98_, ne99_, ne100_, ne101_, ne102_, ne103_, ne104_, ne105_, ne106_, ne107_, ne108_, ne109_, ne110_, ne111_, ne112_, ne113_, ne114_, ne115_, ne116_, ne117_, ne118_, ne119_, ne120_, ne121_, ne122_, ne123_, ne124_, ne125_, ne126_, ne127_, ne128_, ne129_, ne130_, ne131_, ne132_, ne133_, ne134_, ne135_, ne136_, ne137_, ne138_];omega)|(simp [h1, h2, h4, h8, h10, h11, hb0, hb1, hb2, hn, hT, ne57_, ne58_, ne59_, ne60_, ne61_, ne62_, ne63_, ne64_, ne65_, ne66_, ne67_, ne68_, ne69_, ne70_, ne71_, ne72_, ne73_, ne74_, ne75_, ne76_, ne77_, ne78_, ne79_, ne80_, ne81_, ne82_, ne83_, ne84_, ne85_, ne86_, ne87_, ne88_, ne89_, ne90_, ne91_, ne92_, ne93_, ne94_, ne95_, ne96_, ne97_, ne98_, ne99_, ne100_, ne101_, ne102_, ne103_, ne104_, ne105_, ne106_, ne107_, ne108_, ne109_, ne110_, ne111_, ne112_, ne113_, ne114_, ne115_, ne116_, ne117_, ne118_, ne119_, ne120_, ne121_, ne122_, ne123_, ne124_, ne125_, ne126_, ne127_, ne128_, ne129_, ne130_, ne131_, ne132_, ne133_, ne134_, ne135_, ne136_, ne137_, ne138_];exact wrap_succ (by omega))|omega
  · have hil : i = vs.length := by simp at hc; omega
    subst hil
    rw [← htl, List.drop_length, fewT_nil] at heq
    have hne : vs.length ≠ 0 := by have := areVs_mem e1; omega
    obtain ⟨hV1, hT1, hT2, hT3, hV2, hV3, hVT⟩ := hT.resolve_left hne
    rw [← htl, List.take_length] at hT1
    rw [List.take_length] at hV1
    have hgV := gc_pos (o := oV) hne
    have hgT := gc_pos (o := oT) hne
    have hVT' : ¬ oT = oV := fun e => hVT e.symm
    have ne139_ : ¬ (oT = 0) := by omega
    have ne140_ : ¬ (0 = oT) := by omega
    have ne141_ : ¬ (oT = 1) := by omega
    have ne142_ : ¬ (1 = oT) := by omega
    have ne143_ : ¬ (oT = 2) := by omega
    have ne144_ : ¬ (2 = oT) := by omega
    have ne145_ : ¬ (oV = 0) := by omega
    have ne146_ : ¬ (0 = oV) := by omega
    have ne147_ : ¬ (oV = 1) := by omega
    have ne148_ : ¬ (1 = oV) := by omega
    have ne149_ : ¬ (oV = 2) := by omega
    have ne150_ : ¬ (2 = oV) := by omega
    repeat' first|refine W_seq ?_|refine W_block ?_|refine W_skip ?_|refine W_ret ?_|refine W_exit ?_|refine xb_hit ?_|refine xb_miss (by decide) ?_|(apply W_reg;(simp [h1, h2, h4, h8, h10, h11, hb0, hb1, hb2, hn, hT, ne57_, ne58_, ne59_, ne60_, ne61_, ne62_, ne63_, ne64_, ne65_, ne66_, ne67_, ne68_, ne69_, ne70_, ne71_, ne72_, ne73_, ne74_, ne75_, ne76_, ne77_, ne78_, ne79_, ne80_, ne81_, ne82_, ne83_, ne84_, ne85_, ne86_, ne87_, ne88_, ne89_, ne90_, ne91_, ne92_, ne93_, ne94_, ne95_, ne96_, ne97_, ne98_, ne139_, ne140_, ne141_, ne142_, ne143_, ne144_, ne145_, ne146_, ne147_, ne148_, ne149_, ne150_, hgV, hgT];exact .r _))
    simp [xBuild, okB, e1, e2, e3, heq, h8, hgV, hgT, hV1, hT1, htl, hVT, hVT', h1, h2, h4, h8, h10, h11, hb0, hb1, hb2, hn, hT, ne57_, ne58_, ne59_, ne60_, ne61_, ne62_, ne63_, ne64_, ne65_, ne66_, ne67_, ne68_, ne69_, ne70_, ne71_, ne72_, ne73_, ne74_, ne75_, ne76_, ne77_, ne78_, ne79_, ne80_, ne81_, ne82_, ne83_, ne84_, ne85_, ne86_, ne87_, ne88_, ne89_, ne90_, ne91_, ne92_, ne93_, ne94_, ne95_, ne96_, ne97_, ne98_, ne139_, ne140_, ne141_, ne142_, ne143_, ne144_, ne145_, ne146_, ne147_, ne148_, ne149_, ne150_]
end Go.Proofs.YtmfifjbbjjdacaaGreat.V

namespace Go.Proofs.YtmfifjbbjjdacaaGreat.V
open Go Go.Proofs
set_option linter.unusedVariables false
set_option linter.unusedSimpArgs false
/-- Each one fine and after the one before. -/
def asc2 {α : Type} (lt : α → α → Bool) : List α → Bool
  | a :: b :: l => lt a b && asc2 lt (b :: l)
  | _ => true
def allP {α : Type} (p : α → Bool) (l : List α) : Bool := l.all p
theorem allP_cons {α : Type} {p : α → Bool} {a : α} {l : List α} : allP p (a :: l) = (p a && allP p l) := rfl
theorem allP_nil {α : Type} {p : α → Bool} : allP p [] = true := rfl
def chk {α : Type} (p : α → Bool) (lt : α → α → Bool) (l : List α) (i : Nat) : Bool := allP p (l.drop i) && asc2 lt (l.drop (i - 1))
theorem asc2_short {α : Type} {lt : α → α → Bool} : ∀ {l : List α}, l.length ≤ 1 → asc2 lt l = true
  | [], _ => rfl
  | [_], _ => rfl
theorem chk_end {α : Type} {p : α → Bool} {lt : α → α → Bool} {l : List α} : chk p lt l l.length = true := by
  unfold chk
  rw [List.drop_length, allP_nil, asc2_short (by simp; omega)]; rfl
theorem chk_step {α : Type} {p : α → Bool} {lt : α → α → Bool} {l : List α} {i : Nat} (h : i < l.length) : chk p lt l i = (p l[i] && (i == 0 || lt l[i - 1] l[i]) && chk p lt l (i + 1)) := by
  unfold chk
  rw [List.drop_eq_getElem_cons h, allP_cons]
  cases i with
  | zero =>
    simp only [Nat.zero_sub, List.drop_zero, Nat.zero_add, Nat.sub_self, beq_self_eq_true, Bool.true_or, Bool.and_true]
    rw [Bool.and_assoc]
  | succ i =>
    have e : (i + 1 - 1) = i := by omega
    simp only [e]
    have e2 : i + 1 + 1 - 1 = i + 1 := by omega
    rw [e2, show l.drop i = l[i] :: l[i + 1] :: l.drop (i + 2) by rw [List.drop_eq_getElem_cons (by omega), List.drop_eq_getElem_cons h], asc2, ← List.drop_eq_getElem_cons h]
    have e3 : (i + 1 == 0) = false := rfl
    rw [e3, Bool.false_or]
    cases p l[i + 1] <;> cases lt l[i] l[i + 1] <;> cases allP p (List.drop (i + 1 + 1) l) <;> rfl
def vals (r : Row) : Bool := r.all fun x => inR x 0 99
def rowOk (n : Nat) (r : Row) : Bool := decide (r.length = n) && vals r
def ltR (a b : Row) : Bool := decide (cmpI a b < 0)
def tblOk (n : Nat) (t : List Row) : Bool := decide (t.length ≤ 90) && chk (rowOk n) ltR t 0
def tabsOk : List Qry → List (List Row) → Bool
  | v :: vs, t :: ts => tblOk v.head.length t && tabsOk vs ts
  | _, _ => true
def isCch (c : Sch) (x : Cch) : Bool := areVs c x.views && decide (x.tables.length = x.views.length) && inR x.version 0 1000 && tabsOk x.views x.tables
/-- Lengths of a cache. -/
def SmC (x : Cch) : Prop := Sm x.views ∧ (∀ q ∈ x.views, SmQ q) ∧ Sm x.tables ∧ ∀ t ∈ x.tables, Sm t ∧ ∀ r ∈ t, Sm r
theorem SmC.of {N : Nat} (hN : N < 1099511627775) {x : Cch} (h : Lw.bd N x) : SmC x := ⟨Nat.lt_of_le_of_lt h.1.1 hN, fun q hq => SmQ.of hN (h.1.2 q hq), Nat.lt_of_le_of_lt h.2.1 hN, fun t ht => ⟨Nat.lt_of_le_of_lt (h.2.2 t ht).1 hN, fun r hr => Nat.lt_of_le_of_lt ((h.2.2 t ht).2 r hr).1 hN⟩⟩
theorem tabsOk_drop {vs : List Qry} {ts : List (List Row)} {i : Nat} (h : i < ts.length) (hv : i < vs.length) : tabsOk (vs.drop i) (ts.drop i) = (tblOk vs[i].head.length ts[i] && tabsOk (vs.drop (i + 1)) (ts.drop (i + 1))) := by
  rw [List.drop_eq_getElem_cons h, List.drop_eq_getElem_cons hv]; rfl
theorem tabsOk_end {vs : List Qry} {ts : List (List Row)} : tabsOk (vs.drop ts.length) (ts.drop ts.length) = true := by
  rw [List.drop_length]
  cases vs.drop ts.length <;> rfl
theorem implIsCch_r (c : Sch) (x : Cch) (sc : Sm c.arity) (h : SmC x) : Ret XX 218 [Ag c, Ag x] (.t (.b (isCch c x)) false) := by
  refine ret_W rfl Tryz.func218 rfl rfl (by simp [Tryz.f218]) ?_
  simp only [Tryz.f218]
  obtain ⟨h1, h2, h3, h4⟩ := h
  have c1 := cv (implAreVs_r c x.views sc h1 h2)
  have c2 := cv (within_r x.version 0 1000)
  simp only [Ag, cells_Sch, cells_Q, List.map_cons, List.map_nil] at c1
  cases e1 : areVs c x.views
  · repeat' first|refine W_seq ?_|refine W_block ?_|refine W_skip ?_|refine W_ret ?_|refine W_exit ?_|refine xb_hit ?_|refine xb_miss (by decide) ?_|(apply W_reg;(simp [Ag, c1, e1];exact .r _))
    refine W_cond (by simp; exact .r _) (fun hc => ?_) (fun hc => ?_)
    · repeat' first|refine W_seq ?_|refine W_block ?_|refine W_skip ?_|refine W_ret ?_|refine W_exit ?_|refine xb_hit ?_|refine xb_miss (by decide) ?_|(apply W_reg;(simp;exact .r _))
      simp [isCch, e1]
    · cases hc
  by_cases e2 : x.tables.length = x.views.length
  case neg =>
    have e2' : ¬ (x.tables.length : Int) = x.views.length := by omega
    repeat' first|refine W_seq ?_|refine W_block ?_|refine W_skip ?_|refine W_ret ?_|refine W_exit ?_|refine xb_hit ?_|refine xb_miss (by decide) ?_|(apply W_reg;(simp [Ag, c1, e1, e2'];exact .r _))
    refine W_cond (by simp; exact .r _) (fun hc => ?_) (fun hc => ?_)
    · repeat' first|refine W_seq ?_|refine W_block ?_|refine W_skip ?_|refine W_ret ?_|refine W_exit ?_|refine xb_hit ?_|refine xb_miss (by decide) ?_|(apply W_reg;(simp;exact .r _))
      simp [isCch, e2]
    · cases hc
  have e2' : (x.tables.length : Int) = x.views.length := by omega
  cases e3 : inR x.version 0 1000
  · repeat' first|refine W_seq ?_|refine W_block ?_|refine W_skip ?_|refine W_ret ?_|refine W_exit ?_|refine xb_hit ?_|refine xb_miss (by decide) ?_|(apply W_reg;(simp [Ag, c1, e1, e2', c2, e3];exact .r _))
    refine W_cond (by simp; exact .r _) (fun hc => ?_) (fun hc => ?_)
    · repeat' first|refine W_seq ?_|refine W_block ?_|refine W_skip ?_|refine W_ret ?_|refine W_exit ?_|refine xb_hit ?_|refine xb_miss (by decide) ?_|(apply W_reg;(simp;exact .r _))
      simp [isCch, e3]
    · cases hc
  repeat' first|refine W_seq ?_|refine W_block ?_|refine W_skip ?_|refine W_ret ?_|refine W_exit ?_|refine xb_hit ?_|refine xb_miss (by decide) ?_|(apply W_reg;(simp [Ag, c1, e1, e2', c2, e3];exact .r _))
  refine W_cond (by simp; exact .r _) (fun hc => ?_) (fun hc => ?_)
  · cases hc
  repeat' first|refine W_seq ?_|refine W_block ?_|refine W_skip ?_|refine W_ret ?_|refine W_exit ?_|refine xb_hit ?_|refine xb_miss (by decide) ?_|(apply W_reg;(simp;exact .r _))
  refine W_loop (n := x.tables.length) (fun n s => ∃ i : Nat, n = x.tables.length - i ∧ s.nt = 78 ∧ s.tm 3 = .ptr 1 0 ∧ s.tm 30 = Ar x.tables ∧ s.tm 31 = In x.tables.length ∧ s.tm 32 = In i ∧ i ≤ x.tables.length ∧ s.σ.ob 1 = .box [Ar x.views, Ar x.tables, In x.version] ∧ isCch c x = tabsOk (x.views.drop i) (x.tables.drop i)) ⟨0, by simp [e2', isCch, e1, e2, e3]⟩ ?_
  rintro n ⟨nt, tm, σ⟩ ⟨i, rfl, hnt, h3, h30, h31, h32, hi, hb1, heq⟩
  simp only at hnt h3 h30 h31 h32 hb1
  subst hnt
  repeat' first|refine W_seq ?_|refine W_block ?_|refine W_skip ?_|refine W_ret ?_|refine W_exit ?_|refine xb_hit ?_|refine xb_miss (by decide) ?_|(apply W_reg;(simp [h3, h30, h31, h32, hb1];exact .r _))
  refine W_cond (by simp [h3, h30, h31, h32, hb1]; exact .r _) (fun hc => ?_) (fun hc => ?_)
  · have hil : i < x.tables.length := by simpa using hc
    have hiv : i < x.views.length := by omega
    have ht := h4 _ (List.getElem_mem hil)
    rw [tabsOk_drop hil hiv] at heq
    repeat' first|refine W_seq ?_|refine W_block ?_|refine W_skip ?_|refine W_ret ?_|refine W_exit ?_|refine xb_hit ?_|refine xb_miss (by decide) ?_|(apply W_reg;(simp [h3, h30, h31, h32, hb1, hil];exact .r _))
    refine W_cond (by simp [h3, h30, h31, h32, hb1]; exact .r _) (fun hd => ?_) (fun hd => ?_)
    · have hd' : ¬ x.tables[i].length ≤ 90 := by simp at hd; omega
      repeat' first|refine W_seq ?_|refine W_block ?_|refine W_skip ?_|refine W_ret ?_|refine W_exit ?_|refine xb_hit ?_|refine xb_miss (by decide) ?_|(apply W_reg;(simp [h3, h30, h31, h32, hb1];exact .r _))
      rw [heq]
      simp [tblOk, hd']
    have hd' : x.tables[i].length ≤ 90 := by simp at hd; omega
    repeat' first|refine W_seq ?_|refine W_block ?_|refine W_skip ?_|refine W_ret ?_|refine W_exit ?_|refine xb_hit ?_|refine xb_miss (by decide) ?_|(apply W_reg;(simp [h3, h30, h31, h32, hb1];exact .r _))
    refine W_loop (n := x.tables[i].length) (fun n s => ∃ k : Nat, n = x.tables[i].length - k ∧ s.nt = 78 ∧ s.tm 3 = .ptr 1 0 ∧ s.tm 5 = In i ∧ s.tm 6 = Ar x.tables[i] ∧ s.tm 30 = Ar x.tables ∧ s.tm 31 = In x.tables.length ∧ s.tm 32 = In i ∧ s.tm 40 = Ar x.tables[i] ∧ s.tm 41 = In x.tables[i].length ∧ s.tm 42 = In k ∧ k ≤ x.tables[i].length ∧ s.σ.ob 1 = .box [Ar x.views, Ar x.tables, In x.version] ∧ chk (rowOk x.views[i].head.length) ltR x.tables[i] 0 = chk (rowOk x.views[i].head.length) ltR x.tables[i] k) ⟨0, by simp [h3, h30, h31, h32, hb1]⟩ ?_
    rintro n ⟨nt, tm, σ⟩ ⟨k, rfl, hnt, h3, h5, h6, h30, h31, h32, h40, h41, h42, hk, hb1, hek⟩
    simp only at hnt h3 h5 h6 h30 h31 h32 h40 h41 h42 hb1
    subst hnt
    repeat' first|refine W_seq ?_|refine W_block ?_|refine W_skip ?_|refine W_ret ?_|refine W_exit ?_|refine xb_hit ?_|refine xb_miss (by decide) ?_|(apply W_reg;(simp [h3, h5, h6, h30, h31, h32, h40, h41, h42, hb1];exact .r _))
    refine W_cond (by simp [h3, h5, h6, h30, h31, h32, h40, h41, h42, hb1]; exact .r _) (fun hcc => ?_) (fun hcc => ?_)
    · have hkl : k < x.tables[i].length := by simpa using hcc
      have hr := ht.2 _ (List.getElem_mem hkl)
      have c4 := cv (areValues_r x.tables[i][k] hr)
      rw [show (x.tables[i][k].all fun x => inR x 0 99) = vals x.tables[i][k] from rfl] at c4
      rw [chk_step hkl] at hek
      have hkk : ∀ b : Bool, rowOk x.views[i].head.length x.tables[i][k] = b → rowOk x.views[i].head.length x.tables[i][k] = b := fun _ h => h
      by_cases g1 : x.tables[i][k].length = x.views[i].head.length
      case neg =>
        have g1' : ¬ (x.tables[i][k].length : Int) = x.views[i].head.length := by omega
        repeat' first|refine W_seq ?_|refine W_block ?_|refine W_skip ?_|refine W_ret ?_|refine W_exit ?_|refine xb_hit ?_|refine xb_miss (by decide) ?_|(apply W_reg;(simp [h3, h5, h6, h30, h31, h32, h40, h41, h42, hb1, hkl, hiv, g1'];exact .r _))
        refine W_cond (by simp [h3, h5, h6, h30, h31, h32, h40, h41, h42, hb1]; exact .r _) (fun he => ?_) (fun he => ?_)
        · repeat' first|refine W_seq ?_|refine W_block ?_|refine W_skip ?_|refine W_ret ?_|refine W_exit ?_|refine xb_hit ?_|refine xb_miss (by decide) ?_|(apply W_reg;(simp [h3, h5, h6, h30, h31, h32, h40, h41, h42, hb1];exact .r _))
          rw [heq]; simp [tblOk, hek, rowOk, g1]
        · cases he
      have g1' : (x.tables[i][k].length : Int) = x.views[i].head.length := by omega
      cases g2 : vals x.tables[i][k]
      · repeat' first|refine W_seq ?_|refine W_block ?_|refine W_skip ?_|refine W_ret ?_|refine W_exit ?_|refine xb_hit ?_|refine xb_miss (by decide) ?_|(apply W_reg;(simp [h3, h5, h6, h30, h31, h32, h40, h41, h42, hb1, hkl, hiv, g1', c4, g2];exact .r _))
        refine W_cond (by simp [h3, h5, h6, h30, h31, h32, h40, h41, h42, hb1]; exact .r _) (fun he => ?_) (fun he => ?_)
        · repeat' first|refine W_seq ?_|refine W_block ?_|refine W_skip ?_|refine W_ret ?_|refine W_exit ?_|refine xb_hit ?_|refine xb_miss (by decide) ?_|(apply W_reg;(simp [h3, h5, h6, h30, h31, h32, h40, h41, h42, hb1];exact .r _))
          rw [heq]; simp [tblOk, hek, rowOk, g2]
        · cases he
      have hro : rowOk x.views[i].head.length x.tables[i][k] = true := by simp [rowOk, g1, g2]
      cases k with
      | zero =>
        repeat' first|refine W_seq ?_|refine W_block ?_|refine W_skip ?_|refine W_ret ?_|refine W_exit ?_|refine xb_hit ?_|refine xb_miss (by decide) ?_|(apply W_reg;(simp [h3, h5, h6, h30, h31, h32, h40, h41, h42, hb1, hkl, hiv, g1', c4, g2];exact .r _))
        refine W_cond (by simp [h3, h5, h6, h30, h31, h32, h40, h41, h42, hb1]; exact .r _) (fun he => ?_) (fun he => ?_)
        · cases he
        · repeat' first|refine W_seq ?_|refine W_block ?_|refine W_skip ?_|refine W_ret ?_|refine W_exit ?_|refine xb_hit ?_|refine xb_miss (by decide) ?_|(apply W_reg;(simp [h3, h5, h6, h30, h31, h32, h40, h41, h42, hb1];exact .r _))
          refine ⟨_, ?_, 1, rfl, rfl, ?_, ?_, ?_, ?_, ?_, ?_, ?_, ?_, ?_, by omega, ?_, (by rw [hek, hro]; rfl)⟩
          all_goals first|assumption|(simp [h3, h5, h6, h30, h31, h32, h40, h41, h42, hb1];done)|(simp [h3, h5, h6, h30, h31, h32, h40, h41, h42, hb1];omega)|(simp [h3, h5, h6, h30, h31, h32, h40, h41, h42, hb1];exact wrap_succ (by omega))|omega
      | succ k =>
        have hk1 : k < x.tables[i].length := by omega
        have c5 := cv (cmpRow_r x.tables[i][k] x.tables[i][k + 1] (ht.2 _ (List.getElem_mem hk1)))
        have wr1_ : IntKind.i64.wrap ((k : Int)) = (k : Int) := wrap_ok (by omega) (by omega)
        repeat' first|refine W_seq ?_|refine W_block ?_|refine W_skip ?_|refine W_ret ?_|refine W_exit ?_|refine xb_hit ?_|refine xb_miss (by decide) ?_|(apply W_reg;(simp [h3, h5, h6, h30, h31, h32, h40, h41, h42, hb1, wr1_, hkl, hk1, hiv, g1', c4, g2, c5, show (0 : Int) < (k : Int) + 1 by omega, show (0 : Int) ≤ (k : Int) + 1 by omega, show ((k : Int) + 1).toNat = k + 1 by omega];exact .r _))
        refine W_cond (by simp [h3, h5, h6, h30, h31, h32, h40, h41, h42, hb1, wr1_]; exact .r _) (fun he => ?_) (fun he => ?_)
        · have he' : ¬ cmpI x.tables[i][k] x.tables[i][k + 1] < 0 := by simp at he; omega
          repeat' first|refine W_seq ?_|refine W_block ?_|refine W_skip ?_|refine W_ret ?_|refine W_exit ?_|refine xb_hit ?_|refine xb_miss (by decide) ?_|(apply W_reg;(simp [h3, h5, h6, h30, h31, h32, h40, h41, h42, hb1, wr1_];exact .r _))
          rw [heq]; simp [tblOk, hek, ltR, he']
        · have he' : cmpI x.tables[i][k] x.tables[i][k + 1] < 0 := by simp at he; omega
          repeat' first|refine W_seq ?_|refine W_block ?_|refine W_skip ?_|refine W_ret ?_|refine W_exit ?_|refine xb_hit ?_|refine xb_miss (by decide) ?_|(apply W_reg;(simp [h3, h5, h6, h30, h31, h32, h40, h41, h42, hb1, wr1_];exact .r _))
          refine ⟨_, ?_, k + 1 + 1, rfl, rfl, ?_, ?_, ?_, ?_, ?_, ?_, ?_, ?_, (by simp [h42]; rw [wrap_ok (by omega) (by omega)]; omega), by omega, ?_, (by rw [hek, hro]; simp [ltR, he'])⟩
          all_goals first|assumption|(simp [h3, h5, h6, h30, h31, h32, h40, h41, h42, hb1, wr1_];done)|(simp [h3, h5, h6, h30, h31, h32, h40, h41, h42, hb1, wr1_];omega)|(simp [h3, h5, h6, h30, h31, h32, h40, h41, h42, hb1, wr1_];exact wrap_succ (by omega))|omega
    · have hkl : k = x.tables[i].length := by simp at hcc; omega
      subst hkl
      rw [chk_end] at hek
      repeat' first|refine W_seq ?_|refine W_block ?_|refine W_skip ?_|refine W_ret ?_|refine W_exit ?_|refine xb_hit ?_|refine xb_miss (by decide) ?_|(apply W_reg;(simp [h3, h5, h6, h30, h31, h32, h40, h41, h42, hb1];exact .r _))
      refine ⟨_, ?_, i + 1, rfl, rfl, ?_, ?_, ?_, ?_, by omega, ?_, (by rw [heq]; simp [tblOk, hd', hek])⟩
      all_goals first|assumption|(simp [h3, h30, h31, h32, hb1, hb1, h3, h30, h31, h32];done)|(simp [h3, h30, h31, h32, hb1, hb1, h3, h30, h31, h32];omega)|(simp [h3, h30, h31, h32, hb1, hb1, h3, h30, h31, h32];exact wrap_succ (by omega))|omega
  · have hil : i = x.tables.length := by simp at hc; omega
    subst hil
    rw [tabsOk_end] at heq
    repeat' first|refine W_seq ?_|refine W_block ?_|refine W_skip ?_|refine W_ret ?_|refine W_exit ?_|refine xb_hit ?_|refine xb_miss (by decide) ?_|(apply W_reg;(simp [h3, h30, h31, h32, hb1];exact .r _))
    simp [heq]
theorem vals_cons {x : Int} {l : List Int} : vals (x :: l) = (inR x 0 99 && vals l) := rfl
theorem vals_nil : vals [] = true := rfl
set_option maxHeartbeats 1000000 in
theorem specIsCch_r (c : Sch) (x : Cch) (sc : Sm c.arity) (h : SmC x) : Ret XX 215 [Ag c, Ag x] (.t (.b (isCch c x)) false) := by
  refine ret_W rfl Tryz.func215 rfl rfl (by simp [Tryz.f215]) ?_
  simp only [Tryz.f215]
  obtain ⟨h1, h2, h3, h4⟩ := h
  have c1 := cv (specAreVs_r c x.views sc h1 h2)
  have c2 := cv (l1In_r x.version 0 1000)
  simp only [Ag, cells_Sch, cells_Q, List.map_cons, List.map_nil] at c1
  cases e1 : areVs c x.views
  · repeat' first|refine W_seq ?_|refine W_block ?_|refine W_skip ?_|refine W_ret ?_|refine W_exit ?_|refine xb_hit ?_|refine xb_miss (by decide) ?_|(apply W_reg;(simp [Ag, c1, e1];exact .r _))
    refine W_cond (by simp; exact .r _) (fun hc => ?_) (fun hc => ?_)
    · repeat' first|refine W_seq ?_|refine W_block ?_|refine W_skip ?_|refine W_ret ?_|refine W_exit ?_|refine xb_hit ?_|refine xb_miss (by decide) ?_|(apply W_reg;(simp;exact .r _))
      simp [isCch, e1]
    · cases hc
  by_cases e2 : x.tables.length = x.views.length
  case neg =>
    have e2' : ¬ (x.tables.length : Int) = x.views.length := by omega
    repeat' first|refine W_seq ?_|refine W_block ?_|refine W_skip ?_|refine W_ret ?_|refine W_exit ?_|refine xb_hit ?_|refine xb_miss (by decide) ?_|(apply W_reg;(simp [Ag, c1, e1, e2'];exact .r _))
    refine W_cond (by simp; exact .r _) (fun hc => ?_) (fun hc => ?_)
    · repeat' first|refine W_seq ?_|refine W_block ?_|refine W_skip ?_|refine W_ret ?_|refine W_exit ?_|refine xb_hit ?_|refine xb_miss (by decide) ?_|(apply W_reg;(simp;exact .r _))
      simp [isCch, e2]
    · cases hc
  have e2' : (x.tables.length : Int) = x.views.length := by omega
  cases e3 : inR x.version 0 1000
  · repeat' first|refine W_seq ?_|refine W_block ?_|refine W_skip ?_|refine W_ret ?_|refine W_exit ?_|refine xb_hit ?_|refine xb_miss (by decide) ?_|(apply W_reg;(simp [Ag, c1, e1, e2', c2, e3];exact .r _))
    refine W_cond (by simp; exact .r _) (fun hc => ?_) (fun hc => ?_)
    · repeat' first|refine W_seq ?_|refine W_block ?_|refine W_skip ?_|refine W_ret ?_|refine W_exit ?_|refine xb_hit ?_|refine xb_miss (by decide) ?_|(apply W_reg;(simp;exact .r _))
      simp [isCch, e3]
    · cases hc
  repeat' first|refine W_seq ?_|refine W_block ?_|refine W_skip ?_|refine W_ret ?_|refine W_exit ?_|refine xb_hit ?_|refine xb_miss (by decide) ?_|(apply W_reg;(simp [Ag, c1, e1, e2', c2, e3];exact .r _))
  refine W_cond (by simp; exact .r _) (fun hc => ?_) (fun hc => ?_)
  · cases hc
  repeat' first|refine W_seq ?_|refine W_block ?_|refine W_skip ?_|refine W_ret ?_|refine W_exit ?_|refine xb_hit ?_|refine xb_miss (by decide) ?_|(apply W_reg;(simp;exact .r _))
  refine W_loop (n := x.tables.length) (fun n s => ∃ i : Nat, n = x.tables.length - i ∧ s.nt = 98 ∧ s.tm 3 = .ptr 1 0 ∧ s.tm 5 = In i ∧ i ≤ x.tables.length ∧ s.σ.ob 1 = .box [Ar x.views, Ar x.tables, In x.version] ∧ isCch c x = tabsOk (x.views.drop i) (x.tables.drop i)) ⟨0, by simp [e2', isCch, e1, e2, e3]⟩ ?_
  rintro n ⟨nt, tm, σ⟩ ⟨i, rfl, hnt, h3, h5, hi, hb1, heq⟩
  simp only at hnt h3 h5 hb1
  subst hnt
  repeat' first|refine W_seq ?_|refine W_block ?_|refine W_skip ?_|refine W_ret ?_|refine W_exit ?_|refine xb_hit ?_|refine xb_miss (by decide) ?_|(apply W_reg;(simp [h3, h5, hb1];exact .r _))
  refine W_cond (by simp [h3, h5, hb1]; exact .r _) (fun hc => ?_) (fun hc => ?_)
  · have hil : i < x.tables.length := by simpa using hc
    have hiv : i < x.views.length := by omega
    have ht := h4 _ (List.getElem_mem hil)
    rw [tabsOk_drop hil hiv] at heq
    repeat' first|refine W_seq ?_|refine W_block ?_|refine W_skip ?_|refine W_ret ?_|refine W_exit ?_|refine xb_hit ?_|refine xb_miss (by decide) ?_|(apply W_reg;(simp [h3, h5, hb1, hil];exact .r _))
    refine W_loop (n := x.tables[i].length) (fun n s => ∃ k : Nat, n = x.tables[i].length - k ∧ s.nt = 98 ∧ s.tm 3 = .ptr 1 0 ∧ s.tm 5 = In i ∧ s.tm 6 = Ar x.tables[i] ∧ s.tm 7 = In k ∧ k ≤ x.tables[i].length ∧ s.σ.ob 1 = .box [Ar x.views, Ar x.tables, In x.version] ∧ chk (rowOk x.views[i].head.length) ltR x.tables[i] 0 = chk (rowOk x.views[i].head.length) ltR x.tables[i] k) ⟨0, by simp [h3, h5, hb1]⟩ ?_
    rintro n ⟨nt, tm, σ⟩ ⟨k, rfl, hnt, h3, h5, h6, h7, hk, hb1, hek⟩
    simp only at hnt h3 h5 h6 h7 hb1
    subst hnt
    repeat' first|refine W_seq ?_|refine W_block ?_|refine W_skip ?_|refine W_ret ?_|refine W_exit ?_|refine xb_hit ?_|refine xb_miss (by decide) ?_|(apply W_reg;(simp [h3, h5, h6, h7, hb1];exact .r _))
    refine W_cond (by simp [h3, h5, h6, h7, hb1]; exact .r _) (fun hcc => ?_) (fun hcc => ?_)
    · have hkl : k < x.tables[i].length := by simpa using hcc
      have hr := ht.2 _ (List.getElem_mem hkl)
      rw [chk_step hkl] at hek
      by_cases g1 : x.tables[i][k].length = x.views[i].head.length
      case neg =>
        have g1' : ¬ (x.tables[i][k].length : Int) = x.views[i].head.length := by omega
        repeat' first|refine W_seq ?_|refine W_block ?_|refine W_skip ?_|refine W_ret ?_|refine W_exit ?_|refine xb_hit ?_|refine xb_miss (by decide) ?_|(apply W_reg;(simp [h3, h5, h6, h7, hb1, hkl, hiv, g1'];exact .r _))|(apply W_draw (id := 10) [0,0,3,7,15,0,32,0,224,480,992,2016,4095,8191,16383,32767,65535,131071,131071,393215,1048575,2097151,131071,131071,12713983,29491199,67108863,134217727,268435455,536870911] rfl rfl; (· simp; exact .r _); (· simp [h3, h5, h6, h7, hb1, hkl, hiv, g1']; exact .r _); (· first|trivial|simp))
        refine W_cond (by simp [h3, h5, h6, h7, hb1]; exact .r _) (fun he => ?_) (fun he => ?_)
        · repeat' first|refine W_seq ?_|refine W_block ?_|refine W_skip ?_|refine W_ret ?_|refine W_exit ?_|refine xb_hit ?_|refine xb_miss (by decide) ?_|(apply W_reg;(simp [h3, h5, h6, h7, hb1];exact .r _))
          rw [heq]; simp [tblOk, hek, rowOk, g1]
        · cases he
      have g1' : (x.tables[i][k].length : Int) = x.views[i].head.length := by omega
      -- the order
      by_cases g2 : k = 0 ∨ cmpI x.tables[i][k - 1] x.tables[i][k] < 0
      case neg =>
        obtain ⟨k', rfl⟩ : ∃ k', k = k' + 1 := ⟨k - 1, by omega⟩
        have hk1 : k' < x.tables[i].length := by omega
        have he' : ¬ cmpI x.tables[i][k'] x.tables[i][k' + 1] < 0 := fun h => g2 (.inr h)
        have c5 := cv (l2Less_r x.tables[i][k'] x.tables[i][k' + 1] (ht.2 _ (List.getElem_mem hk1)))
        have wr2_ : IntKind.i64.wrap ((k' : Int)) = (k' : Int) := wrap_ok (by omega) (by omega)
        repeat' first|refine W_seq ?_|refine W_block ?_|refine W_skip ?_|refine W_ret ?_|refine W_exit ?_|refine xb_hit ?_|refine xb_miss (by decide) ?_|(apply W_reg;(simp [h3, h5, h6, h7, hb1, wr2_, hkl, hk1, hiv, g1', c5, he', show (0 : Int) < (k' : Int) + 1 by omega, show (0 : Int) ≤ (k' : Int) + 1 by omega, show ((k' : Int) + 1).toNat = k' + 1 by omega];exact .r _))|(apply W_draw (id := 10) [0,0,3,7,15,0,32,0,224,480,992,2016,4095,8191,16383,32767,65535,131071,131071,393215,1048575,2097151,131071,131071,12713983,29491199,67108863,134217727,268435455,536870911] rfl rfl; (· simp; exact .r _); (· simp [h3, h5, h6, h7, hb1, wr2_, hkl, hk1, hiv, g1', c5, he', show (0 : Int) < (k' : Int) + 1 by omega, show (0 : Int) ≤ (k' : Int) + 1 by omega, show ((k' : Int) + 1).toNat = k' + 1 by omega]; exact .r _); (· first|trivial|simp))
        refine W_cond (by simp [h3, h5, h6, h7, hb1, wr2_]; exact .r _) (fun he => ?_) (fun he => ?_)
        · repeat' first|refine W_seq ?_|refine W_block ?_|refine W_skip ?_|refine W_ret ?_|refine W_exit ?_|refine xb_hit ?_|refine xb_miss (by decide) ?_|(apply W_reg;(simp [h3, h5, h6, h7, hb1, wr2_];exact .r _))
          rw [heq]; simp [tblOk, hek, ltR, he']
        · cases he
      have gord : (k == 0 || ltR x.tables[i][k - 1] x.tables[i][k]) = true := by
        rcases g2 with g | g
        · simp [g]
        · simp [ltR, g]
      rw [gord, Bool.and_true] at hek
      rcases Nat.eq_zero_or_pos k with h0 | h0
      · repeat' first|refine W_seq ?_|refine W_block ?_|refine W_skip ?_|refine W_ret ?_|refine W_exit ?_|refine xb_hit ?_|refine xb_miss (by decide) ?_|(apply W_reg;(simp [h3, h5, h6, h7, hb1, hkl, hiv, g1', show ¬ 0 < k by omega];exact .r _))|(apply W_draw (id := 10) [0,0,3,7,15,0,32,0,224,480,992,2016,4095,8191,16383,32767,65535,131071,131071,393215,1048575,2097151,131071,131071,12713983,29491199,67108863,134217727,268435455,536870911] rfl rfl; (· simp; exact .r _); (· simp [h3, h5, h6, h7, hb1, hkl, hiv, g1', show ¬ 0 < k by omega]; exact .r _); (· first|trivial|simp))
        refine W_cond (by simp [h3, h5, h6, h7, hb1]; exact .r _) (fun he => ?_) (fun he => ?_)
        · cases he
        repeat' first|refine W_seq ?_|refine W_block ?_|refine W_skip ?_|refine W_ret ?_|refine W_exit ?_|refine xb_hit ?_|refine xb_miss (by decide) ?_|(apply W_reg;(simp [h3, h5, h6, h7, hb1];exact .r _))
        refine W_loop (n := x.tables[i][k].length) (fun n s => ∃ j : Nat, n = x.tables[i][k].length - j ∧ s.nt = 98 ∧ s.tm 3 = .ptr 1 0 ∧ s.tm 5 = In i ∧ s.tm 6 = Ar x.tables[i] ∧ s.tm 7 = In k ∧ s.tm 8 = In j ∧ j ≤ x.tables[i][k].length ∧ s.σ.ob 1 = .box [Ar x.views, Ar x.tables, In x.version] ∧ vals x.tables[i][k] = vals (x.tables[i][k].drop j)) ⟨0, by simp [h3, h5, h6, h7, hb1]⟩ ?_
        rintro n ⟨nt, tm, σ⟩ ⟨j, rfl, hnt, h3, h5, h6, h7, h8, hj, hb1, hev⟩
        simp only at hnt h3 h5 h6 h7 h8 hb1
        subst hnt
        repeat' first|refine W_seq ?_|refine W_block ?_|refine W_skip ?_|refine W_ret ?_|refine W_exit ?_|refine xb_hit ?_|refine xb_miss (by decide) ?_|(apply W_reg;(simp [h3, h5, h6, h7, h8, hb1, hkl];exact .r _))
        refine W_cond (by simp [h3, h5, h6, h7, h8, hb1]; exact .r _) (fun hcj => ?_) (fun hcj => ?_)
        · have hjl : j < x.tables[i][k].length := by simpa using hcj
          have c6 := cv (l1In_r x.tables[i][k][j] 0 99)
          rw [List.drop_eq_getElem_cons hjl, vals_cons] at hev
          cases g4 : inR x.tables[i][k][j] 0 99
          · repeat' first|refine W_seq ?_|refine W_block ?_|refine W_skip ?_|refine W_ret ?_|refine W_exit ?_|refine xb_hit ?_|refine xb_miss (by decide) ?_|(apply W_reg;(simp [h3, h5, h6, h7, h8, hb1, hkl, hjl, c6, g4];exact .r _))
            refine W_cond (by simp [h3, h5, h6, h7, h8, hb1]; exact .r _) (fun hz => ?_) (fun hz => ?_)
            · repeat' first|refine W_seq ?_|refine W_block ?_|refine W_skip ?_|refine W_ret ?_|refine W_exit ?_|refine xb_hit ?_|refine xb_miss (by decide) ?_|(apply W_reg;(simp [h3, h5, h6, h7, h8, hb1];exact .r _))
              rw [g4] at hev
              rw [heq]; simp [tblOk, hek, rowOk, hev]
            · cases hz
          · repeat' first|refine W_seq ?_|refine W_block ?_|refine W_skip ?_|refine W_ret ?_|refine W_exit ?_|refine xb_hit ?_|refine xb_miss (by decide) ?_|(apply W_reg;(simp [h3, h5, h6, h7, h8, hb1, hkl, hjl, c6, g4];exact .r _))
            refine W_cond (by simp [h3, h5, h6, h7, h8, hb1]; exact .r _) (fun hz => ?_) (fun hz => ?_)
            · cases hz
            repeat' first|refine W_seq ?_|refine W_block ?_|refine W_skip ?_|refine W_ret ?_|refine W_exit ?_|refine xb_hit ?_|refine xb_miss (by decide) ?_|(apply W_reg;(simp [h3, h5, h6, h7, h8, hb1];exact .r _))
            refine ⟨_, ?_, j + 1, rfl, rfl, ?_, ?_, ?_, ?_, ?_, by omega, ?_, (by rw [hev, g4]; rfl)⟩
            all_goals first|assumption|(simp [h3, h5, h6, h7, h8, hb1];done)|(simp [h3, h5, h6, h7, h8, hb1];omega)|(simp [h3, h5, h6, h7, h8, hb1];exact wrap_succ (by omega))|omega
        · have hjl : j = x.tables[i][k].length := by simp at hcj; omega
          subst hjl
          rw [List.drop_length, vals_nil] at hev
          repeat' first|refine W_seq ?_|refine W_block ?_|refine W_skip ?_|refine W_ret ?_|refine W_exit ?_|refine xb_hit ?_|refine xb_miss (by decide) ?_|(apply W_reg;(simp [h3, h5, h6, h7, h8, hb1];exact .r _))
          refine ⟨_, ?_, k + 1, rfl, rfl, ?_, ?_, ?_, ?_, by omega, ?_, (by rw [hek]; simp [rowOk, g1, hev])⟩
          all_goals first|assumption|(simp [h3, h5, h6, h7, hb1, hb1, h3, h5, h6, h7];done)|(simp [h3, h5, h6, h7, hb1, hb1, h3, h5, h6, h7];omega)|(simp [h3, h5, h6, h7, hb1, hb1, h3, h5, h6, h7];exact wrap_succ (by omega))|omega
      · have hlt : cmpI x.tables[i][k - 1] x.tables[i][k] < 0 := g2.resolve_left (by omega)
        have hk1 : k - 1 < x.tables[i].length := by omega
        have c5 := cv (l2Less_r x.tables[i][k - 1] x.tables[i][k] (ht.2 _ (List.getElem_mem hk1)))
        have wr3_ : IntKind.i64.wrap ((k : Int) - 1) = (k : Int) - 1 := wrap_ok (by omega) (by omega)
        repeat' first|refine W_seq ?_|refine W_block ?_|refine W_skip ?_|refine W_ret ?_|refine W_exit ?_|refine xb_hit ?_|refine xb_miss (by decide) ?_|(apply W_reg;(simp [h3, h5, h6, h7, hb1, wr3_, hkl, hk1, hiv, g1', c5, hlt, show 0 < k by omega, show (1 : Int) ≤ (k : Int) by omega, show ((k : Int) - 1).toNat = k - 1 by omega];exact .r _))|(apply W_draw (id := 10) [0,0,3,7,15,0,32,0,224,480,992,2016,4095,8191,16383,32767,65535,131071,131071,393215,1048575,2097151,131071,131071,12713983,29491199,67108863,134217727,268435455,536870911] rfl rfl; (· simp; exact .r _); (· simp [h3, h5, h6, h7, hb1, wr3_, hkl, hk1, hiv, g1', c5, hlt, show 0 < k by omega, show (1 : Int) ≤ (k : Int) by omega, show ((k : Int) - 1).toNat = k - 1 by omega]; exact .r _); (· first|trivial|simp))
        refine W_cond (by simp [h3, h5, h6, h7, hb1, wr3_]; exact .r _) (fun he => ?_) (fun he => ?_)
        · cases he
        repeat' first|refine W_seq ?_|refine W_block ?_|refine W_skip ?_|refine W_ret ?_|refine W_exit ?_|refine xb_hit ?_|refine xb_miss (by decide) ?_|(apply W_reg;(simp [h3, h5, h6, h7, hb1, wr3_];exact .r _))
        refine W_loop (n := x.tables[i][k].length) (fun n s => ∃ j : Nat, n = x.tables[i][k].length - j ∧ s.nt = 98 ∧ s.tm 3 = .ptr 1 0 ∧ s.tm 5 = In i ∧ s.tm 6 = Ar x.tables[i] ∧ s.tm 7 = In k ∧ s.tm 8 = In j ∧ j ≤ x.tables[i][k].length ∧ s.σ.ob 1 = .box [Ar x.views, Ar x.tables, In x.version] ∧ vals x.tables[i][k] = vals (x.tables[i][k].drop j)) ⟨0, by simp [h3, h5, h6, h7, hb1, wr3_]⟩ ?_
        rintro n ⟨nt, tm, σ⟩ ⟨j, rfl, hnt, h3, h5, h6, h7, h8, hj, hb1, hev⟩
        simp only at hnt h3 h5 h6 h7 h8 hb1
        subst hnt
        repeat' first|refine W_seq ?_|refine W_block ?_|refine W_skip ?_|refine W_ret ?_|refine W_exit ?_|refine xb_hit ?_|refine xb_miss (by decide) ?_|(apply W_reg;(simp [h3, h5, h6, h7, h8, hb1, hkl];exact .r _))
        refine W_cond (by simp [h3, h5, h6, h7, h8, hb1]; exact .r _) (fun hcj => ?_) (fun hcj => ?_)
        · have hjl : j < x.tables[i][k].length := by simpa using hcj
          have c6 := cv (l1In_r x.tables[i][k][j] 0 99)
          rw [List.drop_eq_getElem_cons hjl, vals_cons] at hev
          cases g4 : inR x.tables[i][k][j] 0 99
          · repeat' first|refine W_seq ?_|refine W_block ?_|refine W_skip ?_|refine W_ret ?_|refine W_exit ?_|refine xb_hit ?_|refine xb_miss (by decide) ?_|(apply W_reg;(simp [h3, h5, h6, h7, h8, hb1, hkl, hjl, c6, g4];exact .r _))
            refine W_cond (by simp [h3, h5, h6, h7, h8, hb1]; exact .r _) (fun hz => ?_) (fun hz => ?_)
            · repeat' first|refine W_seq ?_|refine W_block ?_|refine W_skip ?_|refine W_ret ?_|refine W_exit ?_|refine xb_hit ?_|refine xb_miss (by decide) ?_|(apply W_reg;(simp [h3, h5, h6, h7, h8, hb1];exact .r _))
              rw [g4] at hev
              rw [heq]; simp [tblOk, hek, rowOk, hev]
            · cases hz
          · repeat' first|refine W_seq ?_|refine W_block ?_|refine W_skip ?_|refine W_ret ?_|refine W_exit ?_|refine xb_hit ?_|refine xb_miss (by decide) ?_|(apply W_reg;(simp [h3, h5, h6, h7, h8, hb1, hkl, hjl, c6, g4];exact .r _))
            refine W_cond (by simp [h3, h5, h6, h7, h8, hb1]; exact .r _) (fun hz => ?_) (fun hz => ?_)
            · cases hz
            repeat' first|refine W_seq ?_|refine W_block ?_|refine W_skip ?_|refine W_ret ?_|refine W_exit ?_|refine xb_hit ?_|refine xb_miss (by decide) ?_|(apply W_reg;(simp [h3, h5, h6, h7, h8, hb1];exact .r _))
            refine ⟨_, ?_, j + 1, rfl, rfl, ?_, ?_, ?_, ?_, ?_, by omega, ?_, (by rw [hev, g4]; rfl)⟩
            all_goals first|assumption|(simp [h3, h5, h6, h7, h8, hb1];done)|(simp [h3, h5, h6, h7, h8, hb1];omega)|(simp [h3, h5, h6, h7, h8, hb1];exact wrap_succ (by omega))|omega
        · have hjl : j = x.tables[i][k].length := by simp at hcj; omega
          subst hjl
          rw [List.drop_length, vals_nil] at hev
          repeat' first|refine W_seq ?_|refine W_block ?_|refine W_skip ?_|refine W_ret ?_|refine W_exit ?_|refine xb_hit ?_|refine xb_miss (by decide) ?_|(apply W_reg;(simp [h3, h5, h6, h7, h8, hb1];exact .r _))
          refine ⟨_, ?_, k + 1, rfl, rfl, ?_, ?_, ?_, ?_, by omega, ?_, (by rw [hek]; simp [rowOk, g1, hev])⟩
          all_goals first|assumption|(simp [h3, h5, h6, h7, hb1, hb1, h3, h5, h6, h7];done)|(simp [h3, h5, h6, h7, hb1, hb1, h3, h5, h6, h7];omega)|(simp [h3, h5, h6, h7, hb1, hb1, h3, h5, h6, h7];exact wrap_succ (by omega))|omega
    · have hkl : k = x.tables[i].length := by simp at hcc; omega
      subst hkl
      rw [chk_end] at hek
      repeat' first|refine W_seq ?_|refine W_block ?_|refine W_skip ?_|refine W_ret ?_|refine W_exit ?_|refine xb_hit ?_|refine xb_miss (by decide) ?_|(apply W_reg;(simp [h3, h5, h6, h7, hb1];exact .r _))
      refine W_cond (by simp [h3, h5, h6, h7, hb1]; exact .r _) (fun hd => ?_) (fun hd => ?_)
      · have hd' : ¬ x.tables[i].length ≤ 90 := by simp at hd; omega
        repeat' first|refine W_seq ?_|refine W_block ?_|refine W_skip ?_|refine W_ret ?_|refine W_exit ?_|refine xb_hit ?_|refine xb_miss (by decide) ?_|(apply W_reg;(simp [h3, h5, h6, h7, hb1];exact .r _))
        rw [heq]
        simp [tblOk, hd']
      have hd' : x.tables[i].length ≤ 90 := by simp at hd; omega
      repeat' first|refine W_seq ?_|refine W_block ?_|refine W_skip ?_|refine W_ret ?_|refine W_exit ?_|refine xb_hit ?_|refine xb_miss (by decide) ?_|(apply W_reg;(simp [h3, h5, h6, h7, hb1];exact .r _))
      refine ⟨_, ?_, i + 1, rfl, rfl, ?_, ?_, by omega, ?_, by (rw [heq]; simp [tblOk, hd', hek])⟩
      all_goals first|assumption|(simp [h3, h5, hb1, hb1, h3, h5];done)|(simp [h3, h5, hb1, hb1, h3, h5];omega)|(simp [h3, h5, hb1, hb1, h3, h5];exact wrap_succ (by omega))|omega
  · have hil : i = x.tables.length := by simp at hc; omega
    subst hil
    rw [tabsOk_end] at heq
    repeat' first|refine W_seq ?_|refine W_block ?_|refine W_skip ?_|refine W_ret ?_|refine W_exit ?_|refine xb_hit ?_|refine xb_miss (by decide) ?_|(apply W_reg;(simp [h3, h5, hb1];exact .r _))
    simp [heq]
end Go.Proofs.YtmfifjbbjjdacaaGreat.V

namespace Go.Proofs.YtmfifjbbjjdacaaGreat.V
open Go Go.Proofs
set_option linter.unusedVariables false
set_option linter.unusedSimpArgs false
set_option maxRecDepth 20000 in
theorem eqfI_r (a b : List (List Int)) (g : Nat) (ha : Sm a) (hM : Ms g = false) (hp : ∀ x ∈ a, ∀ y : List Int, Ret XX g [Ar x, Ar y] (.t (.b (decide (x = y))) false)) : Ret XX 286 [Ar a, Ar b, .clo g []] (.t (.b (decide (a = b))) false) := by
  refine ret_W rfl Tryz.func286 rfl rfl (by simp [Tryz.f286]) ?_
  simp only [Tryz.f286]
  repeat' first|refine W_seq ?_|refine W_block ?_|refine W_skip ?_|refine W_ret ?_|refine W_exit ?_|refine xb_hit ?_|refine xb_miss (by decide) ?_|(apply W_reg;(simp;exact .r _))
  refine W_cond (by simp; exact .r _) (fun hc => ?_) (fun hc => ?_)
  · repeat' first|refine W_seq ?_|refine W_block ?_|refine W_skip ?_|refine W_ret ?_|refine W_exit ?_|refine xb_hit ?_|refine xb_miss (by decide) ?_|(apply W_reg;(simp;exact .r _))
    have : a ≠ b := fun e => by subst e; simp at hc
    simp [this]
  have hl : a.length = b.length := by simp at hc; omega
  repeat' first|refine W_seq ?_|refine W_block ?_|refine W_skip ?_|refine W_ret ?_|refine W_exit ?_|refine xb_hit ?_|refine xb_miss (by decide) ?_|(apply W_reg;(simp;exact .r _))
  refine W_loop (n := a.length) (fun n s => ∃ i : Nat, n = a.length - i ∧ s.nt = 32 ∧ s.tm 1 = Ar b ∧ s.tm 2 = .clo g [] ∧ s.tm 15 = Ar a ∧ s.tm 16 = In a.length ∧ s.tm 17 = In i ∧ i ≤ a.length ∧ a.take i = b.take i) ⟨0, by simp⟩ ?_
  rintro n ⟨nt, tm, σ⟩ ⟨i, rfl, hnt, h1, h2, h15, h16, h17, hi, heq⟩
  simp only at hnt h1 h2 h15 h16 h17
  subst hnt
  repeat' first|refine W_seq ?_|refine W_block ?_|refine W_skip ?_|refine W_ret ?_|refine W_exit ?_|refine xb_hit ?_|refine xb_miss (by decide) ?_|(apply W_reg;(simp [h1, h2, h15, h16, h17];exact .r _))
  refine W_cond (by simp [h1, h2, h15, h16, h17]; exact .r _) (fun hc => ?_) (fun hc => ?_)
  · have hia : i < a.length := by simpa using hc
    have hib : i < b.length := by omega
    have hcc := cv (hp a[i] (List.getElem_mem hia) b[i]) hM
    have hcall : ∀ σ, callV Ms XX σ g [Ar a[i], Ar b[i]] = some (.t (.b (decide (a[i] = b[i]))), σ) := fun σ => by rw [hcc σ [Ar a[i], Ar b[i]] (by simp)]; rfl
    skip
    repeat' first|refine W_seq ?_|refine W_block ?_|refine W_skip ?_|refine W_ret ?_|refine W_exit ?_|refine xb_hit ?_|refine xb_miss (by decide) ?_|(apply W_reg;(simp [h1, h2, h15, h16, h17, hia, hib, hcall];exact .r _))
    refine W_cond (by simp [h1, h2, h15, h16, h17]; exact .r _) (fun hd => ?_) (fun hd => ?_)
    · repeat' first|refine W_seq ?_|refine W_block ?_|refine W_skip ?_|refine W_ret ?_|refine W_exit ?_|refine xb_hit ?_|refine xb_miss (by decide) ?_|(apply W_reg;(simp [h1, h2, h15, h16, h17];exact .r _))
      have : a ≠ b := fun e => by subst e; simp at hd
      simp [this]
    · have hd : a[i] = b[i] := by simpa using hd
      repeat' first|refine W_seq ?_|refine W_block ?_|refine W_skip ?_|refine W_ret ?_|refine W_exit ?_|refine xb_hit ?_|refine xb_miss (by decide) ?_|(apply W_reg;(simp [h1, h2, h15, h16, h17];exact .r _))
      refine ⟨_, ?_, i + 1, rfl, rfl, ?_, ?_, ?_, ?_, ?_, by omega, by rw [List.take_succ_eq_append_getElem hia, List.take_succ_eq_append_getElem hib, heq, hd]⟩
      all_goals first|assumption|(simp [h1, h2, h15, h16, h17];done)|(simp [h1, h2, h15, h16, h17];omega)|(simp [h1, h2, h15, h16, h17];exact wrap_succ (by omega))|omega
  · have hil : i = a.length := by simp at hc; omega
    subst hil
    repeat' first|refine W_seq ?_|refine W_block ?_|refine W_skip ?_|refine W_ret ?_|refine W_exit ?_|refine xb_hit ?_|refine xb_miss (by decide) ?_|(apply W_reg;(simp [h1, h2, h15, h16, h17];exact .r _))
    rw [List.take_length, hl, List.take_length] at heq
    have : a = b := heq
    simp [this]
set_option maxRecDepth 20000 in
theorem eqfII_r (a b : List (List (List Int))) (g : Nat) (ha : Sm a) (hM : Ms g = false) (hp : ∀ x ∈ a, ∀ y : List (List Int), Ret XX g [Ar x, Ar y] (.t (.b (decide (x = y))) false)) : Ret XX 288 [Ar a, Ar b, .clo g []] (.t (.b (decide (a = b))) false) := by
  refine ret_W rfl Tryz.func288 rfl rfl (by simp [Tryz.f288]) ?_
  simp only [Tryz.f288]
  repeat' first|refine W_seq ?_|refine W_block ?_|refine W_skip ?_|refine W_ret ?_|refine W_exit ?_|refine xb_hit ?_|refine xb_miss (by decide) ?_|(apply W_reg;(simp;exact .r _))
  refine W_cond (by simp; exact .r _) (fun hc => ?_) (fun hc => ?_)
  · repeat' first|refine W_seq ?_|refine W_block ?_|refine W_skip ?_|refine W_ret ?_|refine W_exit ?_|refine xb_hit ?_|refine xb_miss (by decide) ?_|(apply W_reg;(simp;exact .r _))
    have : a ≠ b := fun e => by subst e; simp at hc
    simp [this]
  have hl : a.length = b.length := by simp at hc; omega
  repeat' first|refine W_seq ?_|refine W_block ?_|refine W_skip ?_|refine W_ret ?_|refine W_exit ?_|refine xb_hit ?_|refine xb_miss (by decide) ?_|(apply W_reg;(simp;exact .r _))
  refine W_loop (n := a.length) (fun n s => ∃ i : Nat, n = a.length - i ∧ s.nt = 32 ∧ s.tm 1 = Ar b ∧ s.tm 2 = .clo g [] ∧ s.tm 15 = Ar a ∧ s.tm 16 = In a.length ∧ s.tm 17 = In i ∧ i ≤ a.length ∧ a.take i = b.take i) ⟨0, by simp⟩ ?_
  rintro n ⟨nt, tm, σ⟩ ⟨i, rfl, hnt, h1, h2, h15, h16, h17, hi, heq⟩
  simp only at hnt h1 h2 h15 h16 h17
  subst hnt
  repeat' first|refine W_seq ?_|refine W_block ?_|refine W_skip ?_|refine W_ret ?_|refine W_exit ?_|refine xb_hit ?_|refine xb_miss (by decide) ?_|(apply W_reg;(simp [h1, h2, h15, h16, h17];exact .r _))
  refine W_cond (by simp [h1, h2, h15, h16, h17]; exact .r _) (fun hc => ?_) (fun hc => ?_)
  · have hia : i < a.length := by simpa using hc
    have hib : i < b.length := by omega
    have hcc := cv (hp a[i] (List.getElem_mem hia) b[i]) hM
    have hcall : ∀ σ, callV Ms XX σ g [Ar a[i], Ar b[i]] = some (.t (.b (decide (a[i] = b[i]))), σ) := fun σ => by rw [hcc σ [Ar a[i], Ar b[i]] (by simp)]; rfl
    skip
    repeat' first|refine W_seq ?_|refine W_block ?_|refine W_skip ?_|refine W_ret ?_|refine W_exit ?_|refine xb_hit ?_|refine xb_miss (by decide) ?_|(apply W_reg;(simp [h1, h2, h15, h16, h17, hia, hib, hcall];exact .r _))
    refine W_cond (by simp [h1, h2, h15, h16, h17]; exact .r _) (fun hd => ?_) (fun hd => ?_)
    · repeat' first|refine W_seq ?_|refine W_block ?_|refine W_skip ?_|refine W_ret ?_|refine W_exit ?_|refine xb_hit ?_|refine xb_miss (by decide) ?_|(apply W_reg;(simp [h1, h2, h15, h16, h17];exact .r _))
      have : a ≠ b := fun e => by subst e; simp at hd
      simp [this]
    · have hd : a[i] = b[i] := by simpa using hd
      repeat' first|refine W_seq ?_|refine W_block ?_|refine W_skip ?_|refine W_ret ?_|refine W_exit ?_|refine xb_hit ?_|refine xb_miss (by decide) ?_|(apply W_reg;(simp [h1, h2, h15, h16, h17];exact .r _))
      refine ⟨_, ?_, i + 1, rfl, rfl, ?_, ?_, ?_, ?_, ?_, by omega, by rw [List.take_succ_eq_append_getElem hia, List.take_succ_eq_append_getElem hib, heq, hd]⟩
      all_goals first|assumption|(simp [h1, h2, h15, h16, h17];done)|(simp [h1, h2, h15, h16, h17];omega)|(simp [h1, h2, h15, h16, h17];exact wrap_succ (by omega))|omega
  · have hil : i = a.length := by simp at hc; omega
    subst hil
    repeat' first|refine W_seq ?_|refine W_block ?_|refine W_skip ?_|refine W_ret ?_|refine W_exit ?_|refine xb_hit ?_|refine xb_miss (by decide) ?_|(apply W_reg;(simp [h1, h2, h15, h16, h17];exact .r _))
    rw [List.take_length, hl, List.take_length] at heq
    have : a = b := heq
    simp [this]
set_option maxRecDepth 20000 in
theorem eqfA_r (a b : List (RA)) (g : Nat) (ha : Sm a) (hM : Ms g = false) (hp : ∀ x ∈ a, ∀ y : RA, Ret XX g [Ag x, Ag y] (.t (.b (decide (x = y))) false)) : Ret XX 141 [Ar a, Ar b, .clo g []] (.t (.b (decide (a = b))) false) := by
  refine ret_W rfl Tryz.func141 rfl rfl (by simp [Tryz.f141]) ?_
  simp only [Tryz.f141]
  repeat' first|refine W_seq ?_|refine W_block ?_|refine W_skip ?_|refine W_ret ?_|refine W_exit ?_|refine xb_hit ?_|refine xb_miss (by decide) ?_|(apply W_reg;(simp;exact .r _))
  refine W_cond (by simp; exact .r _) (fun hc => ?_) (fun hc => ?_)
  · repeat' first|refine W_seq ?_|refine W_block ?_|refine W_skip ?_|refine W_ret ?_|refine W_exit ?_|refine xb_hit ?_|refine xb_miss (by decide) ?_|(apply W_reg;(simp;exact .r _))
    have : a ≠ b := fun e => by subst e; simp at hc
    simp [this]
  have hl : a.length = b.length := by simp at hc; omega
  repeat' first|refine W_seq ?_|refine W_block ?_|refine W_skip ?_|refine W_ret ?_|refine W_exit ?_|refine xb_hit ?_|refine xb_miss (by decide) ?_|(apply W_reg;(simp;exact .r _))
  refine W_loop (n := a.length) (fun n s => ∃ i : Nat, n = a.length - i ∧ s.nt = 32 ∧ s.tm 1 = Ar b ∧ s.tm 2 = .clo g [] ∧ s.tm 15 = Ar a ∧ s.tm 16 = In a.length ∧ s.tm 17 = In i ∧ i ≤ a.length ∧ a.take i = b.take i) ⟨0, by simp⟩ ?_
  rintro n ⟨nt, tm, σ⟩ ⟨i, rfl, hnt, h1, h2, h15, h16, h17, hi, heq⟩
  simp only at hnt h1 h2 h15 h16 h17
  subst hnt
  repeat' first|refine W_seq ?_|refine W_block ?_|refine W_skip ?_|refine W_ret ?_|refine W_exit ?_|refine xb_hit ?_|refine xb_miss (by decide) ?_|(apply W_reg;(simp [h1, h2, h15, h16, h17];exact .r _))
  refine W_cond (by simp [h1, h2, h15, h16, h17]; exact .r _) (fun hc => ?_) (fun hc => ?_)
  · have hia : i < a.length := by simpa using hc
    have hib : i < b.length := by omega
    have hcc := cv (hp a[i] (List.getElem_mem hia) b[i]) hM
    have hcall : ∀ σ, callV Ms XX σ g [Ag a[i], Ag b[i]] = some (.t (.b (decide (a[i] = b[i]))), σ) := fun σ => by rw [hcc σ [Ag a[i], Ag b[i]] (by simp [Ag])]; simp [Ag]
    simp only [Ag, cells_Q, cells_RA, List.map_cons, List.map_nil] at hcall
    repeat' first|refine W_seq ?_|refine W_block ?_|refine W_skip ?_|refine W_ret ?_|refine W_exit ?_|refine xb_hit ?_|refine xb_miss (by decide) ?_|(apply W_reg;(simp [h1, h2, h15, h16, h17, hia, hib, hcall];exact .r _))
    refine W_cond (by simp [h1, h2, h15, h16, h17]; exact .r _) (fun hd => ?_) (fun hd => ?_)
    · repeat' first|refine W_seq ?_|refine W_block ?_|refine W_skip ?_|refine W_ret ?_|refine W_exit ?_|refine xb_hit ?_|refine xb_miss (by decide) ?_|(apply W_reg;(simp [h1, h2, h15, h16, h17];exact .r _))
      have : a ≠ b := fun e => by subst e; simp at hd
      simp [this]
    · have hd : a[i] = b[i] := by simpa using hd
      repeat' first|refine W_seq ?_|refine W_block ?_|refine W_skip ?_|refine W_ret ?_|refine W_exit ?_|refine xb_hit ?_|refine xb_miss (by decide) ?_|(apply W_reg;(simp [h1, h2, h15, h16, h17];exact .r _))
      refine ⟨_, ?_, i + 1, rfl, rfl, ?_, ?_, ?_, ?_, ?_, by omega, by rw [List.take_succ_eq_append_getElem hia, List.take_succ_eq_append_getElem hib, heq, hd]⟩
      all_goals first|assumption|(simp [h1, h2, h15, h16, h17];done)|(simp [h1, h2, h15, h16, h17];omega)|(simp [h1, h2, h15, h16, h17];exact wrap_succ (by omega))|omega
  · have hil : i = a.length := by simp at hc; omega
    subst hil
    repeat' first|refine W_seq ?_|refine W_block ?_|refine W_skip ?_|refine W_ret ?_|refine W_exit ?_|refine xb_hit ?_|refine xb_miss (by decide) ?_|(apply W_reg;(simp [h1, h2, h15, h16, h17];exact .r _))
    rw [List.take_length, hl, List.take_length] at heq
    have : a = b := heq
    simp [this]
set_option maxRecDepth 20000 in
theorem eqfQ_r (a b : List (Qry)) (g : Nat) (ha : Sm a) (hM : Ms g = false) (hp : ∀ x ∈ a, ∀ y : Qry, Ret XX g [Ag x, Ag y] (.t (.b (decide (x = y))) false)) : Ret XX 287 [Ar a, Ar b, .clo g []] (.t (.b (decide (a = b))) false) := by
  refine ret_W rfl Tryz.func287 rfl rfl (by simp [Tryz.f287]) ?_
  simp only [Tryz.f287]
  repeat' first|refine W_seq ?_|refine W_block ?_|refine W_skip ?_|refine W_ret ?_|refine W_exit ?_|refine xb_hit ?_|refine xb_miss (by decide) ?_|(apply W_reg;(simp;exact .r _))
  refine W_cond (by simp; exact .r _) (fun hc => ?_) (fun hc => ?_)
  · repeat' first|refine W_seq ?_|refine W_block ?_|refine W_skip ?_|refine W_ret ?_|refine W_exit ?_|refine xb_hit ?_|refine xb_miss (by decide) ?_|(apply W_reg;(simp;exact .r _))
    have : a ≠ b := fun e => by subst e; simp at hc
    simp [this]
  have hl : a.length = b.length := by simp at hc; omega
  repeat' first|refine W_seq ?_|refine W_block ?_|refine W_skip ?_|refine W_ret ?_|refine W_exit ?_|refine xb_hit ?_|refine xb_miss (by decide) ?_|(apply W_reg;(simp;exact .r _))
  refine W_loop (n := a.length) (fun n s => ∃ i : Nat, n = a.length - i ∧ s.nt = 32 ∧ s.tm 1 = Ar b ∧ s.tm 2 = .clo g [] ∧ s.tm 15 = Ar a ∧ s.tm 16 = In a.length ∧ s.tm 17 = In i ∧ i ≤ a.length ∧ a.take i = b.take i) ⟨0, by simp⟩ ?_
  rintro n ⟨nt, tm, σ⟩ ⟨i, rfl, hnt, h1, h2, h15, h16, h17, hi, heq⟩
  simp only at hnt h1 h2 h15 h16 h17
  subst hnt
  repeat' first|refine W_seq ?_|refine W_block ?_|refine W_skip ?_|refine W_ret ?_|refine W_exit ?_|refine xb_hit ?_|refine xb_miss (by decide) ?_|(apply W_reg;(simp [h1, h2, h15, h16, h17];exact .r _))
  refine W_cond (by simp [h1, h2, h15, h16, h17]; exact .r _) (fun hc => ?_) (fun hc => ?_)
  · have hia : i < a.length := by simpa using hc
    have hib : i < b.length := by omega
    have hcc := cv (hp a[i] (List.getElem_mem hia) b[i]) hM
    have hcall : ∀ σ, callV Ms XX σ g [Ag a[i], Ag b[i]] = some (.t (.b (decide (a[i] = b[i]))), σ) := fun σ => by rw [hcc σ [Ag a[i], Ag b[i]] (by simp [Ag])]; simp [Ag]
    simp only [Ag, cells_Q, cells_RA, List.map_cons, List.map_nil] at hcall
    repeat' first|refine W_seq ?_|refine W_block ?_|refine W_skip ?_|refine W_ret ?_|refine W_exit ?_|refine xb_hit ?_|refine xb_miss (by decide) ?_|(apply W_reg;(simp [h1, h2, h15, h16, h17, hia, hib, hcall];exact .r _))
    refine W_cond (by simp [h1, h2, h15, h16, h17]; exact .r _) (fun hd => ?_) (fun hd => ?_)
    · repeat' first|refine W_seq ?_|refine W_block ?_|refine W_skip ?_|refine W_ret ?_|refine W_exit ?_|refine xb_hit ?_|refine xb_miss (by decide) ?_|(apply W_reg;(simp [h1, h2, h15, h16, h17];exact .r _))
      have : a ≠ b := fun e => by subst e; simp at hd
      simp [this]
    · have hd : a[i] = b[i] := by simpa using hd
      repeat' first|refine W_seq ?_|refine W_block ?_|refine W_skip ?_|refine W_ret ?_|refine W_exit ?_|refine xb_hit ?_|refine xb_miss (by decide) ?_|(apply W_reg;(simp [h1, h2, h15, h16, h17];exact .r _))
      refine ⟨_, ?_, i + 1, rfl, rfl, ?_, ?_, ?_, ?_, ?_, by omega, by rw [List.take_succ_eq_append_getElem hia, List.take_succ_eq_append_getElem hib, heq, hd]⟩
      all_goals first|assumption|(simp [h1, h2, h15, h16, h17];done)|(simp [h1, h2, h15, h16, h17];omega)|(simp [h1, h2, h15, h16, h17];exact wrap_succ (by omega))|omega
  · have hil : i = a.length := by simp at hc; omega
    subst hil
    repeat' first|refine W_seq ?_|refine W_block ?_|refine W_skip ?_|refine W_ret ?_|refine W_exit ?_|refine xb_hit ?_|refine xb_miss (by decide) ?_|(apply W_reg;(simp [h1, h2, h15, h16, h17];exact .r _))
    rw [List.take_length, hl, List.take_length] at heq
    have : a = b := heq
    simp [this]
theorem eqAtoms_d (a b : RA) (ha : Sm a.args) : Ret XX 21 [Ag a, Ag b] (.t (.b (decide (a = b))) false) := by
  have h := eqAtoms_r a b ha
  rwa [show decide (a.rel = b.rel ∧ a.args = b.args) = decide (a = b) from decide_eq_decide.2 ⟨fun h => by cases a; cases b; simp only at h; rw [h.1, h.2], fun h => by rw [h]; exact ⟨rfl, rfl⟩⟩] at h
theorem implEqQ_r (a b : Qry) (ha : SmQ a) : Ret XX 26 [Ag a, Ag b] (.t (.b (decide (a = b))) false) := by
  refine ret_W rfl Tryz.func26 rfl rfl (by simp [Tryz.f26]) ?_
  simp only [Tryz.f26]
  have c1 := cv (eqInts_r a.head b.head ha.1)
  have c2 := cv (eqfA_r a.body b.body 21 ha.2.1 rfl fun x hx y => eqAtoms_d x y (ha.2.2 x hx))
  by_cases h : a.head = b.head
  · repeat' first|refine W_seq ?_|refine W_block ?_|refine W_skip ?_|refine W_ret ?_|refine W_exit ?_|refine xb_hit ?_|refine xb_miss (by decide) ?_|(apply W_reg;(simp [Ag, c1, h, c2];exact .r _))
    have : a = b ↔ a.body = b.body := ⟨fun e => by rw [e], fun e => by cases a; cases b; simp only at h e; rw [h, e]⟩
    simp [this]
  · repeat' first|refine W_seq ?_|refine W_block ?_|refine W_skip ?_|refine W_ret ?_|refine W_exit ?_|refine xb_hit ?_|refine xb_miss (by decide) ?_|(apply W_reg;(simp [Ag, c1, h];exact .r _))
    have : a ≠ b := fun e => h (by rw [e])
    simp [this]
theorem implEqC_r (a b : Cch) (ha : SmC a) : Ret XX 220 [Ag a, Ag b] (.t (.b (decide (a = b))) false) := by
  refine ret_W rfl Tryz.func220 rfl rfl (by simp [Tryz.f220]) ?_
  simp only [Tryz.f220]
  obtain ⟨h1, h2, h3, h4⟩ := ha
  have hs : ∀ x ∈ a.tables, ∀ y : List Row, Ret XX 285 [Ar x, Ar y] (.t (.b (decide (x = y))) false) := fun x hx y => by
    refine ret_W rfl Tryz.func285 rfl rfl (by simp [Tryz.f285]) ?_
    simp only [Tryz.f285]
    have c1 := cv (eqfI_r x y 137 (h4 x hx).1 rfl fun u hu v => eqInts_r u v ((h4 x hx).2 u hu))
    repeat' first|refine W_seq ?_|refine W_block ?_|refine W_skip ?_|refine W_ret ?_|refine W_exit ?_|refine xb_hit ?_|refine xb_miss (by decide) ?_|(apply W_reg;(simp [c1];exact .r _))
    simp
  have c1 := cv (eqfQ_r a.views b.views 26 h1 rfl fun x hx y => implEqQ_r x y (h2 x hx))
  have c2 := cv (eqfII_r a.tables b.tables 285 h3 rfl hs)
  by_cases e1 : a.version = b.version
  · by_cases e2 : a.views = b.views
    · repeat' first|refine W_seq ?_|refine W_block ?_|refine W_skip ?_|refine W_ret ?_|refine W_exit ?_|refine xb_hit ?_|refine xb_miss (by decide) ?_|(apply W_reg;(simp [Ag, e1, c1, e2, c2];exact .r _))
      have : a = b ↔ a.tables = b.tables := ⟨fun e => by rw [e], fun e => by cases a; cases b; simp only at e1 e2 e; rw [e1, e2, e]⟩
      simp [this]
    · repeat' first|refine W_seq ?_|refine W_block ?_|refine W_skip ?_|refine W_ret ?_|refine W_exit ?_|refine xb_hit ?_|refine xb_miss (by decide) ?_|(apply W_reg;(simp [Ag, e1, c1, e2];exact .r _))
      have : a ≠ b := fun e => e2 (by rw [e])
      simp [this]
  · repeat' first|refine W_seq ?_|refine W_block ?_|refine W_skip ?_|refine W_ret ?_|refine W_exit ?_|refine xb_hit ?_|refine xb_miss (by decide) ?_|(apply W_reg;(simp [Ag, e1];exact .r _))
    have : a ≠ b := fun e => e1 (by rw [e])
    simp [this]
theorem specEqA_r (a b : RA) (ha : Sm a.args) : Ret XX 295 [Ag a, Ag b] (.t (.b (decide (a = b))) false) := by
  refine ret_W rfl Tryz.func295 rfl rfl (by simp [Tryz.f295]) ?_
  simp only [Tryz.f295]
  have c1 := cv (l2Ints_r a.args b.args ha)
  by_cases h : a.rel = b.rel
  · repeat' first|refine W_seq ?_|refine W_block ?_|refine W_skip ?_|refine W_ret ?_|refine W_exit ?_|refine xb_hit ?_|refine xb_miss (by decide) ?_|(apply W_reg;(simp [Ag, c1, h];exact .r _))
    have : a = b ↔ a.args = b.args := ⟨fun e => by rw [e], fun e => by cases a; cases b; simp only at h e; rw [h, e]⟩
    simp [this]
  · repeat' first|refine W_seq ?_|refine W_block ?_|refine W_skip ?_|refine W_ret ?_|refine W_exit ?_|refine xb_hit ?_|refine xb_miss (by decide) ?_|(apply W_reg;(simp [Ag, h];exact .r _))
    have : a ≠ b := fun e => h (by rw [e])
    simp [this]
theorem specEqQ_r (a b : Qry) (ha : SmQ a) : Ret XX 229 [Ag a, Ag b] (.t (.b (decide (a = b))) false) := by
  refine ret_W rfl Tryz.func229 rfl rfl (by simp [Tryz.f229]) ?_
  simp only [Tryz.f229]
  have c1 := cv (l2Ints_r a.head b.head ha.1)
  by_cases h : a.head = b.head
  case neg =>
    repeat' first|refine W_seq ?_|refine W_block ?_|refine W_skip ?_|refine W_ret ?_|refine W_exit ?_|refine xb_hit ?_|refine xb_miss (by decide) ?_|(apply W_reg;(simp [Ag, c1, h];exact .r _))|(apply W_draw (id := 6) [0,1,0,7,15,0,32,0,224,480,1023,2047] rfl rfl; (· simp; exact .r _); (· simp [Ag, c1, h]; exact .r _); (· first|trivial|simp))
    refine W_cond (by simp; exact .r _) (fun hc => ?_) (fun hc => ?_)
    · repeat' first|refine W_seq ?_|refine W_block ?_|refine W_skip ?_|refine W_ret ?_|refine W_exit ?_|refine xb_hit ?_|refine xb_miss (by decide) ?_|(apply W_reg;(simp;exact .r _))|(apply W_draw (id := 6) [0,1,0,7,15,0,32,0,224,480,1023,2047] rfl rfl; (· simp; exact .r _); (· simp; exact .r _); (· first|trivial|simp))
      have : a ≠ b := fun e => h (by rw [e])
      simp [this]
    · cases hc
  obtain ⟨ah, ab⟩ := a
  obtain ⟨bh, bb⟩ := b
  simp only at h
  subst h
  simp only [SmQ] at ha
  by_cases hl : ab.length = bb.length
  case neg =>
    repeat' first|refine W_seq ?_|refine W_block ?_|refine W_skip ?_|refine W_ret ?_|refine W_exit ?_|refine xb_hit ?_|refine xb_miss (by decide) ?_|(apply W_reg;(simp [Ag, c1, show ¬ (ab.length : Int) = bb.length by omega];exact .r _))|(apply W_draw (id := 6) [0,1,0,7,15,0,32,0,224,480,1023,2047] rfl rfl; (· simp; exact .r _); (· simp [Ag, c1, show ¬ (ab.length : Int) = bb.length by omega]; exact .r _); (· first|trivial|simp))
    refine W_cond (by simp; exact .r _) (fun hc => ?_) (fun hc => ?_)
    · repeat' first|refine W_seq ?_|refine W_block ?_|refine W_skip ?_|refine W_ret ?_|refine W_exit ?_|refine xb_hit ?_|refine xb_miss (by decide) ?_|(apply W_reg;(simp;exact .r _))|(apply W_draw (id := 6) [0,1,0,7,15,0,32,0,224,480,1023,2047] rfl rfl; (· simp; exact .r _); (· simp; exact .r _); (· first|trivial|simp))
      have : ab ≠ bb := fun e => hl (by rw [e])
      simp [this]
    · cases hc
  repeat' first|refine W_seq ?_|refine W_block ?_|refine W_skip ?_|refine W_ret ?_|refine W_exit ?_|refine xb_hit ?_|refine xb_miss (by decide) ?_|(apply W_reg;(simp [Ag, c1, show (ab.length : Int) = bb.length by omega];exact .r _))|(apply W_draw (id := 6) [0,1,0,7,15,0,32,0,224,480,1023,2047] rfl rfl; (· simp; exact .r _); (· simp [Ag, c1, show (ab.length : Int) = bb.length by omega]; exact .r _); (· first|trivial|simp))
  refine W_cond (by simp; exact .r _) (fun hc => ?_) (fun hc => ?_)
  · cases hc
  repeat' first|refine W_seq ?_|refine W_block ?_|refine W_skip ?_|refine W_ret ?_|refine W_exit ?_|refine xb_hit ?_|refine xb_miss (by decide) ?_|(apply W_reg;(simp;exact .r _))|(apply W_draw (id := 6) [0,1,0,7,15,0,32,0,224,480,1023,2047] rfl rfl; (· simp; exact .r _); (· simp; exact .r _); (· first|trivial|simp))
  refine W_loop (n := ab.length) (fun n s => ∃ i : Nat, n = ab.length - i ∧ s.nt = 40 ∧ s.tm 2 = .ptr 0 0 ∧ s.tm 3 = .ptr 1 0 ∧ s.tm 5 = In i ∧ i ≤ ab.length ∧ s.σ.ob 0 = .box [Ar ah, Ar ab] ∧ s.σ.ob 1 = .box [Ar ah, Ar bb] ∧ ab.take i = bb.take i) ⟨0, by simp⟩ ?_
  rintro n ⟨nt, tm, σ⟩ ⟨i, rfl, hnt, h2, h3, h5, hi, hb0, hb1, heq⟩
  simp only at hnt h2 h3 h5 hb0 hb1
  subst hnt
  repeat' first|refine W_seq ?_|refine W_block ?_|refine W_skip ?_|refine W_ret ?_|refine W_exit ?_|refine xb_hit ?_|refine xb_miss (by decide) ?_|(apply W_reg;(simp [h2, h3, h5, hb0, hb1];exact .r _))|(apply W_draw (id := 6) [0,1,0,7,15,0,32,0,224,480,1023,2047] rfl rfl; (· simp; exact .r _); (· simp [h2, h3, h5, hb0, hb1]; exact .r _); (· first|trivial|simp))
  refine W_cond (by simp [h2, h3, h5, hb0, hb1]; exact .r _) (fun hc => ?_) (fun hc => ?_)
  · have hia : i < ab.length := by simpa using hc
    have hib : i < bb.length := by omega
    have c2 := cv (specEqA_r ab[i] bb[i] (ha.2.2 _ (List.getElem_mem hia)))
    simp only [Ag, cells_RA, List.map_cons, List.map_nil] at c2
    repeat' first|refine W_seq ?_|refine W_block ?_|refine W_skip ?_|refine W_ret ?_|refine W_exit ?_|refine xb_hit ?_|refine xb_miss (by decide) ?_|(apply W_reg;(simp [h2, h3, h5, hb0, hb1, hia, hib, c2];exact .r _))|(apply W_draw (id := 6) [0,1,0,7,15,0,32,0,224,480,1023,2047] rfl rfl; (· simp; exact .r _); (· simp [h2, h3, h5, hb0, hb1, hia, hib, c2]; exact .r _); (· first|trivial|simp))
    refine W_cond (by simp [h2, h3, h5, hb0, hb1]; exact .r _) (fun hd => ?_) (fun hd => ?_)
    · repeat' first|refine W_seq ?_|refine W_block ?_|refine W_skip ?_|refine W_ret ?_|refine W_exit ?_|refine xb_hit ?_|refine xb_miss (by decide) ?_|(apply W_reg;(simp [h2, h3, h5, hb0, hb1];exact .r _))|(apply W_draw (id := 6) [0,1,0,7,15,0,32,0,224,480,1023,2047] rfl rfl; (· simp; exact .r _); (· simp [h2, h3, h5, hb0, hb1]; exact .r _); (· first|trivial|simp))
      have : ab ≠ bb := fun e => by subst e; simp at hd
      simp [this]
    · have hd : ab[i] = bb[i] := by simpa using hd
      repeat' first|refine W_seq ?_|refine W_block ?_|refine W_skip ?_|refine W_ret ?_|refine W_exit ?_|refine xb_hit ?_|refine xb_miss (by decide) ?_|(apply W_reg;(simp [h2, h3, h5, hb0, hb1];exact .r _))|(apply W_draw (id := 6) [0,1,0,7,15,0,32,0,224,480,1023,2047] rfl rfl; (· simp; exact .r _); (· simp [h2, h3, h5, hb0, hb1]; exact .r _); (· first|trivial|simp))
      refine ⟨_, ?_, i + 1, rfl, rfl, ?_, ?_, ?_, by omega, ?_, ?_, by rw [List.take_succ_eq_append_getElem hia, List.take_succ_eq_append_getElem hib, heq, hd]⟩
      all_goals first|assumption|(simp [h2, h3, h5, hb0, hb1];done)|(simp [h2, h3, h5, hb0, hb1];omega)|(simp [h2, h3, h5, hb0, hb1];exact wrap_succ (by omega))|omega
  · have hil : i = ab.length := by simp at hc; omega
    subst hil
    repeat' first|refine W_seq ?_|refine W_block ?_|refine W_skip ?_|refine W_ret ?_|refine W_exit ?_|refine xb_hit ?_|refine xb_miss (by decide) ?_|(apply W_reg;(simp [h2, h3, h5, hb0, hb1];exact .r _))|(apply W_draw (id := 6) [0,1,0,7,15,0,32,0,224,480,1023,2047] rfl rfl; (· simp; exact .r _); (· simp [h2, h3, h5, hb0, hb1]; exact .r _); (· first|trivial|simp))
    rw [List.take_length, hl, List.take_length] at heq
    have : ab = bb := heq
    simp [this]
theorem l18Tables_r (a b : List (List Row)) (ha : Sm a) (h : ∀ t ∈ a, Sm t ∧ ∀ r ∈ t, Sm r) : Ret XX 228 [Ar a, Ar b] (.t (.b (decide (a = b))) false) := by
  refine ret_W rfl Tryz.func228 rfl rfl (by simp [Tryz.f228]) ?_
  simp only [Tryz.f228]
  repeat' first|refine W_seq ?_|refine W_block ?_|refine W_skip ?_|refine W_ret ?_|refine W_exit ?_|refine xb_hit ?_|refine xb_miss (by decide) ?_|(apply W_reg;(simp;exact .r _))|(apply W_draw (id := 6) [0,0,3,7,15,0,0,96,224,480,1023] rfl rfl; (· simp; exact .r _); (· simp; exact .r _); (· first|trivial|simp))|(apply W_draw (id := 11) [0,0,3,7,0,31,63,0,0,384,896,0,3968,8064,16383,32767] rfl rfl; (· simp; exact .r _); (· simp; exact .r _); (· first|trivial|simp))
  refine W_cond (by simp; exact .r _) (fun hc => ?_) (fun hc => ?_)
  · repeat' first|refine W_seq ?_|refine W_block ?_|refine W_skip ?_|refine W_ret ?_|refine W_exit ?_|refine xb_hit ?_|refine xb_miss (by decide) ?_|(apply W_reg;(simp;exact .r _))|(apply W_draw (id := 6) [0,0,3,7,15,0,0,96,224,480,1023] rfl rfl; (· simp; exact .r _); (· simp; exact .r _); (· first|trivial|simp))|(apply W_draw (id := 11) [0,0,3,7,0,31,63,0,0,384,896,0,3968,8064,16383,32767] rfl rfl; (· simp; exact .r _); (· simp; exact .r _); (· first|trivial|simp))
    have : a ≠ b := fun e => by subst e; simp at hc
    simp [this]
  have hl : a.length = b.length := by simp at hc; omega
  repeat' first|refine W_seq ?_|refine W_block ?_|refine W_skip ?_|refine W_ret ?_|refine W_exit ?_|refine xb_hit ?_|refine xb_miss (by decide) ?_|(apply W_reg;(simp;exact .r _))|(apply W_draw (id := 6) [0,0,3,7,15,0,0,96,224,480,1023] rfl rfl; (· simp; exact .r _); (· simp; exact .r _); (· first|trivial|simp))|(apply W_draw (id := 11) [0,0,3,7,0,31,63,0,0,384,896,0,3968,8064,16383,32767] rfl rfl; (· simp; exact .r _); (· simp; exact .r _); (· first|trivial|simp))
  refine W_loop (n := a.length) (fun n s => ∃ i : Nat, n = a.length - i ∧ s.nt = 54 ∧ s.tm 0 = Ar a ∧ s.tm 1 = Ar b ∧ s.tm 5 = In i ∧ i ≤ a.length ∧ a.take i = b.take i) ⟨0, by simp⟩ ?_
  rintro n ⟨nt, tm, σ⟩ ⟨i, rfl, hnt, h0, h1, h5, hi, heq⟩
  simp only at hnt h0 h1 h5
  subst hnt
  repeat' first|refine W_seq ?_|refine W_block ?_|refine W_skip ?_|refine W_ret ?_|refine W_exit ?_|refine xb_hit ?_|refine xb_miss (by decide) ?_|(apply W_reg;(simp [h0, h1, h5];exact .r _))|(apply W_draw (id := 6) [0,0,3,7,15,0,0,96,224,480,1023] rfl rfl; (· simp; exact .r _); (· simp [h0, h1, h5]; exact .r _); (· first|trivial|simp))|(apply W_draw (id := 11) [0,0,3,7,0,31,63,0,0,384,896,0,3968,8064,16383,32767] rfl rfl; (· simp; exact .r _); (· simp [h0, h1, h5]; exact .r _); (· first|trivial|simp))
  refine W_cond (by simp [h0, h1, h5]; exact .r _) (fun hc => ?_) (fun hc => ?_)
  · have hia : i < a.length := by simpa using hc
    have hib : i < b.length := by omega
    have ht := h _ (List.getElem_mem hia)
    repeat' first|refine W_seq ?_|refine W_block ?_|refine W_skip ?_|refine W_ret ?_|refine W_exit ?_|refine xb_hit ?_|refine xb_miss (by decide) ?_|(apply W_reg;(simp [h0, h1, h5, hia, hib];exact .r _))|(apply W_draw (id := 6) [0,0,3,7,15,0,0,96,224,480,1023] rfl rfl; (· simp; exact .r _); (· simp [h0, h1, h5, hia, hib]; exact .r _); (· first|trivial|simp))|(apply W_draw (id := 11) [0,0,3,7,0,31,63,0,0,384,896,0,3968,8064,16383,32767] rfl rfl; (· simp; exact .r _); (· simp [h0, h1, h5, hia, hib]; exact .r _); (· first|trivial|simp))
    refine W_cond (by simp [h0, h1, h5]; exact .r _) (fun hd => ?_) (fun hd => ?_)
    · repeat' first|refine W_seq ?_|refine W_block ?_|refine W_skip ?_|refine W_ret ?_|refine W_exit ?_|refine xb_hit ?_|refine xb_miss (by decide) ?_|(apply W_reg;(simp [h0, h1, h5];exact .r _))|(apply W_draw (id := 6) [0,0,3,7,15,0,0,96,224,480,1023] rfl rfl; (· simp; exact .r _); (· simp [h0, h1, h5]; exact .r _); (· first|trivial|simp))|(apply W_draw (id := 11) [0,0,3,7,0,31,63,0,0,384,896,0,3968,8064,16383,32767] rfl rfl; (· simp; exact .r _); (· simp [h0, h1, h5]; exact .r _); (· first|trivial|simp))
      have : a ≠ b := fun e => by subst e; simp at hd
      simp [this]
    have hll : a[i].length = b[i].length := by simp at hd; omega
    repeat' first|refine W_seq ?_|refine W_block ?_|refine W_skip ?_|refine W_ret ?_|refine W_exit ?_|refine xb_hit ?_|refine xb_miss (by decide) ?_|(apply W_reg;(simp [h0, h1, h5];exact .r _))|(apply W_draw (id := 6) [0,0,3,7,15,0,0,96,224,480,1023] rfl rfl; (· simp; exact .r _); (· simp [h0, h1, h5]; exact .r _); (· first|trivial|simp))|(apply W_draw (id := 11) [0,0,3,7,0,31,63,0,0,384,896,0,3968,8064,16383,32767] rfl rfl; (· simp; exact .r _); (· simp [h0, h1, h5]; exact .r _); (· first|trivial|simp))
    refine W_loop (n := a[i].length) (fun n s => ∃ k : Nat, n = a[i].length - k ∧ s.nt = 54 ∧ s.tm 0 = Ar a ∧ s.tm 1 = Ar b ∧ s.tm 5 = In i ∧ s.tm 6 = In k ∧ k ≤ a[i].length ∧ a[i].take k = b[i].take k) ⟨0, by simp [h0, h1, h5]⟩ ?_
    rintro n ⟨nt, tm, σ⟩ ⟨k, rfl, hnt, h0, h1, h5, h6, hk, hek⟩
    simp only at hnt h0 h1 h5 h6
    subst hnt
    repeat' first|refine W_seq ?_|refine W_block ?_|refine W_skip ?_|refine W_ret ?_|refine W_exit ?_|refine xb_hit ?_|refine xb_miss (by decide) ?_|(apply W_reg;(simp [h0, h1, h5, h6, hia];exact .r _))|(apply W_draw (id := 6) [0,0,3,7,15,0,0,96,224,480,1023] rfl rfl; (· simp; exact .r _); (· simp [h0, h1, h5, h6, hia]; exact .r _); (· first|trivial|simp))|(apply W_draw (id := 11) [0,0,3,7,0,31,63,0,0,384,896,0,3968,8064,16383,32767] rfl rfl; (· simp; exact .r _); (· simp [h0, h1, h5, h6, hia]; exact .r _); (· first|trivial|simp))
    refine W_cond (by simp [h0, h1, h5, h6]; exact .r _) (fun hcc => ?_) (fun hcc => ?_)
    · have hka : k < a[i].length := by simpa using hcc
      have hkb : k < b[i].length := by omega
      have c2 := cv (l2Ints_r a[i][k] b[i][k] (ht.2 _ (List.getElem_mem hka)))
      repeat' first|refine W_seq ?_|refine W_block ?_|refine W_skip ?_|refine W_ret ?_|refine W_exit ?_|refine xb_hit ?_|refine xb_miss (by decide) ?_|(apply W_reg;(simp [h0, h1, h5, h6, hia, hib, hka, hkb, c2];exact .r _))|(apply W_draw (id := 6) [0,0,3,7,15,0,0,96,224,480,1023] rfl rfl; (· simp; exact .r _); (· simp [h0, h1, h5, h6, hia, hib, hka, hkb, c2]; exact .r _); (· first|trivial|simp))|(apply W_draw (id := 11) [0,0,3,7,0,31,63,0,0,384,896,0,3968,8064,16383,32767] rfl rfl; (· simp; exact .r _); (· simp [h0, h1, h5, h6, hia, hib, hka, hkb, c2]; exact .r _); (· first|trivial|simp))
      refine W_cond (by simp [h0, h1, h5, h6]; exact .r _) (fun hz => ?_) (fun hz => ?_)
      · repeat' first|refine W_seq ?_|refine W_block ?_|refine W_skip ?_|refine W_ret ?_|refine W_exit ?_|refine xb_hit ?_|refine xb_miss (by decide) ?_|(apply W_reg;(simp [h0, h1, h5, h6];exact .r _))|(apply W_draw (id := 6) [0,0,3,7,15,0,0,96,224,480,1023] rfl rfl; (· simp; exact .r _); (· simp [h0, h1, h5, h6]; exact .r _); (· first|trivial|simp))|(apply W_draw (id := 11) [0,0,3,7,0,31,63,0,0,384,896,0,3968,8064,16383,32767] rfl rfl; (· simp; exact .r _); (· simp [h0, h1, h5, h6]; exact .r _); (· first|trivial|simp))
        have : a ≠ b := fun e => by subst e; simp at hz
        simp [this]
      · have hz : a[i][k] = b[i][k] := by simpa using hz
        repeat' first|refine W_seq ?_|refine W_block ?_|refine W_skip ?_|refine W_ret ?_|refine W_exit ?_|refine xb_hit ?_|refine xb_miss (by decide) ?_|(apply W_reg;(simp [h0, h1, h5, h6];exact .r _))|(apply W_draw (id := 6) [0,0,3,7,15,0,0,96,224,480,1023] rfl rfl; (· simp; exact .r _); (· simp [h0, h1, h5, h6]; exact .r _); (· first|trivial|simp))|(apply W_draw (id := 11) [0,0,3,7,0,31,63,0,0,384,896,0,3968,8064,16383,32767] rfl rfl; (· simp; exact .r _); (· simp [h0, h1, h5, h6]; exact .r _); (· first|trivial|simp))
        refine ⟨_, ?_, k + 1, rfl, rfl, ?_, ?_, ?_, ?_, by omega, by rw [List.take_succ_eq_append_getElem hka, List.take_succ_eq_append_getElem hkb, hek, hz]⟩
        all_goals first|assumption|(simp [h0, h1, h5, h6];done)|(simp [h0, h1, h5, h6];omega)|(simp [h0, h1, h5, h6];exact wrap_succ (by omega))|omega
    · have hkl : k = a[i].length := by simp at hcc; omega
      subst hkl
      rw [List.take_length, hll, List.take_length] at hek
      repeat' first|refine W_seq ?_|refine W_block ?_|refine W_skip ?_|refine W_ret ?_|refine W_exit ?_|refine xb_hit ?_|refine xb_miss (by decide) ?_|(apply W_reg;(simp [h0, h1, h5, h6];exact .r _))|(apply W_draw (id := 6) [0,0,3,7,15,0,0,96,224,480,1023] rfl rfl; (· simp; exact .r _); (· simp [h0, h1, h5, h6]; exact .r _); (· first|trivial|simp))|(apply W_draw (id := 11) [0,0,3,7,0,31,63,0,0,384,896,0,3968,8064,16383,32767] rfl rfl; (· simp; exact .r _); (· simp [h0, h1, h5, h6]; exact .r _); (· first|trivial|simp))
      refine ⟨_, ?_, i + 1, rfl, rfl, ?_, ?_, ?_, by omega, by rw [List.take_succ_eq_append_getElem hia, List.take_succ_eq_append_getElem hib, heq, hek]⟩
      all_goals first|assumption|(simp [h0, h1, h5, h0, h1, h5];done)|(simp [h0, h1, h5, h0, h1, h5];omega)|(simp [h0, h1, h5, h0, h1, h5];exact wrap_succ (by omega))|omega
  · have hil : i = a.length := by simp at hc; omega
    subst hil
    repeat' first|refine W_seq ?_|refine W_block ?_|refine W_skip ?_|refine W_ret ?_|refine W_exit ?_|refine xb_hit ?_|refine xb_miss (by decide) ?_|(apply W_reg;(simp [h0, h1, h5];exact .r _))|(apply W_draw (id := 6) [0,0,3,7,15,0,0,96,224,480,1023] rfl rfl; (· simp; exact .r _); (· simp [h0, h1, h5]; exact .r _); (· first|trivial|simp))|(apply W_draw (id := 11) [0,0,3,7,0,31,63,0,0,384,896,0,3968,8064,16383,32767] rfl rfl; (· simp; exact .r _); (· simp [h0, h1, h5]; exact .r _); (· first|trivial|simp))
    rw [List.take_length, hl, List.take_length] at heq
    have : a = b := heq
    simp [this]
theorem specEqC_r (a b : Cch) (ha : SmC a) : Ret XX 101 [Ag a, Ag b] (.t (.b (decide (a = b))) false) := by
  refine ret_W rfl Tryz.func101 rfl rfl (by simp [Tryz.f101]) ?_
  simp only [Tryz.f101]
  obtain ⟨hq1, hq2, hq3, hq4⟩ := ha
  have c1 := cv (l18Tables_r a.tables b.tables hq3 hq4)
  by_cases hl : a.views.length = b.views.length
  case neg =>
    repeat' first|refine W_seq ?_|refine W_block ?_|refine W_skip ?_|refine W_ret ?_|refine W_exit ?_|refine xb_hit ?_|refine xb_miss (by decide) ?_|(apply W_reg;(simp [Ag, show ¬ (a.views.length : Int) = b.views.length by omega];exact .r _))|(apply W_draw (id := 6) [0,1,0,7,15,0,32,0,224,480,1023,2047] rfl rfl; (· simp; exact .r _); (· simp [Ag, show ¬ (a.views.length : Int) = b.views.length by omega]; exact .r _); (· first|trivial|simp))
    refine W_cond (by simp; exact .r _) (fun hc => ?_) (fun hc => ?_)
    · repeat' first|refine W_seq ?_|refine W_block ?_|refine W_skip ?_|refine W_ret ?_|refine W_exit ?_|refine xb_hit ?_|refine xb_miss (by decide) ?_|(apply W_reg;(simp;exact .r _))|(apply W_draw (id := 6) [0,1,0,7,15,0,32,0,224,480,1023,2047] rfl rfl; (· simp; exact .r _); (· simp; exact .r _); (· first|trivial|simp))
      have : a ≠ b := fun e => hl (by rw [e])
      simp [this]
    · cases hc
  have hl' : (a.views.length : Int) = b.views.length := by omega
  by_cases hv : a.version = b.version
  case neg =>
    repeat' first|refine W_seq ?_|refine W_block ?_|refine W_skip ?_|refine W_ret ?_|refine W_exit ?_|refine xb_hit ?_|refine xb_miss (by decide) ?_|(apply W_reg;(simp [Ag, hl', hv];exact .r _))|(apply W_draw (id := 6) [0,1,0,7,15,0,32,0,224,480,1023,2047] rfl rfl; (· simp; exact .r _); (· simp [Ag, hl', hv]; exact .r _); (· first|trivial|simp))
    refine W_cond (by simp; exact .r _) (fun hc => ?_) (fun hc => ?_)
    · repeat' first|refine W_seq ?_|refine W_block ?_|refine W_skip ?_|refine W_ret ?_|refine W_exit ?_|refine xb_hit ?_|refine xb_miss (by decide) ?_|(apply W_reg;(simp;exact .r _))|(apply W_draw (id := 6) [0,1,0,7,15,0,32,0,224,480,1023,2047] rfl rfl; (· simp; exact .r _); (· simp; exact .r _); (· first|trivial|simp))
      have : a ≠ b := fun e => hv (by rw [e])
      simp [this]
    · cases hc
  by_cases ht : a.tables = b.tables
  case neg =>
    repeat' first|refine W_seq ?_|refine W_block ?_|refine W_skip ?_|refine W_ret ?_|refine W_exit ?_|refine xb_hit ?_|refine xb_miss (by decide) ?_|(apply W_reg;(simp [Ag, hl', hv, c1, ht];exact .r _))|(apply W_draw (id := 6) [0,1,0,7,15,0,32,0,224,480,1023,2047] rfl rfl; (· simp; exact .r _); (· simp [Ag, hl', hv, c1, ht]; exact .r _); (· first|trivial|simp))
    refine W_cond (by simp; exact .r _) (fun hc => ?_) (fun hc => ?_)
    · repeat' first|refine W_seq ?_|refine W_block ?_|refine W_skip ?_|refine W_ret ?_|refine W_exit ?_|refine xb_hit ?_|refine xb_miss (by decide) ?_|(apply W_reg;(simp;exact .r _))|(apply W_draw (id := 6) [0,1,0,7,15,0,32,0,224,480,1023,2047] rfl rfl; (· simp; exact .r _); (· simp; exact .r _); (· first|trivial|simp))
      have : a ≠ b := fun e => ht (by rw [e])
      simp [this]
    · cases hc
  repeat' first|refine W_seq ?_|refine W_block ?_|refine W_skip ?_|refine W_ret ?_|refine W_exit ?_|refine xb_hit ?_|refine xb_miss (by decide) ?_|(apply W_reg;(simp [Ag, hl', hv, c1, ht];exact .r _))|(apply W_draw (id := 6) [0,1,0,7,15,0,32,0,224,480,1023,2047] rfl rfl; (· simp; exact .r _); (· simp [Ag, hl', hv, c1, ht]; exact .r _); (· first|trivial|simp))
  refine W_cond (by simp; exact .r _) (fun hc => ?_) (fun hc => ?_)
  · cases hc
  repeat' first|refine W_seq ?_|refine W_block ?_|refine W_skip ?_|refine W_ret ?_|refine W_exit ?_|refine xb_hit ?_|refine xb_miss (by decide) ?_|(apply W_reg;(simp;exact .r _))|(apply W_draw (id := 6) [0,1,0,7,15,0,32,0,224,480,1023,2047] rfl rfl; (· simp; exact .r _); (· simp; exact .r _); (· first|trivial|simp))
  refine W_loop (n := a.views.length) (fun n s => ∃ i : Nat, n = a.views.length - i ∧ s.nt = 47 ∧ s.tm 2 = .ptr 0 0 ∧ s.tm 3 = .ptr 1 0 ∧ s.tm 5 = In i ∧ i ≤ a.views.length ∧ s.σ.ob 0 = .box [Ar a.views, Ar a.tables, In a.version] ∧ s.σ.ob 1 = .box [Ar b.views, Ar b.tables, In b.version] ∧ a.views.take i = b.views.take i) ⟨0, by simp [hv, ht]⟩ ?_
  rintro n ⟨nt, tm, σ⟩ ⟨i, rfl, hnt, h2, h3, h5, hi, hb0, hb1, heq⟩
  simp only at hnt h2 h3 h5 hb0 hb1
  subst hnt
  repeat' first|refine W_seq ?_|refine W_block ?_|refine W_skip ?_|refine W_ret ?_|refine W_exit ?_|refine xb_hit ?_|refine xb_miss (by decide) ?_|(apply W_reg;(simp [h2, h3, h5, hb0, hb1];exact .r _))|(apply W_draw (id := 6) [0,1,0,7,15,0,32,0,224,480,1023,2047] rfl rfl; (· simp; exact .r _); (· simp [h2, h3, h5, hb0, hb1]; exact .r _); (· first|trivial|simp))
  refine W_cond (by simp [h2, h3, h5, hb0, hb1]; exact .r _) (fun hc => ?_) (fun hc => ?_)
  · have hia : i < a.views.length := by simpa using hc
    have hib : i < b.views.length := by omega
    have c2 := cv (specEqQ_r a.views[i] b.views[i] (hq2 _ (List.getElem_mem hia)))
    simp only [Ag, cells_Q, List.map_cons, List.map_nil] at c2
    repeat' first|refine W_seq ?_|refine W_block ?_|refine W_skip ?_|refine W_ret ?_|refine W_exit ?_|refine xb_hit ?_|refine xb_miss (by decide) ?_|(apply W_reg;(simp [h2, h3, h5, hb0, hb1, hia, hib, c2];exact .r _))|(apply W_draw (id := 6) [0,1,0,7,15,0,32,0,224,480,1023,2047] rfl rfl; (· simp; exact .r _); (· simp [h2, h3, h5, hb0, hb1, hia, hib, c2]; exact .r _); (· first|trivial|simp))
    refine W_cond (by simp [h2, h3, h5, hb0, hb1]; exact .r _) (fun hd => ?_) (fun hd => ?_)
    · repeat' first|refine W_seq ?_|refine W_block ?_|refine W_skip ?_|refine W_ret ?_|refine W_exit ?_|refine xb_hit ?_|refine xb_miss (by decide) ?_|(apply W_reg;(simp [h2, h3, h5, hb0, hb1];exact .r _))|(apply W_draw (id := 6) [0,1,0,7,15,0,32,0,224,480,1023,2047] rfl rfl; (· simp; exact .r _); (· simp [h2, h3, h5, hb0, hb1]; exact .r _); (· first|trivial|simp))
      have : a ≠ b := fun e => by subst e; simp at hd
      simp [this]
    · have hd : a.views[i] = b.views[i] := by simpa using hd
      repeat' first|refine W_seq ?_|refine W_block ?_|refine W_skip ?_|refine W_ret ?_|refine W_exit ?_|refine xb_hit ?_|refine xb_miss (by decide) ?_|(apply W_reg;(simp [h2, h3, h5, hb0, hb1];exact .r _))|(apply W_draw (id := 6) [0,1,0,7,15,0,32,0,224,480,1023,2047] rfl rfl; (· simp; exact .r _); (· simp [h2, h3, h5, hb0, hb1]; exact .r _); (· first|trivial|simp))
      refine ⟨_, ?_, i + 1, rfl, rfl, ?_, ?_, ?_, by omega, ?_, ?_, by rw [List.take_succ_eq_append_getElem hia, List.take_succ_eq_append_getElem hib, heq, hd]⟩
      all_goals first|assumption|(simp [h2, h3, h5, hb0, hb1];done)|(simp [h2, h3, h5, hb0, hb1];omega)|(simp [h2, h3, h5, hb0, hb1];exact wrap_succ (by omega))|omega
  · have hil : i = a.views.length := by simp at hc; omega
    subst hil
    repeat' first|refine W_seq ?_|refine W_block ?_|refine W_skip ?_|refine W_ret ?_|refine W_exit ?_|refine xb_hit ?_|refine xb_miss (by decide) ?_|(apply W_reg;(simp [h2, h3, h5, hb0, hb1];exact .r _))|(apply W_draw (id := 6) [0,1,0,7,15,0,32,0,224,480,1023,2047] rfl rfl; (· simp; exact .r _); (· simp [h2, h3, h5, hb0, hb1]; exact .r _); (· first|trivial|simp))
    rw [List.take_length, hl, List.take_length] at heq
    have : a = b := by cases a; cases b; simp only at hv ht heq; rw [hv, ht, heq]
    simp [this]
end Go.Proofs.YtmfifjbbjjdacaaGreat.V

namespace Go.Proofs.YtmfifjbbjjdacaaGreat.V
open Go Go.Proofs
set_option linter.unusedVariables false
set_option linter.unusedSimpArgs false
def isSrc (c : Sch) (s : Src) : Bool := isDb c s.facts && inR s.version 0 1000
theorem implIsSrc_r (c : Sch) (s : Src) (sc : Sm c.arity) (sd : Sm s.facts) (sda : ∀ a ∈ s.facts, Sm a.args) : Ret XX 219 [Ag c, Ag s] (.t (.b (isSrc c s)) false) := by
  refine ret_W rfl Tryz.func219 rfl rfl (by simp [Tryz.f219]) ?_
  simp only [Tryz.f219]
  have c2 := cv (implIsDb_r c s.facts sc sd sda)
  have c3 := cv (within_r s.version 0 1000)
  simp only [Ag, cells_Sch, List.map_cons, List.map_nil] at c2
  cases e2 : isDb c s.facts
  · repeat' first|refine W_seq ?_|refine W_block ?_|refine W_skip ?_|refine W_ret ?_|refine W_exit ?_|refine xb_hit ?_|refine xb_miss (by decide) ?_|(apply W_reg;(simp [Ag, c2, e2];exact .r _))
    simp [isSrc, e2]
  · repeat' first|refine W_seq ?_|refine W_block ?_|refine W_skip ?_|refine W_ret ?_|refine W_exit ?_|refine xb_hit ?_|refine xb_miss (by decide) ?_|(apply W_reg;(simp [Ag, c2, e2, c3];exact .r _))
    simp [isSrc, e2]
theorem specIsSrc_r (c : Sch) (s : Src) (sc : Sm c.arity) (sd : Sm s.facts) (sda : ∀ a ∈ s.facts, Sm a.args) : Ret XX 216 [Ag c, Ag s] (.t (.b (isSrc c s)) false) := by
  refine ret_W rfl Tryz.func216 rfl rfl (by simp [Tryz.f216]) ?_
  simp only [Tryz.f216]
  have c2 := cv (specIsDb_r c s.facts sc sd sda)
  have c3 := cv (l1In_r s.version 0 1000)
  simp only [Ag, cells_Sch, List.map_cons, List.map_nil] at c2
  cases e2 : isDb c s.facts
  · repeat' first|refine W_seq ?_|refine W_block ?_|refine W_skip ?_|refine W_ret ?_|refine W_exit ?_|refine xb_hit ?_|refine xb_miss (by decide) ?_|(apply W_reg;(simp [Ag, c2, e2];exact .r _))
    simp [isSrc, e2]
  · repeat' first|refine W_seq ?_|refine W_block ?_|refine W_skip ?_|refine W_ret ?_|refine W_exit ?_|refine xb_hit ?_|refine xb_miss (by decide) ?_|(apply W_reg;(simp [Ag, c2, e2, c3];exact .r _))
    simp [isSrc, e2]
def frsh (c : Sch) (x : Cch) (s : Src) : Bool := isCch c x && isSrc c s && fewT (tabs c x.views s.facts) && decide (x = ⟨x.views, tabs c x.views s.facts, s.version⟩)
theorem okB_of {c : Sch} {x : Cch} {s : Src} (h1 : isCch c x = true) (h2 : isSrc c s = true) : okB c x.views s.facts s.version = fewT (tabs c x.views s.facts) := by
  simp only [isCch, isSrc, Bool.and_eq_true] at h1 h2
  simp [okB, h1.1.1.1, h2.1, h2.2]
theorem implFresh_r (c : Sch) (x : Cch) (s : Src) (sc : Sm c.arity) (h : SmC x) (sd : Sm s.facts) (sda : ∀ a ∈ s.facts, Sm a.args) : Ret XX 96 [Ag c, Ag x, Ag s] (.t (.b (frsh c x s)) false) := by
  refine ret_W rfl Tryz.func96 rfl rfl (by simp [Tryz.f96]) ?_
  simp only [Tryz.f96]
  have c1 := cv (implIsCch_r c x sc h)
  have c2 := cv (implIsSrc_r c s sc sd sda)
  have c3 := cv (implBuild_r c x.views s.facts s.version sc h.1 h.2.1 sd sda)
  have c4 := cv (implEqC_r x ⟨x.views, tabs c x.views s.facts, s.version⟩ h)
  simp only [Ag, cells_Sch, cells_Cch, cells_Src, List.map_cons, List.map_nil] at c1 c2 c3 c4
  cases e1 : isCch c x
  · repeat' first|refine W_seq ?_|refine W_block ?_|refine W_skip ?_|refine W_ret ?_|refine W_exit ?_|refine xb_hit ?_|refine xb_miss (by decide) ?_|(apply W_reg;(simp [Ag, c1, e1];exact .r _))
    refine W_cond (by simp; exact .r _) (fun hc => ?_) (fun hc => ?_)
    · repeat' first|refine W_seq ?_|refine W_block ?_|refine W_skip ?_|refine W_ret ?_|refine W_exit ?_|refine xb_hit ?_|refine xb_miss (by decide) ?_|(apply W_reg;(simp;exact .r _))
      simp [frsh, e1]
    · cases hc
  cases e2 : isSrc c s
  · repeat' first|refine W_seq ?_|refine W_block ?_|refine W_skip ?_|refine W_ret ?_|refine W_exit ?_|refine xb_hit ?_|refine xb_miss (by decide) ?_|(apply W_reg;(simp [Ag, c1, e1, c2, e2];exact .r _))
    refine W_cond (by simp; exact .r _) (fun hc => ?_) (fun hc => ?_)
    · repeat' first|refine W_seq ?_|refine W_block ?_|refine W_skip ?_|refine W_ret ?_|refine W_exit ?_|refine xb_hit ?_|refine xb_miss (by decide) ?_|(apply W_reg;(simp;exact .r _))
      simp [frsh, e2]
    · cases hc
  repeat' first|refine W_seq ?_|refine W_block ?_|refine W_skip ?_|refine W_ret ?_|refine W_exit ?_|refine xb_hit ?_|refine xb_miss (by decide) ?_|(apply W_reg;(simp [Ag, c1, e1, c2, e2];exact .r _))
  refine W_cond (by simp; exact .r _) (fun hc => ?_) (fun hc => ?_)
  · cases hc
  have eo := okB_of e1 e2
  cases e3 : fewT (tabs c x.views s.facts)
  · rw [e3] at eo
    rw [show xBuild c x.views s.facts s.version = .tup [xvC0, .t (.b false) false] by rw [xBuild, if_neg (by rw [eo]; decide)]] at c3
    repeat' first|refine W_seq ?_|refine W_block ?_|refine W_skip ?_|refine W_ret ?_|refine W_exit ?_|refine xb_hit ?_|refine xb_miss (by decide) ?_|(apply W_reg;(simp [c3];exact .r _))
    simp [frsh, e3]
  · rw [e3] at eo
    rw [show xBuild c x.views s.facts s.version = .tup [xvC x.views (tabs c x.views s.facts) s.version, .t (.b true) false] by rw [xBuild, if_pos eo]] at c3
    repeat' first|refine W_seq ?_|refine W_block ?_|refine W_skip ?_|refine W_ret ?_|refine W_exit ?_|refine xb_hit ?_|refine xb_miss (by decide) ?_|(apply W_reg;(simp [c3, c4];exact .r _))
    simp [frsh, e1, e2, e3]
theorem frsh_ver {c : Sch} {x : Cch} {s : Src} (h : ¬ x.version = s.version) : frsh c x s = false := by
  simp only [frsh, Bool.and_eq_false_iff, decide_eq_false_iff_not]
  exact .inr fun e => h (by rw [e])
theorem specFresh_r (c : Sch) (x : Cch) (s : Src) (hcS : Lw.bd 1048576 c) (hx : Lw.bd 1048576 x) (hs : Lw.bd 1048576 s) : Ret XX 93 [Ag c, Ag x, Ag s] (.t (.b (frsh c x s)) false) := by
  refine ret_W rfl Tryz.func93 rfl rfl (by simp [Tryz.f93]) ?_
  simp only [Tryz.f93]
  have sc : Sm c.arity := Nat.lt_of_le_of_lt hcS.1 (by omega)
  have h : SmC x := SmC.of (by omega) hx
  have hd : Lw.bd 1048576 s.facts := hs
  have sd : Sm s.facts := Nat.lt_of_le_of_lt hd.1 (by omega)
  have sda : ∀ a ∈ s.facts, Sm a.args := fun a ha => Nat.lt_of_le_of_lt (hd.2 a ha).1 (by omega)
  have c1 := cv (specIsCch_r c x sc h)
  have c2 := cv (specIsSrc_r c s sc sd sda)
  have c3 := cv (specBuild_r c x.views s.facts s.version hcS hx.1 hd)
  have c4 := cv (specEqC_r x ⟨x.views, tabs c x.views s.facts, s.version⟩ h)
  have c5 := cv (specEqC_r x ⟨[], [], 0⟩ h)
  simp only [Ag, cells_Sch, cells_Cch, cells_Src, List.map_cons, List.map_nil] at c1 c2 c3 c4 c5
  cases e1 : isCch c x
  · repeat' first|refine W_seq ?_|refine W_block ?_|refine W_skip ?_|refine W_ret ?_|refine W_exit ?_|refine xb_hit ?_|refine xb_miss (by decide) ?_|(apply W_reg;(simp [Ag, c1, e1];exact .r _))
    refine W_cond (by simp; exact .r _) (fun hc => ?_) (fun hc => ?_)
    · repeat' first|refine W_seq ?_|refine W_block ?_|refine W_skip ?_|refine W_ret ?_|refine W_exit ?_|refine xb_hit ?_|refine xb_miss (by decide) ?_|(apply W_reg;(simp;exact .r _))
      simp [frsh, e1]
    · cases hc
  cases e2 : isSrc c s
  · repeat' first|refine W_seq ?_|refine W_block ?_|refine W_skip ?_|refine W_ret ?_|refine W_exit ?_|refine xb_hit ?_|refine xb_miss (by decide) ?_|(apply W_reg;(simp [Ag, c1, e1, c2, e2];exact .r _))
    refine W_cond (by simp; exact .r _) (fun hc => ?_) (fun hc => ?_)
    · repeat' first|refine W_seq ?_|refine W_block ?_|refine W_skip ?_|refine W_ret ?_|refine W_exit ?_|refine xb_hit ?_|refine xb_miss (by decide) ?_|(apply W_reg;(simp;exact .r _))
      simp [frsh, e2]
    · cases hc
  by_cases e4 : x.version = s.version
  case neg =>
    have ef := frsh_ver (c := c) e4
    repeat' first|refine W_seq ?_|refine W_block ?_|refine W_skip ?_|refine W_ret ?_|refine W_exit ?_|refine xb_hit ?_|refine xb_miss (by decide) ?_|(apply W_reg;(simp [Ag, c1, e1, c2, e2, e4];exact .r _))
    refine W_cond (by simp; exact .r _) (fun hc => ?_) (fun hc => ?_)
    · repeat' first|refine W_seq ?_|refine W_block ?_|refine W_skip ?_|refine W_ret ?_|refine W_exit ?_|refine xb_hit ?_|refine xb_miss (by decide) ?_|(apply W_reg;(simp;exact .r _))
      simp [ef]
    · simp at hc
  repeat' first|refine W_seq ?_|refine W_block ?_|refine W_skip ?_|refine W_ret ?_|refine W_exit ?_|refine xb_hit ?_|refine xb_miss (by decide) ?_|(apply W_reg;(simp [Ag, c1, e1, c2, e2, e4];exact .r _))
  refine W_cond (by simp; exact .r _) (fun hc => ?_) (fun hc => ?_)
  · simp at hc
  simp only [e4] at c4 c5
  rw [show rowsE ([] : List Qry) = [] from rfl, show rowsE ([] : List (List Row)) = [] from rfl] at c5
  have eo := okB_of e1 e2
  cases e3 : fewT (tabs c x.views s.facts)
  · rw [e3] at eo
    rw [show xBuild c x.views s.facts s.version = .tup [xvC0, .t (.b false) false] by rw [xBuild, if_neg (by rw [eo]; decide)]] at c3
    have ne : ¬ x = ⟨[], [], 0⟩ := fun e => by rw [e] at e3; simp [tabs, fewT] at e3
    repeat' first|refine W_seq ?_|refine W_block ?_|refine W_skip ?_|refine W_ret ?_|refine W_exit ?_|refine xb_hit ?_|refine xb_miss (by decide) ?_|(apply W_reg;(simp [c3, c5, ne];exact .r _))
    simp [frsh, e3]
  · rw [e3] at eo
    rw [show xBuild c x.views s.facts s.version = .tup [xvC x.views (tabs c x.views s.facts) s.version, .t (.b true) false] by rw [xBuild, if_pos eo]] at c3
    repeat' first|refine W_seq ?_|refine W_block ?_|refine W_skip ?_|refine W_ret ?_|refine W_exit ?_|refine xb_hit ?_|refine xb_miss (by decide) ?_|(apply W_reg;(simp [c3, c4];exact .r _))
    simp [frsh, e1, e2, e3]
end Go.Proofs.YtmfifjbbjjdacaaGreat.V

