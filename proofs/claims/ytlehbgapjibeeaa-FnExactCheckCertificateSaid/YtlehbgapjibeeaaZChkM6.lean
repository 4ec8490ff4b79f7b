/- Several texts in one: what the claim needs of them. Conditions: each declaration's own. -/
import Derived.Test.YtlehbgapjibeeaaZChkM5
namespace Go.Proofs.Ytlehbgapjibeeaa.V
open Go Go.Proofs
set_option linter.unusedVariables false
set_option linter.unusedSimpArgs false
def ddL (l : List RA) (i : Nat) : List RA := ddp (l.take i)
theorem ddL_succ {l : List RA} {i : Nat} (h : i < l.length) : ddL l (i + 1) = ddF (ddL l i) l[i] := by
  unfold ddL ddp
  rw [List.take_succ_eq_append_getElem h, List.foldl_append]; rfl
theorem ddL_len {l : List RA} : ∀ {i : Nat}, i ≤ l.length → (ddL l i).length ≤ i
  | 0, _ => by simp [ddL, ddp]
  | i + 1, h => by
    rw [ddL_succ (by omega)]
    have := ddL_len (l := l) (i := i) (by omega)
    unfold ddF; split
    · omega
    · rw [List.length_append, List.length_singleton]; omega
theorem ddL_mem {l : List RA} {i : Nat} : ∀ a ∈ ddL l i, a ∈ l := by
  have h : ∀ (m acc : List RA), ∀ a ∈ m.foldl ddF acc, a ∈ acc ∨ a ∈ m := by
    intro m
    induction m with
    | nil => intro acc a ha; exact .inl ha
    | cons x m ih =>
      intro acc a ha
      rcases ih _ a ha with h | h
      · unfold ddF at h
        split at h
        · exact .inl h
        · rcases List.mem_append.1 h with h | h
          · exact .inl h
          · rw [List.mem_singleton] at h; exact .inr (by rw [h]; exact List.mem_cons_self ..)
      · exact .inr (List.mem_cons_of_mem _ h)
  intro a ha
  rcases h _ _ a ha with h | h
  · cases h
  · exact List.mem_of_mem_take h
set_option maxRecDepth 10000 in
set_option maxHeartbeats 2000000 in
theorem implDed_r (q : Qry) (h : SmQ q) (hne : q.body ≠ []) : Ret XX 71 [Ag q] (.agg [.own 1 (rowsE q.head), .own 2 (rowsE (ddp q.body))]) := by
  refine ret_W rfl Try.func71 rfl rfl (by simp [Try.f71]) ?_
  simp only [Try.f71]
  have c1 := cv (copyInts_r q.head h.1)
  have c2 := cv (copyAtoms_r q.body h.2.1 h.2.2)
  have hl : q.body.length < 1099511627775 := h.2.1
  repeat' first|refine nx ?_|refine xb_miss (by decide) ?_|(apply W_reg;(simp [Ag, c1, c2];exact .r _))
  refine W_loop (n := q.body.length) (fun n s => ∃ i : Nat, ∃ k : Nat, ∃ R : List RA, ∃ oT : Nat, ∃ st : Nat, n = q.body.length - i ∧ s.nt = 45 ∧ s.tm 2 = .ptr 1 0 ∧ s.tm 3 = .ptr 3 0 ∧ s.tm 15 = .ref 4 q.body.length [] ∧ s.tm 16 = In q.body.length ∧ s.tm 17 = In i ∧ i ≤ q.body.length ∧ k ≤ i ∧ s.σ.ob 1 = .box [.t .nl, .t .nl] ∧ s.σ.ob 2 = .arr (.own 0) 0 1 (rowsE q.head) ∧ s.σ.ob 3 = .box [.ref 2 q.head.length [], gc oT R.length] ∧ s.σ.ob 4 = .arr (.own k) 0 2 (rowsE q.body) ∧ 5 ≤ s.σ.n ∧ (R.length = 0 ∨ (s.σ.ob oT = .arr (.own 0) st 2 (rowsE R) ∧ 5 ≤ oT ∧ oT < s.σ.n)) ∧ R = ddL q.body i) ⟨0, 0, [], 0, 0, by simp [show ddL q.body 0 = [] from rfl]⟩ ?_
  rintro n ⟨nt, tm, σ⟩ ⟨i, k, R, oT, st, rfl, hnt, h2, h3, h15, h16, h17, hi, hk, hb1, hb2, hb3, hb4, hn, hT, hR⟩
  simp only at hnt h2 h3 h15 h16 h17 hb1 hb2 hb3 hb4 hn hT
  subst hnt
  have ap1_ := apart hn
  have hRl : R.length ≤ i := by rw [hR]; exact ddL_len hi
  repeat' first|refine nx ?_|refine xb_miss (by decide) ?_|(apply W_reg;(simp [h2, h3, h15, h16, h17, hb1, hb2, hb3, hb4, hn, hT, ap1_];exact .r _))
  refine W_cond (by simp [h2, h3, h15, h16, h17, hb1, hb2, hb3, hb4, hn, hT, ap1_]; exact .r _) (fun hc => ?_) (fun hc => ?_)
  · have hil : i < q.body.length := by simpa using hc
    have hRm : ∀ a ∈ R, Sm a.args := fun a ha => h.2.2 a (ddL_mem a (by rw [hR] at ha; exact ha))
    have hR1 := ddL_succ hil
    rw [← hR] at hR1
    have hk1 : k ≤ i := hk
    have hbt : R.length + 1 < 1099511627776 := by omega
    obtain ⟨σT, eT⟩ : ∃ y : Sto, y = σ := ⟨σ, rfl⟩
    have hn0 : 5 ≤ σT.n := by rw [eT]; exact hn
    have hlT : σT.n = σ.n := by rw [eT]
    repeat' first|refine nx ?_|refine xb_miss (by decide) ?_|(apply W_reg;(simp [h2, h3, h15, h16, h17, hb1, hb2, hb3, hb4, hn, hT, ap1_, hil, hk];exact .r _))
    by_cases hR0 : R = []
    · subst hR0
      have hdd : ddF [] q.body[i] = [q.body[i]] := by simp [ddF]
      rw [hdd] at hR1
      repeat' first|refine nx ?_|refine xb_miss (by decide) ?_|(apply W_reg;(simp [h2, h3, h15, h16, h17, hb1, hb2, hb3, hb4, hn, hT, ap1_];exact .r _))
      refine W_loop (n := 0) (fun n s => ∃ j : Nat, n = 0 - j ∧ s.nt = 45 ∧ s.tm 2 = .ptr 1 0 ∧ s.tm 3 = .ptr 3 0 ∧ s.tm 5 = .ptr σT.n 0 ∧ s.tm 6 = Bo false ∧ s.tm 15 = .ref 4 q.body.length [] ∧ s.tm 16 = In q.body.length ∧ s.tm 17 = In i ∧ s.tm 22 = .t .nl ∧ s.tm 23 = In 0 ∧ s.tm 24 = In 0 ∧ s.σ.ob 1 = .box [.t .nl, .t .nl] ∧ s.σ.ob 2 = .arr (.own 0) 0 1 (rowsE q.head) ∧ s.σ.ob 3 = .box [.ref 2 q.head.length [], .t .nl] ∧ s.σ.ob 4 = .arr (.own k) 0 2 (rowsE q.body) ∧ s.σ.ob σT.n = .box [In q.body[i].rel, .ref 4 0 [(i, 1)]] ∧ σT.n < s.σ.n) ⟨0, by simp [eT, h2, h3, h15, h16, h17, hb1, hb2, hb3, hb4, hn, hT, ap1_]⟩ ?_
      rintro n ⟨nt, tm, σ⟩ ⟨j, rfl, hnt, h2, h3, h5, h6, h15, h16, h17, h22, h23, h24, hb1, hb2, hb3, hb4, hbx, hn⟩
      simp only at hnt h2 h3 h5 h6 h15 h16 h17 h22 h23 h24 hb1 hb2 hb3 hb4 hbx hn
      subst hnt
      have ap2_ := apart hn
      have hn5 : 5 ≤ σ.n := by omega
      have ap3_ := apart hn5
      have ne4_ : ¬ (σT.n = 1) := by omega
      have ne5_ : ¬ (1 = σT.n) := by omega
      have ne6_ : ¬ (σT.n = 2) := by omega
      have ne7_ : ¬ (2 = σT.n) := by omega
      have ne8_ : ¬ (σT.n = 3) := by omega
      have ne9_ : ¬ (3 = σT.n) := by omega
      have ne10_ : ¬ (σT.n = 4) := by omega
      have ne11_ : ¬ (4 = σT.n) := by omega
      repeat' first|refine nx ?_|refine xb_miss (by decide) ?_|(apply W_reg;(simp [h2, h3, h5, h6, h15, h16, h17, h22, h23, h24, hb1, hb2, hb3, hb4, hbx, hn, ap2_, ap3_, ne4_, ne5_, ne6_, ne7_, ne8_, ne9_, ne10_, ne11_];exact .r _))
      refine W_cond (by simp [h2, h3, h5, h6, h15, h16, h17, h22, h23, h24, hb1, hb2, hb3, hb4, hbx, hn, ap2_, ap3_, ne4_, ne5_, ne6_, ne7_, ne8_, ne9_, ne10_, ne11_]; exact .r _) (fun hd => ?_) (fun hd => ?_)
      · simp at hd
      repeat' first|refine nx ?_|refine xb_miss (by decide) ?_|(apply W_reg;(simp [h2, h3, h5, h6, h15, h16, h17, h22, h23, h24, hb1, hb2, hb3, hb4, hbx, hn, ap2_, ap3_, ne4_, ne5_, ne6_, ne7_, ne8_, ne9_, ne10_, ne11_, hil, hk1];exact .r _))
      refine W_cond (by simp [h2, h3, h5, h6, h15, h16, h17, h22, h23, h24, hb1, hb2, hb3, hb4, hbx, hn, ap2_, ap3_, ne4_, ne5_, ne6_, ne7_, ne8_, ne9_, ne10_, ne11_]; exact .r _) (fun hd2 => ?_) (fun hd2 => ?_)
      · repeat' first|refine nx ?_|refine xb_miss (by decide) ?_|(apply W_reg;(simp [h2, h3, h5, h6, h15, h16, h17, h22, h23, h24, hb1, hb2, hb3, hb4, hbx, hn, ap2_, ap3_, ne4_, ne5_, ne6_, ne7_, ne8_, ne9_, ne10_, ne11_, hil, hk1];exact .r _))
        refine ⟨_, ?_, i + 1, i + 1, [q.body[i]], σ.n + 1, 0, rfl, rfl, ?_, ?_, ?_, ?_, ?_, by omega, by omega, ?_, ?_, ?_, ?_, ?_, (.inr ⟨by simp [h2, h3, h5, h6, h15, h16, h17, h22, h23, h24, hb1, hb2, hb3, hb4, hbx, hn, ap2_, ap3_, ne4_, ne5_, ne6_, ne7_, ne8_, ne9_, ne10_, ne11_, rowsE], by omega, by (simp)⟩), hR1.symm⟩
        all_goals first|assumption|(simp [h2, h3, h5, h6, h15, h16, h17, h22, h23, h24, hb1, hb2, hb3, hb4, hbx, hn, ap2_, ap3_, ne4_, ne5_, ne6_, ne7_, ne8_, ne9_, ne10_, ne11_];done)|(simp [h2, h3, h5, h6, h15, h16, h17, h22, h23, h24, hb1, hb2, hb3, hb4, hbx, hn, ap2_, ap3_, ne4_, ne5_, ne6_, ne7_, ne8_, ne9_, ne10_, ne11_];omega)|(simp [h2, h3, h5, h6, h15, h16, h17, h22, h23, h24, hb1, hb2, hb3, hb4, hbx, hn, ap2_, ap3_, ne4_, ne5_, ne6_, ne7_, ne8_, ne9_, ne10_, ne11_];exact wrap_succ (by omega))|omega
      · cases hd2
    · have hRn : R.length ≠ 0 := fun e => hR0 (List.length_eq_zero_iff.1 e)
      obtain ⟨hT1, hT2, hT3⟩ := hT.resolve_left hRn
      have hgc := gc_pos (o := oT) hRn
      have hT1s : σ.ob oT = .arr (.own 0) st 2 (rowsE R) := by first | exact hT1 | (rw [← eT]; exact hT1)
      have hT3s : oT < σ.n := by first | exact hT3 | (rw [← eT]; exact hT3)
      have ap12_ := apart hn
      have ap13_ := apart hT3s
      have ne14_ : ¬ (oT = 1) := by omega
      have ne15_ : ¬ (1 = oT) := by omega
      have ne16_ : ¬ (oT = 2) := by omega
      have ne17_ : ¬ (2 = oT) := by omega
      have ne18_ : ¬ (oT = 3) := by omega
      have ne19_ : ¬ (3 = oT) := by omega
      have ne20_ : ¬ (oT = 4) := by omega
      have ne21_ : ¬ (4 = oT) := by omega
      repeat' first|refine nx ?_|refine xb_miss (by decide) ?_|(apply W_reg;(simp [h2, h3, h15, h16, h17, hb1, hb2, hb3, hb4, hn, hT, ap12_, ap13_, ne14_, ne15_, ne16_, ne17_, ne18_, ne19_, ne20_, ne21_, hgc, hT1s];exact .r _))
      refine W_loop (n := R.length) (fun n s => ∃ j : Nat, ∃ d : Bool, n = R.length - j ∧ s.nt = 45 ∧ s.tm 2 = .ptr 1 0 ∧ s.tm 3 = .ptr 3 0 ∧ s.tm 5 = .ptr σT.n 0 ∧ s.tm 6 = Bo d ∧ s.tm 15 = .ref 4 q.body.length [] ∧ s.tm 16 = In q.body.length ∧ s.tm 17 = In i ∧ s.tm 22 = .ref oT R.length [] ∧ s.tm 23 = In R.length ∧ s.tm 24 = In j ∧ j ≤ R.length ∧ s.σ.ob 1 = .box [.t .nl, .t .nl] ∧ s.σ.ob 2 = .arr (.own 0) 0 1 (rowsE q.head) ∧ s.σ.ob 3 = .box [.ref 2 q.head.length [], .ref oT R.length []] ∧ s.σ.ob 4 = .arr (.own k) 0 2 (rowsE q.body) ∧ s.σ.ob σT.n = .box [In q.body[i].rel, .ref 4 0 [(i, 1)]] ∧ s.σ.ob oT = .arr (.own 0) st 2 (rowsE R) ∧ σT.n < s.σ.n ∧ d = decide (q.body[i] ∈ R.take j)) ⟨0, false, by simp [h2, h3, h15, h16, h17, hb1, hb2, hb3, hb4, hn, hT, ap12_, ap13_, ne14_, ne15_, ne16_, ne17_, ne18_, ne19_, ne20_, ne21_, hgc, eT, hT1s]⟩ ?_
      rintro n ⟨nt, tm, σ⟩ ⟨j, d, rfl, hnt, h2, h3, h5, h6, h15, h16, h17, h22, h23, h24, hj, hb1, hb2, hb3, hb4, hbx, hTT, hn, hd⟩
      simp only at hnt h2 h3 h5 h6 h15 h16 h17 h22 h23 h24 hb1 hb2 hb3 hb4 hbx hTT hn
      subst hnt
      have ap22_ := apart hn
      have hn5 : 5 ≤ σ.n := by omega
      have ap23_ := apart hn5
      have hoT : oT < σ.n := by omega
      have ap24_ := apart hoT
      have ne25_ : ¬ (σT.n = 1) := by omega
      have ne26_ : ¬ (1 = σT.n) := by omega
      have ne27_ : ¬ (σT.n = 2) := by omega
      have ne28_ : ¬ (2 = σT.n) := by omega
      have ne29_ : ¬ (σT.n = 3) := by omega
      have ne30_ : ¬ (3 = σT.n) := by omega
      have ne31_ : ¬ (σT.n = 4) := by omega
      have ne32_ : ¬ (4 = σT.n) := by omega
      have ne33_ : ¬ (oT = 1) := by omega
      have ne34_ : ¬ (1 = oT) := by omega
      have ne35_ : ¬ (oT = 2) := by omega
      have ne36_ : ¬ (2 = oT) := by omega
      have ne37_ : ¬ (oT = 3) := by omega
      have ne38_ : ¬ (3 = oT) := by omega
      have ne39_ : ¬ (oT = 4) := by omega
      have ne40_ : ¬ (4 = oT) := by omega
      have ne41_ : ¬ (σT.n = oT) := by omega
      have ne42_ : ¬ (oT = σT.n) := by omega
      repeat' first|refine nx ?_|refine xb_miss (by decide) ?_|(apply W_reg;(simp [h2, h3, h5, h6, h15, h16, h17, h22, h23, h24, hb1, hb2, hb3, hb4, hbx, hTT, hn, ap22_, ap23_, ap24_, ne25_, ne26_, ne27_, ne28_, ne29_, ne30_, ne31_, ne32_, ne33_, ne34_, ne35_, ne36_, ne37_, ne38_, ne39_, ne40_, ne41_, ne42_];exact .r _))
      refine W_cond (by simp [h2, h3, h5, h6, h15, h16, h17, h22, h23, h24, hb1, hb2, hb3, hb4, hbx, hTT, hn, ap22_, ap23_, ap24_, ne25_, ne26_, ne27_, ne28_, ne29_, ne30_, ne31_, ne32_, ne33_, ne34_, ne35_, ne36_, ne37_, ne38_, ne39_, ne40_, ne41_, ne42_]; exact .r _) (fun hc2 => ?_) (fun hc2 => ?_)
      · have hjl : j < R.length := by simpa using hc2
        have c3 := cv (eqAtoms_d q.body[i] R[j] (h.2.2 _ (List.getElem_mem hil)))
        simp only [Ag, cells_RA, List.map_cons, List.map_nil] at c3
        have ht : decide (q.body[i] ∈ R.take (j + 1)) = (d || decide (q.body[i] = R[j])) := by
          rw [hd, Bool.eq_iff_iff]
          simp only [Bool.or_eq_true, decide_eq_true_eq]
          rw [List.take_succ_eq_append_getElem hjl, List.mem_append, List.mem_singleton]
        cases d
        · repeat' first|refine nx ?_|refine xb_miss (by decide) ?_|(apply W_reg;(simp [h2, h3, h5, h6, h15, h16, h17, h22, h23, h24, hb1, hb2, hb3, hb4, hbx, hTT, hn, ap22_, ap23_, ap24_, ne25_, ne26_, ne27_, ne28_, ne29_, ne30_, ne31_, ne32_, ne33_, ne34_, ne35_, ne36_, ne37_, ne38_, ne39_, ne40_, ne41_, ne42_, hjl, hil, hk1, c3];exact .r _))
          refine ⟨_, ?_, j + 1, decide (q.body[i] = R[j]), rfl, rfl, ?_, ?_, ?_, ?_, ?_, ?_, ?_, ?_, ?_, ?_, by omega, ?_, ?_, ?_, ?_, ?_, ?_, ?_, (by rw [ht, Bool.false_or])⟩
          all_goals first|assumption|(simp [h2, h3, h5, h6, h15, h16, h17, h22, h23, h24, hb1, hb2, hb3, hb4, hbx, hTT, hn, ap22_, ap23_, ap24_, ne25_, ne26_, ne27_, ne28_, ne29_, ne30_, ne31_, ne32_, ne33_, ne34_, ne35_, ne36_, ne37_, ne38_, ne39_, ne40_, ne41_, ne42_];done)|(simp [h2, h3, h5, h6, h15, h16, h17, h22, h23, h24, hb1, hb2, hb3, hb4, hbx, hTT, hn, ap22_, ap23_, ap24_, ne25_, ne26_, ne27_, ne28_, ne29_, ne30_, ne31_, ne32_, ne33_, ne34_, ne35_, ne36_, ne37_, ne38_, ne39_, ne40_, ne41_, ne42_];omega)|(simp [h2, h3, h5, h6, h15, h16, h17, h22, h23, h24, hb1, hb2, hb3, hb4, hbx, hTT, hn, ap22_, ap23_, ap24_, ne25_, ne26_, ne27_, ne28_, ne29_, ne30_, ne31_, ne32_, ne33_, ne34_, ne35_, ne36_, ne37_, ne38_, ne39_, ne40_, ne41_, ne42_];exact wrap_succ (by omega))|omega
        · repeat' first|refine nx ?_|refine xb_miss (by decide) ?_|(apply W_reg;(simp [h2, h3, h5, h6, h15, h16, h17, h22, h23, h24, hb1, hb2, hb3, hb4, hbx, hTT, hn, ap22_, ap23_, ap24_, ne25_, ne26_, ne27_, ne28_, ne29_, ne30_, ne31_, ne32_, ne33_, ne34_, ne35_, ne36_, ne37_, ne38_, ne39_, ne40_, ne41_, ne42_, hjl, hil, hk1];exact .r _))
          refine ⟨_, ?_, j + 1, true, rfl, rfl, ?_, ?_, ?_, ?_, ?_, ?_, ?_, ?_, ?_, ?_, by omega, ?_, ?_, ?_, ?_, ?_, ?_, ?_, (by rw [ht, Bool.true_or])⟩
          all_goals first|assumption|(simp [h2, h3, h5, h6, h15, h16, h17, h22, h23, h24, hb1, hb2, hb3, hb4, hbx, hTT, hn, ap22_, ap23_, ap24_, ne25_, ne26_, ne27_, ne28_, ne29_, ne30_, ne31_, ne32_, ne33_, ne34_, ne35_, ne36_, ne37_, ne38_, ne39_, ne40_, ne41_, ne42_];done)|(simp [h2, h3, h5, h6, h15, h16, h17, h22, h23, h24, hb1, hb2, hb3, hb4, hbx, hTT, hn, ap22_, ap23_, ap24_, ne25_, ne26_, ne27_, ne28_, ne29_, ne30_, ne31_, ne32_, ne33_, ne34_, ne35_, ne36_, ne37_, ne38_, ne39_, ne40_, ne41_, ne42_];omega)|(simp [h2, h3, h5, h6, h15, h16, h17, h22, h23, h24, hb1, hb2, hb3, hb4, hbx, hTT, hn, ap22_, ap23_, ap24_, ne25_, ne26_, ne27_, ne28_, ne29_, ne30_, ne31_, ne32_, ne33_, ne34_, ne35_, ne36_, ne37_, ne38_, ne39_, ne40_, ne41_, ne42_];exact wrap_succ (by omega))|omega
      · have hjl : j = R.length := by simp at hc2; omega
        subst hjl
        rw [List.take_length] at hd
        by_cases hm : q.body[i] ∈ R
        · have hdd : ddF R q.body[i] = R := by simp [ddF, hm]
          rw [decide_eq_true hm] at hd
          rw [hdd] at hR1
          subst hd
          repeat' first|refine nx ?_|refine xb_miss (by decide) ?_|(apply W_reg;(simp [h2, h3, h5, h6, h15, h16, h17, h22, h23, h24, hb1, hb2, hb3, hb4, hbx, hTT, hn, ap22_, ap23_, ap24_, ne25_, ne26_, ne27_, ne28_, ne29_, ne30_, ne31_, ne32_, ne33_, ne34_, ne35_, ne36_, ne37_, ne38_, ne39_, ne40_, ne41_, ne42_];exact .r _))
          refine W_cond (by simp [h2, h3, h5, h6, h15, h16, h17, h22, h23, h24, hb1, hb2, hb3, hb4, hbx, hTT, hn, ap22_, ap23_, ap24_, ne25_, ne26_, ne27_, ne28_, ne29_, ne30_, ne31_, ne32_, ne33_, ne34_, ne35_, ne36_, ne37_, ne38_, ne39_, ne40_, ne41_, ne42_]; exact .r _) (fun hd2 => ?_) (fun hd2 => ?_)
          · cases hd2
          repeat' first|refine nx ?_|refine xb_miss (by decide) ?_|(apply W_reg;(simp [h2, h3, h5, h6, h15, h16, h17, h22, h23, h24, hb1, hb2, hb3, hb4, hbx, hTT, hn, ap22_, ap23_, ap24_, ne25_, ne26_, ne27_, ne28_, ne29_, ne30_, ne31_, ne32_, ne33_, ne34_, ne35_, ne36_, ne37_, ne38_, ne39_, ne40_, ne41_, ne42_];exact .r _))
          refine ⟨_, ?_, i + 1, k, R, oT, st, rfl, rfl, ?_, ?_, ?_, ?_, ?_, by omega, by omega, ?_, ?_, (by simp [h2, h3, h5, h6, h15, h16, h17, h22, h23, h24, hb1, hb2, hb3, hb4, hbx, hTT, hn, ap22_, ap23_, ap24_, ne25_, ne26_, ne27_, ne28_, ne29_, ne30_, ne31_, ne32_, ne33_, ne34_, ne35_, ne36_, ne37_, ne38_, ne39_, ne40_, ne41_, ne42_, gc_pos hRn]), ?_, ?_, (.inr ⟨by simp [h2, h3, h5, h6, h15, h16, h17, h22, h23, h24, hb1, hb2, hb3, hb4, hbx, hTT, hn, ap22_, ap23_, ap24_, ne25_, ne26_, ne27_, ne28_, ne29_, ne30_, ne31_, ne32_, ne33_, ne34_, ne35_, ne36_, ne37_, ne38_, ne39_, ne40_, ne41_, ne42_], hT2, by (first | exact hoT | (simp; omega))⟩), hR1.symm⟩
          all_goals first|assumption|(simp [h2, h3, h5, h6, h15, h16, h17, h22, h23, h24, hb1, hb2, hb3, hb4, hbx, hTT, hn, ap22_, ap23_, ap24_, ne25_, ne26_, ne27_, ne28_, ne29_, ne30_, ne31_, ne32_, ne33_, ne34_, ne35_, ne36_, ne37_, ne38_, ne39_, ne40_, ne41_, ne42_];done)|(simp [h2, h3, h5, h6, h15, h16, h17, h22, h23, h24, hb1, hb2, hb3, hb4, hbx, hTT, hn, ap22_, ap23_, ap24_, ne25_, ne26_, ne27_, ne28_, ne29_, ne30_, ne31_, ne32_, ne33_, ne34_, ne35_, ne36_, ne37_, ne38_, ne39_, ne40_, ne41_, ne42_];omega)|(simp [h2, h3, h5, h6, h15, h16, h17, h22, h23, h24, hb1, hb2, hb3, hb4, hbx, hTT, hn, ap22_, ap23_, ap24_, ne25_, ne26_, ne27_, ne28_, ne29_, ne30_, ne31_, ne32_, ne33_, ne34_, ne35_, ne36_, ne37_, ne38_, ne39_, ne40_, ne41_, ne42_];exact wrap_succ (by omega))|omega
        · have hdd : ddF R q.body[i] = R ++ [q.body[i]] := by simp [ddF, hm]
          rw [decide_eq_false hm] at hd
          rw [hdd] at hR1
          subst hd
          repeat' first|refine nx ?_|refine xb_miss (by decide) ?_|(apply W_reg;(simp [h2, h3, h5, h6, h15, h16, h17, h22, h23, h24, hb1, hb2, hb3, hb4, hbx, hTT, hn, ap22_, ap23_, ap24_, ne25_, ne26_, ne27_, ne28_, ne29_, ne30_, ne31_, ne32_, ne33_, ne34_, ne35_, ne36_, ne37_, ne38_, ne39_, ne40_, ne41_, ne42_];exact .r _))
          refine W_cond (by simp [h2, h3, h5, h6, h15, h16, h17, h22, h23, h24, hb1, hb2, hb3, hb4, hbx, hTT, hn, ap22_, ap23_, ap24_, ne25_, ne26_, ne27_, ne28_, ne29_, ne30_, ne31_, ne32_, ne33_, ne34_, ne35_, ne36_, ne37_, ne38_, ne39_, ne40_, ne41_, ne42_]; exact .r _) (fun hd2 => ?_) (fun hd2 => ?_)
          · repeat' first|refine nx ?_|refine xb_miss (by decide) ?_|(apply W_reg;(simp [h2, h3, h5, h6, h15, h16, h17, h22, h23, h24, hb1, hb2, hb3, hb4, hbx, hTT, hn, ap22_, ap23_, ap24_, ne25_, ne26_, ne27_, ne28_, ne29_, ne30_, ne31_, ne32_, ne33_, ne34_, ne35_, ne36_, ne37_, ne38_, ne39_, ne40_, ne41_, ne42_, hil, hk1, hbt];exact .r _))
            refine ⟨_, ?_, i + 1, i + 1, R ++ [q.body[i]], oT, st, rfl, rfl, ?_, ?_, ?_, ?_, ?_, by omega, by omega, ?_, ?_, ?_, ?_, ?_, (.inr ⟨by simp [h2, h3, h5, h6, h15, h16, h17, h22, h23, h24, hb1, hb2, hb3, hb4, hbx, hTT, hn, ap22_, ap23_, ap24_, ne25_, ne26_, ne27_, ne28_, ne29_, ne30_, ne31_, ne32_, ne33_, ne34_, ne35_, ne36_, ne37_, ne38_, ne39_, ne40_, ne41_, ne42_, rowsE], hT2, by (first | exact hoT | (simp; omega))⟩), hR1.symm⟩
            all_goals first|assumption|(simp [h2, h3, h5, h6, h15, h16, h17, h22, h23, h24, hb1, hb2, hb3, hb4, hbx, hTT, hn, ap22_, ap23_, ap24_, ne25_, ne26_, ne27_, ne28_, ne29_, ne30_, ne31_, ne32_, ne33_, ne34_, ne35_, ne36_, ne37_, ne38_, ne39_, ne40_, ne41_, ne42_];done)|(simp [h2, h3, h5, h6, h15, h16, h17, h22, h23, h24, hb1, hb2, hb3, hb4, hbx, hTT, hn, ap22_, ap23_, ap24_, ne25_, ne26_, ne27_, ne28_, ne29_, ne30_, ne31_, ne32_, ne33_, ne34_, ne35_, ne36_, ne37_, ne38_, ne39_, ne40_, ne41_, ne42_];omega)|(simp [h2, h3, h5, h6, h15, h16, h17, h22, h23, h24, hb1, hb2, hb3, hb4, hbx, hTT, hn, ap22_, ap23_, ap24_, ne25_, ne26_, ne27_, ne28_, ne29_, ne30_, ne31_, ne32_, ne33_, ne34_, ne35_, ne36_, ne37_, ne38_, ne39_, ne40_, ne41_, ne42_];exact wrap_succ (by omega))|omega
          · cases hd2
  · have hil : i = q.body.length := by simp at hc; omega
    subst hil
    have hR0 : R.length ≠ 0 := by
      intro e
      have e2 : R = [] := List.length_eq_zero_iff.1 e
      have : ∀ (l : List RA), l ≠ [] → ddp l ≠ [] := by
        have h2 : ∀ (m acc : List RA), acc ≠ [] → m.foldl ddF acc ≠ [] := by
          intro m
          induction m with
          | nil => intro acc h; exact h
          | cons x m ih => intro acc h; exact ih _ (by unfold ddF; split; exact h; simp)
        intro l hl
        cases l with
        | nil => exact absurd rfl hl
        | cons x m => exact h2 m _ (by simp [ddF])
      exact this _ hne (by rw [hR, ddL, List.take_length] at e2; exact e2)
    obtain ⟨hT1, hT2, hT3⟩ := hT.resolve_left hR0
    have hgc := gc_pos (o := oT) hR0
    rw [show ddL q.body q.body.length = ddp q.body by rw [ddL, List.take_length]] at hR
    have ne43_ : ¬ (oT = 1) := by omega
    have ne44_ : ¬ (1 = oT) := by omega
    have ne45_ : ¬ (oT = 2) := by omega
    have ne46_ : ¬ (2 = oT) := by omega
    have ne47_ : ¬ (oT = 3) := by omega
    have ne48_ : ¬ (3 = oT) := by omega
    have ne49_ : ¬ (oT = 4) := by omega
    have ne50_ : ¬ (4 = oT) := by omega
    repeat' first|refine nx ?_|refine xb_miss (by decide) ?_|(apply W_reg;(simp [h2, h3, h15, h16, h17, hb1, hb2, hb3, hb4, hn, hT, ne43_, ne44_, ne45_, ne46_, ne47_, ne48_, ne49_, ne50_, hgc];exact .r _))
    rw [← hR]
    simp [hgc, hT1, h2, h3, h15, h16, h17, hb1, hb2, hb3, hb4, hn, hT, ne43_, ne44_, ne45_, ne46_, ne47_, ne48_, ne49_, ne50_]
theorem ddp_ne {l : List RA} (hl : l ≠ []) : ddp l ≠ [] := by
  have h2 : ∀ (m acc : List RA), acc ≠ [] → m.foldl ddF acc ≠ [] := by
    intro m
    induction m with
    | nil => intro acc h; exact h
    | cons x m ih => intro acc h; exact ih _ (by unfold ddF; split; exact h; simp)
  cases l with
  | nil => exact absurd rfl hl
  | cons x m => exact h2 m _ (by simp [ddF])
set_option maxRecDepth 10000 in
set_option maxHeartbeats 2000000 in
theorem specDed_r (q : Qry) (h : SmQ q) (hne : q.body ≠ []) : Ret XX 104 [Ag q] (.agg [.own 1 (rowsE q.head), .own 2 (rowsE (ddp q.body))]) := by
  refine ret_W rfl Try.func104 rfl rfl (by simp [Try.f104]) ?_
  simp only [Try.f104]
  have hl : q.body.length < 1099511627775 := h.2.1
  have hh : q.head.length < 1099511627775 := h.1
  repeat' first|refine nx ?_|refine xb_miss (by decide) ?_|(apply W_reg;(simp [Ag, show q.head.length < 1099511627776 by omega];exact .r _))
  refine W_loop (n := q.body.length) (fun n s => ∃ i : Nat, ∃ R : List RA, ∃ oT : Nat, ∃ st : Nat, n = q.body.length - i ∧ s.nt = 63 ∧ s.tm 1 = .ptr 0 0 ∧ s.tm 2 = .ptr 1 0 ∧ s.tm 3 = .ptr 3 0 ∧ s.tm 4 = In i ∧ i ≤ q.body.length ∧ s.σ.ob 0 = .box [Ar q.head, Ar q.body] ∧ s.σ.ob 1 = .box [.t .nl, .t .nl] ∧ s.σ.ob 2 = .arr (.own 0) 0 1 (rowsE q.head) ∧ s.σ.ob 3 = .box [.ref 2 q.head.length [], gc oT R.length] ∧ 4 ≤ s.σ.n ∧ (R.length = 0 ∨ (s.σ.ob oT = .arr (.own 0) st 2 (rowsE R) ∧ 4 ≤ oT ∧ oT < s.σ.n)) ∧ R = ddL q.body i) ⟨0, [], 0, 0, by simp [show ddL q.body 0 = [] from rfl]⟩ ?_
  rintro n ⟨nt, tm, σ⟩ ⟨i, R, oT, st, rfl, hnt, h1, h2, h3, h4, hi, hb0, hb1, hb2, hb3, hn, hT, hR⟩
  simp only at hnt h1 h2 h3 h4 hb0 hb1 hb2 hb3 hn hT
  subst hnt
  have ap51_ := apart hn
  have hRl : R.length ≤ i := by rw [hR]; exact ddL_len hi
  repeat' first|refine nx ?_|refine xb_miss (by decide) ?_|(apply W_reg;(simp [h1, h2, h3, h4, hb0, hb1, hb2, hb3, hn, hT, ap51_];exact .r _))
  refine W_cond (by simp [h1, h2, h3, h4, hb0, hb1, hb2, hb3, hn, hT, ap51_]; exact .r _) (fun hc => ?_) (fun hc => ?_)
  · have hil : i < q.body.length := by simpa using hc
    have hRm : ∀ a ∈ R, Sm a.args := fun a ha => h.2.2 a (ddL_mem a (by rw [hR] at ha; exact ha))
    have hR1 := ddL_succ hil
    rw [← hR] at hR1
    have hbt : R.length + 1 < 1099511627776 := by omega
    have hal : q.body[i].args.length < 1099511627776 := by have : q.body[i].args.length < 1099511627775 := h.2.2 _ (List.getElem_mem hil); omega
    repeat' first|refine nx ?_|refine xb_miss (by decide) ?_|(apply W_reg;(simp [h1, h2, h3, h4, hb0, hb1, hb2, hb3, hn, hT, ap51_];exact .r _))
    by_cases hR0 : R = []
    · subst hR0
      have hdd : ddF [] q.body[i] = [q.body[i]] := by simp [ddF]
      rw [hdd] at hR1
      repeat' first|refine nx ?_|refine xb_miss (by decide) ?_|(apply W_reg;(simp [h1, h2, h3, h4, hb0, hb1, hb2, hb3, hn, hT, ap51_];exact .r _))
      refine W_loop (n := 0) (fun n s => ∃ j : Nat, n = 0 - j ∧ s.nt = 63 ∧ s.tm 1 = .ptr 0 0 ∧ s.tm 2 = .ptr 1 0 ∧ s.tm 3 = .ptr 3 0 ∧ s.tm 4 = In i ∧ s.tm 5 = Bo false ∧ s.tm 6 = In 0 ∧ s.σ.ob 0 = .box [Ar q.head, Ar q.body] ∧ s.σ.ob 1 = .box [.t .nl, .t .nl] ∧ s.σ.ob 2 = .arr (.own 0) 0 1 (rowsE q.head) ∧ s.σ.ob 3 = .box [.ref 2 q.head.length [], .t .nl] ∧ 4 ≤ s.σ.n) ⟨0, by simp [h1, h2, h3, h4, hb0, hb1, hb2, hb3, hn, hT, ap51_]⟩ ?_
      rintro n ⟨nt, tm, σ⟩ ⟨j, rfl, hnt, h1, h2, h3, h4, h5, h6, hb0, hb1, hb2, hb3, hn⟩
      simp only at hnt h1 h2 h3 h4 h5 h6 hb0 hb1 hb2 hb3 hn
      subst hnt
      have ap52_ := apart hn
      repeat' first|refine nx ?_|refine xb_miss (by decide) ?_|(apply W_reg;(simp [h1, h2, h3, h4, h5, h6, hb0, hb1, hb2, hb3, hn, ap52_];exact .r _))
      refine W_cond (by simp [h1, h2, h3, h4, h5, h6, hb0, hb1, hb2, hb3, hn, ap52_]; exact .r _) (fun hd => ?_) (fun hd => ?_)
      · simp at hd
      repeat' first|refine nx ?_|refine xb_miss (by decide) ?_|(apply W_reg;(simp [h1, h2, h3, h4, h5, h6, hb0, hb1, hb2, hb3, hn, ap52_];exact .r _))
      refine W_cond (by simp [h1, h2, h3, h4, h5, h6, hb0, hb1, hb2, hb3, hn, ap52_]; exact .r _) (fun hd2 => ?_) (fun hd2 => ?_)
      · repeat' first|refine nx ?_|refine xb_miss (by decide) ?_|(apply W_reg;(simp [h1, h2, h3, h4, h5, h6, hb0, hb1, hb2, hb3, hn, ap52_, hil, hal];exact .r _))|(apply W_draw (id := 11) [0,1,0,4,0,28,60,124,0,0,512,0,3584,7680,15872,32512,65532,131068,262143,524287,1048575] rfl rfl; (· simp; exact .r _); (· simp [h1, h2, h3, h4, h5, h6, hb0, hb1, hb2, hb3, hn, ap52_, hil, hal]; exact .r _); (· first|trivial|simp))
        refine ⟨_, ?_, i + 1, [q.body[i]], σ.n + 2, 0, rfl, rfl, ?_, ?_, ?_, ?_, by omega, ?_, ?_, ?_, ?_, ?_, (.inr ⟨by simp [h1, h2, h3, h4, h5, h6, hb0, hb1, hb2, hb3, hn, ap52_, rowsE], by omega, by (simp)⟩), hR1.symm⟩
        all_goals first|assumption|(simp [h1, h2, h3, h4, h5, h6, hb0, hb1, hb2, hb3, hn, ap52_];done)|(simp [h1, h2, h3, h4, h5, h6, hb0, hb1, hb2, hb3, hn, ap52_];omega)|(simp [h1, h2, h3, h4, h5, h6, hb0, hb1, hb2, hb3, hn, ap52_];exact wrap_succ (by omega))|omega
      · cases hd2
    · have hRn : R.length ≠ 0 := fun e => hR0 (List.length_eq_zero_iff.1 e)
      obtain ⟨hT1, hT2, hT3⟩ := hT.resolve_left hRn
      have hgc := gc_pos (o := oT) hRn
      have ap53_ := apart hn
      have ap54_ := apart hT3
      have ne55_ : ¬ (oT = 0) := by omega
      have ne56_ : ¬ (0 = oT) := by omega
      have ne57_ : ¬ (oT = 1) := by omega
      have ne58_ : ¬ (1 = oT) := by omega
      have ne59_ : ¬ (oT = 2) := by omega
      have ne60_ : ¬ (2 = oT) := by omega
      have ne61_ : ¬ (oT = 3) := by omega
      have ne62_ : ¬ (3 = oT) := by omega
      repeat' first|refine nx ?_|refine xb_miss (by decide) ?_|(apply W_reg;(simp [h1, h2, h3, h4, hb0, hb1, hb2, hb3, hn, hT, ap53_, ap54_, ne55_, ne56_, ne57_, ne58_, ne59_, ne60_, ne61_, ne62_, hgc, hT1];exact .r _))
      refine W_loop (n := R.length) (fun n s => ∃ j : Nat, ∃ d : Bool, n = R.length - j ∧ s.nt = 63 ∧ s.tm 1 = .ptr 0 0 ∧ s.tm 2 = .ptr 1 0 ∧ s.tm 3 = .ptr 3 0 ∧ s.tm 4 = In i ∧ s.tm 5 = Bo d ∧ s.tm 6 = In j ∧ j ≤ R.length ∧ s.σ.ob 0 = .box [Ar q.head, Ar q.body] ∧ s.σ.ob 1 = .box [.t .nl, .t .nl] ∧ s.σ.ob 2 = .arr (.own 0) 0 1 (rowsE q.head) ∧ s.σ.ob 3 = .box [.ref 2 q.head.length [], .ref oT R.length []] ∧ s.σ.ob oT = .arr (.own 0) st 2 (rowsE R) ∧ 4 ≤ s.σ.n ∧ oT < s.σ.n ∧ d = decide (q.body[i] ∈ R.take j)) ⟨0, false, by simp [h1, h2, h3, h4, hb0, hb1, hb2, hb3, hn, hT, ap53_, ap54_, ne55_, ne56_, ne57_, ne58_, ne59_, ne60_, ne61_, ne62_, hgc, hT1, hT3]⟩ ?_
      rintro n ⟨nt, tm, σ⟩ ⟨j, d, rfl, hnt, h1, h2, h3, h4, h5, h6, hj, hb0, hb1, hb2, hb3, hTT, hn, hon, hd⟩
      simp only at hnt h1 h2 h3 h4 h5 h6 hb0 hb1 hb2 hb3 hTT hn hon
      subst hnt
      have ap63_ := apart hn
      have ap64_ := apart hon
      have ne65_ : ¬ (oT = 0) := by omega
      have ne66_ : ¬ (0 = oT) := by omega
      have ne67_ : ¬ (oT = 1) := by omega
      have ne68_ : ¬ (1 = oT) := by omega
      have ne69_ : ¬ (oT = 2) := by omega
      have ne70_ : ¬ (2 = oT) := by omega
      have ne71_ : ¬ (oT = 3) := by omega
      have ne72_ : ¬ (3 = oT) := by omega
      repeat' first|refine nx ?_|refine xb_miss (by decide) ?_|(apply W_reg;(simp [h1, h2, h3, h4, h5, h6, hb0, hb1, hb2, hb3, hTT, hn, hon, ap63_, ap64_, ne65_, ne66_, ne67_, ne68_, ne69_, ne70_, ne71_, ne72_];exact .r _))
      refine W_cond (by simp [h1, h2, h3, h4, h5, h6, hb0, hb1, hb2, hb3, hTT, hn, hon, ap63_, ap64_, ne65_, ne66_, ne67_, ne68_, ne69_, ne70_, ne71_, ne72_]; exact .r _) (fun hc2 => ?_) (fun hc2 => ?_)
      · have hjl : j < R.length := by simpa using hc2
        have c3 := cv (specEqA_r R[j] q.body[i] (hRm _ (List.getElem_mem hjl)))
        simp only [Ag, cells_RA, List.map_cons, List.map_nil] at c3
        have ht : decide (q.body[i] ∈ R.take (j + 1)) = (d || decide (R[j] = q.body[i])) := by
          rw [hd, Bool.eq_iff_iff]
          simp only [Bool.or_eq_true, decide_eq_true_eq]
          rw [List.take_succ_eq_append_getElem hjl, List.mem_append, List.mem_singleton, eq_comm (a := q.body[i])]
        cases d
        · repeat' first|refine nx ?_|refine xb_miss (by decide) ?_|(apply W_reg;(simp [h1, h2, h3, h4, h5, h6, hb0, hb1, hb2, hb3, hTT, hn, hon, ap63_, ap64_, ne65_, ne66_, ne67_, ne68_, ne69_, ne70_, ne71_, ne72_, hjl, hil, c3];exact .r _))|(apply W_draw (id := 9) [0,1,3,7,3,31,63,3,131,3,899,1923,4095,8191,16383] rfl rfl; (· simp; exact .r _); (· simp [h1, h2, h3, h4, h5, h6, hb0, hb1, hb2, hb3, hTT, hn, hon, ap63_, ap64_, ne65_, ne66_, ne67_, ne68_, ne69_, ne70_, ne71_, ne72_, hjl, hil, c3]; exact .r _); (· first|trivial|simp))
          refine ⟨_, ?_, j + 1, decide (R[j] = q.body[i]), rfl, rfl, ?_, ?_, ?_, ?_, ?_, ?_, by omega, ?_, ?_, ?_, ?_, ?_, ?_, ?_, (by rw [ht, Bool.false_or])⟩
          all_goals first|assumption|(simp [h1, h2, h3, h4, h5, h6, hb0, hb1, hb2, hb3, hTT, hn, hon, ap63_, ap64_, ne65_, ne66_, ne67_, ne68_, ne69_, ne70_, ne71_, ne72_];done)|(simp [h1, h2, h3, h4, h5, h6, hb0, hb1, hb2, hb3, hTT, hn, hon, ap63_, ap64_, ne65_, ne66_, ne67_, ne68_, ne69_, ne70_, ne71_, ne72_];omega)|(simp [h1, h2, h3, h4, h5, h6, hb0, hb1, hb2, hb3, hTT, hn, hon, ap63_, ap64_, ne65_, ne66_, ne67_, ne68_, ne69_, ne70_, ne71_, ne72_];exact wrap_succ (by omega))|omega
        · repeat' first|refine nx ?_|refine xb_miss (by decide) ?_|(apply W_reg;(simp [h1, h2, h3, h4, h5, h6, hb0, hb1, hb2, hb3, hTT, hn, hon, ap63_, ap64_, ne65_, ne66_, ne67_, ne68_, ne69_, ne70_, ne71_, ne72_, hjl, hil];exact .r _))|(apply W_draw (id := 9) [0,1,3,7,3,31,63,3,131,3,899,1923,4095,8191,16383] rfl rfl; (· simp; exact .r _); (· simp [h1, h2, h3, h4, h5, h6, hb0, hb1, hb2, hb3, hTT, hn, hon, ap63_, ap64_, ne65_, ne66_, ne67_, ne68_, ne69_, ne70_, ne71_, ne72_, hjl, hil]; exact .r _); (· first|trivial|simp))
          refine ⟨_, ?_, j + 1, true, rfl, rfl, ?_, ?_, ?_, ?_, ?_, ?_, by omega, ?_, ?_, ?_, ?_, ?_, ?_, ?_, (by rw [ht, Bool.true_or])⟩
          all_goals first|assumption|(simp [h1, h2, h3, h4, h5, h6, hb0, hb1, hb2, hb3, hTT, hn, hon, ap63_, ap64_, ne65_, ne66_, ne67_, ne68_, ne69_, ne70_, ne71_, ne72_];done)|(simp [h1, h2, h3, h4, h5, h6, hb0, hb1, hb2, hb3, hTT, hn, hon, ap63_, ap64_, ne65_, ne66_, ne67_, ne68_, ne69_, ne70_, ne71_, ne72_];omega)|(simp [h1, h2, h3, h4, h5, h6, hb0, hb1, hb2, hb3, hTT, hn, hon, ap63_, ap64_, ne65_, ne66_, ne67_, ne68_, ne69_, ne70_, ne71_, ne72_];exact wrap_succ (by omega))|omega
      · have hjl : j = R.length := by simp at hc2; omega
        subst hjl
        rw [List.take_length] at hd
        by_cases hm : q.body[i] ∈ R
        · have hdd : ddF R q.body[i] = R := by simp [ddF, hm]
          rw [decide_eq_true hm] at hd
          rw [hdd] at hR1
          subst hd
          repeat' first|refine nx ?_|refine xb_miss (by decide) ?_|(apply W_reg;(simp [h1, h2, h3, h4, h5, h6, hb0, hb1, hb2, hb3, hTT, hn, hon, ap63_, ap64_, ne65_, ne66_, ne67_, ne68_, ne69_, ne70_, ne71_, ne72_];exact .r _))
          refine W_cond (by simp [h1, h2, h3, h4, h5, h6, hb0, hb1, hb2, hb3, hTT, hn, hon, ap63_, ap64_, ne65_, ne66_, ne67_, ne68_, ne69_, ne70_, ne71_, ne72_]; exact .r _) (fun hd2 => ?_) (fun hd2 => ?_)
          · cases hd2
          repeat' first|refine nx ?_|refine xb_miss (by decide) ?_|(apply W_reg;(simp [h1, h2, h3, h4, h5, h6, hb0, hb1, hb2, hb3, hTT, hn, hon, ap63_, ap64_, ne65_, ne66_, ne67_, ne68_, ne69_, ne70_, ne71_, ne72_];exact .r _))
          refine ⟨_, ?_, i + 1, R, oT, st, rfl, rfl, ?_, ?_, ?_, ?_, by omega, ?_, ?_, ?_, (by simp [h1, h2, h3, h4, h5, h6, hb0, hb1, hb2, hb3, hTT, hn, hon, ap63_, ap64_, ne65_, ne66_, ne67_, ne68_, ne69_, ne70_, ne71_, ne72_, gc_pos hRn]), ?_, (.inr ⟨by simp [h1, h2, h3, h4, h5, h6, hb0, hb1, hb2, hb3, hTT, hn, hon, ap63_, ap64_, ne65_, ne66_, ne67_, ne68_, ne69_, ne70_, ne71_, ne72_], hT2, by (first | exact hon | (simp; omega))⟩), hR1.symm⟩
          all_goals first|assumption|(simp [h1, h2, h3, h4, h5, h6, hb0, hb1, hb2, hb3, hTT, hn, hon, ap63_, ap64_, ne65_, ne66_, ne67_, ne68_, ne69_, ne70_, ne71_, ne72_];done)|(simp [h1, h2, h3, h4, h5, h6, hb0, hb1, hb2, hb3, hTT, hn, hon, ap63_, ap64_, ne65_, ne66_, ne67_, ne68_, ne69_, ne70_, ne71_, ne72_];omega)|(simp [h1, h2, h3, h4, h5, h6, hb0, hb1, hb2, hb3, hTT, hn, hon, ap63_, ap64_, ne65_, ne66_, ne67_, ne68_, ne69_, ne70_, ne71_, ne72_];exact wrap_succ (by omega))|omega
        · have hdd : ddF R q.body[i] = R ++ [q.body[i]] := by simp [ddF, hm]
          rw [decide_eq_false hm] at hd
          rw [hdd] at hR1
          subst hd
          repeat' first|refine nx ?_|refine xb_miss (by decide) ?_|(apply W_reg;(simp [h1, h2, h3, h4, h5, h6, hb0, hb1, hb2, hb3, hTT, hn, hon, ap63_, ap64_, ne65_, ne66_, ne67_, ne68_, ne69_, ne70_, ne71_, ne72_];exact .r _))
          refine W_cond (by simp [h1, h2, h3, h4, h5, h6, hb0, hb1, hb2, hb3, hTT, hn, hon, ap63_, ap64_, ne65_, ne66_, ne67_, ne68_, ne69_, ne70_, ne71_, ne72_]; exact .r _) (fun hd2 => ?_) (fun hd2 => ?_)
          · repeat' first|refine nx ?_|refine xb_miss (by decide) ?_|(apply W_reg;(simp [h1, h2, h3, h4, h5, h6, hb0, hb1, hb2, hb3, hTT, hn, hon, ap63_, ap64_, ne65_, ne66_, ne67_, ne68_, ne69_, ne70_, ne71_, ne72_, hil, hal, hbt];exact .r _))|(apply W_draw (id := 11) [0,1,0,4,0,28,60,124,0,0,512,0,3584,7680,15872,32512,65532,131068,262143,524287,1048575] rfl rfl; (· simp; exact .r _); (· simp [h1, h2, h3, h4, h5, h6, hb0, hb1, hb2, hb3, hTT, hn, hon, ap63_, ap64_, ne65_, ne66_, ne67_, ne68_, ne69_, ne70_, ne71_, ne72_, hil, hal, hbt]; exact .r _); (· first|trivial|simp))
            refine ⟨_, ?_, i + 1, R ++ [q.body[i]], oT, st, rfl, rfl, ?_, ?_, ?_, ?_, by omega, ?_, ?_, ?_, ?_, ?_, (.inr ⟨by simp [h1, h2, h3, h4, h5, h6, hb0, hb1, hb2, hb3, hTT, hn, hon, ap63_, ap64_, ne65_, ne66_, ne67_, ne68_, ne69_, ne70_, ne71_, ne72_, rowsE], hT2, by (first | exact hon | (simp; omega))⟩), hR1.symm⟩
            all_goals first|assumption|(simp [h1, h2, h3, h4, h5, h6, hb0, hb1, hb2, hb3, hTT, hn, hon, ap63_, ap64_, ne65_, ne66_, ne67_, ne68_, ne69_, ne70_, ne71_, ne72_];done)|(simp [h1, h2, h3, h4, h5, h6, hb0, hb1, hb2, hb3, hTT, hn, hon, ap63_, ap64_, ne65_, ne66_, ne67_, ne68_, ne69_, ne70_, ne71_, ne72_];omega)|(simp [h1, h2, h3, h4, h5, h6, hb0, hb1, hb2, hb3, hTT, hn, hon, ap63_, ap64_, ne65_, ne66_, ne67_, ne68_, ne69_, ne70_, ne71_, ne72_];exact wrap_succ (by omega))|omega
          · cases hd2
  · have hil : i = q.body.length := by simp at hc; omega
    subst hil
    rw [show ddL q.body q.body.length = ddp q.body by rw [ddL, List.take_length]] at hR
    have hR0 : R.length ≠ 0 := fun e => ddp_ne hne (by rw [← hR]; exact List.length_eq_zero_iff.1 e)
    obtain ⟨hT1, hT2, hT3⟩ := hT.resolve_left hR0
    have hgc := gc_pos (o := oT) hR0
    have ne73_ : ¬ (oT = 0) := by omega
    have ne74_ : ¬ (0 = oT) := by omega
    have ne75_ : ¬ (oT = 1) := by omega
    have ne76_ : ¬ (1 = oT) := by omega
    have ne77_ : ¬ (oT = 2) := by omega
    have ne78_ : ¬ (2 = oT) := by omega
    have ne79_ : ¬ (oT = 3) := by omega
    have ne80_ : ¬ (3 = oT) := by omega
    repeat' first|refine nx ?_|refine xb_miss (by decide) ?_|(apply W_reg;(simp [h1, h2, h3, h4, hb0, hb1, hb2, hb3, hn, hT, ne73_, ne74_, ne75_, ne76_, ne77_, ne78_, ne79_, ne80_, hgc];exact .r _))
    rw [← hR]
    simp [hgc, hT1, h1, h2, h3, h4, hb0, hb1, hb2, hb3, hn, hT, ne73_, ne74_, ne75_, ne76_, ne77_, ne78_, ne79_, ne80_]
end Go.Proofs.Ytlehbgapjibeeaa.V

namespace Go.Proofs.Ytlehbgapjibeeaa.V
open Go Go.Proofs
set_option linter.unusedVariables false
set_option linter.unusedSimpArgs false
def mix {α : Type} (f : α → α) (l : List α) (i : Nat) : List α := (l.map f).take i ++ l.drop i
theorem mix_len {α : Type} {f : α → α} {l : List α} {i : Nat} (h : i ≤ l.length) : (mix f l i).length = l.length := by
  unfold mix; rw [List.length_append, List.length_take, List.length_map, List.length_drop]; omega
theorem mix_get {α : Type} {f : α → α} {l : List α} {i : Nat} (h : i < l.length) (h2 : i < (mix f l i).length) : (mix f l i)[i] = l[i] := by
  have e : (mix f l i)[i]? = some l[i] := by
    unfold mix
    rw [List.getElem?_append_right (by simp; omega)]
    simp [Nat.min_eq_left (Nat.le_of_lt h), h]
  rw [List.getElem?_eq_getElem h2] at e
  exact Option.some.inj e
theorem mix_set {α : Type} {f : α → α} {l : List α} {i : Nat} (h : i < l.length) : (mix f l i).set i (f l[i]) = mix f l (i + 1) := by
  unfold mix
  rw [List.set_append_right _ _ (by simp; omega), List.length_take, List.length_map, Nat.min_eq_left (Nat.le_of_lt h), Nat.sub_self, List.drop_eq_getElem_cons h, List.set_cons_zero, List.take_succ_eq_append_getElem (by simpa using h)]
  simp
theorem mix_same {α : Type} {f : α → α} {l : List α} {i : Nat} (h : i < l.length) (e : f l[i] = l[i]) : mix f l (i + 1) = mix f l i := by
  have h2 : i < (mix f l i).length := by rw [mix_len (Nat.le_of_lt h)]; exact h
  rw [← mix_set h, e]
  conv => lhs; rw [← mix_get (f := f) h h2]
  exact List.set_getElem_self h2
theorem mix_end {α : Type} {f : α → α} {l : List α} : mix f l l.length = l.map f := by
  unfold mix; rw [List.drop_length, List.append_nil, List.take_of_length_le (by simp)]
theorem mix_zero {α : Type} {f : α → α} {l : List α} : mix f l 0 = l := rfl
theorem l13Swap_r (l : List Int) (o b : Int) (h : Sm l) : Ret XX 149 [Ar l, In o, In b] (.own 1 (rowsE (l.map (sb (o, b))))) := by
  refine ret_W rfl Try.func149 rfl rfl (by simp [Try.f149]) ?_
  simp only [Try.f149]
  have hl : l.length < 1099511627775 := h
  repeat' first|refine nx ?_|refine xb_miss (by decide) ?_|(apply W_reg;(simp [show l.length < 1099511627776 by omega];exact .r _))
  refine W_loop (n := l.length) (fun n s => ∃ i : Nat, ∃ L : List Int, n = l.length - i ∧ s.nt = 29 ∧ s.tm 1 = In o ∧ s.tm 2 = In b ∧ s.tm 7 = .ref 0 l.length [] ∧ s.tm 8 = In i ∧ i ≤ l.length ∧ s.σ.ob 0 = .arr (.own 0) 0 1 (rowsE L) ∧ 1 ≤ s.σ.n ∧ L = mix (sb (o, b)) l i) ⟨0, l, by simp [mix_zero]⟩ ?_
  rintro n ⟨nt, tm, σ⟩ ⟨i, L, rfl, hnt, h1, h2, h7, h8, hi, ho, hn, hL⟩
  simp only at hnt h1 h2 h7 h8 ho hn
  subst hnt
  have ap1_ := apart hn
  have hLl : L.length = l.length := by rw [hL]; exact mix_len hi
  repeat' first|refine nx ?_|refine xb_miss (by decide) ?_|(apply W_reg;(simp [h1, h2, h7, h8, ho, hn, ap1_, hLl];exact .r _))
  refine W_cond (by simp [h1, h2, h7, h8, ho, hn, ap1_]; exact .r _) (fun hc => ?_) (fun hc => ?_)
  · have hil : i < l.length := by simpa using hc
    have hiL : i < L.length := by omega
    have hg : L[i] = l[i] := by subst hL; exact mix_get hil hiL
    have hst := mix_set (f := sb (o, b)) hil
    rw [← hL] at hst
    by_cases e : l[i] = o
    · have e2 : sb (o, b) l[i] = b := by simp [sb, e]
      rw [e2] at hst
      repeat' first|refine nx ?_|refine xb_miss (by decide) ?_|(apply W_reg;(simp [h1, h2, h7, h8, ho, hn, ap1_, hiL, hil, hLl, hg, e];exact .r _))
      refine W_cond (by simp [h1, h2, h7, h8, ho, hn, ap1_]; exact .r _) (fun hd => ?_) (fun hd => ?_)
      · repeat' first|refine nx ?_|refine xb_miss (by decide) ?_|(apply W_reg;(simp [h1, h2, h7, h8, ho, hn, ap1_, hiL, hil, hLl];exact .r _))
        refine ⟨_, ?_, i + 1, L.set i b, rfl, rfl, ?_, ?_, ?_, ?_, by omega, (by simp [h1, h2, h7, h8, ho, hn, ap1_, rowsE_set, putT]), ?_, hst⟩
        all_goals first|assumption|(simp [h1, h2, h7, h8, ho, hn, ap1_];done)|(simp [h1, h2, h7, h8, ho, hn, ap1_];omega)|(simp [h1, h2, h7, h8, ho, hn, ap1_];exact wrap_succ (by omega))|omega
      · simp at hd
    · have e2 : sb (o, b) l[i] = l[i] := by simp [sb, e]
      have hsm := mix_same hil e2
      rw [← hL] at hsm
      repeat' first|refine nx ?_|refine xb_miss (by decide) ?_|(apply W_reg;(simp [h1, h2, h7, h8, ho, hn, ap1_, hiL, hil, hLl, hg, e];exact .r _))
      refine W_cond (by simp [h1, h2, h7, h8, ho, hn, ap1_]; exact .r _) (fun hd => ?_) (fun hd => ?_)
      · simp at hd
      repeat' first|refine nx ?_|refine xb_miss (by decide) ?_|(apply W_reg;(simp [h1, h2, h7, h8, ho, hn, ap1_];exact .r _))
      refine ⟨_, ?_, i + 1, L, rfl, rfl, ?_, ?_, ?_, ?_, by omega, ?_, ?_, hsm.symm⟩
      all_goals first|assumption|(simp [h1, h2, h7, h8, ho, hn, ap1_];done)|(simp [h1, h2, h7, h8, ho, hn, ap1_];omega)|(simp [h1, h2, h7, h8, ho, hn, ap1_];exact wrap_succ (by omega))|omega
  · have hil : i = l.length := by simp at hc; omega
    subst hil
    rw [mix_end] at hL
    repeat' first|refine nx ?_|refine xb_miss (by decide) ?_|(apply W_reg;(simp [h1, h2, h7, h8, ho, hn, ap1_];exact .r _))
    simp [ho, hLl, hL]
set_option maxRecDepth 10000 in
set_option maxHeartbeats 2000000 in
theorem specRepl_r (q : Qry) (o b : Int) (h : SmQ q) : Ret XX 132 [Ag q, In o, In b] (xvQn (chg (sb (o, b)) q)) := by
  refine ret_W rfl Try.func132 rfl rfl (by simp [Try.f132]) ?_
  simp only [Try.f132]
  have c1 := cv (l13Swap_r q.head o b h.1)
  have hsb : q.body.length < 1099511627775 := h.2.1
  repeat' first|refine nx ?_|refine xb_miss (by decide) ?_|(apply W_reg;(simp [Ag, c1];exact .r _))
  refine W_loop (n := q.body.length) (fun n s => ∃ i : Nat, ∃ oT : Nat, ∃ st : Nat, n = q.body.length - i ∧ s.nt = 44 ∧ s.tm 1 = In o ∧ s.tm 2 = In b ∧ s.tm 3 = .ptr 0 0 ∧ s.tm 6 = .ptr 1 0 ∧ s.tm 7 = .ptr 3 0 ∧ s.tm 8 = In i ∧ i ≤ q.body.length ∧ s.σ.ob 0 = .box [Ar q.head, Ar q.body] ∧ s.σ.ob 1 = .box [.t .nl, .t .nl] ∧ s.σ.ob 2 = .arr (.own 0) 0 1 (rowsE (q.head.map (sb (o, b)))) ∧ s.σ.ob 3 = .box [.ref 2 q.head.length [], gc oT i] ∧ 4 ≤ s.σ.n ∧ (i = 0 ∨ (s.σ.ob oT = .arr (.own 0) st 2 (rowsE ((q.body.map (mapA (sb (o, b)))).take i)) ∧ 4 ≤ oT ∧ oT < s.σ.n))) ⟨0, 0, 0, by simp⟩ ?_
  rintro n ⟨nt, tm, σ⟩ ⟨i, oT, st, rfl, hnt, h1, h2, h3, h6, h7, h8, hi, hb0, hb1, hb2, hb3, hn, hT⟩
  simp only at hnt h1 h2 h3 h6 h7 h8 hb0 hb1 hb2 hb3 hn hT
  subst hnt
  have ne2_ : ¬ (0 = σ.n) := by omega
  have ne3_ : ¬ (σ.n = 0) := by omega
  have ne4_ : ¬ (0 = σ.n + 1) := by omega
  have ne5_ : ¬ (σ.n + 1 = 0) := by omega
  have ne6_ : ¬ (0 = σ.n + 2) := by omega
  have ne7_ : ¬ (σ.n + 2 = 0) := by omega
  have ne8_ : ¬ (0 = σ.n + 3) := by omega
  have ne9_ : ¬ (σ.n + 3 = 0) := by omega
  have ne10_ : ¬ (1 = σ.n) := by omega
  have ne11_ : ¬ (σ.n = 1) := by omega
  have ne12_ : ¬ (1 = σ.n + 1) := by omega
  have ne13_ : ¬ (σ.n + 1 = 1) := by omega
  have ne14_ : ¬ (1 = σ.n + 2) := by omega
  have ne15_ : ¬ (σ.n + 2 = 1) := by omega
  have ne16_ : ¬ (1 = σ.n + 3) := by omega
  have ne17_ : ¬ (σ.n + 3 = 1) := by omega
  have ne18_ : ¬ (2 = σ.n) := by omega
  have ne19_ : ¬ (σ.n = 2) := by omega
  have ne20_ : ¬ (2 = σ.n + 1) := by omega
  have ne21_ : ¬ (σ.n + 1 = 2) := by omega
  have ne22_ : ¬ (2 = σ.n + 2) := by omega
  have ne23_ : ¬ (σ.n + 2 = 2) := by omega
  have ne24_ : ¬ (2 = σ.n + 3) := by omega
  have ne25_ : ¬ (σ.n + 3 = 2) := by omega
  have ne26_ : ¬ (3 = σ.n) := by omega
  have ne27_ : ¬ (σ.n = 3) := by omega
  have ne28_ : ¬ (3 = σ.n + 1) := by omega
  have ne29_ : ¬ (σ.n + 1 = 3) := by omega
  have ne30_ : ¬ (3 = σ.n + 2) := by omega
  have ne31_ : ¬ (σ.n + 2 = 3) := by omega
  have ne32_ : ¬ (3 = σ.n + 3) := by omega
  have ne33_ : ¬ (σ.n + 3 = 3) := by omega
  have hml : (q.body.map (mapA (sb (o, b)))).length = q.body.length := by simp
  repeat' first|refine nx ?_|refine xb_miss (by decide) ?_|(apply W_reg;(simp [h1, h2, h3, h6, h7, h8, hb0, hb1, hb2, hb3, hn, hT, ne2_, ne3_, ne4_, ne5_, ne6_, ne7_, ne8_, ne9_, ne10_, ne11_, ne12_, ne13_, ne14_, ne15_, ne16_, ne17_, ne18_, ne19_, ne20_, ne21_, ne22_, ne23_, ne24_, ne25_, ne26_, ne27_, ne28_, ne29_, ne30_, ne31_, ne32_, ne33_];exact .r _))
  refine W_cond (by simp [h1, h2, h3, h6, h7, h8, hb0, hb1, hb2, hb3, hn, hT, ne2_, ne3_, ne4_, ne5_, ne6_, ne7_, ne8_, ne9_, ne10_, ne11_, ne12_, ne13_, ne14_, ne15_, ne16_, ne17_, ne18_, ne19_, ne20_, ne21_, ne22_, ne23_, ne24_, ne25_, ne26_, ne27_, ne28_, ne29_, ne30_, ne31_, ne32_, ne33_]; exact .r _) (fun hc => ?_) (fun hc => ?_)
  · have hil : i < q.body.length := by simpa using hc
    have hit : i < (q.body.map (mapA (sb (o, b)))).length := by omega
    have hti : (q.body.map (mapA (sb (o, b))))[i] = ⟨q.body[i].rel, q.body[i].args.map (sb (o, b))⟩ := by simp [mapA]
    have c2 := cv (l13Swap_r q.body[i].args o b (h.2.2 _ (List.getElem_mem hil)))
    have hrl : (rowsE (q.body[i].args.map (sb (o, b)))).length = q.body[i].args.length := by rw [rowsE_len, List.length_map]
    have hbt : i + 1 < 1099511627776 := by omega
    rcases Nat.eq_zero_or_pos i with h0 | h0
    · subst h0
      repeat' first|refine nx ?_|refine xb_miss (by decide) ?_|(apply W_reg;(simp [h1, h2, h3, h6, h7, h8, hb0, hb1, hb2, hb3, hn, hT, ne2_, ne3_, ne4_, ne5_, ne6_, ne7_, ne8_, ne9_, ne10_, ne11_, ne12_, ne13_, ne14_, ne15_, ne16_, ne17_, ne18_, ne19_, ne20_, ne21_, ne22_, ne23_, ne24_, ne25_, ne26_, ne27_, ne28_, ne29_, ne30_, ne31_, ne32_, ne33_, hil, c2, hrl];exact .r _))|(apply W_draw (id := 5) [0,1,0,4,0,28,60,124,0,256,0,1792,3840,7936,0,0,65280,131068,262140,524287,1048575,2097151] rfl rfl; (· simp; exact .r _); (· simp [h1, h2, h3, h6, h7, h8, hb0, hb1, hb2, hb3, hn, hT, ne2_, ne3_, ne4_, ne5_, ne6_, ne7_, ne8_, ne9_, ne10_, ne11_, ne12_, ne13_, ne14_, ne15_, ne16_, ne17_, ne18_, ne19_, ne20_, ne21_, ne22_, ne23_, ne24_, ne25_, ne26_, ne27_, ne28_, ne29_, ne30_, ne31_, ne32_, ne33_, hil, c2, hrl]; exact .r _); (· first|trivial|simp))
      refine ⟨_, ?_, 0 + 1, σ.n + 2, 0, rfl, rfl, ?_, ?_, ?_, ?_, ?_, ?_, by omega, ?_, ?_, ?_, ?_, ?_, (.inr ⟨by (simp [h1, h2, h3, h6, h7, h8, hb0, hb1, hb2, hb3, hn, hT, ne2_, ne3_, ne4_, ne5_, ne6_, ne7_, ne8_, ne9_, ne10_, ne11_, ne12_, ne13_, ne14_, ne15_, ne16_, ne17_, ne18_, ne19_, ne20_, ne21_, ne22_, ne23_, ne24_, ne25_, ne26_, ne27_, ne28_, ne29_, ne30_, ne31_, ne32_, ne33_]; rw [rowsE_take _ _ hit, hti]; simp [rowsE]), by omega, by (simp)⟩)⟩
      all_goals first|assumption|(simp [h1, h2, h3, h6, h7, h8, hb0, hb1, hb2, hb3, hn, hT, ne2_, ne3_, ne4_, ne5_, ne6_, ne7_, ne8_, ne9_, ne10_, ne11_, ne12_, ne13_, ne14_, ne15_, ne16_, ne17_, ne18_, ne19_, ne20_, ne21_, ne22_, ne23_, ne24_, ne25_, ne26_, ne27_, ne28_, ne29_, ne30_, ne31_, ne32_, ne33_];done)|(simp [h1, h2, h3, h6, h7, h8, hb0, hb1, hb2, hb3, hn, hT, ne2_, ne3_, ne4_, ne5_, ne6_, ne7_, ne8_, ne9_, ne10_, ne11_, ne12_, ne13_, ne14_, ne15_, ne16_, ne17_, ne18_, ne19_, ne20_, ne21_, ne22_, ne23_, ne24_, ne25_, ne26_, ne27_, ne28_, ne29_, ne30_, ne31_, ne32_, ne33_];omega)|(simp [h1, h2, h3, h6, h7, h8, hb0, hb1, hb2, hb3, hn, hT, ne2_, ne3_, ne4_, ne5_, ne6_, ne7_, ne8_, ne9_, ne10_, ne11_, ne12_, ne13_, ne14_, ne15_, ne16_, ne17_, ne18_, ne19_, ne20_, ne21_, ne22_, ne23_, ne24_, ne25_, ne26_, ne27_, ne28_, ne29_, ne30_, ne31_, ne32_, ne33_];exact wrap_succ (by omega))|omega
    · obtain ⟨hT1, hT2, hT3⟩ := hT.resolve_left (by omega)
      have hgc := gc_pos (o := oT) (show i ≠ 0 by omega)
      have ne34_ : ¬ (oT = 0) := by omega
      have ne35_ : ¬ (0 = oT) := by omega
      have ne36_ : ¬ (oT = 1) := by omega
      have ne37_ : ¬ (1 = oT) := by omega
      have ne38_ : ¬ (oT = 2) := by omega
      have ne39_ : ¬ (2 = oT) := by omega
      have ne40_ : ¬ (oT = 3) := by omega
      have ne41_ : ¬ (3 = oT) := by omega
      have ne42_ : ¬ (oT = σ.n) := by omega
      have ne43_ : ¬ (σ.n = oT) := by omega
      have ne44_ : ¬ (oT = σ.n + 1) := by omega
      have ne45_ : ¬ (σ.n + 1 = oT) := by omega
      have ne46_ : ¬ (oT = σ.n + 2) := by omega
      have ne47_ : ¬ (σ.n + 2 = oT) := by omega
      have ne48_ : ¬ (oT = σ.n + 3) := by omega
      have ne49_ : ¬ (σ.n + 3 = oT) := by omega
      repeat' first|refine nx ?_|refine xb_miss (by decide) ?_|(apply W_reg;(simp [h1, h2, h3, h6, h7, h8, hb0, hb1, hb2, hb3, hn, hT, ne2_, ne3_, ne4_, ne5_, ne6_, ne7_, ne8_, ne9_, ne10_, ne11_, ne12_, ne13_, ne14_, ne15_, ne16_, ne17_, ne18_, ne19_, ne20_, ne21_, ne22_, ne23_, ne24_, ne25_, ne26_, ne27_, ne28_, ne29_, ne30_, ne31_, ne32_, ne33_, ne34_, ne35_, ne36_, ne37_, ne38_, ne39_, ne40_, ne41_, ne42_, ne43_, ne44_, ne45_, ne46_, ne47_, ne48_, ne49_, hil, c2, hrl, hT1, hgc, hbt, show min i q.body.length = i by omega];exact .r _))|(apply W_draw (id := 5) [0,1,0,4,0,28,60,124,0,256,0,1792,3840,7936,0,0,65280,131068,262140,524287,1048575,2097151] rfl rfl; (· simp; exact .r _); (· simp [h1, h2, h3, h6, h7, h8, hb0, hb1, hb2, hb3, hn, hT, ne2_, ne3_, ne4_, ne5_, ne6_, ne7_, ne8_, ne9_, ne10_, ne11_, ne12_, ne13_, ne14_, ne15_, ne16_, ne17_, ne18_, ne19_, ne20_, ne21_, ne22_, ne23_, ne24_, ne25_, ne26_, ne27_, ne28_, ne29_, ne30_, ne31_, ne32_, ne33_, ne34_, ne35_, ne36_, ne37_, ne38_, ne39_, ne40_, ne41_, ne42_, ne43_, ne44_, ne45_, ne46_, ne47_, ne48_, ne49_, hil, c2, hrl, hT1, hgc, hbt, show min i q.body.length = i by omega]; exact .r _); (· first|trivial|simp))
      refine ⟨_, ?_, i + 1, oT, st, rfl, rfl, ?_, ?_, ?_, ?_, ?_, ?_, by omega, ?_, ?_, ?_, ?_, ?_, (.inr ⟨by (simp [h1, h2, h3, h6, h7, h8, hb0, hb1, hb2, hb3, hn, hT, ne2_, ne3_, ne4_, ne5_, ne6_, ne7_, ne8_, ne9_, ne10_, ne11_, ne12_, ne13_, ne14_, ne15_, ne16_, ne17_, ne18_, ne19_, ne20_, ne21_, ne22_, ne23_, ne24_, ne25_, ne26_, ne27_, ne28_, ne29_, ne30_, ne31_, ne32_, ne33_, ne34_, ne35_, ne36_, ne37_, ne38_, ne39_, ne40_, ne41_, ne42_, ne43_, ne44_, ne45_, ne46_, ne47_, ne48_, ne49_]; rw [rowsE_take _ _ hit, hti]; simp [rowsE]), hT2, by (simp; omega)⟩)⟩
      all_goals first|assumption|(simp [h1, h2, h3, h6, h7, h8, hb0, hb1, hb2, hb3, hn, hT, ne2_, ne3_, ne4_, ne5_, ne6_, ne7_, ne8_, ne9_, ne10_, ne11_, ne12_, ne13_, ne14_, ne15_, ne16_, ne17_, ne18_, ne19_, ne20_, ne21_, ne22_, ne23_, ne24_, ne25_, ne26_, ne27_, ne28_, ne29_, ne30_, ne31_, ne32_, ne33_, ne34_, ne35_, ne36_, ne37_, ne38_, ne39_, ne40_, ne41_, ne42_, ne43_, ne44_, ne45_, ne46_, ne47_, ne48_, ne49_];done)|(simp [h1, h2, h3, h6, h7, h8, hb0, hb1, hb2, hb3, hn, hT, ne2_, ne3_, ne4_, ne5_, ne6_, ne7_, ne8_, ne9_, ne10_, ne11_, ne12_, ne13_, ne14_, ne15_, ne16_, ne17_, ne18_, ne19_, ne20_, ne21_, ne22_, ne23_, ne24_, ne25_, ne26_, ne27_, ne28_, ne29_, ne30_, ne31_, ne32_, ne33_, ne34_, ne35_, ne36_, ne37_, ne38_, ne39_, ne40_, ne41_, ne42_, ne43_, ne44_, ne45_, ne46_, ne47_, ne48_, ne49_];omega)|(simp [h1, h2, h3, h6, h7, h8, hb0, hb1, hb2, hb3, hn, hT, ne2_, ne3_, ne4_, ne5_, ne6_, ne7_, ne8_, ne9_, ne10_, ne11_, ne12_, ne13_, ne14_, ne15_, ne16_, ne17_, ne18_, ne19_, ne20_, ne21_, ne22_, ne23_, ne24_, ne25_, ne26_, ne27_, ne28_, ne29_, ne30_, ne31_, ne32_, ne33_, ne34_, ne35_, ne36_, ne37_, ne38_, ne39_, ne40_, ne41_, ne42_, ne43_, ne44_, ne45_, ne46_, ne47_, ne48_, ne49_];exact wrap_succ (by omega))|omega
  · have hil : i = q.body.length := by simp at hc; omega
    subst hil
    rcases Nat.eq_zero_or_pos q.body.length with h0 | h0
    · have hbe : q.body = [] := List.eq_nil_of_length_eq_zero h0
      rw [h0] at hb3
      repeat' first|refine nx ?_|refine xb_miss (by decide) ?_|(apply W_reg;(simp [h1, h2, h3, h6, h7, h8, hb0, hb1, hb2, hb3, hn, hT, ne2_, ne3_, ne4_, ne5_, ne6_, ne7_, ne8_, ne9_, ne10_, ne11_, ne12_, ne13_, ne14_, ne15_, ne16_, ne17_, ne18_, ne19_, ne20_, ne21_, ne22_, ne23_, ne24_, ne25_, ne26_, ne27_, ne28_, ne29_, ne30_, ne31_, ne32_, ne33_];exact .r _))
      simp [xvQn, chg, hbe, h6, hb2]
    · obtain ⟨hT1, hT2, hT3⟩ := hT.resolve_left (by omega)
      have hgc := gc_pos (o := oT) (show q.body.length ≠ 0 by omega)
      have hne : q.body ≠ [] := fun e => by rw [e] at h0; simp at h0
      rw [← hml, List.take_length] at hT1
      have ne50_ : ¬ (oT = 0) := by omega
      have ne51_ : ¬ (0 = oT) := by omega
      have ne52_ : ¬ (oT = 1) := by omega
      have ne53_ : ¬ (1 = oT) := by omega
      have ne54_ : ¬ (oT = 2) := by omega
      have ne55_ : ¬ (2 = oT) := by omega
      have ne56_ : ¬ (oT = 3) := by omega
      have ne57_ : ¬ (3 = oT) := by omega
      repeat' first|refine nx ?_|refine xb_miss (by decide) ?_|(apply W_reg;(simp [h1, h2, h3, h6, h7, h8, hb0, hb1, hb2, hb3, hn, hT, ne2_, ne3_, ne4_, ne5_, ne6_, ne7_, ne8_, ne9_, ne10_, ne11_, ne12_, ne13_, ne14_, ne15_, ne16_, ne17_, ne18_, ne19_, ne20_, ne21_, ne22_, ne23_, ne24_, ne25_, ne26_, ne27_, ne28_, ne29_, ne30_, ne31_, ne32_, ne33_, ne50_, ne51_, ne52_, ne53_, ne54_, ne55_, ne56_, ne57_, hgc];exact .r _))
      simp [xvQn, chg, hne, h6, hb2, hT1, hgc, h1, h2, h3, h6, h7, h8, hb0, hb1, hb2, hb3, hn, hT, ne2_, ne3_, ne4_, ne5_, ne6_, ne7_, ne8_, ne9_, ne10_, ne11_, ne12_, ne13_, ne14_, ne15_, ne16_, ne17_, ne18_, ne19_, ne20_, ne21_, ne22_, ne23_, ne24_, ne25_, ne26_, ne27_, ne28_, ne29_, ne30_, ne31_, ne32_, ne33_, ne50_, ne51_, ne52_, ne53_, ne54_, ne55_, ne56_, ne57_]
abbrev xvQs (q : Qry) : XV := .agg [.t (.sl (rowsE q.head)) true, .t (.sl (rowsE q.body)) true]
def xEqt (q : Qry) (t u : Int) : XV := match eqt t u with
  | none => .tup [xvQs q, .t (.b false) false]
  | some p => if t = u then .tup [xvQs q, .t (.b true) false] else .tup [xvQ (chg (sb p) q), .t (.b true) false]
theorem l13Equate_r (q : Qry) (t u : Int) (h : SmQ q) (hb : q.body ≠ []) : Ret XX 103 [Ag q, In t, In u] (xEqt q t u) := by
  refine ret_W rfl Try.func103 rfl rfl (by simp [Try.f103]) ?_
  simp only [Try.f103]
  have hbc : ∀ p, (chg (sb p) q).body ≠ [] := fun p e => hb (by simpa [chg] using e)
  have r1 : ∀ o b, xvQn (chg (sb (o, b)) q) = xvQ (chg (sb (o, b)) q) := fun o b => xvQn_ne (hbc _)
  by_cases e1 : t = u
  · subst e1
    repeat' first|refine nx ?_|refine xb_miss (by decide) ?_|(apply W_reg;(simp [Ag];exact .r _))
    refine W_cond (by simp; exact .r _) (fun hc => ?_) (fun hc => ?_)
    · repeat' first|refine nx ?_|refine xb_miss (by decide) ?_|(apply W_reg;(simp;exact .r _))
      simp [xEqt, eqt]
    · simp at hc
  repeat' first|refine nx ?_|refine xb_miss (by decide) ?_|(apply W_reg;(simp [Ag, e1];exact .r _))
  refine W_cond (by simp; exact .r _) (fun hc => ?_) (fun hc => ?_)
  · simp at hc
  by_cases e2 : t < 0
  · by_cases e3 : u < 0
    · repeat' first|refine nx ?_|refine xb_miss (by decide) ?_|(apply W_reg;(simp [e2, e3];exact .r _))
      refine W_cond (by simp; exact .r _) (fun hc => ?_) (fun hc => ?_)
      · repeat' first|refine nx ?_|refine xb_miss (by decide) ?_|(apply W_reg;(simp;exact .r _))
        simp [xEqt, eqt, e1, e2, e3]
      · simp at hc
    · have c1 := cv (specRepl_r q u t h)
      simp only [Ag, cells_Q, List.map_cons, List.map_nil] at c1
      rw [r1] at c1
      repeat' first|refine nx ?_|refine xb_miss (by decide) ?_|(apply W_reg;(simp [e2, e3];exact .r _))
      refine W_cond (by simp; exact .r _) (fun hc => ?_) (fun hc => ?_)
      · simp at hc
      repeat' first|refine nx ?_|refine xb_miss (by decide) ?_|(apply W_reg;(simp [e2];exact .r _))
      refine W_cond (by simp; exact .r _) (fun hc => ?_) (fun hc => ?_)
      · repeat' first|refine nx ?_|refine xb_miss (by decide) ?_|(apply W_reg;(simp [c1];exact .r _))
        simp [xEqt, eqt, e1, e2, e3]
      · simp at hc
  · by_cases e3 : u < 0
    · have c1 := cv (specRepl_r q t u h)
      simp only [Ag, cells_Q, List.map_cons, List.map_nil] at c1
      rw [r1] at c1
      repeat' first|refine nx ?_|refine xb_miss (by decide) ?_|(apply W_reg;(simp [e2];exact .r _))
      refine W_cond (by simp; exact .r _) (fun hc => ?_) (fun hc => ?_)
      · simp at hc
      repeat' first|refine nx ?_|refine xb_miss (by decide) ?_|(apply W_reg;(simp [e2];exact .r _))
      refine W_cond (by simp; exact .r _) (fun hc => ?_) (fun hc => ?_)
      · simp at hc
      repeat' first|refine nx ?_|refine xb_miss (by decide) ?_|(apply W_reg;(simp [e3];exact .r _))
      refine W_cond (by simp; exact .r _) (fun hc => ?_) (fun hc => ?_)
      · repeat' first|refine nx ?_|refine xb_miss (by decide) ?_|(apply W_reg;(simp [c1];exact .r _))
        simp [xEqt, eqt, e1, e2, e3]
      · simp at hc
    · have c1 := cv (specRepl_r q (max t u) (min t u) h)
      simp only [Ag, cells_Q, List.map_cons, List.map_nil] at c1
      rw [r1] at c1
      repeat' first|refine nx ?_|refine xb_miss (by decide) ?_|(apply W_reg;(simp [e2];exact .r _))
      refine W_cond (by simp; exact .r _) (fun hc => ?_) (fun hc => ?_)
      · simp at hc
      repeat' first|refine nx ?_|refine xb_miss (by decide) ?_|(apply W_reg;(simp [e2];exact .r _))
      refine W_cond (by simp; exact .r _) (fun hc => ?_) (fun hc => ?_)
      · simp at hc
      repeat' first|refine nx ?_|refine xb_miss (by decide) ?_|(apply W_reg;(simp [e3];exact .r _))
      refine W_cond (by simp; exact .r _) (fun hc => ?_) (fun hc => ?_)
      · simp at hc
      have hmx : (if t < u then u else t) = max t u := by split <;> omega
      have hmn : (if u < t then u else t) = min t u := by split <;> omega
      repeat' first|refine nx ?_|refine xb_miss (by decide) ?_|(apply W_reg;(simp [c1, hmx, hmn];exact .r _))
      simp [xEqt, eqt, e1, e2, e3]
end Go.Proofs.Ytlehbgapjibeeaa.V

namespace Go.Proofs.Ytlehbgapjibeeaa.V
open Go Go.Proofs
set_option linter.unusedVariables false
def low (us : List Int) (w : Nat) : Prop := ∀ u : Nat, u < w → (u : Int) ∈ us
theorem low_len : ∀ (w : Nat) (us : List Int), low us w → w ≤ us.length
  | 0, _, _ => Nat.zero_le _
  | w + 1, us, h => by
    have hm : (w : Int) ∈ us := h w (by omega)
    have h2 : low (us.erase (w : Int)) w := fun u hu => (List.mem_erase_of_ne (by omega)).2 (h u (by omega))
    have := low_len w _ h2
    rw [List.length_erase_of_mem hm] at this
    have : 0 < us.length := List.length_pos_of_mem hm
    omega
theorem lst_spec (us : List Int) : low us (lst us) ∧ ((lst us : Nat) : Int) ∉ us := by
  unfold lst
  cases e : (List.range (us.length + 1)).find? fun (v : Nat) => !decide ((v : Int) ∈ us) with
  | none =>
    exfalso
    rw [List.find?_eq_none] at e
    have : low us (us.length + 1) := fun u hu => by
      have := e u (List.mem_range.2 hu); simpa using this
    have := low_len _ _ this
    omega
  | some v =>
    rw [List.find?_range_eq_some] at e
    obtain ⟨h1, h2, h3⟩ := e
    simp only [Option.getD_some]
    refine ⟨fun u hu => ?_, by simpa using h1⟩
    have := h3 u hu; simpa using this
theorem lst_eq {us : List Int} {w : Nat} (h : low us w) (hw : (w : Int) ∉ us) : lst us = w := by
  obtain ⟨h1, h2⟩ := lst_spec us
  rcases Nat.lt_trichotomy (lst us) w with h3 | h3 | h3
  · exact absurd (h _ h3) h2
  · exact h3
  · exact absurd (h1 _ h3) hw
theorem low_le {us : List Int} {w : Nat} (h : low us w) : w ≤ lst us := by
  apply Nat.le_of_not_lt
  intro h3
  exact (lst_spec us).2 (h _ h3)
theorem low_mono {us vs : List Int} {w : Nat} (h : low us w) (hs : ∀ u ∈ us, u ∈ vs) : low vs w := fun u hu => hs _ (h u hu)
theorem low_app {us : List Int} {w : Nat} (h : low us w) (x : Int) : low (us ++ [x]) w := low_mono h fun u hu => List.mem_append.2 (.inl hu)
theorem low_succ {us : List Int} {w : Nat} (h : low us w) (hw : (w : Int) ∈ us) : low us (w + 1) := fun u hu => by
  rcases Nat.lt_succ_iff_lt_or_eq.1 hu with h1 | h1
  · exact h u h1
  · rw [h1]; exact hw
theorem fr_snoc (l us : List Int) (x : Int) : fr (l ++ [x]) us = frF (fr l us) x := by unfold fr; rw [List.foldl_append]; rfl
theorem fr_keys (l us : List Int) : (fr l us).1.map (·.1) = l := by
  have : ∀ (l : List Int) (s : List (Int × Int) × List Int), (l.foldl frF s).1.map (·.1) = s.1.map (·.1) ++ l := by
    intro l
    induction l with
    | nil => intro s; simp
    | cons x l ih => intro s; rw [List.foldl_cons, ih]; simp [frF]
  unfold fr; simpa using this l ([], us)
theorem fr_len (l us : List Int) : (fr l us).2.length = us.length + l.length := by
  have : ∀ (l : List Int) (s : List (Int × Int) × List Int), (l.foldl frF s).2.length = s.2.length + l.length := by
    intro l
    induction l with
    | nil => intro s; simp
    | cons x l ih => intro s; rw [List.foldl_cons, ih]; simp [frF]; omega
  exact this l ([], us)
theorem asn_not {ps : List (Int × Int)} {t : Int} (h : t ∉ ps.map (·.1)) : asn ps t = t := by
  unfold asn
  rw [List.find?_eq_none.2 (fun p hp => by simp only [decide_eq_true_eq]; exact fun e => h (List.mem_map.2 ⟨p, hp, e⟩))]
  rfl
theorem asn_app_ne {ps : List (Int × Int)} {t : Int} {q : Int × Int} (h : q.1 ≠ t) : asn (ps ++ [q]) t = asn ps t := by
  unfold asn
  rw [List.find?_append]
  cases e2 : ps.find? fun p => decide (p.1 = t) with
  | none => simp [h]
  | some x => simp
theorem asn_app_new {ps : List (Int × Int)} {t n : Int} (h : t ∉ ps.map (·.1)) : asn (ps ++ [(t, n)]) t = n := by
  unfold asn
  rw [List.find?_append, List.find?_eq_none.2 (fun p hp => by simp only [decide_eq_true_eq]; exact fun e => h (List.mem_map.2 ⟨p, hp, e⟩))]
  simp
theorem asn_val {ps : List (Int × Int)} {t : Int} (h : t ∈ ps.map (·.1)) : ∃ p ∈ ps, p.1 = t ∧ asn ps t = p.2 := by
  unfold asn
  obtain ⟨p, hp, e⟩ := List.mem_map.1 h
  cases e2 : ps.find? fun p => decide (p.1 = t) with
  | none => rw [List.find?_eq_none] at e2; have := e2 p hp; simp [e] at this
  | some x => exact ⟨x, List.mem_of_find?_eq_some e2, by simpa using List.find?_some e2, by simp⟩
theorem chg_congr {f g : Int → Int} {q : Qry} (h1 : ∀ t ∈ q.head, f t = g t) (h2 : ∀ a ∈ q.body, ∀ t ∈ a.args, f t = g t) : chg f q = chg g q := by
  unfold chg
  rw [List.map_congr_left h1]
  congr 1
  exact List.map_congr_left fun a ha => by unfold mapA; rw [List.map_congr_left (h2 a ha)]
theorem iota_mem {n : Nat} {t : Int} : t ∈ iota n ↔ 0 ≤ t ∧ t < n := by
  unfold iota
  rw [List.mem_map]
  constructor
  · rintro ⟨u, hu, rfl⟩; have := List.mem_range.1 hu; simp; omega
  · rintro ⟨h1, h2⟩; exact ⟨t.toNat, List.mem_range.2 (by omega), by simp; omega⟩
theorem iota_nodup (n : Nat) : (iota n).Nodup := by
  unfold iota
  exact List.Pairwise.map _ (fun a b h => by simp; omega) (List.nodup_range (n := n))
theorem varsQ_mem {q : Qry} {t : Int} : t ∈ varsQ q ↔ (0 ≤ t ∧ t < 20) ∧ (occurs q t = true ∨ t ∈ q.head) := by
  unfold varsQ
  rw [List.mem_filter, iota_mem]; simp
theorem varsQ_nodup (q : Qry) : (varsQ q).Nodup := (iota_nodup 20).filter _
/-- Which of the first names are in use. -/
def bs (us : List Int) : List Bool := (List.range 20).map fun (u : Nat) => decide ((u : Int) ∈ us)
theorem bs_len (us : List Int) : (bs us).length = 20 := by simp [bs]
theorem bs_get {us : List Int} {u : Nat} (h : u < 20) (h2 : u < (bs us).length) : (bs us)[u] = decide ((u : Int) ∈ us) := by simp [bs]
theorem bs_set {us : List Int} {n : Nat} (h : n < 20) : (bs us).set n true = bs (us ++ [(n : Int)]) := by
  apply List.ext_getElem
  · simp [bs]
  · intro i h1 h2
    rw [List.getElem_set]
    by_cases e : n = i
    · subst e; simp [bs]
    · rw [if_neg e]; simp [bs]; omega
end Go.Proofs.Ytlehbgapjibeeaa.V

namespace Go.Proofs.Ytlehbgapjibeeaa.V
open Go Go.Proofs
set_option linter.unusedVariables false
set_option linter.unusedSimpArgs false
/-- Over the caller's store: a call that answers a query that it made, the caller's slice and a truth value. -/
theorem callV_tq {M : Nat → Bool} {X : Ora} {σ σ1 σ' : Sto} {f oH oB oU a b c s1 s2 z1 z2 : Nat} {y : Bool} {r1 r2 : List (List T)} {args : List AV} (hM : M f = true) (H : X f args σ = some (.tup [.agg [.ref oH a [], .ref oB b []], .ref oU c [], .t (.b y)], σ1))
    (hH : σ.n ≤ oH) (hB : σ.n ≤ oB) (hne : oH ≠ oB) (hU : oU < σ.n) (h1 : σ1.ob oH = .arr (.own 0) s1 z1 r1) (l1 : r1.length = a) (h2 : σ1.ob oB = .arr (.own 0) s2 z2 r2) (l2 : r2.length = b) (hn : σ.n < σ1.n) (hn' : σ'.n = σ.n)
    (h3 : ∀ x, x < σ.n → σ1.ob x = σ'.ob x) (hcl : ∀ x, x < σ.n → (σ'.ob x).clean σ.n = true) (hdd : ∀ x, σ.n ≤ x → σ'.ob x = .dead) :
    callV M X σ f args = some (.tup [.agg [.ref σ.n a [], .ref (σ.n + 1) b []], .ref oU c [], .t (.b y)], (σ'.new (.arr (.own 0) 0 z1 r1)).new (.arr (.own 0) 0 z2 r2)) := by
  unfold callV
  rw [if_pos hM, H]
  simp only
  rw [if_neg (by omega), if_pos (by rw [List.all_eq_true]; exact fun o ho => by rw [h3 o (List.mem_range.1 ho)]; exact hcl o (List.mem_range.1 ho)), cut_eq hn' h3 hdd]
  have e1 : ¬ oH < σ.n := by omega
  have e2 : ¬ oB < σ.n := by omega
  have e3 : ¬ oB = oH := fun h => hne h.symm
  simp [impR, impAs, impA, impL, imp1, e1, e2, e3, h1, h2, l1, l2, hU, upd_app, Sto.set, hn', Sto.new]
def frs (v : Qry) (us : List Int) : List (Int × Int) × List Int := fr (varsQ v) us
theorem rnI_iota {ps : List (Int × Int)} (t : Int) (hk : ∀ u ∈ ps.map (·.1), 0 ≤ u ∧ u < 20) : rnI ((iota 20).map (asn ps)) t = asn ps t := by
  unfold rnI
  have hl : ((iota 20).map (asn ps)).length = 20 := by simp [iota]
  rw [hl]
  split
  · rename_i h
    have ht : t.toNat < 20 := by omega
    rw [List.getElem?_map]
    have : (iota 20)[t.toNat]? = some t := by
      unfold iota
      rw [List.getElem?_map, List.getElem?_range ht]; simp; omega
    rw [this]; rfl
  · rename_i h
    exact (asn_not fun hm => by have := hk t hm; omega).symm
theorem varL_mem {v : Qry} {i : Nat} {t : Int} : t ∈ varL v i ↔ (0 ≤ t ∧ t < i) ∧ (occurs v t = true ∨ t ∈ v.head) := by
  unfold varL; rw [List.mem_filter, iota_mem]; simp
theorem varL_step (v : Qry) {i : Nat} (h : i < 20) : varL v (i + 1) = if (i : Int) ∈ varsQ v then varL v i ++ [(i : Int)] else varL v i := by
  rw [varL_succ]
  by_cases e : (occurs v i || decide ((i : Int) ∈ v.head)) = true
  · rw [if_pos e, if_pos (varsQ_mem.2 ⟨by omega, by simpa using e⟩)]
  · rw [if_neg e, if_neg (fun hm => e (by simpa using (varsQ_mem.1 hm).2)), List.append_nil]
theorem to_skip {ps : List (Int × Int)} {i : Nat} (h : (i : Int) ∉ ps.map (·.1)) : (iota (i + 1)).map (asn ps) = (iota i).map (asn ps) ++ [(i : Int)] := by
  rw [iota_succ, List.map_append, List.map_cons, List.map_nil, asn_not h]
theorem to_new {ps : List (Int × Int)} {i : Nat} {n : Int} (h : (i : Int) ∉ ps.map (·.1)) : (iota (i + 1)).map (asn (ps ++ [((i : Int), n)])) = (iota i).map (asn ps) ++ [n] := by
  rw [iota_succ, List.map_append, List.map_cons, List.map_nil, asn_app_new h]
  congr 1
  exact List.map_congr_left fun t ht => asn_app_ne (by have := (iota_mem.1 ht).2; simp; omega)
theorem iota_len (n : Nat) : (iota n).length = n := by simp [iota]
set_option maxRecDepth 10000 in
set_option maxHeartbeats 2000000 in
theorem l15Fresh_k (σ0 : Sto) (oU st : Nat) (us : List Int) (v : Qry) (hob : σ0.ob oU = .arr (.own 0) st 1 (rowsE us)) (hon : oU < σ0.n) (hul : us.length ≤ 100000) (hv : SmQ v) (hvb : v.body ≠ []) (hb : v.body.length ≤ 1000) (ha : ∀ a ∈ v.body, a.args.length ≤ 1000) :
    ∃ r σ1, XX 102 [Ag v, .ref oU us.length []] σ0 = some (r, σ1) ∧ ∃ oH oB, r = .tup [.agg [.ref oH v.head.length [], .ref oB v.body.length []], .ref oU (frs v us).2.length [], Bo (frOk (frs v us).1)] ∧ σ0.n ≤ oH ∧ σ0.n ≤ oB ∧ oH ≠ oB ∧ σ0.n < σ1.n
      ∧ σ1.ob oH = .arr (.own 0) 0 1 (rowsE (chg (asn (frs v us).1) v).head) ∧ σ1.ob oB = .arr (.own 0) 0 2 (rowsE (chg (asn (frs v us).1) v).body) ∧ σ1.ob oU = .arr (.own 0) st 1 (rowsE (frs v us).2) ∧ ∀ x, x < σ0.n → x ≠ oU → σ1.ob x = σ0.ob x := by
  refine W_fn rfl Try.func102 rfl rfl (by simp [Try.f102]) ?_
  simp only [Try.f102]
  have c1 := cv (specVars_r v hv.1 hb ha)
  simp only [Ag, cells_Q, List.map_cons, List.map_nil] at c1 ⊢
  have hvl : (varsQ v).length ≤ 20 := varL_len v 20
  have ap1_ := apart hon
  repeat' first|refine nx ?_|refine xb_miss (by decide) ?_|(apply W_reg;(simp [ap1_, c1];exact .r _))
  refine W_loop (n := 20) (fun n s => ∃ i : Nat, ∃ w : Nat, ∃ ps : List (Int × Int), ∃ U : List Int, n = 20 - i ∧ s.nt = 45 ∧ s.tm 1 = .ref oU U.length [] ∧ s.tm 2 = .ptr σ0.n 0 ∧ s.tm 4 = .ptr (σ0.n + 1) 0 ∧ s.tm 7 = .ref (σ0.n + 2) i [] ∧ s.tm 8 = In w ∧ s.tm 9 = .ref (σ0.n + 3) (varsQ v).length [] ∧ s.tm 10 = In i ∧ i ≤ 20 ∧ s.σ.ob σ0.n = .box [Ar v.head, Ar v.body] ∧ s.σ.ob (σ0.n + 1) = .box [.t .nl, .t .nl] ∧ s.σ.ob (σ0.n + 2) = .arr (.own 0) 0 1 (rowsE ((iota i).map (asn ps))) ∧ s.σ.ob (σ0.n + 3) = .arr (.own 0) 0 1 (rowsE (varsQ v)) ∧ s.σ.ob oU = .arr (.own 0) st 1 (rowsE U) ∧ σ0.n + 4 ≤ s.σ.n ∧ (∀ x, x < σ0.n → x ≠ oU → s.σ.ob x = σ0.ob x) ∧ (ps, U) = fr (varL v i) us ∧ low U w ∧ ((∀ p ∈ ps, p.2 ≤ w) ∧ (w = 0 ∨ ∃ p ∈ ps, p.2 = (w : Int)))) ⟨0, 0, [], us, by (simp [ap1_, hob]; exact ⟨rfl, fun x y1 y2 => by rw [if_neg (by omega), if_neg (by omega), if_neg (by omega), if_neg (by omega)], rfl, fun u hu => absurd hu (by omega)⟩)⟩ ?_
  rintro n ⟨nt, tm, σ⟩ ⟨i, w, ps, U, rfl, hnt, h1, h2, h4, h7, h8, h9, h10, hi, hb2, hb4, hto, hv9, hU, hn, hfr, hPU, hlow, hwl⟩
  simp only at hnt h1 h2 h4 h7 h8 h9 h10 hb2 hb4 hto hv9 hU hn hfr
  subst hnt
  have hUl : U.length ≤ us.length + 20 := by
    have h1 := fr_len (varL v i) us
    rw [← hPU] at h1
    have h2 := varL_len v i
    simp only at h1; omega
  have hks : ps.map (·.1) = varL v i := by have := fr_keys (varL v i) us; rw [← hPU] at this; exact this
  have hki : (i : Int) ∉ ps.map (·.1) := by rw [hks, varL_mem]; omega
  have hwU := low_len _ _ hlow
  have hoU : oU < σ.n := by omega
  have ap2_ := apart hn
  have ap3_ := apart hoU
  have ne4_ : ¬ (oU = σ0.n) := by omega
  have ne5_ : ¬ (σ0.n = oU) := by omega
  have ne6_ : ¬ (oU = σ0.n + 1) := by omega
  have ne7_ : ¬ (σ0.n + 1 = oU) := by omega
  have ne8_ : ¬ (oU = σ0.n + 2) := by omega
  have ne9_ : ¬ (σ0.n + 2 = oU) := by omega
  have ne10_ : ¬ (oU = σ0.n + 3) := by omega
  have ne11_ : ¬ (σ0.n + 3 = oU) := by omega
  have ne12_ : ¬ (σ0.n = σ.n) := by omega
  have ne13_ : ¬ (σ.n = σ0.n) := by omega
  have ne14_ : ¬ (σ0.n = σ.n + 1) := by omega
  have ne15_ : ¬ (σ.n + 1 = σ0.n) := by omega
  have ne16_ : ¬ (σ0.n + 1 = σ.n) := by omega
  have ne17_ : ¬ (σ.n = σ0.n + 1) := by omega
  have ne18_ : ¬ (σ0.n + 1 = σ.n + 1) := by omega
  have ne19_ : ¬ (σ.n + 1 = σ0.n + 1) := by omega
  have ne20_ : ¬ (σ0.n + 2 = σ.n) := by omega
  have ne21_ : ¬ (σ.n = σ0.n + 2) := by omega
  have ne22_ : ¬ (σ0.n + 2 = σ.n + 1) := by omega
  have ne23_ : ¬ (σ.n + 1 = σ0.n + 2) := by omega
  have ne24_ : ¬ (σ0.n + 3 = σ.n) := by omega
  have ne25_ : ¬ (σ.n = σ0.n + 3) := by omega
  have ne26_ : ¬ (σ0.n + 3 = σ.n + 1) := by omega
  have ne27_ : ¬ (σ.n + 1 = σ0.n + 3) := by omega
  have c2 := cv (l2Has_r (varsQ v) i (by unfold Sm; omega))
  have hil0 := iota_len i
  repeat' first|refine nx ?_|refine xb_miss (by decide) ?_|(apply W_reg;(simp [h1, h2, h4, h7, h8, h9, h10, hb2, hb4, hto, hv9, hU, hn, hfr, ap2_, ap3_, ne4_, ne5_, ne6_, ne7_, ne8_, ne9_, ne10_, ne11_, ne12_, ne13_, ne14_, ne15_, ne16_, ne17_, ne18_, ne19_, ne20_, ne21_, ne22_, ne23_, ne24_, ne25_, ne26_, ne27_];exact .r _))
  refine W_cond (by simp [h1, h2, h4, h7, h8, h9, h10, hb2, hb4, hto, hv9, hU, hn, hfr, ap2_, ap3_, ne4_, ne5_, ne6_, ne7_, ne8_, ne9_, ne10_, ne11_, ne12_, ne13_, ne14_, ne15_, ne16_, ne17_, ne18_, ne19_, ne20_, ne21_, ne22_, ne23_, ne24_, ne25_, ne26_, ne27_]; exact .r _) (fun hc => ?_) (fun hc => ?_)
  · have hil : i < 20 := by simp at hc; omega
    have hst := varL_step v hil
    have hbt : i + 1 < 1099511627776 := by omega
    repeat' first|refine nx ?_|refine xb_miss (by decide) ?_|(apply W_reg;(simp [h1, h2, h4, h7, h8, h9, h10, hb2, hb4, hto, hv9, hU, hn, hfr, ap2_, ap3_, ne4_, ne5_, ne6_, ne7_, ne8_, ne9_, ne10_, ne11_, ne12_, ne13_, ne14_, ne15_, ne16_, ne17_, ne18_, ne19_, ne20_, ne21_, ne22_, ne23_, ne24_, ne25_, ne26_, ne27_, c2, hil0, flatR, hbt];exact .r _))
    by_cases hm : ¬ (i : Int) ∈ varsQ v
    · rw [if_neg hm] at hst
      refine W_cond (by simp [h1, h2, h4, h7, h8, h9, h10, hb2, hb4, hto, hv9, hU, hn, hfr, ap2_, ap3_, ne4_, ne5_, ne6_, ne7_, ne8_, ne9_, ne10_, ne11_, ne12_, ne13_, ne14_, ne15_, ne16_, ne17_, ne18_, ne19_, ne20_, ne21_, ne22_, ne23_, ne24_, ne25_, ne26_, ne27_]; exact .r _) (fun hd => ?_) (fun hd => ?_)
      · repeat' first|refine nx ?_|refine xb_miss (by decide) ?_|(apply W_reg;(simp [h1, h2, h4, h7, h8, h9, h10, hb2, hb4, hto, hv9, hU, hn, hfr, ap2_, ap3_, ne4_, ne5_, ne6_, ne7_, ne8_, ne9_, ne10_, ne11_, ne12_, ne13_, ne14_, ne15_, ne16_, ne17_, ne18_, ne19_, ne20_, ne21_, ne22_, ne23_, ne24_, ne25_, ne26_, ne27_];exact .r _))
        refine ⟨_, ?_, i + 1, w, ps, U, rfl, rfl, ?_, ?_, ?_, ?_, ?_, ?_, ?_, by omega, ?_, ?_, (by simp [h1, h2, h4, h7, h8, h9, h10, hb2, hb4, hto, hv9, hU, hn, hfr, ap2_, ap3_, ne4_, ne5_, ne6_, ne7_, ne8_, ne9_, ne10_, ne11_, ne12_, ne13_, ne14_, ne15_, ne16_, ne17_, ne18_, ne19_, ne20_, ne21_, ne22_, ne23_, ne24_, ne25_, ne26_, ne27_]; rw [to_skip hki]; simp [rowsE]), ?_, ?_, ?_, (fun x y1 y2 => by simp [upd_app, show ¬ x = σ.n by omega, show ¬ x = σ.n + 1 by omega, show ¬ x = σ0.n + 1 by omega, show ¬ x = σ0.n + 2 by omega, show ¬ x = σ0.n + 3 by omega, y2, hfr x y1 y2]), (by rw [hst]; exact hPU), hlow, hwl⟩
        all_goals first|assumption|(simp [h1, h2, h4, h7, h8, h9, h10, hb2, hb4, hto, hv9, hU, hn, hfr, ap2_, ap3_, ne4_, ne5_, ne6_, ne7_, ne8_, ne9_, ne10_, ne11_, ne12_, ne13_, ne14_, ne15_, ne16_, ne17_, ne18_, ne19_, ne20_, ne21_, ne22_, ne23_, ne24_, ne25_, ne26_, ne27_];done)|(simp [h1, h2, h4, h7, h8, h9, h10, hb2, hb4, hto, hv9, hU, hn, hfr, ap2_, ap3_, ne4_, ne5_, ne6_, ne7_, ne8_, ne9_, ne10_, ne11_, ne12_, ne13_, ne14_, ne15_, ne16_, ne17_, ne18_, ne19_, ne20_, ne21_, ne22_, ne23_, ne24_, ne25_, ne26_, ne27_];omega)|(simp [h1, h2, h4, h7, h8, h9, h10, hb2, hb4, hto, hv9, hU, hn, hfr, ap2_, ap3_, ne4_, ne5_, ne6_, ne7_, ne8_, ne9_, ne10_, ne11_, ne12_, ne13_, ne14_, ne15_, ne16_, ne17_, ne18_, ne19_, ne20_, ne21_, ne22_, ne23_, ne24_, ne25_, ne26_, ne27_];exact wrap_succ (by omega))|omega
      · simp [hm] at hd
    · replace hm : (i : Int) ∈ varsQ v := Classical.not_not.1 hm
      rw [if_pos hm] at hst
      refine W_cond (by simp [h1, h2, h4, h7, h8, h9, h10, hb2, hb4, hto, hv9, hU, hn, hfr, ap2_, ap3_, ne4_, ne5_, ne6_, ne7_, ne8_, ne9_, ne10_, ne11_, ne12_, ne13_, ne14_, ne15_, ne16_, ne17_, ne18_, ne19_, ne20_, ne21_, ne22_, ne23_, ne24_, ne25_, ne26_, ne27_]; exact .r _) (fun hd => ?_) (fun hd => ?_)
      · simp [hm] at hd
      repeat' first|refine nx ?_|refine xb_miss (by decide) ?_|(apply W_reg;(simp [h1, h2, h4, h7, h8, h9, h10, hb2, hb4, hto, hv9, hU, hn, hfr, ap2_, ap3_, ne4_, ne5_, ne6_, ne7_, ne8_, ne9_, ne10_, ne11_, ne12_, ne13_, ne14_, ne15_, ne16_, ne17_, ne18_, ne19_, ne20_, ne21_, ne22_, ne23_, ne24_, ne25_, ne26_, ne27_];exact .r _))
      refine W_loop (n := U.length - w) (fun n s => ∃ w' : Nat, n = U.length - w' ∧ s.nt = 45 ∧ s.tm 1 = .ref oU U.length [] ∧ s.tm 2 = .ptr σ0.n 0 ∧ s.tm 4 = .ptr (σ0.n + 1) 0 ∧ s.tm 7 = .ref (σ0.n + 2) (i + 1) [] ∧ s.tm 8 = In w' ∧ s.tm 9 = .ref (σ0.n + 3) (varsQ v).length [] ∧ s.tm 10 = In i ∧ s.σ.ob σ0.n = .box [Ar v.head, Ar v.body] ∧ s.σ.ob (σ0.n + 1) = .box [.t .nl, .t .nl] ∧ s.σ.ob (σ0.n + 2) = .arr (.own 0) 0 1 (rowsE ((iota i).map (asn ps) ++ [(i : Int)])) ∧ s.σ.ob (σ0.n + 3) = .arr (.own 0) 0 1 (rowsE (varsQ v)) ∧ s.σ.ob oU = .arr (.own 0) st 1 (rowsE U) ∧ σ0.n + 4 ≤ s.σ.n ∧ (∀ x, x < σ0.n → x ≠ oU → s.σ.ob x = σ0.ob x) ∧ low U w' ∧ w ≤ w') ⟨w, by (simp [h1, h2, h4, h7, h8, h9, h10, hb2, hb4, hto, hv9, hU, hn, hfr, ap2_, ap3_, ne4_, ne5_, ne6_, ne7_, ne8_, ne9_, ne10_, ne11_, ne12_, ne13_, ne14_, ne15_, ne16_, ne17_, ne18_, ne19_, ne20_, ne21_, ne22_, ne23_, ne24_, ne25_, ne26_, ne27_]; exact ⟨by simp [rowsE], by omega, fun x y1 y2 => by rw [if_neg (by omega), if_neg (by omega)]; exact hfr x y1 y2, hlow⟩)⟩ ?_
      rintro n ⟨nt, tm, σ⟩ ⟨w', rfl, hnt, h1, h2, h4, h7, h8, h9, h10, hb2, hb4, hto, hv9, hU, hn, hfr, hlow2, hww⟩
      simp only at hnt h1 h2 h4 h7 h8 h9 h10 hb2 hb4 hto hv9 hU hn hfr
      subst hnt
      have hwU2 := low_len _ _ hlow2
      have hoU2 : oU < σ.n := by omega
      have ap28_ := apart hn
      have ap29_ := apart hoU2
      have ne30_ : ¬ (oU = σ0.n) := by omega
      have ne31_ : ¬ (σ0.n = oU) := by omega
      have ne32_ : ¬ (oU = σ0.n + 1) := by omega
      have ne33_ : ¬ (σ0.n + 1 = oU) := by omega
      have ne34_ : ¬ (oU = σ0.n + 2) := by omega
      have ne35_ : ¬ (σ0.n + 2 = oU) := by omega
      have ne36_ : ¬ (oU = σ0.n + 3) := by omega
      have ne37_ : ¬ (σ0.n + 3 = oU) := by omega
      have ne38_ : ¬ (σ0.n = σ.n) := by omega
      have ne39_ : ¬ (σ.n = σ0.n) := by omega
      have ne40_ : ¬ (σ0.n = σ.n + 1) := by omega
      have ne41_ : ¬ (σ.n + 1 = σ0.n) := by omega
      have ne42_ : ¬ (σ0.n + 1 = σ.n) := by omega
      have ne43_ : ¬ (σ.n = σ0.n + 1) := by omega
      have ne44_ : ¬ (σ0.n + 1 = σ.n + 1) := by omega
      have ne45_ : ¬ (σ.n + 1 = σ0.n + 1) := by omega
      have ne46_ : ¬ (σ0.n + 2 = σ.n) := by omega
      have ne47_ : ¬ (σ.n = σ0.n + 2) := by omega
      have ne48_ : ¬ (σ0.n + 2 = σ.n + 1) := by omega
      have ne49_ : ¬ (σ.n + 1 = σ0.n + 2) := by omega
      have ne50_ : ¬ (σ0.n + 3 = σ.n) := by omega
      have ne51_ : ¬ (σ.n = σ0.n + 3) := by omega
      have ne52_ : ¬ (σ0.n + 3 = σ.n + 1) := by omega
      have ne53_ : ¬ (σ.n + 1 = σ0.n + 3) := by omega
      have c3 := cv (l2Has_r U w' (by unfold Sm; omega))
      repeat' first|refine nx ?_|refine xb_miss (by decide) ?_|(apply W_reg;(simp [h1, h2, h4, h7, h8, h9, h10, hb2, hb4, hto, hv9, hU, hn, hfr, ap28_, ap29_, ne30_, ne31_, ne32_, ne33_, ne34_, ne35_, ne36_, ne37_, ne38_, ne39_, ne40_, ne41_, ne42_, ne43_, ne44_, ne45_, ne46_, ne47_, ne48_, ne49_, ne50_, ne51_, ne52_, ne53_, c3];exact .r _))
      refine W_cond (by simp [h1, h2, h4, h7, h8, h9, h10, hb2, hb4, hto, hv9, hU, hn, hfr, ap28_, ap29_, ne30_, ne31_, ne32_, ne33_, ne34_, ne35_, ne36_, ne37_, ne38_, ne39_, ne40_, ne41_, ne42_, ne43_, ne44_, ne45_, ne46_, ne47_, ne48_, ne49_, ne50_, ne51_, ne52_, ne53_]; exact .r _) (fun he => ?_) (fun he => ?_)
      · have hwm : (w' : Int) ∈ U := by simpa using he
        have hl2 := low_succ hlow2 hwm
        have hl3 := low_len _ _ hl2
        repeat' first|refine nx ?_|refine xb_miss (by decide) ?_|(apply W_reg;(simp [h1, h2, h4, h7, h8, h9, h10, hb2, hb4, hto, hv9, hU, hn, hfr, ap28_, ap29_, ne30_, ne31_, ne32_, ne33_, ne34_, ne35_, ne36_, ne37_, ne38_, ne39_, ne40_, ne41_, ne42_, ne43_, ne44_, ne45_, ne46_, ne47_, ne48_, ne49_, ne50_, ne51_, ne52_, ne53_];exact .r _))
        refine ⟨_, ?_, w' + 1, rfl, rfl, ?_, ?_, ?_, ?_, ?_, ?_, ?_, ?_, ?_, ?_, ?_, ?_, ?_, ?_, hl2, by omega⟩
        all_goals first|assumption|(simp [h1, h2, h4, h7, h8, h9, h10, hb2, hb4, hto, hv9, hU, hn, hfr, ap28_, ap29_, ne30_, ne31_, ne32_, ne33_, ne34_, ne35_, ne36_, ne37_, ne38_, ne39_, ne40_, ne41_, ne42_, ne43_, ne44_, ne45_, ne46_, ne47_, ne48_, ne49_, ne50_, ne51_, ne52_, ne53_];done)|(simp [h1, h2, h4, h7, h8, h9, h10, hb2, hb4, hto, hv9, hU, hn, hfr, ap28_, ap29_, ne30_, ne31_, ne32_, ne33_, ne34_, ne35_, ne36_, ne37_, ne38_, ne39_, ne40_, ne41_, ne42_, ne43_, ne44_, ne45_, ne46_, ne47_, ne48_, ne49_, ne50_, ne51_, ne52_, ne53_];omega)|(simp [h1, h2, h4, h7, h8, h9, h10, hb2, hb4, hto, hv9, hU, hn, hfr, ap28_, ap29_, ne30_, ne31_, ne32_, ne33_, ne34_, ne35_, ne36_, ne37_, ne38_, ne39_, ne40_, ne41_, ne42_, ne43_, ne44_, ne45_, ne46_, ne47_, ne48_, ne49_, ne50_, ne51_, ne52_, ne53_];exact wrap_succ (by omega))|omega
      · have hwm : (w' : Int) ∉ U := by simpa using he
        have hlst := lst_eq hlow2 hwm
        have hUb : U.length + 1 < 1099511627776 := by omega
        have hPU2 : (ps ++ [((i : Int), (w' : Int))], U ++ [(w' : Int)]) = fr (varL v (i + 1)) us := by rw [hst, fr_snoc, ← hPU, frF, hlst]
        repeat' first|refine nx ?_|refine xb_miss (by decide) ?_|(apply W_reg;(simp [h1, h2, h4, h7, h8, h9, h10, hb2, hb4, hto, hv9, hU, hn, hfr, ap28_, ap29_, ne30_, ne31_, ne32_, ne33_, ne34_, ne35_, ne36_, ne37_, ne38_, ne39_, ne40_, ne41_, ne42_, ne43_, ne44_, ne45_, ne46_, ne47_, ne48_, ne49_, ne50_, ne51_, ne52_, ne53_, hil0, flatR, hUb, putT];exact .r _))
        refine ⟨_, ?_, i + 1, w', ps ++ [((i : Int), (w' : Int))], U ++ [(w' : Int)], rfl, rfl, ?_, ?_, ?_, ?_, ?_, ?_, ?_, by omega, ?_, ?_, (by simp [h1, h2, h4, h7, h8, h9, h10, hb2, hb4, hto, hv9, hU, hn, hfr, ap28_, ap29_, ne30_, ne31_, ne32_, ne33_, ne34_, ne35_, ne36_, ne37_, ne38_, ne39_, ne40_, ne41_, ne42_, ne43_, ne44_, ne45_, ne46_, ne47_, ne48_, ne49_, ne50_, ne51_, ne52_, ne53_]; rw [to_new hki]; simp [rowsE, putT, List.set_append, hil0]), ?_, (by simp [h1, h2, h4, h7, h8, h9, h10, hb2, hb4, hto, hv9, hU, hn, hfr, ap28_, ap29_, ne30_, ne31_, ne32_, ne33_, ne34_, ne35_, ne36_, ne37_, ne38_, ne39_, ne40_, ne41_, ne42_, ne43_, ne44_, ne45_, ne46_, ne47_, ne48_, ne49_, ne50_, ne51_, ne52_, ne53_, rowsE]), ?_, (fun x y1 y2 => by simp [upd_app, show ¬ x = σ.n by omega, show ¬ x = σ.n + 1 by omega, show ¬ x = σ0.n + 1 by omega, show ¬ x = σ0.n + 2 by omega, show ¬ x = σ0.n + 3 by omega, y2, hfr x y1 y2]), hPU2, low_app hlow2 _, ⟨fun p hp => (List.mem_append.1 hp).elim (fun h => Int.le_trans (hwl.1 p h) (by omega)) (fun h => by rw [List.mem_singleton] at h; subst h; exact Int.le_refl _), .inr ⟨_, List.mem_append.2 (.inr (List.mem_singleton.2 rfl)), rfl⟩⟩⟩
        all_goals first|assumption|(simp [h1, h2, h4, h7, h8, h9, h10, hb2, hb4, hto, hv9, hU, hn, hfr, ap28_, ap29_, ne30_, ne31_, ne32_, ne33_, ne34_, ne35_, ne36_, ne37_, ne38_, ne39_, ne40_, ne41_, ne42_, ne43_, ne44_, ne45_, ne46_, ne47_, ne48_, ne49_, ne50_, ne51_, ne52_, ne53_];done)|(simp [h1, h2, h4, h7, h8, h9, h10, hb2, hb4, hto, hv9, hU, hn, hfr, ap28_, ap29_, ne30_, ne31_, ne32_, ne33_, ne34_, ne35_, ne36_, ne37_, ne38_, ne39_, ne40_, ne41_, ne42_, ne43_, ne44_, ne45_, ne46_, ne47_, ne48_, ne49_, ne50_, ne51_, ne52_, ne53_];omega)|(simp [h1, h2, h4, h7, h8, h9, h10, hb2, hb4, hto, hv9, hU, hn, hfr, ap28_, ap29_, ne30_, ne31_, ne32_, ne33_, ne34_, ne35_, ne36_, ne37_, ne38_, ne39_, ne40_, ne41_, ne42_, ne43_, ne44_, ne45_, ne46_, ne47_, ne48_, ne49_, ne50_, ne51_, ne52_, ne53_];exact wrap_succ (by omega))|omega
  · have hil : i = 20 := by simp at hc; omega
    subst hil
    have hfs : frs v us = (ps, U) := hPU.symm
    have c4 := cv (rename_r v ((iota 20).map (asn ps)) hv (by simp [iota_len, Sm]))
    have hch : chg (rnI ((iota 20).map (asn ps))) v = chg (asn ps) v := by
      refine congrArg (fun f => chg f v) (funext fun t => rnI_iota t fun u hu => ?_)
      rw [hks] at hu; exact (varL_mem.1 hu).1
    have hok : decide (w < 20) = frOk ps := by
      rw [Bool.eq_iff_iff, decide_eq_true_eq, frOk, List.all_eq_true]
      constructor
      · intro h p hp
        have := hwl.1 p hp
        simp only [decide_eq_true_eq]; omega
      · intro h
        rcases hwl.2 with h2 | ⟨p, hp, h2⟩
        · omega
        · have := h p hp
          simp only [decide_eq_true_eq] at this; omega
    rw [hch, xvQn_ne (by simp [chg, hvb])] at c4
    simp only [Ag, cells_Q, List.map_cons, List.map_nil] at c4
    have ap54_ := apart hn
    have ap55_ := apart hoU
    have ne56_ : ¬ (oU = σ0.n) := by omega
    have ne57_ : ¬ (σ0.n = oU) := by omega
    have ne58_ : ¬ (oU = σ0.n + 1) := by omega
    have ne59_ : ¬ (σ0.n + 1 = oU) := by omega
    have ne60_ : ¬ (oU = σ0.n + 2) := by omega
    have ne61_ : ¬ (σ0.n + 2 = oU) := by omega
    have ne62_ : ¬ (oU = σ0.n + 3) := by omega
    have ne63_ : ¬ (σ0.n + 3 = oU) := by omega
    have ne64_ : ¬ (σ0.n = σ.n) := by omega
    have ne65_ : ¬ (σ.n = σ0.n) := by omega
    have ne66_ : ¬ (σ0.n = σ.n + 1) := by omega
    have ne67_ : ¬ (σ.n + 1 = σ0.n) := by omega
    have ne68_ : ¬ (σ0.n + 1 = σ.n) := by omega
    have ne69_ : ¬ (σ.n = σ0.n + 1) := by omega
    have ne70_ : ¬ (σ0.n + 1 = σ.n + 1) := by omega
    have ne71_ : ¬ (σ.n + 1 = σ0.n + 1) := by omega
    have ne72_ : ¬ (σ0.n + 2 = σ.n) := by omega
    have ne73_ : ¬ (σ.n = σ0.n + 2) := by omega
    have ne74_ : ¬ (σ0.n + 2 = σ.n + 1) := by omega
    have ne75_ : ¬ (σ.n + 1 = σ0.n + 2) := by omega
    have ne76_ : ¬ (σ0.n + 3 = σ.n) := by omega
    have ne77_ : ¬ (σ.n = σ0.n + 3) := by omega
    have ne78_ : ¬ (σ0.n + 3 = σ.n + 1) := by omega
    have ne79_ : ¬ (σ.n + 1 = σ0.n + 3) := by omega
    repeat' first|refine nx ?_|refine xb_miss (by decide) ?_|(apply W_reg;(simp [h1, h2, h4, h7, h8, h9, h10, hb2, hb4, hto, hv9, hU, hn, hfr, ap54_, ap55_, ne56_, ne57_, ne58_, ne59_, ne60_, ne61_, ne62_, ne63_, ne64_, ne65_, ne66_, ne67_, ne68_, ne69_, ne70_, ne71_, ne72_, ne73_, ne74_, ne75_, ne76_, ne77_, ne78_, ne79_, c4, hil0];exact .r _))
    rw [hfs]
    refine ⟨_, ?_, σ.n, σ.n + 1, rfl, by omega, by omega, by omega, by simp; omega, by simp [h1, h2, h4, h7, h8, h9, h10, hb2, hb4, hto, hv9, hU, hn, hfr, ap54_, ap55_, ne56_, ne57_, ne58_, ne59_, ne60_, ne61_, ne62_, ne63_, ne64_, ne65_, ne66_, ne67_, ne68_, ne69_, ne70_, ne71_, ne72_, ne73_, ne74_, ne75_, ne76_, ne77_, ne78_, ne79_], by simp [h1, h2, h4, h7, h8, h9, h10, hb2, hb4, hto, hv9, hU, hn, hfr, ap54_, ap55_, ne56_, ne57_, ne58_, ne59_, ne60_, ne61_, ne62_, ne63_, ne64_, ne65_, ne66_, ne67_, ne68_, ne69_, ne70_, ne71_, ne72_, ne73_, ne74_, ne75_, ne76_, ne77_, ne78_, ne79_], by simp [h1, h2, h4, h7, h8, h9, h10, hb2, hb4, hto, hv9, hU, hn, hfr, ap54_, ap55_, ne56_, ne57_, ne58_, ne59_, ne60_, ne61_, ne62_, ne63_, ne64_, ne65_, ne66_, ne67_, ne68_, ne69_, ne70_, ne71_, ne72_, ne73_, ne74_, ne75_, ne76_, ne77_, ne78_, ne79_], fun x y1 y2 => by simp [upd_app, show ¬ x = σ.n by omega, show ¬ x = σ.n + 1 by omega, show ¬ x = σ0.n + 1 by omega, hfr x y1 y2]⟩
    simp [h1, h2, h4, h7, h8, h9, h10, hb2, hb4, hto, hv9, hU, hn, hfr, ap54_, ap55_, ne56_, ne57_, ne58_, ne59_, ne60_, ne61_, ne62_, ne63_, ne64_, ne65_, ne66_, ne67_, ne68_, ne69_, ne70_, ne71_, ne72_, ne73_, ne74_, ne75_, ne76_, ne77_, ne78_, ne79_, chg]
    rw [← hok, Bool.eq_iff_iff, decide_eq_true_eq, decide_eq_true_eq]; omega
theorem clean_up {m n : Nat} (h : m ≤ n) (x : VO) (hx : x.clean m = true) : x.clean n = true := by
  have h1 : ∀ a : AV, clean1 m a = true → clean1 n a = true := by
    intro a ha
    unfold clean1 at ha ⊢
    split at ha <;> simp_all <;> omega
  have h2 : ∀ a : AV, cleanA m a = true → cleanA n a = true := by
    intro a ha
    unfold cleanA at ha ⊢
    split at ha
    · rw [List.all_eq_true] at ha ⊢; exact fun y hy => h1 y (ha y hy)
    · rw [List.all_eq_true] at ha ⊢; exact fun y hy => h1 y (ha y hy)
    · first | exact h1 _ ha | (split <;> simp_all)
  unfold VO.clean at hx ⊢
  split at hx
  · rw [List.all_eq_true] at hx ⊢; exact fun y hy => h2 y (hx y hy)
  · rfl
theorem l15Fresh_c (σ0 : Sto) (oU st : Nat) (us : List Int) (v : Qry) (hob : σ0.ob oU = .arr (.own 0) st 1 (rowsE us)) (hon : oU < σ0.n) (hul : us.length ≤ 100000) (hv : SmQ v) (hvb : v.body ≠ []) (hb : v.body.length ≤ 1000) (ha : ∀ a ∈ v.body, a.args.length ≤ 1000)
    (hcl : ∀ x, x < σ0.n → (σ0.ob x).clean σ0.n = true) (hdd : ∀ x, σ0.n ≤ x → σ0.ob x = .dead) :
    callV Ms XX σ0 102 [Ag v, .ref oU us.length []] = some (.tup [.agg [.ref σ0.n v.head.length [], .ref (σ0.n + 1) v.body.length []], .ref oU (frs v us).2.length [], Bo (frOk (frs v us).1)],
      ((⟨σ0.n, upd σ0.ob oU (.arr (.own 0) st 1 (rowsE (frs v us).2))⟩ : Sto).new (.arr (.own 0) 0 1 (rowsE (chg (asn (frs v us).1) v).head))).new (.arr (.own 0) 0 2 (rowsE (chg (asn (frs v us).1) v).body))) := by
  obtain ⟨r, σ1, h1, oH, oB, rfl, h2, h3, h4, h5, h6, h7, h8, h9⟩ := l15Fresh_k σ0 oU st us v hob hon hul hv hvb hb ha
  refine callV_tq (by rfl) h1 h2 h3 h4 hon h6 (by simp [chg]) h7 (by simp [chg]) h5 rfl (fun x hx => ?_) (fun x hx => ?_) (fun x hx => ?_)
  · simp only [upd_app]
    split
    · rename_i e; subst e; exact h8
    · rename_i e; exact h9 x hx e
  · simp only [upd_app]
    split
    · rfl
    · exact hcl x hx
  · simp only [upd_app]
    rw [if_neg (by omega)]; exact hdd x hx
end Go.Proofs.Ytlehbgapjibeeaa.V

namespace Go.Proofs.Ytlehbgapjibeeaa.V
open Go Go.Proofs
set_option linter.unusedVariables false
theorem uq_atom {vs : List Qry} {q : Qry} (h : isQry (vSch vs) q = true) {a : RA} (ha : a ∈ q.body) : 0 ≤ a.rel ∧ ∃ hl : a.rel.toNat < vs.length, a.args.length = (vs[a.rel.toNat]).head.length ∧ ∀ t ∈ a.args, t ≤ 19 := by
  simp only [isQry, Bool.and_eq_true, decide_eq_true_eq, List.all_eq_true, isTerm_iff, inR, isAtom, takes] at h
  obtain ⟨⟨⟨⟨⟨h1, h2⟩, h3⟩, h4⟩, h5⟩, h6⟩ := h
  obtain ⟨⟨⟨h7, h8⟩, h9⟩, h10⟩ := h5 a ha
  have hl : (vSch vs).arity.length = vs.length := by simp [vSch]
  rw [hl] at h8
  have h11 : a.rel.toNat < vs.length := by omega
  refine ⟨h8.1, h11, ?_, fun t ht => (h10 t ht).2⟩
  simp only [vSch, List.getElem?_map, List.getElem?_eq_getElem h11, Option.map_some, Option.getD_some] at h9
  omega
structure Acc (i : Nat) (B : List RA) (L R : List Int) : Prop where
  b : B.length ≤ 4 * i
  ne : 0 < i → B ≠ []
  lr : L.length = R.length
  l : L.length ≤ 3 * i
  a : ∀ a ∈ B, a.args.length ≤ 3
  tl : ∀ t ∈ L, t ≤ 19
  tr : ∀ t ∈ R, t ≤ 19
theorem Acc.zero : Acc 0 [] [] [] := ⟨by simp, fun h => absurd h (by omega), rfl, by simp, fun a h => (by cases h), fun t h => (by cases h), fun t h => (by cases h)⟩
theorem asn_le {ps : List (Int × Int)} (h : frOk ps = true) {t : Int} (ht : t ≤ 19) : asn ps t ≤ 19 := by
  simp only [frOk, List.all_eq_true, decide_eq_true_eq] at h
  by_cases hm : t ∈ ps.map (·.1)
  · obtain ⟨p, hp, _, e⟩ := asn_val hm
    rw [e]; have := h p hp; omega
  · rw [asn_not hm]; exact ht
theorem Acc.step {i : Nat} {B : List RA} {L R : List Int} (h : Acc i B L R) {c : Sch} {v : Qry} (hv : isQry c v = true) {a : RA} (hl : a.args.length = v.head.length) (ht : ∀ t ∈ a.args, t ≤ 19) {ps : List (Int × Int)} (hp : frOk ps = true) (hne : v.body ≠ []) :
    Acc (i + 1) (B ++ v.body.map (mapA (asn ps))) (L ++ a.args) (R ++ v.head.map (asn ps)) := by
  have hs := isQry_small hv
  refine ⟨?_, fun _ => ?_, ?_, ?_, fun x hx => ?_, fun t h2 => ?_, fun t h2 => ?_⟩
  · have := h.b; rw [List.length_append, List.length_map]; omega
  · intro e; rw [List.append_eq_nil_iff] at e; exact hne (List.map_eq_nil_iff.1 e.2)
  · have := h.lr; rw [List.length_append, List.length_append, List.length_map]; omega
  · have := h.l; rw [List.length_append]; omega
  · rcases List.mem_append.1 hx with h2 | h2
    · exact h.a x h2
    · obtain ⟨y, hy, rfl⟩ := List.mem_map.1 h2
      have := (hs.2.2.2 y hy).1
      simpa [mapA] using this
  · rcases List.mem_append.1 h2 with h2 | h2
    · exact h.tl t h2
    · exact ht t h2
  · rcases List.mem_append.1 h2 with h2 | h2
    · exact h.tr t h2
    · obtain ⟨y, hy, rfl⟩ := List.mem_map.1 h2
      exact asn_le hp (hs.2.2.1 y hy).2
theorem isQry_ne {c : Sch} {q : Qry} (h : isQry c q = true) : q.body ≠ [] := by
  intro e
  simp only [isQry, Bool.and_eq_true, inR, decide_eq_true_eq, e] at h
  have := h.1.1.2
  simp at this
theorem unfS_cons {vs : List Qry} {a : RA} {l : List RA} {us : List Int} (h : a.rel.toNat < vs.length) : unfS vs (a :: l) us = if frOk (fr (varsQ vs[a.rel.toNat]) us).1 then (unfS vs l (fr (varsQ vs[a.rel.toNat]) us).2).map fun s => (vs[a.rel.toNat].body.map (mapA (asn (fr (varsQ vs[a.rel.toNat]) us).1)) ++ s.1, a.args ++ s.2.1, vs[a.rel.toNat].head.map (asn (fr (varsQ vs[a.rel.toNat]) us).1) ++ s.2.2) else none := by
  rw [unfS, List.getElem?_eq_getElem h]
/-- What is gathered, with what comes. -/
def cat (B : List RA) (L R : List Int) (s : List RA × List Int × List Int) : List RA × List Int × List Int := (B ++ s.1, L ++ s.2.1, R ++ s.2.2)
theorem unfS_go {vs : List Qry} {l : List RA} {us U : List Int} {B : List RA} {L R : List Int} {x : Option (List RA × List Int × List Int)} {i : Nat} (heq : x = (unfS vs (l.drop i) U).map (cat B L R)) (hi : i < l.length) (h : l[i].rel.toNat < vs.length) (hok : frOk (fr (varsQ vs[l[i].rel.toNat]) U).1 = true) :
    x = (unfS vs (l.drop (i + 1)) (fr (varsQ vs[l[i].rel.toNat]) U).2).map (cat (B ++ vs[l[i].rel.toNat].body.map (mapA (asn (fr (varsQ vs[l[i].rel.toNat]) U).1))) (L ++ l[i].args) (R ++ vs[l[i].rel.toNat].head.map (asn (fr (varsQ vs[l[i].rel.toNat]) U).1))) := by
  rw [heq, List.drop_eq_getElem_cons hi, unfS_cons h, if_pos hok, Option.map_map]
  congr 1
  funext s
  simp [cat, List.append_assoc]
theorem unfS_no {vs : List Qry} {l : List RA} {us U : List Int} {B : List RA} {L R : List Int} {x : Option (List RA × List Int × List Int)} {i : Nat} (heq : x = (unfS vs (l.drop i) U).map (cat B L R)) (hi : i < l.length) (h : l[i].rel.toNat < vs.length) (hok : frOk (fr (varsQ vs[l[i].rel.toNat]) U).1 = false) : x = none := by
  rw [heq, List.drop_eq_getElem_cons hi, unfS_cons h, hok]; rfl
theorem unfS_end {vs : List Qry} {l : List RA} {us U : List Int} {B : List RA} {L R : List Int} {x : Option (List RA × List Int × List Int)} (heq : x = (unfS vs (l.drop l.length) U).map (cat B L R)) : x = some (B, L, R) := by
  rw [heq, List.drop_length]; simp [unfS, cat]
theorem sb_same (t x : Int) : sb (t, t) x = x := by unfold sb; split <;> simp_all
theorem sub_same (t : Int) (u : Ust) : u.sub (t, t) = u := by
  have h : sb (t, t) = id := funext fun x => sb_same t x
  have h2 : mapA (id : Int → Int) = id := funext fun a => by simp [mapA]
  unfold Ust.sub; rw [h, h2]; simp
theorem eqS_go {m i : Nat} {u : Ust} {x : Option Ust} (heq : x = eqS ((List.range m).drop i) u) (hi : i < m) (hl : i < u.l.length) (hr : i < u.r.length) : x = (eqt u.l[i] u.r[i]).bind fun p => eqS ((List.range m).drop (i + 1)) (u.sub p) := by
  rw [heq, List.drop_eq_getElem_cons (by simpa using hi), List.getElem_range, eqS, List.getElem?_eq_getElem hl, List.getElem?_eq_getElem hr]; rfl
theorem eqS_end {m : Nat} {u : Ust} {x : Option Ust} (heq : x = eqS ((List.range m).drop m) u) : x = some u := by
  rw [heq, List.drop_of_length_le (by simp)]; rfl
theorem eqt_self (t : Int) : eqt t t = some (t, t) := by simp [eqt]
theorem eqt_le {t u : Int} {p : Int × Int} (h : eqt t u = some p) (ht : t ≤ 19) (hu : u ≤ 19) : p.2 ≤ 19 := by
  unfold eqt at h
  split at h
  · cases h; exact ht
  · split at h
    · split at h
      · cases h
      · cases h; exact ht
    · split at h
      · cases h; exact hu
      · cases h; simp only; omega
theorem sb_le {p : Int × Int} (hp : p.2 ≤ 19) {x : Int} (hx : x ≤ 19) : sb p x ≤ 19 := by unfold sb; split <;> assumption
theorem fr_keep (l m us : List Int) : ∀ p ∈ (fr l us).1, p ∈ (fr (l ++ m) us).1 := by
  have h : ∀ (m : List Int) (s : List (Int × Int) × List Int), ∀ p ∈ s.1, p ∈ (m.foldl frF s).1 := by
    intro m
    induction m with
    | nil => intro s p hp; exact hp
    | cons x m ih => intro s p hp; exact ih _ p (List.mem_append.2 (.inl hp))
  intro p hp
  unfold fr
  rw [List.foldl_append]
  exact h m _ p hp
theorem frOk_no {l us : List Int} {j : Nat} (hj : j < l.length) (h : 20 ≤ lst (fr (l.take j) us).2) : frOk (fr l us).1 = false := by
  have h1 : (l[j], ((lst (fr (l.take j) us).2 : Nat) : Int)) ∈ (fr (l.take (j + 1)) us).1 := by
    rw [List.take_succ_eq_append_getElem hj, fr_snoc, frF]; simp
  have h2 := fr_keep _ (l.drop (j + 1)) us _ h1
  rw [List.take_append_drop] at h2
  cases e : frOk (fr l us).1 with
  | false => rfl
  | true =>
    simp only [frOk, List.all_eq_true, decide_eq_true_eq] at e
    have := e _ h2
    simp only at this; omega
theorem frOk_step {ps : List (Int × Int)} {x : Int} {w : Nat} (h : frOk ps = true) (hw : w < 20) : frOk (ps ++ [(x, (w : Int))]) = true := by
  simp only [frOk, List.all_eq_true, decide_eq_true_eq] at h ⊢
  intro p hp
  rcases List.mem_append.1 hp with hp | hp
  · exact h p hp
  · rw [List.mem_singleton] at hp; subst hp; simp only; omega
theorem chg_names {c : Sch} {v : Qry} (hv : isQry c v = true) {ps : List (Int × Int)} {N : List Int} (hk : ps.map (·.1) = varsQ v) (hl : N.length = 20) (hN : ∀ t ∈ varsQ v, N[t.toNat]? = some (asn ps t)) :
    chg (fun t => if 0 ≤ t ∧ t ≤ (N.length : Int) - 1 then (N[t.toNat]?).getD 0 else t) v = chg (asn ps) v := by
  have hs := isQry_small hv
  have key : ∀ t : Int, t ≤ 19 → (occurs v t = true ∨ t ∈ v.head) → (if 0 ≤ t ∧ t ≤ (N.length : Int) - 1 then (N[t.toNat]?).getD 0 else t) = asn ps t := by
    intro t h1 h2
    by_cases h0 : 0 ≤ t
    · have hm : t ∈ varsQ v := varsQ_mem.2 ⟨⟨h0, by omega⟩, h2⟩
      rw [if_pos ⟨h0, by omega⟩, hN t hm]; rfl
    · rw [if_neg (by omega), asn_not (by rw [hk]; exact fun hm => h0 (varsQ_mem.1 hm).1.1)]
  refine chg_congr (fun t ht => key t (hs.2.2.1 t ht).2 (.inr ht)) (fun a ha t ht => key t ((hs.2.2.2 a ha).2 t ht).2 (.inl ?_))
  simp only [occurs, List.any_eq_true, decide_eq_true_eq]
  exact ⟨a, ha, ht⟩
end Go.Proofs.Ytlehbgapjibeeaa.V

namespace Go.Proofs.Ytlehbgapjibeeaa.V
open Go Go.Proofs
set_option linter.unusedVariables false
set_option linter.unusedSimpArgs false
def xUnf : Option Qry → XV
  | none => .tup [.agg [.t .nl false, .t .nl false], .t (.b false) false]
  | some x => .tup [xvQ x, .t (.b true) false]
theorem uEq (p : Int × Int) (u : Ust) : chg (sb p) ⟨u.h, u.b ++ [⟨0, u.l⟩, ⟨0, u.r⟩]⟩ = ⟨(u.sub p).h, (u.sub p).b ++ [⟨0, (u.sub p).l⟩, ⟨0, (u.sub p).r⟩]⟩ := by simp [chg, Ust.sub, mapA]
theorem cl_step {ob : Nat → VO} {m a x : Nat} {y : VO} (hy : y.clean m = true) (h : x ≠ a → (ob x).clean m = true) : (upd ob a y x).clean m = true := by
  rw [upd_app]; split
  · exact hy
  · exact h ‹_›
theorem dd_step {ob : Nat → VO} {a x : Nat} {y : VO} (hn : x ≠ a) (h : ob x = .dead) : upd ob a y x = .dead := by rw [upd_app, if_neg hn]; exact h
set_option maxRecDepth 10000 in
set_option maxHeartbeats 4000000 in
theorem l15Unfold_r (c : Sch) (vs : List Qry) (q : Qry) (hvs : ∀ v ∈ vs, isQry c v = true) (hq : isQry (vSch vs) q = true) : Ret XX 60 [Ar vs, Ag q] (xUnf (unfQ vs q)) := by
  refine ret_W rfl Try.func60 rfl rfl (by simp [Try.f60]) ?_
  simp only [Try.f60]
  have hqs := isQry_small hq
  have hvq : SmQ q := ⟨by unfold Sm; omega, by unfold Sm; omega, fun a ha => by have := (hqs.2.2.2 a ha).1; unfold Sm; omega⟩
  have c1 := cv (specVars_r q hvq.1 (by omega) (fun a ha => by have := (hqs.2.2.2 a ha).1; omega))
  simp only [Ag, cells_Q, List.map_cons, List.map_nil] at c1
  have hvl : (varsQ q).length ≤ 20 := varL_len q 20
  have hqh : q.head.length < 1099511627776 := by omega
  repeat' first|refine nx ?_|refine xb_miss (by decide) ?_|(apply W_reg;(simp [Ag, c1, hqh];exact .r _))
  refine W_loop (n := q.body.length) (fun n s => ∃ i : Nat, ∃ oU : Nat, ∃ U : List Int, ∃ oT : Nat, ∃ st : Nat, ∃ B : List RA, ∃ L : List Int, ∃ R : List Int, n = q.body.length - i ∧ s.nt = 124 ∧ s.tm 0 = Ar vs ∧ s.tm 3 = .ptr 0 0 ∧ s.tm 4 = .ptr 1 0 ∧ s.tm 6 = .ref oU U.length [] ∧ s.tm 7 = .ptr 4 0 ∧ s.tm 8 = .ref 5 L.length [] ∧ s.tm 9 = .ref 6 R.length [] ∧ s.tm 10 = In i ∧ i ≤ q.body.length ∧ s.σ.ob 0 = .box [Ar q.head, Ar q.body] ∧ s.σ.ob 1 = .box [.t .nl, .t .nl] ∧ s.σ.ob 3 = .arr (.own 0) 0 1 (rowsE q.head) ∧ s.σ.ob 4 = .box [.ref 3 q.head.length [], gc oT B.length] ∧ s.σ.ob 5 = .arr (.own 0) 0 1 (rowsE L) ∧ s.σ.ob 6 = .arr (.own 0) 0 1 (rowsE R) ∧ s.σ.ob oU = .arr (.own 0) 0 1 (rowsE U) ∧ 7 ≤ s.σ.n ∧ ((oU = 2 ∨ 7 ≤ oU) ∧ oU < s.σ.n) ∧ (i = 0 ∨ (s.σ.ob oT = .arr (.own 0) st 2 (rowsE B) ∧ 7 ≤ oT ∧ oT < s.σ.n ∧ oT ≠ oU)) ∧ (∀ x, x < s.σ.n → (s.σ.ob x).clean s.σ.n = true) ∧ (∀ x, s.σ.n ≤ x → s.σ.ob x = .dead) ∧ U.length ≤ 20 + 20 * i ∧ Acc i B L R ∧ unfS vs q.body (varsQ q) = (unfS vs (q.body.drop i) U).map (cat B L R)) ⟨0, 2, varsQ q, 0, 0, [], [], [], by (simp; exact ⟨fun x hx => (by rcases (by omega : x = 0 ∨ x = 1 ∨ x = 2 ∨ x = 3 ∨ x = 4 ∨ x = 5 ∨ x = 6) with rfl | rfl | rfl | rfl | rfl | rfl | rfl <;> simp [VO.clean, cleanA, clean1]), fun x hx => (by repeat rw [if_neg (by omega)]), hvl, Acc.zero, (by cases unfS vs q.body (varsQ q) <;> simp [cat])⟩)⟩ ?_
  rintro n ⟨nt, tm, σ⟩ ⟨i, oU, U, oT, st, B, L, R, rfl, hnt, h0, h3, h4, h6, h7, h8, h9, h10, hi, hb0, hb1, hb3, hb4, hb5, hb6, hbU, hn, hoU, hT, hcl, hdd, hUl, hacc, heq⟩
  simp only at hnt h0 h3 h4 h6 h7 h8 h9 h10 hb0 hb1 hb3 hb4 hb5 hb6 hbU hn hoU hT hcl hdd
  subst hnt
  have ap1_ := apart hn
  have hoU1 := hoU.1
  have hoU2 := hoU.2
  have ap2_ := apart hoU2
  have ne3_ : ¬ (oU = 0) := by omega
  have ne4_ : ¬ (0 = oU) := by omega
  have ne5_ : ¬ (oU = 1) := by omega
  have ne6_ : ¬ (1 = oU) := by omega
  have ne7_ : ¬ (oU = 3) := by omega
  have ne8_ : ¬ (3 = oU) := by omega
  have ne9_ : ¬ (oU = 4) := by omega
  have ne10_ : ¬ (4 = oU) := by omega
  have ne11_ : ¬ (oU = 5) := by omega
  have ne12_ : ¬ (5 = oU) := by omega
  have ne13_ : ¬ (oU = 6) := by omega
  have ne14_ : ¬ (6 = oU) := by omega
  repeat' first|refine nx ?_|refine xb_miss (by decide) ?_|(apply W_reg;(simp [h0, h3, h4, h6, h7, h8, h9, h10, hb0, hb1, hb3, hb4, hb5, hb6, hbU, hn, hoU, hT, hcl, hdd, ap1_, ap2_, ne3_, ne4_, ne5_, ne6_, ne7_, ne8_, ne9_, ne10_, ne11_, ne12_, ne13_, ne14_];exact .r _))
  refine W_cond (by simp [h0, h3, h4, h6, h7, h8, h9, h10, hb0, hb1, hb3, hb4, hb5, hb6, hbU, hn, hoU, hT, hcl, hdd, ap1_, ap2_, ne3_, ne4_, ne5_, ne6_, ne7_, ne8_, ne9_, ne10_, ne11_, ne12_, ne13_, ne14_]; exact .r _) (fun hc => ?_) (fun hc => ?_)
  · have hil : i < q.body.length := by simpa using hc
    have hA := List.getElem_mem hil
    obtain ⟨hr0, hrl, hal, hat⟩ := uq_atom hq hA
    have hv := hvs _ (List.getElem_mem hrl)
    have hqv := isQry_small hv
    have hvne := isQry_ne hv
    obtain ⟨v, hve⟩ : ∃ v, vs[q.body[i].rel.toNat] = v := ⟨_, rfl⟩
    have hvq2 : SmQ v := by rw [← hve]; exact ⟨by unfold Sm; omega, by unfold Sm; omega, fun a ha => by have := (hqv.2.2.2 a ha).1; unfold Sm; omega⟩
    repeat' first|refine nx ?_|refine xb_miss (by decide) ?_|(apply W_reg;(simp [h0, h3, h4, h6, h7, h8, h9, h10, hb0, hb1, hb3, hb4, hb5, hb6, hbU, hn, hoU, hT, hcl, hdd, ap1_, ap2_, ne3_, ne4_, ne5_, ne6_, ne7_, ne8_, ne9_, ne10_, ne11_, ne12_, ne13_, ne14_, hil];exact .r _))
    refine W_gen (fun s2 => s2.n = σ.n + 1 ∧ s2.ob σ.n = .box [In q.body[i].rel, Ar q.body[i].args] ∧ (∀ x, x < σ.n → s2.ob x = σ.ob x) ∧ ∀ x, σ.n < x → s2.ob x = .dead) ?_ (fun s2 hq2 => ?_)
    · refine ⟨by simp, by simp, fun x hx => ?_, fun x hx => ?_⟩
      · simp [upd_app, show ¬ x = σ.n by omega]
      · simp [upd_app, show ¬ x = σ.n by omega]; exact hdd x (by omega)
    obtain ⟨g1, g2, g3, g4⟩ := hq2
    have gU := g3 oU hoU2
    rw [hbU] at gU
    have hs2 : ∀ x, x < σ.n + 1 → (s2.ob x).clean (σ.n + 1) = true := fun x hx => by
      rcases Nat.lt_succ_iff_lt_or_eq.1 hx with h | h
      · rw [g3 x h]; exact clean_up (by omega) _ (hcl x h)
      · rw [h, g2]; rfl
    have hlv : v.head.length = q.body[i].args.length := by rw [← hve]; exact hal.symm
    have hvb : v.body.length ≤ 4 := by rw [← hve]; exact hqv.2.1
    have hcall := l15Fresh_c ⟨σ.n + 3, upd (upd (upd s2.ob (σ.n + 1) (.arr (.own 0) 0 1 [])) (σ.n + 2) (.box [.t .nl, .t .nl])) (σ.n + 1) (.arr (.own 0) 0 1 (rowsE U))⟩ (σ.n + 1) 0 U v (by simp [upd_app]) (by simp) (by omega) hvq2 (by rw [← hve]; exact hvne) (by omega)
      (fun a ha => by have := (hqv.2.2.2 a (by rw [hve]; exact ha)).1; omega)
      (fun x hx => by
        have hx : x < σ.n + 3 := hx
        simp only [upd_app]
        repeat' split
        all_goals first | rfl | exact clean_up (by simp) _ (hs2 x (by omega)))
      (fun x hx => by
        have hx : σ.n + 3 ≤ x := hx
        simp only [upd_app]
        rw [if_neg (by omega), if_neg (by omega), if_neg (by omega)]
        exact g4 x (by omega))
    simp only [Ag, cells_Q, List.map_cons, List.map_nil] at hcall
    have hUb : U.length < 1099511627776 := by omega
    have hfl := fr_len (varsQ v) U
    have hvv : (varsQ v).length ≤ 20 := varL_len v 20
    have gx : ∀ x, x < σ.n → s2.ob x = σ.ob x := g3
    have k0 := (gx 0 (by omega)).trans hb0
    have k1 := (gx 1 (by omega)).trans hb1
    have k3 := (gx 3 (by omega)).trans hb3
    have k4 := (gx 4 (by omega)).trans hb4
    have k5 := (gx 5 (by omega)).trans hb5
    have k6 := (gx 6 (by omega)).trans hb6
    have ap15_ := apart hn
    have ap16_ := apart hoU2
    have ne17_ : ¬ (oU = 0) := by omega
    have ne18_ : ¬ (0 = oU) := by omega
    have ne19_ : ¬ (oU = 1) := by omega
    have ne20_ : ¬ (1 = oU) := by omega
    have ne21_ : ¬ (oU = 3) := by omega
    have ne22_ : ¬ (3 = oU) := by omega
    have ne23_ : ¬ (oU = 4) := by omega
    have ne24_ : ¬ (4 = oU) := by omega
    have ne25_ : ¬ (oU = 5) := by omega
    have ne26_ : ¬ (5 = oU) := by omega
    have ne27_ : ¬ (oU = 6) := by omega
    have ne28_ : ¬ (6 = oU) := by omega
    repeat' first|refine nx ?_|refine xb_miss (by decide) ?_|(apply W_reg;(simp [h0, h3, h4, h6, h7, h8, h9, h10, k0, k1, k3, k4, k5, k6, g1, g2, gU, ap15_, ap16_, ne17_, ne18_, ne19_, ne20_, ne21_, ne22_, ne23_, ne24_, ne25_, ne26_, ne27_, ne28_, hr0, hrl, hve, hUb, hcall];exact .r _))|(apply W_draw (id := 9) [0,0,2,7,15,0,0,96,255,511,1023,1023,1023,0,10239,28671,65535] rfl rfl; (· simp; exact .r _); (· simp [h0, h3, h4, h6, h7, h8, h9, h10, k0, k1, k3, k4, k5, k6, g1, g2, gU, ap15_, ap16_, ne17_, ne18_, ne19_, ne20_, ne21_, ne22_, ne23_, ne24_, ne25_, ne26_, ne27_, ne28_, hr0, hrl, hve, hUb, hcall]; exact .r _); (· first|trivial|simp))
    cases hok : frOk (frs v U).1
    · refine W_cond (by simp [h0, h3, h4, h6, h7, h8, h9, h10, k0, k1, k3, k4, k5, k6, g1, g2, gU, ap15_, ap16_, ne17_, ne18_, ne19_, ne20_, ne21_, ne22_, ne23_, ne24_, ne25_, ne26_, ne27_, ne28_]; exact .r _) (fun hd => ?_) (fun hd => ?_)
      · have hno := unfS_no (us := varsQ q) heq hil hrl (by rw [hve]; exact hok)
        repeat' first|refine nx ?_|refine xb_miss (by decide) ?_|(apply W_reg;(simp [h0, h3, h4, h6, h7, h8, h9, h10, k0, k1, k3, k4, k5, k6, g1, g2, gU, ap15_, ap16_, ne17_, ne18_, ne19_, ne20_, ne21_, ne22_, ne23_, ne24_, ne25_, ne26_, ne27_, ne28_];exact .r _))
        simp [xUnf, unfQ, hno, h0, h3, h4, h6, h7, h8, h9, h10, k0, k1, k3, k4, k5, k6, g1, g2, gU, ap15_, ap16_, ne17_, ne18_, ne19_, ne20_, ne21_, ne22_, ne23_, ne24_, ne25_, ne26_, ne27_, ne28_]
      · simp at hd
    · refine W_cond (by simp [h0, h3, h4, h6, h7, h8, h9, h10, k0, k1, k3, k4, k5, k6, g1, g2, gU, ap15_, ap16_, ne17_, ne18_, ne19_, ne20_, ne21_, ne22_, ne23_, ne24_, ne25_, ne26_, ne27_, ne28_]; exact .r _) (fun hd => ?_) (fun hd => ?_)
      · simp at hd
      have hgo := unfS_go (us := varsQ q) heq hil hrl (by rw [hve]; exact hok)
      have hac := hacc.step hv hal hat (ps := (frs v U).1) hok hvne
      rw [hve] at hgo hac
      have hrl2 : (rowsE q.body[i].args).length = q.body[i].args.length := rowsE_len _
      have hfr1 : (fr (varsQ v) U) = frs v U := rfl
      rw [hfr1] at hgo hfl
      have hLb := hacc.l
      have hLR := hacc.lr
      have hBb := hacc.b
      have hA3 := (hqs.2.2.2 _ hA).1
      have hb1_ : L.length + q.body[i].args.length < 1099511627776 := by omega
      have hb2_ : R.length + v.head.length < 1099511627776 := by omega
      have hb3_ : B.length + v.body.length < 1099511627776 := by omega
      have hvn : ¬ v.body = [] := by rw [← hve]; exact hvne
      have hvn0 : v.body.length ≠ 0 := fun e => hvn (List.length_eq_zero_iff.1 e)
      rcases Nat.eq_zero_or_pos i with h0i | h0i
      · have hB0 : B = [] := List.eq_nil_of_length_eq_zero (by omega)
        subst hB0
        have hb4_ : v.body.length < 1099511627776 := by omega
        repeat' first|refine nx ?_|refine xb_miss (by decide) ?_|(apply W_reg;(simp [h0, h3, h4, h6, h7, h8, h9, h10, k0, k1, k3, k4, k5, k6, g1, g2, gU, ap15_, ap16_, ne17_, ne18_, ne19_, ne20_, ne21_, ne22_, ne23_, ne24_, ne25_, ne26_, ne27_, ne28_, hb1_, hb2_, hb4_, chg, hvn];exact .r _))
        refine ⟨_, ?_, i + 1, σ.n + 1, (frs v U).2, σ.n + 5, 0, [] ++ v.body.map (mapA (asn (frs v U).1)), L ++ q.body[i].args, R ++ v.head.map (asn (frs v U).1), rfl, rfl, ?_, ?_, ?_, ?_, ?_, ?_, ?_, ?_, by omega, ?_, ?_, ?_, (by simp [h0, h3, h4, h6, h7, h8, h9, h10, k0, k1, k3, k4, k5, k6, g1, g2, gU, ap15_, ap16_, ne17_, ne18_, ne19_, ne20_, ne21_, ne22_, ne23_, ne24_, ne25_, ne26_, ne27_, ne28_, gc_pos (show v.body.length ≠ 0 by omega)]), (by simp [h0, h3, h4, h6, h7, h8, h9, h10, k0, k1, k3, k4, k5, k6, g1, g2, gU, ap15_, ap16_, ne17_, ne18_, ne19_, ne20_, ne21_, ne22_, ne23_, ne24_, ne25_, ne26_, ne27_, ne28_, rowsE_append]), (by simp [h0, h3, h4, h6, h7, h8, h9, h10, k0, k1, k3, k4, k5, k6, g1, g2, gU, ap15_, ap16_, ne17_, ne18_, ne19_, ne20_, ne21_, ne22_, ne23_, ne24_, ne25_, ne26_, ne27_, ne28_, rowsE_append]), ?_, ?_, ⟨.inr (by omega), by simp⟩, (.inr ⟨by simp [h0, h3, h4, h6, h7, h8, h9, h10, k0, k1, k3, k4, k5, k6, g1, g2, gU, ap15_, ap16_, ne17_, ne18_, ne19_, ne20_, ne21_, ne22_, ne23_, ne24_, ne25_, ne26_, ne27_, ne28_], by omega, by simp, by omega⟩), (fun x hx => by (have hx : x < σ.n + 6 := hx); (repeat' refine cl_step ?_ fun _ => ?_); all_goals first | rfl | exact clean_up (by simp) _ (hs2 x (by omega)) | (simp [VO.clean, cleanA, clean1]; done) | (simp [VO.clean, cleanA, clean1]; omega)), (fun x hx => by (have hx : σ.n + 6 ≤ x := hx); (repeat' refine dd_step (by omega) ?_); exact g4 x (by omega)), (by rw [hfl]; omega), hac, hgo⟩
        all_goals first|assumption|(simp [h0, h3, h4, h6, h7, h8, h9, h10, k0, k1, k3, k4, k5, k6, g1, g2, gU, ap15_, ap16_, ne17_, ne18_, ne19_, ne20_, ne21_, ne22_, ne23_, ne24_, ne25_, ne26_, ne27_, ne28_];done)|(simp [h0, h3, h4, h6, h7, h8, h9, h10, k0, k1, k3, k4, k5, k6, g1, g2, gU, ap15_, ap16_, ne17_, ne18_, ne19_, ne20_, ne21_, ne22_, ne23_, ne24_, ne25_, ne26_, ne27_, ne28_];omega)|(simp [h0, h3, h4, h6, h7, h8, h9, h10, k0, k1, k3, k4, k5, k6, g1, g2, gU, ap15_, ap16_, ne17_, ne18_, ne19_, ne20_, ne21_, ne22_, ne23_, ne24_, ne25_, ne26_, ne27_, ne28_];exact wrap_succ (by omega))|omega
      · obtain ⟨hT1, hT2, hT3, hT4⟩ := hT.resolve_left (by omega)
        have hBne := hacc.ne h0i
        have hgc := gc_pos (o := oT) (show B.length ≠ 0 from fun e => hBne (List.length_eq_zero_iff.1 e))
        have kT := (gx oT hT3).trans hT1
        have ap29_ := apart hT3
        have ne30_ : ¬ (oT = 0) := by omega
        have ne31_ : ¬ (0 = oT) := by omega
        have ne32_ : ¬ (oT = 1) := by omega
        have ne33_ : ¬ (1 = oT) := by omega
        have ne34_ : ¬ (oT = 3) := by omega
        have ne35_ : ¬ (3 = oT) := by omega
        have ne36_ : ¬ (oT = 4) := by omega
        have ne37_ : ¬ (4 = oT) := by omega
        have ne38_ : ¬ (oT = 5) := by omega
        have ne39_ : ¬ (5 = oT) := by omega
        have ne40_ : ¬ (oT = 6) := by omega
        have ne41_ : ¬ (6 = oT) := by omega
        repeat' first|refine nx ?_|refine xb_miss (by decide) ?_|(apply W_reg;(simp [h0, h3, h4, h6, h7, h8, h9, h10, k0, k1, k3, k4, k5, k6, g1, g2, gU, ap15_, ap16_, ne17_, ne18_, ne19_, ne20_, ne21_, ne22_, ne23_, ne24_, ne25_, ne26_, ne27_, ne28_, kT, ap29_, ne30_, ne31_, ne32_, ne33_, ne34_, ne35_, ne36_, ne37_, ne38_, ne39_, ne40_, ne41_, hb1_, hb2_, hb3_, chg, hvn, hgc];exact .r _))
        refine ⟨_, ?_, i + 1, σ.n + 1, (frs v U).2, oT, st, B ++ v.body.map (mapA (asn (frs v U).1)), L ++ q.body[i].args, R ++ v.head.map (asn (frs v U).1), rfl, rfl, ?_, ?_, ?_, ?_, ?_, ?_, ?_, ?_, by omega, ?_, ?_, ?_, (by simp [h0, h3, h4, h6, h7, h8, h9, h10, k0, k1, k3, k4, k5, k6, g1, g2, gU, ap15_, ap16_, ne17_, ne18_, ne19_, ne20_, ne21_, ne22_, ne23_, ne24_, ne25_, ne26_, ne27_, ne28_, kT, ap29_, ne30_, ne31_, ne32_, ne33_, ne34_, ne35_, ne36_, ne37_, ne38_, ne39_, ne40_, ne41_, gc_pos (show B.length + v.body.length ≠ 0 by omega)]), (by simp [h0, h3, h4, h6, h7, h8, h9, h10, k0, k1, k3, k4, k5, k6, g1, g2, gU, ap15_, ap16_, ne17_, ne18_, ne19_, ne20_, ne21_, ne22_, ne23_, ne24_, ne25_, ne26_, ne27_, ne28_, kT, ap29_, ne30_, ne31_, ne32_, ne33_, ne34_, ne35_, ne36_, ne37_, ne38_, ne39_, ne40_, ne41_, rowsE_append]), (by simp [h0, h3, h4, h6, h7, h8, h9, h10, k0, k1, k3, k4, k5, k6, g1, g2, gU, ap15_, ap16_, ne17_, ne18_, ne19_, ne20_, ne21_, ne22_, ne23_, ne24_, ne25_, ne26_, ne27_, ne28_, kT, ap29_, ne30_, ne31_, ne32_, ne33_, ne34_, ne35_, ne36_, ne37_, ne38_, ne39_, ne40_, ne41_, rowsE_append]), ?_, ?_, ⟨.inr (by omega), by simp⟩, (.inr ⟨by simp [h0, h3, h4, h6, h7, h8, h9, h10, k0, k1, k3, k4, k5, k6, g1, g2, gU, ap15_, ap16_, ne17_, ne18_, ne19_, ne20_, ne21_, ne22_, ne23_, ne24_, ne25_, ne26_, ne27_, ne28_, kT, ap29_, ne30_, ne31_, ne32_, ne33_, ne34_, ne35_, ne36_, ne37_, ne38_, ne39_, ne40_, ne41_, rowsE_append], hT2, (show oT < σ.n + 5 by omega), by omega⟩), (fun x hx => by (have hx : x < σ.n + 5 := hx); (repeat' refine cl_step ?_ fun _ => ?_); all_goals first | rfl | exact clean_up (by simp) _ (hs2 x (by omega)) | (simp [VO.clean, cleanA, clean1]; done) | (simp [VO.clean, cleanA, clean1]; omega)), (fun x hx => by (have hx : σ.n + 5 ≤ x := hx); (repeat' refine dd_step (by omega) ?_); exact g4 x (by omega)), (by rw [hfl]; omega), hac, hgo⟩
        all_goals first|assumption|(simp [h0, h3, h4, h6, h7, h8, h9, h10, k0, k1, k3, k4, k5, k6, g1, g2, gU, ap15_, ap16_, ne17_, ne18_, ne19_, ne20_, ne21_, ne22_, ne23_, ne24_, ne25_, ne26_, ne27_, ne28_, kT, ap29_, ne30_, ne31_, ne32_, ne33_, ne34_, ne35_, ne36_, ne37_, ne38_, ne39_, ne40_, ne41_];done)|(simp [h0, h3, h4, h6, h7, h8, h9, h10, k0, k1, k3, k4, k5, k6, g1, g2, gU, ap15_, ap16_, ne17_, ne18_, ne19_, ne20_, ne21_, ne22_, ne23_, ne24_, ne25_, ne26_, ne27_, ne28_, kT, ap29_, ne30_, ne31_, ne32_, ne33_, ne34_, ne35_, ne36_, ne37_, ne38_, ne39_, ne40_, ne41_];omega)|(simp [h0, h3, h4, h6, h7, h8, h9, h10, k0, k1, k3, k4, k5, k6, g1, g2, gU, ap15_, ap16_, ne17_, ne18_, ne19_, ne20_, ne21_, ne22_, ne23_, ne24_, ne25_, ne26_, ne27_, ne28_, kT, ap29_, ne30_, ne31_, ne32_, ne33_, ne34_, ne35_, ne36_, ne37_, ne38_, ne39_, ne40_, ne41_];exact wrap_succ (by omega))|omega
  · have hil : i = q.body.length := by simp at hc; omega
    subst hil
    have hS := unfS_end (us := varsQ q) heq
    have hqne := isQry_ne hq
    have hi0 : 0 < q.body.length := List.length_pos_iff.2 hqne
    obtain ⟨hT1, hT2, hT3, hT4⟩ := hT.resolve_left (by omega)
    have hBne := hacc.ne hi0
    have hB0 : B.length ≠ 0 := fun e => hBne (List.length_eq_zero_iff.1 e)
    have hgc := gc_pos (o := oT) hB0
    have hLb := hacc.l
    have hLR := hacc.lr
    have hBb := hacc.b
    have hq4 := hqs.2.1
    have hBb2 : B.length + 2 < 1099511627776 := by omega
    have hLb2 : L.length < 1099511627776 := by omega
    have ap42_ := apart hn
    have ap43_ := apart hT3
    have ne44_ : ¬ (oT = 0) := by omega
    have ne45_ : ¬ (0 = oT) := by omega
    have ne46_ : ¬ (oT = 1) := by omega
    have ne47_ : ¬ (1 = oT) := by omega
    have ne48_ : ¬ (oT = 3) := by omega
    have ne49_ : ¬ (3 = oT) := by omega
    have ne50_ : ¬ (oT = 4) := by omega
    have ne51_ : ¬ (4 = oT) := by omega
    have ne52_ : ¬ (oT = 5) := by omega
    have ne53_ : ¬ (5 = oT) := by omega
    have ne54_ : ¬ (oT = 6) := by omega
    have ne55_ : ¬ (6 = oT) := by omega
    have hr2 : ([0, 1] : List Nat) = List.range 2 := rfl
    repeat' first|refine nx ?_|refine xb_miss (by decide) ?_|(apply W_reg;(simp [h0, h3, h4, h6, h7, h8, h9, h10, hb0, hb1, hb3, hb4, hb5, hb6, hbU, hn, hoU, hT, hcl, hdd, hT1, ap42_, ap43_, ne44_, ne45_, ne46_, ne47_, ne48_, ne49_, ne50_, ne51_, ne52_, ne53_, ne54_, ne55_, hgc, hBb2, hr2];exact .r _))
    refine W_loop (n := L.length) (fun n s => ∃ k : Nat, ∃ u : Ust, n = L.length - k ∧ s.nt = 124 ∧ s.tm 4 = .ptr 1 0 ∧ s.tm 7 = .ptr 4 0 ∧ s.tm 8 = .ref 5 L.length [] ∧ s.tm 15 = In B.length ∧ s.tm 16 = In k ∧ k ≤ L.length ∧ s.σ.ob 1 = .box [.t .nl, .t .nl] ∧ s.σ.ob 5 = .dead ∧ 7 ≤ s.σ.n ∧ eqS (List.range L.length) ⟨q.head, B, L, R⟩ = eqS ((List.range L.length).drop k) u ∧ u.l.length = L.length ∧ u.r.length = L.length ∧ u.b.length = B.length ∧ u.h.length = q.head.length ∧ (∀ a ∈ u.b, a.args.length ≤ 3) ∧ ((s.σ.ob 4 = .box [.t (.sl (rowsE u.h)), .t (.sl (rowsE (u.b ++ [⟨0, u.l⟩, ⟨0, u.r⟩])))]) ∨ (∃ oh ob sh sb_ : Nat, s.σ.ob 4 = .box [.ref oh u.h.length [], .ref ob (u.b.length + 2) []] ∧ s.σ.ob oh = .arr (.own 0) sh 1 (rowsE u.h) ∧ s.σ.ob ob = .arr (.own 0) sb_ 2 (rowsE (u.b ++ [⟨0, u.l⟩, ⟨0, u.r⟩])) ∧ (oh = 3 ∨ 7 ≤ oh) ∧ oh < s.σ.n ∧ 7 ≤ ob ∧ ob < s.σ.n ∧ oh ≠ ob))) ⟨0, ⟨q.head, B, L, R⟩, by (simp [h0, h3, h4, h6, h7, h8, h9, h10, hb0, hb1, hb3, hb4, hb5, hb6, hbU, hn, hoU, hT, hcl, hdd, hT1, ap42_, ap43_, ne44_, ne45_, ne46_, ne47_, ne48_, ne49_, ne50_, ne51_, ne52_, ne53_, ne54_, ne55_, hgc]; exact ⟨by omega, hLR.symm, hacc.a, 3, oT, ⟨rfl, rfl⟩, ⟨0, by simp [h0, h3, h4, h6, h7, h8, h9, h10, hb0, hb1, hb3, hb4, hb5, hb6, hbU, hn, hoU, hT, hcl, hdd, hT1, ap42_, ap43_, ne44_, ne45_, ne46_, ne47_, ne48_, ne49_, ne50_, ne51_, ne52_, ne53_, ne54_, ne55_, show ¬ (3 = oT) by omega, show ¬ (3 = σ.n) by omega]⟩, ⟨st, by simp [show ¬ (oT = 4) by omega, rowsE]⟩, .inl rfl, by omega, hT2, by omega, by omega⟩)⟩ ?_
    rintro n ⟨nt, tm, σ⟩ ⟨k, u, rfl, hnt, h4, h7, h8, h15, h16, hk, hb1, hb5, hn, hes, hul, hur, hub, huh, hba, hX⟩
    simp only at hnt h4 h7 h8 h15 h16 hb1 hb5 hn hX
    subst hnt
    have ap56_ := apart hn
    have wr57_ : IntKind.i64.wrap ((B.length : Int) + 1) = (B.length : Int) + 1 := wrap_ok (by omega) (by omega)
    have hel : ∀ (h : k < L.length), ∃ (h1 : k < u.l.length) (h2 : k < u.r.length), eqS (List.range L.length) ⟨q.head, B, L, R⟩ = (eqt u.l[k] u.r[k]).bind fun p => eqS ((List.range L.length).drop (k + 1)) (u.sub p) := fun h => ⟨by omega, by omega, eqS_go hes h (by omega) (by omega)⟩
    have hsq : SmQ ⟨u.h, u.b ++ [⟨0, u.l⟩, ⟨0, u.r⟩]⟩ := by
      refine ⟨by unfold Sm; simp only; omega, by unfold Sm; simp only [List.length_append, List.length_cons, List.length_nil]; omega, fun a ha => ?_⟩
      simp only [List.mem_append, List.mem_cons, List.not_mem_nil, or_false] at ha
      rcases ha with h | rfl | rfl
      · have := hba a h; unfold Sm; omega
      · unfold Sm; simp only; omega
      · unfold Sm; simp only; omega
    have hg1 : (rowsE (u.b ++ [⟨0, u.l⟩, ⟨0, u.r⟩]))[B.length]? = some [.i .i64 0, .sl (rowsE u.l)] := by
      rw [← hub]; simp [rowsE]
    have hg2 : (rowsE (u.b ++ [⟨0, u.l⟩, ⟨0, u.r⟩]))[B.length + 1]? = some [.i .i64 0, .sl (rowsE u.r)] := by
      rw [← hub]; simp [rowsE]
    rcases hX with hX | ⟨oh, ob, sh, sb_, hX, hX1, hX2, hX3, hX4, hX5, hX6, hX7⟩
    · have hX0 := hX
      repeat' first|refine nx ?_|refine xb_miss (by decide) ?_|(apply W_reg;(simp [h4, h7, h8, h15, h16, hb1, hb5, hn, hX, ap56_, wr57_, hX];exact .r _))
      refine W_cond (by simp [h4, h7, h8, h15, h16, hb1, hb5, hn, hX, ap56_, wr57_, hX]; exact .r _) (fun hc2 => ?_) (fun hc2 => ?_)
      · have hkl : k < L.length := by simpa using hc2
        obtain ⟨hl1, hl2, hel2⟩ := hel hkl
        have c2 := cv (l13Equate_r ⟨u.h, u.b ++ [⟨0, u.l⟩, ⟨0, u.r⟩]⟩ u.l[k] u.r[k] hsq (by simp))
        have hnn : 0 ≤ (B.length : Int) + 1 := by omega
        cases e : eqt u.l[k] u.r[k] with
        | none =>
          rw [e] at hel2
          rw [show xEqt ⟨u.h, u.b ++ [⟨0, u.l⟩, ⟨0, u.r⟩]⟩ u.l[k] u.r[k] = .tup [xvQs ⟨u.h, u.b ++ [⟨0, u.l⟩, ⟨0, u.r⟩]⟩, .t (.b false) false] by unfold xEqt; rw [e]] at c2
          simp only [Ag, cells_Q, List.map_cons, List.map_nil] at c2
          repeat' first|refine nx ?_|refine xb_miss (by decide) ?_|(apply W_reg;(simp [h4, h7, h8, h15, h16, hb1, hb5, hn, hX, ap56_, wr57_, hX, hg1, hg2, hl1, hl2, c2, hnn];exact .r _))|(apply W_draw (id := 21) [0,0,2,0,14,30,62,0,254,510,0,1024,0,4096,15360,31744,64512,0,261120,523264,1048575,2097151,4194303,4194303,0,25165823,67108863] rfl rfl; (· simp; exact .r _); (· simp [h4, h7, h8, h15, h16, hb1, hb5, hn, hX, ap56_, wr57_, hX, hg1, hg2, hl1, hl2, c2, hnn]; exact .r _); (· first|trivial|simp))
          refine W_cond (by simp [h4, h7, h8, h15, h16, hb1, hb5, hn, hX, ap56_, wr57_, hX]; exact .r _) (fun hd => ?_) (fun hd => ?_)
          · repeat' first|refine nx ?_|refine xb_miss (by decide) ?_|(apply W_reg;(simp [h4, h7, h8, h15, h16, hb1, hb5, hn, hX, ap56_, wr57_, hX];exact .r _))
            simp [xUnf, unfQ, hS, hel2, h4, h7, h8, h15, h16, hb1, hb5, hn, hX, ap56_, wr57_, hX]
          · cases hd
        | some p =>
          rw [e] at hel2
          by_cases et : u.l[k] = u.r[k]
          · rw [show xEqt ⟨u.h, u.b ++ [⟨0, u.l⟩, ⟨0, u.r⟩]⟩ u.l[k] u.r[k] = .tup [xvQs ⟨u.h, u.b ++ [⟨0, u.l⟩, ⟨0, u.r⟩]⟩, .t (.b true) false] by unfold xEqt; rw [e]; exact if_pos et] at c2
            have hpe : u.sub p = u := by
              rw [et, eqt_self] at e
              cases e; exact sub_same _ _
            rw [Option.bind_some, hpe] at hel2
            simp only [Ag, cells_Q, List.map_cons, List.map_nil] at c2
            repeat' first|refine nx ?_|refine xb_miss (by decide) ?_|(apply W_reg;(simp [h4, h7, h8, h15, h16, hb1, hb5, hn, hX, ap56_, wr57_, hX, hg1, hg2, hl1, hl2, c2, hnn];exact .r _))|(apply W_draw (id := 21) [0,0,2,0,14,30,62,0,254,510,0,1024,0,4096,15360,31744,64512,0,261120,523264,1048575,2097151,4194303,4194303,0,25165823,67108863] rfl rfl; (· simp; exact .r _); (· simp [h4, h7, h8, h15, h16, hb1, hb5, hn, hX, ap56_, wr57_, hX, hg1, hg2, hl1, hl2, c2, hnn]; exact .r _); (· first|trivial|simp))
            refine W_cond (by simp [h4, h7, h8, h15, h16, hb1, hb5, hn, hX, ap56_, wr57_, hX]; exact .r _) (fun hd => ?_) (fun hd => ?_)
            · cases hd
            repeat' first|refine nx ?_|refine xb_miss (by decide) ?_|(apply W_reg;(simp [h4, h7, h8, h15, h16, hb1, hb5, hn, hX, ap56_, wr57_, hX];exact .r _))
            refine ⟨_, ?_, k + 1, u, rfl, rfl, ?_, ?_, ?_, ?_, ?_, by omega, ?_, ?_, ?_, hel2, hul, hur, hub, huh, hba, .inl (by simp [h4, h7, h8, h15, h16, hb1, hb5, hn, hX, ap56_, wr57_, hX])⟩
            all_goals first|assumption|(simp [h4, h7, h8, h15, h16, hb1, hb5, hn, hX, ap56_, wr57_, hX];done)|(simp [h4, h7, h8, h15, h16, hb1, hb5, hn, hX, ap56_, wr57_, hX];omega)|(simp [h4, h7, h8, h15, h16, hb1, hb5, hn, hX, ap56_, wr57_, hX];exact wrap_succ (by omega))|omega
          · rw [show xEqt ⟨u.h, u.b ++ [⟨0, u.l⟩, ⟨0, u.r⟩]⟩ u.l[k] u.r[k] = .tup [xvQ (chg (sb p) ⟨u.h, u.b ++ [⟨0, u.l⟩, ⟨0, u.r⟩]⟩), .t (.b true) false] by unfold xEqt; rw [e]; exact if_neg et, uEq] at c2
            simp only [Ag, cells_Q, List.map_cons, List.map_nil] at c2
            rw [Option.bind_some] at hel2
            repeat' first|refine nx ?_|refine xb_miss (by decide) ?_|(apply W_reg;(simp [h4, h7, h8, h15, h16, hb1, hb5, hn, hX, ap56_, wr57_, hX, hg1, hg2, hl1, hl2, c2, hnn];exact .r _))|(apply W_draw (id := 21) [0,0,2,0,14,30,62,0,254,510,0,1024,0,4096,15360,31744,64512,0,261120,523264,1048575,2097151,4194303,4194303,0,25165823,67108863] rfl rfl; (· simp; exact .r _); (· simp [h4, h7, h8, h15, h16, hb1, hb5, hn, hX, ap56_, wr57_, hX, hg1, hg2, hl1, hl2, c2, hnn]; exact .r _); (· first|trivial|simp))
            refine W_cond (by simp [h4, h7, h8, h15, h16, hb1, hb5, hn, hX, ap56_, wr57_, hX]; exact .r _) (fun hd => ?_) (fun hd => ?_)
            · cases hd
            repeat' first|refine nx ?_|refine xb_miss (by decide) ?_|(apply W_reg;(simp [h4, h7, h8, h15, h16, hb1, hb5, hn, hX, ap56_, wr57_, hX];exact .r _))
            refine ⟨_, ?_, k + 1, u.sub p, rfl, rfl, ?_, ?_, ?_, ?_, ?_, by omega, ?_, ?_, ?_, hel2, (by simp [Ust.sub, hul]), (by simp [Ust.sub, hur]), (by simp [Ust.sub, hub]), (by simp [Ust.sub, huh]), (fun a ha => by (obtain ⟨y, hy, rfl⟩ := List.mem_map.1 ha; have := hba y hy; simpa [mapA] using this)), .inr ⟨σ.n + 1, σ.n + 2, 0, 0, by simp [h4, h7, h8, h15, h16, hb1, hb5, hn, hX, ap56_, wr57_, hX], by simp [h4, h7, h8, h15, h16, hb1, hb5, hn, hX, ap56_, wr57_, hX], by simp [h4, h7, h8, h15, h16, hb1, hb5, hn, hX, ap56_, wr57_, hX], .inr (by omega), by simp, by omega, by simp, by omega⟩⟩
            all_goals first|assumption|(simp [h4, h7, h8, h15, h16, hb1, hb5, hn, hX, ap56_, wr57_, hX];done)|(simp [h4, h7, h8, h15, h16, hb1, hb5, hn, hX, ap56_, wr57_, hX];omega)|(simp [h4, h7, h8, h15, h16, hb1, hb5, hn, hX, ap56_, wr57_, hX];exact wrap_succ (by omega))|omega
      · have hkl : k = L.length := by simp at hc2; omega
        subst hkl
        have hE := eqS_end hes
        have hu0 : u.b ≠ [] := fun e => hB0 (by rw [← hub, e]; rfl)
        have c3 := cv (specDed_r ⟨u.h, u.b⟩ ⟨hsq.1, by unfold Sm; simp only; omega, fun a ha => by have := hba a ha; unfold Sm; omega⟩ hu0)
        simp only [Ag, cells_Q, List.map_cons, List.map_nil] at c3
        have htk : List.take B.length (rowsE (u.b ++ [⟨0, u.l⟩, ⟨0, u.r⟩])) = rowsE u.b := by
          rw [rowsE_append, ← hub]; simp
        have hle : B.length ≤ u.b.length + 2 := by omega
        repeat' first|refine nx ?_|refine xb_miss (by decide) ?_|(apply W_reg;(simp [h4, h7, h8, h15, h16, hb1, hb5, hn, hX, ap56_, wr57_, hX, htk, c3, hle, hub];exact .r _))
        simp [xUnf, unfQ, hS, hE, h4, h7, h8, h15, h16, hb1, hb5, hn, hX, ap56_, wr57_, hX]
    · have hX0 := hX
      have ap58_ := apart hX4
      have ap59_ := apart hX6
      have ne60_ : ¬ (oh = 1) := by omega
      have ne61_ : ¬ (1 = oh) := by omega
      have ne62_ : ¬ (oh = 4) := by omega
      have ne63_ : ¬ (4 = oh) := by omega
      have ne64_ : ¬ (oh = 5) := by omega
      have ne65_ : ¬ (5 = oh) := by omega
      have ne66_ : ¬ (oh = 6) := by omega
      have ne67_ : ¬ (6 = oh) := by omega
      have ne68_ : ¬ (ob = 1) := by omega
      have ne69_ : ¬ (1 = ob) := by omega
      have ne70_ : ¬ (ob = 4) := by omega
      have ne71_ : ¬ (4 = ob) := by omega
      have ne72_ : ¬ (ob = 5) := by omega
      have ne73_ : ¬ (5 = ob) := by omega
      have ne74_ : ¬ (ob = 6) := by omega
      have ne75_ : ¬ (6 = ob) := by omega
      have ne76_ : ¬ (oh = ob) := by omega
      have ne77_ : ¬ (ob = oh) := by omega
      repeat' first|refine nx ?_|refine xb_miss (by decide) ?_|(apply W_reg;(simp [h4, h7, h8, h15, h16, hb1, hb5, hn, hX, ap56_, wr57_, hX, ap58_, ap59_, ne60_, ne61_, ne62_, ne63_, ne64_, ne65_, ne66_, ne67_, ne68_, ne69_, ne70_, ne71_, ne72_, ne73_, ne74_, ne75_, ne76_, ne77_, hX, hX1, hX2];exact .r _))
      refine W_cond (by simp [h4, h7, h8, h15, h16, hb1, hb5, hn, hX, ap56_, wr57_, hX, ap58_, ap59_, ne60_, ne61_, ne62_, ne63_, ne64_, ne65_, ne66_, ne67_, ne68_, ne69_, ne70_, ne71_, ne72_, ne73_, ne74_, ne75_, ne76_, ne77_, hX, hX1, hX2]; exact .r _) (fun hc2 => ?_) (fun hc2 => ?_)
      · have hkl : k < L.length := by simpa using hc2
        obtain ⟨hl1, hl2, hel2⟩ := hel hkl
        have c2 := cv (l13Equate_r ⟨u.h, u.b ++ [⟨0, u.l⟩, ⟨0, u.r⟩]⟩ u.l[k] u.r[k] hsq (by simp))
        have hnn : 0 ≤ (B.length : Int) + 1 := by omega
        cases e : eqt u.l[k] u.r[k] with
        | none =>
          rw [e] at hel2
          rw [show xEqt ⟨u.h, u.b ++ [⟨0, u.l⟩, ⟨0, u.r⟩]⟩ u.l[k] u.r[k] = .tup [xvQs ⟨u.h, u.b ++ [⟨0, u.l⟩, ⟨0, u.r⟩]⟩, .t (.b false) false] by unfold xEqt; rw [e]] at c2
          simp only [Ag, cells_Q, List.map_cons, List.map_nil] at c2
          repeat' first|refine nx ?_|refine xb_miss (by decide) ?_|(apply W_reg;(simp [h4, h7, h8, h15, h16, hb1, hb5, hn, hX, ap56_, wr57_, hX, ap58_, ap59_, ne60_, ne61_, ne62_, ne63_, ne64_, ne65_, ne66_, ne67_, ne68_, ne69_, ne70_, ne71_, ne72_, ne73_, ne74_, ne75_, ne76_, ne77_, hX, hX1, hX2, hg1, hg2, hl1, hl2, c2, hnn];exact .r _))|(apply W_draw (id := 21) [0,0,2,0,14,30,62,0,254,510,0,1024,0,4096,15360,31744,64512,0,261120,523264,1048575,2097151,4194303,4194303,0,25165823,67108863] rfl rfl; (· simp; exact .r _); (· simp [h4, h7, h8, h15, h16, hb1, hb5, hn, hX, ap56_, wr57_, hX, ap58_, ap59_, ne60_, ne61_, ne62_, ne63_, ne64_, ne65_, ne66_, ne67_, ne68_, ne69_, ne70_, ne71_, ne72_, ne73_, ne74_, ne75_, ne76_, ne77_, hX, hX1, hX2, hg1, hg2, hl1, hl2, c2, hnn]; exact .r _); (· first|trivial|simp))
          refine W_cond (by simp [h4, h7, h8, h15, h16, hb1, hb5, hn, hX, ap56_, wr57_, hX, ap58_, ap59_, ne60_, ne61_, ne62_, ne63_, ne64_, ne65_, ne66_, ne67_, ne68_, ne69_, ne70_, ne71_, ne72_, ne73_, ne74_, ne75_, ne76_, ne77_, hX, hX1, hX2]; exact .r _) (fun hd => ?_) (fun hd => ?_)
          · repeat' first|refine nx ?_|refine xb_miss (by decide) ?_|(apply W_reg;(simp [h4, h7, h8, h15, h16, hb1, hb5, hn, hX, ap56_, wr57_, hX, ap58_, ap59_, ne60_, ne61_, ne62_, ne63_, ne64_, ne65_, ne66_, ne67_, ne68_, ne69_, ne70_, ne71_, ne72_, ne73_, ne74_, ne75_, ne76_, ne77_, hX, hX1, hX2];exact .r _))
            simp [xUnf, unfQ, hS, hel2, h4, h7, h8, h15, h16, hb1, hb5, hn, hX, ap56_, wr57_, hX, ap58_, ap59_, ne60_, ne61_, ne62_, ne63_, ne64_, ne65_, ne66_, ne67_, ne68_, ne69_, ne70_, ne71_, ne72_, ne73_, ne74_, ne75_, ne76_, ne77_, hX, hX1, hX2]
          · cases hd
        | some p =>
          rw [e] at hel2
          by_cases et : u.l[k] = u.r[k]
          · rw [show xEqt ⟨u.h, u.b ++ [⟨0, u.l⟩, ⟨0, u.r⟩]⟩ u.l[k] u.r[k] = .tup [xvQs ⟨u.h, u.b ++ [⟨0, u.l⟩, ⟨0, u.r⟩]⟩, .t (.b true) false] by unfold xEqt; rw [e]; exact if_pos et] at c2
            have hpe : u.sub p = u := by
              rw [et, eqt_self] at e
              cases e; exact sub_same _ _
            rw [Option.bind_some, hpe] at hel2
            simp only [Ag, cells_Q, List.map_cons, List.map_nil] at c2
            repeat' first|refine nx ?_|refine xb_miss (by decide) ?_|(apply W_reg;(simp [h4, h7, h8, h15, h16, hb1, hb5, hn, hX, ap56_, wr57_, hX, ap58_, ap59_, ne60_, ne61_, ne62_, ne63_, ne64_, ne65_, ne66_, ne67_, ne68_, ne69_, ne70_, ne71_, ne72_, ne73_, ne74_, ne75_, ne76_, ne77_, hX, hX1, hX2, hg1, hg2, hl1, hl2, c2, hnn];exact .r _))|(apply W_draw (id := 21) [0,0,2,0,14,30,62,0,254,510,0,1024,0,4096,15360,31744,64512,0,261120,523264,1048575,2097151,4194303,4194303,0,25165823,67108863] rfl rfl; (· simp; exact .r _); (· simp [h4, h7, h8, h15, h16, hb1, hb5, hn, hX, ap56_, wr57_, hX, ap58_, ap59_, ne60_, ne61_, ne62_, ne63_, ne64_, ne65_, ne66_, ne67_, ne68_, ne69_, ne70_, ne71_, ne72_, ne73_, ne74_, ne75_, ne76_, ne77_, hX, hX1, hX2, hg1, hg2, hl1, hl2, c2, hnn]; exact .r _); (· first|trivial|simp))
            refine W_cond (by simp [h4, h7, h8, h15, h16, hb1, hb5, hn, hX, ap56_, wr57_, hX, ap58_, ap59_, ne60_, ne61_, ne62_, ne63_, ne64_, ne65_, ne66_, ne67_, ne68_, ne69_, ne70_, ne71_, ne72_, ne73_, ne74_, ne75_, ne76_, ne77_, hX, hX1, hX2]; exact .r _) (fun hd => ?_) (fun hd => ?_)
            · cases hd
            repeat' first|refine nx ?_|refine xb_miss (by decide) ?_|(apply W_reg;(simp [h4, h7, h8, h15, h16, hb1, hb5, hn, hX, ap56_, wr57_, hX, ap58_, ap59_, ne60_, ne61_, ne62_, ne63_, ne64_, ne65_, ne66_, ne67_, ne68_, ne69_, ne70_, ne71_, ne72_, ne73_, ne74_, ne75_, ne76_, ne77_, hX, hX1, hX2];exact .r _))
            refine ⟨_, ?_, k + 1, u, rfl, rfl, ?_, ?_, ?_, ?_, ?_, by omega, ?_, ?_, ?_, hel2, hul, hur, hub, huh, hba, .inl (by simp [h4, h7, h8, h15, h16, hb1, hb5, hn, hX, ap56_, wr57_, hX, ap58_, ap59_, ne60_, ne61_, ne62_, ne63_, ne64_, ne65_, ne66_, ne67_, ne68_, ne69_, ne70_, ne71_, ne72_, ne73_, ne74_, ne75_, ne76_, ne77_, hX, hX1, hX2])⟩
            all_goals first|assumption|(simp [h4, h7, h8, h15, h16, hb1, hb5, hn, hX, ap56_, wr57_, hX, ap58_, ap59_, ne60_, ne61_, ne62_, ne63_, ne64_, ne65_, ne66_, ne67_, ne68_, ne69_, ne70_, ne71_, ne72_, ne73_, ne74_, ne75_, ne76_, ne77_, hX, hX1, hX2];done)|(simp [h4, h7, h8, h15, h16, hb1, hb5, hn, hX, ap56_, wr57_, hX, ap58_, ap59_, ne60_, ne61_, ne62_, ne63_, ne64_, ne65_, ne66_, ne67_, ne68_, ne69_, ne70_, ne71_, ne72_, ne73_, ne74_, ne75_, ne76_, ne77_, hX, hX1, hX2];omega)|(simp [h4, h7, h8, h15, h16, hb1, hb5, hn, hX, ap56_, wr57_, hX, ap58_, ap59_, ne60_, ne61_, ne62_, ne63_, ne64_, ne65_, ne66_, ne67_, ne68_, ne69_, ne70_, ne71_, ne72_, ne73_, ne74_, ne75_, ne76_, ne77_, hX, hX1, hX2];exact wrap_succ (by omega))|omega
          · rw [show xEqt ⟨u.h, u.b ++ [⟨0, u.l⟩, ⟨0, u.r⟩]⟩ u.l[k] u.r[k] = .tup [xvQ (chg (sb p) ⟨u.h, u.b ++ [⟨0, u.l⟩, ⟨0, u.r⟩]⟩), .t (.b true) false] by unfold xEqt; rw [e]; exact if_neg et, uEq] at c2
            simp only [Ag, cells_Q, List.map_cons, List.map_nil] at c2
            rw [Option.bind_some] at hel2
            repeat' first|refine nx ?_|refine xb_miss (by decide) ?_|(apply W_reg;(simp [h4, h7, h8, h15, h16, hb1, hb5, hn, hX, ap56_, wr57_, hX, ap58_, ap59_, ne60_, ne61_, ne62_, ne63_, ne64_, ne65_, ne66_, ne67_, ne68_, ne69_, ne70_, ne71_, ne72_, ne73_, ne74_, ne75_, ne76_, ne77_, hX, hX1, hX2, hg1, hg2, hl1, hl2, c2, hnn];exact .r _))|(apply W_draw (id := 21) [0,0,2,0,14,30,62,0,254,510,0,1024,0,4096,15360,31744,64512,0,261120,523264,1048575,2097151,4194303,4194303,0,25165823,67108863] rfl rfl; (· simp; exact .r _); (· simp [h4, h7, h8, h15, h16, hb1, hb5, hn, hX, ap56_, wr57_, hX, ap58_, ap59_, ne60_, ne61_, ne62_, ne63_, ne64_, ne65_, ne66_, ne67_, ne68_, ne69_, ne70_, ne71_, ne72_, ne73_, ne74_, ne75_, ne76_, ne77_, hX, hX1, hX2, hg1, hg2, hl1, hl2, c2, hnn]; exact .r _); (· first|trivial|simp))
            refine W_cond (by simp [h4, h7, h8, h15, h16, hb1, hb5, hn, hX, ap56_, wr57_, hX, ap58_, ap59_, ne60_, ne61_, ne62_, ne63_, ne64_, ne65_, ne66_, ne67_, ne68_, ne69_, ne70_, ne71_, ne72_, ne73_, ne74_, ne75_, ne76_, ne77_, hX, hX1, hX2]; exact .r _) (fun hd => ?_) (fun hd => ?_)
            · cases hd
            repeat' first|refine nx ?_|refine xb_miss (by decide) ?_|(apply W_reg;(simp [h4, h7, h8, h15, h16, hb1, hb5, hn, hX, ap56_, wr57_, hX, ap58_, ap59_, ne60_, ne61_, ne62_, ne63_, ne64_, ne65_, ne66_, ne67_, ne68_, ne69_, ne70_, ne71_, ne72_, ne73_, ne74_, ne75_, ne76_, ne77_, hX, hX1, hX2];exact .r _))
            refine ⟨_, ?_, k + 1, u.sub p, rfl, rfl, ?_, ?_, ?_, ?_, ?_, by omega, ?_, ?_, ?_, hel2, (by simp [Ust.sub, hul]), (by simp [Ust.sub, hur]), (by simp [Ust.sub, hub]), (by simp [Ust.sub, huh]), (fun a ha => by (obtain ⟨y, hy, rfl⟩ := List.mem_map.1 ha; have := hba y hy; simpa [mapA] using this)), .inr ⟨σ.n + 1, σ.n + 2, 0, 0, by simp [h4, h7, h8, h15, h16, hb1, hb5, hn, hX, ap56_, wr57_, hX, ap58_, ap59_, ne60_, ne61_, ne62_, ne63_, ne64_, ne65_, ne66_, ne67_, ne68_, ne69_, ne70_, ne71_, ne72_, ne73_, ne74_, ne75_, ne76_, ne77_, hX, hX1, hX2], by simp [h4, h7, h8, h15, h16, hb1, hb5, hn, hX, ap56_, wr57_, hX, ap58_, ap59_, ne60_, ne61_, ne62_, ne63_, ne64_, ne65_, ne66_, ne67_, ne68_, ne69_, ne70_, ne71_, ne72_, ne73_, ne74_, ne75_, ne76_, ne77_, hX, hX1, hX2], by simp [h4, h7, h8, h15, h16, hb1, hb5, hn, hX, ap56_, wr57_, hX, ap58_, ap59_, ne60_, ne61_, ne62_, ne63_, ne64_, ne65_, ne66_, ne67_, ne68_, ne69_, ne70_, ne71_, ne72_, ne73_, ne74_, ne75_, ne76_, ne77_, hX, hX1, hX2], .inr (by omega), by simp, by omega, by simp, by omega⟩⟩
            all_goals first|assumption|(simp [h4, h7, h8, h15, h16, hb1, hb5, hn, hX, ap56_, wr57_, hX, ap58_, ap59_, ne60_, ne61_, ne62_, ne63_, ne64_, ne65_, ne66_, ne67_, ne68_, ne69_, ne70_, ne71_, ne72_, ne73_, ne74_, ne75_, ne76_, ne77_, hX, hX1, hX2];done)|(simp [h4, h7, h8, h15, h16, hb1, hb5, hn, hX, ap56_, wr57_, hX, ap58_, ap59_, ne60_, ne61_, ne62_, ne63_, ne64_, ne65_, ne66_, ne67_, ne68_, ne69_, ne70_, ne71_, ne72_, ne73_, ne74_, ne75_, ne76_, ne77_, hX, hX1, hX2];omega)|(simp [h4, h7, h8, h15, h16, hb1, hb5, hn, hX, ap56_, wr57_, hX, ap58_, ap59_, ne60_, ne61_, ne62_, ne63_, ne64_, ne65_, ne66_, ne67_, ne68_, ne69_, ne70_, ne71_, ne72_, ne73_, ne74_, ne75_, ne76_, ne77_, hX, hX1, hX2];exact wrap_succ (by omega))|omega
      · have hkl : k = L.length := by simp at hc2; omega
        subst hkl
        have hE := eqS_end hes
        have hu0 : u.b ≠ [] := fun e => hB0 (by rw [← hub, e]; rfl)
        have c3 := cv (specDed_r ⟨u.h, u.b⟩ ⟨hsq.1, by unfold Sm; simp only; omega, fun a ha => by have := hba a ha; unfold Sm; omega⟩ hu0)
        simp only [Ag, cells_Q, List.map_cons, List.map_nil] at c3
        have htk : List.take B.length (rowsE (u.b ++ [⟨0, u.l⟩, ⟨0, u.r⟩])) = rowsE u.b := by
          rw [rowsE_append, ← hub]; simp
        have hle : B.length ≤ u.b.length + 2 := by omega
        repeat' first|refine nx ?_|refine xb_miss (by decide) ?_|(apply W_reg;(simp [h4, h7, h8, h15, h16, hb1, hb5, hn, hX, ap56_, wr57_, hX, ap58_, ap59_, ne60_, ne61_, ne62_, ne63_, ne64_, ne65_, ne66_, ne67_, ne68_, ne69_, ne70_, ne71_, ne72_, ne73_, ne74_, ne75_, ne76_, ne77_, hX, hX1, hX2, htk, c3, hle, hub];exact .r _))
        simp [xUnf, unfQ, hS, hE, h4, h7, h8, h15, h16, hb1, hb5, hn, hX, ap56_, wr57_, hX, ap58_, ap59_, ne60_, ne61_, ne62_, ne63_, ne64_, ne65_, ne66_, ne67_, ne68_, ne69_, ne70_, ne71_, ne72_, ne73_, ne74_, ne75_, ne76_, ne77_, hX, hX1, hX2]
end Go.Proofs.Ytlehbgapjibeeaa.V

