/- Several texts in one: what the claim needs of them. Conditions: each declaration's own. -/
import Derived.Test.YtmfifjbbjjdacaaGreatZDltM7
import Derived.Test.YtmfifjbbjjdacaaGreatZDltM6
namespace Go.Proofs.YtmfifjbbjjdacaaGreat.V
open Go Go.Proofs
set_option linter.unusedVariables false
set_option linter.unusedSimpArgs false
/-- Over the caller's store: a call that answers a slice that it made. -/
theorem callV_new {M : Nat → Bool} {X : Ora} {σ σ1 σ' : Sto} {f o' v st sz : Nat} {rows : List (List T)} {args : List AV} (hM : M f = true) (H : X f args σ = some (.ref o' v [], σ1)) (ho' : σ.n ≤ o') (hob : σ1.ob o' = .arr (.own 0) st sz rows) (hv : rows.length = v) (hn : σ.n < σ1.n) (hn' : σ'.n = σ.n)
    (h1 : ∀ x, x < σ.n → σ1.ob x = σ'.ob x) (hcl : ∀ x, x < σ.n → (σ'.ob x).clean σ.n = true) (hdd : ∀ x, σ.n ≤ x → σ'.ob x = .dead) : callV M X σ f args = some (.ref σ.n v [], σ'.new (.arr (.own 0) 0 sz rows)) := by
  unfold callV
  rw [if_pos hM, H]
  simp only
  rw [if_neg (by omega), if_pos (by rw [List.all_eq_true]; exact fun o ho => by rw [h1 o (List.mem_range.1 ho)]; exact hcl o (List.mem_range.1 ho)), cut_eq hn' h1 hdd]
  simp only [impR, impA, imp1]
  rw [if_neg (by omega), hob]
  simp only
  rw [if_pos ⟨hv, trivial⟩, hn']
  rfl
theorem cv_sortI {σ : Sto} {o st v : Nat} {xs : List Row} (hob : σ.ob o = .arr (.own 0) st 1 (rowsE xs)) (hv : v = xs.length) (hlen : xs.length < 4611686018427387904) (h : ∀ x ∈ xs, Sm x) :
    callV Ms XX σ 266 [.ref o v [], .clo 201 []] = some (.tup [], σ.set o (.arr (.own 0) (st + 1) 1 (rowsE (srt cmpI xs)))) :=
  callV_d (by rfl) ((R_giv (drawV_go) (by rfl) _ _).trans (sortG_eq (α := List Int) hob hv hlen ⟨h, fun a b _ _ h1 h2 => antiL a b h1 h2⟩)) rfl
theorem runsF_nil (t : Row) : runsF [] t = [⟨t, 1⟩] := rfl
theorem runsF_snoc (R : List Cnt) (c : Cnt) (t : Row) : runsF (R ++ [c]) t = if c.tuple = t then R ++ [⟨t, c.count + 1⟩] else (R ++ [c]) ++ [⟨t, 1⟩] := by
  unfold runsF
  rw [List.getLast?_append]
  simp
theorem runs_take (L : List Row) (i : Nat) (h : i < L.length) : runs (L.take (i + 1)) = runsF (runs (L.take i)) L[i] := by
  rw [List.take_succ_eq_append_getElem h]; unfold runs; rw [List.foldl_append]; rfl
theorem runs_bd (L : List Row) (i : Nat) (hi : i ≤ L.length) : (runs (L.take i)).length ≤ i ∧ ∀ c ∈ runs (L.take i), 1 ≤ c.count ∧ c.count ≤ i ∧ c.tuple ∈ L := by
  induction i with
  | zero => simp [runs]
  | succ i ih =>
    obtain ⟨h1, h2⟩ := ih (by omega)
    rw [runs_take L i (by omega)]
    rcases List.eq_nil_or_concat (runs (L.take i)) with e | ⟨R, c, e⟩
    · rw [e, runsF_nil]
      refine ⟨by simp, fun x hx => ?_⟩
      simp only [List.mem_cons, List.not_mem_nil, or_false] at hx
      subst hx
      exact ⟨by simp, by simp; omega, List.getElem_mem _⟩
    · rw [List.concat_eq_append] at e
      rw [e] at h1 h2 ⊢
      rw [runsF_snoc]
      split
      · rename_i he
        refine ⟨by simp at h1 ⊢; omega, fun x hx => ?_⟩
        rcases List.mem_append.1 hx with hx | hx
        · have := h2 x (List.mem_append.2 (.inl hx)); exact ⟨this.1, by omega, this.2.2⟩
        · simp only [List.mem_cons, List.not_mem_nil, or_false] at hx
          subst hx
          have := h2 c (by simp)
          exact ⟨by simp; omega, by simp; omega, List.getElem_mem _⟩
      · refine ⟨by simp at h1 ⊢; omega, fun x hx => ?_⟩
        rcases List.mem_append.1 hx with hx | hx
        · have := h2 x hx; exact ⟨this.1, by omega, this.2.2⟩
        · simp only [List.mem_cons, List.not_mem_nil, or_false] at hx
          subst hx
          exact ⟨by simp, by simp; omega, List.getElem_mem _⟩
theorem counted_c (σ0 : Sto) (o st : Nat) (l : List Row) (hob : σ0.ob o = .arr (.own 0) st 1 (rowsE l)) (hon : o < σ0.n) (hl : l.length < 1099511627775) (hs : ∀ x ∈ l, Sm x) (hcl : ∀ x, x < σ0.n → (σ0.ob x).clean σ0.n = true) (hdd : ∀ x, σ0.n ≤ x → σ0.ob x = .dead) :
    ∃ y, callV Ms XX σ0 185 [.ref o l.length []] = some (.ref σ0.n (runs (srt cmpI l)).length [], (⟨σ0.n, upd σ0.ob o y⟩ : Sto).new (.arr (.own 0) 0 2 (rowsE (runs (srt cmpI l))))) := by
  have key : ∃ r σ1, XX 185 [.ref o l.length []] σ0 = some (r, σ1) ∧ (r = .ref σ0.n (runs (srt cmpI l)).length [] ∧ σ0.n < σ1.n ∧ σ1.ob σ0.n = .arr (.own 0) 0 2 (rowsE (runs (srt cmpI l))) ∧ (∃ k, σ1.ob o = .arr (.own k) (st + 1) 1 (rowsE (srt cmpI l))) ∧ ∀ x, x < σ0.n → x ≠ o → σ1.ob x = σ0.ob x) := by
    refine W_fn rfl Tryz.func185 rfl rfl (by simp [Tryz.f185]) ?_
    simp only [Tryz.f185]
    have z1 : ¬ (o = σ0.n) := by omega
    have hso := cv_sortI (σ := ⟨σ0.n + 1, upd σ0.ob σ0.n (.arr (.own 0) 0 2 [])⟩) (o := o) (st := st) (v := l.length) (xs := l) (by simp [upd_app, z1]; exact hob) rfl (by omega) hs
    simp only [Sto.set] at hso
    have hll : (srt cmpI l).length = l.length := srt_perm.length_eq
    repeat' first|refine W_seq ?_|refine W_block ?_|refine W_skip ?_|refine W_ret ?_|refine W_exit ?_|refine xb_hit ?_|refine xb_miss (by decide) ?_|(apply W_reg;(simp [hso, hll];exact .r _))
    generalize hL : srt cmpI l = L at hll
    have hsL : ∀ x ∈ L, Sm x := fun x hx => hs x (by rw [← hL] at hx; exact srt_perm.mem_iff.1 hx)
    refine W_loop (n := L.length) (fun n s => ∃ i : Nat, ∃ k : Nat, ∃ R : List Cnt, n = L.length - i ∧ s.nt = 46 ∧ s.tm 3 = .ref σ0.n R.length [] ∧ s.tm 10 = .ref o l.length [] ∧ s.tm 11 = In l.length ∧ s.tm 12 = In i ∧ i ≤ L.length ∧ k ≤ i ∧ σ0.n < s.σ.n ∧ s.σ.ob o = .arr (.own k) (st + 1) 1 (rowsE L) ∧ s.σ.ob σ0.n = .arr (.own 0) 0 2 (rowsE R) ∧ (∀ x, x < σ0.n → x ≠ o → s.σ.ob x = σ0.ob x) ∧ R = runs (L.take i)) ⟨0, 0, [], by simp [z1, hL, hll, runs]; exact ⟨by omega, fun x h1 h2 => by rw [if_neg h2, if_neg (by omega)]⟩⟩ ?_
    rintro n ⟨nt, tm, σ⟩ ⟨i, k, R, rfl, hnt, h3, h10, h11, h12, hi, hk, hnn, hoo, haa, hfr, hR⟩
    simp only at hnt h3 h10 h11 h12 hnn hoo haa hfr
    subst hnt
    have n0 : ¬ (σ0.n = σ.n) := by omega
    have n0' : ¬ (σ.n = σ0.n) := by omega
    have n1 : ¬ (o = σ.n) := by omega
    have n1' : ¬ (σ.n = o) := by omega
    have n2 : ¬ (o = σ0.n) := by omega
    have n2' : ¬ (σ0.n = o) := by omega
    have hrl : (rowsE L).length = l.length := by rw [rowsE_len, hll]
    repeat' first|refine W_seq ?_|refine W_block ?_|refine W_skip ?_|refine W_ret ?_|refine W_exit ?_|refine xb_hit ?_|refine xb_miss (by decide) ?_|(apply W_reg;(simp [h3, h10, h11, h12, hoo, haa];exact .r _))
    refine W_cond (by simp [h3, h10, h11, h12, hoo, haa]; exact .r _) (fun hc => ?_) (fun hc => ?_)
    · have hil : i < L.length := by rw [hll]; simpa using hc
      have hbd := runs_bd L i (by omega)
      rw [← hR] at hbd
      have hst := runs_take L i hil
      rw [← hR] at hst
      have hg : (rowsE L)[i]? = some [.sl (rowsE L[i])] := by simp [rowsE, hil]
      rcases List.eq_nil_or_concat R with e | ⟨R', c, e⟩
      · subst e
        rw [runsF_nil] at hst
        repeat' first|refine W_seq ?_|refine W_block ?_|refine W_skip ?_|refine W_ret ?_|refine W_exit ?_|refine xb_hit ?_|refine xb_miss (by decide) ?_|(apply W_reg;(simp [h3, h10, h11, h12, hoo, haa, hrl, hg, hk, n0, n0', n1, n1', n2, n2'];exact .r _))
        refine W_cond (by simp [h3, h10, h11, h12, hoo, haa]; exact .r _) (fun hd => ?_) (fun hd => ?_)
        · cases hd
        repeat' first|refine W_seq ?_|refine W_block ?_|refine W_skip ?_|refine W_ret ?_|refine W_exit ?_|refine xb_hit ?_|refine xb_miss (by decide) ?_|(apply W_reg;(simp [h3, h10, h11, h12, hoo, haa, hrl, hg, hk, hil, n0, n0', n1, n1', n2, n2'];exact .r _))
        refine ⟨_, ?_, i + 1, i + 1, [⟨L[i], 1⟩], rfl, rfl, ?_, ?_, ?_, ?_, by omega, by omega, (by simp; omega), by (simp [n1, n2, n2', hoo]), by (simp [n0, n2, n2', rowsE]), (fun x hx1 hx2 => by simp [upd_app, show ¬ x = σ.n by omega, show ¬ x = σ0.n by omega, hx2, hfr x hx1 hx2]), hst.symm⟩
        all_goals first|assumption|(simp [h3, h10, h11, h12, hoo, haa, n0, n1, n2, n2'];done)|(simp [h3, h10, h11, h12, hoo, haa, n0, n1, n2, n2'];omega)|(simp [h3, h10, h11, h12, hoo, haa, n0, n1, n2, n2'];exact wrap_succ (by omega))|omega
      · rw [List.concat_eq_append] at e
        subst e
        rw [runsF_snoc] at hst
        obtain ⟨hb1, hb2⟩ := hbd
        have hcb := hb2 c (by simp)
        have hlen : (R' ++ [c]).length = R'.length + 1 := by simp
        have hgc : (rowsE (R' ++ [c]))[R'.length]? = some [.sl (rowsE c.tuple), .i .i64 c.count] := by simp [rowsE]
        have hw1 : IntKind.i64.wrap (R'.length : Int) = (R'.length : Int) := wrap_ok (by simp at hb1; omega) (by simp at hb1; omega)
        have hw2 : IntKind.i64.wrap (c.count + 1) = c.count + 1 := wrap_ok (by omega) (by omega)
        have hp : (0 : Int) < (R'.length : Int) + 1 := by omega
        have c1 := cv (eqInts_r c.tuple L[i] (hsL _ hcb.2.2))
        repeat' first|refine W_seq ?_|refine W_block ?_|refine W_skip ?_|refine W_ret ?_|refine W_exit ?_|refine xb_hit ?_|refine xb_miss (by decide) ?_|(apply W_reg;(simp [h3, h10, h11, h12, hoo, haa, hrl, hg, hk, hgc, hw1, hp, c1, hlen, n0, n0', n1, n1', n2, n2'];exact .r _))
        have hil' : i < l.length := by omega
        refine W_cond (by simp [h3, h10, h11, h12, hoo, haa]; exact .r _) (fun hd => ?_) (fun hd => ?_)
        · have he : c.tuple = L[i] := by simpa using hd
          rw [if_pos he] at hst
          repeat' first|refine W_seq ?_|refine W_block ?_|refine W_skip ?_|refine W_ret ?_|refine W_exit ?_|refine xb_hit ?_|refine xb_miss (by decide) ?_|(apply W_reg;(simp [h3, h10, h11, h12, hoo, haa, hrl, hg, hk, hgc, hw1, hw2, hp, hlen, n0, n0', n1, n1', n2, n2'];exact .r _))
          have hset : rowsE (R' ++ [⟨L[i], c.count + 1⟩]) = (rowsE (R' ++ [c])).set R'.length [.sl (rowsE c.tuple), .i .i64 (c.count + 1)] := by
            rw [← he]; simp [rowsE]
          refine ⟨_, ?_, i + 1, k, R' ++ [⟨L[i], c.count + 1⟩], rfl, rfl, (by simp [h3]), ?_, ?_, ?_, by omega, by omega, ?_, (by simp [n2, n2', hoo]), (by rw [hset]; simp [rowsE]), (fun x hx1 hx2 => by simp [upd_app, show ¬ x = σ.n by omega, show ¬ x = σ0.n by omega, hx2, hfr x hx1 hx2]), hst.symm⟩
          all_goals first|assumption|(simp [h3, h10, h11, h12, hoo, haa, n0, n1, n2, n2'];done)|(simp [h3, h10, h11, h12, hoo, haa, n0, n1, n2, n2'];omega)|(simp [h3, h10, h11, h12, hoo, haa, n0, n1, n2, n2'];exact wrap_succ (by omega))|omega
        · have he : ¬ c.tuple = L[i] := by simpa using hd
          rw [if_neg he] at hst
          repeat' first|refine W_seq ?_|refine W_block ?_|refine W_skip ?_|refine W_ret ?_|refine W_exit ?_|refine xb_hit ?_|refine xb_miss (by decide) ?_|(apply W_reg;(simp [h3, h10, h11, h12, hoo, haa, hrl, hg, hk, hil, hil', hlen, n0, n0', n1, n1', n2, n2', show R'.length + 1 + 1 < 1099511627776 by simp at hb1; omega];exact .r _))
          refine ⟨_, ?_, i + 1, i + 1, (R' ++ [c]) ++ [⟨L[i], 1⟩], rfl, rfl, ?_, ?_, ?_, ?_, by omega, by omega, (by simp; omega), (by simp [n1, n2, n2', hoo]), (by simp [n0, n2, n2', rowsE]), (fun x hx1 hx2 => by simp [upd_app, show ¬ x = σ.n by omega, show ¬ x = σ0.n by omega, hx2, hfr x hx1 hx2]), hst.symm⟩
          all_goals first|assumption|(simp [h3, h10, h11, h12, hoo, haa, n0, n1, n2, n2'];done)|(simp [h3, h10, h11, h12, hoo, haa, n0, n1, n2, n2'];omega)|(simp [h3, h10, h11, h12, hoo, haa, n0, n1, n2, n2'];exact wrap_succ (by omega))|omega
    · have hil : i = L.length := by rw [hll]; simp at hc; omega
      subst hil
      rw [List.take_length] at hR
      subst hR
      repeat' first|refine W_seq ?_|refine W_block ?_|refine W_skip ?_|refine W_ret ?_|refine W_exit ?_|refine xb_hit ?_|refine xb_miss (by decide) ?_|(apply W_reg;(simp [h3, h10, h11, h12, hoo, haa];exact .r _))
      exact ⟨_, rfl, rfl, hnn, haa, ⟨k, hoo⟩, hfr⟩
  obtain ⟨r, σ1, h1, rfl, h3, h4, ⟨k, h5⟩, h6⟩ := key
  refine ⟨.arr (.own k) (st + 1) 1 (rowsE (srt cmpI l)), ?_⟩
  refine callV_new (σ1 := σ1) (by rfl) h1 (Nat.le_refl _) h4 (by simp) h3 rfl (fun x hx => ?_) (fun x hx => ?_) (fun x hx => ?_)
  · simp only [upd_app]
    split
    · rename_i e; subst e; exact h5
    · rename_i e; exact h6 x hx e
  · simp only [upd_app]
    split
    · rfl
    · exact hcl x hx
  · simp only [upd_app]
    rw [if_neg (by omega)]; exact hdd x hx
theorem binds_le (db : List RA) : ∀ (body : List RA) (b : Bnd), (binds db body b).length ≤ db.length ^ body.length
  | [], b => by simp [binds]
  | a :: body, b => by
    have h : ∀ l : List RA, (l.flatMap fun f => match mtchA a f b with | some b' => binds db body b' | none => []).length ≤ l.length * db.length ^ body.length := by
      intro l
      induction l with
      | nil => simp
      | cons f l ih =>
        rw [List.flatMap_cons, List.length_append, List.length_cons, Nat.add_mul, Nat.one_mul, Nat.add_comm]
        refine Nat.add_le_add ih ?_
        cases mtchA a f b with
        | none => simp
        | some b' => exact binds_le db body b'
    have := h db
    rw [List.length_cons, Nat.pow_succ, Nat.mul_comm]
    exact this
theorem zeros_b0 : ([AV.t (T.i IntKind.i64 0), AV.t (T.i IntKind.i64 0), AV.t (T.i IntKind.i64 0), AV.t (T.i IntKind.i64 0), AV.t (T.i IntKind.i64 0), AV.t (T.i IntKind.i64 0), AV.t (T.i IntKind.i64 0), AV.t (T.i IntKind.i64 0), AV.t (T.i IntKind.i64 0), AV.t (T.i IntKind.i64 0), AV.t (T.i IntKind.i64 0), AV.t (T.i IntKind.i64 0), AV.t (T.i IntKind.i64 0), AV.t (T.i IntKind.i64 0), AV.t (T.i IntKind.i64 0), AV.t (T.i IntKind.i64 0), AV.t (T.i IntKind.i64 0), AV.t (T.i IntKind.i64 0), AV.t (T.i IntKind.i64 0), AV.t (T.i IntKind.i64 0), AV.t (T.b false), AV.t (T.b false), AV.t (T.b false), AV.t (T.b false), AV.t (T.b false), AV.t (T.b false), AV.t (T.b false), AV.t (T.b false), AV.t (T.b false), AV.t (T.b false), AV.t (T.b false), AV.t (T.b false), AV.t (T.b false), AV.t (T.b false), AV.t (T.b false), AV.t (T.b false), AV.t (T.b false), AV.t (T.b false), AV.t (T.b false), AV.t (T.b false)] : List AV) = cB b0 := rfl
/-- How often each row comes by a binding that uses the fact. -/
def deltaC (c : Sch) (q : Qry) (db : List RA) (fc : RA) : List Cnt := if isQry c q && isDb c db then runs (srt cmpI ((binds db q.body b0).flatMap (takeD q fc))) else []
theorem implDelta_r (c : Sch) (q : Qry) (db : List RA) (fc : RA) (hc : Lw.bd 1048576 c) (hq : Lw.bd 1048576 q) (hd : Lw.bd 1048576 db) : Ret XX 51 [Ag c, Ag q, Ar db, Ag fc] (.own 2 (rowsE (deltaC c q db fc))) := by
  refine ret_W rfl Tryz.func51 rfl rfl (by simp [Tryz.f51]) ?_
  simp only [Tryz.f51]
  have sc : Sm c.arity := Nat.lt_of_le_of_lt hc.1 (by omega)
  have sh : Sm q.head := Nat.lt_of_le_of_lt hq.1.1 (by omega)
  have sb : Sm q.body := Nat.lt_of_le_of_lt hq.2.1 (by omega)
  have sba : ∀ a ∈ q.body, Sm a.args := fun a ha => Nat.lt_of_le_of_lt (hq.2.2 a ha).1 (by omega)
  have sd : Sm db := Nat.lt_of_le_of_lt hd.1 (by omega)
  have sda : ∀ a ∈ db, Sm a.args := fun a ha => Nat.lt_of_le_of_lt (hd.2 a ha).1 (by omega)
  have c1 := cv (implIsQuery_r c q sc sh sb sba)
  have c2 := cv (implIsDb_r c db sc sd sda)
  simp only [Ag, cells_Sch, cells_Q, List.map_cons, List.map_nil] at c1 c2
  cases e1 : isQry c q
  · repeat' first|refine W_seq ?_|refine W_block ?_|refine W_skip ?_|refine W_ret ?_|refine W_exit ?_|refine xb_hit ?_|refine xb_miss (by decide) ?_|(apply W_reg;(simp [Ag, c1, e1];exact .r _))
    refine W_cond (by simp; exact .r _) (fun hc => ?_) (fun hc => ?_)
    · repeat' first|refine W_seq ?_|refine W_block ?_|refine W_skip ?_|refine W_ret ?_|refine W_exit ?_|refine xb_hit ?_|refine xb_miss (by decide) ?_|(apply W_reg;(simp;exact .r _))
      simp [deltaC, e1]
    · cases hc
  cases e2 : isDb c db
  · repeat' first|refine W_seq ?_|refine W_block ?_|refine W_skip ?_|refine W_ret ?_|refine W_exit ?_|refine xb_hit ?_|refine xb_miss (by decide) ?_|(apply W_reg;(simp [Ag, c1, e1, c2, e2];exact .r _))
    refine W_cond (by simp; exact .r _) (fun hc => ?_) (fun hc => ?_)
    · repeat' first|refine W_seq ?_|refine W_block ?_|refine W_skip ?_|refine W_ret ?_|refine W_exit ?_|refine xb_hit ?_|refine xb_miss (by decide) ?_|(apply W_reg;(simp;exact .r _))
      simp [deltaC, e2]
    · cases hc
  repeat' first|refine W_seq ?_|refine W_block ?_|refine W_skip ?_|refine W_ret ?_|refine W_exit ?_|refine xb_hit ?_|refine xb_miss (by decide) ?_|(apply W_reg;(simp [Ag, c1, e1, c2, e2];exact .r _))
  refine W_cond (by simp; exact .r _) (fun hc => ?_) (fun hc => ?_)
  · cases hc
  have hqs := isQry_small e1
  have hdl : db.length ≤ 24 := by simp [isDb] at e2; omega
  have hbn := binds_le db q.body b0
  have hpow : db.length ^ q.body.length ≤ 24 ^ 4 := Nat.le_trans (Nat.pow_le_pow_left hdl _) (Nat.pow_le_pow_right (by omega) hqs.2.1)
  have hp4 : (24 : Nat) ^ 4 = 331776 := by decide
  repeat' first|refine W_seq ?_|refine W_block ?_|refine W_skip ?_|refine W_ret ?_|refine W_exit ?_|refine xb_hit ?_|refine xb_miss (by decide) ?_|(apply W_reg;(simp;exact .r _))
  refine W_gen (fun s2 => Ok 4 3 [(1, .box [Ar q.head, Ar q.body]), (2, .box [In fc.rel, Ar fc.args])] s2 [] ∧ s2.n = 5 ∧ s2.ob 1 = .box [Ar q.head, Ar q.body]) ?_ (fun s2 hq2 => ?_)
  · refine ⟨⟨by simp [upd_app], by simp [upd_app], by simp, by simp, by omega, fun x hx => ?_, fun x hx => ?_, fun x hx => ?_⟩, rfl, by simp [upd_app]⟩
    · simp only [List.mem_cons, List.not_mem_nil, or_false] at hx
      rcases hx with rfl | rfl <;> simp [upd_app]
    · have hx : x < 5 := hx
      rcases (by omega : x = 0 ∨ x = 1 ∨ x = 2 ∨ x = 3 ∨ x = 4) with rfl | rfl | rfl | rfl | rfl <;> simp [upd_app, VO.clean, cleanA, clean1]
    · have hx : 5 ≤ x := hx
      simp [upd_app, show ¬ x = 0 by omega, show ¬ x = 1 by omega, show ¬ x = 2 by omega, show ¬ x = 3 by omega, show ¬ x = 4 by omega]
  obtain ⟨hok, hn5, hq1⟩ := hq2
  have hcall := visit_c (takeD_ok q fc sh sb sba) (takeD_len q fc) (by omega) (fun a ha => ⟨by have := (hqs.2.2.2 a ha).1; omega, fun t ht => isTerm_iff.2 ((hqs.2.2.2 a ha).2 t ht)⟩) sd (fun a ha => by have := sda a ha; omega) _ 0 b0 s2 [] rfl (Nat.zero_le _) rfl hok (by simp; omega)
  simp only [List.drop_zero, List.nil_append, Int.natCast_zero] at hcall
  have hzz := zeros_b0
  repeat' first|refine W_seq ?_|refine W_block ?_|refine W_skip ?_|refine W_ret ?_|refine W_exit ?_|refine xb_hit ?_|refine xb_miss (by decide) ?_|(apply W_reg;(simp [hq1, hzz, hcall];exact .r _))
  generalize hA : (binds db q.body b0).flatMap (takeD q fc) = accF at *
  have hst := hok.st accF
  have hlen : accF.length ≤ 331776 := by
    have := flatMap_len (takeD_len q fc) (binds db q.body b0)
    rw [hA] at this; omega
  have hsm : ∀ x ∈ accF, Sm x := fun x hx => by
    rw [← hA] at hx
    obtain ⟨b, _, hb2⟩ := List.mem_flatMap.1 hx
    unfold takeD at hb2
    split at hb2
    · simp only [List.mem_cons, List.not_mem_nil, or_false] at hb2
      subst hb2
      simpa [Sm] using sh
    · cases hb2
  obtain ⟨y, hy⟩ := counted_c (St 4 3 s2 accF) 3 0 accF hst.ho hst.on (by omega) hsm hst.cl hst.dd
  have hp4' : (St 4 3 s2 accF).ob 4 = .box [.ref 3 accF.length []] := hst.hp
  repeat' first|refine W_seq ?_|refine W_block ?_|refine W_skip ?_|refine W_ret ?_|refine W_exit ?_|refine xb_hit ?_|refine xb_miss (by decide) ?_|(apply W_reg;(simp [hp4', hy];exact .r _))
  simp [deltaC, e1, e2, hA]
end Go.Proofs.YtmfifjbbjjdacaaGreat.V

namespace Go.Proofs.YtmfifjbbjjdacaaGreat.V
open Go Go.Proofs
set_option linter.unusedVariables false
set_option linter.unusedSimpArgs false
/-- The reference's binding: the values, then 1 for each that is bound. -/
def bL (b : Bnd) : List Int := encB b ++ b.map fun o => if o.isSome then 1 else 0
theorem encB_len (b : Bnd) : (encB b).length = b.length := by simp [encB]
theorem bL_len {b : Bnd} (h : b.length = 20) : (bL b).length = 40 := by simp [bL, encB_len, h]
theorem rowE_get {l : List Int} {n : Nat} {x : Int} (h : l[n]? = some x) : (rowsE l)[n]? = some [T.i .i64 x] := by rw [rowsE, List.getElem?_map, h]; rfl
theorem bL_val {b : Bnd} {n : Nat} (h : n < b.length) : (bL b)[n]? = some ((b[n]).getD (-1)) := by
  rw [bL, List.getElem?_append_left (by rw [encB_len]; exact h), encB, List.getElem?_map, List.getElem?_eq_getElem h]; rfl
theorem bL_flag {b : Bnd} {n : Nat} (h : n < b.length) (hb : b.length = 20) : (bL b)[20 + n]? = some (if (b[n]).isSome then 1 else 0) := by
  rw [bL, List.getElem?_append_right (by rw [encB_len]; omega), encB_len, hb, Nat.add_sub_cancel_left, List.getElem?_map, List.getElem?_eq_getElem h]; rfl
theorem bL_set {b : Bnd} {n : Nat} {v : Int} (h : n < b.length) (hb : b.length = 20) : ((bL b).set n v).set (20 + n) 1 = bL (b.set n (some v)) := by
  unfold bL
  rw [List.set_append_left _ _ (by rw [encB_len]; exact h), List.set_append_right _ _ (by simp [encB_len]; omega)]
  have e : 20 + n - ((encB b).set n v).length = n := by simp [encB_len]; omega
  rw [e]
  congr 1
  · simp only [encB, List.map_set]; rfl
  · simp only [List.map_set]; rfl
theorem l6Bind_r (b : Bnd) (hb : b.length = 20) (ts vs : List Int) (hl : ts.length = vs.length) (hs : Sm ts) (ht : ∀ t ∈ ts, isTerm t = true) : ∃ b', b'.length = 20 ∧ (∀ c, mtch ts vs b = some c → b' = c) ∧
    Ret XX 355 [Ar ts, Ar vs, Ar (bL b)] (.tup [.own 1 (rowsE (bL b')), .t (.b (mtch ts vs b).isSome) false]) := by
  have hlen2 : ∀ (ts vs : List Int) (b : Bnd), (mtch2 ts vs b).1.length = b.length := by
    intro ts
    induction ts with
    | nil => intro vs b; cases vs <;> rfl
    | cons t ts ih =>
      intro vs b
      cases vs with
      | nil => rfl
      | cons v vs =>
        unfold mtch2
        split
        · rw [ih]; simp
        · split
          · exact ih vs b
          · rfl
  have hfl : (mtch ts vs b).isSome = (mtch2 ts vs b).2 := by rw [mtch2_eq _ _ _ ht]; cases (mtch2 ts vs b).2 <;> rfl
  refine ⟨(mtch2 ts vs b).1, by rw [hlen2]; exact hb, fun c h => ?_, ?_⟩
  · rw [mtch2_eq _ _ _ ht] at h
    split at h
    · exact Option.some.inj h
    · cases h
  rw [hfl]
  refine ret_W rfl Tryz.func355 rfl rfl (by simp [Tryz.f355]) ?_
  simp only [Tryz.f355]
  have h40 := bL_len hb
  repeat' first|refine W_seq ?_|refine W_block ?_|refine W_skip ?_|refine W_ret ?_|refine W_exit ?_|refine xb_hit ?_|refine xb_miss (by decide) ?_|(apply W_reg;(simp [h40];exact .r _))
  refine W_loop (n := ts.length) (fun n s => ∃ i : Nat, ∃ c : Bnd, n = ts.length - i ∧ s.nt = 65 ∧ s.tm 0 = Ar ts ∧ s.tm 1 = Ar vs ∧ s.tm 8 = .ref 0 40 [] ∧ s.tm 9 = In i ∧ i ≤ ts.length ∧ c.length = 20 ∧ s.σ.ob 0 = .arr (.own 0) 0 1 (rowsE (bL c)) ∧ mtch2 ts vs b = mtch2 (ts.drop i) (vs.drop i) c) ⟨0, b, by simp [hb, h40]⟩ ?_
  rintro n ⟨nt, tm, σ⟩ ⟨i, c, rfl, hnt, h0, h1, h8, h9, hi, hcl, ho, heq⟩
  simp only at hnt h0 h1 h8 h9 ho
  subst hnt
  repeat' first|refine W_seq ?_|refine W_block ?_|refine W_skip ?_|refine W_ret ?_|refine W_exit ?_|refine xb_hit ?_|refine xb_miss (by decide) ?_|(apply W_reg;(simp [h0, h1, h8, h9, ho];exact .r _))
  have k40 := bL_len hcl
  refine W_cond (by simp [h0, h1, h8, h9, ho]; exact .r _) (fun hc => ?_) (fun hc => ?_)
  · have hil : i < ts.length := by simpa using hc
    have hvl : i < vs.length := by omega
    have hti := ht _ (List.getElem_mem hil)
    have htr := isTerm_iff.1 hti
    rw [List.drop_eq_getElem_cons hil, List.drop_eq_getElem_cons hvl, mtch2, valI_eq hti] at heq
    repeat' first|refine W_seq ?_|refine W_block ?_|refine W_skip ?_|refine W_ret ?_|refine W_exit ?_|refine xb_hit ?_|refine xb_miss (by decide) ?_|(apply W_reg;(simp [h0, h1, h8, h9, ho, hil];exact .r _))
    refine W_cond (by simp [h0, h1, h8, h9, ho]; exact .r _) (fun hd => ?_) (fun hd => ?_)
    · have h0 : ts[i] < 0 := by simpa using hd
      have hw : IntKind.i64.wrap (-1 - ts[i]) = -1 - ts[i] := wrap_ok (by omega) (by omega)
      have hnv : isVar ts[i] = false := by
        cases hv : isVar ts[i] with
        | false => rfl
        | true => have := (isVar_iff.1 hv).1; omega
      rw [hnv, Bool.false_and, if_neg (by simp), valB, if_pos h0] at heq
      repeat' first|refine W_seq ?_|refine W_block ?_|refine W_skip ?_|refine W_ret ?_|refine W_exit ?_|refine xb_hit ?_|refine xb_miss (by decide) ?_|(apply W_reg;(simp [h0, h1, h8, h9, ho, hil, hvl, hw];exact .r _))
      refine W_cond (by simp [h0, h1, h8, h9, ho]; exact .r _) (fun he => ?_) (fun he => ?_)
      · have hne : ¬ -1 - ts[i] = vs[i] := by simpa using he
        rw [if_neg hne] at heq
        repeat' first|refine W_seq ?_|refine W_block ?_|refine W_skip ?_|refine W_ret ?_|refine W_exit ?_|refine xb_hit ?_|refine xb_miss (by decide) ?_|(apply W_reg;(simp [h0, h1, h8, h9, ho];exact .r _))
        simp [heq, ho, k40]
      · have hne : -1 - ts[i] = vs[i] := by simpa using he
        rw [if_pos hne] at heq
        repeat' first|refine W_seq ?_|refine W_block ?_|refine W_skip ?_|refine W_ret ?_|refine W_exit ?_|refine xb_hit ?_|refine xb_miss (by decide) ?_|(apply W_reg;(simp [h0, h1, h8, h9, ho];exact .r _))
        refine ⟨_, ?_, i + 1, c, rfl, rfl, ?_, ?_, ?_, ?_, by omega, hcl, ?_, heq⟩
        all_goals first|assumption|(simp [h0, h1, h8, h9, ho];done)|(simp [h0, h1, h8, h9, ho];omega)|(simp [h0, h1, h8, h9, ho];exact wrap_succ (by omega))|omega
    · have h0 : 0 ≤ ts[i] := by simp at hd; omega
      have hv : isVar ts[i] = true := isVar_iff.2 ⟨h0, htr.2⟩
      have htl : ts[i].toNat < c.length := by omega
      have hgb := getB_lt htl
      have hw : IntKind.i64.wrap (20 + ts[i]) = 20 + ts[i] := wrap_ok (by omega) (by omega)
      have h20 : (0 : Int) ≤ 20 + ts[i] := by omega
      have h20n : (20 + ts[i]).toNat = 20 + ts[i].toNat := by omega
      have g1 := rowE_get (bL_flag htl hcl)
      have g2 := rowE_get (bL_val htl)
      have hvb : valB c ts[i] = (getB c ts[i]).getD 0 := by unfold valB; rw [if_neg (by omega)]
      rw [hv, Bool.true_and, hvb, hgb] at heq
      cases e : c[ts[i].toNat] with
      | none =>
        rw [e] at g1 heq
        simp only [Option.isSome_none, Bool.false_eq_true, if_false] at g1
        simp only [Option.isSome_none, Bool.not_false, if_true] at heq
        repeat' first|refine W_seq ?_|refine W_block ?_|refine W_skip ?_|refine W_ret ?_|refine W_exit ?_|refine xb_hit ?_|refine xb_miss (by decide) ?_|(apply W_reg;(simp [h0, h1, h8, h9, ho, hil, hw, h20, h20n, k40, g1];exact .r _))
        refine W_cond (by simp [h0, h1, h8, h9, ho]; exact .r _) (fun he => ?_) (fun he => ?_)
        · have hset := bL_set (v := vs[i]) htl hcl
          have hs1 : ((rowsE (bL c)).set ts[i].toNat [T.i .i64 vs[i]])[20 + ts[i].toNat]? = some [T.i .i64 0] := by rw [List.getElem?_set_ne (by omega)]; exact g1
          repeat' first|refine W_seq ?_|refine W_block ?_|refine W_skip ?_|refine W_ret ?_|refine W_exit ?_|refine xb_hit ?_|refine xb_miss (by decide) ?_|(apply W_reg;(simp [h0, h1, h8, h9, ho, hil, hvl, h0, hw, h20, h20n, k40, g2, hs1];exact .r _))
          refine ⟨_, ?_, i + 1, c.set ts[i].toNat (some vs[i]), rfl, rfl, ?_, ?_, ?_, ?_, by omega, by simpa using hcl, (by simp; rw [← hset, rowsE_set, rowsE_set]; rfl), heq⟩
          all_goals first|assumption|(simp [h0, h1, h8, h9, ho];done)|(simp [h0, h1, h8, h9, ho];omega)|(simp [h0, h1, h8, h9, ho];exact wrap_succ (by omega))|omega
        · cases he
      | some x =>
        rw [e] at g1 g2 heq
        simp only [Option.isSome_some, if_true, Option.getD_some] at g1 g2
        simp only [Option.isSome_some, Bool.not_true, Bool.false_eq_true, if_false, Option.getD_some] at heq
        repeat' first|refine W_seq ?_|refine W_block ?_|refine W_skip ?_|refine W_ret ?_|refine W_exit ?_|refine xb_hit ?_|refine xb_miss (by decide) ?_|(apply W_reg;(simp [h0, h1, h8, h9, ho, hil, hw, h20, h20n, k40, g1];exact .r _))
        refine W_cond (by simp [h0, h1, h8, h9, ho]; exact .r _) (fun he => ?_) (fun he => ?_)
        · cases he
        · repeat' first|refine W_seq ?_|refine W_block ?_|refine W_skip ?_|refine W_ret ?_|refine W_exit ?_|refine xb_hit ?_|refine xb_miss (by decide) ?_|(apply W_reg;(simp [h0, h1, h8, h9, ho, hil, hvl, h0, k40, g2];exact .r _))|(apply W_draw (id := 12) [0,0,3,7,0,0,48,112,255,511] rfl rfl; (· simp; exact .r _); (· simp [h0, h1, h8, h9, ho, hil, hvl, h0, k40, g2]; exact .r _); (· first|trivial|simp))
          refine W_cond (by simp [h0, h1, h8, h9, ho]; exact .r _) (fun hf => ?_) (fun hf => ?_)
          · have hne : ¬ x = vs[i] := by simpa using hf
            rw [if_neg hne] at heq
            repeat' first|refine W_seq ?_|refine W_block ?_|refine W_skip ?_|refine W_ret ?_|refine W_exit ?_|refine xb_hit ?_|refine xb_miss (by decide) ?_|(apply W_reg;(simp [h0, h1, h8, h9, ho];exact .r _))
            simp [heq, ho, k40]
          · have hne : x = vs[i] := by simpa using hf
            rw [if_pos hne] at heq
            repeat' first|refine W_seq ?_|refine W_block ?_|refine W_skip ?_|refine W_ret ?_|refine W_exit ?_|refine xb_hit ?_|refine xb_miss (by decide) ?_|(apply W_reg;(simp [h0, h1, h8, h9, ho];exact .r _))
            refine ⟨_, ?_, i + 1, c, rfl, rfl, ?_, ?_, ?_, ?_, by omega, hcl, ?_, heq⟩
            all_goals first|assumption|(simp [h0, h1, h8, h9, ho];done)|(simp [h0, h1, h8, h9, ho];omega)|(simp [h0, h1, h8, h9, ho];exact wrap_succ (by omega))|omega
  have hil : i = ts.length := by simp at hc; omega
  subst hil
  rw [List.drop_length, hl, List.drop_length] at heq
  have heq2 : mtch2 ts vs b = (c, true) := heq
  repeat' first|refine W_seq ?_|refine W_block ?_|refine W_skip ?_|refine W_ret ?_|refine W_exit ?_|refine xb_hit ?_|refine xb_miss (by decide) ?_|(apply W_reg;(simp [h0, h1, h8, h9, ho];exact .r _))
  simp [heq2, ho, k40]
end Go.Proofs.YtmfifjbbjjdacaaGreat.V

namespace Go.Proofs.YtmfifjbbjjdacaaGreat.V
open Go Go.Proofs
set_option linter.unusedVariables false
set_option linter.unusedSimpArgs false
theorem Ok.put {p o w : Nat} {ks : List (Nat × VO)} {σ : Sto} {acc : List Row} {y : VO} (h : Ok p o ks σ acc) (h1 : w ≠ p) (h2 : w ≠ o) (h3 : ∀ q ∈ ks, q.1 ≠ w) (h4 : y.clean σ.n = true) (h5 : w < σ.n) : Ok p o ks ⟨σ.n, upd σ.ob w y⟩ acc := by
  refine ⟨?_, ?_, h.pn, h.on, h.po, fun q hq => ?_, fun x hx => ?_, fun x hx => ?_⟩
  · simp only [upd_app]; rw [if_neg (fun e => h1 e.symm)]; exact h.hp
  · simp only [upd_app]; rw [if_neg (fun e => h2 e.symm)]; exact h.ho
  · obtain ⟨g1, g2, g3, g4⟩ := h.ks q hq
    exact ⟨by simp only [upd_app]; rw [if_neg (h3 q hq)]; exact g1, g2, g3, g4⟩
  · simp only [upd_app]
    split
    · exact h4
    · exact h.cl x hx
  · have hx : σ.n ≤ x := hx
    simp only [upd_app]; rw [if_neg (by omega)]; exact h.dd x hx
theorem bL_take {b : Bnd} (h : b.length = 20) : (rowsE (bL b)).take 20 = rowsE (encB b) := by
  rw [rowsE, ← List.map_take, bL, List.take_append_of_le_length (by rw [encB_len]; omega), List.take_of_length_le (by rw [encB_len]; omega)]; rfl
theorem search_c {q : Qry} {db : List RA} {p o : Nat} (hbl : q.body.length ≤ 1000) (hbody : ∀ a ∈ q.body, a.args.length ≤ 1000 ∧ ∀ t ∈ a.args, isTerm t = true) (hdl : Sm db) (hdb : ∀ x ∈ db, Sm x.args) :
    ∀ (d i : Nat) (b : Bnd) (σ0 : Sto) (acc0 : List Row) (w : Nat), q.body.length - i = d → i ≤ q.body.length → b.length = 20 → Ok p o [] σ0 acc0 → σ0.ob w = .arr (.own 0) 0 1 (rowsE (bL b)) → w ≠ p → w ≠ o → w < σ0.n → acc0.length + (binds db (q.body.drop i) b).length + 1 < 1099511627776 →
      ∃ m st sz rows, callV Ms XX σ0 313 [Ag q, Ar db, In i, .ref w 40 [], .ptr p 0] = some (.tup [], ⟨σ0.n, upd (St p o σ0 (acc0 ++ (binds db (q.body.drop i) b).map encB)).ob w (.arr m st sz rows)⟩) := by
  intro d
  induction d with
  | zero =>
    intro i b σ0 acc0 w hd hi hb hok hw hwp hwo hwn hN
    have hie : i = q.body.length := by omega
    subst hie
    rw [List.drop_length]
    simp only [binds, List.map_cons, List.map_nil]
    have h40 := bL_len hb
    have htk := bL_take hb
    have hel := encB_len b
    have z1 : ¬ (w = σ0.n) := by omega
    have z2 : ¬ (p = σ0.n) := by have := hok.pn; omega
    have z3 : ¬ (o = σ0.n) := by have := hok.on; omega
    have z1' : ¬ (σ0.n = w) := by omega
    have z2' : ¬ (σ0.n = p) := by omega
    have z3' : ¬ (σ0.n = o) := by omega
    have y1 : ¬ (w = σ0.n + 1) := by omega
    have y2 : ¬ (p = σ0.n + 1) := by have := hok.pn; omega
    have y3 : ¬ (o = σ0.n + 1) := by have := hok.on; omega
    have y1' : ¬ (σ0.n + 1 = w) := by omega
    have y2' : ¬ (σ0.n + 1 = p) := by have := hok.pn; omega
    have y3' : ¬ (σ0.n + 1 = o) := by have := hok.on; omega
    have x1' : ¬ (σ0.n + 2 = w) := by omega
    have x2' : ¬ (σ0.n + 2 = p) := by have := hok.pn; omega
    have x3' : ¬ (σ0.n + 2 = o) := by have := hok.on; omega
    have x1 : ¬ (w = σ0.n + 2) := by omega
    have x2 : ¬ (p = σ0.n + 2) := by have := hok.pn; omega
    have x3 : ¬ (o = σ0.n + 2) := by have := hok.on; omega
    have hwp' : ¬ (p = w) := fun e => hwp e.symm
    have hwo' : ¬ (o = w) := fun e => hwo e.symm
    have hop : ¬ (o = p) := fun e => hok.po e.symm
    have hpo := hok.po
    have hHp := hok.hp
    have hHo := hok.ho
    have key : ∃ r σ1, XX 313 [Ag q, Ar db, In q.body.length, .ref w 40 [], .ptr p 0] σ0 = some (r, σ1) ∧ (r = .tup [] ∧ σ0.n < σ1.n ∧ (∃ m st sz rows, σ1.ob w = .arr m st sz rows) ∧ ∀ x, x < σ0.n → x ≠ w → σ1.ob x = (St p o σ0 (acc0 ++ [encB b])).ob x) := by
      refine W_fn rfl Tryz.func313 rfl rfl (by simp [Tryz.f313]) ?_
      simp only [Tryz.f313]
      repeat' first|refine W_seq ?_|refine W_block ?_|refine W_skip ?_|refine W_ret ?_|refine W_exit ?_|refine xb_hit ?_|refine xb_miss (by decide) ?_|(apply W_reg;(simp [Ag, z1, z2, z3];exact .r _))
      refine W_cond (by simp; exact .r _) (fun hc => ?_) (fun hc => ?_)
      · repeat' first|refine W_seq ?_|refine W_block ?_|refine W_skip ?_|refine W_ret ?_|refine W_exit ?_|refine xb_hit ?_|refine xb_miss (by decide) ?_|(apply W_reg;(simp [hw, hHp, hHo, h40, htk, hel, hb, hwp, hwo, hwp', hwo', hop, hpo, z1, z2, z3, z1', z2', z3', y1, y2, y3, y1', y2', y3', x1, x2, x3, x1', x2', x3', show acc0.length + 1 < 1099511627776 by omega];exact .r _))|(apply W_draw (id := 2) [0,0,2,6,0,0,32,112,240,510,1023,2047] rfl rfl; (· simp; exact .r _); (· simp [hw, hHp, hHo, h40, htk, hel, hb, hwp, hwo, hwp', hwo', hop, hpo, z1, z2, z3, z1', z2', z3', y1, y2, y3, y1', y2', y3', x1, x2, x3, x1', x2', x3', show acc0.length + 1 < 1099511627776 by omega]; exact .r _); (· first|trivial|simp))
        refine ⟨.tup [], rfl, rfl, ?_, ?_, fun x hx hxw => ?_⟩
        · simp
        · simp [upd_app, hwp, hwo, z1, y1, x1]
        · rw [St_ob]
          by_cases e1 : x = o
          · subst e1; simp [upd_app, hpo, hop, hwo', y3, x3, rowsE_append, rowsE]
          · by_cases e2 : x = p
            · subst e2; simp [upd_app, hpo]
            · simp [upd_app, e1, e2, hxw, show ¬ x = σ0.n by omega, show ¬ x = σ0.n + 1 by omega, show ¬ x = σ0.n + 2 by omega, show ¬ x = σ0.n + 3 by omega]
      · simp at hc
    obtain ⟨r, σ1, h1, rfl, h3, ⟨m, st, sz, rows, h4⟩, h5⟩ := key
    have hst := hok.st (acc0 ++ [encB b])
    refine ⟨m, st, sz, rows, callV_cut (by rfl) h1 h3 rfl (fun x hx => ?_) (fun x hx => ?_) (fun x hx => ?_)⟩
    · simp only [upd_app]
      split
      · rename_i e; subst e; exact h4
      · rename_i e; exact h5 x hx e
    · simp only [upd_app]
      split
      · rfl
      · exact hst.cl x hx
    · simp only [upd_app]
      rw [if_neg (by omega)]; exact hst.dd x hx
  | succ d ih =>
    intro i b σ0 acc0 w hd hi hb hok hw hwp hwo hwn hN
    have hil : i < q.body.length := by omega
    have hbi := hbody _ (List.getElem_mem hil)
    have hne : ¬ ((i : Int) = q.body.length) := by omega
    have z1 : ¬ (w = σ0.n) := by omega
    have z2 : ¬ (p = σ0.n) := by have := hok.pn; omega
    have z3 : ¬ (o = σ0.n) := by have := hok.on; omega
    let G : RA → List Bnd := fun x => match mtchA q.body[i] x b with
      | some b' => binds db (q.body.drop (i + 1)) b'
      | none => []
    have hG : binds db (q.body.drop i) b = db.flatMap G := by rw [List.drop_eq_getElem_cons hil]; rfl
    rw [hG] at hN ⊢
    have key : ∃ r σ1, XX 313 [Ag q, Ar db, In i, .ref w 40 [], .ptr p 0] σ0 = some (r, σ1) ∧ (r = .tup [] ∧ σ0.n < σ1.n ∧ σ1.ob w = .arr (.own 0) 0 1 (rowsE (bL b)) ∧ ∀ x, x < σ0.n → σ1.ob x = (St p o σ0 (acc0 ++ (db.flatMap G).map encB)).ob x) := by
      refine W_fn rfl Tryz.func313 rfl rfl (by simp [Tryz.f313]) ?_
      simp only [Tryz.f313]
      repeat' first|refine W_seq ?_|refine W_block ?_|refine W_skip ?_|refine W_ret ?_|refine W_exit ?_|refine xb_hit ?_|refine xb_miss (by decide) ?_|(apply W_reg;(simp [Ag, z1, z2, z3, hne];exact .r _))
      refine W_cond (by simp; exact .r _) (fun hc => ?_) (fun hc => ?_)
      · cases hc
      repeat' first|refine W_seq ?_|refine W_block ?_|refine W_skip ?_|refine W_ret ?_|refine W_exit ?_|refine xb_hit ?_|refine xb_miss (by decide) ?_|(apply W_reg;(simp;exact .r _))
      have hokn : Ok p o [] ⟨σ0.n + 1, upd σ0.ob σ0.n (.box [.t (.sl (rowsE q.head)), .t (.sl (rowsE q.body))])⟩ acc0 := hok.grow (Nat.le_succ _) (fun x hx => by simp only [upd_app]; rw [if_neg (by omega)]) (fun x h1 h2 => by
        have h2' : x < σ0.n + 1 := h2
        have : x = σ0.n := by omega
        subst this; simp [upd_app, VO.clean, cleanA, clean1]) (fun x hx => by
        have hx' : σ0.n + 1 ≤ x := hx
        simp only [upd_app]; rw [if_neg (by omega)]; exact hok.dd x (by omega))
      refine W_loop (n := db.length) (fun n s => ∃ j : Nat, ∃ acc1 : List Row, n = db.length - j ∧ s.nt = 87 ∧ s.tm 1 = Ar db ∧ s.tm 2 = In i ∧ s.tm 3 = .ref w 40 [] ∧ s.tm 4 = .ptr p 0 ∧ s.tm 5 = .ptr σ0.n 0 ∧ s.tm 10 = In j ∧ j ≤ db.length ∧ Ok p o [] s.σ acc1 ∧ s.σ.ob σ0.n = .box [.t (.sl (rowsE q.head)), .t (.sl (rowsE q.body))] ∧ s.σ.ob w = .arr (.own 0) 0 1 (rowsE (bL b)) ∧ σ0.n < s.σ.n ∧ (∀ x, x < σ0.n → x ≠ p → x ≠ o → s.σ.ob x = σ0.ob x) ∧ acc1 = acc0 ++ ((db.take j).flatMap G).map encB) ⟨0, acc0, by simp; exact ⟨hokn, by rw [if_neg z1]; exact hw, fun x h1 h2 h3 e => by omega⟩⟩ ?_
      rintro n ⟨nt, tm, σ⟩ ⟨j, acc1, rfl, hnt, h1, h2, h3, h4, h5, h10, hj, hok1, hbx, hwb, hnn, hfr, hacc⟩
      simp only at hnt h1 h2 h3 h4 h5 h10 hok1 hbx hwb hnn hfr
      subst hnt
      repeat' first|refine W_seq ?_|refine W_block ?_|refine W_skip ?_|refine W_ret ?_|refine W_exit ?_|refine xb_hit ?_|refine xb_miss (by decide) ?_|(apply W_reg;(simp [h1, h2, h3, h4, h5, h10, hok1, hbx, hwb, hnn, hfr];exact .r _))
      refine W_cond (by simp [h1, h2, h3, h4, h5, h10, hok1, hbx, hwb, hnn, hfr]; exact .r _) (fun hc => ?_) (fun hc => ?_)
      · have hjl : j < db.length := by simpa using hc
        have htk : (db.take (j + 1)).flatMap G = (db.take j).flatMap G ++ G db[j] := by rw [List.take_succ_eq_append_getElem hjl, List.flatMap_append]; simp
        have hsp : (db.flatMap G).length = ((db.take j).flatMap G).length + (G db[j]).length + ((db.drop (j + 1)).flatMap G).length := by
          conv => lhs; rw [← List.take_append_drop j db, List.flatMap_append, List.drop_eq_getElem_cons hjl, List.flatMap_cons]
          simp only [List.length_append]; omega
        have hla : acc1.length = acc0.length + ((db.take j).flatMap G).length := by
          rw [hacc, List.length_append, List.length_map]
        have hcmp : ((db[j].rel = q.body[i].rel ∧ db[j].args.length = q.body[i].args.length) ∨ ¬ (db[j].rel = q.body[i].rel ∧ db[j].args.length = q.body[i].args.length)) := Classical.em _
        rcases hcmp with hcmp | hcmp
        · obtain ⟨b', hb', hbc, hm⟩ := l6Bind_r b hb q.body[i].args db[j].args hcmp.2.symm (by have := hbi.1; unfold Sm; omega) hbi.2
          have hre : ([Ar q.body[i].args, Ar db[j].args, .ref w 40 []] : List AV).mapM (reify σ) = some [Ar q.body[i].args, Ar db[j].args, Ar (bL b)] := by
            have h40 := bL_len hb
            simp [reify, reifyP, reify1, hwb, VO.rows, h40]
          have hm := cv hm rfl σ _ hre
          have n0 : ¬ (σ0.n = σ.n) := by omega
          have n0' : ¬ (σ.n = σ0.n) := by omega
          have hmA : mtchA q.body[i] db[j] b = mtch q.body[i].args db[j].args b := by unfold mtchA; rw [if_pos ⟨hcmp.1.symm, hcmp.2.symm⟩]
          repeat' first|refine W_seq ?_|refine W_block ?_|refine W_skip ?_|refine W_ret ?_|refine W_exit ?_|refine xb_hit ?_|refine xb_miss (by decide) ?_|(apply W_reg;(simp [h1, h2, h3, h4, h5, h10, hok1, hbx, hwb, hnn, hfr, hjl, hil, hbx, hcmp.1, hcmp.2];exact .r _))|(apply W_draw (id := 6) [0,0,3,7,15,0,32,0,224,480,992,2047,4095,8191,8191,32767,65535,131071,262143,8191,532479,8191,3678207,7872511,16261119,33038335,67108863,134217727] rfl rfl; (· simp; exact .r _); (· simp [h1, h2, h3, h4, h5, h10, hok1, hbx, hwb, hnn, hfr, hjl, hil, hbx, hcmp.1, hcmp.2]; exact .r _); (· first|trivial|simp))
          refine W_cond (by simp [h1, h2, h3, h4, h5, h10, hok1, hbx, hwb, hnn, hfr]; exact .r _) (fun hg => ?_) (fun hg => ?_)
          · cases hg
          have k40 := bL_len hb'
          repeat' first|refine W_seq ?_|refine W_block ?_|refine W_skip ?_|refine W_ret ?_|refine W_exit ?_|refine xb_hit ?_|refine xb_miss (by decide) ?_|(apply W_reg;(simp [h1, h2, h3, h4, h5, h10, hok1, hbx, hwb, hnn, hfr, hjl, hil, hbx, hwb, hm, k40];exact .r _))|(apply W_draw (id := 7) [0,1,0,7,15,31,0,0,192,448,960,0,4095,8191,16383,16383,32767,131071] rfl rfl; (· simp; exact .r _); (· simp [h1, h2, h3, h4, h5, h10, hok1, hbx, hwb, hnn, hfr, hjl, hil, hbx, hwb, hm, k40]; exact .r _); (· first|trivial|simp))
          have hpn := hok1.pn
          have hon := hok1.on
          refine W_gen (fun s2 => Ok p o [] s2 acc1 ∧ s2.ob σ0.n = .box [.t (.sl (rowsE q.head)), .t (.sl (rowsE q.body))] ∧ s2.n = σ.n + 1 ∧ s2.ob w = .arr (.own 0) 0 1 (rowsE (bL b)) ∧ (∀ x, x < σ0.n → x ≠ p → x ≠ o → s2.ob x = σ0.ob x) ∧ s2.ob σ.n = .arr (.own 0) 0 1 (rowsE (bL b'))) ?_ (fun s2 hq => ?_)
          · refine ⟨hok1.grow (Nat.le_succ _) (fun x hx => ?_) (fun x h1 h2 => ?_) (fun x hx => ?_), ?_, rfl, ?_, fun x h1 h2 h3 => ?_, ?_⟩
            · simp [upd_app, show ¬ x = σ.n by omega]
            · have h2' : x < σ.n + 1 := h2
              obtain rfl : x = σ.n := by omega
              simp [upd_app, VO.clean]
            · have hx' : σ.n + 1 ≤ x := hx
              simp [upd_app, show ¬ x = σ.n by omega]
              exact hok1.dd x (by omega)
            · simp [upd_app, n0]; exact hbx
            · simp [upd_app, show ¬ w = σ.n by omega]; exact hwb
            · simp [upd_app, show ¬ x = σ.n by omega]
              exact hfr x h1 h2 h3
            · simp [upd_app]
          obtain ⟨q1, q2, q3, q4, q5, q6⟩ := hq
          cases hm2 : mtch q.body[i].args db[j].args b with
          | none =>
            have hGj : G db[j] = [] := by simp only [G, hmA, hm2]
            refine W_cond (by simp [h1, h2, h3, h4, h5, h10, hok1, hbx, hwb, hnn, hfr, hm2]; exact .r _) (fun hz => ?_) (fun hz => ?_)
            · cases hz
            repeat' first|refine W_seq ?_|refine W_block ?_|refine W_skip ?_|refine W_ret ?_|refine W_exit ?_|refine xb_hit ?_|refine xb_miss (by decide) ?_|(apply W_reg;(simp [h1, h2, h3, h4, h5, h10, hok1, hbx, hwb, hnn, hfr];exact .r _))
            refine ⟨_, ?_, j + 1, acc1, rfl, rfl, ?_, ?_, ?_, ?_, ?_, ?_, by omega, q1, q2, q4, (by show σ0.n < s2.n; omega), q5, by rw [htk, hGj, List.append_nil, hacc]⟩
            all_goals first|assumption|(simp [h1, h2, h3, h4, h5, h10, hok1, hbx, hwb, hnn, hfr];done)|(simp [h1, h2, h3, h4, h5, h10, hok1, hbx, hwb, hnn, hfr];omega)|(simp [h1, h2, h3, h4, h5, h10, hok1, hbx, hwb, hnn, hfr];exact wrap_succ (by omega))|omega
          | some c =>
            have hcb := hbc c hm2
            subst hcb
            have hGj : G db[j] = binds db (q.body.drop (i + 1)) b' := by simp only [G, hmA, hm2]
            obtain ⟨m, st, sz, rows, hcall⟩ := ih (i + 1) b' s2 acc1 σ.n (by omega) (by omega) hb' q1 q6 (by omega) (by omega) (by omega) (by rw [← hGj]; omega)
            rw [show ((i + 1 : Nat) : Int) = (i : Int) + 1 by omega] at hcall
            have hAq : Ag q = .agg [.t (.sl (rowsE q.head)), .t (.sl (rowsE q.body))] := rfl
            rw [hAq] at hcall
            have hw : IntKind.i64.wrap ((i : Int) + 1) = (i : Int) + 1 := wrap_succ (by omega)
            refine W_cond (by simp [h1, h2, h3, h4, h5, h10, hok1, hbx, hwb, hnn, hfr, hm2]; exact .r _) (fun hz => ?_) (fun hz => ?_)
            · repeat' first|refine W_seq ?_|refine W_block ?_|refine W_skip ?_|refine W_ret ?_|refine W_exit ?_|refine xb_hit ?_|refine xb_miss (by decide) ?_|(apply W_reg;(simp [h1, h2, h3, h4, h5, h10, hok1, hbx, hwb, hnn, hfr, q2, hw, hcall];exact .r _))
              have hst := (q1.st (acc1 ++ (binds db (q.body.drop (i + 1)) b').map encB)).put (w := σ.n) (y := .arr m st sz rows) (by omega) (by omega) (fun q hq => by cases hq) rfl (by show σ.n < s2.n; omega)
              have hp0 := hok.pn
              have ho0 := hok.on
              refine ⟨_, ?_, j + 1, acc1 ++ (binds db (q.body.drop (i + 1)) b').map encB, rfl, rfl, ?_, ?_, ?_, ?_, ?_, ?_, by omega, hst, (by simp only [upd_app]; rw [if_neg n0, St_ob, if_neg (by omega), if_neg (by omega)]; exact q2), (by simp only [upd_app]; rw [if_neg (by omega), St_ob, if_neg hwo, if_neg hwp]; exact q4), (by show σ0.n < s2.n; omega), (fun x h1 h2 h3 => by simp only [upd_app]; rw [if_neg (by omega), St_ob, if_neg h3, if_neg h2]; exact q5 x h1 h2 h3), by rw [htk, hGj, List.map_append, ← List.append_assoc, ← hacc]⟩
              all_goals first|assumption|(simp [h1, h2, h3, h4, h5, h10, hok1, hbx, hwb, hnn, hfr];done)|(simp [h1, h2, h3, h4, h5, h10, hok1, hbx, hwb, hnn, hfr];omega)|(simp [h1, h2, h3, h4, h5, h10, hok1, hbx, hwb, hnn, hfr];exact wrap_succ (by omega))|omega
            · cases hz
        · have hGj : G db[j] = [] := by simp only [G, mtchA]; rw [if_neg (fun e => hcmp ⟨e.1.symm, e.2.symm⟩)]
          by_cases hr : db[j].rel = q.body[i].rel
          · have hl : ¬ db[j].args.length = q.body[i].args.length := fun e => hcmp ⟨hr, e⟩
            have hl2 : ¬ (db[j].args.length : Int) = q.body[i].args.length := by omega
            repeat' first|refine W_seq ?_|refine W_block ?_|refine W_skip ?_|refine W_ret ?_|refine W_exit ?_|refine xb_hit ?_|refine xb_miss (by decide) ?_|(apply W_reg;(simp [h1, h2, h3, h4, h5, h10, hok1, hbx, hwb, hnn, hfr, hjl, hil, hbx, hr, hl, hl2];exact .r _))|(apply W_draw (id := 6) [0,0,3,7,15,0,32,0,224,480,992,2047,4095,8191,8191,32767,65535,131071,262143,8191,532479,8191,3678207,7872511,16261119,33038335,67108863,134217727] rfl rfl; (· simp; exact .r _); (· simp [h1, h2, h3, h4, h5, h10, hok1, hbx, hwb, hnn, hfr, hjl, hil, hbx, hr, hl, hl2]; exact .r _); (· first|trivial|simp))
            refine W_cond (by simp [h1, h2, h3, h4, h5, h10, hok1, hbx, hwb, hnn, hfr]; exact .r _) (fun hg => ?_) (fun hg => ?_)
            · repeat' first|refine W_seq ?_|refine W_block ?_|refine W_skip ?_|refine W_ret ?_|refine W_exit ?_|refine xb_hit ?_|refine xb_miss (by decide) ?_|(apply W_reg;(simp [h1, h2, h3, h4, h5, h10, hok1, hbx, hwb, hnn, hfr];exact .r _))
              refine ⟨_, ?_, j + 1, acc1, rfl, rfl, ?_, ?_, ?_, ?_, ?_, ?_, by omega, hok1, hbx, hwb, hnn, hfr, by rw [htk, hGj, List.append_nil, hacc]⟩
              all_goals first|assumption|(simp [h1, h2, h3, h4, h5, h10, hok1, hbx, hwb, hnn, hfr];done)|(simp [h1, h2, h3, h4, h5, h10, hok1, hbx, hwb, hnn, hfr];omega)|(simp [h1, h2, h3, h4, h5, h10, hok1, hbx, hwb, hnn, hfr];exact wrap_succ (by omega))|omega
            · simp [hl] at hg
          · repeat' first|refine W_seq ?_|refine W_block ?_|refine W_skip ?_|refine W_ret ?_|refine W_exit ?_|refine xb_hit ?_|refine xb_miss (by decide) ?_|(apply W_reg;(simp [h1, h2, h3, h4, h5, h10, hok1, hbx, hwb, hnn, hfr, hjl, hil, hbx, hr];exact .r _))|(apply W_draw (id := 6) [0,0,3,7,15,0,32,0,224,480,992,2047,4095,8191,8191,32767,65535,131071,262143,8191,532479,8191,3678207,7872511,16261119,33038335,67108863,134217727] rfl rfl; (· simp; exact .r _); (· simp [h1, h2, h3, h4, h5, h10, hok1, hbx, hwb, hnn, hfr, hjl, hil, hbx, hr]; exact .r _); (· first|trivial|simp))
            refine W_cond (by simp [h1, h2, h3, h4, h5, h10, hok1, hbx, hwb, hnn, hfr]; exact .r _) (fun hg => ?_) (fun hg => ?_)
            · repeat' first|refine W_seq ?_|refine W_block ?_|refine W_skip ?_|refine W_ret ?_|refine W_exit ?_|refine xb_hit ?_|refine xb_miss (by decide) ?_|(apply W_reg;(simp [h1, h2, h3, h4, h5, h10, hok1, hbx, hwb, hnn, hfr];exact .r _))
              refine ⟨_, ?_, j + 1, acc1, rfl, rfl, ?_, ?_, ?_, ?_, ?_, ?_, by omega, hok1, hbx, hwb, hnn, hfr, by rw [htk, hGj, List.append_nil, hacc]⟩
              all_goals first|assumption|(simp [h1, h2, h3, h4, h5, h10, hok1, hbx, hwb, hnn, hfr];done)|(simp [h1, h2, h3, h4, h5, h10, hok1, hbx, hwb, hnn, hfr];omega)|(simp [h1, h2, h3, h4, h5, h10, hok1, hbx, hwb, hnn, hfr];exact wrap_succ (by omega))|omega
            · simp [hr] at hg
      · have hjl : j = db.length := by simp at hc; omega
        subst hjl
        rw [List.take_length] at hacc
        repeat' first|refine W_seq ?_|refine W_block ?_|refine W_skip ?_|refine W_ret ?_|refine W_exit ?_|refine xb_hit ?_|refine xb_miss (by decide) ?_|(apply W_reg;(simp [h1, h2, h3, h4, h5, h10, hok1, hbx, hwb, hnn, hfr];exact .r _))
        refine ⟨.tup [], rfl, rfl, hnn, hwb, fun x hx => ?_⟩
        simp only
        rw [St_ob]
        split
        · rename_i e; subst e; rw [hok1.ho, hacc]
        · split
          · rename_i e; subst e; rw [hok1.hp, hacc]
          · rename_i e1 e2; exact hfr x hx e2 e1
    obtain ⟨r, σ1, h1, rfl, h3, h4, h5⟩ := key
    have hst := hok.st (acc0 ++ (db.flatMap G).map encB)
    refine ⟨.own 0, 0, 1, rowsE (bL b), callV_cut (by rfl) h1 h3 rfl (fun x hx => ?_) (fun x hx => ?_) (fun x hx => ?_)⟩
    · simp only [upd_app]
      split
      · rename_i e; subst e; exact h4
      · exact h5 x hx
    · simp only [upd_app]
      split
      · rfl
      · exact hst.cl x hx
    · simp only [upd_app]
      rw [if_neg (by omega)]; exact hst.dd x hx
end Go.Proofs.YtmfifjbbjjdacaaGreat.V

namespace Go.Proofs.YtmfifjbbjjdacaaGreat.V
open Go Go.Proofs
set_option linter.unusedVariables false
set_option linter.unusedSimpArgs false
theorem l6Empty_r : Ret XX 314 [] (.own 1 (rowsE (bL b0))) := by
  refine ret_W rfl Tryz.func314 rfl rfl (by simp [Tryz.f314]) ?_
  simp only [Tryz.f314]
  repeat' first|refine W_seq ?_|refine W_block ?_|refine W_skip ?_|refine W_ret ?_|refine W_exit ?_|refine xb_hit ?_|refine xb_miss (by decide) ?_|(apply W_reg;(simp;exact .r _))
  refine W_loop (n := 20) (fun n s => ∃ i : Nat, ∃ acc : List Int, n = 20 - i ∧ s.nt = 20 ∧ s.tm 1 = .ref 0 acc.length [] ∧ s.tm 2 = In i ∧ i ≤ 20 ∧ s.σ.ob 0 = .arr (.own 0) 0 1 (rowsE acc) ∧ 1 ≤ s.σ.n ∧ acc = List.replicate i (-1)) ⟨0, [], by simp⟩ ?_
  rintro n ⟨nt, tm, σ⟩ ⟨i, acc, rfl, hnt, h1, h2, hi, ho, hn, hacc⟩
  simp only at hnt h1 h2 ho hn
  subst hnt
  · have n0 : ¬ (0 = σ.n) := by omega
    have n0' : ¬ (σ.n = 0) := by omega
    have hl : acc.length = i := by rw [hacc, List.length_replicate]
    repeat' first|refine W_seq ?_|refine W_block ?_|refine W_skip ?_|refine W_ret ?_|refine W_exit ?_|refine xb_hit ?_|refine xb_miss (by decide) ?_|(apply W_reg;(simp [h1, h2, ho, hn];exact .r _))
    refine W_cond (by simp [h1, h2, ho, hn]; exact .r _) (fun hc => ?_) (fun hc => ?_)
    · have hil : i < 20 := by simp at hc; omega
      repeat' first|refine W_seq ?_|refine W_block ?_|refine W_skip ?_|refine W_ret ?_|refine W_exit ?_|refine xb_hit ?_|refine xb_miss (by decide) ?_|(apply W_reg;(simp [h1, h2, ho, hn, n0, n0', show acc.length + 1 < 1099511627776 by omega];exact .r _))
      refine ⟨_, ?_, i + 1, acc ++ [-1], rfl, rfl, ?_, ?_, by omega, ?_, ?_, (by rw [hacc, List.replicate_succ'])⟩
      all_goals first|assumption|(simp [h1, h2, ho, hn, rowsE_append, n0, n0', rowsE];done)|(simp [h1, h2, ho, hn, rowsE_append, n0, n0', rowsE];omega)|(simp [h1, h2, ho, hn, rowsE_append, n0, n0', rowsE];exact wrap_succ (by omega))|omega
    · have hil : i = 20 := by simp at hc; omega
      subst hil
      repeat' first|refine W_seq ?_|refine W_block ?_|refine W_skip ?_|refine W_ret ?_|refine W_exit ?_|refine xb_hit ?_|refine xb_miss (by decide) ?_|(apply W_reg;(simp [h1, h2, ho, hn];exact .r _))
      refine W_loop (n := 20) (fun n s => ∃ k : Nat, ∃ ac2 : List Int, n = 20 - k ∧ s.nt = 20 ∧ s.tm 1 = .ref 0 ac2.length [] ∧ s.tm 3 = In k ∧ k ≤ 20 ∧ s.σ.ob 0 = .arr (.own 0) 0 1 (rowsE ac2) ∧ 1 ≤ s.σ.n ∧ ac2 = acc ++ List.replicate k 0) ⟨0, acc, by simp [h1, h2, ho, hn]⟩ ?_
      rintro n ⟨nt, tm, σ⟩ ⟨k, ac2, rfl, hnt, h1, h3, hk, ho2, hn2, hac2⟩
      simp only at hnt h1 h3 ho2 hn2
      subst hnt
      have m0 : ¬ (0 = σ.n) := by omega
      have m0' : ¬ (σ.n = 0) := by omega
      have hl2 : ac2.length = 20 + k := by rw [hac2, List.length_append, List.length_replicate, hl]
      repeat' first|refine W_seq ?_|refine W_block ?_|refine W_skip ?_|refine W_ret ?_|refine W_exit ?_|refine xb_hit ?_|refine xb_miss (by decide) ?_|(apply W_reg;(simp [h1, h3, ho2, hn2];exact .r _))
      refine W_cond (by simp [h1, h3, ho2, hn2]; exact .r _) (fun hd => ?_) (fun hd => ?_)
      · have hkl : k < 20 := by simp at hd; omega
        repeat' first|refine W_seq ?_|refine W_block ?_|refine W_skip ?_|refine W_ret ?_|refine W_exit ?_|refine xb_hit ?_|refine xb_miss (by decide) ?_|(apply W_reg;(simp [h1, h3, ho2, hn2, m0, m0', show ac2.length + 1 < 1099511627776 by omega];exact .r _))
        refine ⟨_, ?_, k + 1, ac2 ++ [0], rfl, rfl, ?_, ?_, by omega, ?_, ?_, (by rw [hac2, List.replicate_succ', List.append_assoc])⟩
        all_goals first|assumption|(simp [h1, h3, ho2, hn2, rowsE_append, m0, m0', rowsE];done)|(simp [h1, h3, ho2, hn2, rowsE_append, m0, m0', rowsE];omega)|(simp [h1, h3, ho2, hn2, rowsE_append, m0, m0', rowsE];exact wrap_succ (by omega))|omega
      · have hkl : k = 20 := by simp at hd; omega
        subst hkl
        have he : ac2 = bL b0 := by rw [hac2, hacc]; rfl
        subst he
        repeat' first|refine W_seq ?_|refine W_block ?_|refine W_skip ?_|refine W_ret ?_|refine W_exit ?_|refine xb_hit ?_|refine xb_miss (by decide) ?_|(apply W_reg;(simp [h1, h3, ho2, hn2];exact .r _))
        simp [ho2]
/-- What l6Sort keeps: sorted; each row once, or each as often as it comes. -/
def SortI (once : Bool) (acc m : List Row) : Prop := if once = true then Asc acc ∧ ∀ x, x ∈ acc ↔ x ∈ m else Ord acc ∧ acc.Perm m
theorem SortI.ord {once : Bool} {acc m : List Row} (h : SortI once acc m) : Ord acc := by
  unfold SortI at h
  split at h
  · exact asc_ord h.1
  · exact h.1
theorem SortI.dup {acc m : List Row} {x : Row} (h : SortI true acc m) (hx : x ∈ acc) : SortI true acc (m ++ [x]) := by
  obtain ⟨h1, h2⟩ := h
  refine ⟨h1, fun y => ?_⟩
  rw [List.mem_append, List.mem_singleton, ← h2 y]
  exact ⟨Or.inl, fun h => h.elim id fun e => by rw [e]; exact hx⟩
theorem SortI.ins {once : Bool} {acc m : List Row} {x : Row} {k : Nat} (h : SortI once acc m) (hk : k ≤ acc.length) (h2 : ∀ j (hj : j < acc.length), k ≤ j → cmpI x acc[j] < 0)
    (hk1 : ∀ (hj : k - 1 < acc.length), 0 < k → ¬ cmpI x acc[k - 1] < 0) (hone : once = true → ∀ (hj : k - 1 < acc.length), 0 < k → acc[k - 1] ≠ x) : SortI once (acc.take k ++ [x] ++ acc.drop k) (m ++ [x]) := by
  have ho := h.ord
  have h1 : ∀ j (hj : j < acc.length), j < k → ¬ cmpI x acc[j] < 0 := by
    intro j hj hjk hlt
    have hkl : k - 1 < acc.length := by omega
    by_cases e : j = k - 1
    · subst e; exact hk1 hkl (by omega) hlt
    · have hp := List.pairwise_iff_getElem.1 ho j (k - 1) hj hkl (by omega)
      by_cases e2 : acc[k - 1] = acc[j]
      · exact hk1 hkl (by omega) (by rw [e2]; exact hlt)
      · exact hk1 hkl (by omega) (cmp_trans _ _ _ hlt (cmp_flip _ _ hp e2))
  unfold SortI at h ⊢
  split at h
  · rename_i e
    obtain ⟨ha, hm⟩ := h
    rw [if_pos e]
    refine ⟨asc_ins ha hk (fun j hj hjk => ?_) h2, fun y => ?_⟩
    · refine cmp_flip _ _ (h1 j hj hjk) (fun e3 => ?_)
      have hkl : k - 1 < acc.length := by omega
      by_cases e2 : j = k - 1
      · subst e2; exact hone e hkl (by omega) e3.symm
      · have hp := List.pairwise_iff_getElem.1 ha j (k - 1) hj hkl (by omega)
        rw [← e3] at hp
        exact hk1 hkl (by omega) hp
    · rw [(ins_perm acc x k).mem_iff, List.mem_append, List.mem_append, hm y]
  · rename_i e
    rw [if_neg e]
    exact ⟨ord_ins h.1 hk h1 h2, (ins_perm acc x k).trans (h.2.append_right [x])⟩
theorem SortI.eq {once : Bool} {acc m : List Row} (h : SortI once acc m) : acc = if once = true then srtU m else srt cmpI m := by
  unfold SortI at h
  split at h
  · rename_i e; rw [if_pos e]; exact srtU_of h.1 h.2
  · rename_i e; rw [if_neg e]; exact srt_of h.1 h.2
theorem uniq_len : ∀ l : List Row, (uniq l).length ≤ l.length
  | [] => by simp [uniq]
  | [a] => by simp [uniq]
  | a :: b :: l => by
    have h := uniq_len (b :: l)
    unfold uniq
    split
    · simp only [List.length_cons] at h ⊢; omega
    · simp only [List.length_cons] at h ⊢; omega
theorem SortI.len {once : Bool} {acc m : List Row} (h : SortI once acc m) : acc.length ≤ m.length := by
  rw [h.eq]
  split
  · exact Nat.le_trans (uniq_len _) (by rw [srt_perm.length_eq]; exact Nat.le_refl _)
  · rw [srt_perm.length_eq]; exact Nat.le_refl _
theorem SortI.mem {once : Bool} {acc m : List Row} (h : SortI once acc m) {x : Row} (hx : x ∈ acc) : x ∈ m := by
  unfold SortI at h
  split at h
  · exact (h.2 x).1 hx
  · exact h.2.mem_iff.1 hx
end Go.Proofs.YtmfifjbbjjdacaaGreat.V

namespace Go.Proofs.YtmfifjbbjjdacaaGreat.V
open Go Go.Proofs
set_option linter.unusedVariables false
set_option linter.unusedSimpArgs false
theorem l6Sort_false (l : List Row) (hl : l.length < 1099511627775) (hs : ∀ x ∈ l, Sm x) : Ret XX 177 [Ar l, Bo false] (.own 1 (rowsE (srt cmpI l))) := by
  refine ret_W rfl Tryz.func177 rfl rfl (by simp [Tryz.f177]) ?_
  simp only [Tryz.f177]
  repeat' first|refine W_seq ?_|refine W_block ?_|refine W_skip ?_|refine W_ret ?_|refine W_exit ?_|refine xb_hit ?_|refine xb_miss (by decide) ?_|(apply W_reg;(simp;exact .r _))
  refine W_loop (n := l.length) (fun n s => ∃ i : Nat, ∃ o : Nat, ∃ acc : List Row, n = l.length - i ∧ s.nt = 91 ∧ s.tm 0 = Ar l ∧ s.tm 1 = Bo false ∧ s.tm 5 = .ref o acc.length [] ∧ s.tm 6 = In i ∧ i ≤ l.length ∧ s.σ.ob o = .arr (.own 0) 0 1 (rowsE acc) ∧ o < s.σ.n ∧ SortI false acc (l.take i)) ⟨0, 0, [], by simp [SortI]⟩ ?_
  rintro n ⟨nt, tm, σ⟩ ⟨i, o, acc, rfl, hnt, h0, h1, h5, h6, hi, ho, hn, hS⟩
  simp only at hnt h0 h1 h5 h6 ho hn
  subst hnt
  repeat' first|refine W_seq ?_|refine W_block ?_|refine W_skip ?_|refine W_ret ?_|refine W_exit ?_|refine xb_hit ?_|refine xb_miss (by decide) ?_|(apply W_reg;(simp [h0, h1, h5, h6, ho, hn];exact .r _))
  refine W_cond (by simp [h0, h1, h5, h6, ho, hn]; exact .r _) (fun hc => ?_) (fun hc => ?_)
  · have hil : i < l.length := by simpa using hc
    have hlen := hS.len
    rw [List.length_take] at hlen
    have hsa : ∀ x ∈ acc, Sm x := fun x hx => hs x (List.mem_of_mem_take (hS.mem hx))
    have hrl : (rowsE acc).length = acc.length := rowsE_len ..
    repeat' first|refine W_seq ?_|refine W_block ?_|refine W_skip ?_|refine W_ret ?_|refine W_exit ?_|refine xb_hit ?_|refine xb_miss (by decide) ?_|(apply W_reg;(simp [h0, h1, h5, h6, ho, hn];exact .r _))
    refine W_loop (n := acc.length) (fun n s => ∃ k : Nat, n = 0 + k ∧ s.nt = 91 ∧ s.tm 0 = Ar l ∧ s.tm 1 = Bo false ∧ s.tm 5 = .ref o acc.length [] ∧ s.tm 6 = In i ∧ s.tm 7 = In k ∧ k ≤ acc.length ∧ s.σ.ob o = .arr (.own 0) 0 1 (rowsE acc) ∧ o < s.σ.n ∧ (∀ j (hj : j < acc.length), k ≤ j → cmpI l[i] acc[j] < 0)) ⟨acc.length, by simp [h0, h1, h5, h6, ho, hn]; exact fun j h1 h2 => by omega⟩ ?_
    rintro n ⟨nt, tm, σ⟩ ⟨k, rfl, hnt, h0, h1, h5, h6, h7, hk, ho1, hn1, hlt⟩
    simp only at hnt h0 h1 h5 h6 h7 ho1 hn1
    subst hnt
    rcases Nat.eq_zero_or_pos k with hk0 | hkp
    · repeat' first|refine W_seq ?_|refine W_block ?_|refine W_skip ?_|refine W_ret ?_|refine W_exit ?_|refine xb_hit ?_|refine xb_miss (by decide) ?_|(apply W_reg;(simp [h0, h1, h5, h6, h7, ho1, hn1, hk0];exact .r _))|(apply W_draw (id := 6) [0,1,3,7,7,31,63,7,7,263,903,1927,4095,8191] rfl rfl; (· simp; exact .r _); (· simp [h0, h1, h5, h6, h7, ho1, hn1, hk0]; exact .r _); (· first|trivial|simp))
      refine W_cond (by simp [h0, h1, h5, h6, h7, ho1, hn1]; exact .r _) (fun hd => ?_) (fun hd => ?_)
      · cases hd
      repeat' first|refine W_seq ?_|refine W_block ?_|refine W_skip ?_|refine W_ret ?_|refine W_exit ?_|refine xb_hit ?_|refine xb_miss (by decide) ?_|(apply W_reg;(simp [h0, h1, h5, h6, h7, ho1, hn1, hk0];exact .r _))|(apply W_draw (id := 8) [0,1,3,7,15,31,63,63,191,511,1023,63,63,6207,14399,32767,65535] rfl rfl; (· simp; exact .r _); (· simp [h0, h1, h5, h6, h7, ho1, hn1, hk0]; exact .r _); (· first|trivial|simp))
      refine W_cond (by simp [h0, h1, h5, h6, h7, ho1, hn1]; exact .r _) (fun hu => ?_) (fun hu => ?_)
      · cases hu
      repeat' first|refine W_seq ?_|refine W_block ?_|refine W_skip ?_|refine W_ret ?_|refine W_exit ?_|refine xb_hit ?_|refine xb_miss (by decide) ?_|(apply W_reg;(simp [h0, h1, h5, h6, h7, ho1, hn1];exact .r _))
      refine W_loop (n := k) (fun n s => ∃ m : Nat, ∃ o2 : Nat, ∃ ac2 : List Row, n = k - m ∧ s.nt = 91 ∧ s.tm 0 = Ar l ∧ s.tm 1 = Bo false ∧ s.tm 5 = .ref o acc.length [] ∧ s.tm 6 = In i ∧ s.tm 7 = In (k : Nat) ∧ s.tm 8 = .ref o2 ac2.length [] ∧ s.tm 9 = In m ∧ m ≤ k ∧ s.σ.ob o = .arr (.own m) 0 1 (rowsE acc) ∧ s.σ.ob o2 = .arr (.own 0) 0 1 (rowsE ac2) ∧ o < s.σ.n ∧ o2 < s.σ.n ∧ ¬ o = o2 ∧ ac2 = acc.take m) ⟨0, σ.n, [], by simp [upd_app, h0, h1, h5, h6, h7, show ¬ o = σ.n by omega, ho1]; omega⟩ ?_
      rintro n ⟨nt, tm, σ⟩ ⟨m, o2, ac2, rfl, hnt, h0, h1, h5, h6, h7, h8, h9, hm, hob, hob2, hon, hon2, hne, hq2⟩
      simp only at hnt h0 h1 h5 h6 h7 h8 h9 hob hob2 hon hon2
      subst hnt
      have n0 : ¬ (o = σ.n) := by omega
      have n0' : ¬ (σ.n = o) := by omega
      have n1 : ¬ (o2 = σ.n) := by omega
      have n1' : ¬ (σ.n = o2) := by omega
      have hne' : ¬ o2 = o := fun e => hne e.symm
      have hb2 : ac2.length ≤ m := by rw [hq2, List.length_take]; omega
      repeat' first|refine W_seq ?_|refine W_block ?_|refine W_skip ?_|refine W_ret ?_|refine W_exit ?_|refine xb_hit ?_|refine xb_miss (by decide) ?_|(apply W_reg;(simp [h0, h1, h5, h6, h7, h8, h9, hob, hob2, hon, hon2];exact .r _))
      refine W_cond (by simp [h0, h1, h5, h6, h7, h8, h9, hob, hob2, hon, hon2]; exact .r _) (fun hd2 => ?_) (fun hd2 => ?_)
      · have hmk : m < k := by simp at hd2; omega
        have hml : m < acc.length := by omega
        have hg2 : (rowsE acc)[m]? = some [.sl (rowsE acc[m])] := by simp [rowsE, hml]
        repeat' first|refine W_seq ?_|refine W_block ?_|refine W_skip ?_|refine W_ret ?_|refine W_exit ?_|refine xb_hit ?_|refine xb_miss (by decide) ?_|(apply W_reg;(simp [h0, h1, h5, h6, h7, h8, h9, hob, hob2, hon, hon2, hml, hg2, hrl, n0, n0', n1, n1', hne, hne', show ac2.length + 1 < 1099511627776 by omega];exact .r _))
        refine ⟨_, ?_, m + 1, o2, ac2 ++ [acc[m]], rfl, rfl, ?_, ?_, ?_, ?_, ?_, ?_, ?_, by omega, (by simp [upd_app, n0, n0', hne, hne']), ?_, (by simp; omega), (by simp; omega), hne, (by rw [hq2, List.take_succ_eq_append_getElem hml])⟩
        all_goals first|assumption|(simp [h0, h1, h5, h6, h7, h8, h9, hob, hob2, hon, hon2, rowsE_append, n0, n0', n1, n1', hne, hne', rowsE];done)|(simp [h0, h1, h5, h6, h7, h8, h9, hob, hob2, hon, hon2, rowsE_append, n0, n0', n1, n1', hne, hne', rowsE];omega)|(simp [h0, h1, h5, h6, h7, h8, h9, hob, hob2, hon, hon2, rowsE_append, n0, n0', n1, n1', hne, hne', rowsE];exact wrap_succ (by omega))|omega
      have hmk : k = m := by simp at hd2; omega
      subst hmk
      have y0 : ¬ (o = σ.n + 1) := by omega
      have y1 : ¬ (o2 = σ.n + 1) := by omega
      have y0' : ¬ (σ.n + 1 = o) := by omega
      have y1' : ¬ (σ.n + 1 = o2) := by omega
      have y2' : ¬ (σ.n + 2 = o2) := by omega
      have y2 : ¬ (o2 = σ.n + 2) := by omega
      have hgi : (rowsE l)[i]? = some [.sl (rowsE l[i])] := by simp [rowsE, hil]
      have hxl : l[i].length < 1099511627776 := by have := hs _ (List.getElem_mem hil); unfold Sm at this; omega
      repeat' first|refine W_seq ?_|refine W_block ?_|refine W_skip ?_|refine W_ret ?_|refine W_exit ?_|refine xb_hit ?_|refine xb_miss (by decide) ?_|(apply W_reg;(simp [h0, h1, h5, h6, h7, h8, h9, hob, hob2, hon, hon2, hil, hgi, hxl, n0, n0', n1, n1', hne, hne', y0, y1, y0', y1', y2, y2', show ac2.length + 1 < 1099511627776 by omega];exact .r _))
      refine W_loop (n := (acc.length - k)) (fun n s => ∃ r : Nat, ∃ o3 : Nat, ∃ ac3 : List Row, n = acc.length - r ∧ s.nt = 91 ∧ s.tm 0 = Ar l ∧ s.tm 1 = Bo false ∧ s.tm 5 = .ref o acc.length [] ∧ s.tm 6 = In i ∧ s.tm 8 = .ref o3 ac3.length [] ∧ s.tm 10 = In r ∧ r ≤ acc.length ∧ s.σ.ob o = .arr (.own r) 0 1 (rowsE acc) ∧ s.σ.ob o3 = .arr (.own 0) 0 1 (rowsE ac3) ∧ o < s.σ.n ∧ o3 < s.σ.n ∧ ¬ o = o3 ∧ ac3.length = r + 1 ∧ ac3 ++ acc.drop r = acc.take (k) ++ [l[i]] ++ acc.drop (k)) ⟨k, o2, ac2 ++ [l[i]], by simp [upd_app, h0, h1, h5, h6, n0, n0', n1, n1', hne, hne', y0, y1, y2, hob, rowsE_append, rowsE, hk, hq2]; omega⟩ ?_
      rintro n ⟨nt, tm, σ⟩ ⟨r, o3, ac3, rfl, hnt, h0, h1, h5, h6, h8, h10, hr, hrb, hrb2, hrn, hrn2, hrne, hr0, hq3⟩
      simp only at hnt h0 h1 h5 h6 h8 h10 hrb hrb2 hrn hrn2
      subst hnt
      have x0 : ¬ (o = σ.n) := by omega
      have x0' : ¬ (σ.n = o) := by omega
      have x1 : ¬ (o3 = σ.n) := by omega
      have x1' : ¬ (σ.n = o3) := by omega
      have hrne' : ¬ o3 = o := fun e => hrne e.symm
      repeat' first|refine W_seq ?_|refine W_block ?_|refine W_skip ?_|refine W_ret ?_|refine W_exit ?_|refine xb_hit ?_|refine xb_miss (by decide) ?_|(apply W_reg;(simp [h0, h1, h5, h6, h8, h10, hrb, hrb2, hrn, hrn2];exact .r _))
      refine W_cond (by simp [h0, h1, h5, h6, h8, h10, hrb, hrb2, hrn, hrn2]; exact .r _) (fun hd3 => ?_) (fun hd3 => ?_)
      · have hrk : r < acc.length := by simpa using hd3
        have hg3 : (rowsE acc)[r]? = some [.sl (rowsE acc[r])] := by simp [rowsE, hrk]
        repeat' first|refine W_seq ?_|refine W_block ?_|refine W_skip ?_|refine W_ret ?_|refine W_exit ?_|refine xb_hit ?_|refine xb_miss (by decide) ?_|(apply W_reg;(simp [h0, h1, h5, h6, h8, h10, hrb, hrb2, hrn, hrn2, hrk, hg3, hrl, x0, x0', x1, x1', hrne, hrne', show ac3.length + 1 < 1099511627776 by omega];exact .r _))
        refine ⟨_, ?_, r + 1, o3, ac3 ++ [acc[r]], rfl, rfl, ?_, ?_, ?_, ?_, ?_, ?_, by omega, (by simp [upd_app, x0, x0', hrne, hrne']), ?_, (by simp; omega), (by simp; omega), hrne, (by simp; omega), (by rw [← hq3, List.drop_eq_getElem_cons hrk]; simp)⟩
        all_goals first|assumption|(simp [h0, h1, h5, h6, h8, h10, hrb, hrb2, hrn, hrn2, rowsE_append, x0, x0', x1, x1', hrne, hrne', rowsE];done)|(simp [h0, h1, h5, h6, h8, h10, hrb, hrb2, hrn, hrn2, rowsE_append, x0, x0', x1, x1', hrne, hrne', rowsE];omega)|(simp [h0, h1, h5, h6, h8, h10, hrb, hrb2, hrn, hrn2, rowsE_append, x0, x0', x1, x1', hrne, hrne', rowsE];exact wrap_succ (by omega))|omega
      have hrk : r = acc.length := by simp at hd3; omega
      subst hrk
      rw [List.drop_length, List.append_nil] at hq3
      repeat' first|refine W_seq ?_|refine W_block ?_|refine W_skip ?_|refine W_ret ?_|refine W_exit ?_|refine xb_hit ?_|refine xb_miss (by decide) ?_|(apply W_reg;(simp [h0, h1, h5, h6, h8, h10, hrb, hrb2, hrn, hrn2];exact .r _))
      refine ⟨_, ?_, i + 1, o3, ac3, rfl, rfl, ?_, ?_, ?_, ?_, by omega, hrb2, hrn2, (by rw [hq3, List.take_succ_eq_append_getElem hil]; exact hS.ins hk hlt (fun _ h => by omega) (fun _ _ h => by omega))⟩
      all_goals first|assumption|(simp [h0, h1, h5, h6, h8, h10, hrb, hrb2, hrn, hrn2];done)|(simp [h0, h1, h5, h6, h8, h10, hrb, hrb2, hrn, hrn2];omega)|(simp [h0, h1, h5, h6, h8, h10, hrb, hrb2, hrn, hrn2];exact wrap_succ (by omega))|omega
    · obtain ⟨k', rfl⟩ : ∃ k', k = k' + 1 := ⟨k - 1, by omega⟩
      have hkl : k' < acc.length := by omega
      have h0k : (0 : Int) < (k' : Int) + 1 := by omega
      have hw : IntKind.i64.wrap (k' : Int) = (k' : Int) := wrap_ok (by omega) (by omega)
      have hg : (rowsE acc)[k']? = some [.sl (rowsE acc[k'])] := by simp [rowsE, hkl]
      have c1 := cv (l2Less_r l[i] acc[k'] (hs _ (List.getElem_mem hil)))
      have c2 := cv (l2Ints_r acc[k'] l[i] (hsa _ (List.getElem_mem hkl)))
      repeat' first|refine W_seq ?_|refine W_block ?_|refine W_skip ?_|refine W_ret ?_|refine W_exit ?_|refine xb_hit ?_|refine xb_miss (by decide) ?_|(apply W_reg;(simp [h0, h1, h5, h6, h7, ho1, hn1, h0k, hw, hrl, hg, c1, hil, hkl];exact .r _))|(apply W_draw (id := 6) [0,1,3,7,7,31,63,7,7,263,903,1927,4095,8191] rfl rfl; (· simp; exact .r _); (· simp [h0, h1, h5, h6, h7, ho1, hn1, h0k, hw, hrl, hg, c1, hil, hkl]; exact .r _); (· first|trivial|simp))
      refine W_cond (by simp [h0, h1, h5, h6, h7, ho1, hn1]; exact .r _) (fun hd => ?_) (fun hd => ?_)
      · have hlt2 : cmpI l[i] acc[k'] < 0 := by simpa using hd
        repeat' first|refine W_seq ?_|refine W_block ?_|refine W_skip ?_|refine W_ret ?_|refine W_exit ?_|refine xb_hit ?_|refine xb_miss (by decide) ?_|(apply W_reg;(simp [h0, h1, h5, h6, h7, ho1, hn1, hw];exact .r _))
        refine ⟨_, ?_, k', rfl, rfl, ?_, ?_, ?_, ?_, (by simp [hw]), by omega, ?_, ?_, (fun j hj hkj => by (by_cases e : j = k'; (subst e; exact hlt2); exact hlt j hj (by omega)))⟩
        all_goals first|assumption|(simp [h0, h1, h5, h6, h7, ho1, hn1];done)|(simp [h0, h1, h5, h6, h7, ho1, hn1];omega)|(simp [h0, h1, h5, h6, h7, ho1, hn1];exact wrap_succ (by omega))|omega
      have hnl : ¬ cmpI l[i] acc[k'] < 0 := by simpa using hd
      repeat' first|refine W_seq ?_|refine W_block ?_|refine W_skip ?_|refine W_ret ?_|refine W_exit ?_|refine xb_hit ?_|refine xb_miss (by decide) ?_|(apply W_reg;(simp [h0, h1, h5, h6, h7, ho1, hn1, h0k, hw, hrl, hg, c2, hil, hkl];exact .r _))|(apply W_draw (id := 8) [0,1,3,7,15,31,63,63,191,511,1023,63,63,6207,14399,32767,65535] rfl rfl; (· simp; exact .r _); (· simp [h0, h1, h5, h6, h7, ho1, hn1, h0k, hw, hrl, hg, c2, hil, hkl]; exact .r _); (· first|trivial|simp))
      refine W_cond (by simp [h0, h1, h5, h6, h7, ho1, hn1]; exact .r _) (fun hu => ?_) (fun hu => ?_)
      · cases hu
      repeat' first|refine W_seq ?_|refine W_block ?_|refine W_skip ?_|refine W_ret ?_|refine W_exit ?_|refine xb_hit ?_|refine xb_miss (by decide) ?_|(apply W_reg;(simp [h0, h1, h5, h6, h7, ho1, hn1];exact .r _))
      refine W_loop (n := (k' + 1)) (fun n s => ∃ m : Nat, ∃ o2 : Nat, ∃ ac2 : List Row, n = (k' + 1) - m ∧ s.nt = 91 ∧ s.tm 0 = Ar l ∧ s.tm 1 = Bo false ∧ s.tm 5 = .ref o acc.length [] ∧ s.tm 6 = In i ∧ s.tm 7 = In ((k' + 1) : Nat) ∧ s.tm 8 = .ref o2 ac2.length [] ∧ s.tm 9 = In m ∧ m ≤ (k' + 1) ∧ s.σ.ob o = .arr (.own m) 0 1 (rowsE acc) ∧ s.σ.ob o2 = .arr (.own 0) 0 1 (rowsE ac2) ∧ o < s.σ.n ∧ o2 < s.σ.n ∧ ¬ o = o2 ∧ ac2 = acc.take m) ⟨0, σ.n, [], by simp [upd_app, h0, h1, h5, h6, h7, show ¬ o = σ.n by omega, ho1]; omega⟩ ?_
      rintro n ⟨nt, tm, σ⟩ ⟨m, o2, ac2, rfl, hnt, h0, h1, h5, h6, h7, h8, h9, hm, hob, hob2, hon, hon2, hne, hq2⟩
      simp only at hnt h0 h1 h5 h6 h7 h8 h9 hob hob2 hon hon2
      subst hnt
      have n0 : ¬ (o = σ.n) := by omega
      have n0' : ¬ (σ.n = o) := by omega
      have n1 : ¬ (o2 = σ.n) := by omega
      have n1' : ¬ (σ.n = o2) := by omega
      have hne' : ¬ o2 = o := fun e => hne e.symm
      have hb2 : ac2.length ≤ m := by rw [hq2, List.length_take]; omega
      repeat' first|refine W_seq ?_|refine W_block ?_|refine W_skip ?_|refine W_ret ?_|refine W_exit ?_|refine xb_hit ?_|refine xb_miss (by decide) ?_|(apply W_reg;(simp [h0, h1, h5, h6, h7, h8, h9, hob, hob2, hon, hon2];exact .r _))
      refine W_cond (by simp [h0, h1, h5, h6, h7, h8, h9, hob, hob2, hon, hon2]; exact .r _) (fun hd2 => ?_) (fun hd2 => ?_)
      · have hmk : m < (k' + 1) := by simp at hd2; omega
        have hml : m < acc.length := by omega
        have hg2 : (rowsE acc)[m]? = some [.sl (rowsE acc[m])] := by simp [rowsE, hml]
        repeat' first|refine W_seq ?_|refine W_block ?_|refine W_skip ?_|refine W_ret ?_|refine W_exit ?_|refine xb_hit ?_|refine xb_miss (by decide) ?_|(apply W_reg;(simp [h0, h1, h5, h6, h7, h8, h9, hob, hob2, hon, hon2, hml, hg2, hrl, n0, n0', n1, n1', hne, hne', show ac2.length + 1 < 1099511627776 by omega];exact .r _))
        refine ⟨_, ?_, m + 1, o2, ac2 ++ [acc[m]], rfl, rfl, ?_, ?_, ?_, ?_, ?_, ?_, ?_, by omega, (by simp [upd_app, n0, n0', hne, hne']), ?_, (by simp; omega), (by simp; omega), hne, (by rw [hq2, List.take_succ_eq_append_getElem hml])⟩
        all_goals first|assumption|(simp [h0, h1, h5, h6, h7, h8, h9, hob, hob2, hon, hon2, rowsE_append, n0, n0', n1, n1', hne, hne', rowsE];done)|(simp [h0, h1, h5, h6, h7, h8, h9, hob, hob2, hon, hon2, rowsE_append, n0, n0', n1, n1', hne, hne', rowsE];omega)|(simp [h0, h1, h5, h6, h7, h8, h9, hob, hob2, hon, hon2, rowsE_append, n0, n0', n1, n1', hne, hne', rowsE];exact wrap_succ (by omega))|omega
      have hmk : (k' + 1) = m := by simp at hd2; omega
      subst hmk
      have y0 : ¬ (o = σ.n + 1) := by omega
      have y1 : ¬ (o2 = σ.n + 1) := by omega
      have y0' : ¬ (σ.n + 1 = o) := by omega
      have y1' : ¬ (σ.n + 1 = o2) := by omega
      have y2' : ¬ (σ.n + 2 = o2) := by omega
      have y2 : ¬ (o2 = σ.n + 2) := by omega
      have hgi : (rowsE l)[i]? = some [.sl (rowsE l[i])] := by simp [rowsE, hil]
      have hxl : l[i].length < 1099511627776 := by have := hs _ (List.getElem_mem hil); unfold Sm at this; omega
      repeat' first|refine W_seq ?_|refine W_block ?_|refine W_skip ?_|refine W_ret ?_|refine W_exit ?_|refine xb_hit ?_|refine xb_miss (by decide) ?_|(apply W_reg;(simp [h0, h1, h5, h6, h7, h8, h9, hob, hob2, hon, hon2, hil, hgi, hxl, n0, n0', n1, n1', hne, hne', y0, y1, y0', y1', y2, y2', show ac2.length + 1 < 1099511627776 by omega];exact .r _))
      refine W_loop (n := (acc.length - (k' + 1))) (fun n s => ∃ r : Nat, ∃ o3 : Nat, ∃ ac3 : List Row, n = acc.length - r ∧ s.nt = 91 ∧ s.tm 0 = Ar l ∧ s.tm 1 = Bo false ∧ s.tm 5 = .ref o acc.length [] ∧ s.tm 6 = In i ∧ s.tm 8 = .ref o3 ac3.length [] ∧ s.tm 10 = In r ∧ r ≤ acc.length ∧ s.σ.ob o = .arr (.own r) 0 1 (rowsE acc) ∧ s.σ.ob o3 = .arr (.own 0) 0 1 (rowsE ac3) ∧ o < s.σ.n ∧ o3 < s.σ.n ∧ ¬ o = o3 ∧ ac3.length = r + 1 ∧ ac3 ++ acc.drop r = acc.take ((k' + 1)) ++ [l[i]] ++ acc.drop ((k' + 1))) ⟨(k' + 1), o2, ac2 ++ [l[i]], by simp [upd_app, h0, h1, h5, h6, n0, n0', n1, n1', hne, hne', y0, y1, y2, hob, rowsE_append, rowsE, hk, hq2]; omega⟩ ?_
      rintro n ⟨nt, tm, σ⟩ ⟨r, o3, ac3, rfl, hnt, h0, h1, h5, h6, h8, h10, hr, hrb, hrb2, hrn, hrn2, hrne, hr0, hq3⟩
      simp only at hnt h0 h1 h5 h6 h8 h10 hrb hrb2 hrn hrn2
      subst hnt
      have x0 : ¬ (o = σ.n) := by omega
      have x0' : ¬ (σ.n = o) := by omega
      have x1 : ¬ (o3 = σ.n) := by omega
      have x1' : ¬ (σ.n = o3) := by omega
      have hrne' : ¬ o3 = o := fun e => hrne e.symm
      repeat' first|refine W_seq ?_|refine W_block ?_|refine W_skip ?_|refine W_ret ?_|refine W_exit ?_|refine xb_hit ?_|refine xb_miss (by decide) ?_|(apply W_reg;(simp [h0, h1, h5, h6, h8, h10, hrb, hrb2, hrn, hrn2];exact .r _))
      refine W_cond (by simp [h0, h1, h5, h6, h8, h10, hrb, hrb2, hrn, hrn2]; exact .r _) (fun hd3 => ?_) (fun hd3 => ?_)
      · have hrk : r < acc.length := by simpa using hd3
        have hg3 : (rowsE acc)[r]? = some [.sl (rowsE acc[r])] := by simp [rowsE, hrk]
        repeat' first|refine W_seq ?_|refine W_block ?_|refine W_skip ?_|refine W_ret ?_|refine W_exit ?_|refine xb_hit ?_|refine xb_miss (by decide) ?_|(apply W_reg;(simp [h0, h1, h5, h6, h8, h10, hrb, hrb2, hrn, hrn2, hrk, hg3, hrl, x0, x0', x1, x1', hrne, hrne', show ac3.length + 1 < 1099511627776 by omega];exact .r _))
        refine ⟨_, ?_, r + 1, o3, ac3 ++ [acc[r]], rfl, rfl, ?_, ?_, ?_, ?_, ?_, ?_, by omega, (by simp [upd_app, x0, x0', hrne, hrne']), ?_, (by simp; omega), (by simp; omega), hrne, (by simp; omega), (by rw [← hq3, List.drop_eq_getElem_cons hrk]; simp)⟩
        all_goals first|assumption|(simp [h0, h1, h5, h6, h8, h10, hrb, hrb2, hrn, hrn2, rowsE_append, x0, x0', x1, x1', hrne, hrne', rowsE];done)|(simp [h0, h1, h5, h6, h8, h10, hrb, hrb2, hrn, hrn2, rowsE_append, x0, x0', x1, x1', hrne, hrne', rowsE];omega)|(simp [h0, h1, h5, h6, h8, h10, hrb, hrb2, hrn, hrn2, rowsE_append, x0, x0', x1, x1', hrne, hrne', rowsE];exact wrap_succ (by omega))|omega
      have hrk : r = acc.length := by simp at hd3; omega
      subst hrk
      rw [List.drop_length, List.append_nil] at hq3
      repeat' first|refine W_seq ?_|refine W_block ?_|refine W_skip ?_|refine W_ret ?_|refine W_exit ?_|refine xb_hit ?_|refine xb_miss (by decide) ?_|(apply W_reg;(simp [h0, h1, h5, h6, h8, h10, hrb, hrb2, hrn, hrn2];exact .r _))
      refine ⟨_, ?_, i + 1, o3, ac3, rfl, rfl, ?_, ?_, ?_, ?_, by omega, hrb2, hrn2, (by rw [hq3, List.take_succ_eq_append_getElem hil]; exact hS.ins hk hlt (fun _ _ => hnl) (fun e => by cases e))⟩
      all_goals first|assumption|(simp [h0, h1, h5, h6, h8, h10, hrb, hrb2, hrn, hrn2];done)|(simp [h0, h1, h5, h6, h8, h10, hrb, hrb2, hrn, hrn2];omega)|(simp [h0, h1, h5, h6, h8, h10, hrb, hrb2, hrn, hrn2];exact wrap_succ (by omega))|omega
  · have hil : i = l.length := by simp at hc; omega
    subst hil
    rw [List.take_length] at hS
    have he := hS.eq
    repeat' first|refine W_seq ?_|refine W_block ?_|refine W_skip ?_|refine W_ret ?_|refine W_exit ?_|refine xb_hit ?_|refine xb_miss (by decide) ?_|(apply W_reg;(simp [h0, h1, h5, h6, ho, hn];exact .r _))
    simp [ho, he]
theorem l6Sort_true (l : List Row) (hl : l.length < 1099511627775) (hs : ∀ x ∈ l, Sm x) : Ret XX 177 [Ar l, Bo true] (.own 1 (rowsE (srtU l))) := by
  refine ret_W rfl Tryz.func177 rfl rfl (by simp [Tryz.f177]) ?_
  simp only [Tryz.f177]
  repeat' first|refine W_seq ?_|refine W_block ?_|refine W_skip ?_|refine W_ret ?_|refine W_exit ?_|refine xb_hit ?_|refine xb_miss (by decide) ?_|(apply W_reg;(simp;exact .r _))
  refine W_loop (n := l.length) (fun n s => ∃ i : Nat, ∃ o : Nat, ∃ acc : List Row, n = l.length - i ∧ s.nt = 91 ∧ s.tm 0 = Ar l ∧ s.tm 1 = Bo true ∧ s.tm 5 = .ref o acc.length [] ∧ s.tm 6 = In i ∧ i ≤ l.length ∧ s.σ.ob o = .arr (.own 0) 0 1 (rowsE acc) ∧ o < s.σ.n ∧ SortI true acc (l.take i)) ⟨0, 0, [], by simp [SortI]⟩ ?_
  rintro n ⟨nt, tm, σ⟩ ⟨i, o, acc, rfl, hnt, h0, h1, h5, h6, hi, ho, hn, hS⟩
  simp only at hnt h0 h1 h5 h6 ho hn
  subst hnt
  repeat' first|refine W_seq ?_|refine W_block ?_|refine W_skip ?_|refine W_ret ?_|refine W_exit ?_|refine xb_hit ?_|refine xb_miss (by decide) ?_|(apply W_reg;(simp [h0, h1, h5, h6, ho, hn];exact .r _))
  refine W_cond (by simp [h0, h1, h5, h6, ho, hn]; exact .r _) (fun hc => ?_) (fun hc => ?_)
  · have hil : i < l.length := by simpa using hc
    have hlen := hS.len
    rw [List.length_take] at hlen
    have hsa : ∀ x ∈ acc, Sm x := fun x hx => hs x (List.mem_of_mem_take (hS.mem hx))
    have hrl : (rowsE acc).length = acc.length := rowsE_len ..
    repeat' first|refine W_seq ?_|refine W_block ?_|refine W_skip ?_|refine W_ret ?_|refine W_exit ?_|refine xb_hit ?_|refine xb_miss (by decide) ?_|(apply W_reg;(simp [h0, h1, h5, h6, ho, hn];exact .r _))
    refine W_loop (n := acc.length) (fun n s => ∃ k : Nat, n = 0 + k ∧ s.nt = 91 ∧ s.tm 0 = Ar l ∧ s.tm 1 = Bo true ∧ s.tm 5 = .ref o acc.length [] ∧ s.tm 6 = In i ∧ s.tm 7 = In k ∧ k ≤ acc.length ∧ s.σ.ob o = .arr (.own 0) 0 1 (rowsE acc) ∧ o < s.σ.n ∧ (∀ j (hj : j < acc.length), k ≤ j → cmpI l[i] acc[j] < 0)) ⟨acc.length, by simp [h0, h1, h5, h6, ho, hn]; exact fun j h1 h2 => by omega⟩ ?_
    rintro n ⟨nt, tm, σ⟩ ⟨k, rfl, hnt, h0, h1, h5, h6, h7, hk, ho1, hn1, hlt⟩
    simp only at hnt h0 h1 h5 h6 h7 ho1 hn1
    subst hnt
    rcases Nat.eq_zero_or_pos k with hk0 | hkp
    · repeat' first|refine W_seq ?_|refine W_block ?_|refine W_skip ?_|refine W_ret ?_|refine W_exit ?_|refine xb_hit ?_|refine xb_miss (by decide) ?_|(apply W_reg;(simp [h0, h1, h5, h6, h7, ho1, hn1, hk0];exact .r _))|(apply W_draw (id := 6) [0,1,3,7,7,31,63,7,7,263,903,1927,4095,8191] rfl rfl; (· simp; exact .r _); (· simp [h0, h1, h5, h6, h7, ho1, hn1, hk0]; exact .r _); (· first|trivial|simp))
      refine W_cond (by simp [h0, h1, h5, h6, h7, ho1, hn1]; exact .r _) (fun hd => ?_) (fun hd => ?_)
      · cases hd
      repeat' first|refine W_seq ?_|refine W_block ?_|refine W_skip ?_|refine W_ret ?_|refine W_exit ?_|refine xb_hit ?_|refine xb_miss (by decide) ?_|(apply W_reg;(simp [h0, h1, h5, h6, h7, ho1, hn1, hk0];exact .r _))|(apply W_draw (id := 8) [0,1,3,7,15,31,63,63,191,511,1023,63,63,6207,14399,32767,65535] rfl rfl; (· simp; exact .r _); (· simp [h0, h1, h5, h6, h7, ho1, hn1, hk0]; exact .r _); (· first|trivial|simp))
      refine W_cond (by simp [h0, h1, h5, h6, h7, ho1, hn1]; exact .r _) (fun hu => ?_) (fun hu => ?_)
      · cases hu
      repeat' first|refine W_seq ?_|refine W_block ?_|refine W_skip ?_|refine W_ret ?_|refine W_exit ?_|refine xb_hit ?_|refine xb_miss (by decide) ?_|(apply W_reg;(simp [h0, h1, h5, h6, h7, ho1, hn1];exact .r _))
      refine W_loop (n := k) (fun n s => ∃ m : Nat, ∃ o2 : Nat, ∃ ac2 : List Row, n = k - m ∧ s.nt = 91 ∧ s.tm 0 = Ar l ∧ s.tm 1 = Bo true ∧ s.tm 5 = .ref o acc.length [] ∧ s.tm 6 = In i ∧ s.tm 7 = In (k : Nat) ∧ s.tm 8 = .ref o2 ac2.length [] ∧ s.tm 9 = In m ∧ m ≤ k ∧ s.σ.ob o = .arr (.own m) 0 1 (rowsE acc) ∧ s.σ.ob o2 = .arr (.own 0) 0 1 (rowsE ac2) ∧ o < s.σ.n ∧ o2 < s.σ.n ∧ ¬ o = o2 ∧ ac2 = acc.take m) ⟨0, σ.n, [], by simp [upd_app, h0, h1, h5, h6, h7, show ¬ o = σ.n by omega, ho1]; omega⟩ ?_
      rintro n ⟨nt, tm, σ⟩ ⟨m, o2, ac2, rfl, hnt, h0, h1, h5, h6, h7, h8, h9, hm, hob, hob2, hon, hon2, hne, hq2⟩
      simp only at hnt h0 h1 h5 h6 h7 h8 h9 hob hob2 hon hon2
      subst hnt
      have n0 : ¬ (o = σ.n) := by omega
      have n0' : ¬ (σ.n = o) := by omega
      have n1 : ¬ (o2 = σ.n) := by omega
      have n1' : ¬ (σ.n = o2) := by omega
      have hne' : ¬ o2 = o := fun e => hne e.symm
      have hb2 : ac2.length ≤ m := by rw [hq2, List.length_take]; omega
      repeat' first|refine W_seq ?_|refine W_block ?_|refine W_skip ?_|refine W_ret ?_|refine W_exit ?_|refine xb_hit ?_|refine xb_miss (by decide) ?_|(apply W_reg;(simp [h0, h1, h5, h6, h7, h8, h9, hob, hob2, hon, hon2];exact .r _))
      refine W_cond (by simp [h0, h1, h5, h6, h7, h8, h9, hob, hob2, hon, hon2]; exact .r _) (fun hd2 => ?_) (fun hd2 => ?_)
      · have hmk : m < k := by simp at hd2; omega
        have hml : m < acc.length := by omega
        have hg2 : (rowsE acc)[m]? = some [.sl (rowsE acc[m])] := by simp [rowsE, hml]
        repeat' first|refine W_seq ?_|refine W_block ?_|refine W_skip ?_|refine W_ret ?_|refine W_exit ?_|refine xb_hit ?_|refine xb_miss (by decide) ?_|(apply W_reg;(simp [h0, h1, h5, h6, h7, h8, h9, hob, hob2, hon, hon2, hml, hg2, hrl, n0, n0', n1, n1', hne, hne', show ac2.length + 1 < 1099511627776 by omega];exact .r _))
        refine ⟨_, ?_, m + 1, o2, ac2 ++ [acc[m]], rfl, rfl, ?_, ?_, ?_, ?_, ?_, ?_, ?_, by omega, (by simp [upd_app, n0, n0', hne, hne']), ?_, (by simp; omega), (by simp; omega), hne, (by rw [hq2, List.take_succ_eq_append_getElem hml])⟩
        all_goals first|assumption|(simp [h0, h1, h5, h6, h7, h8, h9, hob, hob2, hon, hon2, rowsE_append, n0, n0', n1, n1', hne, hne', rowsE];done)|(simp [h0, h1, h5, h6, h7, h8, h9, hob, hob2, hon, hon2, rowsE_append, n0, n0', n1, n1', hne, hne', rowsE];omega)|(simp [h0, h1, h5, h6, h7, h8, h9, hob, hob2, hon, hon2, rowsE_append, n0, n0', n1, n1', hne, hne', rowsE];exact wrap_succ (by omega))|omega
      have hmk : k = m := by simp at hd2; omega
      subst hmk
      have y0 : ¬ (o = σ.n + 1) := by omega
      have y1 : ¬ (o2 = σ.n + 1) := by omega
      have y0' : ¬ (σ.n + 1 = o) := by omega
      have y1' : ¬ (σ.n + 1 = o2) := by omega
      have y2' : ¬ (σ.n + 2 = o2) := by omega
      have y2 : ¬ (o2 = σ.n + 2) := by omega
      have hgi : (rowsE l)[i]? = some [.sl (rowsE l[i])] := by simp [rowsE, hil]
      have hxl : l[i].length < 1099511627776 := by have := hs _ (List.getElem_mem hil); unfold Sm at this; omega
      repeat' first|refine W_seq ?_|refine W_block ?_|refine W_skip ?_|refine W_ret ?_|refine W_exit ?_|refine xb_hit ?_|refine xb_miss (by decide) ?_|(apply W_reg;(simp [h0, h1, h5, h6, h7, h8, h9, hob, hob2, hon, hon2, hil, hgi, hxl, n0, n0', n1, n1', hne, hne', y0, y1, y0', y1', y2, y2', show ac2.length + 1 < 1099511627776 by omega];exact .r _))
      refine W_loop (n := (acc.length - k)) (fun n s => ∃ r : Nat, ∃ o3 : Nat, ∃ ac3 : List Row, n = acc.length - r ∧ s.nt = 91 ∧ s.tm 0 = Ar l ∧ s.tm 1 = Bo true ∧ s.tm 5 = .ref o acc.length [] ∧ s.tm 6 = In i ∧ s.tm 8 = .ref o3 ac3.length [] ∧ s.tm 10 = In r ∧ r ≤ acc.length ∧ s.σ.ob o = .arr (.own r) 0 1 (rowsE acc) ∧ s.σ.ob o3 = .arr (.own 0) 0 1 (rowsE ac3) ∧ o < s.σ.n ∧ o3 < s.σ.n ∧ ¬ o = o3 ∧ ac3.length = r + 1 ∧ ac3 ++ acc.drop r = acc.take (k) ++ [l[i]] ++ acc.drop (k)) ⟨k, o2, ac2 ++ [l[i]], by simp [upd_app, h0, h1, h5, h6, n0, n0', n1, n1', hne, hne', y0, y1, y2, hob, rowsE_append, rowsE, hk, hq2]; omega⟩ ?_
      rintro n ⟨nt, tm, σ⟩ ⟨r, o3, ac3, rfl, hnt, h0, h1, h5, h6, h8, h10, hr, hrb, hrb2, hrn, hrn2, hrne, hr0, hq3⟩
      simp only at hnt h0 h1 h5 h6 h8 h10 hrb hrb2 hrn hrn2
      subst hnt
      have x0 : ¬ (o = σ.n) := by omega
      have x0' : ¬ (σ.n = o) := by omega
      have x1 : ¬ (o3 = σ.n) := by omega
      have x1' : ¬ (σ.n = o3) := by omega
      have hrne' : ¬ o3 = o := fun e => hrne e.symm
      repeat' first|refine W_seq ?_|refine W_block ?_|refine W_skip ?_|refine W_ret ?_|refine W_exit ?_|refine xb_hit ?_|refine xb_miss (by decide) ?_|(apply W_reg;(simp [h0, h1, h5, h6, h8, h10, hrb, hrb2, hrn, hrn2];exact .r _))
      refine W_cond (by simp [h0, h1, h5, h6, h8, h10, hrb, hrb2, hrn, hrn2]; exact .r _) (fun hd3 => ?_) (fun hd3 => ?_)
      · have hrk : r < acc.length := by simpa using hd3
        have hg3 : (rowsE acc)[r]? = some [.sl (rowsE acc[r])] := by simp [rowsE, hrk]
        repeat' first|refine W_seq ?_|refine W_block ?_|refine W_skip ?_|refine W_ret ?_|refine W_exit ?_|refine xb_hit ?_|refine xb_miss (by decide) ?_|(apply W_reg;(simp [h0, h1, h5, h6, h8, h10, hrb, hrb2, hrn, hrn2, hrk, hg3, hrl, x0, x0', x1, x1', hrne, hrne', show ac3.length + 1 < 1099511627776 by omega];exact .r _))
        refine ⟨_, ?_, r + 1, o3, ac3 ++ [acc[r]], rfl, rfl, ?_, ?_, ?_, ?_, ?_, ?_, by omega, (by simp [upd_app, x0, x0', hrne, hrne']), ?_, (by simp; omega), (by simp; omega), hrne, (by simp; omega), (by rw [← hq3, List.drop_eq_getElem_cons hrk]; simp)⟩
        all_goals first|assumption|(simp [h0, h1, h5, h6, h8, h10, hrb, hrb2, hrn, hrn2, rowsE_append, x0, x0', x1, x1', hrne, hrne', rowsE];done)|(simp [h0, h1, h5, h6, h8, h10, hrb, hrb2, hrn, hrn2, rowsE_append, x0, x0', x1, x1', hrne, hrne', rowsE];omega)|(simp [h0, h1, h5, h6, h8, h10, hrb, hrb2, hrn, hrn2, rowsE_append, x0, x0', x1, x1', hrne, hrne', rowsE];exact wrap_succ (by omega))|omega
      have hrk : r = acc.length := by simp at hd3; omega
      subst hrk
      rw [List.drop_length, List.append_nil] at hq3
      repeat' first|refine W_seq ?_|refine W_block ?_|refine W_skip ?_|refine W_ret ?_|refine W_exit ?_|refine xb_hit ?_|refine xb_miss (by decide) ?_|(apply W_reg;(simp [h0, h1, h5, h6, h8, h10, hrb, hrb2, hrn, hrn2];exact .r _))
      refine ⟨_, ?_, i + 1, o3, ac3, rfl, rfl, ?_, ?_, ?_, ?_, by omega, hrb2, hrn2, (by rw [hq3, List.take_succ_eq_append_getElem hil]; exact hS.ins hk hlt (fun _ h => by omega) (fun _ _ h => by omega))⟩
      all_goals first|assumption|(simp [h0, h1, h5, h6, h8, h10, hrb, hrb2, hrn, hrn2];done)|(simp [h0, h1, h5, h6, h8, h10, hrb, hrb2, hrn, hrn2];omega)|(simp [h0, h1, h5, h6, h8, h10, hrb, hrb2, hrn, hrn2];exact wrap_succ (by omega))|omega
    · obtain ⟨k', rfl⟩ : ∃ k', k = k' + 1 := ⟨k - 1, by omega⟩
      have hkl : k' < acc.length := by omega
      have h0k : (0 : Int) < (k' : Int) + 1 := by omega
      have hw : IntKind.i64.wrap (k' : Int) = (k' : Int) := wrap_ok (by omega) (by omega)
      have hg : (rowsE acc)[k']? = some [.sl (rowsE acc[k'])] := by simp [rowsE, hkl]
      have c1 := cv (l2Less_r l[i] acc[k'] (hs _ (List.getElem_mem hil)))
      have c2 := cv (l2Ints_r acc[k'] l[i] (hsa _ (List.getElem_mem hkl)))
      repeat' first|refine W_seq ?_|refine W_block ?_|refine W_skip ?_|refine W_ret ?_|refine W_exit ?_|refine xb_hit ?_|refine xb_miss (by decide) ?_|(apply W_reg;(simp [h0, h1, h5, h6, h7, ho1, hn1, h0k, hw, hrl, hg, c1, hil, hkl];exact .r _))|(apply W_draw (id := 6) [0,1,3,7,7,31,63,7,7,263,903,1927,4095,8191] rfl rfl; (· simp; exact .r _); (· simp [h0, h1, h5, h6, h7, ho1, hn1, h0k, hw, hrl, hg, c1, hil, hkl]; exact .r _); (· first|trivial|simp))
      refine W_cond (by simp [h0, h1, h5, h6, h7, ho1, hn1]; exact .r _) (fun hd => ?_) (fun hd => ?_)
      · have hlt2 : cmpI l[i] acc[k'] < 0 := by simpa using hd
        repeat' first|refine W_seq ?_|refine W_block ?_|refine W_skip ?_|refine W_ret ?_|refine W_exit ?_|refine xb_hit ?_|refine xb_miss (by decide) ?_|(apply W_reg;(simp [h0, h1, h5, h6, h7, ho1, hn1, hw];exact .r _))
        refine ⟨_, ?_, k', rfl, rfl, ?_, ?_, ?_, ?_, (by simp [hw]), by omega, ?_, ?_, (fun j hj hkj => by (by_cases e : j = k'; (subst e; exact hlt2); exact hlt j hj (by omega)))⟩
        all_goals first|assumption|(simp [h0, h1, h5, h6, h7, ho1, hn1];done)|(simp [h0, h1, h5, h6, h7, ho1, hn1];omega)|(simp [h0, h1, h5, h6, h7, ho1, hn1];exact wrap_succ (by omega))|omega
      have hnl : ¬ cmpI l[i] acc[k'] < 0 := by simpa using hd
      repeat' first|refine W_seq ?_|refine W_block ?_|refine W_skip ?_|refine W_ret ?_|refine W_exit ?_|refine xb_hit ?_|refine xb_miss (by decide) ?_|(apply W_reg;(simp [h0, h1, h5, h6, h7, ho1, hn1, h0k, hw, hrl, hg, c2, hil, hkl];exact .r _))|(apply W_draw (id := 8) [0,1,3,7,15,31,63,63,191,511,1023,63,63,6207,14399,32767,65535] rfl rfl; (· simp; exact .r _); (· simp [h0, h1, h5, h6, h7, ho1, hn1, h0k, hw, hrl, hg, c2, hil, hkl]; exact .r _); (· first|trivial|simp))
      refine W_cond (by simp [h0, h1, h5, h6, h7, ho1, hn1]; exact .r _) (fun hu => ?_) (fun hu => ?_)
      · have hee : acc[k'] = l[i] := by simpa using hu
        repeat' first|refine W_seq ?_|refine W_block ?_|refine W_skip ?_|refine W_ret ?_|refine W_exit ?_|refine xb_hit ?_|refine xb_miss (by decide) ?_|(apply W_reg;(simp [h0, h1, h5, h6, h7, ho1, hn1];exact .r _))
        refine ⟨_, ?_, i + 1, o, acc, rfl, rfl, ?_, ?_, ?_, ?_, by omega, ho1, hn1, (by rw [List.take_succ_eq_append_getElem hil]; exact hS.dup (by rw [← hee]; exact List.getElem_mem hkl))⟩
        all_goals first|assumption|(simp [h0, h1, h5, h6, h7, ho1, hn1];done)|(simp [h0, h1, h5, h6, h7, ho1, hn1];omega)|(simp [h0, h1, h5, h6, h7, ho1, hn1];exact wrap_succ (by omega))|omega
      have hee : ¬ acc[k'] = l[i] := by simpa using hu
      repeat' first|refine W_seq ?_|refine W_block ?_|refine W_skip ?_|refine W_ret ?_|refine W_exit ?_|refine xb_hit ?_|refine xb_miss (by decide) ?_|(apply W_reg;(simp [h0, h1, h5, h6, h7, ho1, hn1];exact .r _))
      refine W_loop (n := (k' + 1)) (fun n s => ∃ m : Nat, ∃ o2 : Nat, ∃ ac2 : List Row, n = (k' + 1) - m ∧ s.nt = 91 ∧ s.tm 0 = Ar l ∧ s.tm 1 = Bo true ∧ s.tm 5 = .ref o acc.length [] ∧ s.tm 6 = In i ∧ s.tm 7 = In ((k' + 1) : Nat) ∧ s.tm 8 = .ref o2 ac2.length [] ∧ s.tm 9 = In m ∧ m ≤ (k' + 1) ∧ s.σ.ob o = .arr (.own m) 0 1 (rowsE acc) ∧ s.σ.ob o2 = .arr (.own 0) 0 1 (rowsE ac2) ∧ o < s.σ.n ∧ o2 < s.σ.n ∧ ¬ o = o2 ∧ ac2 = acc.take m) ⟨0, σ.n, [], by simp [upd_app, h0, h1, h5, h6, h7, show ¬ o = σ.n by omega, ho1]; omega⟩ ?_
      rintro n ⟨nt, tm, σ⟩ ⟨m, o2, ac2, rfl, hnt, h0, h1, h5, h6, h7, h8, h9, hm, hob, hob2, hon, hon2, hne, hq2⟩
      simp only at hnt h0 h1 h5 h6 h7 h8 h9 hob hob2 hon hon2
      subst hnt
      have n0 : ¬ (o = σ.n) := by omega
      have n0' : ¬ (σ.n = o) := by omega
      have n1 : ¬ (o2 = σ.n) := by omega
      have n1' : ¬ (σ.n = o2) := by omega
      have hne' : ¬ o2 = o := fun e => hne e.symm
      have hb2 : ac2.length ≤ m := by rw [hq2, List.length_take]; omega
      repeat' first|refine W_seq ?_|refine W_block ?_|refine W_skip ?_|refine W_ret ?_|refine W_exit ?_|refine xb_hit ?_|refine xb_miss (by decide) ?_|(apply W_reg;(simp [h0, h1, h5, h6, h7, h8, h9, hob, hob2, hon, hon2];exact .r _))
      refine W_cond (by simp [h0, h1, h5, h6, h7, h8, h9, hob, hob2, hon, hon2]; exact .r _) (fun hd2 => ?_) (fun hd2 => ?_)
      · have hmk : m < (k' + 1) := by simp at hd2; omega
        have hml : m < acc.length := by omega
        have hg2 : (rowsE acc)[m]? = some [.sl (rowsE acc[m])] := by simp [rowsE, hml]
        repeat' first|refine W_seq ?_|refine W_block ?_|refine W_skip ?_|refine W_ret ?_|refine W_exit ?_|refine xb_hit ?_|refine xb_miss (by decide) ?_|(apply W_reg;(simp [h0, h1, h5, h6, h7, h8, h9, hob, hob2, hon, hon2, hml, hg2, hrl, n0, n0', n1, n1', hne, hne', show ac2.length + 1 < 1099511627776 by omega];exact .r _))
        refine ⟨_, ?_, m + 1, o2, ac2 ++ [acc[m]], rfl, rfl, ?_, ?_, ?_, ?_, ?_, ?_, ?_, by omega, (by simp [upd_app, n0, n0', hne, hne']), ?_, (by simp; omega), (by simp; omega), hne, (by rw [hq2, List.take_succ_eq_append_getElem hml])⟩
        all_goals first|assumption|(simp [h0, h1, h5, h6, h7, h8, h9, hob, hob2, hon, hon2, rowsE_append, n0, n0', n1, n1', hne, hne', rowsE];done)|(simp [h0, h1, h5, h6, h7, h8, h9, hob, hob2, hon, hon2, rowsE_append, n0, n0', n1, n1', hne, hne', rowsE];omega)|(simp [h0, h1, h5, h6, h7, h8, h9, hob, hob2, hon, hon2, rowsE_append, n0, n0', n1, n1', hne, hne', rowsE];exact wrap_succ (by omega))|omega
      have hmk : (k' + 1) = m := by simp at hd2; omega
      subst hmk
      have y0 : ¬ (o = σ.n + 1) := by omega
      have y1 : ¬ (o2 = σ.n + 1) := by omega
      have y0' : ¬ (σ.n + 1 = o) := by omega
      have y1' : ¬ (σ.n + 1 = o2) := by omega
      have y2' : ¬ (σ.n + 2 = o2) := by omega
      have y2 : ¬ (o2 = σ.n + 2) := by omega
      have hgi : (rowsE l)[i]? = some [.sl (rowsE l[i])] := by simp [rowsE, hil]
      have hxl : l[i].length < 1099511627776 := by have := hs _ (List.getElem_mem hil); unfold Sm at this; omega
      repeat' first|refine W_seq ?_|refine W_block ?_|refine W_skip ?_|refine W_ret ?_|refine W_exit ?_|refine xb_hit ?_|refine xb_miss (by decide) ?_|(apply W_reg;(simp [h0, h1, h5, h6, h7, h8, h9, hob, hob2, hon, hon2, hil, hgi, hxl, n0, n0', n1, n1', hne, hne', y0, y1, y0', y1', y2, y2', show ac2.length + 1 < 1099511627776 by omega];exact .r _))
      refine W_loop (n := (acc.length - (k' + 1))) (fun n s => ∃ r : Nat, ∃ o3 : Nat, ∃ ac3 : List Row, n = acc.length - r ∧ s.nt = 91 ∧ s.tm 0 = Ar l ∧ s.tm 1 = Bo true ∧ s.tm 5 = .ref o acc.length [] ∧ s.tm 6 = In i ∧ s.tm 8 = .ref o3 ac3.length [] ∧ s.tm 10 = In r ∧ r ≤ acc.length ∧ s.σ.ob o = .arr (.own r) 0 1 (rowsE acc) ∧ s.σ.ob o3 = .arr (.own 0) 0 1 (rowsE ac3) ∧ o < s.σ.n ∧ o3 < s.σ.n ∧ ¬ o = o3 ∧ ac3.length = r + 1 ∧ ac3 ++ acc.drop r = acc.take ((k' + 1)) ++ [l[i]] ++ acc.drop ((k' + 1))) ⟨(k' + 1), o2, ac2 ++ [l[i]], by simp [upd_app, h0, h1, h5, h6, n0, n0', n1, n1', hne, hne', y0, y1, y2, hob, rowsE_append, rowsE, hk, hq2]; omega⟩ ?_
      rintro n ⟨nt, tm, σ⟩ ⟨r, o3, ac3, rfl, hnt, h0, h1, h5, h6, h8, h10, hr, hrb, hrb2, hrn, hrn2, hrne, hr0, hq3⟩
      simp only at hnt h0 h1 h5 h6 h8 h10 hrb hrb2 hrn hrn2
      subst hnt
      have x0 : ¬ (o = σ.n) := by omega
      have x0' : ¬ (σ.n = o) := by omega
      have x1 : ¬ (o3 = σ.n) := by omega
      have x1' : ¬ (σ.n = o3) := by omega
      have hrne' : ¬ o3 = o := fun e => hrne e.symm
      repeat' first|refine W_seq ?_|refine W_block ?_|refine W_skip ?_|refine W_ret ?_|refine W_exit ?_|refine xb_hit ?_|refine xb_miss (by decide) ?_|(apply W_reg;(simp [h0, h1, h5, h6, h8, h10, hrb, hrb2, hrn, hrn2];exact .r _))
      refine W_cond (by simp [h0, h1, h5, h6, h8, h10, hrb, hrb2, hrn, hrn2]; exact .r _) (fun hd3 => ?_) (fun hd3 => ?_)
      · have hrk : r < acc.length := by simpa using hd3
        have hg3 : (rowsE acc)[r]? = some [.sl (rowsE acc[r])] := by simp [rowsE, hrk]
        repeat' first|refine W_seq ?_|refine W_block ?_|refine W_skip ?_|refine W_ret ?_|refine W_exit ?_|refine xb_hit ?_|refine xb_miss (by decide) ?_|(apply W_reg;(simp [h0, h1, h5, h6, h8, h10, hrb, hrb2, hrn, hrn2, hrk, hg3, hrl, x0, x0', x1, x1', hrne, hrne', show ac3.length + 1 < 1099511627776 by omega];exact .r _))
        refine ⟨_, ?_, r + 1, o3, ac3 ++ [acc[r]], rfl, rfl, ?_, ?_, ?_, ?_, ?_, ?_, by omega, (by simp [upd_app, x0, x0', hrne, hrne']), ?_, (by simp; omega), (by simp; omega), hrne, (by simp; omega), (by rw [← hq3, List.drop_eq_getElem_cons hrk]; simp)⟩
        all_goals first|assumption|(simp [h0, h1, h5, h6, h8, h10, hrb, hrb2, hrn, hrn2, rowsE_append, x0, x0', x1, x1', hrne, hrne', rowsE];done)|(simp [h0, h1, h5, h6, h8, h10, hrb, hrb2, hrn, hrn2, rowsE_append, x0, x0', x1, x1', hrne, hrne', rowsE];omega)|(simp [h0, h1, h5, h6, h8, h10, hrb, hrb2, hrn, hrn2, rowsE_append, x0, x0', x1, x1', hrne, hrne', rowsE];exact wrap_succ (by omega))|omega
      have hrk : r = acc.length := by simp at hd3; omega
      subst hrk
      rw [List.drop_length, List.append_nil] at hq3
      repeat' first|refine W_seq ?_|refine W_block ?_|refine W_skip ?_|refine W_ret ?_|refine W_exit ?_|refine xb_hit ?_|refine xb_miss (by decide) ?_|(apply W_reg;(simp [h0, h1, h5, h6, h8, h10, hrb, hrb2, hrn, hrn2];exact .r _))
      refine ⟨_, ?_, i + 1, o3, ac3, rfl, rfl, ?_, ?_, ?_, ?_, by omega, hrb2, hrn2, (by rw [hq3, List.take_succ_eq_append_getElem hil]; exact hS.ins hk hlt (fun _ _ => hnl) (fun _ _ _ => hee))⟩
      all_goals first|assumption|(simp [h0, h1, h5, h6, h8, h10, hrb, hrb2, hrn, hrn2];done)|(simp [h0, h1, h5, h6, h8, h10, hrb, hrb2, hrn, hrn2];omega)|(simp [h0, h1, h5, h6, h8, h10, hrb, hrb2, hrn, hrn2];exact wrap_succ (by omega))|omega
  · have hil : i = l.length := by simp at hc; omega
    subst hil
    rw [List.take_length] at hS
    have he := hS.eq
    repeat' first|refine W_seq ?_|refine W_block ?_|refine W_skip ?_|refine W_ret ?_|refine W_exit ?_|refine xb_hit ?_|refine xb_miss (by decide) ?_|(apply W_reg;(simp [h0, h1, h5, h6, ho, hn];exact .r _))
    simp [ho, he]
end Go.Proofs.YtmfifjbbjjdacaaGreat.V

namespace Go.Proofs.YtmfifjbbjjdacaaGreat.V
open Go Go.Proofs
set_option linter.unusedVariables false
set_option linter.unusedSimpArgs false
/-- All bindings' rows, sorted, each once. -/
def rawB (q : Qry) (db : List RA) : List Row := srtU ((binds db q.body b0).map encB)
theorem l6Raw_r (q : Qry) (db : List RA) (hbl : q.body.length ≤ 4) (hbody : ∀ a ∈ q.body, a.args.length ≤ 1000 ∧ ∀ t ∈ a.args, isTerm t = true) (hdl : db.length ≤ 24) (hdb : ∀ x ∈ db, Sm x.args) : Ret XX 262 [Ag q, Ar db] (.own 1 (rowsE (rawB q db))) := by
  refine ret_W rfl Tryz.func262 rfl rfl (by simp [Tryz.f262]) ?_
  simp only [Tryz.f262]
  have hbn := binds_le db q.body b0
  have hpow : db.length ^ q.body.length ≤ 24 ^ 4 := Nat.le_trans (Nat.pow_le_pow_left hdl _) (Nat.pow_le_pow_right (by omega) hbl)
  have hp4 : (24 : Nat) ^ 4 = 331776 := by decide
  refine W_seq ?_
  apply W_reg; (simp [Ag]; exact .r _)
  refine W_seq ?_
  apply W_reg; (simp; exact .r _)
  refine W_gen (fun s2 => Ok 2 1 [] s2 [] ∧ s2.n = 3 ∧ s2.ob 0 = .box [Ar q.head, Ar q.body]) ?_ (fun s2 hq2 => ?_)
  · refine ⟨⟨by simp [upd_app], by simp [upd_app], by simp, by simp, by omega, fun x hx => (by cases hx), fun x hx => ?_, fun x hx => ?_⟩, rfl, by simp [upd_app]⟩
    · have hx : x < 3 := hx
      rcases (by omega : x = 0 ∨ x = 1 ∨ x = 2) with rfl | rfl | rfl <;> simp [upd_app, VO.clean, cleanA, clean1]
    · have hx : 3 ≤ x := hx
      simp [upd_app, show ¬ x = 0 by omega, show ¬ x = 1 by omega, show ¬ x = 2 by omega]
  obtain ⟨hok, hn3, hq1⟩ := hq2
  have b40 : (bL b0).length = 40 := rfl
  have ce := cv l6Empty_r rfl s2 [] rfl
  have hok2 : Ok 2 1 [] ⟨4, upd s2.ob 3 (.arr (.own 0) 0 1 (rowsE (bL b0)))⟩ [] := hok.grow (by simp [hn3]) (fun x hx => by simp only [upd_app]; rw [if_neg (by omega)]) (fun x h1 h2 => by
    have h2' : x < 4 := h2
    obtain rfl : x = 3 := by omega
    simp [upd_app, VO.clean]) (fun x hx => by
    have hx' : 4 ≤ x := hx
    simp only [upd_app]; rw [if_neg (by omega)]; exact hok.dd x (by omega))
  obtain ⟨m, st, sz, rows, hcall⟩ := search_c (q := q) (db := db) (by omega) hbody (by unfold Sm; omega) hdb _ 0 b0 ⟨4, upd s2.ob 3 (.arr (.own 0) 0 1 (rowsE (bL b0)))⟩ [] 3 rfl (Nat.zero_le _) rfl hok2 (by simp [upd_app]) (by omega) (by omega) (by show 3 < 4; omega) (by simp; omega)
  simp only [List.drop_zero, List.nil_append, Int.natCast_zero] at hcall
  have hAq : Ag q = .agg [.t (.sl (rowsE q.head)), .t (.sl (rowsE q.body))] := rfl
  rw [hAq] at hcall
  generalize hA : (binds db q.body b0).map encB = accF at *
  have hlen : accF.length ≤ 331776 := by rw [← hA, List.length_map]; omega
  have hsm : ∀ x ∈ accF, Sm x := fun x hx => by
    rw [← hA] at hx
    obtain ⟨b, hb1, hb2⟩ := List.mem_map.1 hx
    have hbl := binds_len (fun a ha t ht => by have := isTerm_iff.1 ((hbody a ha).2 t ht); simp only [b0_len]; omega) hb1
    rw [← hb2]
    unfold Sm
    rw [encB_len, hbl, b0_len]; omega
  have cs := cv (l6Sort_true accF (by omega) hsm)
  repeat' first|refine W_seq ?_|refine W_block ?_|refine W_skip ?_|refine W_ret ?_|refine W_exit ?_|refine xb_hit ?_|refine xb_miss (by decide) ?_|(apply W_reg;(simp [hq1, ce, b40, hn3, hcall, St_ob, cs];exact .r _))|(apply W_draw (id := 2) [0,0,0,7] rfl rfl; (· simp; exact .r _); (· simp [hq1, ce, b40, hn3, hcall, St_ob, cs]; exact .r _); (· first|trivial|simp))
  rw [show rawB q db = srtU accF by rw [rawB, hA]]
  simp
/-- A term under a binding's row. -/
def valR (row : Row) (t : Int) : Int := if t < 0 then -1 - t else (row[t.toNat]?).getD 0
theorem l6Tuple_r (ts row : List Int) (hr : row.length = 20) (hl : Sm ts) (ht : ∀ t ∈ ts, isTerm t = true) : Ret XX 189 [Ar ts, Ar row] (.own 1 (rowsE (ts.map (valR row)))) := by
  refine ret_W rfl Tryz.func189 rfl rfl (by simp [Tryz.f189]) ?_
  simp only [Tryz.f189]
  repeat' first|refine W_seq ?_|refine W_block ?_|refine W_skip ?_|refine W_ret ?_|refine W_exit ?_|refine xb_hit ?_|refine xb_miss (by decide) ?_|(apply W_reg;(simp;exact .r _))
  refine W_loop (n := ts.length) (fun n s => ∃ i : Nat, ∃ acc : List Int, n = ts.length - i ∧ s.nt = 38 ∧ s.tm 0 = Ar ts ∧ s.tm 1 = Ar row ∧ s.tm 5 = .ref 0 acc.length [] ∧ s.tm 6 = In i ∧ i ≤ ts.length ∧ s.σ.ob 0 = .arr (.own 0) 0 1 (rowsE acc) ∧ 1 ≤ s.σ.n ∧ acc = (ts.take i).map (valR row)) ⟨0, [], by simp⟩ ?_
  rintro n ⟨nt, tm, σ⟩ ⟨i, acc, rfl, hnt, h0, h1, h5, h6, hi, ho, hn, hacc⟩
  simp only at hnt h0 h1 h5 h6 ho hn
  subst hnt
  have n0 : ¬ (0 = σ.n) := by omega
  have n0' : ¬ (σ.n = 0) := by omega
  have hal : acc.length ≤ i := by rw [hacc, List.length_map, List.length_take]; omega
  repeat' first|refine W_seq ?_|refine W_block ?_|refine W_skip ?_|refine W_ret ?_|refine W_exit ?_|refine xb_hit ?_|refine xb_miss (by decide) ?_|(apply W_reg;(simp [h0, h1, h5, h6, ho, hn];exact .r _))
  refine W_cond (by simp [h0, h1, h5, h6, ho, hn]; exact .r _) (fun hc => ?_) (fun hc => ?_)
  · have hil : i < ts.length := by simpa using hc
    have htr := isTerm_iff.1 (ht _ (List.getElem_mem hil))
    have htk : (ts.take (i + 1)).map (valR row) = acc ++ [valR row ts[i]] := by rw [List.take_succ_eq_append_getElem hil, List.map_append, ← hacc]; rfl
    repeat' first|refine W_seq ?_|refine W_block ?_|refine W_skip ?_|refine W_ret ?_|refine W_exit ?_|refine xb_hit ?_|refine xb_miss (by decide) ?_|(apply W_reg;(simp [h0, h1, h5, h6, ho, hn, hil];exact .r _))
    refine W_cond (by simp [h0, h1, h5, h6, ho, hn]; exact .r _) (fun hd => ?_) (fun hd => ?_)
    · have h0' : ts[i] < 0 := by simpa using hd
      have hw : IntKind.i64.wrap (-1 - ts[i]) = -1 - ts[i] := wrap_ok (by omega) (by omega)
      repeat' first|refine W_seq ?_|refine W_block ?_|refine W_skip ?_|refine W_ret ?_|refine W_exit ?_|refine xb_hit ?_|refine xb_miss (by decide) ?_|(apply W_reg;(simp [h0, h1, h5, h6, ho, hn, hil, hw, n0, n0', show acc.length + 1 < 1099511627776 by omega];exact .r _))
      refine ⟨_, ?_, i + 1, acc ++ [-1 - ts[i]], rfl, rfl, ?_, ?_, ?_, ?_, by omega, ?_, ?_, (by rw [htk, valR, if_pos h0'])⟩
      all_goals first|assumption|(simp [h0, h1, h5, h6, ho, hn, rowsE_append, n0, n0', rowsE];done)|(simp [h0, h1, h5, h6, ho, hn, rowsE_append, n0, n0', rowsE];omega)|(simp [h0, h1, h5, h6, ho, hn, rowsE_append, n0, n0', rowsE];exact wrap_succ (by omega))|omega
    · have h0' : 0 ≤ ts[i] := by simp at hd; omega
      have htl : ts[i].toNat < row.length := by omega
      repeat' first|refine W_seq ?_|refine W_block ?_|refine W_skip ?_|refine W_ret ?_|refine W_exit ?_|refine xb_hit ?_|refine xb_miss (by decide) ?_|(apply W_reg;(simp [h0, h1, h5, h6, ho, hn, hil, htl, h0', n0, n0', show acc.length + 1 < 1099511627776 by omega];exact .r _))
      refine ⟨_, ?_, i + 1, acc ++ [row[ts[i].toNat]], rfl, rfl, ?_, ?_, ?_, ?_, by omega, ?_, ?_, (by rw [htk, valR, if_neg (by omega), List.getElem?_eq_getElem htl]; rfl)⟩
      all_goals first|assumption|(simp [h0, h1, h5, h6, ho, hn, rowsE_append, n0, n0', rowsE];done)|(simp [h0, h1, h5, h6, ho, hn, rowsE_append, n0, n0', rowsE];omega)|(simp [h0, h1, h5, h6, ho, hn, rowsE_append, n0, n0', rowsE];exact wrap_succ (by omega))|omega
  · have hil : i = ts.length := by simp at hc; omega
    subst hil
    rw [List.take_length] at hacc
    subst hacc
    repeat' first|refine W_seq ?_|refine W_block ?_|refine W_skip ?_|refine W_ret ?_|refine W_exit ?_|refine xb_hit ?_|refine xb_miss (by decide) ?_|(apply W_reg;(simp [h0, h1, h5, h6, ho, hn];exact .r _))
    simp [ho]
theorem specBindings_r (c : Sch) (q : Qry) (db : List RA) (hc : Lw.bd 1048576 c) (hq : Lw.bd 1048576 q) (hd : Lw.bd 1048576 db) : Ret XX 179 [Ag c, Ag q, Ar db] (.own 1 (rowsE (if isQry c q && isDb c db then rawB q db else []))) := by
  refine ret_W rfl Tryz.func179 rfl rfl (by simp [Tryz.f179]) ?_
  simp only [Tryz.f179]
  have sc : Sm c.arity := Nat.lt_of_le_of_lt hc.1 (by omega)
  have sh : Sm q.head := Nat.lt_of_le_of_lt hq.1.1 (by omega)
  have sb : Sm q.body := Nat.lt_of_le_of_lt hq.2.1 (by omega)
  have sba : ∀ a ∈ q.body, Sm a.args := fun a ha => Nat.lt_of_le_of_lt (hq.2.2 a ha).1 (by omega)
  have sd : Sm db := Nat.lt_of_le_of_lt hd.1 (by omega)
  have sda : ∀ a ∈ db, Sm a.args := fun a ha => Nat.lt_of_le_of_lt (hd.2 a ha).1 (by omega)
  have c1 := cv (specIsQuery_r c q sc sh sb sba)
  have c2 := cv (specIsDb_r c db sc sd sda)
  simp only [Ag, cells_Sch, cells_Q, List.map_cons, List.map_nil] at c1 c2
  cases e1 : isQry c q
  · repeat' first|refine W_seq ?_|refine W_block ?_|refine W_skip ?_|refine W_ret ?_|refine W_exit ?_|refine xb_hit ?_|refine xb_miss (by decide) ?_|(apply W_reg;(simp [Ag, c1, e1];exact .r _))
    refine W_cond (by simp; exact .r _) (fun hc => ?_) (fun hc => ?_)
    · repeat' first|refine W_seq ?_|refine W_block ?_|refine W_skip ?_|refine W_ret ?_|refine W_exit ?_|refine xb_hit ?_|refine xb_miss (by decide) ?_|(apply W_reg;(simp;exact .r _))
      simp
    · cases hc
  cases e2 : isDb c db
  · repeat' first|refine W_seq ?_|refine W_block ?_|refine W_skip ?_|refine W_ret ?_|refine W_exit ?_|refine xb_hit ?_|refine xb_miss (by decide) ?_|(apply W_reg;(simp [Ag, c1, e1, c2, e2];exact .r _))
    refine W_cond (by simp; exact .r _) (fun hc => ?_) (fun hc => ?_)
    · repeat' first|refine W_seq ?_|refine W_block ?_|refine W_skip ?_|refine W_ret ?_|refine W_exit ?_|refine xb_hit ?_|refine xb_miss (by decide) ?_|(apply W_reg;(simp;exact .r _))
      simp
    · cases hc
  repeat' first|refine W_seq ?_|refine W_block ?_|refine W_skip ?_|refine W_ret ?_|refine W_exit ?_|refine xb_hit ?_|refine xb_miss (by decide) ?_|(apply W_reg;(simp [Ag, c1, e1, c2, e2];exact .r _))
  refine W_cond (by simp; exact .r _) (fun hc => ?_) (fun hc => ?_)
  · cases hc
  have hqs := isQry_small e1
  have hdl : db.length ≤ 24 := by simp [isDb] at e2; omega
  have c3 := cv (l6Raw_r q db hqs.2.1 (fun a ha => ⟨by have := (hqs.2.2.2 a ha).1; omega, fun t ht => isTerm_iff.2 ((hqs.2.2.2 a ha).2 t ht)⟩) hdl sda)
  simp only [Ag, cells_Q, List.map_cons, List.map_nil] at c3
  repeat' first|refine W_seq ?_|refine W_block ?_|refine W_skip ?_|refine W_ret ?_|refine W_exit ?_|refine xb_hit ?_|refine xb_miss (by decide) ?_|(apply W_reg;(simp [c3];exact .r _))
  simp
end Go.Proofs.YtmfifjbbjjdacaaGreat.V

namespace Go.Proofs.YtmfifjbbjjdacaaGreat.V
open Go Go.Proofs
set_option linter.unusedVariables false
set_option linter.unusedSimpArgs false
/-- Whether an atom becomes the fact under a row. -/
def usesR (body : List RA) (fc : RA) (row : Row) : Bool := body.any fun a => decide ((⟨a.rel, a.args.map (valR row)⟩ : RA) = fc)
theorem usesR_cons {a : RA} {l : List RA} {fc : RA} {row : Row} : usesR (a :: l) fc row = (decide ((⟨a.rel, a.args.map (valR row)⟩ : RA) = fc) || usesR l fc row) := by rw [usesR, List.any_cons]; rfl
theorem usesR_nil {fc : RA} {row : Row} : usesR [] fc row = false := by rw [usesR]; rfl
theorem l19Uses_r (q : Qry) (row : Row) (fc : RA) (hr : row.length = 20) (hb : Sm q.body) (hbody : ∀ a ∈ q.body, a.args.length ≤ 1000 ∧ ∀ t ∈ a.args, isTerm t = true) : Ret XX 188 [Ag q, Ar row, Ag fc] (.t (.b (usesR q.body fc row)) false) := by
  refine ret_W rfl Tryz.func188 rfl rfl (by simp [Tryz.f188]) ?_
  simp only [Tryz.f188]
  repeat' first|refine W_seq ?_|refine W_block ?_|refine W_skip ?_|refine W_ret ?_|refine W_exit ?_|refine xb_hit ?_|refine xb_miss (by decide) ?_|(apply W_reg;(simp [Ag];exact .r _))
  refine W_loop (n := q.body.length) (fun n s => ∃ i : Nat, n = q.body.length - i ∧ s.nt = 37 ∧ s.tm 1 = Ar row ∧ s.tm 3 = .ptr 0 0 ∧ s.tm 5 = .ptr 1 0 ∧ s.tm 7 = In i ∧ i ≤ q.body.length ∧ s.σ.ob 0 = .box [Ar q.head, Ar q.body] ∧ s.σ.ob 1 = .box [In fc.rel, Ar fc.args] ∧ 2 ≤ s.σ.n ∧ usesR q.body fc row = usesR (q.body.drop i) fc row) ⟨0, by simp⟩ ?_
  rintro n ⟨nt, tm, σ⟩ ⟨i, rfl, hnt, h1, h3, h5, h7, hi, hb0, hb1, hn, heq⟩
  simp only at hnt h1 h3 h5 h7 hb0 hb1 hn
  subst hnt
  have n0 : ¬ (0 = σ.n) := by omega
  have n1 : ¬ (1 = σ.n) := by omega
  have n0' : ¬ (σ.n = 0) := by omega
  have n1' : ¬ (σ.n = 1) := by omega
  repeat' first|refine W_seq ?_|refine W_block ?_|refine W_skip ?_|refine W_ret ?_|refine W_exit ?_|refine xb_hit ?_|refine xb_miss (by decide) ?_|(apply W_reg;(simp [h1, h3, h5, h7, hb0, hb1, hn];exact .r _))
  refine W_cond (by simp [h1, h3, h5, h7, hb0, hb1, hn]; exact .r _) (fun hc => ?_) (fun hc => ?_)
  · have hil : i < q.body.length := by simpa using hc
    have hbi := hbody _ (List.getElem_mem hil)
    have c1 := cv (l6Tuple_r q.body[i].args row hr (by unfold Sm; omega) hbi.2)
    have c2 := cv (l2Ints_r (q.body[i].args.map (valR row)) fc.args (by unfold Sm; simp; omega))
    rw [List.drop_eq_getElem_cons hil, usesR_cons] at heq
    by_cases he : q.body[i].rel = fc.rel
    · have htl : (rowsE (q.body[i].args.map (valR row))).length = q.body[i].args.length := by rw [rowsE_len, List.length_map]
      have htk : (rowsE (q.body[i].args.map (valR row))).take q.body[i].args.length = rowsE (q.body[i].args.map (valR row)) := by rw [← htl, List.take_length]
      repeat' first|refine W_seq ?_|refine W_block ?_|refine W_skip ?_|refine W_ret ?_|refine W_exit ?_|refine xb_hit ?_|refine xb_miss (by decide) ?_|(apply W_reg;(simp [h1, h3, h5, h7, hb0, hb1, hn, hil, he, c1, c2, n0, n1, n0', n1', htl, htk];exact .r _))|(apply W_draw (id := 4) [0,1,0,7,15,31,0,64,255,511,1023,2047,1023,8191,16383,32767,1023,131071,1023,263167,1048575,2097151] rfl rfl; (· simp; exact .r _); (· simp [h1, h3, h5, h7, hb0, hb1, hn, hil, he, c1, c2, n0, n1, n0', n1', htl, htk]; exact .r _); (· first|trivial|simp))
      refine W_cond (by simp [h1, h3, h5, h7, hb0, hb1, hn]; exact .r _) (fun hd => ?_) (fun hd => ?_)
      · repeat' first|refine W_seq ?_|refine W_block ?_|refine W_skip ?_|refine W_ret ?_|refine W_exit ?_|refine xb_hit ?_|refine xb_miss (by decide) ?_|(apply W_reg;(simp [h1, h3, h5, h7, hb0, hb1, hn];exact .r _))
        have hd' : q.body[i].args.map (valR row) = fc.args := by simpa using hd
        rw [heq]
        have : (⟨q.body[i].rel, q.body[i].args.map (valR row)⟩ : RA) = fc := by rw [he, hd']
        simp [this]
      · have hd' : ¬ q.body[i].args.map (valR row) = fc.args := by simpa using hd
        have hne : ¬ (⟨q.body[i].rel, q.body[i].args.map (valR row)⟩ : RA) = fc := fun e => hd' (by rw [← e])
        repeat' first|refine W_seq ?_|refine W_block ?_|refine W_skip ?_|refine W_ret ?_|refine W_exit ?_|refine xb_hit ?_|refine xb_miss (by decide) ?_|(apply W_reg;(simp [h1, h3, h5, h7, hb0, hb1, hn];exact .r _))
        refine ⟨_, ?_, i + 1, rfl, rfl, ?_, ?_, ?_, ?_, by omega, ?_, ?_, ?_, (by rw [heq, decide_eq_false hne]; rfl)⟩
        all_goals first|assumption|(simp [h1, h3, h5, h7, hb0, hb1, hn, n0, n1, n0', n1'];done)|(simp [h1, h3, h5, h7, hb0, hb1, hn, n0, n1, n0', n1'];omega)|(simp [h1, h3, h5, h7, hb0, hb1, hn, n0, n1, n0', n1'];exact wrap_succ (by omega))|omega
    · have hne : ¬ (⟨q.body[i].rel, q.body[i].args.map (valR row)⟩ : RA) = fc := fun e => he (by rw [← e])
      repeat' first|refine W_seq ?_|refine W_block ?_|refine W_skip ?_|refine W_ret ?_|refine W_exit ?_|refine xb_hit ?_|refine xb_miss (by decide) ?_|(apply W_reg;(simp [h1, h3, h5, h7, hb0, hb1, hn, hil, he];exact .r _))|(apply W_draw (id := 4) [0,1,0,7,15,31,0,64,255,511,1023,2047,1023,8191,16383,32767,1023,131071,1023,263167,1048575,2097151] rfl rfl; (· simp; exact .r _); (· simp [h1, h3, h5, h7, hb0, hb1, hn, hil, he]; exact .r _); (· first|trivial|simp))
      refine W_cond (by simp [h1, h3, h5, h7, hb0, hb1, hn]; exact .r _) (fun hd => ?_) (fun hd => ?_)
      · cases hd
      repeat' first|refine W_seq ?_|refine W_block ?_|refine W_skip ?_|refine W_ret ?_|refine W_exit ?_|refine xb_hit ?_|refine xb_miss (by decide) ?_|(apply W_reg;(simp [h1, h3, h5, h7, hb0, hb1, hn];exact .r _))
      refine ⟨_, ?_, i + 1, rfl, rfl, ?_, ?_, ?_, ?_, by omega, ?_, ?_, ?_, (by rw [heq, decide_eq_false hne]; rfl)⟩
      all_goals first|assumption|(simp [h1, h3, h5, h7, hb0, hb1, hn, n0, n1, n0', n1'];done)|(simp [h1, h3, h5, h7, hb0, hb1, hn, n0, n1, n0', n1'];omega)|(simp [h1, h3, h5, h7, hb0, hb1, hn, n0, n1, n0', n1'];exact wrap_succ (by omega))|omega
  · have hil : i = q.body.length := by simp at hc; omega
    subst hil
    rw [List.drop_length, usesR_nil] at heq
    repeat' first|refine W_seq ?_|refine W_block ?_|refine W_skip ?_|refine W_ret ?_|refine W_exit ?_|refine xb_hit ?_|refine xb_miss (by decide) ?_|(apply W_reg;(simp [h1, h3, h5, h7, hb0, hb1, hn];exact .r _))
    simp [heq]
def headR (q : Qry) (row : Row) : Row := q.head.map (valR row)
/-- The rows that use the fact, as the reference counts them. -/
def deltaR (c : Sch) (q : Qry) (db : List RA) (fc : RA) : List Row := ((if isQry c q && isDb c db then rawB q db else []).filter (usesR q.body fc)).map (headR q)
theorem rawB_bd {c : Sch} {q : Qry} {db : List RA} (e1 : isQry c q = true) (e2 : isDb c db = true) : (rawB q db).length ≤ 331776 ∧ ∀ r ∈ rawB q db, r.length = 20 := by
  have hqs := isQry_small e1
  have hdl : db.length ≤ 24 := by simp [isDb] at e2; omega
  have hbn := binds_le db q.body b0
  have hpow : db.length ^ q.body.length ≤ 24 ^ 4 := Nat.le_trans (Nat.pow_le_pow_left hdl _) (Nat.pow_le_pow_right (by omega) hqs.2.1)
  have hp4 : (24 : Nat) ^ 4 = 331776 := by decide
  refine ⟨?_, fun r hr => ?_⟩
  · have := uniq_len (srt cmpI ((binds db q.body b0).map encB))
    rw [srt_perm.length_eq, List.length_map] at this
    unfold rawB srtU; omega
  · obtain ⟨b, hb1, hb2⟩ := List.mem_map.1 (mem_srtU.1 hr)
    have hbl := binds_len (fun a ha t ht => by have := (hqs.2.2.2 a ha).2 t ht; simp only [b0_len]; omega) hb1
    rw [← hb2, encB_len, hbl, b0_len]
theorem specDelta_r (c : Sch) (q : Qry) (db : List RA) (fc : RA) (hc : Lw.bd 1048576 c) (hq : Lw.bd 1048576 q) (hd : Lw.bd 1048576 db) : Ret XX 56 [Ag c, Ag q, Ar db, Ag fc] (.own 2 (rowsE (runs (srt cmpI (deltaR c q db fc))))) := by
  refine ret_W rfl Tryz.func56 rfl rfl (by simp [Tryz.f56]) ?_
  simp only [Tryz.f56]
  have c1 := cv (specBindings_r c q db hc hq hd)
  simp only [Ag, cells_Sch, cells_Q, List.map_cons, List.map_nil] at c1
  unfold deltaR
  have hB0 : ∀ r ∈ (if isQry c q && isDb c db then rawB q db else []), isQry c q = true ∧ r.length = 20 := fun r hr => by
    split at hr
    · rename_i e; rw [Bool.and_eq_true] at e; exact ⟨e.1, (rawB_bd e.1 e.2).2 r hr⟩
    · cases hr
  have hB1 : (if isQry c q && isDb c db then rawB q db else []).length ≤ 331776 := by
    split
    · rename_i e; rw [Bool.and_eq_true] at e; exact (rawB_bd e.1 e.2).1
    · simp
  generalize (if isQry c q && isDb c db then rawB q db else []) = B at *
  have sb : Sm q.body := Nat.lt_of_le_of_lt hq.2.1 (by omega)
  repeat' first|refine W_seq ?_|refine W_block ?_|refine W_skip ?_|refine W_ret ?_|refine W_exit ?_|refine xb_hit ?_|refine xb_miss (by decide) ?_|(apply W_reg;(simp [Ag, c1];exact .r _))
  refine W_loop (n := B.length) (fun n s => ∃ i : Nat, ∃ acc : List Row, n = B.length - i ∧ s.nt = 90 ∧ s.tm 5 = .ptr 1 0 ∧ s.tm 7 = .ptr 2 0 ∧ s.tm 9 = .ref 3 acc.length [] ∧ s.tm 10 = .ref 4 B.length [] ∧ s.tm 11 = In i ∧ i ≤ B.length ∧ s.σ.ob 1 = .box [Ar q.head, Ar q.body] ∧ s.σ.ob 2 = .box [In fc.rel, Ar fc.args] ∧ s.σ.ob 3 = .arr (.own 0) 0 1 (rowsE acc) ∧ s.σ.ob 4 = .arr (.own 0) 0 1 (rowsE B) ∧ 5 ≤ s.σ.n ∧ acc = ((B.take i).filter (usesR q.body fc)).map (headR q)) ⟨0, [], by simp⟩ ?_
  rintro n ⟨nt, tm, σ⟩ ⟨i, acc, rfl, hnt, h5, h7, h9, h10, h11, hi, hb1, hb2, hb3, hb4, hn, hacc⟩
  simp only at hnt h5 h7 h9 h10 h11 hb1 hb2 hb3 hb4 hn
  subst hnt
  have hal : acc.length ≤ i := by
    rw [hacc, List.length_map]
    exact Nat.le_trans (List.length_filter_le _ _) (by rw [List.length_take]; omega)
  have hBl : (rowsE B).length = B.length := rowsE_len ..
  repeat' first|refine W_seq ?_|refine W_block ?_|refine W_skip ?_|refine W_ret ?_|refine W_exit ?_|refine xb_hit ?_|refine xb_miss (by decide) ?_|(apply W_reg;(simp [h5, h7, h9, h10, h11, hb1, hb2, hb3, hb4, hn];exact .r _))
  refine W_cond (by simp [h5, h7, h9, h10, h11, hb1, hb2, hb3, hb4, hn]; exact .r _) (fun hc => ?_) (fun hc => ?_)
  · have hil : i < B.length := by simpa using hc
    obtain ⟨e1, h20⟩ := hB0 _ (List.getElem_mem hil)
    have hqs := isQry_small e1
    have hg : (rowsE B)[i]? = some [.sl (rowsE B[i])] := by simp [rowsE, hil]
    have c2 := cv (l19Uses_r q B[i] fc h20 sb (fun a ha => ⟨by have := (hqs.2.2.2 a ha).1; omega, fun t ht => isTerm_iff.2 ((hqs.2.2.2 a ha).2 t ht)⟩))
    simp only [Ag, cells_RA, cells_Q, List.map_cons, List.map_nil] at c2
    have c3 := cv (l6Tuple_r q.head B[i] h20 (by have := hqs.1; unfold Sm; omega) (fun t ht => isTerm_iff.2 (hqs.2.2.1 t ht)))
    have htk : ((B.take (i + 1)).filter (usesR q.body fc)).map (headR q) = acc ++ (if usesR q.body fc B[i] then [headR q B[i]] else []) := by
      rw [List.take_succ_eq_append_getElem hil, List.filter_append, List.map_append, ← hacc]
      congr 1
      cases e : usesR q.body fc B[i] <;> simp [e]
    cases e : usesR q.body fc B[i]
    · rw [e] at htk
      repeat' first|refine W_seq ?_|refine W_block ?_|refine W_skip ?_|refine W_ret ?_|refine W_exit ?_|refine xb_hit ?_|refine xb_miss (by decide) ?_|(apply W_reg;(simp [h5, h7, h9, h10, h11, hb1, hb2, hb3, hb4, hn, hil, hg, c2, hBl, e];exact .r _))|(apply W_draw (id := 6) [0,0,0,6,14,0,63] rfl rfl; (· simp; exact .r _); (· simp [h5, h7, h9, h10, h11, hb1, hb2, hb3, hb4, hn, hil, hg, c2, hBl, e]; exact .r _); (· first|trivial|simp))
      refine W_cond (by simp [h5, h7, h9, h10, h11, hb1, hb2, hb3, hb4, hn]; exact .r _) (fun hd => ?_) (fun hd => ?_)
      · cases hd
      repeat' first|refine W_seq ?_|refine W_block ?_|refine W_skip ?_|refine W_ret ?_|refine W_exit ?_|refine xb_hit ?_|refine xb_miss (by decide) ?_|(apply W_reg;(simp [h5, h7, h9, h10, h11, hb1, hb2, hb3, hb4, hn];exact .r _))
      refine ⟨_, ?_, i + 1, acc, rfl, rfl, ?_, ?_, ?_, ?_, ?_, by omega, ?_, ?_, ?_, ?_, ?_, by (rw [htk]; simp)⟩
      all_goals first|assumption|(simp [h5, h7, h9, h10, h11, hb1, hb2, hb3, hb4, hn];done)|(simp [h5, h7, h9, h10, h11, hb1, hb2, hb3, hb4, hn];omega)|(simp [h5, h7, h9, h10, h11, hb1, hb2, hb3, hb4, hn];exact wrap_succ (by omega))|omega
    · rw [e] at htk
      repeat' first|refine W_seq ?_|refine W_block ?_|refine W_skip ?_|refine W_ret ?_|refine W_exit ?_|refine xb_hit ?_|refine xb_miss (by decide) ?_|(apply W_reg;(simp [h5, h7, h9, h10, h11, hb1, hb2, hb3, hb4, hn, hil, hg, c2, hBl, e];exact .r _))|(apply W_draw (id := 6) [0,0,0,6,14,0,63] rfl rfl; (· simp; exact .r _); (· simp [h5, h7, h9, h10, h11, hb1, hb2, hb3, hb4, hn, hil, hg, c2, hBl, e]; exact .r _); (· first|trivial|simp))
      refine W_cond (by simp [h5, h7, h9, h10, h11, hb1, hb2, hb3, hb4, hn]; exact .r _) (fun hd => ?_) (fun hd => ?_)
      · have n1 : ¬ (1 = σ.n) := by omega
        have n2 : ¬ (2 = σ.n) := by omega
        have n3 : ¬ (3 = σ.n) := by omega
        have n4 : ¬ (4 = σ.n) := by omega
        have n3' : ¬ (σ.n = 3) := by omega
        have n4' : ¬ (σ.n = 4) := by omega
        have m1 : ¬ (1 = σ.n + 1) := by omega
        have m0 : ¬ (σ.n = 0) := by omega
        have m2 : ¬ (2 = σ.n + 1) := by omega
        have m3 : ¬ (3 = σ.n + 1) := by omega
        have m4 : ¬ (4 = σ.n + 1) := by omega
        have m3' : ¬ (σ.n + 1 = 3) := by omega
        have m4' : ¬ (σ.n + 1 = 4) := by omega
        have htl : (rowsE (q.head.map (valR B[i]))).length = q.head.length := by rw [rowsE_len, List.length_map]
        have hth : (rowsE (q.head.map (valR B[i]))).take q.head.length = rowsE (q.head.map (valR B[i])) := by rw [← htl, List.take_length]
        repeat' first|refine W_seq ?_|refine W_block ?_|refine W_skip ?_|refine W_ret ?_|refine W_exit ?_|refine xb_hit ?_|refine xb_miss (by decide) ?_|(apply W_reg;(simp [h5, h7, h9, h10, h11, hb1, hb2, hb3, hb4, hn, hil, hg, c3, hBl, htl, hth, n1, n2, n3, n4, n3', n4', m1, m2, m3, m4, m3', m4', show acc.length + 1 < 1099511627776 by omega];exact .r _))|(apply W_draw (id := 7) [0,0,2,0,0,24,56,126,254,511,1023] rfl rfl; (· simp; exact .r _); (· simp [h5, h7, h9, h10, h11, hb1, hb2, hb3, hb4, hn, hil, hg, c3, hBl, htl, hth, n1, n2, n3, n4, n3', n4', m1, m2, m3, m4, m3', m4', show acc.length + 1 < 1099511627776 by omega]; exact .r _); (· first|trivial|simp))
        refine ⟨_, ?_, i + 1, acc ++ [headR q B[i]], rfl, rfl, ?_, ?_, ?_, ?_, ?_, by omega, ?_, ?_, ?_, ?_, ?_, by (rw [htk]; simp)⟩
        all_goals first|assumption|(simp [h5, h7, h9, h10, h11, hb1, hb2, hb3, hb4, hn, rowsE_append, m0, n1, n2, n3, n4, n3', n4', m1, m2, m3, m4, m3', m4', rowsE, headR];done)|(simp [h5, h7, h9, h10, h11, hb1, hb2, hb3, hb4, hn, rowsE_append, m0, n1, n2, n3, n4, n3', n4', m1, m2, m3, m4, m3', m4', rowsE, headR];omega)|(simp [h5, h7, h9, h10, h11, hb1, hb2, hb3, hb4, hn, rowsE_append, m0, n1, n2, n3, n4, n3', n4', m1, m2, m3, m4, m3', m4', rowsE, headR];exact wrap_succ (by omega))|omega
      · cases hd
  · have hil : i = B.length := by simp at hc; omega
    subst hil
    rw [List.take_length] at hacc
    rw [← hacc]
    have hsm : ∀ x ∈ acc, Sm x := fun x hx => by
      rw [hacc] at hx
      obtain ⟨r, _, hr⟩ := List.mem_map.1 hx
      rw [← hr, headR]; unfold Sm; rw [List.length_map]; have := hq.1.1; omega
    have cs := cv (l6Sort_false acc (by omega) hsm)
    have hll : (srt cmpI acc).length = acc.length := srt_perm.length_eq
    repeat' first|refine W_seq ?_|refine W_block ?_|refine W_skip ?_|refine W_ret ?_|refine W_exit ?_|refine xb_hit ?_|refine xb_miss (by decide) ?_|(apply W_reg;(simp [h5, h7, h9, h10, h11, hb1, hb2, hb3, hb4, hn, cs];exact .r _))
    generalize hL : srt cmpI acc = L at *
    have hsL : ∀ x ∈ L, Sm x := fun x hx => hsm x (by rw [← hL] at hx; exact srt_perm.mem_iff.1 hx)
    refine W_loop (n := L.length) (fun n s => ∃ i : Nat, ∃ k : Nat, ∃ oS : Nat, ∃ oR : Nat, ∃ R : List Cnt, n = L.length - i ∧ s.nt = 90 ∧ s.tm 9 = .ref oS L.length [] ∧ s.tm 12 = .ref oR R.length [] ∧ s.tm 13 = In i ∧ i ≤ L.length ∧ k ≤ i ∧ s.σ.ob oS = .arr (.own k) 0 1 (rowsE L) ∧ s.σ.ob oR = .arr (.own 0) 0 2 (rowsE R) ∧ oS < s.σ.n ∧ oR < s.σ.n ∧ ¬ oS = oR ∧ R = runs (L.take i)) ⟨0, 0, σ.n, σ.n + 1, [], by simp [runs]⟩ ?_
    rintro n ⟨nt, tm, σ⟩ ⟨i, k, oS, oR, R, rfl, hnt, h9, h12, h13, hi, hk, hoo, haa, hnS, hnR, hne, hR⟩
    simp only at hnt h9 h12 h13 hoo haa hnS hnR
    subst hnt
    have n0 : ¬ (oR = σ.n) := by omega
    have n0' : ¬ (σ.n = oR) := by omega
    have n1 : ¬ (oS = σ.n) := by omega
    have n1' : ¬ (σ.n = oS) := by omega
    have hne' : ¬ oR = oS := fun e => hne e.symm
    have hrl : (rowsE L).length = L.length := rowsE_len ..
    repeat' first|refine W_seq ?_|refine W_block ?_|refine W_skip ?_|refine W_ret ?_|refine W_exit ?_|refine xb_hit ?_|refine xb_miss (by decide) ?_|(apply W_reg;(simp [h9, h12, h13, hoo, haa, hnS, hnR];exact .r _))
    refine W_cond (by simp [h9, h12, h13, hoo, haa, hnS, hnR]; exact .r _) (fun hc => ?_) (fun hc => ?_)
    · have hil : i < L.length := by simpa using hc
      have hbd := runs_bd L i (by omega)
      rw [← hR] at hbd
      have hst := runs_take L i hil
      rw [← hR] at hst
      have hg : (rowsE L)[i]? = some [.sl (rowsE L[i])] := by simp [rowsE, hil]
      rcases List.eq_nil_or_concat R with e | ⟨R', c, e⟩
      · subst e
        rw [runsF_nil] at hst
        repeat' first|refine W_seq ?_|refine W_block ?_|refine W_skip ?_|refine W_ret ?_|refine W_exit ?_|refine xb_hit ?_|refine xb_miss (by decide) ?_|(apply W_reg;(simp [h9, h12, h13, hoo, haa, hnS, hnR, hrl, hg, hk, n0, n0', n1, n1', hne, hne'];exact .r _))|(apply W_draw (id := 14) [0,1,3,7,7,23,63,127,255,7,7,1543,3591,8191,16383] rfl rfl; (· simp; exact .r _); (· simp [h9, h12, h13, hoo, haa, hnS, hnR, hrl, hg, hk, n0, n0', n1, n1', hne, hne']; exact .r _); (· first|trivial|simp))
        refine W_cond (by simp [h9, h12, h13, hoo, haa, hnS, hnR]; exact .r _) (fun hd => ?_) (fun hd => ?_)
        · cases hd
        repeat' first|refine W_seq ?_|refine W_block ?_|refine W_skip ?_|refine W_ret ?_|refine W_exit ?_|refine xb_hit ?_|refine xb_miss (by decide) ?_|(apply W_reg;(simp [h9, h12, h13, hoo, haa, hnS, hnR, hrl, hg, hk, hil, n0, n0', n1, n1', hne, hne'];exact .r _))
        refine ⟨_, ?_, i + 1, i + 1, oS, oR, [⟨L[i], 1⟩], rfl, rfl, ?_, ?_, ?_, by omega, by omega, ?_, ?_, ?_, ?_, hne, hst.symm⟩
        all_goals first|assumption|(simp [h9, h12, h13, hoo, haa, hnS, hnR, n0, n1, hne, hne', rowsE];done)|(simp [h9, h12, h13, hoo, haa, hnS, hnR, n0, n1, hne, hne', rowsE];omega)|(simp [h9, h12, h13, hoo, haa, hnS, hnR, n0, n1, hne, hne', rowsE];exact wrap_succ (by omega))|omega
      · rw [List.concat_eq_append] at e
        subst e
        rw [runsF_snoc] at hst
        obtain ⟨hb1, hb2⟩ := hbd
        have hcb := hb2 c (by simp)
        have hlen : (R' ++ [c]).length = R'.length + 1 := by simp
        have hgc : (rowsE (R' ++ [c]))[R'.length]? = some [.sl (rowsE c.tuple), .i .i64 c.count] := by simp [rowsE]
        have hw1 : IntKind.i64.wrap (R'.length : Int) = (R'.length : Int) := wrap_ok (by simp at hb1; omega) (by simp at hb1; omega)
        have hw2 : IntKind.i64.wrap (c.count + 1) = c.count + 1 := wrap_ok (by omega) (by omega)
        have hp : (0 : Int) < (R'.length : Int) + 1 := by omega
        have c1 := cv (l2Ints_r c.tuple L[i] (hsL _ hcb.2.2))
        repeat' first|refine W_seq ?_|refine W_block ?_|refine W_skip ?_|refine W_ret ?_|refine W_exit ?_|refine xb_hit ?_|refine xb_miss (by decide) ?_|(apply W_reg;(simp [h9, h12, h13, hoo, haa, hnS, hnR, hrl, hg, hk, hgc, hw1, hp, c1, hlen, hil, n0, n0', n1, n1', hne, hne'];exact .r _))|(apply W_draw (id := 14) [0,1,3,7,7,23,63,127,255,7,7,1543,3591,8191,16383] rfl rfl; (· simp; exact .r _); (· simp [h9, h12, h13, hoo, haa, hnS, hnR, hrl, hg, hk, hgc, hw1, hp, c1, hlen, hil, n0, n0', n1, n1', hne, hne']; exact .r _); (· first|trivial|simp))
        refine W_cond (by simp [h9, h12, h13, hoo, haa, hnS, hnR]; exact .r _) (fun hd => ?_) (fun hd => ?_)
        · have he : c.tuple = L[i] := by simpa using hd
          rw [if_pos he] at hst
          repeat' first|refine W_seq ?_|refine W_block ?_|refine W_skip ?_|refine W_ret ?_|refine W_exit ?_|refine xb_hit ?_|refine xb_miss (by decide) ?_|(apply W_reg;(simp [h9, h12, h13, hoo, haa, hnS, hnR, hrl, hg, hk, hgc, hw1, hw2, hp, hlen, hil, n0, n0', n1, n1', hne, hne'];exact .r _))
          have hset : rowsE (R' ++ [⟨L[i], c.count + 1⟩]) = (rowsE (R' ++ [c])).set R'.length [.sl (rowsE c.tuple), .i .i64 (c.count + 1)] := by
            rw [← he]; simp [rowsE]
          refine ⟨_, ?_, i + 1, k, oS, oR, R' ++ [⟨L[i], c.count + 1⟩], rfl, rfl, ?_, (by simp [h12]), ?_, by omega, by omega, ?_, (by rw [hset]; simp [rowsE]), ?_, ?_, hne, hst.symm⟩
          all_goals first|assumption|(simp [h9, h12, h13, hoo, haa, hnS, hnR, n0, n1, hne, hne'];done)|(simp [h9, h12, h13, hoo, haa, hnS, hnR, n0, n1, hne, hne'];omega)|(simp [h9, h12, h13, hoo, haa, hnS, hnR, n0, n1, hne, hne'];exact wrap_succ (by omega))|omega
        · have he : ¬ c.tuple = L[i] := by simpa using hd
          rw [if_neg he] at hst
          repeat' first|refine W_seq ?_|refine W_block ?_|refine W_skip ?_|refine W_ret ?_|refine W_exit ?_|refine xb_hit ?_|refine xb_miss (by decide) ?_|(apply W_reg;(simp [h9, h12, h13, hoo, haa, hnS, hnR, hrl, hg, hk, hil, hlen, n0, n0', n1, n1', hne, hne', show R'.length + 1 + 1 < 1099511627776 by simp at hb1; omega];exact .r _))
          refine ⟨_, ?_, i + 1, i + 1, oS, oR, (R' ++ [c]) ++ [⟨L[i], 1⟩], rfl, rfl, ?_, ?_, ?_, by omega, by omega, ?_, (by simp [n0, n0', hne, hne', rowsE]), ?_, ?_, hne, hst.symm⟩
          all_goals first|assumption|(simp [h9, h12, h13, hoo, haa, hnS, hnR, n0, n1, hne, hne'];done)|(simp [h9, h12, h13, hoo, haa, hnS, hnR, n0, n1, hne, hne'];omega)|(simp [h9, h12, h13, hoo, haa, hnS, hnR, n0, n1, hne, hne'];exact wrap_succ (by omega))|omega
    · have hil : i = L.length := by simp at hc; omega
      subst hil
      rw [List.take_length] at hR
      subst hR
      repeat' first|refine W_seq ?_|refine W_block ?_|refine W_skip ?_|refine W_ret ?_|refine W_exit ?_|refine xb_hit ?_|refine xb_miss (by decide) ?_|(apply W_reg;(simp [h9, h12, h13, hoo, haa, hnS, hnR];exact .r _))
      simp [haa]
end Go.Proofs.YtmfifjbbjjdacaaGreat.V

namespace Go.Proofs.YtmfifjbbjjdacaaGreat.V
open Go Go.Proofs
set_option linter.unusedVariables false
set_option linter.unusedSimpArgs false
theorem valR_enc {b : Bnd} {t v : Int} (ht : isTerm t = true) (h0 : 0 ≤ t) (h : getB b t = some v) : valR (encB b) t = valI b t := by
  rw [valI_eq ht, valR, valB, if_neg (by omega), if_neg (by omega), h]
  unfold getB at h
  cases e : b[t.toNat]? with
  | none => rw [e] at h; cases h
  | some o =>
    rw [e] at h
    have h : o = some v := h
    rw [encB, List.getElem?_map, e, h]; rfl
theorem valR_neg {b : Bnd} {t : Int} (ht : isTerm t = true) (h0 : t < 0) : valR (encB b) t = valI b t := by
  rw [valI_eq ht, valR, valB, if_pos h0, if_pos h0]
theorem take_map {q : Qry} {fc : RA} : ∀ l : List Bnd, (∀ b ∈ l, usesR q.body fc (encB b) = usesI q.body fc b ∧ headR q (encB b) = q.head.map (valI b)) → ((l.map encB).filter (usesR q.body fc)).map (headR q) = l.flatMap (takeD q fc)
  | [], _ => rfl
  | b :: l, h => by
    have ih := take_map l fun x hx => h x (List.mem_cons_of_mem _ hx)
    obtain ⟨h1, h2⟩ := h b List.mem_cons_self
    rw [List.map_cons, List.flatMap_cons, List.filter_cons, takeD, h1, ← ih]
    split
    · rw [List.map_cons, h2]; rfl
    · rfl
theorem delta_eq (c : Sch) (q : Qry) (db : List RA) (fc : RA) : runs (srt cmpI (deltaR c q db fc)) = deltaC c q db fc := by
  unfold deltaR deltaC
  by_cases e : (isQry c q && isDb c db) = true
  · rw [if_pos e, if_pos e]
    rw [Bool.and_eq_true] at e
    obtain ⟨e1, e2⟩ := e
    have hqs := isQry_small e1
    have hT : ∀ a ∈ q.body, TermsIn b0.length a.args := fun a ha t ht => by have := (hqs.2.2.2 a ha).2 t ht; simp only [b0_len]; omega
    have hnat := isDb_nat e2
    have hnd := binds_nodup (isDb_nodup e2) q.body hT
    have hM : ((binds db q.body b0).map encB).Nodup := by
      refine List.pairwise_map.2 (hnd.imp_of_mem fun ha hb hne e => hne (encB_inj (binds_nat0 hnat _ b0_nat0 ha) (binds_nat0 hnat _ b0_nat0 hb) e))
    congr 1
    refine srt_perm_eq ?_
    have hp : (rawB q db).Perm ((binds db q.body b0).map encB) := srtU_perm hM
    refine ((hp.filter _).map _).trans ?_
    rw [take_map]
    intro b hb
    have hspec := (binds_spec q.body hT hb).2
    have hval : ∀ a ∈ q.body, ∀ t ∈ a.args, valR (encB b) t = valI b t := fun a ha t ht => by
      have htr := isTerm_iff.2 ((hqs.2.2.2 a ha).2 t ht)
      by_cases h0 : t < 0
      · exact valR_neg htr h0
      · obtain ⟨v, hv⟩ := (hspec a ha).2 t ht (by omega)
        exact valR_enc htr (by omega) hv
    constructor
    · unfold usesR usesI
      rw [Bool.eq_iff_iff]
      simp only [List.any_eq_true, decide_eq_true_eq]
      refine exists_congr fun a => and_congr_right fun ha => ?_
      rw [List.map_congr_left (hval a ha)]
    · unfold headR
      refine List.map_congr_left fun t ht => ?_
      have htr := isTerm_iff.2 (hqs.2.2.1 t ht)
      by_cases h0 : t < 0
      · exact valR_neg htr h0
      · obtain ⟨a, ha, hta⟩ := isQry_bound e1 ht (by omega)
        exact hval a ha t hta
  · rw [if_neg e, if_neg e]
    simp [srt, runs]
end Go.Proofs.YtmfifjbbjjdacaaGreat.V

namespace Go.Proofs.YtmfifjbbjjdacaaGreat.V
open Go Go.Proofs
set_option linter.unusedVariables false
set_option linter.unusedSimpArgs false
/-- Nothing points beyond the store's end, and nothing lies there. -/
structure Cl (σ : Sto) : Prop where
  cl : ∀ x, x < σ.n → (σ.ob x).clean σ.n = true
  dd : ∀ x, σ.n ≤ x → σ.ob x = .dead
theorem Cl.e : Cl Sto.e := ⟨fun x hx => absurd hx (Nat.not_lt_zero _), fun x _ => rfl⟩
theorem Cl.new {n : Nat} {ob : Nat → VO} {X : VO} (h : Cl ⟨n, ob⟩) (hx : X.clean (n + 1) = true) : Cl ⟨n + 1, upd ob n X⟩ := by
  refine ⟨fun x hxn => ?_, fun x hxn => ?_⟩
  · simp only [upd_app]
    split
    · exact hx
    · have hxn' : x < n + 1 := hxn
      exact clean_mono (Nat.le_succ n) (h.cl x (by show x < n; omega))
  · have hxn' : n + 1 ≤ x := hxn
    simp only [upd_app]
    rw [if_neg (by omega)]
    exact h.dd x (by show n ≤ x; omega)
theorem Cl.set {n o : Nat} {ob : Nat → VO} {X : VO} (h : Cl ⟨n, ob⟩) (ho : o < n) (hx : X.clean n = true) : Cl ⟨n, upd ob o X⟩ := by
  refine ⟨fun x hxn => ?_, fun x hxn => ?_⟩
  · simp only [upd_app]
    split
    · exact hx
    · exact h.cl x hxn
  · have hxn' : n ≤ x := hxn
    simp only [upd_app]
    rw [if_neg (by omega)]
    exact h.dd x hxn
theorem Cl.sets {σ : Sto} {o : Nat} {X : VO} (h : Cl σ) (ho : o < σ.n) (hx : X.clean σ.n = true) : Cl (σ.set o X) := Cl.set (n := σ.n) (ob := σ.ob) h ho hx
/-- A call over the caller's store that answers a number: what it does to the caller's objects. -/
theorem callV_num {M : Nat → Bool} {X : Ora} {f : Nat} {args : List AV} {σ σ1 σ' : Sto} {n : Int} (hM : M f = true) (H : X f args σ = some (In n, σ1)) (hn : σ.n < σ1.n) (hn' : σ'.n = σ.n) (h1 : ∀ x, x < σ.n → σ1.ob x = σ'.ob x) (hcl : Cl σ') :
    callV M X σ f args = some (In n, σ') := by
  rw [callV_m hM H (fun o ho => by rw [h1 o ho, ← hn']; exact hcl.cl o (by rw [hn']; exact ho)) (by omega), cut_eq hn' h1 (fun o ho => hcl.dd o (by rw [hn']; exact ho))]
  rfl
theorem Cl.e3 {n : Nat} {ob : Nat → VO} (h : Cl ⟨n, ob⟩) {X Y Z : VO} (h1 : X.clean (n + 1) = true) (h2 : Y.clean (n + 2) = true) (h3 : Z.clean (n + 3) = true) : Cl ⟨n + 3, upd (upd (upd ob n X) (n + 1) Y) (n + 2) Z⟩ := Cl.new (n := n + 2) (Cl.new (n := n + 1) (Cl.new h h1) h2) h3
end Go.Proofs.YtmfifjbbjjdacaaGreat.V

namespace Go.Proofs.YtmfifjbbjjdacaaGreat.V
open Go Go.Proofs
set_option linter.unusedVariables false
set_option linter.unusedSimpArgs false
theorem binds_bd {c : Sch} {q : Qry} {db : List RA} (e1 : isQry c q = true) (e2 : isDb c db = true) : (binds db q.body b0).length ≤ 331776 := by
  have hqs := isQry_small e1
  have hdl : db.length ≤ 24 := by simp [isDb] at e2; omega
  have hbn := binds_le db q.body b0
  have hpow : db.length ^ q.body.length ≤ 24 ^ 4 := Nat.le_trans (Nat.pow_le_pow_left hdl _) (Nat.pow_le_pow_right (by omega) hqs.2.1)
  have hp4 : (24 : Nat) ^ 4 = 331776 := by decide
  omega
end Go.Proofs.YtmfifjbbjjdacaaGreat.V

