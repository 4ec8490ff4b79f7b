/- Several texts in one: what the claim needs of them. Conditions: each declaration's own. -/
import Derived.Test.YtmfifjbbjjdacaaGreatZUpdM7
import Derived.Test.YtmfifjbbjjdacaaGreatZUpdVLx
import Derived.Test.YtmfifjbbjjdacaaGreatZUpdM5
import Derived.Test.YtmfifjbbjjdacaaGreatZUpdM9
import Derived.Test.YtmfifjbbjjdacaaGreatZUpdM4
namespace Go.Proofs.YtmfifjbbjjdacaaGreat.V
open Go Go.Proofs
set_option linter.unusedSimpArgs false

theorem upd_srt {α : Type} {f : Nat → α} {a b : Nat} {x y : α} (h : a < b) : upd (upd f b y) a x = upd (upd f a x) b y := by
  funext k
  simp only [upd_app]
  by_cases e1 : k = a
  · have e2 : ¬ k = b := by omega
    simp [e1, e2, show ¬ a = b by omega]
  · simp [e1]
theorem markIntSSS_e (σ : Sto) (k : Int) : callV Ms XX σ 211 [.t .nl, In k] = some (In k, σ) := by
  have key : ∃ r σ', XX 211 [.t .nl, In k] σ = some (r, σ') ∧ (r = In k ∧ σ' = σ) := by
    refine W_fn rfl Tryz.func211 rfl rfl (by simp [Tryz.f211]) ?_
    simp only [Tryz.f211]
    repeat' first|refine W_seq ?_|refine W_block ?_|refine W_skip ?_|refine W_ret ?_|refine W_exit ?_|refine xb_hit ?_|refine xb_miss (by decide) ?_|(apply W_reg;(simp;exact .r _))
    refine W_loop (n := 0) (fun n s => ∃ i : Nat, n = 0 - i ∧ s.nt = 19 ∧ s.tm 0 = .t .nl ∧ s.tm 1 = In k ∧ s.tm 5 = In 0 ∧ s.σ = σ) ⟨0, by simp⟩ ?_
    rintro n ⟨nt, tm, σ⟩ ⟨i, rfl, hnt, h0, h1, h5, hs⟩
    simp only at hnt h0 h1 h5 hs
    subst hnt
    subst hs
    repeat' first|refine W_seq ?_|refine W_block ?_|refine W_skip ?_|refine W_ret ?_|refine W_exit ?_|refine xb_hit ?_|refine xb_miss (by decide) ?_|(apply W_reg;(simp [h0, h1, h5];exact .r _))
    refine W_cond (by simp [h0, h1, h5]; exact .r _) (fun hc => ?_) (fun hc => ?_)
    · simp at hc
    · repeat' first|refine W_seq ?_|refine W_block ?_|refine W_skip ?_|refine W_ret ?_|refine W_exit ?_|refine xb_hit ?_|refine xb_miss (by decide) ?_|(apply W_reg;(simp [h0, h1, h5];exact .r _))
      exact ⟨In k, by simp [h1], rfl, rfl⟩
  obtain ⟨r, σ', h1, h2, h3⟩ := key
  exact callV_d (by rfl) (by rw [h1, h2, h3]) rfl
theorem markSchema_c (σ : Sto) (o0 s0 : Nat) (c : Sch) (b0 : σ.ob o0 = (.arr (.own 0) s0 1 (rowsE c.arity))) (n0 : o0 < σ.n)  (hcl : Cl σ) (k : Int) (h0 : 0 ≤ k) (hk : k + cntL c.arity ≤ 4611686018427387903) (hl : Lw.bd 1048576 c) :
    callV Ms XX σ 66 [.agg [.ref o0 c.arity.length []], In k] = some (In (k + cntL c.arity), (σ.set o0 (.arr (.own 0) s0 1 (rowsE (mkL (k) c.arity))))) := by
  have z0 : ¬ (o0 = σ.n) := by omega
  have y0 : ¬ (σ.n = o0) := by omega
  have w0 : o0 < σ.n + 1 := by omega
  have q0 : Cl ⟨σ.n + 1, upd σ.ob σ.n (.box [.ref o0 c.arity.length []])⟩ := Cl.new hcl (by simp [VO.clean, cleanA, clean1, w0])
  have m0 := markIntS_c ⟨σ.n + 1, upd σ.ob σ.n (.box [.ref o0 c.arity.length []])⟩ o0 c.arity.length s0 1 [] (rowsE c.arity) c.arity (by simp [upd_app, z0, y0, w0]; exact b0) ⟨fun _ => rowsE_len _, fun h => absurd rfl h, rfl⟩ (k) (by omega) (by omega) (hl)
  have key : ∃ r σ1, XX 66 [.agg [.ref o0 c.arity.length []], In k] σ = some (r, σ1) ∧ (r = In (k + cntL c.arity) ∧ σ.n < σ1.n ∧ ∀ x, x < σ.n → σ1.ob x = ((σ.set o0 (.arr (.own 0) s0 1 (rowsE (mkL (k) c.arity))))).ob x) := by
    refine W_fn rfl Tryz.func66 rfl rfl (by simp [Tryz.f66]) ?_
    simp only [Tryz.f66]
    simp only [Sto.set, setAt] at m0
    repeat' first|refine W_seq ?_|refine W_block ?_|refine W_skip ?_|refine W_ret ?_|refine W_exit ?_|refine xb_hit ?_|refine xb_miss (by decide) ?_|(apply W_reg;(simp [m0, z0, y0, w0];exact .r _))
    refine ⟨_, rfl, rfl, ?_, fun x hx => ?_⟩
    · simp
    · simp [Sto.set, upd_app, show ¬ x = σ.n by omega]
  obtain ⟨r, σ1, h1, rfl, h3, h4⟩ := key
  exact callV_num (by rfl) h1 h3 rfl h4 (Cl.sets hcl n0 rfl)
theorem markFact_c (σ : Sto) (o0 s0 : Nat) (c : RA) (b0 : σ.ob o0 = (.arr (.own 0) s0 1 (rowsE c.args))) (n0 : o0 < σ.n)  (hcl : Cl σ) (k : Int) (h0 : 0 ≤ k) (hk : k + cntL c.args ≤ 4611686018427387903) (hl : Lw.bd 1048576 c) :
    callV Ms XX σ 69 [.agg [In c.rel, .ref o0 c.args.length []], In k] = some (In (k + cntL c.args), (σ.set o0 (.arr (.own 0) s0 1 (rowsE (mkL (k) c.args))))) := by
  have z0 : ¬ (o0 = σ.n) := by omega
  have y0 : ¬ (σ.n = o0) := by omega
  have w0 : o0 < σ.n + 1 := by omega
  have q0 : Cl ⟨σ.n + 1, upd σ.ob σ.n (.box [In c.rel, .ref o0 c.args.length []])⟩ := Cl.new hcl (by simp [VO.clean, cleanA, clean1, w0])
  have m0 := markIntS_c ⟨σ.n + 1, upd σ.ob σ.n (.box [In c.rel, .ref o0 c.args.length []])⟩ o0 c.args.length s0 1 [] (rowsE c.args) c.args (by simp [upd_app, z0, y0, w0]; exact b0) ⟨fun _ => rowsE_len _, fun h => absurd rfl h, rfl⟩ (k) (by omega) (by omega) (hl)
  have key : ∃ r σ1, XX 69 [.agg [In c.rel, .ref o0 c.args.length []], In k] σ = some (r, σ1) ∧ (r = In (k + cntL c.args) ∧ σ.n < σ1.n ∧ ∀ x, x < σ.n → σ1.ob x = ((σ.set o0 (.arr (.own 0) s0 1 (rowsE (mkL (k) c.args))))).ob x) := by
    refine W_fn rfl Tryz.func69 rfl rfl (by simp [Tryz.f69]) ?_
    simp only [Tryz.f69]
    simp only [Sto.set, setAt] at m0
    repeat' first|refine W_seq ?_|refine W_block ?_|refine W_skip ?_|refine W_ret ?_|refine W_exit ?_|refine xb_hit ?_|refine xb_miss (by decide) ?_|(apply W_reg;(simp [m0, z0, y0, w0];exact .r _))
    refine ⟨_, rfl, rfl, ?_, fun x hx => ?_⟩
    · simp
    · simp [Sto.set, upd_app, show ¬ x = σ.n by omega]
  obtain ⟨r, σ1, h1, rfl, h3, h4⟩ := key
  exact callV_num (by rfl) h1 h3 rfl h4 (Cl.sets hcl n0 rfl)
theorem markSource_c (σ : Sto) (o0 s0 : Nat) (c : Src) (b0 : σ.ob o0 = (.arr (.own 0) s0 2 (rowsE c.facts))) (n0 : o0 < σ.n)  (hcl : Cl σ) (k : Int) (h0 : 0 ≤ k) (hk : k + cntL c.facts ≤ 4611686018427387903) (hl : Lw.bd 1048576 c) :
    callV Ms XX σ 110 [.agg [.ref o0 c.facts.length [], In c.version], In k] = some (In (k + cntL c.facts), (σ.set o0 (.arr (.own 0) s0 2 (rowsE (mkL (k) c.facts))))) := by
  have z0 : ¬ (o0 = σ.n) := by omega
  have y0 : ¬ (σ.n = o0) := by omega
  have w0 : o0 < σ.n + 1 := by omega
  have q0 : Cl ⟨σ.n + 1, upd σ.ob σ.n (.box [.ref o0 c.facts.length [], In c.version])⟩ := Cl.new hcl (by simp [VO.clean, cleanA, clean1, w0])
  have m0 := markFactS_c ⟨σ.n + 1, upd σ.ob σ.n (.box [.ref o0 c.facts.length [], In c.version])⟩ o0 c.facts.length s0 2 [] (rowsE c.facts) c.facts (by simp [upd_app, z0, y0, w0]; exact b0) ⟨fun _ => rowsE_len _, fun h => absurd rfl h, rfl⟩ (k) (by omega) (by omega) (hl)
  have key : ∃ r σ1, XX 110 [.agg [.ref o0 c.facts.length [], In c.version], In k] σ = some (r, σ1) ∧ (r = In (k + cntL c.facts) ∧ σ.n < σ1.n ∧ ∀ x, x < σ.n → σ1.ob x = ((σ.set o0 (.arr (.own 0) s0 2 (rowsE (mkL (k) c.facts))))).ob x) := by
    refine W_fn rfl Tryz.func110 rfl rfl (by simp [Tryz.f110]) ?_
    simp only [Tryz.f110]
    simp only [Sto.set, setAt] at m0
    repeat' first|refine W_seq ?_|refine W_block ?_|refine W_skip ?_|refine W_ret ?_|refine W_exit ?_|refine xb_hit ?_|refine xb_miss (by decide) ?_|(apply W_reg;(simp [m0, z0, y0, w0];exact .r _))
    refine ⟨_, rfl, rfl, ?_, fun x hx => ?_⟩
    · simp
    · simp [Sto.set, upd_app, show ¬ x = σ.n by omega]
  obtain ⟨r, σ1, h1, rfl, h3, h4⟩ := key
  exact callV_num (by rfl) h1 h3 rfl h4 (Cl.sets hcl n0 rfl)
theorem markChange_c (σ : Sto) (o0 s0 : Nat) (c : Chg) (b0 : σ.ob o0 = (.arr (.own 0) s0 1 (rowsE c.fact.args))) (n0 : o0 < σ.n)  (hcl : Cl σ) (k : Int) (h0 : 0 ≤ k) (hk : k + cntL c.fact.args ≤ 4611686018427387903) (hl : Lw.bd 1048576 c) :
    callV Ms XX σ 111 [.agg [Bo c.insert, In c.fact.rel, .ref o0 c.fact.args.length []], In k] = some (In (k + cntL c.fact.args), (σ.set o0 (.arr (.own 0) s0 1 (rowsE (mkL (k) c.fact.args))))) := by
  have z0 : ¬ (o0 = σ.n) := by omega
  have y0 : ¬ (σ.n = o0) := by omega
  have w0 : o0 < σ.n + 1 := by omega
  have q0 : Cl ⟨σ.n + 1, upd σ.ob σ.n (.box [Bo c.insert, In c.fact.rel, .ref o0 c.fact.args.length []])⟩ := Cl.new hcl (by simp [VO.clean, cleanA, clean1, w0])
  have m0 := markFact_c ⟨σ.n + 1, upd σ.ob σ.n (.box [Bo c.insert, In c.fact.rel, .ref o0 c.fact.args.length []])⟩ o0 s0 c.fact (by simp [upd_app, z0, y0, w0]; exact b0) w0  q0 (k) (by omega) (by omega) (hl)
  have key : ∃ r σ1, XX 111 [.agg [Bo c.insert, In c.fact.rel, .ref o0 c.fact.args.length []], In k] σ = some (r, σ1) ∧ (r = In (k + cntL c.fact.args) ∧ σ.n < σ1.n ∧ ∀ x, x < σ.n → σ1.ob x = ((σ.set o0 (.arr (.own 0) s0 1 (rowsE (mkL (k) c.fact.args))))).ob x) := by
    refine W_fn rfl Tryz.func111 rfl rfl (by simp [Tryz.f111]) ?_
    simp only [Tryz.f111]
    simp only [Sto.set, setAt] at m0
    repeat' first|refine W_seq ?_|refine W_block ?_|refine W_skip ?_|refine W_ret ?_|refine W_exit ?_|refine xb_hit ?_|refine xb_miss (by decide) ?_|(apply W_reg;(simp [m0, z0, y0, w0];exact .r _))
    refine ⟨_, rfl, rfl, ?_, fun x hx => ?_⟩
    · simp
    · simp [Sto.set, upd_app, show ¬ x = σ.n by omega]
  obtain ⟨r, σ1, h1, rfl, h3, h4⟩ := key
  exact callV_num (by rfl) h1 h3 rfl h4 (Cl.sets hcl n0 rfl)
theorem markCache_c (σ : Sto) (o0 o1 s0 s1 : Nat) (c : Cch) (b0 : σ.ob o0 = (.arr (.own 0) s0 2 (rowsE c.views))) (b1 : σ.ob o1 = (.arr (.own 0) s1 1 (rowsE c.tables))) (n0 : o0 < σ.n) (n1 : o1 < σ.n) (e0_1 : ¬ o0 = o1) (hcl : Cl σ) (k : Int) (h0 : 0 ≤ k) (hk : k + cntL c.views + cntL c.tables ≤ 4611686018427387903) (hl : Lw.bd 1048576 c) :
    callV Ms XX σ 89 [.agg [.ref o0 c.views.length [], .ref o1 c.tables.length [], In c.version], In k] = some (In (k + cntL c.views + cntL c.tables), ((σ.set o0 (.arr (.own 0) s0 2 (rowsE (mkL (k) c.views)))).set o1 (.arr (.own 0) s1 1 (rowsE (mkL (k + cntL c.views) c.tables))))) := by
  have z0 : ¬ (o0 = σ.n) := by omega
  have y0 : ¬ (σ.n = o0) := by omega
  have w0 : o0 < σ.n + 1 := by omega
  have f0_1 : ¬ o1 = o0 := fun e => e0_1 e.symm
  have z1 : ¬ (o1 = σ.n) := by omega
  have y1 : ¬ (σ.n = o1) := by omega
  have w1 : o1 < σ.n + 1 := by omega
  have q0 : Cl ⟨σ.n + 1, upd σ.ob σ.n (.box [.ref o0 c.views.length [], .ref o1 c.tables.length [], In c.version])⟩ := Cl.new hcl (by simp [VO.clean, cleanA, clean1, w0, w1])
  have m0 := markQueryS_c ⟨σ.n + 1, upd σ.ob σ.n (.box [.ref o0 c.views.length [], .ref o1 c.tables.length [], In c.version])⟩ o0 c.views.length s0 2 [] (rowsE c.views) c.views (by simp [upd_app, z0, y0, w0, e0_1, f0_1, z1, y1, w1]; exact b0) ⟨fun _ => rowsE_len _, fun h => absurd rfl h, rfl⟩ (k) (by omega) (by omega) (hl.1)
  have m1 := markIntSSS_c ⟨σ.n + 1, upd (upd σ.ob σ.n (.box [.ref o0 c.views.length [], .ref o1 c.tables.length [], In c.version])) o0 (.arr (.own 0) s0 2 (rowsE (mkL (k) c.views)))⟩ o1 c.tables.length s1 1 [] (rowsE c.tables) c.tables (by simp [upd_app, z0, y0, w0, e0_1, f0_1, z1, y1, w1]; exact b1) ⟨fun _ => rowsE_len _, fun h => absurd rfl h, rfl⟩ (k + cntL c.views) (by omega) (by omega) (hl.2)
  have key : ∃ r σ1, XX 89 [.agg [.ref o0 c.views.length [], .ref o1 c.tables.length [], In c.version], In k] σ = some (r, σ1) ∧ (r = In (k + cntL c.views + cntL c.tables) ∧ σ.n < σ1.n ∧ ∀ x, x < σ.n → σ1.ob x = (((σ.set o0 (.arr (.own 0) s0 2 (rowsE (mkL (k) c.views)))).set o1 (.arr (.own 0) s1 1 (rowsE (mkL (k + cntL c.views) c.tables))))).ob x) := by
    refine W_fn rfl Tryz.func89 rfl rfl (by simp [Tryz.f89]) ?_
    simp only [Tryz.f89]
    simp only [Sto.set, setAt] at m0 m1
    repeat' first|refine W_seq ?_|refine W_block ?_|refine W_skip ?_|refine W_ret ?_|refine W_exit ?_|refine xb_hit ?_|refine xb_miss (by decide) ?_|(apply W_reg;(simp [m0, m1, z0, y0, w0, e0_1, f0_1, z1, y1, w1];exact .r _))
    refine ⟨_, rfl, rfl, ?_, fun x hx => ?_⟩
    · simp
    · simp [Sto.set, upd_app, show ¬ x = σ.n by omega]
  obtain ⟨r, σ1, h1, rfl, h3, h4⟩ := key
  exact callV_num (by rfl) h1 h3 rfl h4 (Cl.sets (Cl.sets hcl n0 rfl) n1 rfl)
theorem markCache_n1 (σ : Sto) (o0 s0 : Nat) (c : Cch) (b0 : σ.ob o0 = (.arr (.own 0) s0 2 (rowsE c.views))) (n0 : o0 < σ.n) (hcl : Cl σ) (k : Int) (h0 : 0 ≤ k) (hk : k + cntL c.views ≤ 4611686018427387903) (hl : Lw.bd 1048576 c) :
    callV Ms XX σ 89 [.agg [.ref o0 c.views.length [], .t .nl, In c.version], In k] = some (In (k + cntL c.views), σ.set o0 (.arr (.own 0) s0 2 (rowsE (mkL k c.views)))) := by
  have z0 : ¬ (o0 = σ.n) := by omega
  have y0 : ¬ (σ.n = o0) := by omega
  have w0 : o0 < σ.n + 1 := by omega
  have q0 : Cl ⟨σ.n + 1, upd σ.ob σ.n (.box [.ref o0 c.views.length [], .t .nl, In c.version])⟩ := Cl.new hcl (by simp [VO.clean, cleanA, clean1, w0])
  have m0 := markQueryS_c ⟨σ.n + 1, upd σ.ob σ.n (.box [.ref o0 c.views.length [], .t .nl, In c.version])⟩ o0 c.views.length s0 2 [] (rowsE c.views) c.views (by simp [upd_app, z0, y0, w0]; exact b0) ⟨fun _ => rowsE_len _, fun h => absurd rfl h, rfl⟩ (k) (by omega) (by omega) (hl.1)
  have key : ∃ r σ1, XX 89 [.agg [.ref o0 c.views.length [], .t .nl, In c.version], In k] σ = some (r, σ1) ∧ (r = In (k + cntL c.views) ∧ σ.n < σ1.n ∧ ∀ x, x < σ.n → σ1.ob x = (σ.set o0 (.arr (.own 0) s0 2 (rowsE (mkL k c.views)))).ob x) := by
    refine W_fn rfl Tryz.func89 rfl rfl (by simp [Tryz.f89]) ?_
    simp only [Tryz.f89]
    simp only [Sto.set, setAt] at m0
    repeat' first|refine W_seq ?_|refine W_block ?_|refine W_skip ?_|refine W_ret ?_|refine W_exit ?_|refine xb_hit ?_|refine xb_miss (by decide) ?_|(apply W_reg;(simp [m0, markIntSSS_e, z0, y0, w0];exact .r _))
    refine ⟨_, rfl, rfl, ?_, fun x hx => ?_⟩
    · simp
    · simp [Sto.set, upd_app, show ¬ x = σ.n by omega]
  obtain ⟨r, σ1, h1, rfl, h3, h4⟩ := key
  exact callV_num (by rfl) h1 h3 rfl h4 (Cl.sets hcl n0 rfl)
theorem heldSource_r (c : Src) (k : Int) (h0 : 0 ≤ k) (hk : k + cntL c.facts ≤ 4611686018427387903) (hl : Lw.bd 1048576 c) : Ret XX 113 [.agg [Ar (mkL (k) c.facts), In c.version], In k] (.t (.i .i64 (k + cntL c.facts)) false) := by
  refine ret_W rfl Tryz.func113 rfl rfl (by simp [Tryz.f113]) ?_
  simp only [Tryz.f113]
  have d0 := cv (heldFactS_r c.facts (k) (by omega) (by omega) (hl))
  have p0 : ¬ (k + cntL c.facts < 0) := by omega
  repeat' first|refine W_seq ?_|refine W_block ?_|refine W_skip ?_|refine W_ret ?_|refine W_exit ?_|refine xb_hit ?_|refine xb_miss (by decide) ?_|(apply W_reg;(simp [d0, p0];exact .r _))
  refine W_cond (by simp; exact .r _) (fun hc0 => ?_) (fun hc0 => ?_)
  · exfalso; revert hc0; simp; try omega
  repeat' first|refine W_seq ?_|refine W_block ?_|refine W_skip ?_|refine W_ret ?_|refine W_exit ?_|refine xb_hit ?_|refine xb_miss (by decide) ?_|(apply W_reg;(simp;exact .r _))
  simp
theorem heldCache_r (c : Cch) (k : Int) (h0 : 0 ≤ k) (hk : k + cntL c.views + cntL c.tables ≤ 4611686018427387903) (hl : Lw.bd 1048576 c) : Ret XX 90 [.agg [Ar (mkL (k) c.views), Ar (mkL (k + cntL c.views) c.tables), In c.version], In k] (.t (.i .i64 (k + cntL c.views + cntL c.tables)) false) := by
  refine ret_W rfl Tryz.func90 rfl rfl (by simp [Tryz.f90]) ?_
  simp only [Tryz.f90]
  have d0 := cv (heldQueryS_r c.views (k) (by omega) (by omega) (hl.1))
  have p0 : ¬ (k + cntL c.views < 0) := by omega
  repeat' first|refine W_seq ?_|refine W_block ?_|refine W_skip ?_|refine W_ret ?_|refine W_exit ?_|refine xb_hit ?_|refine xb_miss (by decide) ?_|(apply W_reg;(simp [d0, p0];exact .r _))
  refine W_cond (by simp; exact .r _) (fun hc0 => ?_) (fun hc0 => ?_)
  · exfalso; revert hc0; simp; try omega
  have d1 := cv (heldIntSSS_r c.tables (k + cntL c.views) (by omega) (by omega) (hl.2))
  have p1 : ¬ (k + cntL c.views + cntL c.tables < 0) := by omega
  repeat' first|refine W_seq ?_|refine W_block ?_|refine W_skip ?_|refine W_ret ?_|refine W_exit ?_|refine xb_hit ?_|refine xb_miss (by decide) ?_|(apply W_reg;(simp [d0, p0, d1, p1];exact .r _))
  refine W_cond (by simp; exact .r _) (fun hc1 => ?_) (fun hc1 => ?_)
  · exfalso; revert hc1; simp; try omega
  repeat' first|refine W_seq ?_|refine W_block ?_|refine W_skip ?_|refine W_ret ?_|refine W_exit ?_|refine xb_hit ?_|refine xb_miss (by decide) ?_|(apply W_reg;(simp;exact .r _))
  simp
end Go.Proofs.YtmfifjbbjjdacaaGreat.V

namespace Go.Proofs.YtmfifjbbjjdacaaGreat.V
open Go Go.Proofs
set_option linter.unusedVariables false
/-- By weight. -/
class CntW (α : Type) [Mk α] [Lw α] : Prop where
  le : ∀ a : α, Mk.cnt a ≤ Lw.w a + 1
theorem cntW_list {α : Type} [Mk α] [Lw α] [CntW α] (l : List α) : cntL l ≤ wL l := by
  induction l with
  | nil => simp [cntL]
  | cons a l ih =>
    have h := CntW.le a
    simp only [cntL, wL, List.map_cons, List.sum_cons, List.length_cons] at *
    omega
instance : CntW Int := ⟨fun a => by simp⟩
instance {α : Type} [Mk α] [Lw α] [CntW α] : CntW (List α) := ⟨fun l => by rw [cnt_list, w_list]; have := cntW_list l; omega⟩
instance : CntW RA := ⟨fun a => by have := cntW_list a.args; show 1 + cntL a.args ≤ wL a.args + 1; omega⟩
instance : CntW Cnt := ⟨fun a => by have := cntW_list a.tuple; show cntL a.tuple + 1 ≤ wL a.tuple + 1; omega⟩
instance : CntW Qry := ⟨fun a => by have := cntW_list a.head; have := cntW_list a.body; show cntL a.head + cntL a.body ≤ wL a.head + wL a.body + 1; omega⟩
instance : CntW Wtd := ⟨fun a => by have := cntW_list a.query.head; have := cntW_list a.query.body; show cntL a.query.head + cntL a.query.body + 1 ≤ wL a.query.head + wL a.query.body + 1; omega⟩
instance : Mk Cch := ⟨fun c => cntL c.views + cntL c.tables, fun k c => ⟨mkL k c.views, mkL (k + cntL c.views) c.tables, c.version⟩⟩
instance : CntW Cch := ⟨fun a => by have := cntW_list a.views; have := cntW_list a.tables; show cntL a.views + cntL a.tables ≤ wL a.views + wL a.tables + 1; omega⟩
theorem cw_Sch (a : Sch) : cntL a.arity ≤ Lw.w a := cntW_list a.arity
theorem cw_Src (a : Src) : cntL a.facts ≤ Lw.w a := cntW_list a.facts
theorem cw_Chg (a : Chg) : cntL a.fact.args ≤ Lw.w a := cntW_list a.fact.args
theorem cw_Cch (a : Cch) : cntL a.views + cntL a.tables ≤ Lw.w a := by have := cntW_list a.views; have := cntW_list a.tables; show _ ≤ wL a.views + wL a.tables; omega
theorem cntL_nil {α : Type} [Mk α] : cntL ([] : List α) = 0 := rfl
/-- By lengths. -/
class CntB (α : Type) [Mk α] [Lw α] (b : outParam Nat) : Prop where
  le : ∀ a : α, Lw.bd 1048576 a → Mk.cnt a ≤ b
theorem cb_list {α : Type} [Mk α] [Lw α] {b : Nat} [CntB α b] (l : List α) (h : Lw.bd 1048576 l) : cntL l ≤ 1048576 * b := by
  have key : ∀ l : List α, (∀ x ∈ l, Lw.bd 1048576 x) → cntL l ≤ l.length * b := fun l => by
    induction l with
    | nil => simp [cntL]
    | cons a l ih =>
      intro hx
      have h1 := CntB.le a (hx a (by simp))
      have h2 := ih fun x hxl => hx x (List.mem_cons_of_mem _ hxl)
      simp only [cntL, List.map_cons, List.sum_cons, List.length_cons, Nat.add_mul] at *
      omega
  exact Nat.le_trans (key l h.2) (Nat.mul_le_mul_right _ h.1)
instance : CntB Int 1 := ⟨fun a _ => by simp⟩
instance {α : Type} [Mk α] [Lw α] {b : Nat} [CntB α b] : CntB (List α) (1048576 * b) := ⟨fun l h => cb_list l h⟩
instance : CntB RA 1048577 := ⟨fun a h => by have := cb_list (b := 1) a.args h; show 1 + cntL a.args ≤ _; omega⟩
instance : CntB Cnt 1048577 := ⟨fun a h => by have := cb_list (b := 1) a.tuple h; show cntL a.tuple + 1 ≤ _; omega⟩
instance : CntB Qry 1099513724928 := ⟨fun a h => by have := cb_list (b := 1) a.head h.1; have := cb_list (b := 1048577) a.body h.2; show cntL a.head + cntL a.body ≤ _; omega⟩
end Go.Proofs.YtmfifjbbjjdacaaGreat.V

namespace Go.Proofs.YtmfifjbbjjdacaaGreat.V
open Go Go.Proofs
set_option linter.unusedSimpArgs false
theorem row_bd {N : Nat} (l : List Int) (h : l.length ≤ N) : Lw.bd N l := ⟨h, fun _ _ => trivial⟩
theorem ansC_bd {N : Nat} {c : Sch} {q : Qry} {db : List RA} (hN : 331776 ≤ N) (hq : Lw.bd N q) : Lw.bd N (ansC c q db) := by
  unfold ansC
  by_cases e : (isQry c q && isDb c db) = true
  · rw [if_pos e]
    rw [Bool.and_eq_true] at e
    have hb := binds_bd e.1 e.2
    have hu := uniq_len (srt cmpI ((binds db q.body b0).map (headI q)))
    rw [srt_perm.length_eq, List.length_map] at hu
    refine ⟨by unfold ansL srtU; omega, fun x hx => ?_⟩
    obtain ⟨b, _, rfl⟩ := List.mem_map.1 (mem_srtU.1 hx)
    exact row_bd _ (by rw [headI, List.length_map]; exact hq.1.1)
  · rw [if_neg e]; exact ⟨Nat.zero_le _, fun _ h => by cases h⟩
theorem upT_bd {N : Nat} {c : Sch} {vs : List Qry} {db : List RA} (hN : 331776 ≤ N) (hv : Lw.bd N vs) : ∀ (R : List Int) {ts ts' : List (List Row)}, Lw.bd N ts → upT c vs db R ts = some ts' → Lw.bd N ts'
  | [], _, _, h, e => by cases e; exact h
  | k :: R, ts, ts', h, e => by
    rw [upT] at e
    split at e
    · refine upT_bd hN hv R ⟨by rw [List.length_set]; exact h.1, fun t ht => ?_⟩ e
      rcases List.mem_or_eq_of_mem_set ht with ht | rfl
      · exact h.2 t ht
      · refine ansC_bd hN ?_
        rw [List.getD_eq_getElem?_getD]
        cases hq : vs[k.toNat]? with
        | none => exact ⟨⟨Nat.zero_le _, fun _ h => by cases h⟩, ⟨Nat.zero_le _, fun _ h => by cases h⟩⟩
        | some q => exact hv.2 q (List.mem_of_getElem? hq)
    · cases e
theorem updR_ok {c : Sch} {x : Cch} {s : Src} {d : Chg} {ts : List (List Row)} (u : updR c x s d = some ts) : appOk c s d = true ∧ upT c x.views (appF s d) (affI x d.fact) x.tables = some ts := by
  unfold updR at u
  split at u
  · rename_i h
    simp only [Bool.and_eq_true] at h
    exact ⟨h.1.1, u⟩
  · cases u
set_option maxHeartbeats 4000000 in
set_option maxRecDepth 20000 in
theorem lawUpdateCache (a0 : Sch) (a1 : Cch) (a2 : Src) (a3 : Chg) (f0 : Fit a0) (f1 : Fit a1) (f2 : Fit a2) (f3 : Fit a3) : Ret XX 10 [Ag a0, Ag a1, Ag a2, Ag a3] (.t (.b true) false) := by
  refine ret_W rfl Tryz.func10 rfl rfl (by simp [Tryz.f10]) ?_
  simp only [Tryz.f10]
  have s0 := cv (szSchema_r a0 (1048576 : Int) (by omega) (by omega) f0)
  simp only [Ag, rowsE_nil, cells_Sch, cells_Q, cells_RA, cells_Src, cells_Chg, cells_Cch, cells_Crt, cells_Ses, cells_Wtd, List.map_cons, List.map_nil] at s0
  by_cases e0 : ((Lw.w a0 : Nat) : Int) ≤ (1048576 : Int)
  case neg =>
    have z0 : szA (Lw.w a0) (1048576 : Int) = -1 := by unfold szA; rw [if_neg e0]
    repeat' first|refine W_seq ?_|refine W_block ?_|refine W_skip ?_|refine W_ret ?_|refine W_exit ?_|refine xb_hit ?_|refine xb_miss (by decide) ?_|(apply W_reg;(simp [Ag, s0, z0];exact .r _))
    refine W_cond (by simp; exact .r _) (fun hc => ?_) (fun hc => ?_)
    · repeat' first|refine W_seq ?_|refine W_block ?_|refine W_skip ?_|refine W_ret ?_|refine W_exit ?_|refine xb_hit ?_|refine xb_miss (by decide) ?_|(apply W_reg;(simp;exact .r _))
      simp
    · simp at hc
  have z0 : szA (Lw.w a0) (1048576 : Int) = 1048576 - Lw.w a0 := by unfold szA; rw [if_pos e0]
  have n0 : ¬ ((1048576 : Int) - Lw.w a0 < 0) := by omega
  repeat' first|refine W_seq ?_|refine W_block ?_|refine W_skip ?_|refine W_ret ?_|refine W_exit ?_|refine xb_hit ?_|refine xb_miss (by decide) ?_|(apply W_reg;(simp [Ag, s0, z0, n0];exact .r _))
  refine W_cond (by simp; exact .r _) (fun hc => ?_) (fun hc => ?_)
  · simp at hc
  have s1 := cv (szCache_r a1 (1048576 - Lw.w a0 : Int) (by omega) (by omega) f1)
  simp only [Ag, rowsE_nil, cells_Sch, cells_Q, cells_RA, cells_Src, cells_Chg, cells_Cch, cells_Crt, cells_Ses, cells_Wtd, List.map_cons, List.map_nil] at s1
  by_cases e1 : ((Lw.w a1 : Nat) : Int) ≤ (1048576 - Lw.w a0 : Int)
  case neg =>
    have z1 : szA (Lw.w a1) (1048576 - Lw.w a0 : Int) = -1 := by unfold szA; rw [if_neg e1]
    repeat' first|refine W_seq ?_|refine W_block ?_|refine W_skip ?_|refine W_ret ?_|refine W_exit ?_|refine xb_hit ?_|refine xb_miss (by decide) ?_|(apply W_reg;(simp [Ag, s1, z1];exact .r _))
    refine W_cond (by simp; exact .r _) (fun hc => ?_) (fun hc => ?_)
    · repeat' first|refine W_seq ?_|refine W_block ?_|refine W_skip ?_|refine W_ret ?_|refine W_exit ?_|refine xb_hit ?_|refine xb_miss (by decide) ?_|(apply W_reg;(simp;exact .r _))
      simp
    · simp at hc
  have z1 : szA (Lw.w a1) (1048576 - Lw.w a0 : Int) = 1048576 - Lw.w a0 - Lw.w a1 := by unfold szA; rw [if_pos e1]
  have n1 : ¬ ((1048576 - Lw.w a0 : Int) - Lw.w a1 < 0) := by omega
  repeat' first|refine W_seq ?_|refine W_block ?_|refine W_skip ?_|refine W_ret ?_|refine W_exit ?_|refine xb_hit ?_|refine xb_miss (by decide) ?_|(apply W_reg;(simp [Ag, s1, z1, n1];exact .r _))
  refine W_cond (by simp; exact .r _) (fun hc => ?_) (fun hc => ?_)
  · simp at hc
  have s2 := cv (szSource_r a2 (1048576 - Lw.w a0 - Lw.w a1 : Int) (by omega) (by omega) f2)
  simp only [Ag, rowsE_nil, cells_Sch, cells_Q, cells_RA, cells_Src, cells_Chg, cells_Cch, cells_Crt, cells_Ses, cells_Wtd, List.map_cons, List.map_nil] at s2
  by_cases e2 : ((Lw.w a2 : Nat) : Int) ≤ (1048576 - Lw.w a0 - Lw.w a1 : Int)
  case neg =>
    have z2 : szA (Lw.w a2) (1048576 - Lw.w a0 - Lw.w a1 : Int) = -1 := by unfold szA; rw [if_neg e2]
    repeat' first|refine W_seq ?_|refine W_block ?_|refine W_skip ?_|refine W_ret ?_|refine W_exit ?_|refine xb_hit ?_|refine xb_miss (by decide) ?_|(apply W_reg;(simp [Ag, s2, z2];exact .r _))
    refine W_cond (by simp; exact .r _) (fun hc => ?_) (fun hc => ?_)
    · repeat' first|refine W_seq ?_|refine W_block ?_|refine W_skip ?_|refine W_ret ?_|refine W_exit ?_|refine xb_hit ?_|refine xb_miss (by decide) ?_|(apply W_reg;(simp;exact .r _))
      simp
    · simp at hc
  have z2 : szA (Lw.w a2) (1048576 - Lw.w a0 - Lw.w a1 : Int) = 1048576 - Lw.w a0 - Lw.w a1 - Lw.w a2 := by unfold szA; rw [if_pos e2]
  have n2 : ¬ ((1048576 - Lw.w a0 - Lw.w a1 : Int) - Lw.w a2 < 0) := by omega
  repeat' first|refine W_seq ?_|refine W_block ?_|refine W_skip ?_|refine W_ret ?_|refine W_exit ?_|refine xb_hit ?_|refine xb_miss (by decide) ?_|(apply W_reg;(simp [Ag, s2, z2, n2];exact .r _))
  refine W_cond (by simp; exact .r _) (fun hc => ?_) (fun hc => ?_)
  · simp at hc
  have s3 := cv (szChange_r a3 (1048576 - Lw.w a0 - Lw.w a1 - Lw.w a2 : Int) (by omega) (by omega) f3)
  simp only [Ag, rowsE_nil, cells_Sch, cells_Q, cells_RA, cells_Src, cells_Chg, cells_Cch, cells_Crt, cells_Ses, cells_Wtd, List.map_cons, List.map_nil] at s3
  by_cases e3 : ((Lw.w a3 : Nat) : Int) ≤ (1048576 - Lw.w a0 - Lw.w a1 - Lw.w a2 : Int)
  case neg =>
    have z3 : szA (Lw.w a3) (1048576 - Lw.w a0 - Lw.w a1 - Lw.w a2 : Int) = -1 := by unfold szA; rw [if_neg e3]
    repeat' first|refine W_seq ?_|refine W_block ?_|refine W_skip ?_|refine W_ret ?_|refine W_exit ?_|refine xb_hit ?_|refine xb_miss (by decide) ?_|(apply W_reg;(simp [Ag, s3, z3];exact .r _))
    refine W_cond (by simp; exact .r _) (fun hc => ?_) (fun hc => ?_)
    · repeat' first|refine W_seq ?_|refine W_block ?_|refine W_skip ?_|refine W_ret ?_|refine W_exit ?_|refine xb_hit ?_|refine xb_miss (by decide) ?_|(apply W_reg;(simp;exact .r _))
      simp
    · simp at hc
  have z3 : szA (Lw.w a3) (1048576 - Lw.w a0 - Lw.w a1 - Lw.w a2 : Int) = 1048576 - Lw.w a0 - Lw.w a1 - Lw.w a2 - Lw.w a3 := by unfold szA; rw [if_pos e3]
  have n3 : ¬ ((1048576 - Lw.w a0 - Lw.w a1 - Lw.w a2 : Int) - Lw.w a3 < 0) := by omega
  repeat' first|refine W_seq ?_|refine W_block ?_|refine W_skip ?_|refine W_ret ?_|refine W_exit ?_|refine xb_hit ?_|refine xb_miss (by decide) ?_|(apply W_reg;(simp [Ag, s3, z3, n3];exact .r _))
  refine W_cond (by simp; exact .r _) (fun hc => ?_) (fun hc => ?_)
  · simp at hc
  have b0 : Lw.bd 1048576 a0 := Lw.bd_of _ _ (by omega)
  have b1 : Lw.bd 1048576 a1 := Lw.bd_of _ _ (by omega)
  have b2 : Lw.bd 1048576 a2 := Lw.bd_of _ _ (by omega)
  have b3 : Lw.bd 1048576 a3 := Lw.bd_of _ _ (by omega)
  have t0 := cv (toSchema_r a0 b0)
  have t1 := cv (toCache_r a1 b1)
  have t2 := cv (toSource_r a2 b2)
  have t3 := cv (toChange_r a3 b3)
  have qp0 := cv (eqSchema_r a0 a0 b0)
  have qp1 := cv (eqCache_r a1 a1 b1)
  have qp2 := cv (eqSource_r a2 a2 b2)
  have qp3 := cv (eqChange_r a3 a3 b3)
  simp only [Ag, rowsE_nil, cells_Sch, cells_Q, cells_RA, cells_Src, cells_Chg, cells_Cch, cells_Crt, cells_Ses, cells_Wtd, List.map_cons, List.map_nil] at t0 t1 t2 t3
  simp only [Ag, rowsE_nil, cells_Sch, cells_Q, cells_RA, cells_Src, cells_Chg, cells_Cch, cells_Crt, cells_Ses, cells_Wtd, List.map_cons, List.map_nil] at qp0 qp1 qp2 qp3
  have w0 := cw_Sch a0
  have w1 := cw_Cch a1
  have w2 := cw_Src a2
  have w3 := cw_Chg a3
  have sp := specUpd_r a0 a1 a2 a3 b0 b1 b2 b3
  have im := implUpd_r a0 a1 a2 a3 (Nat.lt_of_le_of_lt b0.1 (by omega)) (SmC.of (by omega) b1) ⟨Nat.lt_of_le_of_lt (show a2.facts.length ≤ _ from b2.1) (by omega), fun a ha => Nat.lt_of_le_of_lt (b2.2 a ha).1 (by omega)⟩ (Nat.lt_of_le_of_lt (show a3.fact.args.length ≤ _ from b3.1) (by omega))
  obtain ⟨E, hE⟩ : ∃ E : List Int, E = [] := ⟨_, rfl⟩
  have bE : Lw.bd 1048576 E := by rw [hE]; exact ⟨Nat.zero_le _, fun _ h => by cases h⟩
  have wE := cb_list E bE
  have wV := cb_list a1.views b1.1
  have wT := cb_list a1.tables b1.2
  have wS := cb_list a2.facts b2
  have b0T : Lw.bd 1048576 ([] : List (List Row)) := ⟨Nat.zero_le _, fun _ h => by cases h⟩
  have c0n : cntL ([] : List (List Row)) = 0 := rfl
  have h5 : (∃ ts, updR a0 a1 a2 a3 = some ts) ∨ (updR a0 a1 a2 a3 = none ∧ a1.views = [] ∧ a1.tables = []) ∨ (updR a0 a1 a2 a3 = none ∧ a1.views = [] ∧ ¬ a1.tables = []) ∨ (updR a0 a1 a2 a3 = none ∧ ¬ a1.views = [] ∧ a1.tables = []) ∨ (updR a0 a1 a2 a3 = none ∧ ¬ a1.views = [] ∧ ¬ a1.tables = []) := by
    cases updR a0 a1 a2 a3 with
    | some ts => exact .inl ⟨ts, rfl⟩
    | none => by_cases g1 : a1.views = [] <;> by_cases g2 : a1.tables = [] <;> simp [g1, g2]
  rcases h5 with ⟨ts, u⟩ | ⟨u, g1, g2⟩ | ⟨u, g1, g2⟩ | ⟨u, g1, g2⟩ | ⟨u, g1, g2⟩
  · obtain ⟨ok1, ok2⟩ := updR_ok u
    have bts : Lw.bd 1048576 ts := upT_bd (by omega) b1.1 _ b1.2 ok2
    have bF : Lw.bd 1048576 (appF a2 a3) := appF_bd b2 b3 (appOk_ver ok1).1 (by omega)
    have bR : Lw.bd 1048576 (affI a1 a3.fact) := ⟨Nat.le_trans affL_len b1.1.1, fun _ _ => trivial⟩
    rw [show xUpdS a0 a1 a2 a3 = .tup [xvC a1.views ts (a2.version + 1), xvS (appF a2 a3) (a2.version + 1), .own 1 (rowsE (affI a1 a3.fact)), .t (.b true) false] by rw [xUpdS, u]] at sp
    rw [show xUpdI a0 a1 a2 a3 = .tup [xvC a1.views ts (a2.version + 1), xvS (appF a2 a3) (a2.version + 1), .own 1 (rowsE (affI a1 a3.fact)), .t (.b true) false] by rw [xUpdI, u]] at im
    clear ok2
    generalize appF a2 a3 = F at sp im bF
    generalize affI a1 a3.fact = R at sp im bR
    have wts := cb_list ts bts
    have wF := cb_list F bF
    have wR := cb_list R bR
    have sp0 := cv sp
    have im0 := cv im
    simp only [Ag, cells_Sch, cells_Cch, cells_Src, cells_RA, cells_Chg, List.map_cons, List.map_nil] at sp0 im0
    have qr0 := cv (eqCache_r (⟨a1.views, ts, a2.version + 1⟩ : Cch) (⟨a1.views, ts, a2.version + 1⟩ : Cch) (⟨b1.1, bts⟩))
    simp only [Ag, rowsE_nil, cells_Sch, cells_Q, cells_RA, cells_Src, cells_Chg, cells_Cch, cells_Crt, cells_Ses, cells_Wtd, List.map_cons, List.map_nil] at qr0
    have qr1 := cv (eqSource_r (⟨F, a2.version + 1⟩ : Src) (⟨F, a2.version + 1⟩ : Src) (bF))
    simp only [Ag, rowsE_nil, cells_Sch, cells_Q, cells_RA, cells_Src, cells_Chg, cells_Cch, cells_Crt, cells_Ses, cells_Wtd, List.map_cons, List.map_nil] at qr1
    have qr2 := cv (eqIntS_r (R) (R) (bR))
    repeat' first|refine W_seq ?_|refine W_block ?_|refine W_skip ?_|refine W_ret ?_|refine W_exit ?_|refine xb_hit ?_|refine xb_miss (by decide) ?_|(apply W_reg;(simp [t0, t1, t2, t3, sp0, im0, qr0, qr1, qr2];exact .r _))|(apply W_draw (id := 14) [0,1,0,7,0,31,0,127,255,511,1023,1023,1023,1023,0,0,51199,118783,253951,524287] rfl rfl; (· simp; exact .r _); (· simp [t0, t1, t2, t3, sp0, im0, qr0, qr1, qr2]; exact .r _); (· first|trivial|simp))
    refine W_cond (by simp; exact .r _) (fun hc => ?_) (fun hc => ?_)
    · simp at hc
    repeat' first|refine W_seq ?_|refine W_block ?_|refine W_skip ?_|refine W_ret ?_|refine W_exit ?_|refine xb_hit ?_|refine xb_miss (by decide) ?_|(apply W_reg;(simp [t0, qp0];exact .r _))|(apply W_draw (id := 22) [0,0,2,7,15] rfl rfl; (· simp; exact .r _); (· simp [t0, qp0]; exact .r _); (· first|trivial|simp))
    refine W_cond (by simp; exact .r _) (fun hc => ?_) (fun hc => ?_)
    · simp at hc
    repeat' first|refine W_seq ?_|refine W_block ?_|refine W_skip ?_|refine W_ret ?_|refine W_exit ?_|refine xb_hit ?_|refine xb_miss (by decide) ?_|(apply W_reg;(simp [t1, qp1];exact .r _))|(apply W_draw (id := 24) [0,0,2,7,15] rfl rfl; (· simp; exact .r _); (· simp [t1, qp1]; exact .r _); (· first|trivial|simp))
    refine W_cond (by simp; exact .r _) (fun hc => ?_) (fun hc => ?_)
    · simp at hc
    repeat' first|refine W_seq ?_|refine W_block ?_|refine W_skip ?_|refine W_ret ?_|refine W_exit ?_|refine xb_hit ?_|refine xb_miss (by decide) ?_|(apply W_reg;(simp [t2, qp2];exact .r _))|(apply W_draw (id := 26) [0,0,2,7,15] rfl rfl; (· simp; exact .r _); (· simp [t2, qp2]; exact .r _); (· first|trivial|simp))
    refine W_cond (by simp; exact .r _) (fun hc => ?_) (fun hc => ?_)
    · simp at hc
    repeat' first|refine W_seq ?_|refine W_block ?_|refine W_skip ?_|refine W_ret ?_|refine W_exit ?_|refine xb_hit ?_|refine xb_miss (by decide) ?_|(apply W_reg;(simp [t3, qp3];exact .r _))|(apply W_draw (id := 28) [0,0,2,7,15] rfl rfl; (· simp; exact .r _); (· simp [t3, qp3]; exact .r _); (· first|trivial|simp))
    refine W_cond (by simp; exact .r _) (fun hc => ?_) (fun hc => ?_)
    · simp at hc
    refine W_gen (fun s2 => Cl s2 ∧ s2.n = 35 ∧ s2.ob 0 = .box [Ar a0.arity] ∧ s2.ob 1 = .box [Ar a1.views, Ar a1.tables, In a1.version] ∧ s2.ob 2 = .box [Ar a2.facts, In a2.version] ∧ s2.ob 3 = .box [Bo a3.insert, In a3.fact.rel, Ar a3.fact.args] ∧ s2.ob 4 = .box [.ref 11 ((⟨a1.views, ts, a2.version + 1⟩ : Cch).views).length [], .ref 12 ((⟨a1.views, ts, a2.version + 1⟩ : Cch).tables).length [], In (⟨a1.views, ts, a2.version + 1⟩ : Cch).version] ∧ s2.ob 5 = .box [.ref 13 ((⟨F, a2.version + 1⟩ : Src).facts).length [], In (⟨F, a2.version + 1⟩ : Src).version] ∧ s2.ob 11 = .arr (.own 0) 0 2 (rowsE (⟨a1.views, ts, a2.version + 1⟩ : Cch).views) ∧ s2.ob 12 = .arr (.own 0) 0 1 (rowsE (⟨a1.views, ts, a2.version + 1⟩ : Cch).tables) ∧ s2.ob 13 = .arr (.own 0) 0 2 (rowsE (⟨F, a2.version + 1⟩ : Src).facts) ∧ s2.ob 14 = .arr (.own 0) 0 1 (rowsE (R)) ∧ s2.ob 15 = .arr (.own 0) 0 1 (rowsE a0.arity) ∧ s2.ob 16 = .box [.ref 15 (a0.arity).length []] ∧ s2.ob 17 = .arr (.own 0) 0 2 (rowsE a1.views) ∧ s2.ob 18 = .arr (.own 0) 0 1 (rowsE a1.tables) ∧ s2.ob 19 = .box [.ref 17 (a1.views).length [], .ref 18 (a1.tables).length [], In a1.version] ∧ s2.ob 20 = .arr (.own 0) 0 2 (rowsE a2.facts) ∧ s2.ob 21 = .box [.ref 20 (a2.facts).length [], In a2.version] ∧ s2.ob 22 = .arr (.own 0) 0 1 (rowsE a3.fact.args) ∧ s2.ob 23 = .box [Bo a3.insert, In a3.fact.rel, .ref 22 (a3.fact.args).length []] ∧ s2.ob 24 = .arr (.own 0) 0 2 (rowsE (⟨a1.views, ts, a2.version + 1⟩ : Cch).views) ∧ s2.ob 25 = .arr (.own 0) 0 1 (rowsE (⟨a1.views, ts, a2.version + 1⟩ : Cch).tables) ∧ s2.ob 26 = .arr (.own 0) 0 2 (rowsE (⟨F, a2.version + 1⟩ : Src).facts) ∧ s2.ob 27 = .arr (.own 0) 0 1 (rowsE (R)) ∧ s2.ob 28 = .box [.ref 24 ((⟨a1.views, ts, a2.version + 1⟩ : Cch).views).length [], .ref 25 ((⟨a1.views, ts, a2.version + 1⟩ : Cch).tables).length [], In (⟨a1.views, ts, a2.version + 1⟩ : Cch).version] ∧ s2.ob 29 = .box [.ref 26 ((⟨F, a2.version + 1⟩ : Src).facts).length [], In (⟨F, a2.version + 1⟩ : Src).version]) ?_ (fun s2 hq2 => ?_)
    · refine ⟨?_, rfl, by simp [upd_app], by simp [upd_app], by simp [upd_app], by simp [upd_app], by simp [upd_app], by simp [upd_app], by simp [upd_app], by simp [upd_app], by simp [upd_app], by simp [upd_app], by simp [upd_app], by simp [upd_app], by simp [upd_app], by simp [upd_app], by simp [upd_app], by simp [upd_app], by simp [upd_app], by simp [upd_app], by simp [upd_app], by simp [upd_app], by simp [upd_app], by simp [upd_app], by simp [upd_app], by simp [upd_app], by simp [upd_app]⟩
      try rw [upd_srt (a := 4) (b := 5) (by decide)]
      try rw [upd_srt (a := 28) (b := 29) (by decide)]
      try simp only [upd_upd]
      repeat' first | exact Cl.e | refine Cl.new ?_ (by simp [VO.clean, cleanA, clean1]) | refine Cl.set ?_ (by decide) (by simp [VO.clean, cleanA, clean1])
    obtain ⟨n2, ob2⟩ := s2
    obtain ⟨hcl, hn2, o0, o1, o2, o3, o4, o5, o11, o12, o13, o14, o15, o16, o17, o18, o19, o20, o21, o22, o23, o24, o25, o26, o27, o28, o29⟩ := hq2
    simp only at hn2 o0 o1 o2 o3 o4 o5 o11 o12 o13 o14 o15 o16 o17 o18 o19 o20 o21 o22 o23 o24 o25 o26 o27 o28 o29
    subst hn2
    have kp0 := markSchema_c ⟨35, ob2⟩ 15 0 a0 (by simp [upd_app, o15]) (by show _ < 35; omega)  hcl ((1 : Int)) (by omega) (by first | omega | (dsimp only; omega)) (b0)
    simp only [Sto.set, setAt] at kp0
    try dsimp only at kp0
    have kp1 := markCache_c ⟨35, upd (ob2) 15 (.arr (.own 0) 0 1 (rowsE (mkL ((1 : Int)) a0.arity)))⟩ 17 18 0 0 a1 (by simp [upd_app, o17, o18]) (by simp [upd_app, o17, o18]) (by show _ < 35; omega) (by show _ < 35; omega) (by omega) (Cl.set hcl (by omega) rfl) ((1 : Int) + cntL a0.arity) (by omega) (by first | omega | (dsimp only; omega)) (b1)
    simp only [Sto.set, setAt] at kp1
    try dsimp only at kp1
    have kp2 := markSource_c ⟨35, upd (upd (upd (ob2) 15 (.arr (.own 0) 0 1 (rowsE (mkL ((1 : Int)) a0.arity)))) 17 (.arr (.own 0) 0 2 (rowsE (mkL ((1 : Int) + cntL a0.arity) a1.views)))) 18 (.arr (.own 0) 0 1 (rowsE (mkL ((1 : Int) + cntL a0.arity + cntL a1.views) a1.tables)))⟩ 20 0 a2 (by simp [upd_app, o20]) (by show _ < 35; omega)  (Cl.set (Cl.set (Cl.set hcl (by omega) rfl) (by omega) rfl) (by omega) rfl) ((1 : Int) + cntL a0.arity + cntL a1.views + cntL a1.tables) (by omega) (by first | omega | (dsimp only; omega)) (b2)
    simp only [Sto.set, setAt] at kp2
    try dsimp only at kp2
    have kp3 := markChange_c ⟨35, upd (upd (upd (upd (ob2) 15 (.arr (.own 0) 0 1 (rowsE (mkL ((1 : Int)) a0.arity)))) 17 (.arr (.own 0) 0 2 (rowsE (mkL ((1 : Int) + cntL a0.arity) a1.views)))) 18 (.arr (.own 0) 0 1 (rowsE (mkL ((1 : Int) + cntL a0.arity + cntL a1.views) a1.tables)))) 20 (.arr (.own 0) 0 2 (rowsE (mkL ((1 : Int) + cntL a0.arity + cntL a1.views + cntL a1.tables) a2.facts)))⟩ 22 0 a3 (by simp [upd_app, o22]) (by show _ < 35; omega)  (Cl.set (Cl.set (Cl.set (Cl.set hcl (by omega) rfl) (by omega) rfl) (by omega) rfl) (by omega) rfl) ((1 : Int) + cntL a0.arity + cntL a1.views + cntL a1.tables + cntL a2.facts) (by omega) (by first | omega | (dsimp only; omega)) (b3)
    simp only [Sto.set, setAt] at kp3
    try dsimp only at kp3
    have pk : ¬ ((1 : Int) + cntL a0.arity + cntL a1.views + cntL a1.tables + cntL a2.facts + cntL a3.fact.args < 0) := by omega
    repeat' first|refine W_seq ?_|refine W_block ?_|refine W_skip ?_|refine W_ret ?_|refine W_exit ?_|refine xb_hit ?_|refine xb_miss (by decide) ?_|(apply W_reg;(simp [kp0, kp1, kp2, kp3, qr0, qr1, qr2, pk, o0, o1, o2, o3, o4, o5, o11, o12, o13, o14, o15, o16, o17, o18, o19, o20, o21, o22, o23, o24, o25, o26, o27, o28, o29];exact .r _))
    refine W_cond (by simp; exact .r _) (fun hc => ?_) (fun hc => ?_)
    · simp at hc
    have kg0 := markCache_c ⟨35, upd (upd (upd (upd (upd (ob2) 15 (.arr (.own 0) 0 1 (rowsE (mkL ((1 : Int)) a0.arity)))) 17 (.arr (.own 0) 0 2 (rowsE (mkL ((1 : Int) + cntL a0.arity) a1.views)))) 18 (.arr (.own 0) 0 1 (rowsE (mkL ((1 : Int) + cntL a0.arity + cntL a1.views) a1.tables)))) 20 (.arr (.own 0) 0 2 (rowsE (mkL ((1 : Int) + cntL a0.arity + cntL a1.views + cntL a1.tables) a2.facts)))) 22 (.arr (.own 0) 0 1 (rowsE (mkL ((1 : Int) + cntL a0.arity + cntL a1.views + cntL a1.tables + cntL a2.facts) a3.fact.args)))⟩ 24 25 0 0 (⟨a1.views, ts, a2.version + 1⟩ : Cch) (by simp [upd_app, o24, o25]) (by simp [upd_app, o24, o25]) (by show _ < 35; omega) (by show _ < 35; omega) (by omega) (Cl.set (Cl.set (Cl.set (Cl.set (Cl.set hcl (by omega) rfl) (by omega) rfl) (by omega) rfl) (by omega) rfl) (by omega) rfl) ((1 : Int)) (by omega) (by first | omega | (dsimp only; omega)) (⟨b1.1, bts⟩)
    simp only [Sto.set, setAt] at kg0
    try dsimp only at kg0
    have hg0 := cv (heldCache_r (⟨a1.views, ts, a2.version + 1⟩ : Cch) ((1 : Int)) (by omega) (by first | omega | (dsimp only; omega)) (⟨b1.1, bts⟩))
    try dsimp only at hg0
    have pg0 : ¬ ((1 : Int) + cntL (⟨a1.views, ts, a2.version + 1⟩ : Cch).views + cntL (⟨a1.views, ts, a2.version + 1⟩ : Cch).tables < 0) := by first | omega | (dsimp only; omega)
    try dsimp only at pg0
    have kg1 := markSource_c ⟨35, upd (upd (upd (upd (upd (upd (upd (ob2) 15 (.arr (.own 0) 0 1 (rowsE (mkL ((1 : Int)) a0.arity)))) 17 (.arr (.own 0) 0 2 (rowsE (mkL ((1 : Int) + cntL a0.arity) a1.views)))) 18 (.arr (.own 0) 0 1 (rowsE (mkL ((1 : Int) + cntL a0.arity + cntL a1.views) a1.tables)))) 20 (.arr (.own 0) 0 2 (rowsE (mkL ((1 : Int) + cntL a0.arity + cntL a1.views + cntL a1.tables) a2.facts)))) 22 (.arr (.own 0) 0 1 (rowsE (mkL ((1 : Int) + cntL a0.arity + cntL a1.views + cntL a1.tables + cntL a2.facts) a3.fact.args)))) 24 (.arr (.own 0) 0 2 (rowsE (mkL ((1 : Int)) (⟨a1.views, ts, a2.version + 1⟩ : Cch).views)))) 25 (.arr (.own 0) 0 1 (rowsE (mkL ((1 : Int) + cntL (⟨a1.views, ts, a2.version + 1⟩ : Cch).views) (⟨a1.views, ts, a2.version + 1⟩ : Cch).tables)))⟩ 26 0 (⟨F, a2.version + 1⟩ : Src) (by simp [upd_app, o26]) (by show _ < 35; omega)  (Cl.set (Cl.set (Cl.set (Cl.set (Cl.set (Cl.set (Cl.set hcl (by omega) rfl) (by omega) rfl) (by omega) rfl) (by omega) rfl) (by omega) rfl) (by omega) rfl) (by omega) rfl) ((1 : Int) + cntL (⟨a1.views, ts, a2.version + 1⟩ : Cch).views + cntL (⟨a1.views, ts, a2.version + 1⟩ : Cch).tables) (by omega) (by first | omega | (dsimp only; omega)) (bF)
    simp only [Sto.set, setAt] at kg1
    try dsimp only at kg1
    have hg1 := cv (heldSource_r (⟨F, a2.version + 1⟩ : Src) ((1 : Int) + cntL (⟨a1.views, ts, a2.version + 1⟩ : Cch).views + cntL (⟨a1.views, ts, a2.version + 1⟩ : Cch).tables) (by omega) (by first | omega | (dsimp only; omega)) (bF))
    try dsimp only at hg1
    have pg1 : ¬ ((1 : Int) + cntL (⟨a1.views, ts, a2.version + 1⟩ : Cch).views + cntL (⟨a1.views, ts, a2.version + 1⟩ : Cch).tables + cntL (⟨F, a2.version + 1⟩ : Src).facts < 0) := by first | omega | (dsimp only; omega)
    try dsimp only at pg1
    have kg2 := markIntS_c ⟨35, upd (upd (upd (upd (upd (upd (upd (upd (ob2) 15 (.arr (.own 0) 0 1 (rowsE (mkL ((1 : Int)) a0.arity)))) 17 (.arr (.own 0) 0 2 (rowsE (mkL ((1 : Int) + cntL a0.arity) a1.views)))) 18 (.arr (.own 0) 0 1 (rowsE (mkL ((1 : Int) + cntL a0.arity + cntL a1.views) a1.tables)))) 20 (.arr (.own 0) 0 2 (rowsE (mkL ((1 : Int) + cntL a0.arity + cntL a1.views + cntL a1.tables) a2.facts)))) 22 (.arr (.own 0) 0 1 (rowsE (mkL ((1 : Int) + cntL a0.arity + cntL a1.views + cntL a1.tables + cntL a2.facts) a3.fact.args)))) 24 (.arr (.own 0) 0 2 (rowsE (mkL ((1 : Int)) (⟨a1.views, ts, a2.version + 1⟩ : Cch).views)))) 25 (.arr (.own 0) 0 1 (rowsE (mkL ((1 : Int) + cntL (⟨a1.views, ts, a2.version + 1⟩ : Cch).views) (⟨a1.views, ts, a2.version + 1⟩ : Cch).tables)))) 26 (.arr (.own 0) 0 2 (rowsE (mkL ((1 : Int) + cntL (⟨a1.views, ts, a2.version + 1⟩ : Cch).views + cntL (⟨a1.views, ts, a2.version + 1⟩ : Cch).tables) (⟨F, a2.version + 1⟩ : Src).facts)))⟩ 27 ((R)).length 0 1 [] (rowsE ((R))) ((R)) (by simp [upd_app, o27]) ⟨fun _ => rowsE_len _, fun h => absurd rfl h, rfl⟩ ((1 : Int) + cntL (⟨a1.views, ts, a2.version + 1⟩ : Cch).views + cntL (⟨a1.views, ts, a2.version + 1⟩ : Cch).tables + cntL (⟨F, a2.version + 1⟩ : Src).facts) (by omega) (by first | omega | (dsimp only; omega)) (bR)
    simp only [Sto.set, setAt] at kg2
    have hg2 := cv (heldIntS_r (R) ((1 : Int) + cntL (⟨a1.views, ts, a2.version + 1⟩ : Cch).views + cntL (⟨a1.views, ts, a2.version + 1⟩ : Cch).tables + cntL (⟨F, a2.version + 1⟩ : Src).facts) (by omega) (by first | omega | (dsimp only; omega)) (bR))
    have pg2 : ¬ ((1 : Int) + cntL (⟨a1.views, ts, a2.version + 1⟩ : Cch).views + cntL (⟨a1.views, ts, a2.version + 1⟩ : Cch).tables + cntL (⟨F, a2.version + 1⟩ : Src).facts + cntL (R) < 0) := by first | omega | (dsimp only; omega)
    have pg : ¬ ((1 : Int) + cntL (⟨a1.views, ts, a2.version + 1⟩ : Cch).views + cntL (⟨a1.views, ts, a2.version + 1⟩ : Cch).tables + cntL (⟨F, a2.version + 1⟩ : Src).facts + cntL (R) < 0) := by omega
    repeat' first|refine W_seq ?_|refine W_block ?_|refine W_skip ?_|refine W_ret ?_|refine W_exit ?_|refine xb_hit ?_|refine xb_miss (by decide) ?_|(apply W_reg;(simp [kg0, kg1, kg2, hg0, hg1, hg2, pg, pg0, mkL_len, o0, o1, o2, o3, o4, o5, o11, o12, o13, o14, o15, o16, o17, o18, o19, o20, o21, o22, o23, o24, o25, o26, o27, o28, o29];exact .r _))
    refine W_cond (by simp; exact .r _) (fun hc => ?_) (fun hc => ?_)
    · simp at hc
    repeat' first|refine W_seq ?_|refine W_block ?_|refine W_skip ?_|refine W_ret ?_|refine W_exit ?_|refine xb_hit ?_|refine xb_miss (by decide) ?_|(apply W_reg;(simp [hg0, hg1, hg2, pg, pg1, mkL_len, o0, o1, o2, o3, o4, o5, o11, o12, o13, o14, o15, o16, o17, o18, o19, o20, o21, o22, o23, o24, o25, o26, o27, o28, o29];exact .r _))
    refine W_cond (by simp; exact .r _) (fun hc => ?_) (fun hc => ?_)
    · simp at hc
    repeat' first|refine W_seq ?_|refine W_block ?_|refine W_skip ?_|refine W_ret ?_|refine W_exit ?_|refine xb_hit ?_|refine xb_miss (by decide) ?_|(apply W_reg;(simp [hg0, hg1, hg2, pg, pg2, mkL_len, o0, o1, o2, o3, o4, o5, o11, o12, o13, o14, o15, o16, o17, o18, o19, o20, o21, o22, o23, o24, o25, o26, o27, o28, o29];exact .r _))
    refine W_cond (by simp; exact .r _) (fun hc => ?_) (fun hc => ?_)
    · simp at hc
    repeat' first|refine W_seq ?_|refine W_block ?_|refine W_skip ?_|refine W_ret ?_|refine W_exit ?_|refine xb_hit ?_|refine xb_miss (by decide) ?_|(apply W_reg;(simp;exact .r _))
    refine W_cond (by simp; exact .r _) (fun hc => ?_) (fun hc => ?_)
    · simp at hc
    repeat' first|refine W_seq ?_|refine W_block ?_|refine W_skip ?_|refine W_ret ?_|refine W_exit ?_|refine xb_hit ?_|refine xb_miss (by decide) ?_|(apply W_reg;(simp [t0, t1, t2, t3, im0, qr0, qr1, qr2, o0, o1, o2, o3, o4, o5, o11, o12, o13, o14, o15, o16, o17, o18, o19, o20, o21, o22, o23, o24, o25, o26, o27, o28, o29];exact .r _))|(apply W_draw (id := 53) [0,1,0,7,0,31,0,127,255,511,1023,1023,1023,1023,0,0,51199,118783,253951,524287] rfl rfl; (· simp; exact .r _); (· simp [t0, t1, t2, t3, im0, qr0, qr1, qr2, o0, o1, o2, o3, o4, o5, o11, o12, o13, o14, o15, o16, o17, o18, o19, o20, o21, o22, o23, o24, o25, o26, o27, o28, o29]; exact .r _); (· first|trivial|simp))
    refine W_cond (by simp; exact .r _) (fun hc => ?_) (fun hc => ?_)
    · simp at hc
    repeat' first|refine W_seq ?_|refine W_block ?_|refine W_skip ?_|refine W_ret ?_|refine W_exit ?_|refine xb_hit ?_|refine xb_miss (by decide) ?_|(apply W_reg;(simp [hg0, hg1, hg2, pg, pg0, mkL_len, o0, o1, o2, o3, o4, o5, o11, o12, o13, o14, o15, o16, o17, o18, o19, o20, o21, o22, o23, o24, o25, o26, o27, o28, o29];exact .r _))
    refine W_cond (by simp; exact .r _) (fun hc => ?_) (fun hc => ?_)
    · simp at hc
    repeat' first|refine W_seq ?_|refine W_block ?_|refine W_skip ?_|refine W_ret ?_|refine W_exit ?_|refine xb_hit ?_|refine xb_miss (by decide) ?_|(apply W_reg;(simp [hg0, hg1, hg2, pg, pg1, mkL_len, o0, o1, o2, o3, o4, o5, o11, o12, o13, o14, o15, o16, o17, o18, o19, o20, o21, o22, o23, o24, o25, o26, o27, o28, o29];exact .r _))
    refine W_cond (by simp; exact .r _) (fun hc => ?_) (fun hc => ?_)
    · simp at hc
    repeat' first|refine W_seq ?_|refine W_block ?_|refine W_skip ?_|refine W_ret ?_|refine W_exit ?_|refine xb_hit ?_|refine xb_miss (by decide) ?_|(apply W_reg;(simp [hg0, hg1, hg2, pg, pg2, mkL_len, o0, o1, o2, o3, o4, o5, o11, o12, o13, o14, o15, o16, o17, o18, o19, o20, o21, o22, o23, o24, o25, o26, o27, o28, o29];exact .r _))
    refine W_cond (by simp; exact .r _) (fun hc => ?_) (fun hc => ?_)
    · simp at hc
    repeat' first|refine W_seq ?_|refine W_block ?_|refine W_skip ?_|refine W_ret ?_|refine W_exit ?_|refine xb_hit ?_|refine xb_miss (by decide) ?_|(apply W_reg;(simp;exact .r _))
    refine W_cond (by simp; exact .r _) (fun hc => ?_) (fun hc => ?_)
    · simp at hc
    repeat' first|refine W_seq ?_|refine W_block ?_|refine W_skip ?_|refine W_ret ?_|refine W_exit ?_|refine xb_hit ?_|refine xb_miss (by decide) ?_|(apply W_reg;(simp;exact .r _))
    simp
  · rw [show xUpdS a0 a1 a2 a3 = .tup [.agg [.t .nl false, .t .nl false, .t (.i .i64 a1.version) false], xvS a2.facts a2.version, .own 1 (rowsE E), .t (.b false) false] by rw [xUpdS, u, hE, xvV, if_pos g1, xvT, if_pos g2] <;> rfl] at sp
    rw [show xUpdI a0 a1 a2 a3 = .tup [.agg [.own 2 (rowsE a1.views), .t .nl false, .t (.i .i64 a1.version) false], xvS a2.facts a2.version, .own 1 (rowsE E), .t (.b false) false] by rw [xUpdI, u, hE, xvT, if_pos g2] <;> rfl] at im
    have sp0 := cv sp
    have im0 := cv im
    simp only [Ag, cells_Sch, cells_Cch, cells_Src, cells_RA, cells_Chg, List.map_cons, List.map_nil] at sp0 im0
    have qr0 := cv (eqCache_r (⟨a1.views, [], a1.version⟩ : Cch) (⟨[], [], a1.version⟩ : Cch) (⟨b1.1, b0T⟩))
    rw [show decide ((⟨a1.views, [], a1.version⟩ : Cch) = (⟨[], [], a1.version⟩ : Cch)) = true from decide_eq_true (by rw [g1])] at qr0
    simp only [Ag, rowsE_nil, cells_Sch, cells_Q, cells_RA, cells_Src, cells_Chg, cells_Cch, cells_Crt, cells_Ses, cells_Wtd, List.map_cons, List.map_nil] at qr0
    have qr1 := cv (eqSource_r (a2) (a2) (b2))
    simp only [Ag, rowsE_nil, cells_Sch, cells_Q, cells_RA, cells_Src, cells_Chg, cells_Cch, cells_Crt, cells_Ses, cells_Wtd, List.map_cons, List.map_nil] at qr1
    have qr2 := cv (eqIntS_r (E) (E) (bE))
    repeat' first|refine W_seq ?_|refine W_block ?_|refine W_skip ?_|refine W_ret ?_|refine W_exit ?_|refine xb_hit ?_|refine xb_miss (by decide) ?_|(apply W_reg;(simp [t0, t1, t2, t3, sp0, im0, qr0, qr1, qr2];exact .r _))|(apply W_draw (id := 14) [0,1,0,7,0,31,0,127,255,511,1023,1023,1023,1023,0,0,51199,118783,253951,524287] rfl rfl; (· simp; exact .r _); (· simp [t0, t1, t2, t3, sp0, im0, qr0, qr1, qr2]; exact .r _); (· first|trivial|simp))
    refine W_cond (by simp; exact .r _) (fun hc => ?_) (fun hc => ?_)
    · simp at hc
    repeat' first|refine W_seq ?_|refine W_block ?_|refine W_skip ?_|refine W_ret ?_|refine W_exit ?_|refine xb_hit ?_|refine xb_miss (by decide) ?_|(apply W_reg;(simp [t0, qp0];exact .r _))|(apply W_draw (id := 22) [0,0,2,7,15] rfl rfl; (· simp; exact .r _); (· simp [t0, qp0]; exact .r _); (· first|trivial|simp))
    refine W_cond (by simp; exact .r _) (fun hc => ?_) (fun hc => ?_)
    · simp at hc
    repeat' first|refine W_seq ?_|refine W_block ?_|refine W_skip ?_|refine W_ret ?_|refine W_exit ?_|refine xb_hit ?_|refine xb_miss (by decide) ?_|(apply W_reg;(simp [t1, qp1];exact .r _))|(apply W_draw (id := 24) [0,0,2,7,15] rfl rfl; (· simp; exact .r _); (· simp [t1, qp1]; exact .r _); (· first|trivial|simp))
    refine W_cond (by simp; exact .r _) (fun hc => ?_) (fun hc => ?_)
    · simp at hc
    repeat' first|refine W_seq ?_|refine W_block ?_|refine W_skip ?_|refine W_ret ?_|refine W_exit ?_|refine xb_hit ?_|refine xb_miss (by decide) ?_|(apply W_reg;(simp [t2, qp2];exact .r _))|(apply W_draw (id := 26) [0,0,2,7,15] rfl rfl; (· simp; exact .r _); (· simp [t2, qp2]; exact .r _); (· first|trivial|simp))
    refine W_cond (by simp; exact .r _) (fun hc => ?_) (fun hc => ?_)
    · simp at hc
    repeat' first|refine W_seq ?_|refine W_block ?_|refine W_skip ?_|refine W_ret ?_|refine W_exit ?_|refine xb_hit ?_|refine xb_miss (by decide) ?_|(apply W_reg;(simp [t3, qp3];exact .r _))|(apply W_draw (id := 28) [0,0,2,7,15] rfl rfl; (· simp; exact .r _); (· simp [t3, qp3]; exact .r _); (· first|trivial|simp))
    refine W_cond (by simp; exact .r _) (fun hc => ?_) (fun hc => ?_)
    · simp at hc
    refine W_gen (fun s2 => Cl s2 ∧ s2.n = 32 ∧ s2.ob 0 = .box [Ar a0.arity] ∧ s2.ob 1 = .box [Ar a1.views, Ar a1.tables, In a1.version] ∧ s2.ob 2 = .box [Ar a2.facts, In a2.version] ∧ s2.ob 3 = .box [Bo a3.insert, In a3.fact.rel, Ar a3.fact.args] ∧ s2.ob 4 = .box [.t .nl, .t .nl, In (⟨[], [], a1.version⟩ : Cch).version] ∧ s2.ob 5 = .box [.ref 11 ((a2).facts).length [], In (a2).version] ∧ s2.ob 11 = .arr (.own 0) 0 2 (rowsE (a2).facts) ∧ s2.ob 12 = .arr (.own 0) 0 1 (rowsE (E)) ∧ s2.ob 13 = .arr (.own 0) 0 1 (rowsE a0.arity) ∧ s2.ob 14 = .box [.ref 13 (a0.arity).length []] ∧ s2.ob 15 = .arr (.own 0) 0 2 (rowsE a1.views) ∧ s2.ob 16 = .arr (.own 0) 0 1 (rowsE a1.tables) ∧ s2.ob 17 = .box [.ref 15 (a1.views).length [], .ref 16 (a1.tables).length [], In a1.version] ∧ s2.ob 18 = .arr (.own 0) 0 2 (rowsE a2.facts) ∧ s2.ob 19 = .box [.ref 18 (a2.facts).length [], In a2.version] ∧ s2.ob 20 = .arr (.own 0) 0 1 (rowsE a3.fact.args) ∧ s2.ob 21 = .box [Bo a3.insert, In a3.fact.rel, .ref 20 (a3.fact.args).length []] ∧ s2.ob 22 = .arr (.own 0) 0 2 (rowsE (⟨a1.views, [], a1.version⟩ : Cch).views) ∧ s2.ob 23 = .arr (.own 0) 0 2 (rowsE (a2).facts) ∧ s2.ob 24 = .arr (.own 0) 0 1 (rowsE (E)) ∧ s2.ob 25 = .box [.ref 22 ((⟨a1.views, [], a1.version⟩ : Cch).views).length [], .t .nl, In (⟨a1.views, [], a1.version⟩ : Cch).version] ∧ s2.ob 26 = .box [.ref 23 ((a2).facts).length [], In (a2).version]) ?_ (fun s2 hq2 => ?_)
    · refine ⟨?_, rfl, by simp [upd_app], by simp [upd_app], by simp [upd_app], by simp [upd_app], by simp [upd_app], by simp [upd_app], by simp [upd_app], by simp [upd_app], by simp [upd_app], by simp [upd_app], by simp [upd_app], by simp [upd_app], by simp [upd_app], by simp [upd_app], by simp [upd_app], by simp [upd_app], by simp [upd_app], by simp [upd_app], by simp [upd_app], by simp [upd_app], by simp [upd_app], by simp [upd_app]⟩
      try rw [upd_srt (a := 4) (b := 5) (by decide)]
      try rw [upd_srt (a := 25) (b := 26) (by decide)]
      try simp only [upd_upd]
      repeat' first | exact Cl.e | refine Cl.new ?_ (by simp [VO.clean, cleanA, clean1]) | refine Cl.set ?_ (by decide) (by simp [VO.clean, cleanA, clean1])
    obtain ⟨n2, ob2⟩ := s2
    obtain ⟨hcl, hn2, o0, o1, o2, o3, o4, o5, o11, o12, o13, o14, o15, o16, o17, o18, o19, o20, o21, o22, o23, o24, o25, o26⟩ := hq2
    simp only at hn2 o0 o1 o2 o3 o4 o5 o11 o12 o13 o14 o15 o16 o17 o18 o19 o20 o21 o22 o23 o24 o25 o26
    subst hn2
    have kp0 := markSchema_c ⟨32, ob2⟩ 13 0 a0 (by simp [upd_app, o13]) (by show _ < 32; omega)  hcl ((1 : Int)) (by omega) (by first | omega | (dsimp only; omega)) (b0)
    simp only [Sto.set, setAt] at kp0
    try dsimp only at kp0
    have kp1 := markCache_c ⟨32, upd (ob2) 13 (.arr (.own 0) 0 1 (rowsE (mkL ((1 : Int)) a0.arity)))⟩ 15 16 0 0 a1 (by simp [upd_app, o15, o16]) (by simp [upd_app, o15, o16]) (by show _ < 32; omega) (by show _ < 32; omega) (by omega) (Cl.set hcl (by omega) rfl) ((1 : Int) + cntL a0.arity) (by omega) (by first | omega | (dsimp only; omega)) (b1)
    simp only [Sto.set, setAt] at kp1
    try dsimp only at kp1
    have kp2 := markSource_c ⟨32, upd (upd (upd (ob2) 13 (.arr (.own 0) 0 1 (rowsE (mkL ((1 : Int)) a0.arity)))) 15 (.arr (.own 0) 0 2 (rowsE (mkL ((1 : Int) + cntL a0.arity) a1.views)))) 16 (.arr (.own 0) 0 1 (rowsE (mkL ((1 : Int) + cntL a0.arity + cntL a1.views) a1.tables)))⟩ 18 0 a2 (by simp [upd_app, o18]) (by show _ < 32; omega)  (Cl.set (Cl.set (Cl.set hcl (by omega) rfl) (by omega) rfl) (by omega) rfl) ((1 : Int) + cntL a0.arity + cntL a1.views + cntL a1.tables) (by omega) (by first | omega | (dsimp only; omega)) (b2)
    simp only [Sto.set, setAt] at kp2
    try dsimp only at kp2
    have kp3 := markChange_c ⟨32, upd (upd (upd (upd (ob2) 13 (.arr (.own 0) 0 1 (rowsE (mkL ((1 : Int)) a0.arity)))) 15 (.arr (.own 0) 0 2 (rowsE (mkL ((1 : Int) + cntL a0.arity) a1.views)))) 16 (.arr (.own 0) 0 1 (rowsE (mkL ((1 : Int) + cntL a0.arity + cntL a1.views) a1.tables)))) 18 (.arr (.own 0) 0 2 (rowsE (mkL ((1 : Int) + cntL a0.arity + cntL a1.views + cntL a1.tables) a2.facts)))⟩ 20 0 a3 (by simp [upd_app, o20]) (by show _ < 32; omega)  (Cl.set (Cl.set (Cl.set (Cl.set hcl (by omega) rfl) (by omega) rfl) (by omega) rfl) (by omega) rfl) ((1 : Int) + cntL a0.arity + cntL a1.views + cntL a1.tables + cntL a2.facts) (by omega) (by first | omega | (dsimp only; omega)) (b3)
    simp only [Sto.set, setAt] at kp3
    try dsimp only at kp3
    have pk : ¬ ((1 : Int) + cntL a0.arity + cntL a1.views + cntL a1.tables + cntL a2.facts + cntL a3.fact.args < 0) := by omega
    repeat' first|refine W_seq ?_|refine W_block ?_|refine W_skip ?_|refine W_ret ?_|refine W_exit ?_|refine xb_hit ?_|refine xb_miss (by decide) ?_|(apply W_reg;(simp [kp0, kp1, kp2, kp3, qr0, qr1, qr2, pk, o0, o1, o2, o3, o4, o5, o11, o12, o13, o14, o15, o16, o17, o18, o19, o20, o21, o22, o23, o24, o25, o26];exact .r _))
    refine W_cond (by simp; exact .r _) (fun hc => ?_) (fun hc => ?_)
    · simp at hc
    have kg0 := markCache_n1 ⟨32, upd (upd (upd (upd (upd (ob2) 13 (.arr (.own 0) 0 1 (rowsE (mkL ((1 : Int)) a0.arity)))) 15 (.arr (.own 0) 0 2 (rowsE (mkL ((1 : Int) + cntL a0.arity) a1.views)))) 16 (.arr (.own 0) 0 1 (rowsE (mkL ((1 : Int) + cntL a0.arity + cntL a1.views) a1.tables)))) 18 (.arr (.own 0) 0 2 (rowsE (mkL ((1 : Int) + cntL a0.arity + cntL a1.views + cntL a1.tables) a2.facts)))) 20 (.arr (.own 0) 0 1 (rowsE (mkL ((1 : Int) + cntL a0.arity + cntL a1.views + cntL a1.tables + cntL a2.facts) a3.fact.args)))⟩ 22 0 (⟨a1.views, [], a1.version⟩ : Cch) (by simp [upd_app, o22]) (by show _ < 32; omega)  (Cl.set (Cl.set (Cl.set (Cl.set (Cl.set hcl (by omega) rfl) (by omega) rfl) (by omega) rfl) (by omega) rfl) (by omega) rfl) ((1 : Int)) (by omega) (by first | omega | (dsimp only; omega)) (⟨b1.1, b0T⟩)
    simp only [Sto.set, setAt] at kg0
    try dsimp only at kg0
    have hg0 := cv (heldCache_r (⟨a1.views, [], a1.version⟩ : Cch) ((1 : Int)) (by omega) (by first | omega | (dsimp only; omega)) (⟨b1.1, b0T⟩))
    try dsimp only at hg0
    simp only [mkL, cntL_nil, rowsE_nil, Int.natCast_zero, Int.add_zero, Ar] at hg0
    have pg0 : ¬ ((1 : Int) + cntL (⟨a1.views, [], a1.version⟩ : Cch).views < 0) := by first | omega | (dsimp only; omega)
    try dsimp only at pg0
    have kg1 := markSource_c ⟨32, upd (upd (upd (upd (upd (upd (ob2) 13 (.arr (.own 0) 0 1 (rowsE (mkL ((1 : Int)) a0.arity)))) 15 (.arr (.own 0) 0 2 (rowsE (mkL ((1 : Int) + cntL a0.arity) a1.views)))) 16 (.arr (.own 0) 0 1 (rowsE (mkL ((1 : Int) + cntL a0.arity + cntL a1.views) a1.tables)))) 18 (.arr (.own 0) 0 2 (rowsE (mkL ((1 : Int) + cntL a0.arity + cntL a1.views + cntL a1.tables) a2.facts)))) 20 (.arr (.own 0) 0 1 (rowsE (mkL ((1 : Int) + cntL a0.arity + cntL a1.views + cntL a1.tables + cntL a2.facts) a3.fact.args)))) 22 (.arr (.own 0) 0 2 (rowsE (mkL ((1 : Int)) (⟨a1.views, [], a1.version⟩ : Cch).views)))⟩ 23 0 (a2) (by simp [upd_app, o23]) (by show _ < 32; omega)  (Cl.set (Cl.set (Cl.set (Cl.set (Cl.set (Cl.set hcl (by omega) rfl) (by omega) rfl) (by omega) rfl) (by omega) rfl) (by omega) rfl) (by omega) rfl) ((1 : Int) + cntL (⟨a1.views, [], a1.version⟩ : Cch).views) (by omega) (by first | omega | (dsimp only; omega)) (b2)
    simp only [Sto.set, setAt] at kg1
    try dsimp only at kg1
    have hg1 := cv (heldSource_r (a2) ((1 : Int) + cntL (⟨a1.views, [], a1.version⟩ : Cch).views) (by omega) (by first | omega | (dsimp only; omega)) (b2))
    try dsimp only at hg1
    have pg1 : ¬ ((1 : Int) + cntL (⟨a1.views, [], a1.version⟩ : Cch).views + cntL (a2).facts < 0) := by first | omega | (dsimp only; omega)
    try dsimp only at pg1
    have kg2 := markIntS_c ⟨32, upd (upd (upd (upd (upd (upd (upd (ob2) 13 (.arr (.own 0) 0 1 (rowsE (mkL ((1 : Int)) a0.arity)))) 15 (.arr (.own 0) 0 2 (rowsE (mkL ((1 : Int) + cntL a0.arity) a1.views)))) 16 (.arr (.own 0) 0 1 (rowsE (mkL ((1 : Int) + cntL a0.arity + cntL a1.views) a1.tables)))) 18 (.arr (.own 0) 0 2 (rowsE (mkL ((1 : Int) + cntL a0.arity + cntL a1.views + cntL a1.tables) a2.facts)))) 20 (.arr (.own 0) 0 1 (rowsE (mkL ((1 : Int) + cntL a0.arity + cntL a1.views + cntL a1.tables + cntL a2.facts) a3.fact.args)))) 22 (.arr (.own 0) 0 2 (rowsE (mkL ((1 : Int)) (⟨a1.views, [], a1.version⟩ : Cch).views)))) 23 (.arr (.own 0) 0 2 (rowsE (mkL ((1 : Int) + cntL (⟨a1.views, [], a1.version⟩ : Cch).views) (a2).facts)))⟩ 24 ((E)).length 0 1 [] (rowsE ((E))) ((E)) (by simp [upd_app, o24]) ⟨fun _ => rowsE_len _, fun h => absurd rfl h, rfl⟩ ((1 : Int) + cntL (⟨a1.views, [], a1.version⟩ : Cch).views + cntL (a2).facts) (by omega) (by first | omega | (dsimp only; omega)) (bE)
    simp only [Sto.set, setAt] at kg2
    have hg2 := cv (heldIntS_r (E) ((1 : Int) + cntL (⟨a1.views, [], a1.version⟩ : Cch).views + cntL (a2).facts) (by omega) (by first | omega | (dsimp only; omega)) (bE))
    have pg2 : ¬ ((1 : Int) + cntL (⟨a1.views, [], a1.version⟩ : Cch).views + cntL (a2).facts + cntL (E) < 0) := by first | omega | (dsimp only; omega)
    have pg : ¬ ((1 : Int) + cntL (⟨a1.views, [], a1.version⟩ : Cch).views + cntL (a2).facts + cntL (E) < 0) := by omega
    repeat' first|refine W_seq ?_|refine W_block ?_|refine W_skip ?_|refine W_ret ?_|refine W_exit ?_|refine xb_hit ?_|refine xb_miss (by decide) ?_|(apply W_reg;(simp [kg0, kg1, kg2, hg0, hg1, hg2, pg, pg0, mkL_len, o0, o1, o2, o3, o4, o5, o11, o12, o13, o14, o15, o16, o17, o18, o19, o20, o21, o22, o23, o24, o25, o26];exact .r _))
    refine W_cond (by simp; exact .r _) (fun hc => ?_) (fun hc => ?_)
    · simp at hc
    repeat' first|refine W_seq ?_|refine W_block ?_|refine W_skip ?_|refine W_ret ?_|refine W_exit ?_|refine xb_hit ?_|refine xb_miss (by decide) ?_|(apply W_reg;(simp [hg0, hg1, hg2, pg, pg1, mkL_len, o0, o1, o2, o3, o4, o5, o11, o12, o13, o14, o15, o16, o17, o18, o19, o20, o21, o22, o23, o24, o25, o26];exact .r _))
    refine W_cond (by simp; exact .r _) (fun hc => ?_) (fun hc => ?_)
    · simp at hc
    repeat' first|refine W_seq ?_|refine W_block ?_|refine W_skip ?_|refine W_ret ?_|refine W_exit ?_|refine xb_hit ?_|refine xb_miss (by decide) ?_|(apply W_reg;(simp [hg0, hg1, hg2, pg, pg2, mkL_len, o0, o1, o2, o3, o4, o5, o11, o12, o13, o14, o15, o16, o17, o18, o19, o20, o21, o22, o23, o24, o25, o26];exact .r _))
    refine W_cond (by simp; exact .r _) (fun hc => ?_) (fun hc => ?_)
    · simp at hc
    repeat' first|refine W_seq ?_|refine W_block ?_|refine W_skip ?_|refine W_ret ?_|refine W_exit ?_|refine xb_hit ?_|refine xb_miss (by decide) ?_|(apply W_reg;(simp;exact .r _))
    refine W_cond (by simp; exact .r _) (fun hc => ?_) (fun hc => ?_)
    · simp at hc
    repeat' first|refine W_seq ?_|refine W_block ?_|refine W_skip ?_|refine W_ret ?_|refine W_exit ?_|refine xb_hit ?_|refine xb_miss (by decide) ?_|(apply W_reg;(simp [t0, t1, t2, t3, im0, qr0, qr1, qr2, o0, o1, o2, o3, o4, o5, o11, o12, o13, o14, o15, o16, o17, o18, o19, o20, o21, o22, o23, o24, o25, o26];exact .r _))|(apply W_draw (id := 53) [0,1,0,7,0,31,0,127,255,511,1023,1023,1023,1023,0,0,51199,118783,253951,524287] rfl rfl; (· simp; exact .r _); (· simp [t0, t1, t2, t3, im0, qr0, qr1, qr2, o0, o1, o2, o3, o4, o5, o11, o12, o13, o14, o15, o16, o17, o18, o19, o20, o21, o22, o23, o24, o25, o26]; exact .r _); (· first|trivial|simp))
    refine W_cond (by simp; exact .r _) (fun hc => ?_) (fun hc => ?_)
    · simp at hc
    repeat' first|refine W_seq ?_|refine W_block ?_|refine W_skip ?_|refine W_ret ?_|refine W_exit ?_|refine xb_hit ?_|refine xb_miss (by decide) ?_|(apply W_reg;(simp [hg0, hg1, hg2, pg, pg0, mkL_len, o0, o1, o2, o3, o4, o5, o11, o12, o13, o14, o15, o16, o17, o18, o19, o20, o21, o22, o23, o24, o25, o26];exact .r _))
    refine W_cond (by simp; exact .r _) (fun hc => ?_) (fun hc => ?_)
    · simp at hc
    repeat' first|refine W_seq ?_|refine W_block ?_|refine W_skip ?_|refine W_ret ?_|refine W_exit ?_|refine xb_hit ?_|refine xb_miss (by decide) ?_|(apply W_reg;(simp [hg0, hg1, hg2, pg, pg1, mkL_len, o0, o1, o2, o3, o4, o5, o11, o12, o13, o14, o15, o16, o17, o18, o19, o20, o21, o22, o23, o24, o25, o26];exact .r _))
    refine W_cond (by simp; exact .r _) (fun hc => ?_) (fun hc => ?_)
    · simp at hc
    repeat' first|refine W_seq ?_|refine W_block ?_|refine W_skip ?_|refine W_ret ?_|refine W_exit ?_|refine xb_hit ?_|refine xb_miss (by decide) ?_|(apply W_reg;(simp [hg0, hg1, hg2, pg, pg2, mkL_len, o0, o1, o2, o3, o4, o5, o11, o12, o13, o14, o15, o16, o17, o18, o19, o20, o21, o22, o23, o24, o25, o26];exact .r _))
    refine W_cond (by simp; exact .r _) (fun hc => ?_) (fun hc => ?_)
    · simp at hc
    repeat' first|refine W_seq ?_|refine W_block ?_|refine W_skip ?_|refine W_ret ?_|refine W_exit ?_|refine xb_hit ?_|refine xb_miss (by decide) ?_|(apply W_reg;(simp;exact .r _))
    refine W_cond (by simp; exact .r _) (fun hc => ?_) (fun hc => ?_)
    · simp at hc
    repeat' first|refine W_seq ?_|refine W_block ?_|refine W_skip ?_|refine W_ret ?_|refine W_exit ?_|refine xb_hit ?_|refine xb_miss (by decide) ?_|(apply W_reg;(simp;exact .r _))
    simp
  · rw [show xUpdS a0 a1 a2 a3 = .tup [.agg [.t .nl false, .own 1 (rowsE a1.tables), .t (.i .i64 a1.version) false], xvS a2.facts a2.version, .own 1 (rowsE E), .t (.b false) false] by rw [xUpdS, u, hE, xvV, if_pos g1, xvT, if_neg g2] <;> rfl] at sp
    rw [show xUpdI a0 a1 a2 a3 = .tup [.agg [.own 2 (rowsE a1.views), .own 1 (rowsE a1.tables), .t (.i .i64 a1.version) false], xvS a2.facts a2.version, .own 1 (rowsE E), .t (.b false) false] by rw [xUpdI, u, hE, xvT, if_neg g2] <;> rfl] at im
    have sp0 := cv sp
    have im0 := cv im
    simp only [Ag, cells_Sch, cells_Cch, cells_Src, cells_RA, cells_Chg, List.map_cons, List.map_nil] at sp0 im0
    have qr0 := cv (eqCache_r (⟨a1.views, a1.tables, a1.version⟩ : Cch) (⟨[], a1.tables, a1.version⟩ : Cch) (⟨b1.1, b1.2⟩))
    rw [show decide ((⟨a1.views, a1.tables, a1.version⟩ : Cch) = (⟨[], a1.tables, a1.version⟩ : Cch)) = true from decide_eq_true (by rw [g1])] at qr0
    simp only [Ag, rowsE_nil, cells_Sch, cells_Q, cells_RA, cells_Src, cells_Chg, cells_Cch, cells_Crt, cells_Ses, cells_Wtd, List.map_cons, List.map_nil] at qr0
    have qr1 := cv (eqSource_r (a2) (a2) (b2))
    simp only [Ag, rowsE_nil, cells_Sch, cells_Q, cells_RA, cells_Src, cells_Chg, cells_Cch, cells_Crt, cells_Ses, cells_Wtd, List.map_cons, List.map_nil] at qr1
    have qr2 := cv (eqIntS_r (E) (E) (bE))
    repeat' first|refine W_seq ?_|refine W_block ?_|refine W_skip ?_|refine W_ret ?_|refine W_exit ?_|refine xb_hit ?_|refine xb_miss (by decide) ?_|(apply W_reg;(simp [t0, t1, t2, t3, sp0, im0, qr0, qr1, qr2];exact .r _))|(apply W_draw (id := 14) [0,1,0,7,0,31,0,127,255,511,1023,1023,1023,1023,0,0,51199,118783,253951,524287] rfl rfl; (· simp; exact .r _); (· simp [t0, t1, t2, t3, sp0, im0, qr0, qr1, qr2]; exact .r _); (· first|trivial|simp))
    refine W_cond (by simp; exact .r _) (fun hc => ?_) (fun hc => ?_)
    · simp at hc
    repeat' first|refine W_seq ?_|refine W_block ?_|refine W_skip ?_|refine W_ret ?_|refine W_exit ?_|refine xb_hit ?_|refine xb_miss (by decide) ?_|(apply W_reg;(simp [t0, qp0];exact .r _))|(apply W_draw (id := 22) [0,0,2,7,15] rfl rfl; (· simp; exact .r _); (· simp [t0, qp0]; exact .r _); (· first|trivial|simp))
    refine W_cond (by simp; exact .r _) (fun hc => ?_) (fun hc => ?_)
    · simp at hc
    repeat' first|refine W_seq ?_|refine W_block ?_|refine W_skip ?_|refine W_ret ?_|refine W_exit ?_|refine xb_hit ?_|refine xb_miss (by decide) ?_|(apply W_reg;(simp [t1, qp1];exact .r _))|(apply W_draw (id := 24) [0,0,2,7,15] rfl rfl; (· simp; exact .r _); (· simp [t1, qp1]; exact .r _); (· first|trivial|simp))
    refine W_cond (by simp; exact .r _) (fun hc => ?_) (fun hc => ?_)
    · simp at hc
    repeat' first|refine W_seq ?_|refine W_block ?_|refine W_skip ?_|refine W_ret ?_|refine W_exit ?_|refine xb_hit ?_|refine xb_miss (by decide) ?_|(apply W_reg;(simp [t2, qp2];exact .r _))|(apply W_draw (id := 26) [0,0,2,7,15] rfl rfl; (· simp; exact .r _); (· simp [t2, qp2]; exact .r _); (· first|trivial|simp))
    refine W_cond (by simp; exact .r _) (fun hc => ?_) (fun hc => ?_)
    · simp at hc
    repeat' first|refine W_seq ?_|refine W_block ?_|refine W_skip ?_|refine W_ret ?_|refine W_exit ?_|refine xb_hit ?_|refine xb_miss (by decide) ?_|(apply W_reg;(simp [t3, qp3];exact .r _))|(apply W_draw (id := 28) [0,0,2,7,15] rfl rfl; (· simp; exact .r _); (· simp [t3, qp3]; exact .r _); (· first|trivial|simp))
    refine W_cond (by simp; exact .r _) (fun hc => ?_) (fun hc => ?_)
    · simp at hc
    refine W_gen (fun s2 => Cl s2 ∧ s2.n = 34 ∧ s2.ob 0 = .box [Ar a0.arity] ∧ s2.ob 1 = .box [Ar a1.views, Ar a1.tables, In a1.version] ∧ s2.ob 2 = .box [Ar a2.facts, In a2.version] ∧ s2.ob 3 = .box [Bo a3.insert, In a3.fact.rel, Ar a3.fact.args] ∧ s2.ob 4 = .box [.t .nl, .ref 11 ((⟨[], a1.tables, a1.version⟩ : Cch).tables).length [], In (⟨[], a1.tables, a1.version⟩ : Cch).version] ∧ s2.ob 5 = .box [.ref 12 ((a2).facts).length [], In (a2).version] ∧ s2.ob 11 = .arr (.own 0) 0 1 (rowsE (⟨[], a1.tables, a1.version⟩ : Cch).tables) ∧ s2.ob 12 = .arr (.own 0) 0 2 (rowsE (a2).facts) ∧ s2.ob 13 = .arr (.own 0) 0 1 (rowsE (E)) ∧ s2.ob 14 = .arr (.own 0) 0 1 (rowsE a0.arity) ∧ s2.ob 15 = .box [.ref 14 (a0.arity).length []] ∧ s2.ob 16 = .arr (.own 0) 0 2 (rowsE a1.views) ∧ s2.ob 17 = .arr (.own 0) 0 1 (rowsE a1.tables) ∧ s2.ob 18 = .box [.ref 16 (a1.views).length [], .ref 17 (a1.tables).length [], In a1.version] ∧ s2.ob 19 = .arr (.own 0) 0 2 (rowsE a2.facts) ∧ s2.ob 20 = .box [.ref 19 (a2.facts).length [], In a2.version] ∧ s2.ob 21 = .arr (.own 0) 0 1 (rowsE a3.fact.args) ∧ s2.ob 22 = .box [Bo a3.insert, In a3.fact.rel, .ref 21 (a3.fact.args).length []] ∧ s2.ob 23 = .arr (.own 0) 0 2 (rowsE (⟨a1.views, a1.tables, a1.version⟩ : Cch).views) ∧ s2.ob 24 = .arr (.own 0) 0 1 (rowsE (⟨a1.views, a1.tables, a1.version⟩ : Cch).tables) ∧ s2.ob 25 = .arr (.own 0) 0 2 (rowsE (a2).facts) ∧ s2.ob 26 = .arr (.own 0) 0 1 (rowsE (E)) ∧ s2.ob 27 = .box [.ref 23 ((⟨a1.views, a1.tables, a1.version⟩ : Cch).views).length [], .ref 24 ((⟨a1.views, a1.tables, a1.version⟩ : Cch).tables).length [], In (⟨a1.views, a1.tables, a1.version⟩ : Cch).version] ∧ s2.ob 28 = .box [.ref 25 ((a2).facts).length [], In (a2).version]) ?_ (fun s2 hq2 => ?_)
    · refine ⟨?_, rfl, by simp [upd_app], by simp [upd_app], by simp [upd_app], by simp [upd_app], by simp [upd_app], by simp [upd_app], by simp [upd_app], by simp [upd_app], by simp [upd_app], by simp [upd_app], by simp [upd_app], by simp [upd_app], by simp [upd_app], by simp [upd_app], by simp [upd_app], by simp [upd_app], by simp [upd_app], by simp [upd_app], by simp [upd_app], by simp [upd_app], by simp [upd_app], by simp [upd_app], by simp [upd_app], by simp [upd_app]⟩
      try rw [upd_srt (a := 4) (b := 5) (by decide)]
      try rw [upd_srt (a := 27) (b := 28) (by decide)]
      try simp only [upd_upd]
      repeat' first | exact Cl.e | refine Cl.new ?_ (by simp [VO.clean, cleanA, clean1]) | refine Cl.set ?_ (by decide) (by simp [VO.clean, cleanA, clean1])
    obtain ⟨n2, ob2⟩ := s2
    obtain ⟨hcl, hn2, o0, o1, o2, o3, o4, o5, o11, o12, o13, o14, o15, o16, o17, o18, o19, o20, o21, o22, o23, o24, o25, o26, o27, o28⟩ := hq2
    simp only at hn2 o0 o1 o2 o3 o4 o5 o11 o12 o13 o14 o15 o16 o17 o18 o19 o20 o21 o22 o23 o24 o25 o26 o27 o28
    subst hn2
    have kp0 := markSchema_c ⟨34, ob2⟩ 14 0 a0 (by simp [upd_app, o14]) (by show _ < 34; omega)  hcl ((1 : Int)) (by omega) (by first | omega | (dsimp only; omega)) (b0)
    simp only [Sto.set, setAt] at kp0
    try dsimp only at kp0
    have kp1 := markCache_c ⟨34, upd (ob2) 14 (.arr (.own 0) 0 1 (rowsE (mkL ((1 : Int)) a0.arity)))⟩ 16 17 0 0 a1 (by simp [upd_app, o16, o17]) (by simp [upd_app, o16, o17]) (by show _ < 34; omega) (by show _ < 34; omega) (by omega) (Cl.set hcl (by omega) rfl) ((1 : Int) + cntL a0.arity) (by omega) (by first | omega | (dsimp only; omega)) (b1)
    simp only [Sto.set, setAt] at kp1
    try dsimp only at kp1
    have kp2 := markSource_c ⟨34, upd (upd (upd (ob2) 14 (.arr (.own 0) 0 1 (rowsE (mkL ((1 : Int)) a0.arity)))) 16 (.arr (.own 0) 0 2 (rowsE (mkL ((1 : Int) + cntL a0.arity) a1.views)))) 17 (.arr (.own 0) 0 1 (rowsE (mkL ((1 : Int) + cntL a0.arity + cntL a1.views) a1.tables)))⟩ 19 0 a2 (by simp [upd_app, o19]) (by show _ < 34; omega)  (Cl.set (Cl.set (Cl.set hcl (by omega) rfl) (by omega) rfl) (by omega) rfl) ((1 : Int) + cntL a0.arity + cntL a1.views + cntL a1.tables) (by omega) (by first | omega | (dsimp only; omega)) (b2)
    simp only [Sto.set, setAt] at kp2
    try dsimp only at kp2
    have kp3 := markChange_c ⟨34, upd (upd (upd (upd (ob2) 14 (.arr (.own 0) 0 1 (rowsE (mkL ((1 : Int)) a0.arity)))) 16 (.arr (.own 0) 0 2 (rowsE (mkL ((1 : Int) + cntL a0.arity) a1.views)))) 17 (.arr (.own 0) 0 1 (rowsE (mkL ((1 : Int) + cntL a0.arity + cntL a1.views) a1.tables)))) 19 (.arr (.own 0) 0 2 (rowsE (mkL ((1 : Int) + cntL a0.arity + cntL a1.views + cntL a1.tables) a2.facts)))⟩ 21 0 a3 (by simp [upd_app, o21]) (by show _ < 34; omega)  (Cl.set (Cl.set (Cl.set (Cl.set hcl (by omega) rfl) (by omega) rfl) (by omega) rfl) (by omega) rfl) ((1 : Int) + cntL a0.arity + cntL a1.views + cntL a1.tables + cntL a2.facts) (by omega) (by first | omega | (dsimp only; omega)) (b3)
    simp only [Sto.set, setAt] at kp3
    try dsimp only at kp3
    have pk : ¬ ((1 : Int) + cntL a0.arity + cntL a1.views + cntL a1.tables + cntL a2.facts + cntL a3.fact.args < 0) := by omega
    repeat' first|refine W_seq ?_|refine W_block ?_|refine W_skip ?_|refine W_ret ?_|refine W_exit ?_|refine xb_hit ?_|refine xb_miss (by decide) ?_|(apply W_reg;(simp [kp0, kp1, kp2, kp3, qr0, qr1, qr2, pk, o0, o1, o2, o3, o4, o5, o11, o12, o13, o14, o15, o16, o17, o18, o19, o20, o21, o22, o23, o24, o25, o26, o27, o28];exact .r _))
    refine W_cond (by simp; exact .r _) (fun hc => ?_) (fun hc => ?_)
    · simp at hc
    have kg0 := markCache_c ⟨34, upd (upd (upd (upd (upd (ob2) 14 (.arr (.own 0) 0 1 (rowsE (mkL ((1 : Int)) a0.arity)))) 16 (.arr (.own 0) 0 2 (rowsE (mkL ((1 : Int) + cntL a0.arity) a1.views)))) 17 (.arr (.own 0) 0 1 (rowsE (mkL ((1 : Int) + cntL a0.arity + cntL a1.views) a1.tables)))) 19 (.arr (.own 0) 0 2 (rowsE (mkL ((1 : Int) + cntL a0.arity + cntL a1.views + cntL a1.tables) a2.facts)))) 21 (.arr (.own 0) 0 1 (rowsE (mkL ((1 : Int) + cntL a0.arity + cntL a1.views + cntL a1.tables + cntL a2.facts) a3.fact.args)))⟩ 23 24 0 0 (⟨a1.views, a1.tables, a1.version⟩ : Cch) (by simp [upd_app, o23, o24]) (by simp [upd_app, o23, o24]) (by show _ < 34; omega) (by show _ < 34; omega) (by omega) (Cl.set (Cl.set (Cl.set (Cl.set (Cl.set hcl (by omega) rfl) (by omega) rfl) (by omega) rfl) (by omega) rfl) (by omega) rfl) ((1 : Int)) (by omega) (by first | omega | (dsimp only; omega)) (⟨b1.1, b1.2⟩)
    simp only [Sto.set, setAt] at kg0
    try dsimp only at kg0
    have hg0 := cv (heldCache_r (⟨a1.views, a1.tables, a1.version⟩ : Cch) ((1 : Int)) (by omega) (by first | omega | (dsimp only; omega)) (⟨b1.1, b1.2⟩))
    try dsimp only at hg0
    have pg0 : ¬ ((1 : Int) + cntL (⟨a1.views, a1.tables, a1.version⟩ : Cch).views + cntL (⟨a1.views, a1.tables, a1.version⟩ : Cch).tables < 0) := by first | omega | (dsimp only; omega)
    try dsimp only at pg0
    have kg1 := markSource_c ⟨34, upd (upd (upd (upd (upd (upd (upd (ob2) 14 (.arr (.own 0) 0 1 (rowsE (mkL ((1 : Int)) a0.arity)))) 16 (.arr (.own 0) 0 2 (rowsE (mkL ((1 : Int) + cntL a0.arity) a1.views)))) 17 (.arr (.own 0) 0 1 (rowsE (mkL ((1 : Int) + cntL a0.arity + cntL a1.views) a1.tables)))) 19 (.arr (.own 0) 0 2 (rowsE (mkL ((1 : Int) + cntL a0.arity + cntL a1.views + cntL a1.tables) a2.facts)))) 21 (.arr (.own 0) 0 1 (rowsE (mkL ((1 : Int) + cntL a0.arity + cntL a1.views + cntL a1.tables + cntL a2.facts) a3.fact.args)))) 23 (.arr (.own 0) 0 2 (rowsE (mkL ((1 : Int)) (⟨a1.views, a1.tables, a1.version⟩ : Cch).views)))) 24 (.arr (.own 0) 0 1 (rowsE (mkL ((1 : Int) + cntL (⟨a1.views, a1.tables, a1.version⟩ : Cch).views) (⟨a1.views, a1.tables, a1.version⟩ : Cch).tables)))⟩ 25 0 (a2) (by simp [upd_app, o25]) (by show _ < 34; omega)  (Cl.set (Cl.set (Cl.set (Cl.set (Cl.set (Cl.set (Cl.set hcl (by omega) rfl) (by omega) rfl) (by omega) rfl) (by omega) rfl) (by omega) rfl) (by omega) rfl) (by omega) rfl) ((1 : Int) + cntL (⟨a1.views, a1.tables, a1.version⟩ : Cch).views + cntL (⟨a1.views, a1.tables, a1.version⟩ : Cch).tables) (by omega) (by first | omega | (dsimp only; omega)) (b2)
    simp only [Sto.set, setAt] at kg1
    try dsimp only at kg1
    have hg1 := cv (heldSource_r (a2) ((1 : Int) + cntL (⟨a1.views, a1.tables, a1.version⟩ : Cch).views + cntL (⟨a1.views, a1.tables, a1.version⟩ : Cch).tables) (by omega) (by first | omega | (dsimp only; omega)) (b2))
    try dsimp only at hg1
    have pg1 : ¬ ((1 : Int) + cntL (⟨a1.views, a1.tables, a1.version⟩ : Cch).views + cntL (⟨a1.views, a1.tables, a1.version⟩ : Cch).tables + cntL (a2).facts < 0) := by first | omega | (dsimp only; omega)
    try dsimp only at pg1
    have kg2 := markIntS_c ⟨34, upd (upd (upd (upd (upd (upd (upd (upd (ob2) 14 (.arr (.own 0) 0 1 (rowsE (mkL ((1 : Int)) a0.arity)))) 16 (.arr (.own 0) 0 2 (rowsE (mkL ((1 : Int) + cntL a0.arity) a1.views)))) 17 (.arr (.own 0) 0 1 (rowsE (mkL ((1 : Int) + cntL a0.arity + cntL a1.views) a1.tables)))) 19 (.arr (.own 0) 0 2 (rowsE (mkL ((1 : Int) + cntL a0.arity + cntL a1.views + cntL a1.tables) a2.facts)))) 21 (.arr (.own 0) 0 1 (rowsE (mkL ((1 : Int) + cntL a0.arity + cntL a1.views + cntL a1.tables + cntL a2.facts) a3.fact.args)))) 23 (.arr (.own 0) 0 2 (rowsE (mkL ((1 : Int)) (⟨a1.views, a1.tables, a1.version⟩ : Cch).views)))) 24 (.arr (.own 0) 0 1 (rowsE (mkL ((1 : Int) + cntL (⟨a1.views, a1.tables, a1.version⟩ : Cch).views) (⟨a1.views, a1.tables, a1.version⟩ : Cch).tables)))) 25 (.arr (.own 0) 0 2 (rowsE (mkL ((1 : Int) + cntL (⟨a1.views, a1.tables, a1.version⟩ : Cch).views + cntL (⟨a1.views, a1.tables, a1.version⟩ : Cch).tables) (a2).facts)))⟩ 26 ((E)).length 0 1 [] (rowsE ((E))) ((E)) (by simp [upd_app, o26]) ⟨fun _ => rowsE_len _, fun h => absurd rfl h, rfl⟩ ((1 : Int) + cntL (⟨a1.views, a1.tables, a1.version⟩ : Cch).views + cntL (⟨a1.views, a1.tables, a1.version⟩ : Cch).tables + cntL (a2).facts) (by omega) (by first | omega | (dsimp only; omega)) (bE)
    simp only [Sto.set, setAt] at kg2
    have hg2 := cv (heldIntS_r (E) ((1 : Int) + cntL (⟨a1.views, a1.tables, a1.version⟩ : Cch).views + cntL (⟨a1.views, a1.tables, a1.version⟩ : Cch).tables + cntL (a2).facts) (by omega) (by first | omega | (dsimp only; omega)) (bE))
    have pg2 : ¬ ((1 : Int) + cntL (⟨a1.views, a1.tables, a1.version⟩ : Cch).views + cntL (⟨a1.views, a1.tables, a1.version⟩ : Cch).tables + cntL (a2).facts + cntL (E) < 0) := by first | omega | (dsimp only; omega)
    have pg : ¬ ((1 : Int) + cntL (⟨a1.views, a1.tables, a1.version⟩ : Cch).views + cntL (⟨a1.views, a1.tables, a1.version⟩ : Cch).tables + cntL (a2).facts + cntL (E) < 0) := by omega
    repeat' first|refine W_seq ?_|refine W_block ?_|refine W_skip ?_|refine W_ret ?_|refine W_exit ?_|refine xb_hit ?_|refine xb_miss (by decide) ?_|(apply W_reg;(simp [kg0, kg1, kg2, hg0, hg1, hg2, pg, pg0, mkL_len, o0, o1, o2, o3, o4, o5, o11, o12, o13, o14, o15, o16, o17, o18, o19, o20, o21, o22, o23, o24, o25, o26, o27, o28];exact .r _))
    refine W_cond (by simp; exact .r _) (fun hc => ?_) (fun hc => ?_)
    · simp at hc
    repeat' first|refine W_seq ?_|refine W_block ?_|refine W_skip ?_|refine W_ret ?_|refine W_exit ?_|refine xb_hit ?_|refine xb_miss (by decide) ?_|(apply W_reg;(simp [hg0, hg1, hg2, pg, pg1, mkL_len, o0, o1, o2, o3, o4, o5, o11, o12, o13, o14, o15, o16, o17, o18, o19, o20, o21, o22, o23, o24, o25, o26, o27, o28];exact .r _))
    refine W_cond (by simp; exact .r _) (fun hc => ?_) (fun hc => ?_)
    · simp at hc
    repeat' first|refine W_seq ?_|refine W_block ?_|refine W_skip ?_|refine W_ret ?_|refine W_exit ?_|refine xb_hit ?_|refine xb_miss (by decide) ?_|(apply W_reg;(simp [hg0, hg1, hg2, pg, pg2, mkL_len, o0, o1, o2, o3, o4, o5, o11, o12, o13, o14, o15, o16, o17, o18, o19, o20, o21, o22, o23, o24, o25, o26, o27, o28];exact .r _))
    refine W_cond (by simp; exact .r _) (fun hc => ?_) (fun hc => ?_)
    · simp at hc
    repeat' first|refine W_seq ?_|refine W_block ?_|refine W_skip ?_|refine W_ret ?_|refine W_exit ?_|refine xb_hit ?_|refine xb_miss (by decide) ?_|(apply W_reg;(simp;exact .r _))
    refine W_cond (by simp; exact .r _) (fun hc => ?_) (fun hc => ?_)
    · simp at hc
    repeat' first|refine W_seq ?_|refine W_block ?_|refine W_skip ?_|refine W_ret ?_|refine W_exit ?_|refine xb_hit ?_|refine xb_miss (by decide) ?_|(apply W_reg;(simp [t0, t1, t2, t3, im0, qr0, qr1, qr2, o0, o1, o2, o3, o4, o5, o11, o12, o13, o14, o15, o16, o17, o18, o19, o20, o21, o22, o23, o24, o25, o26, o27, o28];exact .r _))|(apply W_draw (id := 53) [0,1,0,7,0,31,0,127,255,511,1023,1023,1023,1023,0,0,51199,118783,253951,524287] rfl rfl; (· simp; exact .r _); (· simp [t0, t1, t2, t3, im0, qr0, qr1, qr2, o0, o1, o2, o3, o4, o5, o11, o12, o13, o14, o15, o16, o17, o18, o19, o20, o21, o22, o23, o24, o25, o26, o27, o28]; exact .r _); (· first|trivial|simp))
    refine W_cond (by simp; exact .r _) (fun hc => ?_) (fun hc => ?_)
    · simp at hc
    repeat' first|refine W_seq ?_|refine W_block ?_|refine W_skip ?_|refine W_ret ?_|refine W_exit ?_|refine xb_hit ?_|refine xb_miss (by decide) ?_|(apply W_reg;(simp [hg0, hg1, hg2, pg, pg0, mkL_len, o0, o1, o2, o3, o4, o5, o11, o12, o13, o14, o15, o16, o17, o18, o19, o20, o21, o22, o23, o24, o25, o26, o27, o28];exact .r _))
    refine W_cond (by simp; exact .r _) (fun hc => ?_) (fun hc => ?_)
    · simp at hc
    repeat' first|refine W_seq ?_|refine W_block ?_|refine W_skip ?_|refine W_ret ?_|refine W_exit ?_|refine xb_hit ?_|refine xb_miss (by decide) ?_|(apply W_reg;(simp [hg0, hg1, hg2, pg, pg1, mkL_len, o0, o1, o2, o3, o4, o5, o11, o12, o13, o14, o15, o16, o17, o18, o19, o20, o21, o22, o23, o24, o25, o26, o27, o28];exact .r _))
    refine W_cond (by simp; exact .r _) (fun hc => ?_) (fun hc => ?_)
    · simp at hc
    repeat' first|refine W_seq ?_|refine W_block ?_|refine W_skip ?_|refine W_ret ?_|refine W_exit ?_|refine xb_hit ?_|refine xb_miss (by decide) ?_|(apply W_reg;(simp [hg0, hg1, hg2, pg, pg2, mkL_len, o0, o1, o2, o3, o4, o5, o11, o12, o13, o14, o15, o16, o17, o18, o19, o20, o21, o22, o23, o24, o25, o26, o27, o28];exact .r _))
    refine W_cond (by simp; exact .r _) (fun hc => ?_) (fun hc => ?_)
    · simp at hc
    repeat' first|refine W_seq ?_|refine W_block ?_|refine W_skip ?_|refine W_ret ?_|refine W_exit ?_|refine xb_hit ?_|refine xb_miss (by decide) ?_|(apply W_reg;(simp;exact .r _))
    refine W_cond (by simp; exact .r _) (fun hc => ?_) (fun hc => ?_)
    · simp at hc
    repeat' first|refine W_seq ?_|refine W_block ?_|refine W_skip ?_|refine W_ret ?_|refine W_exit ?_|refine xb_hit ?_|refine xb_miss (by decide) ?_|(apply W_reg;(simp;exact .r _))
    simp
  · rw [show xUpdS a0 a1 a2 a3 = .tup [.agg [.own 2 (rowsE a1.views), .t .nl false, .t (.i .i64 a1.version) false], xvS a2.facts a2.version, .own 1 (rowsE E), .t (.b false) false] by rw [xUpdS, u, hE, xvV, if_neg g1, xvT, if_pos g2] <;> rfl] at sp
    rw [show xUpdI a0 a1 a2 a3 = .tup [.agg [.own 2 (rowsE a1.views), .t .nl false, .t (.i .i64 a1.version) false], xvS a2.facts a2.version, .own 1 (rowsE E), .t (.b false) false] by rw [xUpdI, u, hE, xvT, if_pos g2] <;> rfl] at im
    have sp0 := cv sp
    have im0 := cv im
    simp only [Ag, cells_Sch, cells_Cch, cells_Src, cells_RA, cells_Chg, List.map_cons, List.map_nil] at sp0 im0
    have qr0 := cv (eqCache_r (⟨a1.views, [], a1.version⟩ : Cch) (⟨a1.views, [], a1.version⟩ : Cch) (⟨b1.1, b0T⟩))
    simp only [Ag, rowsE_nil, cells_Sch, cells_Q, cells_RA, cells_Src, cells_Chg, cells_Cch, cells_Crt, cells_Ses, cells_Wtd, List.map_cons, List.map_nil] at qr0
    have qr1 := cv (eqSource_r (a2) (a2) (b2))
    simp only [Ag, rowsE_nil, cells_Sch, cells_Q, cells_RA, cells_Src, cells_Chg, cells_Cch, cells_Crt, cells_Ses, cells_Wtd, List.map_cons, List.map_nil] at qr1
    have qr2 := cv (eqIntS_r (E) (E) (bE))
    repeat' first|refine W_seq ?_|refine W_block ?_|refine W_skip ?_|refine W_ret ?_|refine W_exit ?_|refine xb_hit ?_|refine xb_miss (by decide) ?_|(apply W_reg;(simp [t0, t1, t2, t3, sp0, im0, qr0, qr1, qr2];exact .r _))|(apply W_draw (id := 14) [0,1,0,7,0,31,0,127,255,511,1023,1023,1023,1023,0,0,51199,118783,253951,524287] rfl rfl; (· simp; exact .r _); (· simp [t0, t1, t2, t3, sp0, im0, qr0, qr1, qr2]; exact .r _); (· first|trivial|simp))
    refine W_cond (by simp; exact .r _) (fun hc => ?_) (fun hc => ?_)
    · simp at hc
    repeat' first|refine W_seq ?_|refine W_block ?_|refine W_skip ?_|refine W_ret ?_|refine W_exit ?_|refine xb_hit ?_|refine xb_miss (by decide) ?_|(apply W_reg;(simp [t0, qp0];exact .r _))|(apply W_draw (id := 22) [0,0,2,7,15] rfl rfl; (· simp; exact .r _); (· simp [t0, qp0]; exact .r _); (· first|trivial|simp))
    refine W_cond (by simp; exact .r _) (fun hc => ?_) (fun hc => ?_)
    · simp at hc
    repeat' first|refine W_seq ?_|refine W_block ?_|refine W_skip ?_|refine W_ret ?_|refine W_exit ?_|refine xb_hit ?_|refine xb_miss (by decide) ?_|(apply W_reg;(simp [t1, qp1];exact .r _))|(apply W_draw (id := 24) [0,0,2,7,15] rfl rfl; (· simp; exact .r _); (· simp [t1, qp1]; exact .r _); (· first|trivial|simp))
    refine W_cond (by simp; exact .r _) (fun hc => ?_) (fun hc => ?_)
    · simp at hc
    repeat' first|refine W_seq ?_|refine W_block ?_|refine W_skip ?_|refine W_ret ?_|refine W_exit ?_|refine xb_hit ?_|refine xb_miss (by decide) ?_|(apply W_reg;(simp [t2, qp2];exact .r _))|(apply W_draw (id := 26) [0,0,2,7,15] rfl rfl; (· simp; exact .r _); (· simp [t2, qp2]; exact .r _); (· first|trivial|simp))
    refine W_cond (by simp; exact .r _) (fun hc => ?_) (fun hc => ?_)
    · simp at hc
    repeat' first|refine W_seq ?_|refine W_block ?_|refine W_skip ?_|refine W_ret ?_|refine W_exit ?_|refine xb_hit ?_|refine xb_miss (by decide) ?_|(apply W_reg;(simp [t3, qp3];exact .r _))|(apply W_draw (id := 28) [0,0,2,7,15] rfl rfl; (· simp; exact .r _); (· simp [t3, qp3]; exact .r _); (· first|trivial|simp))
    refine W_cond (by simp; exact .r _) (fun hc => ?_) (fun hc => ?_)
    · simp at hc
    refine W_gen (fun s2 => Cl s2 ∧ s2.n = 33 ∧ s2.ob 0 = .box [Ar a0.arity] ∧ s2.ob 1 = .box [Ar a1.views, Ar a1.tables, In a1.version] ∧ s2.ob 2 = .box [Ar a2.facts, In a2.version] ∧ s2.ob 3 = .box [Bo a3.insert, In a3.fact.rel, Ar a3.fact.args] ∧ s2.ob 4 = .box [.ref 11 ((⟨a1.views, [], a1.version⟩ : Cch).views).length [], .t .nl, In (⟨a1.views, [], a1.version⟩ : Cch).version] ∧ s2.ob 5 = .box [.ref 12 ((a2).facts).length [], In (a2).version] ∧ s2.ob 11 = .arr (.own 0) 0 2 (rowsE (⟨a1.views, [], a1.version⟩ : Cch).views) ∧ s2.ob 12 = .arr (.own 0) 0 2 (rowsE (a2).facts) ∧ s2.ob 13 = .arr (.own 0) 0 1 (rowsE (E)) ∧ s2.ob 14 = .arr (.own 0) 0 1 (rowsE a0.arity) ∧ s2.ob 15 = .box [.ref 14 (a0.arity).length []] ∧ s2.ob 16 = .arr (.own 0) 0 2 (rowsE a1.views) ∧ s2.ob 17 = .arr (.own 0) 0 1 (rowsE a1.tables) ∧ s2.ob 18 = .box [.ref 16 (a1.views).length [], .ref 17 (a1.tables).length [], In a1.version] ∧ s2.ob 19 = .arr (.own 0) 0 2 (rowsE a2.facts) ∧ s2.ob 20 = .box [.ref 19 (a2.facts).length [], In a2.version] ∧ s2.ob 21 = .arr (.own 0) 0 1 (rowsE a3.fact.args) ∧ s2.ob 22 = .box [Bo a3.insert, In a3.fact.rel, .ref 21 (a3.fact.args).length []] ∧ s2.ob 23 = .arr (.own 0) 0 2 (rowsE (⟨a1.views, [], a1.version⟩ : Cch).views) ∧ s2.ob 24 = .arr (.own 0) 0 2 (rowsE (a2).facts) ∧ s2.ob 25 = .arr (.own 0) 0 1 (rowsE (E)) ∧ s2.ob 26 = .box [.ref 23 ((⟨a1.views, [], a1.version⟩ : Cch).views).length [], .t .nl, In (⟨a1.views, [], a1.version⟩ : Cch).version] ∧ s2.ob 27 = .box [.ref 24 ((a2).facts).length [], In (a2).version]) ?_ (fun s2 hq2 => ?_)
    · refine ⟨?_, rfl, by simp [upd_app], by simp [upd_app], by simp [upd_app], by simp [upd_app], by simp [upd_app], by simp [upd_app], by simp [upd_app], by simp [upd_app], by simp [upd_app], by simp [upd_app], by simp [upd_app], by simp [upd_app], by simp [upd_app], by simp [upd_app], by simp [upd_app], by simp [upd_app], by simp [upd_app], by simp [upd_app], by simp [upd_app], by simp [upd_app], by simp [upd_app], by simp [upd_app], by simp [upd_app]⟩
      try rw [upd_srt (a := 4) (b := 5) (by decide)]
      try rw [upd_srt (a := 26) (b := 27) (by decide)]
      try simp only [upd_upd]
      repeat' first | exact Cl.e | refine Cl.new ?_ (by simp [VO.clean, cleanA, clean1]) | refine Cl.set ?_ (by decide) (by simp [VO.clean, cleanA, clean1])
    obtain ⟨n2, ob2⟩ := s2
    obtain ⟨hcl, hn2, o0, o1, o2, o3, o4, o5, o11, o12, o13, o14, o15, o16, o17, o18, o19, o20, o21, o22, o23, o24, o25, o26, o27⟩ := hq2
    simp only at hn2 o0 o1 o2 o3 o4 o5 o11 o12 o13 o14 o15 o16 o17 o18 o19 o20 o21 o22 o23 o24 o25 o26 o27
    subst hn2
    have kp0 := markSchema_c ⟨33, ob2⟩ 14 0 a0 (by simp [upd_app, o14]) (by show _ < 33; omega)  hcl ((1 : Int)) (by omega) (by first | omega | (dsimp only; omega)) (b0)
    simp only [Sto.set, setAt] at kp0
    try dsimp only at kp0
    have kp1 := markCache_c ⟨33, upd (ob2) 14 (.arr (.own 0) 0 1 (rowsE (mkL ((1 : Int)) a0.arity)))⟩ 16 17 0 0 a1 (by simp [upd_app, o16, o17]) (by simp [upd_app, o16, o17]) (by show _ < 33; omega) (by show _ < 33; omega) (by omega) (Cl.set hcl (by omega) rfl) ((1 : Int) + cntL a0.arity) (by omega) (by first | omega | (dsimp only; omega)) (b1)
    simp only [Sto.set, setAt] at kp1
    try dsimp only at kp1
    have kp2 := markSource_c ⟨33, upd (upd (upd (ob2) 14 (.arr (.own 0) 0 1 (rowsE (mkL ((1 : Int)) a0.arity)))) 16 (.arr (.own 0) 0 2 (rowsE (mkL ((1 : Int) + cntL a0.arity) a1.views)))) 17 (.arr (.own 0) 0 1 (rowsE (mkL ((1 : Int) + cntL a0.arity + cntL a1.views) a1.tables)))⟩ 19 0 a2 (by simp [upd_app, o19]) (by show _ < 33; omega)  (Cl.set (Cl.set (Cl.set hcl (by omega) rfl) (by omega) rfl) (by omega) rfl) ((1 : Int) + cntL a0.arity + cntL a1.views + cntL a1.tables) (by omega) (by first | omega | (dsimp only; omega)) (b2)
    simp only [Sto.set, setAt] at kp2
    try dsimp only at kp2
    have kp3 := markChange_c ⟨33, upd (upd (upd (upd (ob2) 14 (.arr (.own 0) 0 1 (rowsE (mkL ((1 : Int)) a0.arity)))) 16 (.arr (.own 0) 0 2 (rowsE (mkL ((1 : Int) + cntL a0.arity) a1.views)))) 17 (.arr (.own 0) 0 1 (rowsE (mkL ((1 : Int) + cntL a0.arity + cntL a1.views) a1.tables)))) 19 (.arr (.own 0) 0 2 (rowsE (mkL ((1 : Int) + cntL a0.arity + cntL a1.views + cntL a1.tables) a2.facts)))⟩ 21 0 a3 (by simp [upd_app, o21]) (by show _ < 33; omega)  (Cl.set (Cl.set (Cl.set (Cl.set hcl (by omega) rfl) (by omega) rfl) (by omega) rfl) (by omega) rfl) ((1 : Int) + cntL a0.arity + cntL a1.views + cntL a1.tables + cntL a2.facts) (by omega) (by first | omega | (dsimp only; omega)) (b3)
    simp only [Sto.set, setAt] at kp3
    try dsimp only at kp3
    have pk : ¬ ((1 : Int) + cntL a0.arity + cntL a1.views + cntL a1.tables + cntL a2.facts + cntL a3.fact.args < 0) := by omega
    repeat' first|refine W_seq ?_|refine W_block ?_|refine W_skip ?_|refine W_ret ?_|refine W_exit ?_|refine xb_hit ?_|refine xb_miss (by decide) ?_|(apply W_reg;(simp [kp0, kp1, kp2, kp3, qr0, qr1, qr2, pk, o0, o1, o2, o3, o4, o5, o11, o12, o13, o14, o15, o16, o17, o18, o19, o20, o21, o22, o23, o24, o25, o26, o27];exact .r _))
    refine W_cond (by simp; exact .r _) (fun hc => ?_) (fun hc => ?_)
    · simp at hc
    have kg0 := markCache_n1 ⟨33, upd (upd (upd (upd (upd (ob2) 14 (.arr (.own 0) 0 1 (rowsE (mkL ((1 : Int)) a0.arity)))) 16 (.arr (.own 0) 0 2 (rowsE (mkL ((1 : Int) + cntL a0.arity) a1.views)))) 17 (.arr (.own 0) 0 1 (rowsE (mkL ((1 : Int) + cntL a0.arity + cntL a1.views) a1.tables)))) 19 (.arr (.own 0) 0 2 (rowsE (mkL ((1 : Int) + cntL a0.arity + cntL a1.views + cntL a1.tables) a2.facts)))) 21 (.arr (.own 0) 0 1 (rowsE (mkL ((1 : Int) + cntL a0.arity + cntL a1.views + cntL a1.tables + cntL a2.facts) a3.fact.args)))⟩ 23 0 (⟨a1.views, [], a1.version⟩ : Cch) (by simp [upd_app, o23]) (by show _ < 33; omega)  (Cl.set (Cl.set (Cl.set (Cl.set (Cl.set hcl (by omega) rfl) (by omega) rfl) (by omega) rfl) (by omega) rfl) (by omega) rfl) ((1 : Int)) (by omega) (by first | omega | (dsimp only; omega)) (⟨b1.1, b0T⟩)
    simp only [Sto.set, setAt] at kg0
    try dsimp only at kg0
    have hg0 := cv (heldCache_r (⟨a1.views, [], a1.version⟩ : Cch) ((1 : Int)) (by omega) (by first | omega | (dsimp only; omega)) (⟨b1.1, b0T⟩))
    try dsimp only at hg0
    simp only [mkL, cntL_nil, rowsE_nil, Int.natCast_zero, Int.add_zero, Ar] at hg0
    have pg0 : ¬ ((1 : Int) + cntL (⟨a1.views, [], a1.version⟩ : Cch).views < 0) := by first | omega | (dsimp only; omega)
    try dsimp only at pg0
    have kg1 := markSource_c ⟨33, upd (upd (upd (upd (upd (upd (ob2) 14 (.arr (.own 0) 0 1 (rowsE (mkL ((1 : Int)) a0.arity)))) 16 (.arr (.own 0) 0 2 (rowsE (mkL ((1 : Int) + cntL a0.arity) a1.views)))) 17 (.arr (.own 0) 0 1 (rowsE (mkL ((1 : Int) + cntL a0.arity + cntL a1.views) a1.tables)))) 19 (.arr (.own 0) 0 2 (rowsE (mkL ((1 : Int) + cntL a0.arity + cntL a1.views + cntL a1.tables) a2.facts)))) 21 (.arr (.own 0) 0 1 (rowsE (mkL ((1 : Int) + cntL a0.arity + cntL a1.views + cntL a1.tables + cntL a2.facts) a3.fact.args)))) 23 (.arr (.own 0) 0 2 (rowsE (mkL ((1 : Int)) (⟨a1.views, [], a1.version⟩ : Cch).views)))⟩ 24 0 (a2) (by simp [upd_app, o24]) (by show _ < 33; omega)  (Cl.set (Cl.set (Cl.set (Cl.set (Cl.set (Cl.set hcl (by omega) rfl) (by omega) rfl) (by omega) rfl) (by omega) rfl) (by omega) rfl) (by omega) rfl) ((1 : Int) + cntL (⟨a1.views, [], a1.version⟩ : Cch).views) (by omega) (by first | omega | (dsimp only; omega)) (b2)
    simp only [Sto.set, setAt] at kg1
    try dsimp only at kg1
    have hg1 := cv (heldSource_r (a2) ((1 : Int) + cntL (⟨a1.views, [], a1.version⟩ : Cch).views) (by omega) (by first | omega | (dsimp only; omega)) (b2))
    try dsimp only at hg1
    have pg1 : ¬ ((1 : Int) + cntL (⟨a1.views, [], a1.version⟩ : Cch).views + cntL (a2).facts < 0) := by first | omega | (dsimp only; omega)
    try dsimp only at pg1
    have kg2 := markIntS_c ⟨33, upd (upd (upd (upd (upd (upd (upd (ob2) 14 (.arr (.own 0) 0 1 (rowsE (mkL ((1 : Int)) a0.arity)))) 16 (.arr (.own 0) 0 2 (rowsE (mkL ((1 : Int) + cntL a0.arity) a1.views)))) 17 (.arr (.own 0) 0 1 (rowsE (mkL ((1 : Int) + cntL a0.arity + cntL a1.views) a1.tables)))) 19 (.arr (.own 0) 0 2 (rowsE (mkL ((1 : Int) + cntL a0.arity + cntL a1.views + cntL a1.tables) a2.facts)))) 21 (.arr (.own 0) 0 1 (rowsE (mkL ((1 : Int) + cntL a0.arity + cntL a1.views + cntL a1.tables + cntL a2.facts) a3.fact.args)))) 23 (.arr (.own 0) 0 2 (rowsE (mkL ((1 : Int)) (⟨a1.views, [], a1.version⟩ : Cch).views)))) 24 (.arr (.own 0) 0 2 (rowsE (mkL ((1 : Int) + cntL (⟨a1.views, [], a1.version⟩ : Cch).views) (a2).facts)))⟩ 25 ((E)).length 0 1 [] (rowsE ((E))) ((E)) (by simp [upd_app, o25]) ⟨fun _ => rowsE_len _, fun h => absurd rfl h, rfl⟩ ((1 : Int) + cntL (⟨a1.views, [], a1.version⟩ : Cch).views + cntL (a2).facts) (by omega) (by first | omega | (dsimp only; omega)) (bE)
    simp only [Sto.set, setAt] at kg2
    have hg2 := cv (heldIntS_r (E) ((1 : Int) + cntL (⟨a1.views, [], a1.version⟩ : Cch).views + cntL (a2).facts) (by omega) (by first | omega | (dsimp only; omega)) (bE))
    have pg2 : ¬ ((1 : Int) + cntL (⟨a1.views, [], a1.version⟩ : Cch).views + cntL (a2).facts + cntL (E) < 0) := by first | omega | (dsimp only; omega)
    have pg : ¬ ((1 : Int) + cntL (⟨a1.views, [], a1.version⟩ : Cch).views + cntL (a2).facts + cntL (E) < 0) := by omega
    repeat' first|refine W_seq ?_|refine W_block ?_|refine W_skip ?_|refine W_ret ?_|refine W_exit ?_|refine xb_hit ?_|refine xb_miss (by decide) ?_|(apply W_reg;(simp [kg0, kg1, kg2, hg0, hg1, hg2, pg, pg0, mkL_len, o0, o1, o2, o3, o4, o5, o11, o12, o13, o14, o15, o16, o17, o18, o19, o20, o21, o22, o23, o24, o25, o26, o27];exact .r _))
    refine W_cond (by simp; exact .r _) (fun hc => ?_) (fun hc => ?_)
    · simp at hc
    repeat' first|refine W_seq ?_|refine W_block ?_|refine W_skip ?_|refine W_ret ?_|refine W_exit ?_|refine xb_hit ?_|refine xb_miss (by decide) ?_|(apply W_reg;(simp [hg0, hg1, hg2, pg, pg1, mkL_len, o0, o1, o2, o3, o4, o5, o11, o12, o13, o14, o15, o16, o17, o18, o19, o20, o21, o22, o23, o24, o25, o26, o27];exact .r _))
    refine W_cond (by simp; exact .r _) (fun hc => ?_) (fun hc => ?_)
    · simp at hc
    repeat' first|refine W_seq ?_|refine W_block ?_|refine W_skip ?_|refine W_ret ?_|refine W_exit ?_|refine xb_hit ?_|refine xb_miss (by decide) ?_|(apply W_reg;(simp [hg0, hg1, hg2, pg, pg2, mkL_len, o0, o1, o2, o3, o4, o5, o11, o12, o13, o14, o15, o16, o17, o18, o19, o20, o21, o22, o23, o24, o25, o26, o27];exact .r _))
    refine W_cond (by simp; exact .r _) (fun hc => ?_) (fun hc => ?_)
    · simp at hc
    repeat' first|refine W_seq ?_|refine W_block ?_|refine W_skip ?_|refine W_ret ?_|refine W_exit ?_|refine xb_hit ?_|refine xb_miss (by decide) ?_|(apply W_reg;(simp;exact .r _))
    refine W_cond (by simp; exact .r _) (fun hc => ?_) (fun hc => ?_)
    · simp at hc
    repeat' first|refine W_seq ?_|refine W_block ?_|refine W_skip ?_|refine W_ret ?_|refine W_exit ?_|refine xb_hit ?_|refine xb_miss (by decide) ?_|(apply W_reg;(simp [t0, t1, t2, t3, im0, qr0, qr1, qr2, o0, o1, o2, o3, o4, o5, o11, o12, o13, o14, o15, o16, o17, o18, o19, o20, o21, o22, o23, o24, o25, o26, o27];exact .r _))|(apply W_draw (id := 53) [0,1,0,7,0,31,0,127,255,511,1023,1023,1023,1023,0,0,51199,118783,253951,524287] rfl rfl; (· simp; exact .r _); (· simp [t0, t1, t2, t3, im0, qr0, qr1, qr2, o0, o1, o2, o3, o4, o5, o11, o12, o13, o14, o15, o16, o17, o18, o19, o20, o21, o22, o23, o24, o25, o26, o27]; exact .r _); (· first|trivial|simp))
    refine W_cond (by simp; exact .r _) (fun hc => ?_) (fun hc => ?_)
    · simp at hc
    repeat' first|refine W_seq ?_|refine W_block ?_|refine W_skip ?_|refine W_ret ?_|refine W_exit ?_|refine xb_hit ?_|refine xb_miss (by decide) ?_|(apply W_reg;(simp [hg0, hg1, hg2, pg, pg0, mkL_len, o0, o1, o2, o3, o4, o5, o11, o12, o13, o14, o15, o16, o17, o18, o19, o20, o21, o22, o23, o24, o25, o26, o27];exact .r _))
    refine W_cond (by simp; exact .r _) (fun hc => ?_) (fun hc => ?_)
    · simp at hc
    repeat' first|refine W_seq ?_|refine W_block ?_|refine W_skip ?_|refine W_ret ?_|refine W_exit ?_|refine xb_hit ?_|refine xb_miss (by decide) ?_|(apply W_reg;(simp [hg0, hg1, hg2, pg, pg1, mkL_len, o0, o1, o2, o3, o4, o5, o11, o12, o13, o14, o15, o16, o17, o18, o19, o20, o21, o22, o23, o24, o25, o26, o27];exact .r _))
    refine W_cond (by simp; exact .r _) (fun hc => ?_) (fun hc => ?_)
    · simp at hc
    repeat' first|refine W_seq ?_|refine W_block ?_|refine W_skip ?_|refine W_ret ?_|refine W_exit ?_|refine xb_hit ?_|refine xb_miss (by decide) ?_|(apply W_reg;(simp [hg0, hg1, hg2, pg, pg2, mkL_len, o0, o1, o2, o3, o4, o5, o11, o12, o13, o14, o15, o16, o17, o18, o19, o20, o21, o22, o23, o24, o25, o26, o27];exact .r _))
    refine W_cond (by simp; exact .r _) (fun hc => ?_) (fun hc => ?_)
    · simp at hc
    repeat' first|refine W_seq ?_|refine W_block ?_|refine W_skip ?_|refine W_ret ?_|refine W_exit ?_|refine xb_hit ?_|refine xb_miss (by decide) ?_|(apply W_reg;(simp;exact .r _))
    refine W_cond (by simp; exact .r _) (fun hc => ?_) (fun hc => ?_)
    · simp at hc
    repeat' first|refine W_seq ?_|refine W_block ?_|refine W_skip ?_|refine W_ret ?_|refine W_exit ?_|refine xb_hit ?_|refine xb_miss (by decide) ?_|(apply W_reg;(simp;exact .r _))
    simp
  · rw [show xUpdS a0 a1 a2 a3 = .tup [.agg [.own 2 (rowsE a1.views), .own 1 (rowsE a1.tables), .t (.i .i64 a1.version) false], xvS a2.facts a2.version, .own 1 (rowsE E), .t (.b false) false] by rw [xUpdS, u, hE, xvV, if_neg g1, xvT, if_neg g2] <;> rfl] at sp
    rw [show xUpdI a0 a1 a2 a3 = .tup [.agg [.own 2 (rowsE a1.views), .own 1 (rowsE a1.tables), .t (.i .i64 a1.version) false], xvS a2.facts a2.version, .own 1 (rowsE E), .t (.b false) false] by rw [xUpdI, u, hE, xvT, if_neg g2] <;> rfl] at im
    have sp0 := cv sp
    have im0 := cv im
    simp only [Ag, cells_Sch, cells_Cch, cells_Src, cells_RA, cells_Chg, List.map_cons, List.map_nil] at sp0 im0
    have qr0 := cv (eqCache_r (⟨a1.views, a1.tables, a1.version⟩ : Cch) (⟨a1.views, a1.tables, a1.version⟩ : Cch) (⟨b1.1, b1.2⟩))
    simp only [Ag, rowsE_nil, cells_Sch, cells_Q, cells_RA, cells_Src, cells_Chg, cells_Cch, cells_Crt, cells_Ses, cells_Wtd, List.map_cons, List.map_nil] at qr0
    have qr1 := cv (eqSource_r (a2) (a2) (b2))
    simp only [Ag, rowsE_nil, cells_Sch, cells_Q, cells_RA, cells_Src, cells_Chg, cells_Cch, cells_Crt, cells_Ses, cells_Wtd, List.map_cons, List.map_nil] at qr1
    have qr2 := cv (eqIntS_r (E) (E) (bE))
    repeat' first|refine W_seq ?_|refine W_block ?_|refine W_skip ?_|refine W_ret ?_|refine W_exit ?_|refine xb_hit ?_|refine xb_miss (by decide) ?_|(apply W_reg;(simp [t0, t1, t2, t3, sp0, im0, qr0, qr1, qr2];exact .r _))|(apply W_draw (id := 14) [0,1,0,7,0,31,0,127,255,511,1023,1023,1023,1023,0,0,51199,118783,253951,524287] rfl rfl; (· simp; exact .r _); (· simp [t0, t1, t2, t3, sp0, im0, qr0, qr1, qr2]; exact .r _); (· first|trivial|simp))
    refine W_cond (by simp; exact .r _) (fun hc => ?_) (fun hc => ?_)
    · simp at hc
    repeat' first|refine W_seq ?_|refine W_block ?_|refine W_skip ?_|refine W_ret ?_|refine W_exit ?_|refine xb_hit ?_|refine xb_miss (by decide) ?_|(apply W_reg;(simp [t0, qp0];exact .r _))|(apply W_draw (id := 22) [0,0,2,7,15] rfl rfl; (· simp; exact .r _); (· simp [t0, qp0]; exact .r _); (· first|trivial|simp))
    refine W_cond (by simp; exact .r _) (fun hc => ?_) (fun hc => ?_)
    · simp at hc
    repeat' first|refine W_seq ?_|refine W_block ?_|refine W_skip ?_|refine W_ret ?_|refine W_exit ?_|refine xb_hit ?_|refine xb_miss (by decide) ?_|(apply W_reg;(simp [t1, qp1];exact .r _))|(apply W_draw (id := 24) [0,0,2,7,15] rfl rfl; (· simp; exact .r _); (· simp [t1, qp1]; exact .r _); (· first|trivial|simp))
    refine W_cond (by simp; exact .r _) (fun hc => ?_) (fun hc => ?_)
    · simp at hc
    repeat' first|refine W_seq ?_|refine W_block ?_|refine W_skip ?_|refine W_ret ?_|refine W_exit ?_|refine xb_hit ?_|refine xb_miss (by decide) ?_|(apply W_reg;(simp [t2, qp2];exact .r _))|(apply W_draw (id := 26) [0,0,2,7,15] rfl rfl; (· simp; exact .r _); (· simp [t2, qp2]; exact .r _); (· first|trivial|simp))
    refine W_cond (by simp; exact .r _) (fun hc => ?_) (fun hc => ?_)
    · simp at hc
    repeat' first|refine W_seq ?_|refine W_block ?_|refine W_skip ?_|refine W_ret ?_|refine W_exit ?_|refine xb_hit ?_|refine xb_miss (by decide) ?_|(apply W_reg;(simp [t3, qp3];exact .r _))|(apply W_draw (id := 28) [0,0,2,7,15] rfl rfl; (· simp; exact .r _); (· simp [t3, qp3]; exact .r _); (· first|trivial|simp))
    refine W_cond (by simp; exact .r _) (fun hc => ?_) (fun hc => ?_)
    · simp at hc
    refine W_gen (fun s2 => Cl s2 ∧ s2.n = 35 ∧ s2.ob 0 = .box [Ar a0.arity] ∧ s2.ob 1 = .box [Ar a1.views, Ar a1.tables, In a1.version] ∧ s2.ob 2 = .box [Ar a2.facts, In a2.version] ∧ s2.ob 3 = .box [Bo a3.insert, In a3.fact.rel, Ar a3.fact.args] ∧ s2.ob 4 = .box [.ref 11 ((⟨a1.views, a1.tables, a1.version⟩ : Cch).views).length [], .ref 12 ((⟨a1.views, a1.tables, a1.version⟩ : Cch).tables).length [], In (⟨a1.views, a1.tables, a1.version⟩ : Cch).version] ∧ s2.ob 5 = .box [.ref 13 ((a2).facts).length [], In (a2).version] ∧ s2.ob 11 = .arr (.own 0) 0 2 (rowsE (⟨a1.views, a1.tables, a1.version⟩ : Cch).views) ∧ s2.ob 12 = .arr (.own 0) 0 1 (rowsE (⟨a1.views, a1.tables, a1.version⟩ : Cch).tables) ∧ s2.ob 13 = .arr (.own 0) 0 2 (rowsE (a2).facts) ∧ s2.ob 14 = .arr (.own 0) 0 1 (rowsE (E)) ∧ s2.ob 15 = .arr (.own 0) 0 1 (rowsE a0.arity) ∧ s2.ob 16 = .box [.ref 15 (a0.arity).length []] ∧ s2.ob 17 = .arr (.own 0) 0 2 (rowsE a1.views) ∧ s2.ob 18 = .arr (.own 0) 0 1 (rowsE a1.tables) ∧ s2.ob 19 = .box [.ref 17 (a1.views).length [], .ref 18 (a1.tables).length [], In a1.version] ∧ s2.ob 20 = .arr (.own 0) 0 2 (rowsE a2.facts) ∧ s2.ob 21 = .box [.ref 20 (a2.facts).length [], In a2.version] ∧ s2.ob 22 = .arr (.own 0) 0 1 (rowsE a3.fact.args) ∧ s2.ob 23 = .box [Bo a3.insert, In a3.fact.rel, .ref 22 (a3.fact.args).length []] ∧ s2.ob 24 = .arr (.own 0) 0 2 (rowsE (⟨a1.views, a1.tables, a1.version⟩ : Cch).views) ∧ s2.ob 25 = .arr (.own 0) 0 1 (rowsE (⟨a1.views, a1.tables, a1.version⟩ : Cch).tables) ∧ s2.ob 26 = .arr (.own 0) 0 2 (rowsE (a2).facts) ∧ s2.ob 27 = .arr (.own 0) 0 1 (rowsE (E)) ∧ s2.ob 28 = .box [.ref 24 ((⟨a1.views, a1.tables, a1.version⟩ : Cch).views).length [], .ref 25 ((⟨a1.views, a1.tables, a1.version⟩ : Cch).tables).length [], In (⟨a1.views, a1.tables, a1.version⟩ : Cch).version] ∧ s2.ob 29 = .box [.ref 26 ((a2).facts).length [], In (a2).version]) ?_ (fun s2 hq2 => ?_)
    · refine ⟨?_, rfl, by simp [upd_app], by simp [upd_app], by simp [upd_app], by simp [upd_app], by simp [upd_app], by simp [upd_app], by simp [upd_app], by simp [upd_app], by simp [upd_app], by simp [upd_app], by simp [upd_app], by simp [upd_app], by simp [upd_app], by simp [upd_app], by simp [upd_app], by simp [upd_app], by simp [upd_app], by simp [upd_app], by simp [upd_app], by simp [upd_app], by simp [upd_app], by simp [upd_app], by simp [upd_app], by simp [upd_app], by simp [upd_app]⟩
      try rw [upd_srt (a := 4) (b := 5) (by decide)]
      try rw [upd_srt (a := 28) (b := 29) (by decide)]
      try simp only [upd_upd]
      repeat' first | exact Cl.e | refine Cl.new ?_ (by simp [VO.clean, cleanA, clean1]) | refine Cl.set ?_ (by decide) (by simp [VO.clean, cleanA, clean1])
    obtain ⟨n2, ob2⟩ := s2
    obtain ⟨hcl, hn2, o0, o1, o2, o3, o4, o5, o11, o12, o13, o14, o15, o16, o17, o18, o19, o20, o21, o22, o23, o24, o25, o26, o27, o28, o29⟩ := hq2
    simp only at hn2 o0 o1 o2 o3 o4 o5 o11 o12 o13 o14 o15 o16 o17 o18 o19 o20 o21 o22 o23 o24 o25 o26 o27 o28 o29
    subst hn2
    have kp0 := markSchema_c ⟨35, ob2⟩ 15 0 a0 (by simp [upd_app, o15]) (by show _ < 35; omega)  hcl ((1 : Int)) (by omega) (by first | omega | (dsimp only; omega)) (b0)
    simp only [Sto.set, setAt] at kp0
    try dsimp only at kp0
    have kp1 := markCache_c ⟨35, upd (ob2) 15 (.arr (.own 0) 0 1 (rowsE (mkL ((1 : Int)) a0.arity)))⟩ 17 18 0 0 a1 (by simp [upd_app, o17, o18]) (by simp [upd_app, o17, o18]) (by show _ < 35; omega) (by show _ < 35; omega) (by omega) (Cl.set hcl (by omega) rfl) ((1 : Int) + cntL a0.arity) (by omega) (by first | omega | (dsimp only; omega)) (b1)
    simp only [Sto.set, setAt] at kp1
    try dsimp only at kp1
    have kp2 := markSource_c ⟨35, upd (upd (upd (ob2) 15 (.arr (.own 0) 0 1 (rowsE (mkL ((1 : Int)) a0.arity)))) 17 (.arr (.own 0) 0 2 (rowsE (mkL ((1 : Int) + cntL a0.arity) a1.views)))) 18 (.arr (.own 0) 0 1 (rowsE (mkL ((1 : Int) + cntL a0.arity + cntL a1.views) a1.tables)))⟩ 20 0 a2 (by simp [upd_app, o20]) (by show _ < 35; omega)  (Cl.set (Cl.set (Cl.set hcl (by omega) rfl) (by omega) rfl) (by omega) rfl) ((1 : Int) + cntL a0.arity + cntL a1.views + cntL a1.tables) (by omega) (by first | omega | (dsimp only; omega)) (b2)
    simp only [Sto.set, setAt] at kp2
    try dsimp only at kp2
    have kp3 := markChange_c ⟨35, upd (upd (upd (upd (ob2) 15 (.arr (.own 0) 0 1 (rowsE (mkL ((1 : Int)) a0.arity)))) 17 (.arr (.own 0) 0 2 (rowsE (mkL ((1 : Int) + cntL a0.arity) a1.views)))) 18 (.arr (.own 0) 0 1 (rowsE (mkL ((1 : Int) + cntL a0.arity + cntL a1.views) a1.tables)))) 20 (.arr (.own 0) 0 2 (rowsE (mkL ((1 : Int) + cntL a0.arity + cntL a1.views + cntL a1.tables) a2.facts)))⟩ 22 0 a3 (by simp [upd_app, o22]) (by show _ < 35; omega)  (Cl.set (Cl.set (Cl.set (Cl.set hcl (by omega) rfl) (by omega) rfl) (by omega) rfl) (by omega) rfl) ((1 : Int) + cntL a0.arity + cntL a1.views + cntL a1.tables + cntL a2.facts) (by omega) (by first | omega | (dsimp only; omega)) (b3)
    simp only [Sto.set, setAt] at kp3
    try dsimp only at kp3
    have pk : ¬ ((1 : Int) + cntL a0.arity + cntL a1.views + cntL a1.tables + cntL a2.facts + cntL a3.fact.args < 0) := by omega
    repeat' first|refine W_seq ?_|refine W_block ?_|refine W_skip ?_|refine W_ret ?_|refine W_exit ?_|refine xb_hit ?_|refine xb_miss (by decide) ?_|(apply W_reg;(simp [kp0, kp1, kp2, kp3, qr0, qr1, qr2, pk, o0, o1, o2, o3, o4, o5, o11, o12, o13, o14, o15, o16, o17, o18, o19, o20, o21, o22, o23, o24, o25, o26, o27, o28, o29];exact .r _))
    refine W_cond (by simp; exact .r _) (fun hc => ?_) (fun hc => ?_)
    · simp at hc
    have kg0 := markCache_c ⟨35, upd (upd (upd (upd (upd (ob2) 15 (.arr (.own 0) 0 1 (rowsE (mkL ((1 : Int)) a0.arity)))) 17 (.arr (.own 0) 0 2 (rowsE (mkL ((1 : Int) + cntL a0.arity) a1.views)))) 18 (.arr (.own 0) 0 1 (rowsE (mkL ((1 : Int) + cntL a0.arity + cntL a1.views) a1.tables)))) 20 (.arr (.own 0) 0 2 (rowsE (mkL ((1 : Int) + cntL a0.arity + cntL a1.views + cntL a1.tables) a2.facts)))) 22 (.arr (.own 0) 0 1 (rowsE (mkL ((1 : Int) + cntL a0.arity + cntL a1.views + cntL a1.tables + cntL a2.facts) a3.fact.args)))⟩ 24 25 0 0 (⟨a1.views, a1.tables, a1.version⟩ : Cch) (by simp [upd_app, o24, o25]) (by simp [upd_app, o24, o25]) (by show _ < 35; omega) (by show _ < 35; omega) (by omega) (Cl.set (Cl.set (Cl.set (Cl.set (Cl.set hcl (by omega) rfl) (by omega) rfl) (by omega) rfl) (by omega) rfl) (by omega) rfl) ((1 : Int)) (by omega) (by first | omega | (dsimp only; omega)) (⟨b1.1, b1.2⟩)
    simp only [Sto.set, setAt] at kg0
    try dsimp only at kg0
    have hg0 := cv (heldCache_r (⟨a1.views, a1.tables, a1.version⟩ : Cch) ((1 : Int)) (by omega) (by first | omega | (dsimp only; omega)) (⟨b1.1, b1.2⟩))
    try dsimp only at hg0
    have pg0 : ¬ ((1 : Int) + cntL (⟨a1.views, a1.tables, a1.version⟩ : Cch).views + cntL (⟨a1.views, a1.tables, a1.version⟩ : Cch).tables < 0) := by first | omega | (dsimp only; omega)
    try dsimp only at pg0
    have kg1 := markSource_c ⟨35, upd (upd (upd (upd (upd (upd (upd (ob2) 15 (.arr (.own 0) 0 1 (rowsE (mkL ((1 : Int)) a0.arity)))) 17 (.arr (.own 0) 0 2 (rowsE (mkL ((1 : Int) + cntL a0.arity) a1.views)))) 18 (.arr (.own 0) 0 1 (rowsE (mkL ((1 : Int) + cntL a0.arity + cntL a1.views) a1.tables)))) 20 (.arr (.own 0) 0 2 (rowsE (mkL ((1 : Int) + cntL a0.arity + cntL a1.views + cntL a1.tables) a2.facts)))) 22 (.arr (.own 0) 0 1 (rowsE (mkL ((1 : Int) + cntL a0.arity + cntL a1.views + cntL a1.tables + cntL a2.facts) a3.fact.args)))) 24 (.arr (.own 0) 0 2 (rowsE (mkL ((1 : Int)) (⟨a1.views, a1.tables, a1.version⟩ : Cch).views)))) 25 (.arr (.own 0) 0 1 (rowsE (mkL ((1 : Int) + cntL (⟨a1.views, a1.tables, a1.version⟩ : Cch).views) (⟨a1.views, a1.tables, a1.version⟩ : Cch).tables)))⟩ 26 0 (a2) (by simp [upd_app, o26]) (by show _ < 35; omega)  (Cl.set (Cl.set (Cl.set (Cl.set (Cl.set (Cl.set (Cl.set hcl (by omega) rfl) (by omega) rfl) (by omega) rfl) (by omega) rfl) (by omega) rfl) (by omega) rfl) (by omega) rfl) ((1 : Int) + cntL (⟨a1.views, a1.tables, a1.version⟩ : Cch).views + cntL (⟨a1.views, a1.tables, a1.version⟩ : Cch).tables) (by omega) (by first | omega | (dsimp only; omega)) (b2)
    simp only [Sto.set, setAt] at kg1
    try dsimp only at kg1
    have hg1 := cv (heldSource_r (a2) ((1 : Int) + cntL (⟨a1.views, a1.tables, a1.version⟩ : Cch).views + cntL (⟨a1.views, a1.tables, a1.version⟩ : Cch).tables) (by omega) (by first | omega | (dsimp only; omega)) (b2))
    try dsimp only at hg1
    have pg1 : ¬ ((1 : Int) + cntL (⟨a1.views, a1.tables, a1.version⟩ : Cch).views + cntL (⟨a1.views, a1.tables, a1.version⟩ : Cch).tables + cntL (a2).facts < 0) := by first | omega | (dsimp only; omega)
    try dsimp only at pg1
    have kg2 := markIntS_c ⟨35, upd (upd (upd (upd (upd (upd (upd (upd (ob2) 15 (.arr (.own 0) 0 1 (rowsE (mkL ((1 : Int)) a0.arity)))) 17 (.arr (.own 0) 0 2 (rowsE (mkL ((1 : Int) + cntL a0.arity) a1.views)))) 18 (.arr (.own 0) 0 1 (rowsE (mkL ((1 : Int) + cntL a0.arity + cntL a1.views) a1.tables)))) 20 (.arr (.own 0) 0 2 (rowsE (mkL ((1 : Int) + cntL a0.arity + cntL a1.views + cntL a1.tables) a2.facts)))) 22 (.arr (.own 0) 0 1 (rowsE (mkL ((1 : Int) + cntL a0.arity + cntL a1.views + cntL a1.tables + cntL a2.facts) a3.fact.args)))) 24 (.arr (.own 0) 0 2 (rowsE (mkL ((1 : Int)) (⟨a1.views, a1.tables, a1.version⟩ : Cch).views)))) 25 (.arr (.own 0) 0 1 (rowsE (mkL ((1 : Int) + cntL (⟨a1.views, a1.tables, a1.version⟩ : Cch).views) (⟨a1.views, a1.tables, a1.version⟩ : Cch).tables)))) 26 (.arr (.own 0) 0 2 (rowsE (mkL ((1 : Int) + cntL (⟨a1.views, a1.tables, a1.version⟩ : Cch).views + cntL (⟨a1.views, a1.tables, a1.version⟩ : Cch).tables) (a2).facts)))⟩ 27 ((E)).length 0 1 [] (rowsE ((E))) ((E)) (by simp [upd_app, o27]) ⟨fun _ => rowsE_len _, fun h => absurd rfl h, rfl⟩ ((1 : Int) + cntL (⟨a1.views, a1.tables, a1.version⟩ : Cch).views + cntL (⟨a1.views, a1.tables, a1.version⟩ : Cch).tables + cntL (a2).facts) (by omega) (by first | omega | (dsimp only; omega)) (bE)
    simp only [Sto.set, setAt] at kg2
    have hg2 := cv (heldIntS_r (E) ((1 : Int) + cntL (⟨a1.views, a1.tables, a1.version⟩ : Cch).views + cntL (⟨a1.views, a1.tables, a1.version⟩ : Cch).tables + cntL (a2).facts) (by omega) (by first | omega | (dsimp only; omega)) (bE))
    have pg2 : ¬ ((1 : Int) + cntL (⟨a1.views, a1.tables, a1.version⟩ : Cch).views + cntL (⟨a1.views, a1.tables, a1.version⟩ : Cch).tables + cntL (a2).facts + cntL (E) < 0) := by first | omega | (dsimp only; omega)
    have pg : ¬ ((1 : Int) + cntL (⟨a1.views, a1.tables, a1.version⟩ : Cch).views + cntL (⟨a1.views, a1.tables, a1.version⟩ : Cch).tables + cntL (a2).facts + cntL (E) < 0) := by omega
    repeat' first|refine W_seq ?_|refine W_block ?_|refine W_skip ?_|refine W_ret ?_|refine W_exit ?_|refine xb_hit ?_|refine xb_miss (by decide) ?_|(apply W_reg;(simp [kg0, kg1, kg2, hg0, hg1, hg2, pg, pg0, mkL_len, o0, o1, o2, o3, o4, o5, o11, o12, o13, o14, o15, o16, o17, o18, o19, o20, o21, o22, o23, o24, o25, o26, o27, o28, o29];exact .r _))
    refine W_cond (by simp; exact .r _) (fun hc => ?_) (fun hc => ?_)
    · simp at hc
    repeat' first|refine W_seq ?_|refine W_block ?_|refine W_skip ?_|refine W_ret ?_|refine W_exit ?_|refine xb_hit ?_|refine xb_miss (by decide) ?_|(apply W_reg;(simp [hg0, hg1, hg2, pg, pg1, mkL_len, o0, o1, o2, o3, o4, o5, o11, o12, o13, o14, o15, o16, o17, o18, o19, o20, o21, o22, o23, o24, o25, o26, o27, o28, o29];exact .r _))
    refine W_cond (by simp; exact .r _) (fun hc => ?_) (fun hc => ?_)
    · simp at hc
    repeat' first|refine W_seq ?_|refine W_block ?_|refine W_skip ?_|refine W_ret ?_|refine W_exit ?_|refine xb_hit ?_|refine xb_miss (by decide) ?_|(apply W_reg;(simp [hg0, hg1, hg2, pg, pg2, mkL_len, o0, o1, o2, o3, o4, o5, o11, o12, o13, o14, o15, o16, o17, o18, o19, o20, o21, o22, o23, o24, o25, o26, o27, o28, o29];exact .r _))
    refine W_cond (by simp; exact .r _) (fun hc => ?_) (fun hc => ?_)
    · simp at hc
    repeat' first|refine W_seq ?_|refine W_block ?_|refine W_skip ?_|refine W_ret ?_|refine W_exit ?_|refine xb_hit ?_|refine xb_miss (by decide) ?_|(apply W_reg;(simp;exact .r _))
    refine W_cond (by simp; exact .r _) (fun hc => ?_) (fun hc => ?_)
    · simp at hc
    repeat' first|refine W_seq ?_|refine W_block ?_|refine W_skip ?_|refine W_ret ?_|refine W_exit ?_|refine xb_hit ?_|refine xb_miss (by decide) ?_|(apply W_reg;(simp [t0, t1, t2, t3, im0, qr0, qr1, qr2, o0, o1, o2, o3, o4, o5, o11, o12, o13, o14, o15, o16, o17, o18, o19, o20, o21, o22, o23, o24, o25, o26, o27, o28, o29];exact .r _))|(apply W_draw (id := 53) [0,1,0,7,0,31,0,127,255,511,1023,1023,1023,1023,0,0,51199,118783,253951,524287] rfl rfl; (· simp; exact .r _); (· simp [t0, t1, t2, t3, im0, qr0, qr1, qr2, o0, o1, o2, o3, o4, o5, o11, o12, o13, o14, o15, o16, o17, o18, o19, o20, o21, o22, o23, o24, o25, o26, o27, o28, o29]; exact .r _); (· first|trivial|simp))
    refine W_cond (by simp; exact .r _) (fun hc => ?_) (fun hc => ?_)
    · simp at hc
    repeat' first|refine W_seq ?_|refine W_block ?_|refine W_skip ?_|refine W_ret ?_|refine W_exit ?_|refine xb_hit ?_|refine xb_miss (by decide) ?_|(apply W_reg;(simp [hg0, hg1, hg2, pg, pg0, mkL_len, o0, o1, o2, o3, o4, o5, o11, o12, o13, o14, o15, o16, o17, o18, o19, o20, o21, o22, o23, o24, o25, o26, o27, o28, o29];exact .r _))
    refine W_cond (by simp; exact .r _) (fun hc => ?_) (fun hc => ?_)
    · simp at hc
    repeat' first|refine W_seq ?_|refine W_block ?_|refine W_skip ?_|refine W_ret ?_|refine W_exit ?_|refine xb_hit ?_|refine xb_miss (by decide) ?_|(apply W_reg;(simp [hg0, hg1, hg2, pg, pg1, mkL_len, o0, o1, o2, o3, o4, o5, o11, o12, o13, o14, o15, o16, o17, o18, o19, o20, o21, o22, o23, o24, o25, o26, o27, o28, o29];exact .r _))
    refine W_cond (by simp; exact .r _) (fun hc => ?_) (fun hc => ?_)
    · simp at hc
    repeat' first|refine W_seq ?_|refine W_block ?_|refine W_skip ?_|refine W_ret ?_|refine W_exit ?_|refine xb_hit ?_|refine xb_miss (by decide) ?_|(apply W_reg;(simp [hg0, hg1, hg2, pg, pg2, mkL_len, o0, o1, o2, o3, o4, o5, o11, o12, o13, o14, o15, o16, o17, o18, o19, o20, o21, o22, o23, o24, o25, o26, o27, o28, o29];exact .r _))
    refine W_cond (by simp; exact .r _) (fun hc => ?_) (fun hc => ?_)
    · simp at hc
    repeat' first|refine W_seq ?_|refine W_block ?_|refine W_skip ?_|refine W_ret ?_|refine W_exit ?_|refine xb_hit ?_|refine xb_miss (by decide) ?_|(apply W_reg;(simp;exact .r _))
    refine W_cond (by simp; exact .r _) (fun hc => ?_) (fun hc => ?_)
    · simp at hc
    repeat' first|refine W_seq ?_|refine W_block ?_|refine W_skip ?_|refine W_ret ?_|refine W_exit ?_|refine xb_hit ?_|refine xb_miss (by decide) ?_|(apply W_reg;(simp;exact .r _))
    simp
end Go.Proofs.YtmfifjbbjjdacaaGreat.V

namespace Go.Proofs.YtmfifjbbjjdacaaGreat.V
open Go Go.RowKit Go.Deep Go.ChangeShapes Go.WideShapes
set_option linter.unusedVariables false
/-- Whatever reads as data of type t is a value that fits. -/
def RdF (α : Type) [Enc α] [Lw α] (P : Program) (w : World) (t : TypeId) : Prop := Rdv P w t (fun a : α => Fit a)
theorem Rdv.mono {α : Type} [Enc α] {P : Program} {w : World} {t : TypeId} {Q Q' : α → Prop} (h : Rdv P w t Q) (hq : ∀ a, Q a → Q' a) : Rdv P w t Q' := fun H enc fuel cs x hx => by
  obtain ⟨a, h1, h2⟩ := h H enc fuel cs x hx
  exact ⟨a, h1, hq a h2⟩
instance : Lw Bool := ⟨fun _ => 0, fun _ _ => True, fun _ _ _ => trivial⟩
variable {α β γ δ : Type} [Enc α] [Enc β] [Enc γ] [Enc δ] [Lw α] [Lw β] [Lw γ] [Lw δ] {P : Program} {w : World} {t e : TypeId}
theorem rf_int (ht : P.underlying t = some (.int .i64)) : RdF Int P w t := (rd_int ht).mono fun _ _ => trivial
theorem rf_bool (ht : P.underlying t = some .bool) : RdF Bool P w t := (rd_bool ht).mono fun _ _ => trivial
theorem rf_slice (ht : P.underlying t = some (.slice e)) (hc : P.cellsOf e = Enc.n α) (hn : 0 < Enc.n α) (hd : RdF α P w e) : RdF (List α) P w t := (rd_slice ht hc hn hd).mono fun a h => ⟨h.1, h.2⟩
theorem rf_s1 {f0 : Field} (mk : α → γ) (hmk : ∀ a, Enc.cells (mk a) = Enc.cells a) (hf : ∀ a, Fit a → Fit (mk a)) (ht : P.underlying t = some (.struct #[f0])) (h0 : f0.offset = 0) (z : P.cellsOf t = Enc.n α) (z0 : P.cellsOf f0.type = Enc.n α)
    (o0 : RdF α P w f0.type) : RdF γ P w t := (rd_struct1 mk hmk ht h0 z z0 o0).mono fun c ⟨a, e, h⟩ => e ▸ hf a h
theorem rf_s2 {f0 f1 : Field} (mk : α → β → γ) (hmk : ∀ a b, Enc.cells (mk a b) = Enc.cells a ++ Enc.cells b) (hf : ∀ a b, Fit a → Fit b → Fit (mk a b)) (ht : P.underlying t = some (.struct #[f0, f1])) (h0 : f0.offset = 0) (h1 : f1.offset = Enc.n α)
    (z : P.cellsOf t = Enc.n α + Enc.n β) (z0 : P.cellsOf f0.type = Enc.n α) (z1 : P.cellsOf f1.type = Enc.n β)
    (o0 : RdF α P w f0.type) (o1 : RdF β P w f1.type) : RdF γ P w t := (rd_struct2 mk hmk ht h0 h1 z z0 z1 o0 o1).mono fun c ⟨a, b, e, h, k⟩ => e ▸ hf a b h k
set_option linter.unusedSectionVars false in
theorem rd_struct3 {f0 f1 f2 : Field} {Q0 : α → Prop} {Q1 : β → Prop} {Q2 : δ → Prop} (mk : α → β → δ → γ) (hmk : ∀ a b d, Enc.cells (mk a b d) = Enc.cells a ++ (Enc.cells b ++ Enc.cells d)) (ht : P.underlying t = some (.struct #[f0, f1, f2])) (h0 : f0.offset = 0) (h1 : f1.offset = Enc.n α) (h2 : f2.offset = Enc.n α + Enc.n β)
    (z : P.cellsOf t = Enc.n α + Enc.n β + Enc.n δ) (z0 : P.cellsOf f0.type = Enc.n α) (z1 : P.cellsOf f1.type = Enc.n β) (z2 : P.cellsOf f2.type = Enc.n δ)
    (o0 : Rdv P w f0.type Q0) (o1 : Rdv P w f1.type Q1) (o2 : Rdv P w f2.type Q2) : Rdv P w t (fun c : γ => ∃ a b d, c = mk a b d ∧ Q0 a ∧ Q1 b ∧ Q2 d) := by
  intro H enc fuel cs x hx
  obtain ⟨y0, y1, y2, n, rfl, hl, g0, g1, g2⟩ := trod_struct3 ht hx
  obtain ⟨a, hk, hq⟩ := o0 H enc n _ y0 g0
  obtain ⟨b, hk1, hq1⟩ := o1 H enc n _ y1 g1
  obtain ⟨d, hk2, hq2⟩ := o2 H enc n _ y2 g2
  rw [h0, List.drop_zero, z0] at hk
  rw [h1, z1] at hk1
  rw [h2, z2, List.take_of_length_le (by simp; omega)] at hk2
  refine ⟨mk a b d, ?_, a, b, d, rfl, hq, hq1, hq2⟩
  rw [hmk, ← List.take_append_drop (Enc.n α) cs]
  refine hk.append ?_
  rw [← List.take_append_drop (Enc.n β) (cs.drop (Enc.n α)), List.drop_drop]
  exact hk1.append hk2
theorem rf_s3 {f0 f1 f2 : Field} (mk : α → β → δ → γ) (hmk : ∀ a b d, Enc.cells (mk a b d) = Enc.cells a ++ (Enc.cells b ++ Enc.cells d)) (hf : ∀ a b d, Fit a → Fit b → Fit d → Fit (mk a b d)) (ht : P.underlying t = some (.struct #[f0, f1, f2])) (h0 : f0.offset = 0) (h1 : f1.offset = Enc.n α) (h2 : f2.offset = Enc.n α + Enc.n β)
    (z : P.cellsOf t = Enc.n α + Enc.n β + Enc.n δ) (z0 : P.cellsOf f0.type = Enc.n α) (z1 : P.cellsOf f1.type = Enc.n β) (z2 : P.cellsOf f2.type = Enc.n δ)
    (o0 : RdF α P w f0.type) (o1 : RdF β P w f1.type) (o2 : RdF δ P w f2.type) : RdF γ P w t := (rd_struct3 mk hmk ht h0 h1 h2 z z0 z1 z2 o0 o1 o2).mono fun c ⟨a, b, d, e, h, k, l⟩ => e ▸ hf a b d h k l
end Go.Proofs.YtmfifjbbjjdacaaGreat.V

