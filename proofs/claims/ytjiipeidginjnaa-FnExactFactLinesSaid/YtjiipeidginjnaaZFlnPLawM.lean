/- Out of YtjiipeidginjnaaPLawM: what the claim needs of it. Conditions: each declaration's own. -/
import Derived.Test.YtjiipeidginjnaaZFlnPLay
namespace Go.Proofs.Ytjiipeidginjnaa.LawM
open Go.RowKit Go.Proofs.YtjiipeidginjnaaW.PrintWords Go.Proofs.Ytjiipeidginjnaa.Lay
set_option linter.unusedVariables false
set_option linter.unusedSimpArgs false
variable {α β : Type} {d : Kd α} {d' : Kd β} {w W W1 : World} {lo hi lo' hi' base e : Nat} {A : Option Addr} {xs : List α} {v : Value} {pls : Pl} {k : Int} {ok : Nat → Prop}

/-- A row that is read, in the blocks from lo to hi. -/
abbrev FI {α : Type} (d : Kd α) (W : World) (lo hi : Nat) (A : Option Addr) (xs : List α) : Prop := Kd.F d W (fun b => lo ≤ b ∧ b < hi) A xs.length xs
theorem FI.below (h : FI d W lo hi A xs) (hb : Below W.heap.size W W1) : FI d W1 lo hi A xs := Kd.F_below h hb
theorem FI.wr (h : FI d W lo hi A xs) (hw : Wr W W1 pls k) (hp : ∀ p ∈ pls, lo' ≤ p.1 ∧ p.1 < hi') (hd : hi ≤ lo' ∨ hi' ≤ lo) : FI d W1 lo hi A xs :=
  Kd.F_kept h hw.kept (fun b hb ⟨p, hp', e⟩ => by have := hp p hp'; omega)
theorem FI.kept (h : FI d W lo hi A xs) (hk : Kept W W1 (fun b => lo' ≤ b ∧ b < hi')) (hd : hi ≤ lo' ∨ hi' ≤ lo) : FI d W1 lo hi A xs :=
  Kd.F_kept h hk (fun b hb hb' => by omega)
theorem FI.now (h : FI d W lo hi A xs) : d.C W A xs.length xs := Kd.F_now h
theorem open_R (h : d.R e W base ok v xs) : ∃ A c, v = .slice A xs.length c ∧ xs.length ≤ c ∧ xs.length ≤ 9223372036854775807 ∧ FI d W base W.heap.size A xs := by
  obtain ⟨A, c, rfl, hl, hc⟩ := Kd.R_reads h
  exact ⟨A, c, rfl, hl, hc.2.1, Kd.F_mono (Kd.R_F (Kd.R_bound h)) (fun k hk => ⟨hk.2.1, hk.2.2.1⟩)⟩
theorem span_R (h : d.R e W base ok v xs) : d.R e W base (fun b => base ≤ b ∧ b < W.heap.size) v xs := Kd.R_mono (Kd.R_bound h) (fun k hk => ⟨hk.2.1, hk.2.2.1⟩)
theorem R_wr (h : d.R e W base (fun b => lo ≤ b ∧ b < hi) v xs) (hw : Wr W W1 pls k) (hp : ∀ p ∈ pls, lo' ≤ p.1 ∧ p.1 < hi') (hd : hi ≤ lo' ∨ hi' ≤ lo) : d.R e W1 base (fun b => lo ≤ b ∧ b < hi) v xs :=
  Kd.R_kept h hw.kept (fun b hb ⟨p, hp', e⟩ => by have := hp p hp'; omega)
theorem below_wr (hb : Below w.heap.size w W) (hw : Wr W W1 pls k) (hp : ∀ p ∈ pls, lo' ≤ p.1 ∧ p.1 < hi') (hl : w.heap.size ≤ lo') : Below w.heap.size w W1 :=
  hb.trans ⟨hw.same.1, hw.same.2.1, hw.same.2.2, hw.hd.size, fun b hb' => hw.kept.2 b (Nat.lt_of_lt_of_le hb' hb.size) (fun ⟨p, hp', e⟩ => by have := hp p hp'; omega)⟩
/-- What is made is a row of places, cnt of them. -/
theorem places {E : El} {cnt : α → Nat} {sz : Nat} (hE : Mk d E cnt) (hs : d.sz = sz) (h : d.R e W base ok v xs) : ∃ pls, Row sz E W v pls ∧ pls.length = sumOf cnt xs ∧ ∀ p ∈ pls, base ≤ p.1 ∧ p.1 < W.heap.size := by
  subst hs
  exact row_of_R hE (Kd.R_reads h).choose_spec.choose_spec.2.2.2.1 (span_R h)
theorem blk_far {g g' : Nat} {o : Obj} (h : W.heap[g]? = some o) (hne : g ≠ g') (j : Nat) (u : Value) : (W.setCell ⟨g', j, none⟩ u).heap[g]? = some o :=
  (Below.heap_setCell W ⟨g', j, none⟩ u g hne).trans h
theorem blk_set {g : Nat} {cs : Array Value} {t : TypeId} (h : W.heap[g]? = some (.cells cs t (0, 0))) (j : Nat) (u : Value) : (W.setCell ⟨g, j, none⟩ u).heap[g]? = some (.cells (cs.setIfInBounds j u) t (0, 0)) := set_obj h j u
theorem row_below {sz : Nat} {E : El} (hE : St E) (h : Row sz E W v pls) (hb : Below W.heap.size W W1) : Row sz E W1 v pls := st_row hE _ _ _ _ (Hd.below hb) h
theorem mk_pair {E1 E2 : El} {c1 : α → Nat} {c2 : β → Nat} (h1 : Mk d E1 c1) (h2 : Mk d' E2 c2) (hs : d.sz = 1) : Mk (Kd.pair d d') (ePair E1 E2) (fun x => c1 x.1 + c2 x.2) := by
  rintro W base ok x cs g o ⟨a, b, rfl, ha, hb⟩ hc
  have hl : a.length = 1 := (d.K_len (d.K_of_M ha)).trans hs
  obtain ⟨p1, q1, l1, m1⟩ := h1 ha (g := g) (o := o) (fun i u hu => hc i u (by
    rw [List.getElem?_append_left (List.getElem?_eq_some_iff.1 hu).1]; exact hu))
  obtain ⟨p2, q2, l2, m2⟩ := h2 hb (g := g) (o := o + 1) (fun i u hu => by
    have := hc (1 + i) u (by rw [List.getElem?_append_right (by omega), hl, Nat.add_sub_cancel_left]; exact hu)
    rwa [← Nat.add_assoc] at this)
  refine ⟨p1 ++ p2, ⟨p1, p2, q1, q2, rfl⟩, by rw [List.length_append, l1, l2], fun p hp => ?_⟩
  rcases List.mem_append.1 hp with hp | hp
  · exact m1 p hp
  · exact m2 p hp
theorem mk_iso {E : El} {cnt : α → Nat} (f : β → α) (h : Mk d E cnt) : Mk (Kd.iso d f) E (fun x => cnt (f x)) := fun hM hc => h hM hc
end Go.Proofs.Ytjiipeidginjnaa.LawM

