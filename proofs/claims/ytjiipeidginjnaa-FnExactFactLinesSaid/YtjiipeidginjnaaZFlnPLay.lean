/- Out of YtjiipeidginjnaaPLay: what the claim needs of it. Conditions: each declaration's own. -/
import Derived.Test.YtjiipeidginjnaaZFlnWShare
import Derived.Test.YtjiipeidginjnaaZFlnWApart
namespace Go.Proofs.Ytjiipeidginjnaa.Lay
open Go.RowKit Go.Proofs.YtjiipeidginjnaaW.PrintWords
set_option linter.unusedVariables false
set_option linter.unusedSimpArgs false

abbrev pa (g j : Nat) : Addr := ⟨g, j, none⟩
def isI (v : Value) : Prop := ∃ x, v = .int .i64 x
/-- Every plain cell of W stands in W', integers being integers still. -/
structure Hd (W W' : World) : Prop where
  size : W.heap.size ≤ W'.heap.size
  cell : ∀ g j v, W.cell? (pa g j) = some v → W.frozen? (pa g j) = false → W'.frozen? (pa g j) = false ∧ ∃ v', W'.cell? (pa g j) = some v' ∧ (v' = v ∨ isI v ∧ isI v')

variable {W W1 W2 w w1 w2 : World} {g j o : Nat} {v u : Value} {k x : Int}

theorem Hd.trans (h : Hd W W1) (k : Hd W1 W2) : Hd W W2 := ⟨Nat.le_trans h.size k.size, fun g j v hc hf => by
  obtain ⟨f1, v1, c1, e1⟩ := h.cell g j v hc hf
  obtain ⟨f2, v2, c2, e2⟩ := k.cell g j v1 c1 f1
  refine ⟨f2, v2, c2, ?_⟩
  rcases e2 with rfl | ⟨i1, i2⟩
  · exact e1
  · rcases e1 with rfl | ⟨j1, _⟩
    · exact .inr ⟨i1, i2⟩
    · exact .inr ⟨j1, i2⟩⟩
theorem blk_same (h : W1.heap[g]? = W.heap[g]?) (j : Nat) : W1.cell? (pa g j) = W.cell? (pa g j) ∧ W1.frozen? (pa g j) = W.frozen? (pa g j) := by
  unfold World.cell? World.frozen?
  simp only [pa]
  rw [h]
  exact ⟨rfl, rfl⟩
theorem lt_of_cell (h : W.cell? (pa g j) = some v) : g < W.heap.size := World.block_lt_of_cell? W _ h
theorem Hd.below (hb : Below W.heap.size W W1) : Hd W W1 := ⟨hb.size, fun g j v hc hf => by
  have hs := blk_same (hb.block g (lt_of_cell hc)) j
  exact ⟨hs.2.trans hf, v, hs.1.trans hc, .inl rfl⟩⟩
theorem obj_of_cell (h : W.cell? (pa g j) = some v) : ∃ cs t fz, W.heap[g]? = some (.cells cs t fz) ∧ cs[j]? = some v := by
  unfold World.cell? at h
  simp only [pa] at h
  split at h
  · rename_i c e f hc
    exact ⟨c, e, f, hc, by simpa using h⟩
  · cases h
theorem set_obj {cs : Array Value} {t : TypeId} {fz : Nat × Nat} (h : W.heap[g]? = some (.cells cs t fz)) (j : Nat) (u : Value) : (W.setCell (pa g j) u).heap[g]? = some (.cells (cs.setIfInBounds j u) t fz) := by
  simp only [World.setCell, pa, Array.getElem?_modify, if_true, h, Option.map_some]
  rfl
theorem set_cell (h : W.cell? (pa g j) = some v) (u : Value) : (W.setCell (pa g j) u).cell? (pa g j) = some u := by
  obtain ⟨cs, t, fz, ho, hc⟩ := obj_of_cell h
  unfold World.cell?
  simp only [set_obj ho, pa]
  have hj : j < cs.size := (Array.getElem?_eq_some_iff.1 hc).1
  simp [Array.getElem?_setIfInBounds, hj]
theorem set_other {g' j' : Nat} (u : Value) (hne : ¬ (g' = g ∧ j' = j)) : (W.setCell (pa g j) u).cell? (pa g' j') = W.cell? (pa g' j') := by
  by_cases hg : g' = g
  · subst hg
    have hj : j ≠ j' := fun h => hne ⟨rfl, h.symm⟩
    rcases hh : W.heap[g']? with _ | ob
    · have : (W.setCell (pa g' j) u).heap[g']? = none := by simp [World.setCell, pa, Array.getElem?_modify, hh]
      unfold World.cell?
      simp only [pa] at this ⊢
      rw [this, hh]
    · by_cases hk : ∃ cs t fz, ob = .cells cs t fz
      · obtain ⟨cs, t, fz, rfl⟩ := hk
        unfold World.cell?
        have := set_obj hh j u
        simp only [pa] at this ⊢
        rw [this, hh]
        simp [Array.getElem?_setIfInBounds, hj]
      · have h2 : (W.setCell (pa g' j) u).heap[g']? = some ob := by
          simp only [World.setCell, pa, Array.getElem?_modify, if_true, hh, Option.map_some]
          cases ob <;> first | rfl | exact absurd ⟨_, _, _, rfl⟩ hk
        exact (blk_same (h2.trans hh.symm) j').1
  · exact (blk_same (Below.heap_setCell W (pa g j) u g' (fun h => hg h)) j').1
theorem set_frozen (g' j' : Nat) (u : Value) : (W.setCell (pa g j) u).frozen? (pa g' j') = W.frozen? (pa g' j') := by
  by_cases hg : g' = g
  · subst hg
    rcases hh : W.heap[g']? with _ | ob
    · have : (W.setCell (pa g' j) u).heap[g']? = none := by simp [World.setCell, pa, Array.getElem?_modify, hh]
      unfold World.frozen?
      simp only [pa] at this ⊢
      rw [this, hh]
    · by_cases hk : ∃ cs t fz, ob = .cells cs t fz
      · obtain ⟨cs, t, fz, rfl⟩ := hk
        unfold World.frozen?
        have := set_obj hh j u
        simp only [pa] at this ⊢
        rw [this, hh]
      · have h2 : (W.setCell (pa g' j) u).heap[g']? = some ob := by
          simp only [World.setCell, pa, Array.getElem?_modify, if_true, hh, Option.map_some]
          cases ob <;> first | rfl | exact absurd ⟨_, _, _, rfl⟩ hk
        exact (blk_same (h2.trans hh.symm) j').2
  · exact (blk_same (Below.heap_setCell W (pa g j) u g' (fun h => hg h)) j').2

abbrev Pl := List (Nat × Nat)
/-- An integer's cell. -/
def Ic (W : World) (g j : Nat) : Prop := W.frozen? (pa g j) = false ∧ ∃ x, W.cell? (pa g j) = some (.int .i64 x)
theorem Ic.hd (h : Ic W g j) (hh : Hd W W1) : Ic W1 g j := by
  obtain ⟨hf, x, hc⟩ := h
  obtain ⟨f1, v1, c1, e1⟩ := hh.cell g j _ hc hf
  rcases e1 with rfl | ⟨_, y, rfl⟩
  · exact ⟨f1, x, c1⟩
  · exact ⟨f1, y, c1⟩

/-- What k, k+1, .. at the places as make of a world. -/
structure Wr (w w' : World) (as : Pl) (k : Int) : Prop where
  same : w'.os = w.os ∧ w'.tape = w.tape ∧ w'.output = w.output
  hd : Hd w w'
  kept : Kept w w' (fun b => ∃ p ∈ as, p.1 = b)
  other : ∀ g j, (g, j) ∉ as → g < w.heap.size → w'.cell? (pa g j) = w.cell? (pa g j)
  val : as.Nodup → ∀ j (h : j < as.length), w'.cell? (pa as[j].1 as[j].2) = some (.int .i64 (k + j))

theorem Wr.below (hb : Below w.heap.size w w1) (k : Int) : Wr w w1 [] k :=
  ⟨⟨hb.os, hb.tape, hb.output⟩, Hd.below hb, Kept.of_below hb _, fun g j _ hg => (blk_same (hb.block g hg) j).1, fun _ j h => absurd h (Nat.not_lt_zero _)⟩
theorem Wr.nil (w : World) (k : Int) : Wr w w [] k := Wr.below (Below.refl _ _) k
theorem Wr.trans {as bs : Pl} (h : Wr w w1 as k) (h2 : Wr w1 w2 bs (k + as.length)) (ha : ∀ p ∈ as, p.1 < w.heap.size) : Wr w w2 (as ++ bs) k := by
  refine ⟨⟨h2.same.1.trans h.same.1, h2.same.2.1.trans h.same.2.1, h2.same.2.2.trans h.same.2.2⟩, Hd.trans h.hd h2.hd, ?_, ?_, ?_⟩
  · refine Kept.then_ (Kept.mono h.kept (fun b ⟨p, hp, e⟩ => ⟨p, List.mem_append_left _ hp, e⟩)) h2.kept (fun b ⟨p, hp, e⟩ => .inl ⟨p, List.mem_append_right _ hp, e⟩)
  · intro g j hn hg
    rw [h2.other g j (fun hm => hn (List.mem_append_right _ hm)) (Nat.lt_of_lt_of_le hg h.hd.size), h.other g j (fun hm => hn (List.mem_append_left _ hm)) hg]
  · intro hnd j hj
    rw [List.nodup_append] at hnd
    rcases Nat.lt_or_ge j as.length with hl | hl
    · rw [List.getElem_append_left hl]
      have hm : as[j] ∈ as := List.getElem_mem hl
      exact (h2.other as[j].1 as[j].2 (fun hb => hnd.2.2 _ hm _ hb rfl) (Nat.lt_of_lt_of_le (ha _ hm) h.hd.size)).trans (h.val hnd.1 j hl)
    · rw [List.getElem_append_right hl]
      have := h2.val hnd.2.1 (j - as.length) (by rw [List.length_append] at hj; omega)
      rw [this]
      congr 2
      omega
theorem Wr.snoc {as : Pl} (h : Wr w w1 as k) (hb : Below w1.heap.size w1 w2) (ha : ∀ p ∈ as, p.1 < w.heap.size) : Wr w w2 as k := by
  have := Wr.trans h (Wr.below hb _) ha
  rwa [List.append_nil] at this
theorem Wr.store (h : Ic w g j) (k : Int) : Wr w (w.setCell (pa g j) (.int .i64 k)) [(g, j)] k := by
  obtain ⟨hf, x, hc⟩ := h
  refine ⟨⟨rfl, rfl, rfl⟩, ⟨by simp [World.setCell], ?_⟩, ?_, ?_, ?_⟩
  · intro g' j' v hv hfv
    refine ⟨(set_frozen g' j' _).trans hfv, ?_⟩
    by_cases he : g' = g ∧ j' = j
    · obtain ⟨rfl, rfl⟩ := he
      refine ⟨_, set_cell hc _, .inr ⟨?_, k, rfl⟩⟩
      rw [hc] at hv
      exact ⟨x, (Option.some.inj hv).symm⟩
    · exact ⟨v, (set_other _ he).trans hv, .inl rfl⟩
  · exact (Kept.refl w _).setCell (.inl ⟨(g, j), List.mem_singleton.2 rfl, rfl⟩) _
  · intro g' j' hn _
    exact set_other _ (fun he => hn (by rw [List.mem_singleton, he.1, he.2]))
  · intro _ i hi
    have : i = 0 := by simp at hi; omega
    subst this
    simpa using set_cell hc (.int .i64 k)

abbrev El := World → Nat → Nat → Pl → Prop
def St (E : El) : Prop := ∀ (W W' : World) (g o : Nat) (as : Pl), Hd W W' → E W g o as → E W' g o as
def In (E : El) : Prop := ∀ (W : World) (g o : Nat) (as : Pl), E W g o as → ∀ p ∈ as, p.1 < W.heap.size
def eInt : El := fun W g o as => Ic W g o ∧ as = [(g, o)]
def Row (sz : Nat) (E : El) (W : World) (v : Value) (as : Pl) : Prop :=
  ∃ A n c, v = .slice A n c ∧ n ≤ 9223372036854775807 ∧ ∃ ass : List Pl, ass.length = n ∧ as = ass.flatten ∧ (0 < n → ∃ g, A = some (pa g 0) ∧ ∀ j (h : j < ass.length), E W g (j * sz) ass[j])
def eRow (R : World → Value → Pl → Prop) : El := fun W g o as => ∃ v, W.cell? (pa g o) = some v ∧ W.frozen? (pa g o) = false ∧ ¬ isI v ∧ R W v as
def ePair (E1 E2 : El) : El := fun W g o as => ∃ bs cs, E1 W g o bs ∧ E2 W g (o + 1) cs ∧ as = bs ++ cs
def StR (R : World → Value → Pl → Prop) : Prop := ∀ (W W' : World) (v : Value) (as : Pl), Hd W W' → R W v as → R W' v as
def InR (R : World → Value → Pl → Prop) : Prop := ∀ (W : World) (v : Value) (as : Pl), R W v as → ∀ p ∈ as, p.1 < W.heap.size

theorem st_int : St eInt := fun _ _ _ _ _ hh h => ⟨h.1.hd hh, h.2⟩
theorem in_int : In eInt := by
  rintro W g o as ⟨⟨_, x, hc⟩, rfl⟩ p hp
  rw [List.mem_singleton.1 hp]
  exact lt_of_cell hc
theorem st_pair {E1 E2 : El} (h1 : St E1) (h2 : St E2) : St (ePair E1 E2) := by
  rintro W W' g o as hh ⟨bs, cs, a, b, rfl⟩
  exact ⟨bs, cs, h1 _ _ _ _ _ hh a, h2 _ _ _ _ _ hh b, rfl⟩
theorem in_pair {E1 E2 : El} (h1 : In E1) (h2 : In E2) : In (ePair E1 E2) := by
  rintro W g o as ⟨bs, cs, a, b, rfl⟩ p hp
  rcases List.mem_append.1 hp with hp | hp
  · exact h1 _ _ _ _ a p hp
  · exact h2 _ _ _ _ b p hp
theorem st_row {sz : Nat} {E : El} (h : St E) : StR (Row sz E) := by
  rintro W W' v as hh ⟨A, n, c, rfl, hn, ass, hl, rfl, hr⟩
  refine ⟨A, n, c, rfl, hn, ass, hl, rfl, fun h0 => ?_⟩
  obtain ⟨g, e, he⟩ := hr h0
  exact ⟨g, e, fun j hj => h _ _ _ _ _ hh (he j hj)⟩
theorem in_row {sz : Nat} {E : El} (h : In E) : InR (Row sz E) := by
  rintro W v as ⟨A, n, c, rfl, hn, ass, hl, rfl, hr⟩ p hp
  obtain ⟨as, hm, hp⟩ := List.mem_flatten.1 hp
  obtain ⟨j, hj, rfl⟩ := List.getElem_of_mem hm
  obtain ⟨g, _, he⟩ := hr (by omega)
  exact h _ _ _ _ (he j hj) p hp
theorem st_eRow {R : World → Value → Pl → Prop} (h : StR R) : St (eRow R) := by
  rintro W W' g o as hh ⟨v, hc, hf, hi, hr⟩
  obtain ⟨f1, v1, c1, e1⟩ := hh.cell g o v hc hf
  rcases e1 with rfl | ⟨hv, _⟩
  · exact ⟨v1, c1, f1, hi, h _ _ _ _ hh hr⟩
  · exact absurd hv hi
theorem in_eRow {R : World → Value → Pl → Prop} (h : InR R) : In (eRow R) := by
  rintro W g o as ⟨v, hc, hf, hi, hr⟩ p hp
  exact h _ _ _ hr p hp
/-- The row's own letters. -/
theorem Row.open_ {sz : Nat} {E : El} {as : Pl} (h : Row sz E W v as) : ∃ A n c, v = .slice A n c ∧ n ≤ 9223372036854775807 ∧ ∃ ass : List Pl, ass.length = n ∧ as = ass.flatten ∧ (0 < n → ∃ g, A = some (pa g 0) ∧ ∀ j (h : j < ass.length), E W g (j * sz) ass[j]) := h
theorem flat_take {ass : List Pl} {i : Nat} (h : i < ass.length) : (ass.take (i + 1)).flatten = (ass.take i).flatten ++ ass[i] := by
  rw [List.take_succ_eq_append_getElem h, List.flatten_append]
  simp

/-- An element made (its cells at g, o) has its places, cnt of them, in blocks of ok or in g. -/
def Mk {α : Type} (d : Kd α) (E : El) (cnt : α → Nat) : Prop := ∀ {W : World} {base : Nat} {ok : Nat → Prop} {x : α} {cs : List Value} {g o : Nat},
  d.M W base ok x cs → (∀ i u, cs[i]? = some u → W.cell? (pa g (o + i)) = some u ∧ W.frozen? (pa g (o + i)) = false) → ∃ as, E W g o as ∧ as.length = cnt x ∧ ∀ p ∈ as, p.1 = g ∨ ok p.1
def sumOf {α : Type} (cnt : α → Nat) : List α → Nat
  | [] => 0
  | x :: xs => cnt x + sumOf cnt xs
theorem pick {α : Type} {n : Nat} {P : Nat → α → Prop} (h : ∀ j, j < n → ∃ a, P j a) : ∃ l : List α, l.length = n ∧ ∀ j (hj : j < l.length), P j l[j] := by
  induction n with
  | zero => exact ⟨[], rfl, fun j hj => absurd hj (Nat.not_lt_zero _)⟩
  | succ n ih =>
    obtain ⟨l, hl, hp⟩ := ih (fun j hj => h j (by omega))
    obtain ⟨a, ha⟩ := h n (by omega)
    refine ⟨l ++ [a], by simp [hl], fun j hj => ?_⟩
    rcases Nat.lt_or_ge j l.length with h1 | h1
    · rw [List.getElem_append_left h1]; exact hp j h1
    · have : j = l.length := by rw [List.length_append, List.length_singleton] at hj; omega
      subst this
      simp only [List.getElem_append_right (Nat.le_refl _), Nat.sub_self, List.getElem_cons_zero]
      rw [hl]; exact ha
theorem flat_len {α : Type} {cnt : α → Nat} : ∀ (xs : List α) (ass : List Pl), ass.length = xs.length → (∀ j (h : j < ass.length) (h' : j < xs.length), ass[j].length = cnt xs[j]) → ass.flatten.length = sumOf cnt xs
  | [], ass, hl, _ => by
    have : ass = [] := List.eq_nil_of_length_eq_zero hl
    subst this; rfl
  | x :: xs, [], hl, _ => by simp at hl
  | x :: xs, as :: ass, hl, h => by
    rw [List.flatten_cons, List.length_append, flat_len xs ass (by simpa using hl) (fun j h1 h2 => h (j + 1) (by simpa using h1) (by simpa using h2))]
    have := h 0 (by simp) (by simp)
    simp only [List.getElem_cons_zero] at this
    rw [this, sumOf]
theorem row_of_R {α : Type} {d : Kd α} {E : El} {cnt : α → Nat} (hE : Mk d E cnt) {e base : Nat} {ok : Nat → Prop} {xs : List α} (hm : xs.length ≤ 9223372036854775807) (h : d.R e W base ok v xs) :
    ∃ as, Row d.sz E W v as ∧ as.length = sumOf cnt xs ∧ ∀ p ∈ as, ok p.1 := by
  obtain ⟨hok, inner, ho, hr⟩ := h
  rcases ho.2 with ⟨rfl, h0⟩ | ⟨g, cap, cur, rfl, hgb, hh, hnc, _, hcs, htk⟩
  · have hx : xs = [] := List.eq_nil_of_length_eq_zero h0
    subst hx
    exact ⟨[], ⟨none, 0, 0, rfl, Nat.zero_le _, [], rfl, rfl, fun h => absurd h (Nat.lt_irrefl 0)⟩, rfl, fun p hp => absurd hp List.not_mem_nil⟩
  · have hil : inner.length = xs.length * d.sz := ho.1
    have hcell : ∀ j u, inner[j]? = some u → W.cell? (pa g j) = some u ∧ W.frozen? (pa g j) = false := by
      intro j u hu
      have hlt : j < inner.length := (List.getElem?_eq_some_iff.1 hu).1
      rw [← htk] at hu
      rw [List.getElem?_take] at hu
      split at hu
      · refine ⟨?_, ?_⟩
        · unfold World.cell?; simp only [pa, hh]; simpa using hu
        · unfold World.frozen?; simp [pa, hh]
      · cases hu
    have hel : ∀ j, j < xs.length → ∃ as : Pl, E W g (j * d.sz) as ∧ (∃ h : j < xs.length, as.length = cnt xs[j]) ∧ ∀ p ∈ as, ok p.1 := by
      intro j hj
      have hM := hr.2 j _ (List.getElem?_eq_getElem hj)
      obtain ⟨as, ha, hlen, hp⟩ := hE hM (g := g) (o := j * d.sz) (fun i u hu => by
        rw [List.getElem?_take] at hu
        split at hu
        · rw [List.getElem?_drop] at hu
          exact hcell _ _ hu
        · cases hu)
      refine ⟨as, ha, ⟨hj, hlen⟩, fun p hpp => ?_⟩
      rcases hp p hpp with h1 | h1
      · rw [h1]; exact hok g (by simp [Value.ownBlock])
      · exact h1.1
    obtain ⟨ass, hal, hap⟩ := pick hel
    refine ⟨ass.flatten, ⟨_, _, cap, rfl, hm, ass, hal, rfl, fun _ => ⟨g, rfl, fun j hj => (hap j hj).1⟩⟩, flat_len xs ass hal (fun j h1 h2 => (hap j h1).2.1.2), fun p hp => ?_⟩
    obtain ⟨as, hm, hp⟩ := List.mem_flatten.1 hp
    obtain ⟨j, hj, rfl⟩ := List.getElem_of_mem hm
    exact (hap j hj).2.2 p hp
theorem mk_int : Mk (Kd.int .i64) eInt (fun _ => 1) := by
  intro W base ok x cs g o hM hc
  have hcs : cs = [.int .i64 x] := (Kd.int .i64).K_of_M hM
  subst hcs
  have := hc 0 _ rfl
  exact ⟨[(g, o)], ⟨⟨this.2, x, this.1⟩, rfl⟩, rfl, fun p hp => .inl (by rw [List.mem_singleton.1 hp])⟩
theorem mk_slice {α : Type} {d : Kd α} {E : El} {cnt : α → Nat} (hE : Mk d E cnt) (e : Nat) : Mk (Kd.slice e d) (eRow (Row d.sz E)) (sumOf cnt) := by
  rintro W base ok xs cs g o ⟨v, rfl, hR⟩ hc
  have h2 := Kd.R_reads hR
  obtain ⟨A, c, rfl, hl, hr⟩ := h2
  obtain ⟨as, ha, hlen, hp⟩ := row_of_R hE hr.2.1 hR
  have := hc 0 _ rfl
  exact ⟨as, ⟨_, this.1, this.2, fun ⟨x, hx⟩ => (by cases hx), ha⟩, hlen, fun p hp' => .inr (hp p hp')⟩
end Go.Proofs.Ytjiipeidginjnaa.Lay

