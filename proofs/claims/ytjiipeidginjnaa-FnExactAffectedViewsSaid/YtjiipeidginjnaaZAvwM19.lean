/- Several texts in one: what the claim needs of them. Conditions: each declaration's own. -/
import Derived.Test.YtjiipeidginjnaaZAvwWShare
import Derived.Test.YtjiipeidginjnaaZAvwWApart
import Derived.Test.YtjiipeidginjnaaZAvwM10
import Derived.Test.YtjiipeidginjnaaZAvwWWords
import Derived.Test.YtjiipeidginjnaaZAvwM14
import Derived.Test.YtjiipeidginjnaaZAvwM16
import Derived.Test.YtjiipeidginjnaaZAvwPx34
import Derived.Test.YtjiipeidginjnaaZAvwPx36
import Derived.Test.YtjiipeidginjnaaZAvwPx37
import Derived.Test.YtjiipeidginjnaaZAvwM12
import Derived.Test.YtjiipeidginjnaaZAvwM13
import Derived.Test.YtjiipeidginjnaaZAvwM11
namespace Go.Proofs.Ytjiipeidginjnaa.Lay
open Go.RowKit Go.Proofs.YtjiipeidginjnaaW.PrintWords
set_option linter.unusedVariables false
set_option linter.unusedSimpArgs false

abbrev pa (g j : Nat) : Addr := ⟨g, j, none⟩
def isI (v : Value) : Prop := ∃ x, v = .int .i64 x
/-- Every plain cell of W stands in W', integers being integers still. -/
structure Hd (W W' : World) : Prop where
  size : W.heap.size ≤ W'.heap.size
  cell : ∀ g j v, W.cell? (pa g j) = some v → W.frozen? (pa g j) = false → W'.frozen? (pa g j) = false ∧ ∃ v', W'.cell? (pa g j) = some v' ∧ (v' = v ∨ isI v ∧ isI v')

variable {W W1 W2 w w1 w2 : World} {g j o : Nat} {v u : Value} {k x : Int}

theorem Hd.trans (h : Hd W W1) (k : Hd W1 W2) : Hd W W2 := ⟨Nat.le_trans h.size k.size, fun g j v hc hf => by
  obtain ⟨f1, v1, c1, e1⟩ := h.cell g j v hc hf
  obtain ⟨f2, v2, c2, e2⟩ := k.cell g j v1 c1 f1
  refine ⟨f2, v2, c2, ?_⟩
  rcases e2 with rfl | ⟨i1, i2⟩
  · exact e1
  · rcases e1 with rfl | ⟨j1, _⟩
    · exact .inr ⟨i1, i2⟩
    · exact .inr ⟨j1, i2⟩⟩
theorem blk_same (h : W1.heap[g]? = W.heap[g]?) (j : Nat) : W1.cell? (pa g j) = W.cell? (pa g j) ∧ W1.frozen? (pa g j) = W.frozen? (pa g j) := by
  unfold World.cell? World.frozen?
  simp only [pa]
  rw [h]
  exact ⟨rfl, rfl⟩
theorem lt_of_cell (h : W.cell? (pa g j) = some v) : g < W.heap.size := World.block_lt_of_cell? W _ h
theorem Hd.below (hb : Below W.heap.size W W1) : Hd W W1 := ⟨hb.size, fun g j v hc hf => by
  have hs := blk_same (hb.block g (lt_of_cell hc)) j
  exact ⟨hs.2.trans hf, v, hs.1.trans hc, .inl rfl⟩⟩
theorem obj_of_cell (h : W.cell? (pa g j) = some v) : ∃ cs t fz, W.heap[g]? = some (.cells cs t fz) ∧ cs[j]? = some v := by
  unfold World.cell? at h
  simp only [pa] at h
  split at h
  · rename_i c e f hc
    exact ⟨c, e, f, hc, by simpa using h⟩
  · cases h
theorem set_obj {cs : Array Value} {t : TypeId} {fz : Nat × Nat} (h : W.heap[g]? = some (.cells cs t fz)) (j : Nat) (u : Value) : (W.setCell (pa g j) u).heap[g]? = some (.cells (cs.setIfInBounds j u) t fz) := by
  simp only [World.setCell, pa, Array.getElem?_modify, if_true, h, Option.map_some]
  rfl
theorem set_cell (h : W.cell? (pa g j) = some v) (u : Value) : (W.setCell (pa g j) u).cell? (pa g j) = some u := by
  obtain ⟨cs, t, fz, ho, hc⟩ := obj_of_cell h
  unfold World.cell?
  simp only [set_obj ho, pa]
  have hj : j < cs.size := (Array.getElem?_eq_some_iff.1 hc).1
  simp [Array.getElem?_setIfInBounds, hj]
theorem set_other {g' j' : Nat} (u : Value) (hne : ¬ (g' = g ∧ j' = j)) : (W.setCell (pa g j) u).cell? (pa g' j') = W.cell? (pa g' j') := by
  by_cases hg : g' = g
  · subst hg
    have hj : j ≠ j' := fun h => hne ⟨rfl, h.symm⟩
    rcases hh : W.heap[g']? with _ | ob
    · have : (W.setCell (pa g' j) u).heap[g']? = none := by simp [World.setCell, pa, Array.getElem?_modify, hh]
      unfold World.cell?
      simp only [pa] at this ⊢
      rw [this, hh]
    · by_cases hk : ∃ cs t fz, ob = .cells cs t fz
      · obtain ⟨cs, t, fz, rfl⟩ := hk
        unfold World.cell?
        have := set_obj hh j u
        simp only [pa] at this ⊢
        rw [this, hh]
        simp [Array.getElem?_setIfInBounds, hj]
      · have h2 : (W.setCell (pa g' j) u).heap[g']? = some ob := by
          simp only [World.setCell, pa, Array.getElem?_modify, if_true, hh, Option.map_some]
          cases ob <;> first | rfl | exact absurd ⟨_, _, _, rfl⟩ hk
        exact (blk_same (h2.trans hh.symm) j').1
  · exact (blk_same (Below.heap_setCell W (pa g j) u g' (fun h => hg h)) j').1
theorem set_frozen (g' j' : Nat) (u : Value) : (W.setCell (pa g j) u).frozen? (pa g' j') = W.frozen? (pa g' j') := by
  by_cases hg : g' = g
  · subst hg
    rcases hh : W.heap[g']? with _ | ob
    · have : (W.setCell (pa g' j) u).heap[g']? = none := by simp [World.setCell, pa, Array.getElem?_modify, hh]
      unfold World.frozen?
      simp only [pa] at this ⊢
      rw [this, hh]
    · by_cases hk : ∃ cs t fz, ob = .cells cs t fz
      · obtain ⟨cs, t, fz, rfl⟩ := hk
        unfold World.frozen?
        have := set_obj hh j u
        simp only [pa] at this ⊢
        rw [this, hh]
      · have h2 : (W.setCell (pa g' j) u).heap[g']? = some ob := by
          simp only [World.setCell, pa, Array.getElem?_modify, if_true, hh, Option.map_some]
          cases ob <;> first | rfl | exact absurd ⟨_, _, _, rfl⟩ hk
        exact (blk_same (h2.trans hh.symm) j').2
  · exact (blk_same (Below.heap_setCell W (pa g j) u g' (fun h => hg h)) j').2

abbrev Pl := List (Nat × Nat)
/-- An integer's cell. -/
def Ic (W : World) (g j : Nat) : Prop := W.frozen? (pa g j) = false ∧ ∃ x, W.cell? (pa g j) = some (.int .i64 x)
theorem Ic.hd (h : Ic W g j) (hh : Hd W W1) : Ic W1 g j := by
  obtain ⟨hf, x, hc⟩ := h
  obtain ⟨f1, v1, c1, e1⟩ := hh.cell g j _ hc hf
  rcases e1 with rfl | ⟨_, y, rfl⟩
  · exact ⟨f1, x, c1⟩
  · exact ⟨f1, y, c1⟩

/-- What k, k+1, .. at the places al make of a world. -/
structure Wr (w w' : World) (al : Pl) (k : Int) : Prop where
  same : w'.os = w.os ∧ w'.tape = w.tape ∧ w'.output = w.output
  hd : Hd w w'
  kept : Kept w w' (fun b => ∃ p ∈ al, p.1 = b)
  other : ∀ g j, (g, j) ∉ al → g < w.heap.size → w'.cell? (pa g j) = w.cell? (pa g j)
  val : al.Nodup → ∀ j (h : j < al.length), w'.cell? (pa al[j].1 al[j].2) = some (.int .i64 (k + j))

theorem Wr.below (hb : Below w.heap.size w w1) (k : Int) : Wr w w1 [] k :=
  ⟨⟨hb.os, hb.tape, hb.output⟩, Hd.below hb, Kept.of_below hb _, fun g j _ hg => (blk_same (hb.block g hg) j).1, fun _ j h => absurd h (Nat.not_lt_zero _)⟩
theorem Wr.nil (w : World) (k : Int) : Wr w w [] k := Wr.below (Below.refl _ _) k
theorem Wr.trans {al bs : Pl} (h : Wr w w1 al k) (h2 : Wr w1 w2 bs (k + al.length)) (ha : ∀ p ∈ al, p.1 < w.heap.size) : Wr w w2 (al ++ bs) k := by
  refine ⟨⟨h2.same.1.trans h.same.1, h2.same.2.1.trans h.same.2.1, h2.same.2.2.trans h.same.2.2⟩, Hd.trans h.hd h2.hd, ?_, ?_, ?_⟩
  · refine Kept.then_ (Kept.mono h.kept (fun b ⟨p, hp, e⟩ => ⟨p, List.mem_append_left _ hp, e⟩)) h2.kept (fun b ⟨p, hp, e⟩ => .inl ⟨p, List.mem_append_right _ hp, e⟩)
  · intro g j hn hg
    rw [h2.other g j (fun hm => hn (List.mem_append_right _ hm)) (Nat.lt_of_lt_of_le hg h.hd.size), h.other g j (fun hm => hn (List.mem_append_left _ hm)) hg]
  · intro hnd j hj
    rw [List.nodup_append] at hnd
    rcases Nat.lt_or_ge j al.length with hl | hl
    · rw [List.getElem_append_left hl]
      have hm : al[j] ∈ al := List.getElem_mem hl
      exact (h2.other al[j].1 al[j].2 (fun hb => hnd.2.2 _ hm _ hb rfl) (Nat.lt_of_lt_of_le (ha _ hm) h.hd.size)).trans (h.val hnd.1 j hl)
    · rw [List.getElem_append_right hl]
      have := h2.val hnd.2.1 (j - al.length) (by rw [List.length_append] at hj; omega)
      rw [this]
      congr 2
      omega
theorem Wr.snoc {al : Pl} (h : Wr w w1 al k) (hb : Below w1.heap.size w1 w2) (ha : ∀ p ∈ al, p.1 < w.heap.size) : Wr w w2 al k := by
  have := Wr.trans h (Wr.below hb _) ha
  rwa [List.append_nil] at this
theorem Wr.store (h : Ic w g j) (k : Int) : Wr w (w.setCell (pa g j) (.int .i64 k)) [(g, j)] k := by
  obtain ⟨hf, x, hc⟩ := h
  refine ⟨⟨rfl, rfl, rfl⟩, ⟨by simp [World.setCell], ?_⟩, ?_, ?_, ?_⟩
  · intro g' j' v hv hfv
    refine ⟨(set_frozen g' j' _).trans hfv, ?_⟩
    by_cases he : g' = g ∧ j' = j
    · obtain ⟨rfl, rfl⟩ := he
      refine ⟨_, set_cell hc _, .inr ⟨?_, k, rfl⟩⟩
      rw [hc] at hv
      exact ⟨x, (Option.some.inj hv).symm⟩
    · exact ⟨v, (set_other _ he).trans hv, .inl rfl⟩
  · exact (Kept.refl w _).setCell (.inl ⟨(g, j), List.mem_singleton.2 rfl, rfl⟩) _
  · intro g' j' hn _
    exact set_other _ (fun he => hn (by rw [List.mem_singleton, he.1, he.2]))
  · intro _ i hi
    have : i = 0 := by simp at hi; omega
    subst this
    simpa using set_cell hc (.int .i64 k)

abbrev El := World → Nat → Nat → Pl → Prop
def St (E : El) : Prop := ∀ (W W' : World) (g o : Nat) (al : Pl), Hd W W' → E W g o al → E W' g o al
def In (E : El) : Prop := ∀ (W : World) (g o : Nat) (al : Pl), E W g o al → ∀ p ∈ al, p.1 < W.heap.size
def eInt : El := fun W g o al => Ic W g o ∧ al = [(g, o)]
def Row (sz : Nat) (E : El) (W : World) (v : Value) (al : Pl) : Prop :=
  ∃ A n c, v = .slice A n c ∧ n ≤ 9223372036854775807 ∧ ∃ ass : List Pl, ass.length = n ∧ al = ass.flatten ∧ (0 < n → ∃ g, A = some (pa g 0) ∧ ∀ j (h : j < ass.length), E W g (j * sz) ass[j])
def eRow (R : World → Value → Pl → Prop) : El := fun W g o al => ∃ v, W.cell? (pa g o) = some v ∧ W.frozen? (pa g o) = false ∧ ¬ isI v ∧ R W v al
def ePair (E1 E2 : El) : El := fun W g o al => ∃ bs cs, E1 W g o bs ∧ E2 W g (o + 1) cs ∧ al = bs ++ cs
def StR (R : World → Value → Pl → Prop) : Prop := ∀ (W W' : World) (v : Value) (al : Pl), Hd W W' → R W v al → R W' v al
def InR (R : World → Value → Pl → Prop) : Prop := ∀ (W : World) (v : Value) (al : Pl), R W v al → ∀ p ∈ al, p.1 < W.heap.size

theorem st_int : St eInt := fun _ _ _ _ _ hh h => ⟨h.1.hd hh, h.2⟩
theorem in_int : In eInt := by
  rintro W g o al ⟨⟨_, x, hc⟩, rfl⟩ p hp
  rw [List.mem_singleton.1 hp]
  exact lt_of_cell hc
theorem st_pair {E1 E2 : El} (h1 : St E1) (h2 : St E2) : St (ePair E1 E2) := by
  rintro W W' g o al hh ⟨bs, cs, a, b, rfl⟩
  exact ⟨bs, cs, h1 _ _ _ _ _ hh a, h2 _ _ _ _ _ hh b, rfl⟩
theorem in_pair {E1 E2 : El} (h1 : In E1) (h2 : In E2) : In (ePair E1 E2) := by
  rintro W g o al ⟨bs, cs, a, b, rfl⟩ p hp
  rcases List.mem_append.1 hp with hp | hp
  · exact h1 _ _ _ _ a p hp
  · exact h2 _ _ _ _ b p hp
theorem st_row {sz : Nat} {E : El} (h : St E) : StR (Row sz E) := by
  rintro W W' v al hh ⟨A, n, c, rfl, hn, ass, hl, rfl, hr⟩
  refine ⟨A, n, c, rfl, hn, ass, hl, rfl, fun h0 => ?_⟩
  obtain ⟨g, e, he⟩ := hr h0
  exact ⟨g, e, fun j hj => h _ _ _ _ _ hh (he j hj)⟩
theorem in_row {sz : Nat} {E : El} (h : In E) : InR (Row sz E) := by
  rintro W v al ⟨A, n, c, rfl, hn, ass, hl, rfl, hr⟩ p hp
  obtain ⟨al, hm, hp⟩ := List.mem_flatten.1 hp
  obtain ⟨j, hj, rfl⟩ := List.getElem_of_mem hm
  obtain ⟨g, _, he⟩ := hr (by omega)
  exact h _ _ _ _ (he j hj) p hp
theorem st_eRow {R : World → Value → Pl → Prop} (h : StR R) : St (eRow R) := by
  rintro W W' g o al hh ⟨v, hc, hf, hi, hr⟩
  obtain ⟨f1, v1, c1, e1⟩ := hh.cell g o v hc hf
  rcases e1 with rfl | ⟨hv, _⟩
  · exact ⟨v1, c1, f1, hi, h _ _ _ _ hh hr⟩
  · exact absurd hv hi
theorem in_eRow {R : World → Value → Pl → Prop} (h : InR R) : In (eRow R) := by
  rintro W g o al ⟨v, hc, hf, hi, hr⟩ p hp
  exact h _ _ _ hr p hp
/-- The row's own letters. -/
theorem Row.open_ {sz : Nat} {E : El} {al : Pl} (h : Row sz E W v al) : ∃ A n c, v = .slice A n c ∧ n ≤ 9223372036854775807 ∧ ∃ ass : List Pl, ass.length = n ∧ al = ass.flatten ∧ (0 < n → ∃ g, A = some (pa g 0) ∧ ∀ j (h : j < ass.length), E W g (j * sz) ass[j]) := h
theorem flat_take {ass : List Pl} {i : Nat} (h : i < ass.length) : (ass.take (i + 1)).flatten = (ass.take i).flatten ++ ass[i] := by
  rw [List.take_succ_eq_append_getElem h, List.flatten_append]
  simp

/-- An element made (its cells at g, o) hal its places, cnt of them, in blocks of ok or in g. -/
def Mk {α : Type} (d : Kd α) (E : El) (cnt : α → Nat) : Prop := ∀ {W : World} {base : Nat} {ok : Nat → Prop} {x : α} {cs : List Value} {g o : Nat},
  d.M W base ok x cs → (∀ i u, cs[i]? = some u → W.cell? (pa g (o + i)) = some u ∧ W.frozen? (pa g (o + i)) = false) → ∃ al, E W g o al ∧ al.length = cnt x ∧ ∀ p ∈ al, p.1 = g ∨ ok p.1
def sumOf {α : Type} (cnt : α → Nat) : List α → Nat
  | [] => 0
  | x :: xs => cnt x + sumOf cnt xs
theorem pick {α : Type} {n : Nat} {P : Nat → α → Prop} (h : ∀ j, j < n → ∃ a, P j a) : ∃ l : List α, l.length = n ∧ ∀ j (hj : j < l.length), P j l[j] := by
  induction n with
  | zero => exact ⟨[], rfl, fun j hj => absurd hj (Nat.not_lt_zero _)⟩
  | succ n ih =>
    obtain ⟨l, hl, hp⟩ := ih (fun j hj => h j (by omega))
    obtain ⟨a, ha⟩ := h n (by omega)
    refine ⟨l ++ [a], by simp [hl], fun j hj => ?_⟩
    rcases Nat.lt_or_ge j l.length with h1 | h1
    · rw [List.getElem_append_left h1]; exact hp j h1
    · have : j = l.length := by rw [List.length_append, List.length_singleton] at hj; omega
      subst this
      simp only [List.getElem_append_right (Nat.le_refl _), Nat.sub_self, List.getElem_cons_zero]
      rw [hl]; exact ha
theorem flat_len {α : Type} {cnt : α → Nat} : ∀ (xs : List α) (ass : List Pl), ass.length = xs.length → (∀ j (h : j < ass.length) (h' : j < xs.length), ass[j].length = cnt xs[j]) → ass.flatten.length = sumOf cnt xs
  | [], ass, hl, _ => by
    have : ass = [] := List.eq_nil_of_length_eq_zero hl
    subst this; rfl
  | x :: xs, [], hl, _ => by simp at hl
  | x :: xs, al :: ass, hl, h => by
    rw [List.flatten_cons, List.length_append, flat_len xs ass (by simpa using hl) (fun j h1 h2 => h (j + 1) (by simpa using h1) (by simpa using h2))]
    have := h 0 (by simp) (by simp)
    simp only [List.getElem_cons_zero] at this
    rw [this, sumOf]
theorem row_of_R {α : Type} {d : Kd α} {E : El} {cnt : α → Nat} (hE : Mk d E cnt) {e base : Nat} {ok : Nat → Prop} {xs : List α} (hm : xs.length ≤ 9223372036854775807) (h : d.R e W base ok v xs) :
    ∃ al, Row d.sz E W v al ∧ al.length = sumOf cnt xs ∧ ∀ p ∈ al, ok p.1 := by
  obtain ⟨hok, inner, ho, hr⟩ := h
  rcases ho.2 with ⟨rfl, h0⟩ | ⟨g, cap, cur, rfl, hgb, hh, hnc, _, hcs, htk⟩
  · have hx : xs = [] := List.eq_nil_of_length_eq_zero h0
    subst hx
    exact ⟨[], ⟨none, 0, 0, rfl, Nat.zero_le _, [], rfl, rfl, fun h => absurd h (Nat.lt_irrefl 0)⟩, rfl, fun p hp => absurd hp List.not_mem_nil⟩
  · have hil : inner.length = xs.length * d.sz := ho.1
    have hcell : ∀ j u, inner[j]? = some u → W.cell? (pa g j) = some u ∧ W.frozen? (pa g j) = false := by
      intro j u hu
      have hlt : j < inner.length := (List.getElem?_eq_some_iff.1 hu).1
      rw [← htk] at hu
      rw [List.getElem?_take] at hu
      split at hu
      · refine ⟨?_, ?_⟩
        · unfold World.cell?; simp only [pa, hh]; simpa using hu
        · unfold World.frozen?; simp [pa, hh]
      · cases hu
    have hel : ∀ j, j < xs.length → ∃ al : Pl, E W g (j * d.sz) al ∧ (∃ h : j < xs.length, al.length = cnt xs[j]) ∧ ∀ p ∈ al, ok p.1 := by
      intro j hj
      have hM := hr.2 j _ (List.getElem?_eq_getElem hj)
      obtain ⟨al, ha, hlen, hp⟩ := hE hM (g := g) (o := j * d.sz) (fun i u hu => by
        rw [List.getElem?_take] at hu
        split at hu
        · rw [List.getElem?_drop] at hu
          exact hcell _ _ hu
        · cases hu)
      refine ⟨al, ha, ⟨hj, hlen⟩, fun p hpp => ?_⟩
      rcases hp p hpp with h1 | h1
      · rw [h1]; exact hok g (by simp [Value.ownBlock])
      · exact h1.1
    obtain ⟨ass, hal, hap⟩ := pick hel
    refine ⟨ass.flatten, ⟨_, _, cap, rfl, hm, ass, hal, rfl, fun _ => ⟨g, rfl, fun j hj => (hap j hj).1⟩⟩, flat_len xs ass hal (fun j h1 h2 => (hap j h1).2.1.2), fun p hp => ?_⟩
    obtain ⟨al, hm, hp⟩ := List.mem_flatten.1 hp
    obtain ⟨j, hj, rfl⟩ := List.getElem_of_mem hm
    exact (hap j hj).2.2 p hp
theorem mk_int : Mk (Kd.int .i64) eInt (fun _ => 1) := by
  intro W base ok x cs g o hM hc
  have hcs : cs = [.int .i64 x] := (Kd.int .i64).K_of_M hM
  subst hcs
  have := hc 0 _ rfl
  exact ⟨[(g, o)], ⟨⟨this.2, x, this.1⟩, rfl⟩, rfl, fun p hp => .inl (by rw [List.mem_singleton.1 hp])⟩
theorem mk_slice {α : Type} {d : Kd α} {E : El} {cnt : α → Nat} (hE : Mk d E cnt) (e : Nat) : Mk (Kd.slice e d) (eRow (Row d.sz E)) (sumOf cnt) := by
  rintro W base ok xs cs g o ⟨v, rfl, hR⟩ hc
  have h2 := Kd.R_reads hR
  obtain ⟨A, c, rfl, hl, hr⟩ := h2
  obtain ⟨al, ha, hlen, hp⟩ := row_of_R hE hr.2.1 hR
  have := hc 0 _ rfl
  exact ⟨al, ⟨_, this.1, this.2, fun ⟨x, hx⟩ => (by cases hx), ha⟩, hlen, fun p hp' => .inr (hp p hp')⟩
end Go.Proofs.Ytjiipeidginjnaa.Lay

namespace Go.Proofs.Ytjiipeidginjnaa.LawM
open Go.RowKit Go.Proofs.YtjiipeidginjnaaW.PrintWords Go.Proofs.Ytjiipeidginjnaa.Lay
set_option linter.unusedVariables false
set_option linter.unusedSimpArgs false
variable {α β : Type} {d : Kd α} {d' : Kd β} {w W W1 : World} {lo hi lo' hi' base e : Nat} {A : Option Addr} {xs : List α} {v : Value} {pls : Pl} {k : Int} {ok : Nat → Prop}

/-- A row that is read, in the blocks from lo to hi. -/
abbrev FI {α : Type} (d : Kd α) (W : World) (lo hi : Nat) (A : Option Addr) (xs : List α) : Prop := Kd.F d W (fun b => lo ≤ b ∧ b < hi) A xs.length xs
theorem FI.below (h : FI d W lo hi A xs) (hb : Below W.heap.size W W1) : FI d W1 lo hi A xs := Kd.F_below h hb
theorem FI.wr (h : FI d W lo hi A xs) (hw : Wr W W1 pls k) (hp : ∀ p ∈ pls, lo' ≤ p.1 ∧ p.1 < hi') (hd : hi ≤ lo' ∨ hi' ≤ lo) : FI d W1 lo hi A xs :=
  Kd.F_kept h hw.kept (fun b hb ⟨p, hp', e⟩ => by have := hp p hp'; omega)
theorem FI.kept (h : FI d W lo hi A xs) (hk : Kept W W1 (fun b => lo' ≤ b ∧ b < hi')) (hd : hi ≤ lo' ∨ hi' ≤ lo) : FI d W1 lo hi A xs :=
  Kd.F_kept h hk (fun b hb hb' => by omega)
theorem FI.now (h : FI d W lo hi A xs) : d.C W A xs.length xs := Kd.F_now h
theorem open_R (h : d.R e W base ok v xs) : ∃ A c, v = .slice A xs.length c ∧ xs.length ≤ c ∧ xs.length ≤ 9223372036854775807 ∧ FI d W base W.heap.size A xs := by
  obtain ⟨A, c, rfl, hl, hc⟩ := Kd.R_reads h
  exact ⟨A, c, rfl, hl, hc.2.1, Kd.F_mono (Kd.R_F (Kd.R_bound h)) (fun k hk => ⟨hk.2.1, hk.2.2.1⟩)⟩
theorem span_R (h : d.R e W base ok v xs) : d.R e W base (fun b => base ≤ b ∧ b < W.heap.size) v xs := Kd.R_mono (Kd.R_bound h) (fun k hk => ⟨hk.2.1, hk.2.2.1⟩)
theorem R_wr (h : d.R e W base (fun b => lo ≤ b ∧ b < hi) v xs) (hw : Wr W W1 pls k) (hp : ∀ p ∈ pls, lo' ≤ p.1 ∧ p.1 < hi') (hd : hi ≤ lo' ∨ hi' ≤ lo) : d.R e W1 base (fun b => lo ≤ b ∧ b < hi) v xs :=
  Kd.R_kept h hw.kept (fun b hb ⟨p, hp', e⟩ => by have := hp p hp'; omega)
theorem below_wr (hb : Below w.heap.size w W) (hw : Wr W W1 pls k) (hp : ∀ p ∈ pls, lo' ≤ p.1 ∧ p.1 < hi') (hl : w.heap.size ≤ lo') : Below w.heap.size w W1 :=
  hb.trans ⟨hw.same.1, hw.same.2.1, hw.same.2.2, hw.hd.size, fun b hb' => hw.kept.2 b (Nat.lt_of_lt_of_le hb' hb.size) (fun ⟨p, hp', e⟩ => by have := hp p hp'; omega)⟩
/-- The same, in the span that is known. -/
theorem places_in {E : El} {cnt : α → Nat} {sz : Nat} (hE : Mk d E cnt) (hs : d.sz = sz) (h : d.R e W base (fun b => lo ≤ b ∧ b < hi) v xs) : ∃ pls, Row sz E W v pls ∧ pls.length = sumOf cnt xs ∧ ∀ p ∈ pls, lo ≤ p.1 ∧ p.1 < hi := by
  subst hs
  exact row_of_R hE (Kd.R_reads h).choose_spec.choose_spec.2.2.2.1 h
/-- A block that a mark doesn't write. -/
theorem blk_wr {g : Nat} {o : Obj} (h : W.heap[g]? = some o) (hw : Wr W W1 pls k) (hp : ∀ p ∈ pls, lo' ≤ p.1 ∧ p.1 < hi') (hd : g < lo' ∨ hi' ≤ g) : W1.heap[g]? = some o :=
  (hw.kept.2 g (blk_lt h) (fun ⟨p, hp', e⟩ => by have := hp p hp'; omega)).trans h
theorem blk_keep {g : Nat} {o : Obj} (h : W.heap[g]? = some o) (hk : Kept W W1 (fun b => lo' ≤ b ∧ b < hi')) (hd : g < lo' ∨ hi' ≤ g) : W1.heap[g]? = some o :=
  (hk.2 g (blk_lt h) (fun hb => by omega)).trans h
theorem blk_off {g g' : Nat} {o : Obj} (h : W.heap[g]? = some o) (hne : g ≠ g') (j : Nat) (u : Value) : (W.setCell ⟨g', j, none⟩ u).heap[g]? = some o :=
  (Below.heap_setCell W ⟨g', j, none⟩ u g hne).trans h
theorem mk_pair {E1 E2 : El} {c1 : α → Nat} {c2 : β → Nat} (h1 : Mk d E1 c1) (h2 : Mk d' E2 c2) (hs : d.sz = 1) : Mk (Kd.pair d d') (ePair E1 E2) (fun x => c1 x.1 + c2 x.2) := by
  rintro W base ok x cs g o ⟨a, b, rfl, ha, hb⟩ hc
  have hl : a.length = 1 := (d.K_len (d.K_of_M ha)).trans hs
  obtain ⟨p1, q1, l1, m1⟩ := h1 ha (g := g) (o := o) (fun i u hu => hc i u (by
    rw [List.getElem?_append_left (List.getElem?_eq_some_iff.1 hu).1]; exact hu))
  obtain ⟨p2, q2, l2, m2⟩ := h2 hb (g := g) (o := o + 1) (fun i u hu => by
    have := hc (1 + i) u (by rw [List.getElem?_append_right (by omega), hl, Nat.add_sub_cancel_left]; exact hu)
    rwa [← Nat.add_assoc] at this)
  refine ⟨p1 ++ p2, ⟨p1, p2, q1, q2, rfl⟩, by rw [List.length_append, l1, l2], fun p hp => ?_⟩
  rcases List.mem_append.1 hp with hp | hp
  · exact m1 p hp
  · exact m2 p hp
theorem mk_iso {E : El} {cnt : α → Nat} (f : β → α) (h : Mk d E cnt) : Mk (Kd.iso d f) E (fun x => cnt (f x)) := fun hM hc => h hM hc
end Go.Proofs.Ytjiipeidginjnaa.LawM

namespace Go.Proofs.Ytjiipeidginjnaa.LayI
open Go.RowKit Go.Proofs.Ytjiipeidginjnaa.P Go.Proofs.YtjiipeidginjnaaW.PrintWords Go.Proofs.YtjiipeidginjnaaW.PrintLast Go.Proofs.YtjiipeidginjnaaW.PrintMore Go.Proofs.Ytjiipeidginjnaa.Lay
attribute [local go_sem] max2_int min2_int max_two min_two max_three min_three max_four min_four
set_option linter.unusedVariables false
set_option linter.unusedSimpArgs false

theorem flat_le {ass : List Pl} {i : Nat} : ((ass.take i).flatten).length ≤ ass.flatten.length := by
  conv => rhs; rw [← List.take_append_drop i ass, List.flatten_append, List.length_append]
  omega
theorem flat_lt {ass : List Pl} {i : Nat} (h : i < ass.length) : ((ass.take i).flatten).length + ass[i].length ≤ ass.flatten.length := by
  have := flat_le (ass := ass) (i := i + 1)
  rw [flat_take h, List.length_append] at this
  exact this
theorem flat_all (ass : List Pl) {n : Nat} (h : ass.length = n) : ass.take n = ass := List.take_of_length_le (by omega)
theorem flat_mem {ass : List Pl} {i : Nat} {p : Nat × Nat} (h : p ∈ (ass.take i).flatten) : p ∈ ass.flatten := by
  rw [← List.take_append_drop i ass, List.flatten_append]
  exact List.mem_append_left _ h
set_option maxHeartbeats 8000000 in
set_option maxRecDepth 100000 in
theorem markIntS (v : Value) (ps : Pl) (a : Int) (w : World) (h : Row 1 eInt w v ps) (h0 : 0 ≤ a) (h1 : a + ps.length ≤ 4611686018427387000) :
    Calls Try.prog 30 #[v, .int .i64 a] w fun e w' => e = .returned (.int .i64 (a + ps.length)) ∧ Wr w w' ps a := by
  have hin := in_row in_int _ _ _ h
  obtain ⟨A, n, c, rfl, hn, ass, hl, hpf, hr⟩ := h.open_
  have HF := Aside0.mk hpf
  have HN := Aside0.mk hn
  have HL := Aside0.mk hl
  have HR := Aside0.mk hr
  have HI := Aside0.mk hin
  have H1 := Aside0.mk h1
  have H0 := Aside0.mk h0
  clear hn hr hin h1 h0 h hl hpf
  go_enter Try.func30, Try.ntmps30
  go_wp2
  go_loopg [1, 5] (n + 1) (fun kq v1 v5 w' => ∃ (x1 : Int) (x5 : Int), v1 = .int .i64 x1 ∧ v5 = .int .i64 x5 ∧ Aside0 (∃ i : Nat, x5 = (i : Int) ∧ i + kq = n + 1 ∧ x1 = a + ((ass.take i).flatten.length : Int) ∧ Wr w w' (ass.take i).flatten a) ∧ Aside0 (1 ≤ kq))
  case atStart => exact ⟨a, 0, rfl, rfl, ⟨0, rfl, by omega, by simp, by simpa using Wr.nil w a⟩, ⟨by omega⟩⟩
  case round =>
    obtain ⟨x1, x5, rfl, rfl, HX, HQ⟩ := hrel
    cases gk with
    | zero => exact absurd HQ.out (by omega)
    | succ k1 =>
      by_cases c3 : x5 < (n : Int)
      · obtain ⟨i, hi, hik, hx1, hw⟩ := HX.out
        have hil : i < ass.length := by have := HL.out; omega
        obtain ⟨g, rfl, hE⟩ := HR.out (by omega)
        obtain ⟨hic, hps⟩ := st_int _ _ _ _ _ hw.hd (hE i hil)
        have hsz : ((ass.take i).flatten).length + 1 ≤ ass.flatten.length := by
          have := flat_lt hil; rw [hps] at this; simpa using this
        have hb1 := H1.out
        have hpf := HF.out
        rw [hpf] at hb1
        have hb0 := H0.out
        have hn9 := HN.out
        obtain ⟨hf, y, hc⟩ := hic
        rw [Nat.mul_one] at hc hf
        have hx5 : x5.toNat = i := by omega
        have hcell : wr.cell? ⟨g, x5.toNat, none⟩ = some (.int .i64 y) := by rw [hx5]; exact hc
        have hfro : wr.frozen? ⟨g, x5.toNat, none⟩ = false := by rw [hx5]; exact hf
        have W2 : Aside0 (Wr w (wr.setCell ⟨g, x5.toNat, none⟩ (.int .i64 x1)) (ass.take (i + 1)).flatten a) := ⟨by
          rw [flat_take hil, hps, Nat.mul_one]
          refine Wr.trans hw ?_ (fun p hp => HI.out p (by rw [HF.out]; exact flat_mem hp))
          rw [← hx1, hx5]
          exact Wr.store ⟨hf, y, hc⟩ x1⟩
        have hx1' : wrap64 (x1 + 1) = a + (((ass.take (i + 1)).flatten.length : Nat) : Int) := by
          rw [flat_take hil, hps, List.length_append, List.length_singleton]
          unfold wrap64; omega
        have hx5' : wrap64 (x5 + 1) = ((i + 1 : Nat) : Int) := by unfold wrap64; omega
        have HH := Aside0.mk (show (i + 1) + k1 = n + 1 ∧ 1 ≤ k1 by omega)
        have HX1 := Aside0.mk hx1'
        have HX5 := Aside0.mk hx5'
        have c3b0 : decide (x5 < (n : Int)) = true := decide_eq_true c3
        have p5 : (0 ≤ (x5 : Int)) = True := eq_true (by omega)
        have q5 : (x5 < (n : Int)) = True := eq_true c3
        clear hpf HX HQ hx1' hx5' hsz hb1 hb0 hn9 hik hx1 hi hil hx5 hc hf hE c3 hw hps
        go_wp2_with (first | ((with_reducible refine gate_store (t := 3) (p := 15) rfl ?_); refine store_event (t := 3) (p := 15) (v := ?vo_w8) (w1 := (wr.setCell ⟨g, (x5 : Int).toNat, none⟩ (.int .i64 x1))) ?hg ?ho ?hn ?hr ?_; (case ho => rfl); (case hg => rfl); (case hn => rfl); (case hr => first | (go_simp; done) | (go_simp; rfl)); intro w8 hw; rw [← hw] at W2; clear hw))
        go_roundg k1
        case measure => exact Nat.lt_succ_self _
        case rel => exact ⟨_, _, rfl, rfl, ⟨i + 1, HX5.out, HH.out.1, HX1.out, W2.out⟩, ⟨HH.out.2⟩⟩
      · have c3b0 : decide (x5 < (n : Int)) = false := decide_eq_false c3
        go_wp2
        go_ret
        obtain ⟨i, hi, hik, hx1, hw⟩ := HX.out
        have hq := HQ.out
        have hi' : i = n := by omega
        subst hi'
        rw [flat_all ass HL.out, ← HF.out] at hx1 hw
        exact ⟨by rw [hx1]; rfl, hw⟩
end Go.Proofs.Ytjiipeidginjnaa.LayI

namespace Go.Proofs.Ytjiipeidginjnaa.LayI
open Go.RowKit Go.Proofs.Ytjiipeidginjnaa.P Go.Proofs.YtjiipeidginjnaaW.PrintWords Go.Proofs.YtjiipeidginjnaaW.PrintLast Go.Proofs.YtjiipeidginjnaaW.PrintMore Go.Proofs.Ytjiipeidginjnaa.Lay
attribute [local go_sem] max2_int min2_int max_two min_two max_three min_three max_four min_four
set_option linter.unusedVariables false
set_option linter.unusedSimpArgs false
set_option maxHeartbeats 8000000 in
set_option maxRecDepth 100000 in
theorem markIntSS (v : Value) (ps : Pl) (a : Int) (w : World) (h : Row 1 (eRow (Row 1 eInt)) w v ps) (h0 : 0 ≤ a) (h1 : a + ps.length ≤ 4611686018427387000) :
    Calls Try.prog 163 #[v, .int .i64 a] w fun e w' => e = .returned (.int .i64 (a + ps.length)) ∧ Wr w w' ps a := by
  have hin := in_row (in_eRow (in_row in_int)) _ _ _ h
  obtain ⟨A, n, c, rfl, hn, ass, hl, hpf, hr⟩ := h.open_
  have HF := Aside0.mk hpf
  have HN := Aside0.mk hn
  have HL := Aside0.mk hl
  have HR := Aside0.mk hr
  have HI := Aside0.mk hin
  have H1 := Aside0.mk h1
  have H0 := Aside0.mk h0
  clear hn hr hin h1 h0 h hl hpf
  go_enter Try.func163, Try.ntmps163
  go_wp2
  go_loopg [1, 5] (n + 1) (fun kq v1 v5 w' => ∃ (x1 : Int) (x5 : Int), v1 = .int .i64 x1 ∧ v5 = .int .i64 x5 ∧ Aside0 (∃ i : Nat, x5 = (i : Int) ∧ i + kq = n + 1 ∧ x1 = a + ((ass.take i).flatten.length : Int) ∧ Wr w w' (ass.take i).flatten a) ∧ Aside0 (1 ≤ kq))
  case atStart => exact ⟨a, 0, rfl, rfl, ⟨0, rfl, by omega, by simp, by simpa using Wr.nil w a⟩, ⟨by omega⟩⟩
  case round =>
    obtain ⟨x1, x5, rfl, rfl, HX, HQ⟩ := hrel
    cases gk with
    | zero => exact absurd HQ.out (by omega)
    | succ k1 =>
      by_cases c3 : x5 < (n : Int)
      · obtain ⟨i, hi, hik, hx1, hw⟩ := HX.out
        have hil : i < ass.length := by have := HL.out; omega
        obtain ⟨g, rfl, hE⟩ := HR.out (by omega)
        have hEi := hE i hil
        have hb1 := H1.out
        have hpf := HF.out
        rw [hpf] at hb1
        have hsz := flat_lt hil
        have hb0 := H0.out
        have hn9 := HN.out
        have hx5 : x5.toNat = i := by omega
        have HH := Aside0.mk (show (i + 1) + k1 = n + 1 ∧ 1 ≤ k1 by omega)
        have HX5 := Aside0.mk (show wrap64 (x5 + 1) = ((i + 1 : Nat) : Int) by unfold wrap64; omega)
        have c3b0 : decide (x5 < (n : Int)) = true := decide_eq_true c3
        have p5 : (0 ≤ (x5 : Int)) = True := eq_true (by omega)
        have q5 : (x5 < (n : Int)) = True := eq_true c3
        have hA := (st_eRow (st_row st_int)) _ _ _ _ _ hw.hd hEi
        obtain ⟨b1, hab⟩ : ∃ b1, ass[i] = b1 := ⟨_, rfl⟩
        rw [hab] at hA
        rw [← hx5] at hA
        rw [Nat.mul_one] at hA
        have hlen : ass[i].length = b1.length := by rw [hab]
        obtain ⟨u0, hc0, hf0, hi0, hrw0⟩ := hA
        obtain ⟨A0, n0, cc0, rfl, hz0⟩ := id hrw0
        clear hz0
        have HC0 := Aside0.mk (show 0 ≤ x1 ∧ x1 + (b1.length : Int) ≤ 4611686018427387000 by omega)
        have hfin : (x1 + (b1.length : Int)) = a + (((ass.take (i + 1)).flatten.length : Nat) : Int) := by rw [flat_take hil, List.length_append, hlen]; omega
        have HFIN := Aside0.mk hfin
        have HWX := Aside0.mk (And.intro hw (And.intro hab hx1))
        clear hfin hw hab hx1 hlen hEi hb1 hsz hb0 hn9 hx5 hpf HX HQ hik hi c3 hE
        go_wp2_with (first | ((with_reducible refine gate_callee (f := 30) rfl ?_); refine goesL_ (some 17) rfl rfl Try.func30 (by kernel_rfl) rfl #[.slice A0 n0 cc0, .int .i64 x1] rfl (by (try simp only [List.map_toArray, List.map_cons, List.map_nil]); first | done | rfl) ?_; (with_reducible refine (markIntS _ b1 x1 _ hrw0 ?k0 ?k1).mono ?_); (case k0 => exact HC0.out.1); (case k1 => exact HC0.out.2); rintro e w80 ⟨rfl, WW0⟩; refine ⟨_, rfl, ?_⟩; skip))
        have W2 : Wr w w80 (ass.take (i + 1)).flatten a := by
          obtain ⟨hw, hab, hx1⟩ := HWX.out
          rw [flat_take hil, hab]
          refine Wr.trans hw ?_ (fun p hp => HI.out p (by rw [HF.out]; exact flat_mem hp))
          rw [← hx1]
          exact WW0
        go_roundg k1
        case measure => exact Nat.lt_succ_self _
        case rel => exact ⟨_, _, rfl, rfl, ⟨i + 1, HX5.out, HH.out.1, HFIN.out, W2⟩, ⟨HH.out.2⟩⟩
      · have c3b0 : decide (x5 < (n : Int)) = false := decide_eq_false c3
        go_wp2
        go_ret
        obtain ⟨i, hi, hik, hx1, hw⟩ := HX.out
        have hq := HQ.out
        have hi' : i = n := by omega
        subst hi'
        rw [flat_all ass HL.out, ← HF.out] at hx1 hw
        exact ⟨by rw [hx1]; rfl, hw⟩
end Go.Proofs.Ytjiipeidginjnaa.LayI

namespace Go.Proofs.Ytjiipeidginjnaa.LayI
open Go.RowKit Go.Proofs.Ytjiipeidginjnaa.P Go.Proofs.YtjiipeidginjnaaW.PrintWords Go.Proofs.YtjiipeidginjnaaW.PrintLast Go.Proofs.YtjiipeidginjnaaW.PrintMore Go.Proofs.Ytjiipeidginjnaa.Lay
attribute [local go_sem] max2_int min2_int max_two min_two max_three min_three max_four min_four
set_option linter.unusedVariables false
set_option linter.unusedSimpArgs false
set_option maxHeartbeats 8000000 in
set_option maxRecDepth 100000 in
theorem markIntSSS (v : Value) (ps : Pl) (a : Int) (w : World) (h : Row 1 (eRow (Row 1 (eRow (Row 1 eInt)))) w v ps) (h0 : 0 ≤ a) (h1 : a + ps.length ≤ 4611686018427387000) :
    Calls Try.prog 114 #[v, .int .i64 a] w fun e w' => e = .returned (.int .i64 (a + ps.length)) ∧ Wr w w' ps a := by
  have hin := in_row (in_eRow (in_row (in_eRow (in_row in_int)))) _ _ _ h
  obtain ⟨A, n, c, rfl, hn, ass, hl, hpf, hr⟩ := h.open_
  have HF := Aside0.mk hpf
  have HN := Aside0.mk hn
  have HL := Aside0.mk hl
  have HR := Aside0.mk hr
  have HI := Aside0.mk hin
  have H1 := Aside0.mk h1
  have H0 := Aside0.mk h0
  clear hn hr hin h1 h0 h hl hpf
  go_enter Try.func114, Try.ntmps114
  go_wp2
  go_loopg [1, 5] (n + 1) (fun kq v1 v5 w' => ∃ (x1 : Int) (x5 : Int), v1 = .int .i64 x1 ∧ v5 = .int .i64 x5 ∧ Aside0 (∃ i : Nat, x5 = (i : Int) ∧ i + kq = n + 1 ∧ x1 = a + ((ass.take i).flatten.length : Int) ∧ Wr w w' (ass.take i).flatten a) ∧ Aside0 (1 ≤ kq))
  case atStart => exact ⟨a, 0, rfl, rfl, ⟨0, rfl, by omega, by simp, by simpa using Wr.nil w a⟩, ⟨by omega⟩⟩
  case round =>
    obtain ⟨x1, x5, rfl, rfl, HX, HQ⟩ := hrel
    cases gk with
    | zero => exact absurd HQ.out (by omega)
    | succ k1 =>
      by_cases c3 : x5 < (n : Int)
      · obtain ⟨i, hi, hik, hx1, hw⟩ := HX.out
        have hil : i < ass.length := by have := HL.out; omega
        obtain ⟨g, rfl, hE⟩ := HR.out (by omega)
        have hEi := hE i hil
        have hb1 := H1.out
        have hpf := HF.out
        rw [hpf] at hb1
        have hsz := flat_lt hil
        have hb0 := H0.out
        have hn9 := HN.out
        have hx5 : x5.toNat = i := by omega
        have HH := Aside0.mk (show (i + 1) + k1 = n + 1 ∧ 1 ≤ k1 by omega)
        have HX5 := Aside0.mk (show wrap64 (x5 + 1) = ((i + 1 : Nat) : Int) by unfold wrap64; omega)
        have c3b0 : decide (x5 < (n : Int)) = true := decide_eq_true c3
        have p5 : (0 ≤ (x5 : Int)) = True := eq_true (by omega)
        have q5 : (x5 < (n : Int)) = True := eq_true c3
        have hA := (st_eRow (st_row (st_eRow (st_row st_int)))) _ _ _ _ _ hw.hd hEi
        obtain ⟨b1, hab⟩ : ∃ b1, ass[i] = b1 := ⟨_, rfl⟩
        rw [hab] at hA
        rw [← hx5] at hA
        rw [Nat.mul_one] at hA
        have hlen : ass[i].length = b1.length := by rw [hab]
        obtain ⟨u0, hc0, hf0, hi0, hrw0⟩ := hA
        obtain ⟨A0, n0, cc0, rfl, hz0⟩ := id hrw0
        clear hz0
        have HC0 := Aside0.mk (show 0 ≤ x1 ∧ x1 + (b1.length : Int) ≤ 4611686018427387000 by omega)
        have hfin : (x1 + (b1.length : Int)) = a + (((ass.take (i + 1)).flatten.length : Nat) : Int) := by rw [flat_take hil, List.length_append, hlen]; omega
        have HFIN := Aside0.mk hfin
        have HWX := Aside0.mk (And.intro hw (And.intro hab hx1))
        clear hfin hw hab hx1 hlen hEi hb1 hsz hb0 hn9 hx5 hpf HX HQ hik hi c3 hE
        go_wp2_with (first | ((with_reducible refine gate_callee (f := 163) rfl ?_); refine goesL_ (some 17) rfl rfl Try.func163 (by kernel_rfl) rfl #[.slice A0 n0 cc0, .int .i64 x1] rfl (by (try simp only [List.map_toArray, List.map_cons, List.map_nil]); first | done | rfl) ?_; (with_reducible refine (markIntSS _ b1 x1 _ hrw0 ?k0 ?k1).mono ?_); (case k0 => exact HC0.out.1); (case k1 => exact HC0.out.2); rintro e w80 ⟨rfl, WW0⟩; refine ⟨_, rfl, ?_⟩; skip))
        have W2 : Wr w w80 (ass.take (i + 1)).flatten a := by
          obtain ⟨hw, hab, hx1⟩ := HWX.out
          rw [flat_take hil, hab]
          refine Wr.trans hw ?_ (fun p hp => HI.out p (by rw [HF.out]; exact flat_mem hp))
          rw [← hx1]
          exact WW0
        go_roundg k1
        case measure => exact Nat.lt_succ_self _
        case rel => exact ⟨_, _, rfl, rfl, ⟨i + 1, HX5.out, HH.out.1, HFIN.out, W2⟩, ⟨HH.out.2⟩⟩
      · have c3b0 : decide (x5 < (n : Int)) = false := decide_eq_false c3
        go_wp2
        go_ret
        obtain ⟨i, hi, hik, hx1, hw⟩ := HX.out
        have hq := HQ.out
        have hi' : i = n := by omega
        subst hi'
        rw [flat_all ass HL.out, ← HF.out] at hx1 hw
        exact ⟨by rw [hx1]; rfl, hw⟩
end Go.Proofs.Ytjiipeidginjnaa.LayI

namespace Go.Proofs.Ytjiipeidginjnaa.LayI
open Go.RowKit Go.Proofs.Ytjiipeidginjnaa.P Go.Proofs.YtjiipeidginjnaaW.PrintWords Go.Proofs.YtjiipeidginjnaaW.PrintLast Go.Proofs.YtjiipeidginjnaaW.PrintMore Go.Proofs.Ytjiipeidginjnaa.Lay
attribute [local go_sem] max2_int min2_int max_two min_two max_three min_three max_four min_four
set_option linter.unusedVariables false
set_option linter.unusedSimpArgs false
set_option maxHeartbeats 8000000 in
set_option maxRecDepth 100000 in
theorem markAtomS (v : Value) (ps : Pl) (a : Int) (w : World) (h : Row 2 (ePair eInt (eRow (Row 1 eInt))) w v ps) (h0 : 0 ≤ a) (h1 : a + ps.length ≤ 4611686018427387000) :
    Calls Try.prog 82 #[v, .int .i64 a] w fun e w' => e = .returned (.int .i64 (a + ps.length)) ∧ Wr w w' ps a := by
  have hin := in_row (in_pair in_int (in_eRow (in_row in_int))) _ _ _ h
  obtain ⟨A, n, c, rfl, hn, ass, hl, hpf, hr⟩ := h.open_
  have HF := Aside0.mk hpf
  have HN := Aside0.mk hn
  have HL := Aside0.mk hl
  have HR := Aside0.mk hr
  have HI := Aside0.mk hin
  have H1 := Aside0.mk h1
  have H0 := Aside0.mk h0
  clear hn hr hin h1 h0 h hl hpf
  have hu153 := Try.underlying153
  go_enter Try.func82, Try.ntmps82
  go_wp2
  go_loopg [1, 5] (n + 1) (fun kq v1 v5 w' => ∃ (x1 : Int) (x5 : Int), v1 = .int .i64 x1 ∧ v5 = .int .i64 x5 ∧ Aside0 (∃ i : Nat, x5 = (i : Int) ∧ i + kq = n + 1 ∧ x1 = a + ((ass.take i).flatten.length : Int) ∧ Wr w w' (ass.take i).flatten a) ∧ Aside0 (1 ≤ kq))
  case atStart => exact ⟨a, 0, rfl, rfl, ⟨0, rfl, by omega, by simp, by simpa using Wr.nil w a⟩, ⟨by omega⟩⟩
  case round =>
    obtain ⟨x1, x5, rfl, rfl, HX, HQ⟩ := hrel
    cases gk with
    | zero => exact absurd HQ.out (by omega)
    | succ k1 =>
      by_cases c3 : x5 < (n : Int)
      · obtain ⟨i, hi, hik, hx1, hw⟩ := HX.out
        have hil : i < ass.length := by have := HL.out; omega
        obtain ⟨g, rfl, hE⟩ := HR.out (by omega)
        have hEi := hE i hil
        have hb1 := H1.out
        have hpf := HF.out
        rw [hpf] at hb1
        have hsz := flat_lt hil
        have hb0 := H0.out
        have hn9 := HN.out
        have hx5 : x5.toNat = i := by omega
        have HH := Aside0.mk (show (i + 1) + k1 = n + 1 ∧ 1 ≤ k1 by omega)
        have HX5 := Aside0.mk (show wrap64 (x5 + 1) = ((i + 1 : Nat) : Int) by unfold wrap64; omega)
        have c3b0 : decide (x5 < (n : Int)) = true := decide_eq_true c3
        have p5 : (0 ≤ (x5 : Int)) = True := eq_true (by omega)
        have q5 : (x5 < (n : Int)) = True := eq_true c3
        obtain ⟨b1, b2, hA, hB, hab⟩ := (st_pair st_int (st_eRow (st_row st_int))) _ _ _ _ _ hw.hd hEi
        rw [← hx5] at hA hB
        have hlen : ass[i].length = b1.length + b2.length := by rw [hab]; exact List.length_append
        obtain ⟨⟨hf0, y0, hc0⟩, he0⟩ := hA
        have e0 := Aside0.mk he0
        have el0 : b1.length = 1 := by rw [he0]; rfl
        clear he0
        obtain ⟨u1, hc1, hf1, hi1, hrw1⟩ := hB
        obtain ⟨A1, n1, cc1, rfl, hz1⟩ := id hrw1
        clear hz1
        have ew0 : wrap64 (x1 + 1) = x1 + (b1.length : Int) := by rw [el0]; unfold wrap64; omega
        have HC1 := Aside0.mk (show 0 ≤ wrap64 (x1 + 1) ∧ wrap64 (x1 + 1) + (b2.length : Int) ≤ 4611686018427387000 by rw [ew0]; omega)
        have hfin : (wrap64 (x1 + 1) + (b2.length : Int)) = a + (((ass.take (i + 1)).flatten.length : Nat) : Int) := by rw [flat_take hil, List.length_append, hlen]; rw [ew0]; omega
        have HFIN := Aside0.mk hfin
        have HWX := Aside0.mk (And.intro hw (And.intro hab hx1))
        have EW0 := Aside0.mk ew0
        clear ew0 el0
        clear hfin hw hab hx1 hlen hEi hb1 hsz hb0 hn9 hx5 hpf HX HQ hik hi c3 hE
        go_wp2_with (first | ((with_reducible refine gate_store (t := 3) (p := 16) rfl ?_); refine store_event (t := 3) (p := 16) (v := ?vo_w8) (w1 := (wr.setCell ⟨g, x5.toNat * 2, none⟩ (.int .i64 x1))) ?hg ?ho ?hn ?hr ?_; (case ho => rfl); (case hg => rfl); (case hn => rfl); (case hr => first | (go_simp; done) | (go_simp; rfl)); intro w80 hw_; have WW0 : Wr wr w80 b1 (x1) := (by rw [hw_, e0.out]; exact Wr.store ⟨hf0, y0, hc0⟩ _); clear hw_; obtain ⟨hf1_, v1_, hc1_, ev1_⟩ := WW0.hd.cell g (x5.toNat * 2 + 1) _ hc1 hf1; (rcases ev1_ with ev1_ | ev1_); rotate_left; (exact absurd ev1_.1 hi1); subst ev1_; have hrw1_ := st_row st_int _ _ _ _ WW0.hd hrw1; clear hc1 hf1 hrw1; have hc1 := hc1_; have hf1 := hf1_; have hrw1 := hrw1_; clear hc1_ hf1_ hrw1_) | ((with_reducible refine gate_callee (f := 30) rfl ?_); refine goesL_ (some 25) rfl rfl Try.func30 (by kernel_rfl) rfl #[.slice A1 n1 cc1, .int .i64 (wrap64 (x1 + 1))] rfl (by (try simp only [List.map_toArray, List.map_cons, List.map_nil]); first | done | rfl) ?_; (with_reducible refine (markIntS _ b2 (wrap64 (x1 + 1)) _ hrw1 ?k0 ?k1).mono ?_); (case k0 => exact HC1.out.1); (case k1 => exact HC1.out.2); rintro e w81 ⟨rfl, WW1⟩; refine ⟨_, rfl, ?_⟩; skip))
        have W2 : Wr w w81 (ass.take (i + 1)).flatten a := by
          obtain ⟨hw, hab, hx1⟩ := HWX.out
          rw [flat_take hil, hab]
          refine Wr.trans hw ?_ (fun p hp => HI.out p (by rw [HF.out]; exact flat_mem hp))
          rw [← hx1]
          have WA := WW0
          have WB := WW1
          rw [EW0.out] at WB
          refine Wr.trans WA WB (fun p hp => ?_)
          have hm := HI.out p (by rw [HF.out]; exact List.mem_flatten.2 ⟨_, List.getElem_mem hil, by rw [hab]; exact List.mem_append_left _ hp⟩)
          exact Nat.lt_of_lt_of_le hm hw.hd.size
        go_roundg k1
        case measure => exact Nat.lt_succ_self _
        case rel => exact ⟨_, _, rfl, rfl, ⟨i + 1, HX5.out, HH.out.1, HFIN.out, W2⟩, ⟨HH.out.2⟩⟩
      · have c3b0 : decide (x5 < (n : Int)) = false := decide_eq_false c3
        go_wp2
        go_ret
        obtain ⟨i, hi, hik, hx1, hw⟩ := HX.out
        have hq := HQ.out
        have hi' : i = n := by omega
        subst hi'
        rw [flat_all ass HL.out, ← HF.out] at hx1 hw
        exact ⟨by rw [hx1]; rfl, hw⟩
end Go.Proofs.Ytjiipeidginjnaa.LayI

namespace Go.Proofs.Ytjiipeidginjnaa.LayI
open Go.RowKit Go.Proofs.Ytjiipeidginjnaa.P Go.Proofs.YtjiipeidginjnaaW.PrintWords Go.Proofs.YtjiipeidginjnaaW.PrintLast Go.Proofs.YtjiipeidginjnaaW.PrintMore Go.Proofs.Ytjiipeidginjnaa.Lay
attribute [local go_sem] max2_int min2_int max_two min_two max_three min_three max_four min_four
set_option linter.unusedVariables false
set_option linter.unusedSimpArgs false
set_option maxHeartbeats 8000000 in
set_option maxRecDepth 100000 in
theorem markQueryS (v : Value) (ps : Pl) (a : Int) (w : World) (h : Row 2 (ePair (eRow (Row 1 eInt)) (eRow (Row 2 (ePair eInt (eRow (Row 1 eInt)))))) w v ps) (h0 : 0 ≤ a) (h1 : a + ps.length ≤ 4611686018427387000) :
    Calls Try.prog 29 #[v, .int .i64 a] w fun e w' => e = .returned (.int .i64 (a + ps.length)) ∧ Wr w w' ps a := by
  have hin := in_row (in_pair (in_eRow (in_row in_int)) (in_eRow (in_row (in_pair in_int (in_eRow (in_row in_int)))))) _ _ _ h
  obtain ⟨A, n, c, rfl, hn, ass, hl, hpf, hr⟩ := h.open_
  have HF := Aside0.mk hpf
  have HN := Aside0.mk hn
  have HL := Aside0.mk hl
  have HR := Aside0.mk hr
  have HI := Aside0.mk hin
  have H1 := Aside0.mk h1
  have H0 := Aside0.mk h0
  clear hn hr hin h1 h0 h hl hpf
  have hu72 := Try.underlying72
  go_enter Try.func29, Try.ntmps29
  go_wp2
  go_loopg [1, 5] (n + 1) (fun kq v1 v5 w' => ∃ (x1 : Int) (x5 : Int), v1 = .int .i64 x1 ∧ v5 = .int .i64 x5 ∧ Aside0 (∃ i : Nat, x5 = (i : Int) ∧ i + kq = n + 1 ∧ x1 = a + ((ass.take i).flatten.length : Int) ∧ Wr w w' (ass.take i).flatten a) ∧ Aside0 (1 ≤ kq))
  case atStart => exact ⟨a, 0, rfl, rfl, ⟨0, rfl, by omega, by simp, by simpa using Wr.nil w a⟩, ⟨by omega⟩⟩
  case round =>
    obtain ⟨x1, x5, rfl, rfl, HX, HQ⟩ := hrel
    cases gk with
    | zero => exact absurd HQ.out (by omega)
    | succ k1 =>
      by_cases c3 : x5 < (n : Int)
      · obtain ⟨i, hi, hik, hx1, hw⟩ := HX.out
        have hil : i < ass.length := by have := HL.out; omega
        obtain ⟨g, rfl, hE⟩ := HR.out (by omega)
        have hEi := hE i hil
        have hb1 := H1.out
        have hpf := HF.out
        rw [hpf] at hb1
        have hsz := flat_lt hil
        have hb0 := H0.out
        have hn9 := HN.out
        have hx5 : x5.toNat = i := by omega
        have HH := Aside0.mk (show (i + 1) + k1 = n + 1 ∧ 1 ≤ k1 by omega)
        have HX5 := Aside0.mk (show wrap64 (x5 + 1) = ((i + 1 : Nat) : Int) by unfold wrap64; omega)
        have c3b0 : decide (x5 < (n : Int)) = true := decide_eq_true c3
        have p5 : (0 ≤ (x5 : Int)) = True := eq_true (by omega)
        have q5 : (x5 < (n : Int)) = True := eq_true c3
        obtain ⟨b1, b2, hA, hB, hab⟩ := (st_pair (st_eRow (st_row st_int)) (st_eRow (st_row (st_pair st_int (st_eRow (st_row st_int)))))) _ _ _ _ _ hw.hd hEi
        rw [← hx5] at hA hB
        have hlen : ass[i].length = b1.length + b2.length := by rw [hab]; exact List.length_append
        obtain ⟨u0, hc0, hf0, hi0, hrw0⟩ := hA
        obtain ⟨A0, n0, cc0, rfl, hz0⟩ := id hrw0
        clear hz0
        obtain ⟨u1, hc1, hf1, hi1, hrw1⟩ := hB
        obtain ⟨A1, n1, cc1, rfl, hz1⟩ := id hrw1
        clear hz1
        have HC0 := Aside0.mk (show 0 ≤ x1 ∧ x1 + (b1.length : Int) ≤ 4611686018427387000 by omega)
        have HC1 := Aside0.mk (show 0 ≤ (x1 + (b1.length : Int)) ∧ (x1 + (b1.length : Int)) + (b2.length : Int) ≤ 4611686018427387000 by omega)
        have hfin : ((x1 + (b1.length : Int)) + (b2.length : Int)) = a + (((ass.take (i + 1)).flatten.length : Nat) : Int) := by rw [flat_take hil, List.length_append, hlen]; omega
        have HFIN := Aside0.mk hfin
        have HWX := Aside0.mk (And.intro hw (And.intro hab hx1))
        clear hfin hw hab hx1 hlen hEi hb1 hsz hb0 hn9 hx5 hpf HX HQ hik hi c3 hE
        go_wp2_with (first | ((with_reducible refine gate_callee (f := 30) rfl ?_); refine goesL_ (some 18) rfl rfl Try.func30 (by kernel_rfl) rfl #[.slice A0 n0 cc0, .int .i64 x1] rfl (by (try simp only [List.map_toArray, List.map_cons, List.map_nil]); first | done | rfl) ?_; (with_reducible refine (markIntS _ b1 x1 _ hrw0 ?k0 ?k1).mono ?_); (case k0 => exact HC0.out.1); (case k1 => exact HC0.out.2); rintro e w80 ⟨rfl, WW0⟩; refine ⟨_, rfl, ?_⟩; obtain ⟨hf1_, v1_, hc1_, ev1_⟩ := WW0.hd.cell g (x5.toNat * 2 + 1) _ hc1 hf1; (rcases ev1_ with ev1_ | ev1_); rotate_left; (exact absurd ev1_.1 hi1); subst ev1_; have hrw1_ := st_row (st_pair st_int (st_eRow (st_row st_int))) _ _ _ _ WW0.hd hrw1; clear hc1 hf1 hrw1; have hc1 := hc1_; have hf1 := hf1_; have hrw1 := hrw1_; clear hc1_ hf1_ hrw1_) | ((with_reducible refine gate_callee (f := 82) rfl ?_); refine goesL_ (some 25) rfl rfl Try.func82 (by kernel_rfl) rfl #[.slice A1 n1 cc1, .int .i64 ((x1 + (b1.length : Int)))] rfl (by (try simp only [List.map_toArray, List.map_cons, List.map_nil]); first | done | rfl) ?_; (with_reducible refine (markAtomS _ b2 ((x1 + (b1.length : Int))) _ hrw1 ?k0 ?k1).mono ?_); (case k0 => exact HC1.out.1); (case k1 => exact HC1.out.2); rintro e w81 ⟨rfl, WW1⟩; refine ⟨_, rfl, ?_⟩; skip))
        have W2 : Wr w w81 (ass.take (i + 1)).flatten a := by
          obtain ⟨hw, hab, hx1⟩ := HWX.out
          rw [flat_take hil, hab]
          refine Wr.trans hw ?_ (fun p hp => HI.out p (by rw [HF.out]; exact flat_mem hp))
          rw [← hx1]
          have WA := WW0
          have WB := WW1
          refine Wr.trans WA WB (fun p hp => ?_)
          have hm := HI.out p (by rw [HF.out]; exact List.mem_flatten.2 ⟨_, List.getElem_mem hil, by rw [hab]; exact List.mem_append_left _ hp⟩)
          exact Nat.lt_of_lt_of_le hm hw.hd.size
        go_roundg k1
        case measure => exact Nat.lt_succ_self _
        case rel => exact ⟨_, _, rfl, rfl, ⟨i + 1, HX5.out, HH.out.1, HFIN.out, W2⟩, ⟨HH.out.2⟩⟩
      · have c3b0 : decide (x5 < (n : Int)) = false := decide_eq_false c3
        go_wp2
        go_ret
        obtain ⟨i, hi, hik, hx1, hw⟩ := HX.out
        have hq := HQ.out
        have hi' : i = n := by omega
        subst hi'
        rw [flat_all ass HL.out, ← HF.out] at hx1 hw
        exact ⟨by rw [hx1]; rfl, hw⟩
end Go.Proofs.Ytjiipeidginjnaa.LayI

namespace Go.Proofs.Ytjiipeidginjnaa.LayI
open Go.RowKit Go.Proofs.Ytjiipeidginjnaa.P Go.Proofs.YtjiipeidginjnaaW.PrintWords Go.Proofs.YtjiipeidginjnaaW.PrintLast Go.Proofs.YtjiipeidginjnaaW.PrintMore Go.Proofs.Ytjiipeidginjnaa.Lay Go.Proofs.Ytjiipeidginjnaa.LawM
attribute [local go_sem] max2_int min2_int max_two min_two max_three min_three max_four min_four
set_option linter.unusedVariables false
set_option linter.unusedSimpArgs false
set_option maxHeartbeats 8000000 in
set_option maxRecDepth 100000 in
theorem markCache (A0 : Option Addr) (n0 c0 : Nat) (A1 : Option Addr) (n1 c1 : Nat) (x2 : Int) (p0 : Pl) (p1 : Pl) (a : Int) (w : World) (h0_ : Row 2 (ePair (eRow (Row 1 eInt)) (eRow (Row 2 (ePair eInt (eRow (Row 1 eInt)))))) w (.slice A0 n0 c0) p0) (h1_ : Row 1 (eRow (Row 1 (eRow (Row 1 eInt)))) w (.slice A1 n1 c1) p1) (h0 : 0 ≤ a) (h1 : a + (p0.length : Int) + (p1.length : Int) ≤ 4611686018427387000) :
    Calls Try.prog 63 #[.agg #[.slice A0 n0 c0, .slice A1 n1 c1, .int .i64 x2], .int .i64 a] w fun e w' => e = .returned (.int .i64 (a + (p0.length : Int) + (p1.length : Int))) ∧ Wr w w' (p0 ++ p1) a := by
  have hu60 := Try.underlying60
  have HR0 := Aside0.mk h0_
  have HI0 := Aside0.mk (in_row (in_pair (in_eRow (in_row in_int)) (in_eRow (in_row (in_pair in_int (in_eRow (in_row in_int)))))) _ _ _ h0_)
  have HR1 := Aside0.mk h1_
  have HI1 := Aside0.mk (in_row (in_eRow (in_row (in_eRow (in_row in_int)))) _ _ _ h1_)
  have H0 := Aside0.mk h0
  have H1 := Aside0.mk h1
  clear h0 h1 h0_ h1_
  go_enter Try.func63, Try.ntmps63
  go_wp2_with (first | ((with_reducible refine gate_dst (N := 2) rfl ?_); refine box_event ?hg (N := 2) ?hd (cs := #[.slice A0 n0 c0, .slice A1 n1 c1, .int .i64 x2]) (t := 60) ?hr ?_; (case hd => rfl); (case hg => rfl); (case hr => first | (go_simp; done) | (go_simp; rfl)); intro gb hg w80 hbox hb; have BK := Aside0.mk hbox; have GB := Aside0.mk hg; have HW := Aside0.mk (Wr.below hb a); have HR0_ := Aside0.mk (st_row (st_pair (st_eRow (st_row st_int)) (st_eRow (st_row (st_pair st_int (st_eRow (st_row st_int)))))) _ _ _ _ (Hd.below hb) HR0.out); clear HR0; have HR0 := HR0_; clear HR0_; have HR1_ := Aside0.mk (st_row (st_eRow (st_row (st_eRow (st_row st_int)))) _ _ _ _ (Hd.below hb) HR1.out); clear HR1; have HR1 := HR1_; clear HR1_; have hc0 : w80.cell? ⟨gb, 0, none⟩ = some (.slice A0 n0 c0) := (blk_cell BK.out 0).trans rfl; have hc1 : w80.cell? ⟨gb, 1, none⟩ = some (.slice A1 n1 c1) := (blk_cell BK.out 1).trans rfl; have hc2 : w80.cell? ⟨gb, 2, none⟩ = some (.int .i64 x2) := (blk_cell BK.out 2).trans rfl; clear hbox hg hb) | ((with_reducible refine gate_callee (f := 29) rfl ?_); refine goesL_ (some 8) rfl rfl Try.func29 (by kernel_rfl) rfl #[.slice A0 n0 c0, .int .i64 a] rfl (by (try simp only [List.map_toArray, List.map_cons, List.map_nil]); first | done | rfl) ?_; (with_reducible refine (markQueryS _ p0 a _ HR0.out ?k0 ?k1).mono ?_); (case k0 => have := H0.out; omega); (case k1 => (have := H1.out; omega)); rintro e w81 ⟨rfl, hw⟩; refine ⟨_, rfl, ?_⟩; have HR1_ := Aside0.mk (st_row (st_eRow (st_row (st_eRow (st_row st_int)))) _ _ _ _ hw.hd HR1.out); clear HR1; have HR1 := HR1_; clear HR1_; have HW_ := Aside0.mk (Wr.trans HW.out (by simpa using hw) (fun p hp => absurd hp List.not_mem_nil)); clear HW; have HW := HW_; clear HW_; have BK_ := Aside0.mk (blk_wr BK.out hw (lo' := 0) (hi' := w.heap.size) (fun p hp => ⟨Nat.zero_le _, HI0.out p hp⟩) (.inr (by have := GB.out; omega))); clear BK; have BK := BK_; clear BK_; have hd0 : w81.cell? ⟨gb, 0, none⟩ = some (.slice A0 n0 c0) := (blk_cell BK.out 0).trans rfl; clear hc0; have hc0 := hd0; clear hd0; have hd1 : w81.cell? ⟨gb, 1, none⟩ = some (.slice A1 n1 c1) := (blk_cell BK.out 1).trans rfl; clear hc1; have hc1 := hd1; clear hd1; have hd2 : w81.cell? ⟨gb, 2, none⟩ = some (.int .i64 x2) := (blk_cell BK.out 2).trans rfl; clear hc2; have hc2 := hd2; clear hd2; clear hw) | ((with_reducible refine gate_callee (f := 114) rfl ?_); refine goesL_ (some 12) rfl rfl Try.func114 (by kernel_rfl) rfl #[.slice A1 n1 c1, .int .i64 (a + (p0.length : Int))] rfl (by (try simp only [List.map_toArray, List.map_cons, List.map_nil]); first | done | rfl) ?_; (with_reducible refine (markIntSSS _ p1 (a + (p0.length : Int)) _ HR1.out ?k0 ?k1).mono ?_); (case k0 => have := H0.out; omega); (case k1 => (have := H1.out; omega)); rintro e w82 ⟨rfl, hw⟩; refine ⟨_, rfl, ?_⟩; have HW_ := Aside0.mk (Wr.trans HW.out (by first | exact hw | (have hw_ := hw; simp only [List.length_append, List.length_nil, List.nil_append, Nat.zero_add, Int.natCast_add, Int.natCast_zero, Int.zero_add, Int.add_zero, Int.add_assoc] at hw_ ⊢; exact hw_)) (fun p hp => by simp only [List.nil_append, List.mem_append] at hp; exact HI0.out p hp)); clear HW; have HW := HW_; clear HW_; have BK_ := Aside0.mk (blk_wr BK.out hw (lo' := 0) (hi' := w.heap.size) (fun p hp => ⟨Nat.zero_le _, HI1.out p hp⟩) (.inr (by have := GB.out; omega))); clear BK; have BK := BK_; clear BK_; have hd0 : w82.cell? ⟨gb, 0, none⟩ = some (.slice A0 n0 c0) := (blk_cell BK.out 0).trans rfl; clear hc0; have hc0 := hd0; clear hd0; have hd1 : w82.cell? ⟨gb, 1, none⟩ = some (.slice A1 n1 c1) := (blk_cell BK.out 1).trans rfl; clear hc1; have hc1 := hd1; clear hd1; have hd2 : w82.cell? ⟨gb, 2, none⟩ = some (.int .i64 x2) := (blk_cell BK.out 2).trans rfl; clear hc2; have hc2 := hd2; clear hd2; clear hw))
  go_ret
  exact ⟨rfl, by simpa using HW.out⟩
end Go.Proofs.Ytjiipeidginjnaa.LayI

namespace Go.Proofs.Ytjiipeidginjnaa.LayI
open Go.RowKit Go.Proofs.Ytjiipeidginjnaa.P Go.Proofs.YtjiipeidginjnaaW.PrintWords Go.Proofs.YtjiipeidginjnaaW.PrintLast Go.Proofs.YtjiipeidginjnaaW.PrintMore Go.Proofs.Ytjiipeidginjnaa.Lay Go.Proofs.Ytjiipeidginjnaa.LawM
attribute [local go_sem] max2_int min2_int max_two min_two max_three min_three max_four min_four
set_option linter.unusedVariables false
set_option linter.unusedSimpArgs false
set_option maxHeartbeats 8000000 in
set_option maxRecDepth 100000 in
theorem markFact (x0 : Int) (A1 : Option Addr) (n1 c1 : Nat) (p1 : Pl) (a : Int) (w : World) (h1_ : Row 1 eInt w (.slice A1 n1 c1) p1) (h0 : 0 ≤ a) (h1 : a + (p1.length : Int) ≤ 4611686018427387000) :
    Calls Try.prog 64 #[.agg #[.int .i64 x0, .slice A1 n1 c1], .int .i64 a] w fun e w' => e = .returned (.int .i64 (a + (p1.length : Int))) ∧ Wr w w' (p1) a := by
  have hu82 := Try.underlying82
  have HR1 := Aside0.mk h1_
  have HI1 := Aside0.mk (in_row in_int _ _ _ h1_)
  have H0 := Aside0.mk h0
  have H1 := Aside0.mk h1
  clear h0 h1 h1_
  go_enter Try.func64, Try.ntmps64
  go_wp2_with (first | ((with_reducible refine gate_dst (N := 2) rfl ?_); refine box_event ?hg (N := 2) ?hd (cs := #[.int .i64 x0, .slice A1 n1 c1]) (t := 82) ?hr ?_; (case hd => rfl); (case hg => rfl); (case hr => first | (go_simp; done) | (go_simp; rfl)); intro gb hg w80 hbox hb; have BK := Aside0.mk hbox; have GB := Aside0.mk hg; have HW := Aside0.mk (Wr.below hb a); have HR1_ := Aside0.mk (st_row st_int _ _ _ _ (Hd.below hb) HR1.out); clear HR1; have HR1 := HR1_; clear HR1_; have hc0 : w80.cell? ⟨gb, 0, none⟩ = some (.int .i64 x0) := (blk_cell BK.out 0).trans rfl; have hc1 : w80.cell? ⟨gb, 1, none⟩ = some (.slice A1 n1 c1) := (blk_cell BK.out 1).trans rfl; clear hbox hg hb) | ((with_reducible refine gate_callee (f := 30) rfl ?_); refine goesL_ (some 8) rfl rfl Try.func30 (by kernel_rfl) rfl #[.slice A1 n1 c1, .int .i64 a] rfl (by (try simp only [List.map_toArray, List.map_cons, List.map_nil]); first | done | rfl) ?_; (with_reducible refine (markIntS _ p1 a _ HR1.out ?k0 ?k1).mono ?_); (case k0 => have := H0.out; omega); (case k1 => (have := H1.out; omega)); rintro e w81 ⟨rfl, hw⟩; refine ⟨_, rfl, ?_⟩; have HW_ := Aside0.mk (Wr.trans HW.out (by simpa using hw) (fun p hp => absurd hp List.not_mem_nil)); clear HW; have HW := HW_; clear HW_; have BK_ := Aside0.mk (blk_wr BK.out hw (lo' := 0) (hi' := w.heap.size) (fun p hp => ⟨Nat.zero_le _, HI1.out p hp⟩) (.inr (by have := GB.out; omega))); clear BK; have BK := BK_; clear BK_; have hd0 : w81.cell? ⟨gb, 0, none⟩ = some (.int .i64 x0) := (blk_cell BK.out 0).trans rfl; clear hc0; have hc0 := hd0; clear hd0; have hd1 : w81.cell? ⟨gb, 1, none⟩ = some (.slice A1 n1 c1) := (blk_cell BK.out 1).trans rfl; clear hc1; have hc1 := hd1; clear hd1; clear hw))
  go_ret
  exact ⟨rfl, by simpa using HW.out⟩
end Go.Proofs.Ytjiipeidginjnaa.LayI

namespace Go.Proofs.Ytjiipeidginjnaa.PB
open Go.RowKit Go.Proofs.YtjiipeidginjnaaW.PrintWords
set_option linter.unusedVariables false

theorem Ev.pos {α : Type} {c : Prop} [Decidable c] {f g : Nat → Option α} {r : α} (h : c) (k : Ev f r) : Ev (fun n => if c then f n else g n) r :=
  Ev.congr (fun n => if_pos h) k
theorem Ev.neg {α : Type} {c : Prop} [Decidable c] {f g : Nat → Option α} {r : α} (h : ¬ c) (k : Ev g r) : Ev (fun n => if c then f n else g n) r :=
  Ev.congr (fun n => if_neg h) k
theorem Ev.const {α : Type} {x : Option α} {r : α} (h : x = some r) : Ev (fun _ => x) r := ⟨0, fun _ _ => h⟩
/-- A callee without rounds. -/
theorem Ev.bindc {α β : Type} {g : Option α} {f : Nat → α → Option β} {a : α} {r : β} (h : g = some a) (k : Ev (fun n => f n a) r) : Ev (fun n => g.bind (f n)) r := by
  subst h; exact k
theorem Ev.eq {α : Type} {g f : Nat → Option α} {r q : α} (h : Ev g r) (hg : g = f) (hr : r = q) : Ev f q := by subst hg; subst hr; exact h

theorem inc {i : Nat} (h : i < 4611686018427387904) : wrap64 ((i : Int) + 1) = ((i + 1 : Nat) : Int) := by
  unfold wrap64; omega
theorem w64 {n : Int} (h : -9223372036854775808 ≤ n) (h' : n ≤ 9223372036854775807) : wrap64 n = n := by
  unfold wrap64; omega
theorem rd_nat (xs : List Int) (i : Nat) (h : i < xs.length) : rd xs (i : Int) = xs[i] := by
  unfold rd; simp [List.getD_eq_getElem?_getD, h]
theorem getD_nat {α : Type} (d : α) (xs : List α) (i : Nat) (h : i < xs.length) : xs.getD (i : Int).toNat d = xs[i] := by
  simp [List.getD_eq_getElem?_getD, h]
theorem drop_cons {α : Type} {xs : List α} {i : Nat} (h : i < xs.length) : xs.drop i = xs[i] :: xs.drop (i + 1) := by
  exact List.drop_eq_getElem_cons h
theorem take_snoc {α : Type} {xs : List α} {i : Nat} (h : i < xs.length) : xs.take (i + 1) = xs.take i ++ [xs[i]] := by
  exact List.take_succ_eq_append_getElem h
theorem fill_set' {α : Type} (ys : List α) (i d : Nat) (z v : α) (h : ys.length = i) : (ys ++ List.replicate (d + 1) z).set i v = ys ++ [v] ++ List.replicate d z := by
  rw [List.set_append, if_neg (by omega), h, Nat.sub_self]
  simp [List.replicate_succ]
def tsum {α : Type} (f : α → Nat) : List α → Nat
  | [] => 0
  | x :: r => f x + tsum f r
theorem tsum_cons {α : Type} (f : α → Nat) (x : α) (r : List α) : tsum f (x :: r) = f x + tsum f r := rfl
theorem tsum_mem {α : Type} (f : α → Nat) {l : List α} {x : α} (h : x ∈ l) : f x ≤ tsum f l := by
  induction l with
  | nil => simp at h
  | cons y r ih =>
    rcases List.mem_cons.1 h with rfl | h
    · simp [tsum]
    · have := ih h; simp [tsum]; omega
end Go.Proofs.Ytjiipeidginjnaa.PB

namespace Go.Proofs.Ytjiipeidginjnaa.PIn
open Go.RowKit Go.Proofs.Ytjiipeidginjnaa.P Go.Proofs.YtjiipeidginjnaaW.PrintWords Go.Proofs.YtjiipeidginjnaaW.PrintLast Go.Proofs.Ytjiipeidginjnaa.PB
set_option linter.unusedVariables false

def inr (a lo hi : Int) : Bool := decide (lo ≤ a ∧ a ≤ hi)
theorem spec_in (a lo hi : Int) : spec_l1In.f a lo hi = some (inr a lo hi) := by
  unfold spec_l1In.f inr
  by_cases h : a ≥ lo
  · rw [if_pos h]; by_cases h2 : a ≤ hi <;> simp [h2] <;> omega
  · rw [if_neg h]; simp; omega
theorem impl_in (a lo hi : Int) : impl_within.f a lo hi = some (inr a lo hi) := by
  unfold impl_within.f inr
  by_cases h : a ≥ lo
  · rw [if_pos h]; by_cases h2 : a ≤ hi <;> simp [h2] <;> omega
  · rw [if_neg h]; simp; omega
end Go.Proofs.Ytjiipeidginjnaa.PIn

namespace Go.Proofs.Ytjiipeidginjnaa.PTerm
open Go.RowKit Go.Proofs.Ytjiipeidginjnaa.P Go.Proofs.YtjiipeidginjnaaW.PrintWords Go.Proofs.YtjiipeidginjnaaW.PrintLast Go.Proofs.Ytjiipeidginjnaa.PB Go.Proofs.Ytjiipeidginjnaa.PIn
set_option linter.unusedVariables false

theorem spec_var (t : Int) : spec_IsVar.f t = some (inr t 0 19) := by unfold spec_IsVar.f; rw [spec_in]; rfl
theorem impl_var (t : Int) : impl_IsVar.f t = some (inr t 0 19) := by unfold impl_IsVar.f; rw [impl_in]; rfl
theorem impl_term (t : Int) : impl_IsTerm.f t = some (inr t (-80) 19) := by unfold impl_IsTerm.f; rw [impl_in]; rfl
/-- The number of a constant, or -1. -/
def cst (t : Int) : Int := if inr t (-80) (-1) = true then -1 - t else -1
theorem spec_cst (t : Int) : spec_ConstOf.f t = some (cst t) := by
  unfold spec_ConstOf.f cst; rw [spec_in]; simp only [Option.bind_some]
  by_cases h : inr t (-80) (-1) = true
  · have h' : -80 ≤ t ∧ t ≤ -1 := by simpa [inr] using h
    rw [if_pos h, if_pos h, w64 (by omega) (by omega)]
  · rw [if_neg h, if_neg h]
theorem impl_cst (t : Int) : impl_ConstOf.f t = some (cst t) := by
  unfold impl_ConstOf.f cst; rw [impl_term, impl_var]; simp only [Option.bind_some]
  by_cases h : -80 ≤ t ∧ t ≤ 19
  · rw [if_pos (by simpa [inr] using h)]
    by_cases h2 : 0 ≤ t
    · rw [if_pos (by simp [inr]; omega), if_neg (by simp [inr]; omega)]
    · rw [if_neg (by simp [inr]; omega), if_pos (by simp [inr]; omega), w64 (by omega) (by omega)]
  · rw [if_neg (by simpa [inr] using h), if_neg (by simp [inr]; omega)]
theorem spec_term (t : Int) : spec_IsTerm.f t = some (inr t (-80) 19) := by
  unfold spec_IsTerm.f; rw [spec_var, spec_cst]; simp only [Option.bind_some]
  by_cases h2 : 0 ≤ t ∧ t ≤ 19
  · rw [if_pos (by simpa [inr] using h2)]; congr 1; unfold inr; symm; rw [decide_eq_true_eq]; omega
  · rw [if_neg (by simpa [inr] using h2)]
    by_cases h : -80 ≤ t ∧ t ≤ -1
    · have e : cst t = -1 - t := by rw [cst, if_pos (by simpa [inr] using h)]
      rw [e]; congr 1; unfold inr; rw [decide_eq_decide]; omega
    · have e : cst t = -1 := by rw [cst, if_neg (by simpa [inr] using h)]
      rw [e]; congr 1; unfold inr; rw [decide_eq_decide]; omega
end Go.Proofs.Ytjiipeidginjnaa.PTerm

namespace Go.Proofs.Ytjiipeidginjnaa.PFits
open Go.RowKit Go.Proofs.Ytjiipeidginjnaa.P Go.Proofs.YtjiipeidginjnaaW.PrintWords Go.Proofs.YtjiipeidginjnaaW.PrintLast Go.Proofs.Ytjiipeidginjnaa.PB Go.Proofs.Ytjiipeidginjnaa.PIn Go.Proofs.Ytjiipeidginjnaa.PTerm
set_option linter.unusedVariables false

/-- A term that can't become a value. -/
def bad (t f : Int) : Bool := if inr t 0 19 = true then false else if inr t (-80) 19 = true then (-1 - t != f) else true
/-- An equal term ahead of place i that would become another value. -/
def cfr (aa fa : List Int) (i : Nat) : Nat → Nat → Bool
  | _, 0 => false
  | j, d + 1 => if aa.getD j 0 = aa.getD i 0 then (if fa.getD j 0 = fa.getD i 0 then cfr aa fa i (j + 1) d else true) else cfr aa fa i (j + 1) d
def scan (aa fa : List Int) : Nat → Nat → Bool
  | _, 0 => true
  | i, d + 1 => if bad (aa.getD i 0) (fa.getD i 0) = true then false else if cfr aa fa i 0 i = true then false else scan aa fa (i + 1) d
def fits (ar : Int) (aa : List Int) (fr : Int) (fa : List Int) : Bool := if ar = fr then (if aa.length = fa.length then scan aa fa 0 aa.length else false) else false
theorem rd_d (xs : List Int) (i : Nat) : rd xs (i : Int) = xs.getD i 0 := by unfold rd; simp

theorem spec_inner (ar fr : Int) (aa fa : List Int) (hl : aa.length = fa.length) (hb : aa.length ≤ 1048576) (i : Nat) (hi : i < aa.length) (r : Bool) (hn : Ev (fun k => spec_l19Fits.l0 k ((i + 1 : Nat) : Int) ar aa fr fa) r) :
    ∀ (d j : Nat), j + d = i → Ev (fun k => spec_l19Fits.l1 k (i : Int) (j : Int) ar aa fr fa) (if cfr aa fa i j d = true then false else r) := by
  intro d
  induction d with
  | zero =>
    intro j hj
    refine Ev.step (fun k => by rw [spec_l19Fits.l1]) (Ev.neg (by omega) ?_)
    rw [inc (by omega)]; simpa [cfr] using hn
  | succ d ih =>
    intro j hj
    refine Ev.step (fun k => by rw [spec_l19Fits.l1]) (Ev.pos (by omega) (Ev.pos (by omega) (Ev.pos (by omega) (Ev.pos (by omega) (Ev.pos (by omega) ?_)))))
    rw [rd_d, rd_d, rd_d, rd_d, inc (by omega), cfr]
    by_cases h : aa.getD j 0 = aa.getD i 0
    · refine Ev.pos h (Ev.pos (by omega) (Ev.pos (by omega) ?_))
      rw [if_pos h]
      by_cases h2 : fa.getD j 0 = fa.getD i 0
      · rw [if_pos h2]; exact Ev.pos h2 (ih (j + 1) (by omega))
      · rw [if_neg h2]; exact Ev.neg h2 (Ev.const (by simp))
    · rw [if_neg h]; exact Ev.neg h (ih (j + 1) (by omega))
theorem spec_outer (ar fr : Int) (aa fa : List Int) (hl : aa.length = fa.length) (hb : aa.length ≤ 1048576) (ha : ∀ x ∈ aa, (Lit.int .i64 x).wf = true) : ∀ (d i : Nat), i + d = aa.length → Ev (fun k => spec_l19Fits.l0 k (i : Int) ar aa fr fa) (scan aa fa i d) := by
  intro d
  induction d with
  | zero =>
    intro i hi
    show Ev _ true
    exact Ev.step (fun k => by rw [spec_l19Fits.l0]) (Ev.neg (by omega) (Ev.const rfl))
  | succ d ih =>
    intro i hi
    refine Ev.step (fun k => by rw [spec_l19Fits.l0]) (Ev.pos (by omega) (Ev.pos (by omega) ?_))
    rw [rd_d, rd_d, scan]
    have hin := spec_inner ar fr aa fa hl hb i (by omega) _ (ih (i + 1) (by omega)) i 0 (by omega)
    refine Ev.bindc (spec_var _) ?_
    by_cases h1 : inr (aa.getD i 0) 0 19 = true
    · refine Ev.pos h1 (Ev.step (fun k => by rw [spec_l19Fits.j2]) (Ev.neg (by simp) ?_))
      rw [if_neg (by rw [bad, if_pos h1]; decide)]; exact hin
    · refine Ev.neg h1 (Ev.bindc (spec_term _) ?_)
      by_cases h2 : inr (aa.getD i 0) (-80) 19 = true
      · have h2' : -80 ≤ aa.getD i 0 ∧ aa.getD i 0 ≤ 19 := by simpa only [inr, decide_eq_true_eq] using h2
        refine Ev.pos h2 (Ev.pos (by omega) (Ev.step (fun k => by rw [spec_l19Fits.j2]) ?_))
        rw [w64 (by omega) (by omega)]
        have e : bad (aa.getD i 0) (fa.getD i 0) = (-1 - aa.getD i 0 != fa.getD i 0) := by rw [bad, if_neg h1, if_pos h2]
        rw [e]
        by_cases h3 : (-1 - aa.getD i 0 != fa.getD i 0) = true
        · rw [if_pos h3]; exact Ev.pos h3 (Ev.const rfl)
        · rw [if_neg h3]; exact Ev.neg h3 hin
      · refine Ev.neg h2 (Ev.step (fun k => by rw [spec_l19Fits.j2]) (Ev.pos rfl (Ev.const ?_)))
        rw [if_pos (by rw [bad, if_neg h1, if_neg h2])]
theorem spec_fits (ar fr : Int) (aa fa : List Int) (hb : aa.length ≤ 1048576) (ha : ∀ x ∈ aa, (Lit.int .i64 x).wf = true) : Ev (fun k => spec_l19Fits.f k ar aa fr fa) (fits ar aa fr fa) := by
  unfold spec_l19Fits.f fits
  by_cases h : ar = fr
  · rw [if_pos h]; refine Ev.pos h (Ev.step (fun k => by rw [spec_l19Fits.j0]) ?_)
    by_cases h2 : aa.length = fa.length
    · rw [if_pos h2]; refine Ev.neg (by simp; omega) ?_
      exact spec_outer ar fr aa fa h2 hb ha aa.length 0 (by omega)
    · rw [if_neg h2]; exact Ev.pos (by simp; omega) (Ev.const rfl)
  · rw [if_neg h]; exact Ev.neg h (Ev.step (fun k => by rw [spec_l19Fits.j0]) (Ev.pos rfl (Ev.const rfl)))

theorem impl_inner (ar fr : Int) (aa fa : List Int) (hl : aa.length = fa.length) (hb : aa.length ≤ 1048576) (i : Nat) (hi : i < aa.length) (r : Bool) (hn : Ev (fun k => impl_canBe.l0 k aa (aa.length : Int) ((i + 1 : Nat) : Int) ar aa fr fa) r) :
    ∀ (d j : Nat), j + d = i → Ev (fun k => impl_canBe.l1 k (i : Int) (aa.getD i 0) aa (aa.length : Int) (i : Int) (aa.take i) (i : Int) (j : Int) ar aa fr fa) (if cfr aa fa i j d = true then false else r) := by
  have tl : (aa.take i).length = i := by simp; omega
  intro d
  induction d with
  | zero =>
    intro j hj
    refine Ev.step (fun k => by rw [impl_canBe.l1]) (Ev.neg (by omega) ?_)
    rw [inc (by omega)]; simpa [cfr] using hn
  | succ d ih =>
    intro j hj
    have e : rd (aa.take i) (j : Int) = aa.getD j 0 := by
      rw [rd_d, List.getD_eq_getElem?_getD, List.getElem?_take_of_lt (by omega), ← List.getD_eq_getElem?_getD]
    refine Ev.step (fun k => by rw [impl_canBe.l1]) (Ev.pos (by omega) (Ev.pos (by omega) (Ev.pos (by omega) ?_)))
    rw [e, rd_d, rd_d, inc (by omega), cfr]
    by_cases h : aa.getD j 0 = aa.getD i 0
    · refine Ev.pos h.symm (Ev.pos (by omega) (Ev.pos (by omega) (Ev.pos (by omega) ?_)))
      rw [if_pos h]
      by_cases h2 : fa.getD j 0 = fa.getD i 0
      · rw [if_pos h2]; exact Ev.pos h2.symm (ih (j + 1) (by omega))
      · rw [if_neg h2]; exact Ev.neg (fun h => h2 h.symm) (Ev.const (by simp))
    · rw [if_neg h]; exact Ev.neg (fun h' => h h'.symm) (ih (j + 1) (by omega))
theorem impl_outer (ar fr : Int) (aa fa : List Int) (hl : aa.length = fa.length) (hb : aa.length ≤ 1048576) : ∀ (d i : Nat), i + d = aa.length → Ev (fun k => impl_canBe.l0 k aa (aa.length : Int) (i : Int) ar aa fr fa) (scan aa fa i d) := by
  intro d
  induction d with
  | zero =>
    intro i hi
    show Ev _ true
    exact Ev.step (fun k => by rw [impl_canBe.l0]) (Ev.neg (by omega) (Ev.const rfl))
  | succ d ih =>
    intro i hi
    refine Ev.step (fun k => by rw [impl_canBe.l0]) (Ev.pos (by omega) (Ev.pos (by omega) (Ev.pos (by omega) ?_)))
    rw [rd_d, rd_d, scan]
    have tl : (aa.take i).length = i := by simp; omega
    have e0 : ((i : Int)).toNat = i := by omega
    have hin := impl_inner ar fr aa fa hl hb i (by omega) _ (ih (i + 1) (by omega)) i 0 (by omega)
    have key : ∀ b : Bool, bad (aa.getD i 0) (fa.getD i 0) = b → Ev (fun k => impl_canBe.j2 k (i : Int) (aa.getD i 0) aa (aa.length : Int) (i : Int) b ar aa fr fa) (if bad (aa.getD i 0) (fa.getD i 0) = true then false else if cfr aa fa i 0 i = true then false else scan aa fa (i + 1) d) := by
      intro b hb'
      rw [hb']
      refine Ev.step (fun k => by rw [impl_canBe.j2]) ?_
      cases b with
      | true => exact Ev.pos rfl (Ev.const rfl)
      | false =>
        refine Ev.neg (by simp) (Ev.pos (by omega) (Ev.pos (by omega) ?_))
        rw [e0, tl, if_neg (by simp)]; exact hin
    refine Ev.bindc (impl_var _) ?_
    by_cases h1 : inr (aa.getD i 0) 0 19 = true
    · exact Ev.pos h1 (key false (by rw [bad, if_pos h1]))
    · refine Ev.neg h1 (Ev.bindc (impl_cst _) ?_)
      have h1' : ¬ (0 ≤ aa.getD i 0 ∧ aa.getD i 0 ≤ 19) := by simpa only [inr, decide_eq_true_eq] using h1
      by_cases h2 : -80 ≤ aa.getD i 0 ∧ aa.getD i 0 ≤ -1
      · have e : cst (aa.getD i 0) = -1 - aa.getD i 0 := by rw [cst, if_pos (by simpa only [inr, decide_eq_true_eq] using h2)]
        rw [e]
        refine Ev.neg (by omega) (Ev.bindc (impl_cst _) (Ev.pos (by omega) ?_))
        rw [e]
        exact key _ (by rw [bad, if_neg h1, if_pos (by simp only [inr, decide_eq_true_eq]; omega)])
      · have e : cst (aa.getD i 0) = -1 := by rw [cst, if_neg (by simpa only [inr, decide_eq_true_eq] using h2)]
        rw [e]
        exact Ev.pos (by omega) (key true (by rw [bad, if_neg h1, if_neg (by simp only [inr, decide_eq_true_eq]; omega)]))
theorem impl_fits (ar fr : Int) (aa fa : List Int) (hb : aa.length ≤ 1048576) : Ev (fun k => impl_canBe.f k ar aa fr fa) (fits ar aa fr fa) := by
  unfold impl_canBe.f fits
  by_cases h : ar = fr
  · rw [if_pos h]; refine Ev.pos h (Ev.step (fun k => by rw [impl_canBe.j0]) ?_)
    by_cases h2 : aa.length = fa.length
    · rw [if_pos h2]; refine Ev.neg (by simp; omega) ?_
      exact impl_outer ar fr aa fa h2 hb aa.length 0 (by omega)
    · rw [if_neg h2]; exact Ev.pos (by simp; omega) (Ev.const rfl)
  · rw [if_neg h]; exact Ev.neg h (Ev.step (fun k => by rw [impl_canBe.j0]) (Ev.pos rfl (Ev.const rfl)))
def may (body : List S153) (fr : Int) (fa : List Int) : Bool := body.any fun a => fits a.f0 a.f1 fr fa
theorem rdT (l : List S153) (i : Nat) (h : i < l.length) : rd_T153 l (i : Int) = l[i] := by rw [rd_T153]; exact getD_nat _ _ _ h
theorem spec_may (head : List Int) (body : List S153) (fr : Int) (fa : List Int) (hb : body.length ≤ 1048576) (ha : ∀ a ∈ body, a.f1.length ≤ 1048576 ∧ ∀ x ∈ a.f1, (Lit.int .i64 x).wf = true) :
    Ev (fun k => spec_MayAffect.f k head body fr fa) (may body fr fa) := by
  have loop : ∀ (d i : Nat), i + d = body.length → Ev (fun k => spec_MayAffect.l0 k (i : Int) head body fr fa) (may (body.drop i) fr fa) := by
    intro d
    induction d with
    | zero =>
      intro i hi
      obtain rfl : i = body.length := by omega
      exact Ev.step (fun k => by rw [spec_MayAffect.l0]) (Ev.neg (by omega) (Ev.const (by simp [may])))
    | succ d ih =>
      intro i hi
      have hlt : i < body.length := by omega
      have hx := ha _ (List.getElem_mem hlt)
      refine Ev.step (fun k => by rw [spec_MayAffect.l0]) (Ev.pos (by omega) (Ev.pos (by omega) ?_))
      rw [rdT _ _ hlt, inc (by omega), drop_cons hlt]
      refine Ev.bind (spec_fits _ fr _ fa hx.1 hx.2) ?_
      by_cases h : fits (body[i]).f0 (body[i]).f1 fr fa = true
      · exact Ev.pos h (Ev.const (by simp [may, h, -List.getElem_cons_drop]))
      · exact Ev.neg h (Ev.eq (ih (i + 1) (by omega)) rfl (by simp [may, h, -List.getElem_cons_drop]))
  exact Ev.eq (loop body.length 0 (by omega)) (by funext k; rw [spec_MayAffect.f]; rfl) (by simp)
theorem impl_may (head : List Int) (body : List S153) (fr : Int) (fa : List Int) (hb : body.length ≤ 1048576) (ha : ∀ a ∈ body, a.f1.length ≤ 1048576) :
    Ev (fun k => impl_MayAffect.f k head body fr fa) (may body fr fa) := by
  have loop : ∀ (d i : Nat), i + d = body.length → Ev (fun k => impl_MayAffect.l0 k body (body.length : Int) (i : Int) fr fa) (may (body.drop i) fr fa) := by
    intro d
    induction d with
    | zero =>
      intro i hi
      obtain rfl : i = body.length := by omega
      exact Ev.step (fun k => by rw [impl_MayAffect.l0]) (Ev.neg (by omega) (Ev.const (by simp [may])))
    | succ d ih =>
      intro i hi
      have hlt : i < body.length := by omega
      have hx := ha _ (List.getElem_mem hlt)
      refine Ev.step (fun k => by rw [impl_MayAffect.l0]) (Ev.pos (by omega) (Ev.pos (by omega) (Ev.pos (by omega) ?_)))
      rw [rdT _ _ hlt, inc (by omega), drop_cons hlt]
      refine Ev.bind (impl_fits _ fr _ fa hx) ?_
      by_cases h : fits (body[i]).f0 (body[i]).f1 fr fa = true
      · exact Ev.pos h (Ev.const (by simp [may, h, -List.getElem_cons_drop]))
      · exact Ev.neg h (Ev.eq (ih (i + 1) (by omega)) rfl (by simp [may, h, -List.getElem_cons_drop]))
  exact Ev.eq (loop body.length 0 (by omega)) (by funext k; rw [impl_MayAffect.f]; rfl) (by simp)
end Go.Proofs.Ytjiipeidginjnaa.PFits

namespace Go.Proofs.Ytjiipeidginjnaa.PAff
open Go.RowKit Go.Proofs.Ytjiipeidginjnaa.P Go.Proofs.YtjiipeidginjnaaW.PrintWords Go.Proofs.YtjiipeidginjnaaW.PrintLast Go.Proofs.Ytjiipeidginjnaa.PB Go.Proofs.Ytjiipeidginjnaa.PFits
set_option linter.unusedVariables false
def avs (rel : Int) (args : List Int) : Nat → List S72 → List Int
  | _, [] => []
  | i, v :: vs => if may v.f1 rel args = true then (i : Int) :: avs rel args (i + 1) vs else avs rel args (i + 1) vs
theorem avs_len (rel : Int) (args : List Int) : ∀ (vs : List S72) (i : Nat), (avs rel args i vs).length ≤ vs.length := by
  intro vs
  induction vs with
  | nil => intro i; simp [avs]
  | cons v vs ih => intro i; have := ih (i + 1); rw [avs]; split <;> simp only [List.length_cons] <;> omega
theorem rdQa (l : List S72) (i : Nat) (h : i < l.length) : rd_T72 l (i : Int) = l[i] := by rw [rd_T72]; exact getD_nat _ _ _ h
def okV (v : S72) : Prop := v.f1.length ≤ 1048576 ∧ ∀ a ∈ v.f1, a.f1.length ≤ 1048576 ∧ ∀ x ∈ a.f1, (Lit.int .i64 x).wf = true
theorem spec_aff (vs : List S72) (ts : List (List (List Int))) (n rel : Int) (args : List Int) (hv : vs.length ≤ 1048576) (hq : ∀ v ∈ vs, okV v) : Ev (fun k => spec_AffectedViews.f k vs ts n rel args) (avs rel args 0 vs) := by
  have loop : ∀ (d i : Nat) (acc : List Int), i + d = vs.length → acc.length ≤ i → Ev (fun k => spec_AffectedViews.l0 k acc (i : Int) vs ts n rel args) (acc ++ avs rel args i (vs.drop i)) := by
    intro d
    induction d with
    | zero =>
      intro i acc hi ha
      rw [List.drop_of_length_le (by omega), avs, List.append_nil]
      exact Ev.step (fun k => by rw [spec_AffectedViews.l0]) (Ev.neg (by omega) (Ev.const rfl))
    | succ d ih =>
      intro i acc hi ha
      have hlt : i < vs.length := by omega
      have hQ := hq _ (List.getElem_mem hlt)
      refine Ev.step (fun k => by rw [spec_AffectedViews.l0]) (Ev.pos (by omega) (Ev.pos (by omega) ?_))
      rw [rdQa _ _ hlt, inc (by omega)]
      refine Ev.bind (spec_may _ _ rel args hQ.1 hQ.2) ?_
      rw [drop_cons hlt, avs]
      by_cases h : may vs[i].f1 rel args = true
      · simp only [if_pos h]
        refine Ev.pos (by omega) ?_
        exact Ev.eq (ih (i + 1) (acc ++ [(i : Int)]) (by omega) (by simp; omega)) rfl (by rw [List.append_assoc]; rfl)
      · simp only [if_neg h]
        skip
        exact ih (i + 1) acc (by omega) (by omega)
  have h0 : Ev (fun k => spec_AffectedViews.l0 k [] 0 vs ts n rel args) ([] ++ avs rel args 0 (vs.drop 0)) := loop vs.length 0 [] (by omega) (by simp)
  exact h0
theorem impl_aff (vs : List S72) (ts : List (List (List Int))) (n rel : Int) (args : List Int) (hv : vs.length ≤ 1048576) (hq : ∀ v ∈ vs, okV v) : Ev (fun k => impl_AffectedViews.f k vs ts n rel args) (avs rel args 0 vs) := by
  have loop : ∀ (d i : Nat) (acc : List Int), i + d = vs.length → acc.length ≤ i → Ev (fun k => impl_AffectedViews.l0 k acc vs (vs.length : Int) (i : Int) rel args) (acc ++ avs rel args i (vs.drop i)) := by
    intro d
    induction d with
    | zero =>
      intro i acc hi ha
      rw [List.drop_of_length_le (by omega), avs, List.append_nil]
      exact Ev.step (fun k => by rw [impl_AffectedViews.l0]) (Ev.neg (by omega) (Ev.const rfl))
    | succ d ih =>
      intro i acc hi ha
      have hlt : i < vs.length := by omega
      have hQ := hq _ (List.getElem_mem hlt)
      refine Ev.step (fun k => by rw [impl_AffectedViews.l0]) (Ev.pos (by omega) (Ev.pos (by omega) (Ev.pos (by omega) ?_)))
      rw [rdQa _ _ hlt, inc (by omega)]
      refine Ev.bind (impl_may _ _ rel args hQ.1 (fun a ha => (hQ.2 a ha).1)) ?_
      rw [drop_cons hlt, avs]
      by_cases h : may vs[i].f1 rel args = true
      · simp only [if_pos h]
        refine Ev.pos (by omega) ?_
        exact Ev.eq (ih (i + 1) (acc ++ [(i : Int)]) (by omega) (by simp; omega)) rfl (by rw [List.append_assoc]; rfl)
      · simp only [if_neg h]
        skip
        exact ih (i + 1) acc (by omega) (by omega)
  have h0 : Ev (fun k => impl_AffectedViews.l0 k [] vs (vs.length : Int) 0 rel args) ([] ++ avs rel args 0 (vs.drop 0)) := loop vs.length 0 [] (by omega) (by simp)
  exact h0
end Go.Proofs.Ytjiipeidginjnaa.PAff

namespace Go.Proofs.Ytjiipeidginjnaa.PMark
open Go.RowKit Go.Proofs.Ytjiipeidginjnaa.P Go.Proofs.YtjiipeidginjnaaW.PrintWords Go.Proofs.YtjiipeidginjnaaW.PrintLast Go.Proofs.Ytjiipeidginjnaa.PB
set_option linter.unusedVariables false
/-- The marked row. -/
def ml (a : Int) (l : List Int) : List Int := (List.range l.length).map fun j => a + ((j : Nat) : Int)
theorem ml_len (a : Int) (l : List Int) : (ml a l).length = l.length := by simp [ml]
theorem ml_at (a : Int) (l : List Int) (i : Nat) (h : i < (ml a l).length) : (ml a l)[i] = a + (i : Int) := by simp [ml]
theorem ml_step (a : Int) (l : List Int) (i : Nat) (h : i < l.length) : ((ml a l).take i ++ l.drop i).set i (a + (i : Int)) = (ml a l).take (i + 1) ++ l.drop (i + 1) := by
  have h' : i < (ml a l).length := by rw [ml_len]; exact h
  have e : ((ml a l).take i).length = i := by rw [List.length_take, ml_len]; omega
  rw [List.set_append_right _ _ (by omega), e, Nat.sub_self, List.drop_eq_getElem_cons h, List.set_cons_zero, take_snoc h', ml_at, List.append_assoc]; rfl
theorem mark_loop (a : Int) (l : List Int) (h0 : 0 ≤ a) (h1 : a + l.length ≤ 4611686018427387000) : ∀ (d i : Nat), i + d = l.length →
    Ev (fun k => laws_markIntS.l0 k ((ml a l).take i ++ l.drop i) (a + (i : Int)) (i : Int)) (a + l.length, ml a l) := by
  intro d
  induction d with
  | zero =>
    intro i hi
    obtain rfl : i = l.length := by omega
    have e : (ml a l).take l.length ++ l.drop l.length = ml a l := by rw [List.drop_length, List.append_nil, List.take_of_length_le (by rw [ml_len]; exact Nat.le_refl _)]
    rw [e]
    have := ml_len a l
    exact Ev.step (fun k => by rw [laws_markIntS.l0]) (Ev.neg (by omega) (Ev.const rfl))
  | succ d ih =>
    intro i hi
    have hlt : i < l.length := by omega
    have hl : ((ml a l).take i ++ l.drop i).length = l.length := by rw [List.length_append, List.length_take, ml_len, List.length_drop]; omega
    refine Ev.step (fun k => by rw [laws_markIntS.l0]) ?_
    refine Ev.pos (by omega) (Ev.pos (by omega) ?_)
    rw [inc (by omega), w64 (by omega) (by omega), Int.toNat_natCast, ml_step a l i hlt]
    exact Ev.eq (ih (i + 1) (by omega)) (by funext k; congr 1; omega) rfl
theorem mark_ev (a : Int) (l : List Int) (h0 : 0 ≤ a) (h1 : a + l.length ≤ 4611686018427387000) : Ev (fun k => laws_markIntS.f k l a) (a + l.length, ml a l) := by
  have h := mark_loop a l h0 h1 l.length 0 (by omega)
  refine Ev.eq h ?_ rfl
  funext k
  rw [laws_markIntS.f, List.take_zero, List.drop_zero, List.nil_append]
  congr 1; omega
theorem held_ev (a : Int) (l : List Int) (h0 : 0 ≤ a) (h1 : a + l.length ≤ 4611686018427387000) : Ev (fun k => laws_heldIntS.f k (ml a l) a) (a + l.length) := by
  have loop : ∀ (d i : Nat), i + d = l.length → Ev (fun k => laws_heldIntS.l0 k (ml a l) (a + (i : Int)) (i : Int)) (a + l.length) := by
    intro d
    induction d with
    | zero =>
      intro i hi
      obtain rfl : i = l.length := by omega
      have := ml_len a l
      exact Ev.step (fun k => by rw [laws_heldIntS.l0]) (Ev.neg (by omega) (Ev.const rfl))
    | succ d ih =>
      intro i hi
      have hlt : i < (ml a l).length := by rw [ml_len]; omega
      have hm := ml_len a l
      refine Ev.step (fun k => by rw [laws_heldIntS.l0]) ?_
      refine Ev.pos (by omega) (Ev.pos (by omega) ?_)
      rw [rd_nat _ _ hlt, ml_at]
      refine Ev.pos rfl ?_
      rw [inc (by omega), w64 (by omega) (by omega)]
      exact Ev.eq (ih (i + 1) (by omega)) (by funext k; congr 1; omega) rfl
  refine Ev.eq (loop l.length 0 (by omega)) ?_ rfl
  funext k
  rw [laws_heldIntS.f]
  congr 1; omega
end Go.Proofs.Ytjiipeidginjnaa.PMark

namespace Go.Proofs.Ytjiipeidginjnaa.PSum
open Go.RowKit Go.Proofs.Ytjiipeidginjnaa.Lay Go.Proofs.Ytjiipeidginjnaa.PB
theorem sum_le {α β : Type} {f : β → Nat} {c : α → β} {n : α → Nat} (m : Nat) (h : ∀ x, f (c x) ≤ m + n x) : ∀ l : List α, sumOf f (l.map c) ≤ m * l.length + tsum n l
  | [] => Nat.zero_le _
  | x :: r => by
    have h1 := sum_le m h r
    have h2 := h x
    have e : m * (r.length + 1) = m * r.length + m := Nat.mul_succ m r.length
    rw [List.map_cons, sumOf, tsum_cons, List.length_cons, e]
    omega
theorem sum_one (l : List Int) : sumOf (fun _ : Int => 1) l = l.length := by
  induction l with
  | nil => rfl
  | cons x r ih => rw [sumOf, ih, List.length_cons]; omega
end Go.Proofs.Ytjiipeidginjnaa.PSum

namespace Go.Proofs.Ytjiipeidginjnaa.PLaw
open Go.RowKit Go.Proofs.Ytjiipeidginjnaa.P Go.Proofs.YtjiipeidginjnaaW.PrintWords Go.Proofs.YtjiipeidginjnaaW.PrintLast Go.Proofs.Ytjiipeidginjnaa.PB
set_option linter.unusedVariables false

def qIntS (l : List Int) : Prop := l.length ≤ 9223372036854775807 ∧ ∀ x ∈ l, (Lit.int .i64 x).wf = true
def nIntS (l : List Int) : Nat := l.length
def cIntS (l : List Int) : List Int := l
theorem szIntS (l : List Int) (a : Int) (h0 : 0 ≤ a) (h1 : a ≤ 1048576) (hl : qIntS l) : Ev (fun k => laws_szIntS.f l a) (if a < nIntS l then -1 else a - nIntS l) := by
  have hl1 := hl.1
  refine Ev.const ?_
  unfold laws_szIntS.f nIntS
  rw [w64 (by omega) (by omega)]
  by_cases h : a < l.length
  · rw [if_pos (by omega), if_pos h]
  · rw [if_neg (by omega), if_neg h]
theorem toIntS_loop (l : List Int) (hn : nIntS l ≤ 1048576) : ∀ (d i : Nat), i + d = l.length → Ev (fun k => laws_toIntS.l0 k l (cIntS (l.take i) ++ List.replicate d 0) (i : Int)) (cIntS l) := by
  have hlen : l.length ≤ 1048576 := by unfold nIntS at hn; omega
  intro d
  induction d with
  | zero =>
    intro i hi
    obtain rfl : i = l.length := by omega
    refine Ev.step (fun k => by rw [laws_toIntS.l0]) (Ev.neg (by omega) (Ev.const ?_))
    simp
  | succ d ih =>
    intro i hi
    have hlt : i < l.length := by omega
    refine Ev.step (fun k => by rw [laws_toIntS.l0]) (Ev.pos (by omega) (Ev.pos (by omega) ?_))
    rw [rd_nat _ _ hlt, inc (by omega)]
    refine Ev.pos (by simp [cIntS]; omega) ?_
    refine Ev.eq (ih (i + 1) (by omega)) ?_ rfl
    funext k
    have e : ((i : Int)).toNat = i := by omega
    have el : (cIntS (l.take i)).length = i := by simp [cIntS]; omega
    rw [e, fill_set' _ _ _ _ _ el, take_snoc hlt]
    try rfl
theorem toIntS (l : List Int) (hn : nIntS l ≤ 1048576) : Ev (fun k => laws_toIntS.f k l) (cIntS l) := by
  have h := toIntS_loop l hn l.length 0 (by omega)
  have hlen : l.length ≤ 1048576 := by unfold nIntS at hn; omega
  refine Ev.eq (Ev.pos (c := 0 ≤ (l.length : Int)) (g := fun _ => none) (by omega) (Ev.pos (c := ((l.length : Int) : Int).toNat ≤ 35184372088832) (g := fun _ => none) (by omega) h)) ?_ rfl
  funext k
  rw [laws_toIntS.f]; simp [cIntS]
theorem eqIntS_loop (l : List Int) (hl : l.length ≤ 4611686018427387000) : ∀ (d i : Nat), i + d = l.length → Ev (fun k => laws_eqIntS.l0 k l l (i : Int)) true := by
  intro d
  induction d with
  | zero =>
    intro i hi
    exact Ev.step (fun k => by rw [laws_eqIntS.l0]) (Ev.neg (by omega) (Ev.const rfl))
  | succ d ih =>
    intro i hi
    have hlt : i < l.length := by omega
    refine Ev.step (fun k => by rw [laws_eqIntS.l0]) (Ev.pos (by omega) (Ev.pos (by omega) (Ev.pos (by omega) (Ev.pos rfl ?_))))
    rw [inc (by omega)]
    exact ih (i + 1) (by omega)
theorem eqIntS (l : List Int) (hm : l.length ≤ 4611686018427387000) : Ev (fun k => laws_eqIntS.f k l l) true :=
  Ev.eq (Ev.pos (c := (l.length : Int) = l.length) (g := fun _ => some false) rfl (eqIntS_loop l hm l.length 0 (by omega))) (by funext k; rw [laws_eqIntS.f]; rfl) rfl
theorem mcIntS {l : List Int} (hn : nIntS l ≤ 1048576) : (cIntS l).length ≤ 4611686018427387000 := by unfold nIntS at hn; show l.length ≤ _; omega
end Go.Proofs.Ytjiipeidginjnaa.PLaw

namespace Go.Proofs.Ytjiipeidginjnaa.PLaw
open Go.RowKit Go.Proofs.Ytjiipeidginjnaa.P Go.Proofs.YtjiipeidginjnaaW.PrintWords Go.Proofs.YtjiipeidginjnaaW.PrintLast Go.Proofs.Ytjiipeidginjnaa.PB
set_option linter.unusedVariables false

def qIntSS (l : List (List Int)) : Prop := l.length ≤ 9223372036854775807 ∧ ∀ x ∈ l, qIntS x
def nIntSS (l : List (List Int)) : Nat := l.length + tsum nIntS l
def cIntSS (l : List (List Int)) : List (List Int) := l.map cIntS
def mIntSS (l : List (List Int)) : Prop := l.length ≤ 4611686018427387000 ∧ ∀ x ∈ l, x.length ≤ 4611686018427387000
theorem szIntSS_loop (l : List (List Int)) (hl : l.length ≤ 1048576) (hb : ∀ x ∈ l, qIntS x) : ∀ (d i : Nat) (a : Int), i + d = l.length → 0 ≤ a → a ≤ 1048576 →
    Ev (fun k => laws_szIntSS.l0 k l a (i : Int)) (if a < tsum nIntS (l.drop i) then -1 else a - tsum nIntS (l.drop i)) := by
  intro d
  induction d with
  | zero =>
    intro i a hi h0 h1
    obtain rfl : i = l.length := by omega
    refine Ev.step (fun k => by rw [laws_szIntSS.l0]) (Ev.neg (by omega) (Ev.const ?_))
    simp [tsum]; omega
  | succ d ih =>
    intro i a hi h0 h1
    have hlt : i < l.length := by omega
    rw [drop_cons hlt, tsum_cons]
    refine Ev.step (fun k => by rw [laws_szIntSS.l0]) (Ev.pos (by omega) (Ev.pos (by omega) ?_))
    have e : rd_L1 l (i : Int) = l[i] := by rw [rd_L1]; exact getD_nat _ _ _ hlt
    rw [e, inc (by omega)]
    refine Ev.bind (szIntS l[i] a h0 h1 (hb _ (List.getElem_mem hlt))) ?_
    by_cases h : a < nIntS l[i]
    · rw [if_pos (by first | exact h | (simp only [nIntS] at h; omega))]
      refine Ev.pos (by omega) (Ev.const ?_)
      rw [if_pos (by omega)]
    · rw [if_neg (by first | exact h | (simp only [nIntS] at h; omega))]
      refine Ev.neg (by first | omega | (simp only [nIntS] at h; omega)) (Ev.eq (ih (i + 1) _ (by omega) (by first | omega | (simp only [nIntS] at h; omega)) (by omega)) rfl ?_)
      by_cases h2 : a - nIntS l[i] < tsum nIntS (l.drop (i + 1))
      · rw [if_pos (by first | exact h2 | (simp only [nIntS] at h2 ⊢; omega)), if_pos (by omega)]
      · rw [if_neg (by first | exact h2 | (simp only [nIntS] at h2 ⊢; omega)), if_neg (by omega)]; first | omega | (simp only [nIntS]; omega)
theorem szIntSS (l : List (List Int)) (a : Int) (h0 : 0 ≤ a) (h1 : a ≤ 1048576) (hq : qIntSS l) : Ev (fun k => laws_szIntSS.f k l a) (if a < nIntSS l then -1 else a - nIntSS l) := by
  have hl1 := hq.1
  have hw : wrap64 (a - (l.length : Int)) = a - l.length := w64 (by omega) (by omega)
  unfold nIntSS
  by_cases h : a < l.length
  · refine Ev.eq (Ev.const (r := -1) rfl) ?_ (by rw [if_pos (by omega)])
    funext k
    rw [laws_szIntSS.f, hw, if_pos (by omega)]
  · refine Ev.eq (szIntSS_loop l (by omega) hq.2 l.length 0 (a - l.length) (by omega) (by omega) (by omega)) ?_ ?_
    · funext k
      rw [laws_szIntSS.f, hw, if_neg (by omega)]; rfl
    · rw [List.drop_zero]
      by_cases h2 : a - l.length < tsum nIntS l
      · rw [if_pos h2, if_pos (by omega)]
      · rw [if_neg h2, if_neg (by omega)]; omega
theorem toIntSS_loop (l : List (List Int)) (hn : nIntSS l ≤ 1048576) : ∀ (d i : Nat), i + d = l.length → Ev (fun k => laws_toIntSS.l0 k l (cIntSS (l.take i) ++ List.replicate d []) (i : Int)) (cIntSS l) := by
  have hlen : l.length ≤ 1048576 := by unfold nIntSS at hn; omega
  intro d
  induction d with
  | zero =>
    intro i hi
    obtain rfl : i = l.length := by omega
    refine Ev.step (fun k => by rw [laws_toIntSS.l0]) (Ev.neg (by omega) (Ev.const ?_))
    simp
  | succ d ih =>
    intro i hi
    have hlt : i < l.length := by omega
    refine Ev.step (fun k => by rw [laws_toIntSS.l0]) (Ev.pos (by omega) (Ev.pos (by omega) ?_))
    have e : rd_L1 l (i : Int) = l[i] := by rw [rd_L1]; exact getD_nat _ _ _ hlt
    rw [e, inc (by omega)]
    have hx : nIntS l[i] ≤ 1048576 := by have := tsum_mem nIntS (List.getElem_mem hlt); unfold nIntSS at hn; omega
    refine Ev.bind (toIntS l[i] hx) (Ev.pos (by simp [cIntSS]; omega) ?_)
    refine Ev.eq (ih (i + 1) (by omega)) ?_ rfl
    funext k
    have e : ((i : Int)).toNat = i := by omega
    have el : (cIntSS (l.take i)).length = i := by simp [cIntSS]; omega
    rw [e, fill_set' _ _ _ _ _ el, take_snoc hlt]
    rw [show cIntSS (l.take i ++ [l[i]]) = cIntSS (l.take i) ++ [cIntS l[i]] from List.map_append ..]
    try rfl
theorem toIntSS (l : List (List Int)) (hn : nIntSS l ≤ 1048576) : Ev (fun k => laws_toIntSS.f k l) (cIntSS l) := by
  have h := toIntSS_loop l hn l.length 0 (by omega)
  have hlen : l.length ≤ 1048576 := by unfold nIntSS at hn; omega
  refine Ev.eq (Ev.pos (c := 0 ≤ (l.length : Int)) (g := fun _ => none) (by omega) (Ev.pos (c := ((l.length : Int) : Int).toNat ≤ 11728124029610) (g := fun _ => none) (by omega) h)) ?_ rfl
  funext k
  rw [laws_toIntSS.f]; simp [cIntSS]
theorem eqIntSS_loop (l : List (List Int)) (hl : l.length ≤ 4611686018427387000) (hb : ∀ x ∈ l, x.length ≤ 4611686018427387000) : ∀ (d i : Nat), i + d = l.length → Ev (fun k => laws_eqIntSS.l0 k l l (i : Int)) true := by
  intro d
  induction d with
  | zero =>
    intro i hi
    exact Ev.step (fun k => by rw [laws_eqIntSS.l0]) (Ev.neg (by omega) (Ev.const rfl))
  | succ d ih =>
    intro i hi
    have hlt : i < l.length := by omega
    refine Ev.step (fun k => by rw [laws_eqIntSS.l0]) (Ev.pos (by omega) (Ev.pos (by omega) (Ev.pos (by omega) ?_)))
    have e : rd_L1 l (i : Int) = l[i] := by rw [rd_L1]; exact getD_nat _ _ _ hlt
    rw [e, inc (by omega)]
    exact Ev.bind (eqIntS l[i] (hb _ (List.getElem_mem hlt))) (Ev.pos rfl (ih (i + 1) (by omega)))
theorem eqIntSS (l : List (List Int)) (hm : mIntSS l) : Ev (fun k => laws_eqIntSS.f k l l) true :=
  Ev.eq (Ev.pos (c := (l.length : Int) = l.length) (g := fun _ => some false) rfl (eqIntSS_loop l hm.1 hm.2 l.length 0 (by omega))) (by funext k; rw [laws_eqIntSS.f]; rfl) rfl
theorem mcIntSS {l : List (List Int)} (hn : nIntSS l ≤ 1048576) : mIntSS (cIntSS l) := by
  unfold nIntSS at hn
  refine ⟨by simp [cIntSS]; omega, fun x hx => ?_⟩
  obtain ⟨y, hy, rfl⟩ := List.mem_map.1 hx
  have := tsum_mem nIntS hy
  exact mcIntS (by omega)
end Go.Proofs.Ytjiipeidginjnaa.PLaw

namespace Go.Proofs.Ytjiipeidginjnaa.PLaw
open Go.RowKit Go.Proofs.Ytjiipeidginjnaa.P Go.Proofs.YtjiipeidginjnaaW.PrintWords Go.Proofs.YtjiipeidginjnaaW.PrintLast Go.Proofs.Ytjiipeidginjnaa.PB
set_option linter.unusedVariables false

def qIntSSS (l : List (List (List Int))) : Prop := l.length ≤ 9223372036854775807 ∧ ∀ x ∈ l, qIntSS x
def nIntSSS (l : List (List (List Int))) : Nat := l.length + tsum nIntSS l
def cIntSSS (l : List (List (List Int))) : List (List (List Int)) := l.map cIntSS
def mIntSSS (l : List (List (List Int))) : Prop := l.length ≤ 4611686018427387000 ∧ ∀ x ∈ l, mIntSS x
theorem szIntSSS_loop (l : List (List (List Int))) (hl : l.length ≤ 1048576) (hb : ∀ x ∈ l, qIntSS x) : ∀ (d i : Nat) (a : Int), i + d = l.length → 0 ≤ a → a ≤ 1048576 →
    Ev (fun k => laws_szIntSSS.l0 k l a (i : Int)) (if a < tsum nIntSS (l.drop i) then -1 else a - tsum nIntSS (l.drop i)) := by
  intro d
  induction d with
  | zero =>
    intro i a hi h0 h1
    obtain rfl : i = l.length := by omega
    refine Ev.step (fun k => by rw [laws_szIntSSS.l0]) (Ev.neg (by omega) (Ev.const ?_))
    simp [tsum]; omega
  | succ d ih =>
    intro i a hi h0 h1
    have hlt : i < l.length := by omega
    rw [drop_cons hlt, tsum_cons]
    refine Ev.step (fun k => by rw [laws_szIntSSS.l0]) (Ev.pos (by omega) (Ev.pos (by omega) ?_))
    have e : rd_L14 l (i : Int) = l[i] := by rw [rd_L14]; exact getD_nat _ _ _ hlt
    rw [e, inc (by omega)]
    refine Ev.bind (szIntSS l[i] a h0 h1 (hb _ (List.getElem_mem hlt))) ?_
    by_cases h : a < nIntSS l[i]
    · rw [if_pos (by first | exact h | (simp only [nIntSS] at h; omega))]
      refine Ev.pos (by omega) (Ev.const ?_)
      rw [if_pos (by omega)]
    · rw [if_neg (by first | exact h | (simp only [nIntSS] at h; omega))]
      refine Ev.neg (by first | omega | (simp only [nIntSS] at h; omega)) (Ev.eq (ih (i + 1) _ (by omega) (by first | omega | (simp only [nIntSS] at h; omega)) (by omega)) rfl ?_)
      by_cases h2 : a - nIntSS l[i] < tsum nIntSS (l.drop (i + 1))
      · rw [if_pos (by first | exact h2 | (simp only [nIntSS] at h2 ⊢; omega)), if_pos (by omega)]
      · rw [if_neg (by first | exact h2 | (simp only [nIntSS] at h2 ⊢; omega)), if_neg (by omega)]; first | omega | (simp only [nIntSS]; omega)
theorem szIntSSS (l : List (List (List Int))) (a : Int) (h0 : 0 ≤ a) (h1 : a ≤ 1048576) (hq : qIntSSS l) : Ev (fun k => laws_szIntSSS.f k l a) (if a < nIntSSS l then -1 else a - nIntSSS l) := by
  have hl1 := hq.1
  have hw : wrap64 (a - (l.length : Int)) = a - l.length := w64 (by omega) (by omega)
  unfold nIntSSS
  by_cases h : a < l.length
  · refine Ev.eq (Ev.const (r := -1) rfl) ?_ (by rw [if_pos (by omega)])
    funext k
    rw [laws_szIntSSS.f, hw, if_pos (by omega)]
  · refine Ev.eq (szIntSSS_loop l (by omega) hq.2 l.length 0 (a - l.length) (by omega) (by omega) (by omega)) ?_ ?_
    · funext k
      rw [laws_szIntSSS.f, hw, if_neg (by omega)]; rfl
    · rw [List.drop_zero]
      by_cases h2 : a - l.length < tsum nIntSS l
      · rw [if_pos h2, if_pos (by omega)]
      · rw [if_neg h2, if_neg (by omega)]; omega
theorem toIntSSS_loop (l : List (List (List Int))) (hn : nIntSSS l ≤ 1048576) : ∀ (d i : Nat), i + d = l.length → Ev (fun k => laws_toIntSSS.l0 k l (cIntSSS (l.take i) ++ List.replicate d []) (i : Int)) (cIntSSS l) := by
  have hlen : l.length ≤ 1048576 := by unfold nIntSSS at hn; omega
  intro d
  induction d with
  | zero =>
    intro i hi
    obtain rfl : i = l.length := by omega
    refine Ev.step (fun k => by rw [laws_toIntSSS.l0]) (Ev.neg (by omega) (Ev.const ?_))
    simp
  | succ d ih =>
    intro i hi
    have hlt : i < l.length := by omega
    refine Ev.step (fun k => by rw [laws_toIntSSS.l0]) (Ev.pos (by omega) (Ev.pos (by omega) ?_))
    have e : rd_L14 l (i : Int) = l[i] := by rw [rd_L14]; exact getD_nat _ _ _ hlt
    rw [e, inc (by omega)]
    have hx : nIntSS l[i] ≤ 1048576 := by have := tsum_mem nIntSS (List.getElem_mem hlt); unfold nIntSSS at hn; omega
    refine Ev.bind (toIntSS l[i] hx) (Ev.pos (by simp [cIntSSS]; omega) ?_)
    refine Ev.eq (ih (i + 1) (by omega)) ?_ rfl
    funext k
    have e : ((i : Int)).toNat = i := by omega
    have el : (cIntSSS (l.take i)).length = i := by simp [cIntSSS]; omega
    rw [e, fill_set' _ _ _ _ _ el, take_snoc hlt]
    rw [show cIntSSS (l.take i ++ [l[i]]) = cIntSSS (l.take i) ++ [cIntSS l[i]] from List.map_append ..]
    try rfl
theorem toIntSSS (l : List (List (List Int))) (hn : nIntSSS l ≤ 1048576) : Ev (fun k => laws_toIntSSS.f k l) (cIntSSS l) := by
  have h := toIntSSS_loop l hn l.length 0 (by omega)
  have hlen : l.length ≤ 1048576 := by unfold nIntSSS at hn; omega
  refine Ev.eq (Ev.pos (c := 0 ≤ (l.length : Int)) (g := fun _ => none) (by omega) (Ev.pos (c := ((l.length : Int) : Int).toNat ≤ 11728124029610) (g := fun _ => none) (by omega) h)) ?_ rfl
  funext k
  rw [laws_toIntSSS.f]; simp [cIntSSS]
theorem eqIntSSS_loop (l : List (List (List Int))) (hl : l.length ≤ 4611686018427387000) (hb : ∀ x ∈ l, mIntSS x) : ∀ (d i : Nat), i + d = l.length → Ev (fun k => laws_eqIntSSS.l0 k l l (i : Int)) true := by
  intro d
  induction d with
  | zero =>
    intro i hi
    exact Ev.step (fun k => by rw [laws_eqIntSSS.l0]) (Ev.neg (by omega) (Ev.const rfl))
  | succ d ih =>
    intro i hi
    have hlt : i < l.length := by omega
    refine Ev.step (fun k => by rw [laws_eqIntSSS.l0]) (Ev.pos (by omega) (Ev.pos (by omega) (Ev.pos (by omega) ?_)))
    have e : rd_L14 l (i : Int) = l[i] := by rw [rd_L14]; exact getD_nat _ _ _ hlt
    rw [e, inc (by omega)]
    exact Ev.bind (eqIntSS l[i] (hb _ (List.getElem_mem hlt))) (Ev.pos rfl (ih (i + 1) (by omega)))
theorem eqIntSSS (l : List (List (List Int))) (hm : mIntSSS l) : Ev (fun k => laws_eqIntSSS.f k l l) true :=
  Ev.eq (Ev.pos (c := (l.length : Int) = l.length) (g := fun _ => some false) rfl (eqIntSSS_loop l hm.1 hm.2 l.length 0 (by omega))) (by funext k; rw [laws_eqIntSSS.f]; rfl) rfl
theorem mcIntSSS {l : List (List (List Int))} (hn : nIntSSS l ≤ 1048576) : mIntSSS (cIntSSS l) := by
  unfold nIntSSS at hn
  refine ⟨by simp [cIntSSS]; omega, fun x hx => ?_⟩
  obtain ⟨y, hy, rfl⟩ := List.mem_map.1 hx
  have := tsum_mem nIntSS hy
  exact mcIntSS (by omega)
end Go.Proofs.Ytjiipeidginjnaa.PLaw

namespace Go.Proofs.Ytjiipeidginjnaa.PLaw
open Go.RowKit Go.Proofs.Ytjiipeidginjnaa.P Go.Proofs.YtjiipeidginjnaaW.PrintWords Go.Proofs.YtjiipeidginjnaaW.PrintLast Go.Proofs.Ytjiipeidginjnaa.PB
set_option linter.unusedVariables false

def qAtom (x : S175) : Prop := ((Lit.int .i64 x.f0).wf = true) ∧ (qIntS x.f1)
def nAtom (x : S175) : Nat := nIntS x.f1
def cAtom (x : S175) : S153 := ⟨x.f0, cIntS x.f1⟩
def qAtomS (l : List S175) : Prop := l.length ≤ 9223372036854775807 ∧ ∀ x ∈ l, qAtom x
def nAtomS (l : List S175) : Nat := l.length + tsum nAtom l
def cAtomS (l : List S175) : List S153 := l.map cAtom
def mAtom (x : S153) : Prop := (True) ∧ (x.f1.length ≤ 4611686018427387000)
def mAtomS (l : List S153) : Prop := l.length ≤ 4611686018427387000 ∧ ∀ x ∈ l, mAtom x
theorem szAtom (x0 : Int) (x1 : List Int) (a : Int) (h0 : 0 ≤ a) (h1 : a ≤ 1048576) (qx0_ : (Lit.int .i64 x0).wf = true) (qx1_ : qIntS x1) : Ev (fun k => laws_szAtom.f x0 x1 a) (if a < ((nIntS x1 : Nat) : Int) then -1 else a - ((nIntS x1 : Nat) : Int)) := by
  unfold laws_szAtom.f
  have g0 : a ≤ 1048576 := by first | omega | exact h1
  refine Ev.bind (szIntS x1 a (by omega) (by omega) qx1_) ?_
  by_cases c0 : a < ((nIntS x1 : Nat) : Int)
  · rw [if_pos c0]
    exact Ev.pos (by omega) (Ev.const (by first | rfl | rw [if_pos (by omega)]))
  rw [if_neg c0]
  refine Ev.neg (by omega) ?_
  have e0 : a - ((nIntS x1 : Nat) : Int) = (a - ((nIntS x1 : Nat) : Int)) := by omega
  rw [e0]
  exact Ev.const (by first | rfl | rw [if_neg (by omega)])
theorem szAtomS_loop (l : List S175) (hl : l.length ≤ 1048576) (hb : ∀ x ∈ l, qAtom x) : ∀ (d i : Nat) (a : Int), i + d = l.length → 0 ≤ a → a ≤ 1048576 →
    Ev (fun k => laws_szAtomS.l0 k l a (i : Int)) (if a < tsum nAtom (l.drop i) then -1 else a - tsum nAtom (l.drop i)) := by
  intro d
  induction d with
  | zero =>
    intro i a hi h0 h1
    obtain rfl : i = l.length := by omega
    refine Ev.step (fun k => by rw [laws_szAtomS.l0]) (Ev.neg (by omega) (Ev.const ?_))
    simp [tsum]; omega
  | succ d ih =>
    intro i a hi h0 h1
    have hlt : i < l.length := by omega
    rw [drop_cons hlt, tsum_cons]
    refine Ev.step (fun k => by rw [laws_szAtomS.l0]) (Ev.pos (by omega) (Ev.pos (by omega) ?_))
    have e : rd_T175 l (i : Int) = l[i] := by rw [rd_T175]; exact getD_nat _ _ _ hlt
    rw [e, inc (by omega)]
    refine Ev.bind (szAtom (l[i].f0) (l[i].f1) a h0 h1 (hb _ (List.getElem_mem hlt)).1 (hb _ (List.getElem_mem hlt)).2) ?_
    by_cases h : a < nAtom l[i]
    · rw [if_pos (by first | exact h | (simp only [nAtom] at h; omega))]
      refine Ev.pos (by omega) (Ev.const ?_)
      rw [if_pos (by omega)]
    · rw [if_neg (by first | exact h | (simp only [nAtom] at h; omega))]
      refine Ev.neg (by first | omega | (simp only [nAtom] at h; omega)) (Ev.eq (ih (i + 1) _ (by omega) (by first | omega | (simp only [nAtom] at h; omega)) (by omega)) rfl ?_)
      by_cases h2 : a - nAtom l[i] < tsum nAtom (l.drop (i + 1))
      · rw [if_pos (by first | exact h2 | (simp only [nAtom] at h2 ⊢; omega)), if_pos (by omega)]
      · rw [if_neg (by first | exact h2 | (simp only [nAtom] at h2 ⊢; omega)), if_neg (by omega)]; first | omega | (simp only [nAtom]; omega)
theorem szAtomS (l : List S175) (a : Int) (h0 : 0 ≤ a) (h1 : a ≤ 1048576) (hq : qAtomS l) : Ev (fun k => laws_szAtomS.f k l a) (if a < nAtomS l then -1 else a - nAtomS l) := by
  have hl1 := hq.1
  have hw : wrap64 (a - (l.length : Int)) = a - l.length := w64 (by omega) (by omega)
  unfold nAtomS
  by_cases h : a < l.length
  · refine Ev.eq (Ev.const (r := -1) rfl) ?_ (by rw [if_pos (by omega)])
    funext k
    rw [laws_szAtomS.f, hw, if_pos (by omega)]
  · refine Ev.eq (szAtomS_loop l (by omega) hq.2 l.length 0 (a - l.length) (by omega) (by omega) (by omega)) ?_ ?_
    · funext k
      rw [laws_szAtomS.f, hw, if_neg (by omega)]; rfl
    · rw [List.drop_zero]
      by_cases h2 : a - l.length < tsum nAtom l
      · rw [if_pos h2, if_pos (by omega)]
      · rw [if_neg h2, if_neg (by omega)]; omega
theorem toAtom (x0 : Int) (x1 : List Int) (hn : nIntS x1 ≤ 1048576) : Ev (fun k => laws_toAtom.f k x0 x1) (x0, cIntS x1) := by
  unfold laws_toAtom.f
  refine Ev.bind (toIntS x1 (by omega)) ?_
  exact Ev.const rfl
theorem toAtomS_loop (l : List S175) (hn : nAtomS l ≤ 1048576) : ∀ (d i : Nat), i + d = l.length → Ev (fun k => laws_toAtomS.l0 k l (cAtomS (l.take i) ++ List.replicate d z153) (i : Int)) (cAtomS l) := by
  have hlen : l.length ≤ 1048576 := by unfold nAtomS at hn; omega
  intro d
  induction d with
  | zero =>
    intro i hi
    obtain rfl : i = l.length := by omega
    refine Ev.step (fun k => by rw [laws_toAtomS.l0]) (Ev.neg (by omega) (Ev.const ?_))
    simp
  | succ d ih =>
    intro i hi
    have hlt : i < l.length := by omega
    refine Ev.step (fun k => by rw [laws_toAtomS.l0]) (Ev.pos (by omega) (Ev.pos (by omega) ?_))
    have e : rd_T175 l (i : Int) = l[i] := by rw [rd_T175]; exact getD_nat _ _ _ hlt
    rw [e, inc (by omega)]
    have hx : nAtom l[i] ≤ 1048576 := by have := tsum_mem nAtom (List.getElem_mem hlt); unfold nAtomS at hn; omega
    refine Ev.bind (toAtom (l[i].f0) (l[i].f1) hx) (Ev.pos (by simp [cAtomS]; omega) ?_)
    refine Ev.eq (ih (i + 1) (by omega)) ?_ rfl
    funext k
    have e : ((i : Int)).toNat = i := by omega
    have el : (cAtomS (l.take i)).length = i := by simp [cAtomS]; omega
    rw [e, fill_set' _ _ _ _ _ el, take_snoc hlt]
    rw [show cAtomS (l.take i ++ [l[i]]) = cAtomS (l.take i) ++ [cAtom l[i]] from List.map_append ..]
    try rfl
theorem toAtomS (l : List S175) (hn : nAtomS l ≤ 1048576) : Ev (fun k => laws_toAtomS.f k l) (cAtomS l) := by
  have h := toAtomS_loop l hn l.length 0 (by omega)
  have hlen : l.length ≤ 1048576 := by unfold nAtomS at hn; omega
  refine Ev.eq (Ev.pos (c := 0 ≤ (l.length : Int)) (g := fun _ => none) (by omega) (Ev.pos (c := ((l.length : Int) : Int).toNat ≤ 8796093022208) (g := fun _ => none) (by omega) h)) ?_ rfl
  funext k
  rw [laws_toAtomS.f]; simp [cAtomS]
theorem eqAtom (x0 : Int) (x1 : List Int) (mx1_ : x1.length ≤ 4611686018427387000) : Ev (fun k => laws_eqAtom.f k x0 x1 x0 x1) true := by
  unfold laws_eqAtom.f
  first | refine Ev.pos rfl ?_ | skip
  refine Ev.bind (eqIntS x1 mx1_) (Ev.pos rfl ?_)
  exact Ev.const rfl
theorem eqAtomS_loop (l : List S153) (hl : l.length ≤ 4611686018427387000) (hb : ∀ x ∈ l, mAtom x) : ∀ (d i : Nat), i + d = l.length → Ev (fun k => laws_eqAtomS.l0 k l l (i : Int)) true := by
  intro d
  induction d with
  | zero =>
    intro i hi
    exact Ev.step (fun k => by rw [laws_eqAtomS.l0]) (Ev.neg (by omega) (Ev.const rfl))
  | succ d ih =>
    intro i hi
    have hlt : i < l.length := by omega
    refine Ev.step (fun k => by rw [laws_eqAtomS.l0]) (Ev.pos (by omega) (Ev.pos (by omega) (Ev.pos (by omega) ?_)))
    have e : rd_T153 l (i : Int) = l[i] := by rw [rd_T153]; exact getD_nat _ _ _ hlt
    rw [e, inc (by omega)]
    exact Ev.bind (eqAtom (l[i].f0) (l[i].f1) ((hb _ (List.getElem_mem hlt)).2)) (Ev.pos rfl (ih (i + 1) (by omega)))
theorem eqAtomS (l : List S153) (hm : mAtomS l) : Ev (fun k => laws_eqAtomS.f k l l) true :=
  Ev.eq (Ev.pos (c := (l.length : Int) = l.length) (g := fun _ => some false) rfl (eqAtomS_loop l hm.1 hm.2 l.length 0 (by omega))) (by funext k; rw [laws_eqAtomS.f]; rfl) rfl
theorem mcAtom {x : S175} (hn : nAtom x ≤ 1048576) : mAtom (cAtom x) := by
  unfold nAtom at hn
  exact ⟨trivial, mcIntS (l := x.f1) (by omega)⟩
theorem mcAtomS {l : List S175} (hn : nAtomS l ≤ 1048576) : mAtomS (cAtomS l) := by
  unfold nAtomS at hn
  refine ⟨by simp [cAtomS]; omega, fun x hx => ?_⟩
  obtain ⟨y, hy, rfl⟩ := List.mem_map.1 hx
  have := tsum_mem nAtom hy
  exact mcAtom (by omega)
end Go.Proofs.Ytjiipeidginjnaa.PLaw

