/- Several texts in one: what the claim needs of them. Conditions: each declaration's own. -/
import Derived.Test.YtjiipeidginjnaaZVlnWShare
import Derived.Test.YtjiipeidginjnaaZVlnWApart
import Derived.Test.YtjiipeidginjnaaZVlnM10
import Derived.Test.YtjiipeidginjnaaZVlnWWords
import Derived.Test.YtjiipeidginjnaaZVlnM11
import Derived.Test.YtjiipeidginjnaaZVlnM15
import Derived.Test.YtjiipeidginjnaaZVlnM16
import Derived.Test.YtjiipeidginjnaaZVlnM17
import Derived.Test.YtjiipeidginjnaaZVlnM12
namespace Go.Proofs.Ytjiipeidginjnaa.Lay
open Go.RowKit Go.Proofs.YtjiipeidginjnaaW.PrintWords
set_option linter.unusedVariables false
set_option linter.unusedSimpArgs false

abbrev pa (g j : Nat) : Addr := ⟨g, j, none⟩
def isI (v : Value) : Prop := ∃ x, v = .int .i64 x
/-- Every plain cell of W stands in W', integers being integers still. -/
structure Hd (W W' : World) : Prop where
  size : W.heap.size ≤ W'.heap.size
  cell : ∀ g j v, W.cell? (pa g j) = some v → W.frozen? (pa g j) = false → W'.frozen? (pa g j) = false ∧ ∃ v', W'.cell? (pa g j) = some v' ∧ (v' = v ∨ isI v ∧ isI v')

variable {W W1 W2 w w1 w2 : World} {g j o : Nat} {v u : Value} {k x : Int}

theorem Hd.trans (h : Hd W W1) (k : Hd W1 W2) : Hd W W2 := ⟨Nat.le_trans h.size k.size, fun g j v hc hf => by
  obtain ⟨f1, v1, c1, e1⟩ := h.cell g j v hc hf
  obtain ⟨f2, v2, c2, e2⟩ := k.cell g j v1 c1 f1
  refine ⟨f2, v2, c2, ?_⟩
  rcases e2 with rfl | ⟨i1, i2⟩
  · exact e1
  · rcases e1 with rfl | ⟨j1, _⟩
    · exact .inr ⟨i1, i2⟩
    · exact .inr ⟨j1, i2⟩⟩
theorem blk_same (h : W1.heap[g]? = W.heap[g]?) (j : Nat) : W1.cell? (pa g j) = W.cell? (pa g j) ∧ W1.frozen? (pa g j) = W.frozen? (pa g j) := by
  unfold World.cell? World.frozen?
  simp only [pa]
  rw [h]
  exact ⟨rfl, rfl⟩
theorem lt_of_cell (h : W.cell? (pa g j) = some v) : g < W.heap.size := World.block_lt_of_cell? W _ h
theorem Hd.below (hb : Below W.heap.size W W1) : Hd W W1 := ⟨hb.size, fun g j v hc hf => by
  have hs := blk_same (hb.block g (lt_of_cell hc)) j
  exact ⟨hs.2.trans hf, v, hs.1.trans hc, .inl rfl⟩⟩
theorem obj_of_cell (h : W.cell? (pa g j) = some v) : ∃ cs t fz, W.heap[g]? = some (.cells cs t fz) ∧ cs[j]? = some v := by
  unfold World.cell? at h
  simp only [pa] at h
  split at h
  · rename_i c e f hc
    exact ⟨c, e, f, hc, by simpa using h⟩
  · cases h
theorem set_obj {cs : Array Value} {t : TypeId} {fz : Nat × Nat} (h : W.heap[g]? = some (.cells cs t fz)) (j : Nat) (u : Value) : (W.setCell (pa g j) u).heap[g]? = some (.cells (cs.setIfInBounds j u) t fz) := by
  simp only [World.setCell, pa, Array.getElem?_modify, if_true, h, Option.map_some]
  rfl
theorem set_cell (h : W.cell? (pa g j) = some v) (u : Value) : (W.setCell (pa g j) u).cell? (pa g j) = some u := by
  obtain ⟨cs, t, fz, ho, hc⟩ := obj_of_cell h
  unfold World.cell?
  simp only [set_obj ho, pa]
  have hj : j < cs.size := (Array.getElem?_eq_some_iff.1 hc).1
  simp [Array.getElem?_setIfInBounds, hj]
theorem set_other {g' j' : Nat} (u : Value) (hne : ¬ (g' = g ∧ j' = j)) : (W.setCell (pa g j) u).cell? (pa g' j') = W.cell? (pa g' j') := by
  by_cases hg : g' = g
  · subst hg
    have hj : j ≠ j' := fun h => hne ⟨rfl, h.symm⟩
    rcases hh : W.heap[g']? with _ | ob
    · have : (W.setCell (pa g' j) u).heap[g']? = none := by simp [World.setCell, pa, Array.getElem?_modify, hh]
      unfold World.cell?
      simp only [pa] at this ⊢
      rw [this, hh]
    · by_cases hk : ∃ cs t fz, ob = .cells cs t fz
      · obtain ⟨cs, t, fz, rfl⟩ := hk
        unfold World.cell?
        have := set_obj hh j u
        simp only [pa] at this ⊢
        rw [this, hh]
        simp [Array.getElem?_setIfInBounds, hj]
      · have h2 : (W.setCell (pa g' j) u).heap[g']? = some ob := by
          simp only [World.setCell, pa, Array.getElem?_modify, if_true, hh, Option.map_some]
          cases ob <;> first | rfl | exact absurd ⟨_, _, _, rfl⟩ hk
        exact (blk_same (h2.trans hh.symm) j').1
  · exact (blk_same (Below.heap_setCell W (pa g j) u g' (fun h => hg h)) j').1
theorem set_frozen (g' j' : Nat) (u : Value) : (W.setCell (pa g j) u).frozen? (pa g' j') = W.frozen? (pa g' j') := by
  by_cases hg : g' = g
  · subst hg
    rcases hh : W.heap[g']? with _ | ob
    · have : (W.setCell (pa g' j) u).heap[g']? = none := by simp [World.setCell, pa, Array.getElem?_modify, hh]
      unfold World.frozen?
      simp only [pa] at this ⊢
      rw [this, hh]
    · by_cases hk : ∃ cs t fz, ob = .cells cs t fz
      · obtain ⟨cs, t, fz, rfl⟩ := hk
        unfold World.frozen?
        have := set_obj hh j u
        simp only [pa] at this ⊢
        rw [this, hh]
      · have h2 : (W.setCell (pa g' j) u).heap[g']? = some ob := by
          simp only [World.setCell, pa, Array.getElem?_modify, if_true, hh, Option.map_some]
          cases ob <;> first | rfl | exact absurd ⟨_, _, _, rfl⟩ hk
        exact (blk_same (h2.trans hh.symm) j').2
  · exact (blk_same (Below.heap_setCell W (pa g j) u g' (fun h => hg h)) j').2

abbrev Pl := List (Nat × Nat)
/-- An integer's cell. -/
def Ic (W : World) (g j : Nat) : Prop := W.frozen? (pa g j) = false ∧ ∃ x, W.cell? (pa g j) = some (.int .i64 x)
theorem Ic.hd (h : Ic W g j) (hh : Hd W W1) : Ic W1 g j := by
  obtain ⟨hf, x, hc⟩ := h
  obtain ⟨f1, v1, c1, e1⟩ := hh.cell g j _ hc hf
  rcases e1 with rfl | ⟨_, y, rfl⟩
  · exact ⟨f1, x, c1⟩
  · exact ⟨f1, y, c1⟩

/-- What k, k+1, .. at the places al make of a world. -/
structure Wr (w w' : World) (al : Pl) (k : Int) : Prop where
  same : w'.os = w.os ∧ w'.tape = w.tape ∧ w'.output = w.output
  hd : Hd w w'
  kept : Kept w w' (fun b => ∃ p ∈ al, p.1 = b)
  other : ∀ g j, (g, j) ∉ al → g < w.heap.size → w'.cell? (pa g j) = w.cell? (pa g j)
  val : al.Nodup → ∀ j (h : j < al.length), w'.cell? (pa al[j].1 al[j].2) = some (.int .i64 (k + j))

theorem Wr.below (hb : Below w.heap.size w w1) (k : Int) : Wr w w1 [] k :=
  ⟨⟨hb.os, hb.tape, hb.output⟩, Hd.below hb, Kept.of_below hb _, fun g j _ hg => (blk_same (hb.block g hg) j).1, fun _ j h => absurd h (Nat.not_lt_zero _)⟩
theorem Wr.nil (w : World) (k : Int) : Wr w w [] k := Wr.below (Below.refl _ _) k
theorem Wr.trans {al bs : Pl} (h : Wr w w1 al k) (h2 : Wr w1 w2 bs (k + al.length)) (ha : ∀ p ∈ al, p.1 < w.heap.size) : Wr w w2 (al ++ bs) k := by
  refine ⟨⟨h2.same.1.trans h.same.1, h2.same.2.1.trans h.same.2.1, h2.same.2.2.trans h.same.2.2⟩, Hd.trans h.hd h2.hd, ?_, ?_, ?_⟩
  · refine Kept.then_ (Kept.mono h.kept (fun b ⟨p, hp, e⟩ => ⟨p, List.mem_append_left _ hp, e⟩)) h2.kept (fun b ⟨p, hp, e⟩ => .inl ⟨p, List.mem_append_right _ hp, e⟩)
  · intro g j hn hg
    rw [h2.other g j (fun hm => hn (List.mem_append_right _ hm)) (Nat.lt_of_lt_of_le hg h.hd.size), h.other g j (fun hm => hn (List.mem_append_left _ hm)) hg]
  · intro hnd j hj
    rw [List.nodup_append] at hnd
    rcases Nat.lt_or_ge j al.length with hl | hl
    · rw [List.getElem_append_left hl]
      have hm : al[j] ∈ al := List.getElem_mem hl
      exact (h2.other al[j].1 al[j].2 (fun hb => hnd.2.2 _ hm _ hb rfl) (Nat.lt_of_lt_of_le (ha _ hm) h.hd.size)).trans (h.val hnd.1 j hl)
    · rw [List.getElem_append_right hl]
      have := h2.val hnd.2.1 (j - al.length) (by rw [List.length_append] at hj; omega)
      rw [this]
      congr 2
      omega
theorem Wr.snoc {al : Pl} (h : Wr w w1 al k) (hb : Below w1.heap.size w1 w2) (ha : ∀ p ∈ al, p.1 < w.heap.size) : Wr w w2 al k := by
  have := Wr.trans h (Wr.below hb _) ha
  rwa [List.append_nil] at this
theorem Wr.store (h : Ic w g j) (k : Int) : Wr w (w.setCell (pa g j) (.int .i64 k)) [(g, j)] k := by
  obtain ⟨hf, x, hc⟩ := h
  refine ⟨⟨rfl, rfl, rfl⟩, ⟨by simp [World.setCell], ?_⟩, ?_, ?_, ?_⟩
  · intro g' j' v hv hfv
    refine ⟨(set_frozen g' j' _).trans hfv, ?_⟩
    by_cases he : g' = g ∧ j' = j
    · obtain ⟨rfl, rfl⟩ := he
      refine ⟨_, set_cell hc _, .inr ⟨?_, k, rfl⟩⟩
      rw [hc] at hv
      exact ⟨x, (Option.some.inj hv).symm⟩
    · exact ⟨v, (set_other _ he).trans hv, .inl rfl⟩
  · exact (Kept.refl w _).setCell (.inl ⟨(g, j), List.mem_singleton.2 rfl, rfl⟩) _
  · intro g' j' hn _
    exact set_other _ (fun he => hn (by rw [List.mem_singleton, he.1, he.2]))
  · intro _ i hi
    have : i = 0 := by simp at hi; omega
    subst this
    simpa using set_cell hc (.int .i64 k)

abbrev El := World → Nat → Nat → Pl → Prop
def St (E : El) : Prop := ∀ (W W' : World) (g o : Nat) (al : Pl), Hd W W' → E W g o al → E W' g o al
def In (E : El) : Prop := ∀ (W : World) (g o : Nat) (al : Pl), E W g o al → ∀ p ∈ al, p.1 < W.heap.size
def eInt : El := fun W g o al => Ic W g o ∧ al = [(g, o)]
def Row (sz : Nat) (E : El) (W : World) (v : Value) (al : Pl) : Prop :=
  ∃ A n c, v = .slice A n c ∧ n ≤ 9223372036854775807 ∧ ∃ ass : List Pl, ass.length = n ∧ al = ass.flatten ∧ (0 < n → ∃ g, A = some (pa g 0) ∧ ∀ j (h : j < ass.length), E W g (j * sz) ass[j])
def eRow (R : World → Value → Pl → Prop) : El := fun W g o al => ∃ v, W.cell? (pa g o) = some v ∧ W.frozen? (pa g o) = false ∧ ¬ isI v ∧ R W v al
def ePair (E1 E2 : El) : El := fun W g o al => ∃ bs cs, E1 W g o bs ∧ E2 W g (o + 1) cs ∧ al = bs ++ cs
def StR (R : World → Value → Pl → Prop) : Prop := ∀ (W W' : World) (v : Value) (al : Pl), Hd W W' → R W v al → R W' v al
def InR (R : World → Value → Pl → Prop) : Prop := ∀ (W : World) (v : Value) (al : Pl), R W v al → ∀ p ∈ al, p.1 < W.heap.size

theorem st_int : St eInt := fun _ _ _ _ _ hh h => ⟨h.1.hd hh, h.2⟩
theorem in_int : In eInt := by
  rintro W g o al ⟨⟨_, x, hc⟩, rfl⟩ p hp
  rw [List.mem_singleton.1 hp]
  exact lt_of_cell hc
theorem st_pair {E1 E2 : El} (h1 : St E1) (h2 : St E2) : St (ePair E1 E2) := by
  rintro W W' g o al hh ⟨bs, cs, a, b, rfl⟩
  exact ⟨bs, cs, h1 _ _ _ _ _ hh a, h2 _ _ _ _ _ hh b, rfl⟩
theorem in_pair {E1 E2 : El} (h1 : In E1) (h2 : In E2) : In (ePair E1 E2) := by
  rintro W g o al ⟨bs, cs, a, b, rfl⟩ p hp
  rcases List.mem_append.1 hp with hp | hp
  · exact h1 _ _ _ _ a p hp
  · exact h2 _ _ _ _ b p hp
theorem st_row {sz : Nat} {E : El} (h : St E) : StR (Row sz E) := by
  rintro W W' v al hh ⟨A, n, c, rfl, hn, ass, hl, rfl, hr⟩
  refine ⟨A, n, c, rfl, hn, ass, hl, rfl, fun h0 => ?_⟩
  obtain ⟨g, e, he⟩ := hr h0
  exact ⟨g, e, fun j hj => h _ _ _ _ _ hh (he j hj)⟩
theorem in_row {sz : Nat} {E : El} (h : In E) : InR (Row sz E) := by
  rintro W v al ⟨A, n, c, rfl, hn, ass, hl, rfl, hr⟩ p hp
  obtain ⟨al, hm, hp⟩ := List.mem_flatten.1 hp
  obtain ⟨j, hj, rfl⟩ := List.getElem_of_mem hm
  obtain ⟨g, _, he⟩ := hr (by omega)
  exact h _ _ _ _ (he j hj) p hp
theorem st_eRow {R : World → Value → Pl → Prop} (h : StR R) : St (eRow R) := by
  rintro W W' g o al hh ⟨v, hc, hf, hi, hr⟩
  obtain ⟨f1, v1, c1, e1⟩ := hh.cell g o v hc hf
  rcases e1 with rfl | ⟨hv, _⟩
  · exact ⟨v1, c1, f1, hi, h _ _ _ _ hh hr⟩
  · exact absurd hv hi
theorem in_eRow {R : World → Value → Pl → Prop} (h : InR R) : In (eRow R) := by
  rintro W g o al ⟨v, hc, hf, hi, hr⟩ p hp
  exact h _ _ _ hr p hp
/-- The row's own letters. -/
theorem Row.open_ {sz : Nat} {E : El} {al : Pl} (h : Row sz E W v al) : ∃ A n c, v = .slice A n c ∧ n ≤ 9223372036854775807 ∧ ∃ ass : List Pl, ass.length = n ∧ al = ass.flatten ∧ (0 < n → ∃ g, A = some (pa g 0) ∧ ∀ j (h : j < ass.length), E W g (j * sz) ass[j]) := h
theorem flat_take {ass : List Pl} {i : Nat} (h : i < ass.length) : (ass.take (i + 1)).flatten = (ass.take i).flatten ++ ass[i] := by
  rw [List.take_succ_eq_append_getElem h, List.flatten_append]
  simp

/-- An element made (its cells at g, o) hal its places, cnt of them, in blocks of ok or in g. -/
def Mk {α : Type} (d : Kd α) (E : El) (cnt : α → Nat) : Prop := ∀ {W : World} {base : Nat} {ok : Nat → Prop} {x : α} {cs : List Value} {g o : Nat},
  d.M W base ok x cs → (∀ i u, cs[i]? = some u → W.cell? (pa g (o + i)) = some u ∧ W.frozen? (pa g (o + i)) = false) → ∃ al, E W g o al ∧ al.length = cnt x ∧ ∀ p ∈ al, p.1 = g ∨ ok p.1
def sumOf {α : Type} (cnt : α → Nat) : List α → Nat
  | [] => 0
  | x :: xs => cnt x + sumOf cnt xs
theorem pick {α : Type} {n : Nat} {P : Nat → α → Prop} (h : ∀ j, j < n → ∃ a, P j a) : ∃ l : List α, l.length = n ∧ ∀ j (hj : j < l.length), P j l[j] := by
  induction n with
  | zero => exact ⟨[], rfl, fun j hj => absurd hj (Nat.not_lt_zero _)⟩
  | succ n ih =>
    obtain ⟨l, hl, hp⟩ := ih (fun j hj => h j (by omega))
    obtain ⟨a, ha⟩ := h n (by omega)
    refine ⟨l ++ [a], by simp [hl], fun j hj => ?_⟩
    rcases Nat.lt_or_ge j l.length with h1 | h1
    · rw [List.getElem_append_left h1]; exact hp j h1
    · have : j = l.length := by rw [List.length_append, List.length_singleton] at hj; omega
      subst this
      simp only [List.getElem_append_right (Nat.le_refl _), Nat.sub_self, List.getElem_cons_zero]
      rw [hl]; exact ha
theorem flat_len {α : Type} {cnt : α → Nat} : ∀ (xs : List α) (ass : List Pl), ass.length = xs.length → (∀ j (h : j < ass.length) (h' : j < xs.length), ass[j].length = cnt xs[j]) → ass.flatten.length = sumOf cnt xs
  | [], ass, hl, _ => by
    have : ass = [] := List.eq_nil_of_length_eq_zero hl
    subst this; rfl
  | x :: xs, [], hl, _ => by simp at hl
  | x :: xs, al :: ass, hl, h => by
    rw [List.flatten_cons, List.length_append, flat_len xs ass (by simpa using hl) (fun j h1 h2 => h (j + 1) (by simpa using h1) (by simpa using h2))]
    have := h 0 (by simp) (by simp)
    simp only [List.getElem_cons_zero] at this
    rw [this, sumOf]
theorem row_of_R {α : Type} {d : Kd α} {E : El} {cnt : α → Nat} (hE : Mk d E cnt) {e base : Nat} {ok : Nat → Prop} {xs : List α} (hm : xs.length ≤ 9223372036854775807) (h : d.R e W base ok v xs) :
    ∃ al, Row d.sz E W v al ∧ al.length = sumOf cnt xs ∧ ∀ p ∈ al, ok p.1 := by
  obtain ⟨hok, inner, ho, hr⟩ := h
  rcases ho.2 with ⟨rfl, h0⟩ | ⟨g, cap, cur, rfl, hgb, hh, hnc, _, hcs, htk⟩
  · have hx : xs = [] := List.eq_nil_of_length_eq_zero h0
    subst hx
    exact ⟨[], ⟨none, 0, 0, rfl, Nat.zero_le _, [], rfl, rfl, fun h => absurd h (Nat.lt_irrefl 0)⟩, rfl, fun p hp => absurd hp List.not_mem_nil⟩
  · have hil : inner.length = xs.length * d.sz := ho.1
    have hcell : ∀ j u, inner[j]? = some u → W.cell? (pa g j) = some u ∧ W.frozen? (pa g j) = false := by
      intro j u hu
      have hlt : j < inner.length := (List.getElem?_eq_some_iff.1 hu).1
      rw [← htk] at hu
      rw [List.getElem?_take] at hu
      split at hu
      · refine ⟨?_, ?_⟩
        · unfold World.cell?; simp only [pa, hh]; simpa using hu
        · unfold World.frozen?; simp [pa, hh]
      · cases hu
    have hel : ∀ j, j < xs.length → ∃ al : Pl, E W g (j * d.sz) al ∧ (∃ h : j < xs.length, al.length = cnt xs[j]) ∧ ∀ p ∈ al, ok p.1 := by
      intro j hj
      have hM := hr.2 j _ (List.getElem?_eq_getElem hj)
      obtain ⟨al, ha, hlen, hp⟩ := hE hM (g := g) (o := j * d.sz) (fun i u hu => by
        rw [List.getElem?_take] at hu
        split at hu
        · rw [List.getElem?_drop] at hu
          exact hcell _ _ hu
        · cases hu)
      refine ⟨al, ha, ⟨hj, hlen⟩, fun p hpp => ?_⟩
      rcases hp p hpp with h1 | h1
      · rw [h1]; exact hok g (by simp [Value.ownBlock])
      · exact h1.1
    obtain ⟨ass, hal, hap⟩ := pick hel
    refine ⟨ass.flatten, ⟨_, _, cap, rfl, hm, ass, hal, rfl, fun _ => ⟨g, rfl, fun j hj => (hap j hj).1⟩⟩, flat_len xs ass hal (fun j h1 h2 => (hap j h1).2.1.2), fun p hp => ?_⟩
    obtain ⟨al, hm, hp⟩ := List.mem_flatten.1 hp
    obtain ⟨j, hj, rfl⟩ := List.getElem_of_mem hm
    exact (hap j hj).2.2 p hp
theorem mk_int : Mk (Kd.int .i64) eInt (fun _ => 1) := by
  intro W base ok x cs g o hM hc
  have hcs : cs = [.int .i64 x] := (Kd.int .i64).K_of_M hM
  subst hcs
  have := hc 0 _ rfl
  exact ⟨[(g, o)], ⟨⟨this.2, x, this.1⟩, rfl⟩, rfl, fun p hp => .inl (by rw [List.mem_singleton.1 hp])⟩
theorem mk_slice {α : Type} {d : Kd α} {E : El} {cnt : α → Nat} (hE : Mk d E cnt) (e : Nat) : Mk (Kd.slice e d) (eRow (Row d.sz E)) (sumOf cnt) := by
  rintro W base ok xs cs g o ⟨v, rfl, hR⟩ hc
  have h2 := Kd.R_reads hR
  obtain ⟨A, c, rfl, hl, hr⟩ := h2
  obtain ⟨al, ha, hlen, hp⟩ := row_of_R hE hr.2.1 hR
  have := hc 0 _ rfl
  exact ⟨al, ⟨_, this.1, this.2, fun ⟨x, hx⟩ => (by cases hx), ha⟩, hlen, fun p hp' => .inr (hp p hp')⟩
end Go.Proofs.Ytjiipeidginjnaa.Lay

namespace Go.Proofs.Ytjiipeidginjnaa.LawM
open Go.RowKit Go.Proofs.YtjiipeidginjnaaW.PrintWords Go.Proofs.Ytjiipeidginjnaa.Lay
set_option linter.unusedVariables false
set_option linter.unusedSimpArgs false
variable {α β : Type} {d : Kd α} {d' : Kd β} {w W W1 : World} {lo hi lo' hi' base e : Nat} {A : Option Addr} {xs : List α} {v : Value} {pls : Pl} {k : Int} {ok : Nat → Prop}

/-- A row that is read, in the blocks from lo to hi. -/
abbrev FI {α : Type} (d : Kd α) (W : World) (lo hi : Nat) (A : Option Addr) (xs : List α) : Prop := Kd.F d W (fun b => lo ≤ b ∧ b < hi) A xs.length xs
theorem FI.below (h : FI d W lo hi A xs) (hb : Below W.heap.size W W1) : FI d W1 lo hi A xs := Kd.F_below h hb
theorem FI.wr (h : FI d W lo hi A xs) (hw : Wr W W1 pls k) (hp : ∀ p ∈ pls, lo' ≤ p.1 ∧ p.1 < hi') (hd : hi ≤ lo' ∨ hi' ≤ lo) : FI d W1 lo hi A xs :=
  Kd.F_kept h hw.kept (fun b hb ⟨p, hp', e⟩ => by have := hp p hp'; omega)
theorem FI.kept (h : FI d W lo hi A xs) (hk : Kept W W1 (fun b => lo' ≤ b ∧ b < hi')) (hd : hi ≤ lo' ∨ hi' ≤ lo) : FI d W1 lo hi A xs :=
  Kd.F_kept h hk (fun b hb hb' => by omega)
theorem FI.now (h : FI d W lo hi A xs) : d.C W A xs.length xs := Kd.F_now h
theorem open_R (h : d.R e W base ok v xs) : ∃ A c, v = .slice A xs.length c ∧ xs.length ≤ c ∧ xs.length ≤ 9223372036854775807 ∧ FI d W base W.heap.size A xs := by
  obtain ⟨A, c, rfl, hl, hc⟩ := Kd.R_reads h
  exact ⟨A, c, rfl, hl, hc.2.1, Kd.F_mono (Kd.R_F (Kd.R_bound h)) (fun k hk => ⟨hk.2.1, hk.2.2.1⟩)⟩
theorem span_R (h : d.R e W base ok v xs) : d.R e W base (fun b => base ≤ b ∧ b < W.heap.size) v xs := Kd.R_mono (Kd.R_bound h) (fun k hk => ⟨hk.2.1, hk.2.2.1⟩)
theorem R_wr (h : d.R e W base (fun b => lo ≤ b ∧ b < hi) v xs) (hw : Wr W W1 pls k) (hp : ∀ p ∈ pls, lo' ≤ p.1 ∧ p.1 < hi') (hd : hi ≤ lo' ∨ hi' ≤ lo) : d.R e W1 base (fun b => lo ≤ b ∧ b < hi) v xs :=
  Kd.R_kept h hw.kept (fun b hb ⟨p, hp', e⟩ => by have := hp p hp'; omega)
theorem below_wr (hb : Below w.heap.size w W) (hw : Wr W W1 pls k) (hp : ∀ p ∈ pls, lo' ≤ p.1 ∧ p.1 < hi') (hl : w.heap.size ≤ lo') : Below w.heap.size w W1 :=
  hb.trans ⟨hw.same.1, hw.same.2.1, hw.same.2.2, hw.hd.size, fun b hb' => hw.kept.2 b (Nat.lt_of_lt_of_le hb' hb.size) (fun ⟨p, hp', e⟩ => by have := hp p hp'; omega)⟩
/-- The same, in the span that is known. -/
theorem places_in {E : El} {cnt : α → Nat} {sz : Nat} (hE : Mk d E cnt) (hs : d.sz = sz) (h : d.R e W base (fun b => lo ≤ b ∧ b < hi) v xs) : ∃ pls, Row sz E W v pls ∧ pls.length = sumOf cnt xs ∧ ∀ p ∈ pls, lo ≤ p.1 ∧ p.1 < hi := by
  subst hs
  exact row_of_R hE (Kd.R_reads h).choose_spec.choose_spec.2.2.2.1 h
/-- A block that a mark doesn't write. -/
theorem blk_wr {g : Nat} {o : Obj} (h : W.heap[g]? = some o) (hw : Wr W W1 pls k) (hp : ∀ p ∈ pls, lo' ≤ p.1 ∧ p.1 < hi') (hd : g < lo' ∨ hi' ≤ g) : W1.heap[g]? = some o :=
  (hw.kept.2 g (blk_lt h) (fun ⟨p, hp', e⟩ => by have := hp p hp'; omega)).trans h
theorem blk_keep {g : Nat} {o : Obj} (h : W.heap[g]? = some o) (hk : Kept W W1 (fun b => lo' ≤ b ∧ b < hi')) (hd : g < lo' ∨ hi' ≤ g) : W1.heap[g]? = some o :=
  (hk.2 g (blk_lt h) (fun hb => by omega)).trans h
theorem blk_off {g g' : Nat} {o : Obj} (h : W.heap[g]? = some o) (hne : g ≠ g') (j : Nat) (u : Value) : (W.setCell ⟨g', j, none⟩ u).heap[g]? = some o :=
  (Below.heap_setCell W ⟨g', j, none⟩ u g hne).trans h
theorem mk_pair {E1 E2 : El} {c1 : α → Nat} {c2 : β → Nat} (h1 : Mk d E1 c1) (h2 : Mk d' E2 c2) (hs : d.sz = 1) : Mk (Kd.pair d d') (ePair E1 E2) (fun x => c1 x.1 + c2 x.2) := by
  rintro W base ok x cs g o ⟨a, b, rfl, ha, hb⟩ hc
  have hl : a.length = 1 := (d.K_len (d.K_of_M ha)).trans hs
  obtain ⟨p1, q1, l1, m1⟩ := h1 ha (g := g) (o := o) (fun i u hu => hc i u (by
    rw [List.getElem?_append_left (List.getElem?_eq_some_iff.1 hu).1]; exact hu))
  obtain ⟨p2, q2, l2, m2⟩ := h2 hb (g := g) (o := o + 1) (fun i u hu => by
    have := hc (1 + i) u (by rw [List.getElem?_append_right (by omega), hl, Nat.add_sub_cancel_left]; exact hu)
    rwa [← Nat.add_assoc] at this)
  refine ⟨p1 ++ p2, ⟨p1, p2, q1, q2, rfl⟩, by rw [List.length_append, l1, l2], fun p hp => ?_⟩
  rcases List.mem_append.1 hp with hp | hp
  · exact m1 p hp
  · exact m2 p hp
theorem mk_iso {E : El} {cnt : α → Nat} (f : β → α) (h : Mk d E cnt) : Mk (Kd.iso d f) E (fun x => cnt (f x)) := fun hM hc => h hM hc
end Go.Proofs.Ytjiipeidginjnaa.LawM

namespace Go.Proofs.Ytjiipeidginjnaa.LayI
open Go.RowKit Go.Proofs.Ytjiipeidginjnaa.P Go.Proofs.YtjiipeidginjnaaW.PrintWords Go.Proofs.YtjiipeidginjnaaW.PrintLast Go.Proofs.YtjiipeidginjnaaW.PrintMore Go.Proofs.Ytjiipeidginjnaa.Lay
attribute [local go_sem] max2_int min2_int max_two min_two max_three min_three max_four min_four
set_option linter.unusedVariables false
set_option linter.unusedSimpArgs false

theorem flat_le {ass : List Pl} {i : Nat} : ((ass.take i).flatten).length ≤ ass.flatten.length := by
  conv => rhs; rw [← List.take_append_drop i ass, List.flatten_append, List.length_append]
  omega
theorem flat_lt {ass : List Pl} {i : Nat} (h : i < ass.length) : ((ass.take i).flatten).length + ass[i].length ≤ ass.flatten.length := by
  have := flat_le (ass := ass) (i := i + 1)
  rw [flat_take h, List.length_append] at this
  exact this
theorem flat_all (ass : List Pl) {n : Nat} (h : ass.length = n) : ass.take n = ass := List.take_of_length_le (by omega)
theorem flat_mem {ass : List Pl} {i : Nat} {p : Nat × Nat} (h : p ∈ (ass.take i).flatten) : p ∈ ass.flatten := by
  rw [← List.take_append_drop i ass, List.flatten_append]
  exact List.mem_append_left _ h
set_option maxHeartbeats 8000000 in
set_option maxRecDepth 100000 in
theorem markIntS (v : Value) (ps : Pl) (a : Int) (w : World) (h : Row 1 eInt w v ps) (h0 : 0 ≤ a) (h1 : a + ps.length ≤ 4611686018427387000) :
    Calls Try.prog 30 #[v, .int .i64 a] w fun e w' => e = .returned (.int .i64 (a + ps.length)) ∧ Wr w w' ps a := by
  have hin := in_row in_int _ _ _ h
  obtain ⟨A, n, c, rfl, hn, ass, hl, hpf, hr⟩ := h.open_
  have HF := Aside0.mk hpf
  have HN := Aside0.mk hn
  have HL := Aside0.mk hl
  have HR := Aside0.mk hr
  have HI := Aside0.mk hin
  have H1 := Aside0.mk h1
  have H0 := Aside0.mk h0
  clear hn hr hin h1 h0 h hl hpf
  go_enter Try.func30, Try.ntmps30
  go_wp2
  go_loopg [1, 5] (n + 1) (fun kq v1 v5 w' => ∃ (x1 : Int) (x5 : Int), v1 = .int .i64 x1 ∧ v5 = .int .i64 x5 ∧ Aside0 (∃ i : Nat, x5 = (i : Int) ∧ i + kq = n + 1 ∧ x1 = a + ((ass.take i).flatten.length : Int) ∧ Wr w w' (ass.take i).flatten a) ∧ Aside0 (1 ≤ kq))
  case atStart => exact ⟨a, 0, rfl, rfl, ⟨0, rfl, by omega, by simp, by simpa using Wr.nil w a⟩, ⟨by omega⟩⟩
  case round =>
    obtain ⟨x1, x5, rfl, rfl, HX, HQ⟩ := hrel
    cases gk with
    | zero => exact absurd HQ.out (by omega)
    | succ k1 =>
      by_cases c3 : x5 < (n : Int)
      · obtain ⟨i, hi, hik, hx1, hw⟩ := HX.out
        have hil : i < ass.length := by have := HL.out; omega
        obtain ⟨g, rfl, hE⟩ := HR.out (by omega)
        obtain ⟨hic, hps⟩ := st_int _ _ _ _ _ hw.hd (hE i hil)
        have hsz : ((ass.take i).flatten).length + 1 ≤ ass.flatten.length := by
          have := flat_lt hil; rw [hps] at this; simpa using this
        have hb1 := H1.out
        have hpf := HF.out
        rw [hpf] at hb1
        have hb0 := H0.out
        have hn9 := HN.out
        obtain ⟨hf, y, hc⟩ := hic
        rw [Nat.mul_one] at hc hf
        have hx5 : x5.toNat = i := by omega
        have hcell : wr.cell? ⟨g, x5.toNat, none⟩ = some (.int .i64 y) := by rw [hx5]; exact hc
        have hfro : wr.frozen? ⟨g, x5.toNat, none⟩ = false := by rw [hx5]; exact hf
        have W2 : Aside0 (Wr w (wr.setCell ⟨g, x5.toNat, none⟩ (.int .i64 x1)) (ass.take (i + 1)).flatten a) := ⟨by
          rw [flat_take hil, hps, Nat.mul_one]
          refine Wr.trans hw ?_ (fun p hp => HI.out p (by rw [HF.out]; exact flat_mem hp))
          rw [← hx1, hx5]
          exact Wr.store ⟨hf, y, hc⟩ x1⟩
        have hx1' : wrap64 (x1 + 1) = a + (((ass.take (i + 1)).flatten.length : Nat) : Int) := by
          rw [flat_take hil, hps, List.length_append, List.length_singleton]
          unfold wrap64; omega
        have hx5' : wrap64 (x5 + 1) = ((i + 1 : Nat) : Int) := by unfold wrap64; omega
        have HH := Aside0.mk (show (i + 1) + k1 = n + 1 ∧ 1 ≤ k1 by omega)
        have HX1 := Aside0.mk hx1'
        have HX5 := Aside0.mk hx5'
        have c3b0 : decide (x5 < (n : Int)) = true := decide_eq_true c3
        have p5 : (0 ≤ (x5 : Int)) = True := eq_true (by omega)
        have q5 : (x5 < (n : Int)) = True := eq_true c3
        clear hpf HX HQ hx1' hx5' hsz hb1 hb0 hn9 hik hx1 hi hil hx5 hc hf hE c3 hw hps
        go_wp2_with (first | ((with_reducible refine gate_store (t := 3) (p := 15) rfl ?_); refine store_event (t := 3) (p := 15) (v := ?vo_w8) (w1 := (wr.setCell ⟨g, (x5 : Int).toNat, none⟩ (.int .i64 x1))) ?hg ?ho ?hn ?hr ?_; (case ho => rfl); (case hg => rfl); (case hn => rfl); (case hr => first | (go_simp; done) | (go_simp; rfl)); intro w8 hw; rw [← hw] at W2; clear hw))
        go_roundg k1
        case measure => exact Nat.lt_succ_self _
        case rel => exact ⟨_, _, rfl, rfl, ⟨i + 1, HX5.out, HH.out.1, HX1.out, W2.out⟩, ⟨HH.out.2⟩⟩
      · have c3b0 : decide (x5 < (n : Int)) = false := decide_eq_false c3
        go_wp2
        go_ret
        obtain ⟨i, hi, hik, hx1, hw⟩ := HX.out
        have hq := HQ.out
        have hi' : i = n := by omega
        subst hi'
        rw [flat_all ass HL.out, ← HF.out] at hx1 hw
        exact ⟨by rw [hx1]; rfl, hw⟩
end Go.Proofs.Ytjiipeidginjnaa.LayI

namespace Go.Proofs.Ytjiipeidginjnaa.LayI
open Go.RowKit Go.Proofs.Ytjiipeidginjnaa.P Go.Proofs.YtjiipeidginjnaaW.PrintWords Go.Proofs.YtjiipeidginjnaaW.PrintLast Go.Proofs.YtjiipeidginjnaaW.PrintMore Go.Proofs.Ytjiipeidginjnaa.Lay
attribute [local go_sem] max2_int min2_int max_two min_two max_three min_three max_four min_four
set_option linter.unusedVariables false
set_option linter.unusedSimpArgs false
set_option maxHeartbeats 8000000 in
set_option maxRecDepth 100000 in
theorem markIntSS (v : Value) (ps : Pl) (a : Int) (w : World) (h : Row 1 (eRow (Row 1 eInt)) w v ps) (h0 : 0 ≤ a) (h1 : a + ps.length ≤ 4611686018427387000) :
    Calls Try.prog 163 #[v, .int .i64 a] w fun e w' => e = .returned (.int .i64 (a + ps.length)) ∧ Wr w w' ps a := by
  have hin := in_row (in_eRow (in_row in_int)) _ _ _ h
  obtain ⟨A, n, c, rfl, hn, ass, hl, hpf, hr⟩ := h.open_
  have HF := Aside0.mk hpf
  have HN := Aside0.mk hn
  have HL := Aside0.mk hl
  have HR := Aside0.mk hr
  have HI := Aside0.mk hin
  have H1 := Aside0.mk h1
  have H0 := Aside0.mk h0
  clear hn hr hin h1 h0 h hl hpf
  go_enter Try.func163, Try.ntmps163
  go_wp2
  go_loopg [1, 5] (n + 1) (fun kq v1 v5 w' => ∃ (x1 : Int) (x5 : Int), v1 = .int .i64 x1 ∧ v5 = .int .i64 x5 ∧ Aside0 (∃ i : Nat, x5 = (i : Int) ∧ i + kq = n + 1 ∧ x1 = a + ((ass.take i).flatten.length : Int) ∧ Wr w w' (ass.take i).flatten a) ∧ Aside0 (1 ≤ kq))
  case atStart => exact ⟨a, 0, rfl, rfl, ⟨0, rfl, by omega, by simp, by simpa using Wr.nil w a⟩, ⟨by omega⟩⟩
  case round =>
    obtain ⟨x1, x5, rfl, rfl, HX, HQ⟩ := hrel
    cases gk with
    | zero => exact absurd HQ.out (by omega)
    | succ k1 =>
      by_cases c3 : x5 < (n : Int)
      · obtain ⟨i, hi, hik, hx1, hw⟩ := HX.out
        have hil : i < ass.length := by have := HL.out; omega
        obtain ⟨g, rfl, hE⟩ := HR.out (by omega)
        have hEi := hE i hil
        have hb1 := H1.out
        have hpf := HF.out
        rw [hpf] at hb1
        have hsz := flat_lt hil
        have hb0 := H0.out
        have hn9 := HN.out
        have hx5 : x5.toNat = i := by omega
        have HH := Aside0.mk (show (i + 1) + k1 = n + 1 ∧ 1 ≤ k1 by omega)
        have HX5 := Aside0.mk (show wrap64 (x5 + 1) = ((i + 1 : Nat) : Int) by unfold wrap64; omega)
        have c3b0 : decide (x5 < (n : Int)) = true := decide_eq_true c3
        have p5 : (0 ≤ (x5 : Int)) = True := eq_true (by omega)
        have q5 : (x5 < (n : Int)) = True := eq_true c3
        have hA := (st_eRow (st_row st_int)) _ _ _ _ _ hw.hd hEi
        obtain ⟨b1, hab⟩ : ∃ b1, ass[i] = b1 := ⟨_, rfl⟩
        rw [hab] at hA
        rw [← hx5] at hA
        rw [Nat.mul_one] at hA
        have hlen : ass[i].length = b1.length := by rw [hab]
        obtain ⟨u0, hc0, hf0, hi0, hrw0⟩ := hA
        obtain ⟨A0, n0, cc0, rfl, hz0⟩ := id hrw0
        clear hz0
        have HC0 := Aside0.mk (show 0 ≤ x1 ∧ x1 + (b1.length : Int) ≤ 4611686018427387000 by omega)
        have hfin : (x1 + (b1.length : Int)) = a + (((ass.take (i + 1)).flatten.length : Nat) : Int) := by rw [flat_take hil, List.length_append, hlen]; omega
        have HFIN := Aside0.mk hfin
        have HWX := Aside0.mk (And.intro hw (And.intro hab hx1))
        clear hfin hw hab hx1 hlen hEi hb1 hsz hb0 hn9 hx5 hpf HX HQ hik hi c3 hE
        go_wp2_with (first | ((with_reducible refine gate_callee (f := 30) rfl ?_); refine goesL_ (some 17) rfl rfl Try.func30 (by kernel_rfl) rfl #[.slice A0 n0 cc0, .int .i64 x1] rfl (by (try simp only [List.map_toArray, List.map_cons, List.map_nil]); first | done | rfl) ?_; (with_reducible refine (markIntS _ b1 x1 _ hrw0 ?k0 ?k1).mono ?_); (case k0 => exact HC0.out.1); (case k1 => exact HC0.out.2); rintro e w80 ⟨rfl, WW0⟩; refine ⟨_, rfl, ?_⟩; skip))
        have W2 : Wr w w80 (ass.take (i + 1)).flatten a := by
          obtain ⟨hw, hab, hx1⟩ := HWX.out
          rw [flat_take hil, hab]
          refine Wr.trans hw ?_ (fun p hp => HI.out p (by rw [HF.out]; exact flat_mem hp))
          rw [← hx1]
          exact WW0
        go_roundg k1
        case measure => exact Nat.lt_succ_self _
        case rel => exact ⟨_, _, rfl, rfl, ⟨i + 1, HX5.out, HH.out.1, HFIN.out, W2⟩, ⟨HH.out.2⟩⟩
      · have c3b0 : decide (x5 < (n : Int)) = false := decide_eq_false c3
        go_wp2
        go_ret
        obtain ⟨i, hi, hik, hx1, hw⟩ := HX.out
        have hq := HQ.out
        have hi' : i = n := by omega
        subst hi'
        rw [flat_all ass HL.out, ← HF.out] at hx1 hw
        exact ⟨by rw [hx1]; rfl, hw⟩
end Go.Proofs.Ytjiipeidginjnaa.LayI

namespace Go.Proofs.Ytjiipeidginjnaa.LayI
open Go.RowKit Go.Proofs.Ytjiipeidginjnaa.P Go.Proofs.YtjiipeidginjnaaW.PrintWords Go.Proofs.YtjiipeidginjnaaW.PrintLast Go.Proofs.YtjiipeidginjnaaW.PrintMore Go.Proofs.Ytjiipeidginjnaa.Lay
attribute [local go_sem] max2_int min2_int max_two min_two max_three min_three max_four min_four
set_option linter.unusedVariables false
set_option linter.unusedSimpArgs false
set_option maxHeartbeats 8000000 in
set_option maxRecDepth 100000 in
theorem markIntSSS (v : Value) (ps : Pl) (a : Int) (w : World) (h : Row 1 (eRow (Row 1 (eRow (Row 1 eInt)))) w v ps) (h0 : 0 ≤ a) (h1 : a + ps.length ≤ 4611686018427387000) :
    Calls Try.prog 114 #[v, .int .i64 a] w fun e w' => e = .returned (.int .i64 (a + ps.length)) ∧ Wr w w' ps a := by
  have hin := in_row (in_eRow (in_row (in_eRow (in_row in_int)))) _ _ _ h
  obtain ⟨A, n, c, rfl, hn, ass, hl, hpf, hr⟩ := h.open_
  have HF := Aside0.mk hpf
  have HN := Aside0.mk hn
  have HL := Aside0.mk hl
  have HR := Aside0.mk hr
  have HI := Aside0.mk hin
  have H1 := Aside0.mk h1
  have H0 := Aside0.mk h0
  clear hn hr hin h1 h0 h hl hpf
  go_enter Try.func114, Try.ntmps114
  go_wp2
  go_loopg [1, 5] (n + 1) (fun kq v1 v5 w' => ∃ (x1 : Int) (x5 : Int), v1 = .int .i64 x1 ∧ v5 = .int .i64 x5 ∧ Aside0 (∃ i : Nat, x5 = (i : Int) ∧ i + kq = n + 1 ∧ x1 = a + ((ass.take i).flatten.length : Int) ∧ Wr w w' (ass.take i).flatten a) ∧ Aside0 (1 ≤ kq))
  case atStart => exact ⟨a, 0, rfl, rfl, ⟨0, rfl, by omega, by simp, by simpa using Wr.nil w a⟩, ⟨by omega⟩⟩
  case round =>
    obtain ⟨x1, x5, rfl, rfl, HX, HQ⟩ := hrel
    cases gk with
    | zero => exact absurd HQ.out (by omega)
    | succ k1 =>
      by_cases c3 : x5 < (n : Int)
      · obtain ⟨i, hi, hik, hx1, hw⟩ := HX.out
        have hil : i < ass.length := by have := HL.out; omega
        obtain ⟨g, rfl, hE⟩ := HR.out (by omega)
        have hEi := hE i hil
        have hb1 := H1.out
        have hpf := HF.out
        rw [hpf] at hb1
        have hsz := flat_lt hil
        have hb0 := H0.out
        have hn9 := HN.out
        have hx5 : x5.toNat = i := by omega
        have HH := Aside0.mk (show (i + 1) + k1 = n + 1 ∧ 1 ≤ k1 by omega)
        have HX5 := Aside0.mk (show wrap64 (x5 + 1) = ((i + 1 : Nat) : Int) by unfold wrap64; omega)
        have c3b0 : decide (x5 < (n : Int)) = true := decide_eq_true c3
        have p5 : (0 ≤ (x5 : Int)) = True := eq_true (by omega)
        have q5 : (x5 < (n : Int)) = True := eq_true c3
        have hA := (st_eRow (st_row (st_eRow (st_row st_int)))) _ _ _ _ _ hw.hd hEi
        obtain ⟨b1, hab⟩ : ∃ b1, ass[i] = b1 := ⟨_, rfl⟩
        rw [hab] at hA
        rw [← hx5] at hA
        rw [Nat.mul_one] at hA
        have hlen : ass[i].length = b1.length := by rw [hab]
        obtain ⟨u0, hc0, hf0, hi0, hrw0⟩ := hA
        obtain ⟨A0, n0, cc0, rfl, hz0⟩ := id hrw0
        clear hz0
        have HC0 := Aside0.mk (show 0 ≤ x1 ∧ x1 + (b1.length : Int) ≤ 4611686018427387000 by omega)
        have hfin : (x1 + (b1.length : Int)) = a + (((ass.take (i + 1)).flatten.length : Nat) : Int) := by rw [flat_take hil, List.length_append, hlen]; omega
        have HFIN := Aside0.mk hfin
        have HWX := Aside0.mk (And.intro hw (And.intro hab hx1))
        clear hfin hw hab hx1 hlen hEi hb1 hsz hb0 hn9 hx5 hpf HX HQ hik hi c3 hE
        go_wp2_with (first | ((with_reducible refine gate_callee (f := 163) rfl ?_); refine goesL_ (some 17) rfl rfl Try.func163 (by kernel_rfl) rfl #[.slice A0 n0 cc0, .int .i64 x1] rfl (by (try simp only [List.map_toArray, List.map_cons, List.map_nil]); first | done | rfl) ?_; (with_reducible refine (markIntSS _ b1 x1 _ hrw0 ?k0 ?k1).mono ?_); (case k0 => exact HC0.out.1); (case k1 => exact HC0.out.2); rintro e w80 ⟨rfl, WW0⟩; refine ⟨_, rfl, ?_⟩; skip))
        have W2 : Wr w w80 (ass.take (i + 1)).flatten a := by
          obtain ⟨hw, hab, hx1⟩ := HWX.out
          rw [flat_take hil, hab]
          refine Wr.trans hw ?_ (fun p hp => HI.out p (by rw [HF.out]; exact flat_mem hp))
          rw [← hx1]
          exact WW0
        go_roundg k1
        case measure => exact Nat.lt_succ_self _
        case rel => exact ⟨_, _, rfl, rfl, ⟨i + 1, HX5.out, HH.out.1, HFIN.out, W2⟩, ⟨HH.out.2⟩⟩
      · have c3b0 : decide (x5 < (n : Int)) = false := decide_eq_false c3
        go_wp2
        go_ret
        obtain ⟨i, hi, hik, hx1, hw⟩ := HX.out
        have hq := HQ.out
        have hi' : i = n := by omega
        subst hi'
        rw [flat_all ass HL.out, ← HF.out] at hx1 hw
        exact ⟨by rw [hx1]; rfl, hw⟩
end Go.Proofs.Ytjiipeidginjnaa.LayI

namespace Go.Proofs.Ytjiipeidginjnaa.LayI
open Go.RowKit Go.Proofs.Ytjiipeidginjnaa.P Go.Proofs.YtjiipeidginjnaaW.PrintWords Go.Proofs.YtjiipeidginjnaaW.PrintLast Go.Proofs.YtjiipeidginjnaaW.PrintMore Go.Proofs.Ytjiipeidginjnaa.Lay
attribute [local go_sem] max2_int min2_int max_two min_two max_three min_three max_four min_four
set_option linter.unusedVariables false
set_option linter.unusedSimpArgs false
set_option maxHeartbeats 8000000 in
set_option maxRecDepth 100000 in
theorem markAtomS (v : Value) (ps : Pl) (a : Int) (w : World) (h : Row 2 (ePair eInt (eRow (Row 1 eInt))) w v ps) (h0 : 0 ≤ a) (h1 : a + ps.length ≤ 4611686018427387000) :
    Calls Try.prog 82 #[v, .int .i64 a] w fun e w' => e = .returned (.int .i64 (a + ps.length)) ∧ Wr w w' ps a := by
  have hin := in_row (in_pair in_int (in_eRow (in_row in_int))) _ _ _ h
  obtain ⟨A, n, c, rfl, hn, ass, hl, hpf, hr⟩ := h.open_
  have HF := Aside0.mk hpf
  have HN := Aside0.mk hn
  have HL := Aside0.mk hl
  have HR := Aside0.mk hr
  have HI := Aside0.mk hin
  have H1 := Aside0.mk h1
  have H0 := Aside0.mk h0
  clear hn hr hin h1 h0 h hl hpf
  have hu153 := Try.underlying153
  go_enter Try.func82, Try.ntmps82
  go_wp2
  go_loopg [1, 5] (n + 1) (fun kq v1 v5 w' => ∃ (x1 : Int) (x5 : Int), v1 = .int .i64 x1 ∧ v5 = .int .i64 x5 ∧ Aside0 (∃ i : Nat, x5 = (i : Int) ∧ i + kq = n + 1 ∧ x1 = a + ((ass.take i).flatten.length : Int) ∧ Wr w w' (ass.take i).flatten a) ∧ Aside0 (1 ≤ kq))
  case atStart => exact ⟨a, 0, rfl, rfl, ⟨0, rfl, by omega, by simp, by simpa using Wr.nil w a⟩, ⟨by omega⟩⟩
  case round =>
    obtain ⟨x1, x5, rfl, rfl, HX, HQ⟩ := hrel
    cases gk with
    | zero => exact absurd HQ.out (by omega)
    | succ k1 =>
      by_cases c3 : x5 < (n : Int)
      · obtain ⟨i, hi, hik, hx1, hw⟩ := HX.out
        have hil : i < ass.length := by have := HL.out; omega
        obtain ⟨g, rfl, hE⟩ := HR.out (by omega)
        have hEi := hE i hil
        have hb1 := H1.out
        have hpf := HF.out
        rw [hpf] at hb1
        have hsz := flat_lt hil
        have hb0 := H0.out
        have hn9 := HN.out
        have hx5 : x5.toNat = i := by omega
        have HH := Aside0.mk (show (i + 1) + k1 = n + 1 ∧ 1 ≤ k1 by omega)
        have HX5 := Aside0.mk (show wrap64 (x5 + 1) = ((i + 1 : Nat) : Int) by unfold wrap64; omega)
        have c3b0 : decide (x5 < (n : Int)) = true := decide_eq_true c3
        have p5 : (0 ≤ (x5 : Int)) = True := eq_true (by omega)
        have q5 : (x5 < (n : Int)) = True := eq_true c3
        obtain ⟨b1, b2, hA, hB, hab⟩ := (st_pair st_int (st_eRow (st_row st_int))) _ _ _ _ _ hw.hd hEi
        rw [← hx5] at hA hB
        have hlen : ass[i].length = b1.length + b2.length := by rw [hab]; exact List.length_append
        obtain ⟨⟨hf0, y0, hc0⟩, he0⟩ := hA
        have e0 := Aside0.mk he0
        have el0 : b1.length = 1 := by rw [he0]; rfl
        clear he0
        obtain ⟨u1, hc1, hf1, hi1, hrw1⟩ := hB
        obtain ⟨A1, n1, cc1, rfl, hz1⟩ := id hrw1
        clear hz1
        have ew0 : wrap64 (x1 + 1) = x1 + (b1.length : Int) := by rw [el0]; unfold wrap64; omega
        have HC1 := Aside0.mk (show 0 ≤ wrap64 (x1 + 1) ∧ wrap64 (x1 + 1) + (b2.length : Int) ≤ 4611686018427387000 by rw [ew0]; omega)
        have hfin : (wrap64 (x1 + 1) + (b2.length : Int)) = a + (((ass.take (i + 1)).flatten.length : Nat) : Int) := by rw [flat_take hil, List.length_append, hlen]; rw [ew0]; omega
        have HFIN := Aside0.mk hfin
        have HWX := Aside0.mk (And.intro hw (And.intro hab hx1))
        have EW0 := Aside0.mk ew0
        clear ew0 el0
        clear hfin hw hab hx1 hlen hEi hb1 hsz hb0 hn9 hx5 hpf HX HQ hik hi c3 hE
        go_wp2_with (first | ((with_reducible refine gate_store (t := 3) (p := 16) rfl ?_); refine store_event (t := 3) (p := 16) (v := ?vo_w8) (w1 := (wr.setCell ⟨g, x5.toNat * 2, none⟩ (.int .i64 x1))) ?hg ?ho ?hn ?hr ?_; (case ho => rfl); (case hg => rfl); (case hn => rfl); (case hr => first | (go_simp; done) | (go_simp; rfl)); intro w80 hw_; have WW0 : Wr wr w80 b1 (x1) := (by rw [hw_, e0.out]; exact Wr.store ⟨hf0, y0, hc0⟩ _); clear hw_; obtain ⟨hf1_, v1_, hc1_, ev1_⟩ := WW0.hd.cell g (x5.toNat * 2 + 1) _ hc1 hf1; (rcases ev1_ with ev1_ | ev1_); rotate_left; (exact absurd ev1_.1 hi1); subst ev1_; have hrw1_ := st_row st_int _ _ _ _ WW0.hd hrw1; clear hc1 hf1 hrw1; have hc1 := hc1_; have hf1 := hf1_; have hrw1 := hrw1_; clear hc1_ hf1_ hrw1_) | ((with_reducible refine gate_callee (f := 30) rfl ?_); refine goesL_ (some 25) rfl rfl Try.func30 (by kernel_rfl) rfl #[.slice A1 n1 cc1, .int .i64 (wrap64 (x1 + 1))] rfl (by (try simp only [List.map_toArray, List.map_cons, List.map_nil]); first | done | rfl) ?_; (with_reducible refine (markIntS _ b2 (wrap64 (x1 + 1)) _ hrw1 ?k0 ?k1).mono ?_); (case k0 => exact HC1.out.1); (case k1 => exact HC1.out.2); rintro e w81 ⟨rfl, WW1⟩; refine ⟨_, rfl, ?_⟩; skip))
        have W2 : Wr w w81 (ass.take (i + 1)).flatten a := by
          obtain ⟨hw, hab, hx1⟩ := HWX.out
          rw [flat_take hil, hab]
          refine Wr.trans hw ?_ (fun p hp => HI.out p (by rw [HF.out]; exact flat_mem hp))
          rw [← hx1]
          have WA := WW0
          have WB := WW1
          rw [EW0.out] at WB
          refine Wr.trans WA WB (fun p hp => ?_)
          have hm := HI.out p (by rw [HF.out]; exact List.mem_flatten.2 ⟨_, List.getElem_mem hil, by rw [hab]; exact List.mem_append_left _ hp⟩)
          exact Nat.lt_of_lt_of_le hm hw.hd.size
        go_roundg k1
        case measure => exact Nat.lt_succ_self _
        case rel => exact ⟨_, _, rfl, rfl, ⟨i + 1, HX5.out, HH.out.1, HFIN.out, W2⟩, ⟨HH.out.2⟩⟩
      · have c3b0 : decide (x5 < (n : Int)) = false := decide_eq_false c3
        go_wp2
        go_ret
        obtain ⟨i, hi, hik, hx1, hw⟩ := HX.out
        have hq := HQ.out
        have hi' : i = n := by omega
        subst hi'
        rw [flat_all ass HL.out, ← HF.out] at hx1 hw
        exact ⟨by rw [hx1]; rfl, hw⟩
end Go.Proofs.Ytjiipeidginjnaa.LayI

namespace Go.Proofs.Ytjiipeidginjnaa.LayI
open Go.RowKit Go.Proofs.Ytjiipeidginjnaa.P Go.Proofs.YtjiipeidginjnaaW.PrintWords Go.Proofs.YtjiipeidginjnaaW.PrintLast Go.Proofs.YtjiipeidginjnaaW.PrintMore Go.Proofs.Ytjiipeidginjnaa.Lay
attribute [local go_sem] max2_int min2_int max_two min_two max_three min_three max_four min_four
set_option linter.unusedVariables false
set_option linter.unusedSimpArgs false
set_option maxHeartbeats 8000000 in
set_option maxRecDepth 100000 in
theorem markQueryS (v : Value) (ps : Pl) (a : Int) (w : World) (h : Row 2 (ePair (eRow (Row 1 eInt)) (eRow (Row 2 (ePair eInt (eRow (Row 1 eInt)))))) w v ps) (h0 : 0 ≤ a) (h1 : a + ps.length ≤ 4611686018427387000) :
    Calls Try.prog 29 #[v, .int .i64 a] w fun e w' => e = .returned (.int .i64 (a + ps.length)) ∧ Wr w w' ps a := by
  have hin := in_row (in_pair (in_eRow (in_row in_int)) (in_eRow (in_row (in_pair in_int (in_eRow (in_row in_int)))))) _ _ _ h
  obtain ⟨A, n, c, rfl, hn, ass, hl, hpf, hr⟩ := h.open_
  have HF := Aside0.mk hpf
  have HN := Aside0.mk hn
  have HL := Aside0.mk hl
  have HR := Aside0.mk hr
  have HI := Aside0.mk hin
  have H1 := Aside0.mk h1
  have H0 := Aside0.mk h0
  clear hn hr hin h1 h0 h hl hpf
  have hu72 := Try.underlying72
  go_enter Try.func29, Try.ntmps29
  go_wp2
  go_loopg [1, 5] (n + 1) (fun kq v1 v5 w' => ∃ (x1 : Int) (x5 : Int), v1 = .int .i64 x1 ∧ v5 = .int .i64 x5 ∧ Aside0 (∃ i : Nat, x5 = (i : Int) ∧ i + kq = n + 1 ∧ x1 = a + ((ass.take i).flatten.length : Int) ∧ Wr w w' (ass.take i).flatten a) ∧ Aside0 (1 ≤ kq))
  case atStart => exact ⟨a, 0, rfl, rfl, ⟨0, rfl, by omega, by simp, by simpa using Wr.nil w a⟩, ⟨by omega⟩⟩
  case round =>
    obtain ⟨x1, x5, rfl, rfl, HX, HQ⟩ := hrel
    cases gk with
    | zero => exact absurd HQ.out (by omega)
    | succ k1 =>
      by_cases c3 : x5 < (n : Int)
      · obtain ⟨i, hi, hik, hx1, hw⟩ := HX.out
        have hil : i < ass.length := by have := HL.out; omega
        obtain ⟨g, rfl, hE⟩ := HR.out (by omega)
        have hEi := hE i hil
        have hb1 := H1.out
        have hpf := HF.out
        rw [hpf] at hb1
        have hsz := flat_lt hil
        have hb0 := H0.out
        have hn9 := HN.out
        have hx5 : x5.toNat = i := by omega
        have HH := Aside0.mk (show (i + 1) + k1 = n + 1 ∧ 1 ≤ k1 by omega)
        have HX5 := Aside0.mk (show wrap64 (x5 + 1) = ((i + 1 : Nat) : Int) by unfold wrap64; omega)
        have c3b0 : decide (x5 < (n : Int)) = true := decide_eq_true c3
        have p5 : (0 ≤ (x5 : Int)) = True := eq_true (by omega)
        have q5 : (x5 < (n : Int)) = True := eq_true c3
        obtain ⟨b1, b2, hA, hB, hab⟩ := (st_pair (st_eRow (st_row st_int)) (st_eRow (st_row (st_pair st_int (st_eRow (st_row st_int)))))) _ _ _ _ _ hw.hd hEi
        rw [← hx5] at hA hB
        have hlen : ass[i].length = b1.length + b2.length := by rw [hab]; exact List.length_append
        obtain ⟨u0, hc0, hf0, hi0, hrw0⟩ := hA
        obtain ⟨A0, n0, cc0, rfl, hz0⟩ := id hrw0
        clear hz0
        obtain ⟨u1, hc1, hf1, hi1, hrw1⟩ := hB
        obtain ⟨A1, n1, cc1, rfl, hz1⟩ := id hrw1
        clear hz1
        have HC0 := Aside0.mk (show 0 ≤ x1 ∧ x1 + (b1.length : Int) ≤ 4611686018427387000 by omega)
        have HC1 := Aside0.mk (show 0 ≤ (x1 + (b1.length : Int)) ∧ (x1 + (b1.length : Int)) + (b2.length : Int) ≤ 4611686018427387000 by omega)
        have hfin : ((x1 + (b1.length : Int)) + (b2.length : Int)) = a + (((ass.take (i + 1)).flatten.length : Nat) : Int) := by rw [flat_take hil, List.length_append, hlen]; omega
        have HFIN := Aside0.mk hfin
        have HWX := Aside0.mk (And.intro hw (And.intro hab hx1))
        clear hfin hw hab hx1 hlen hEi hb1 hsz hb0 hn9 hx5 hpf HX HQ hik hi c3 hE
        go_wp2_with (first | ((with_reducible refine gate_callee (f := 30) rfl ?_); refine goesL_ (some 18) rfl rfl Try.func30 (by kernel_rfl) rfl #[.slice A0 n0 cc0, .int .i64 x1] rfl (by (try simp only [List.map_toArray, List.map_cons, List.map_nil]); first | done | rfl) ?_; (with_reducible refine (markIntS _ b1 x1 _ hrw0 ?k0 ?k1).mono ?_); (case k0 => exact HC0.out.1); (case k1 => exact HC0.out.2); rintro e w80 ⟨rfl, WW0⟩; refine ⟨_, rfl, ?_⟩; obtain ⟨hf1_, v1_, hc1_, ev1_⟩ := WW0.hd.cell g (x5.toNat * 2 + 1) _ hc1 hf1; (rcases ev1_ with ev1_ | ev1_); rotate_left; (exact absurd ev1_.1 hi1); subst ev1_; have hrw1_ := st_row (st_pair st_int (st_eRow (st_row st_int))) _ _ _ _ WW0.hd hrw1; clear hc1 hf1 hrw1; have hc1 := hc1_; have hf1 := hf1_; have hrw1 := hrw1_; clear hc1_ hf1_ hrw1_) | ((with_reducible refine gate_callee (f := 82) rfl ?_); refine goesL_ (some 25) rfl rfl Try.func82 (by kernel_rfl) rfl #[.slice A1 n1 cc1, .int .i64 ((x1 + (b1.length : Int)))] rfl (by (try simp only [List.map_toArray, List.map_cons, List.map_nil]); first | done | rfl) ?_; (with_reducible refine (markAtomS _ b2 ((x1 + (b1.length : Int))) _ hrw1 ?k0 ?k1).mono ?_); (case k0 => exact HC1.out.1); (case k1 => exact HC1.out.2); rintro e w81 ⟨rfl, WW1⟩; refine ⟨_, rfl, ?_⟩; skip))
        have W2 : Wr w w81 (ass.take (i + 1)).flatten a := by
          obtain ⟨hw, hab, hx1⟩ := HWX.out
          rw [flat_take hil, hab]
          refine Wr.trans hw ?_ (fun p hp => HI.out p (by rw [HF.out]; exact flat_mem hp))
          rw [← hx1]
          have WA := WW0
          have WB := WW1
          refine Wr.trans WA WB (fun p hp => ?_)
          have hm := HI.out p (by rw [HF.out]; exact List.mem_flatten.2 ⟨_, List.getElem_mem hil, by rw [hab]; exact List.mem_append_left _ hp⟩)
          exact Nat.lt_of_lt_of_le hm hw.hd.size
        go_roundg k1
        case measure => exact Nat.lt_succ_self _
        case rel => exact ⟨_, _, rfl, rfl, ⟨i + 1, HX5.out, HH.out.1, HFIN.out, W2⟩, ⟨HH.out.2⟩⟩
      · have c3b0 : decide (x5 < (n : Int)) = false := decide_eq_false c3
        go_wp2
        go_ret
        obtain ⟨i, hi, hik, hx1, hw⟩ := HX.out
        have hq := HQ.out
        have hi' : i = n := by omega
        subst hi'
        rw [flat_all ass HL.out, ← HF.out] at hx1 hw
        exact ⟨by rw [hx1]; rfl, hw⟩
end Go.Proofs.Ytjiipeidginjnaa.LayI

namespace Go.Proofs.Ytjiipeidginjnaa.LayI
open Go.RowKit Go.Proofs.Ytjiipeidginjnaa.P Go.Proofs.YtjiipeidginjnaaW.PrintWords Go.Proofs.YtjiipeidginjnaaW.PrintLast Go.Proofs.YtjiipeidginjnaaW.PrintMore Go.Proofs.Ytjiipeidginjnaa.Lay Go.Proofs.Ytjiipeidginjnaa.LawM
attribute [local go_sem] max2_int min2_int max_two min_two max_three min_three max_four min_four
set_option linter.unusedVariables false
set_option linter.unusedSimpArgs false
set_option maxHeartbeats 8000000 in
set_option maxRecDepth 100000 in
theorem markCache (A0 : Option Addr) (n0 c0 : Nat) (A1 : Option Addr) (n1 c1 : Nat) (x2 : Int) (p0 : Pl) (p1 : Pl) (a : Int) (w : World) (h0_ : Row 2 (ePair (eRow (Row 1 eInt)) (eRow (Row 2 (ePair eInt (eRow (Row 1 eInt)))))) w (.slice A0 n0 c0) p0) (h1_ : Row 1 (eRow (Row 1 (eRow (Row 1 eInt)))) w (.slice A1 n1 c1) p1) (h0 : 0 ≤ a) (h1 : a + (p0.length : Int) + (p1.length : Int) ≤ 4611686018427387000) :
    Calls Try.prog 63 #[.agg #[.slice A0 n0 c0, .slice A1 n1 c1, .int .i64 x2], .int .i64 a] w fun e w' => e = .returned (.int .i64 (a + (p0.length : Int) + (p1.length : Int))) ∧ Wr w w' (p0 ++ p1) a := by
  have hu60 := Try.underlying60
  have HR0 := Aside0.mk h0_
  have HI0 := Aside0.mk (in_row (in_pair (in_eRow (in_row in_int)) (in_eRow (in_row (in_pair in_int (in_eRow (in_row in_int)))))) _ _ _ h0_)
  have HR1 := Aside0.mk h1_
  have HI1 := Aside0.mk (in_row (in_eRow (in_row (in_eRow (in_row in_int)))) _ _ _ h1_)
  have H0 := Aside0.mk h0
  have H1 := Aside0.mk h1
  clear h0 h1 h0_ h1_
  go_enter Try.func63, Try.ntmps63
  go_wp2_with (first | ((with_reducible refine gate_dst (N := 2) rfl ?_); refine box_event ?hg (N := 2) ?hd (cs := #[.slice A0 n0 c0, .slice A1 n1 c1, .int .i64 x2]) (t := 60) ?hr ?_; (case hd => rfl); (case hg => rfl); (case hr => first | (go_simp; done) | (go_simp; rfl)); intro gb hg w80 hbox hb; have BK := Aside0.mk hbox; have GB := Aside0.mk hg; have HW := Aside0.mk (Wr.below hb a); have HR0_ := Aside0.mk (st_row (st_pair (st_eRow (st_row st_int)) (st_eRow (st_row (st_pair st_int (st_eRow (st_row st_int)))))) _ _ _ _ (Hd.below hb) HR0.out); clear HR0; have HR0 := HR0_; clear HR0_; have HR1_ := Aside0.mk (st_row (st_eRow (st_row (st_eRow (st_row st_int)))) _ _ _ _ (Hd.below hb) HR1.out); clear HR1; have HR1 := HR1_; clear HR1_; have hc0 : w80.cell? ⟨gb, 0, none⟩ = some (.slice A0 n0 c0) := (blk_cell BK.out 0).trans rfl; have hc1 : w80.cell? ⟨gb, 1, none⟩ = some (.slice A1 n1 c1) := (blk_cell BK.out 1).trans rfl; have hc2 : w80.cell? ⟨gb, 2, none⟩ = some (.int .i64 x2) := (blk_cell BK.out 2).trans rfl; clear hbox hg hb) | ((with_reducible refine gate_callee (f := 29) rfl ?_); refine goesL_ (some 8) rfl rfl Try.func29 (by kernel_rfl) rfl #[.slice A0 n0 c0, .int .i64 a] rfl (by (try simp only [List.map_toArray, List.map_cons, List.map_nil]); first | done | rfl) ?_; (with_reducible refine (markQueryS _ p0 a _ HR0.out ?k0 ?k1).mono ?_); (case k0 => have := H0.out; omega); (case k1 => (have := H1.out; omega)); rintro e w81 ⟨rfl, hw⟩; refine ⟨_, rfl, ?_⟩; have HR1_ := Aside0.mk (st_row (st_eRow (st_row (st_eRow (st_row st_int)))) _ _ _ _ hw.hd HR1.out); clear HR1; have HR1 := HR1_; clear HR1_; have HW_ := Aside0.mk (Wr.trans HW.out (by simpa using hw) (fun p hp => absurd hp List.not_mem_nil)); clear HW; have HW := HW_; clear HW_; have BK_ := Aside0.mk (blk_wr BK.out hw (lo' := 0) (hi' := w.heap.size) (fun p hp => ⟨Nat.zero_le _, HI0.out p hp⟩) (.inr (by have := GB.out; omega))); clear BK; have BK := BK_; clear BK_; have hd0 : w81.cell? ⟨gb, 0, none⟩ = some (.slice A0 n0 c0) := (blk_cell BK.out 0).trans rfl; clear hc0; have hc0 := hd0; clear hd0; have hd1 : w81.cell? ⟨gb, 1, none⟩ = some (.slice A1 n1 c1) := (blk_cell BK.out 1).trans rfl; clear hc1; have hc1 := hd1; clear hd1; have hd2 : w81.cell? ⟨gb, 2, none⟩ = some (.int .i64 x2) := (blk_cell BK.out 2).trans rfl; clear hc2; have hc2 := hd2; clear hd2; clear hw) | ((with_reducible refine gate_callee (f := 114) rfl ?_); refine goesL_ (some 12) rfl rfl Try.func114 (by kernel_rfl) rfl #[.slice A1 n1 c1, .int .i64 (a + (p0.length : Int))] rfl (by (try simp only [List.map_toArray, List.map_cons, List.map_nil]); first | done | rfl) ?_; (with_reducible refine (markIntSSS _ p1 (a + (p0.length : Int)) _ HR1.out ?k0 ?k1).mono ?_); (case k0 => have := H0.out; omega); (case k1 => (have := H1.out; omega)); rintro e w82 ⟨rfl, hw⟩; refine ⟨_, rfl, ?_⟩; have HW_ := Aside0.mk (Wr.trans HW.out (by first | exact hw | (have hw_ := hw; simp only [List.length_append, List.length_nil, List.nil_append, Nat.zero_add, Int.natCast_add, Int.natCast_zero, Int.zero_add, Int.add_zero, Int.add_assoc] at hw_ ⊢; exact hw_)) (fun p hp => by simp only [List.nil_append, List.mem_append] at hp; exact HI0.out p hp)); clear HW; have HW := HW_; clear HW_; have BK_ := Aside0.mk (blk_wr BK.out hw (lo' := 0) (hi' := w.heap.size) (fun p hp => ⟨Nat.zero_le _, HI1.out p hp⟩) (.inr (by have := GB.out; omega))); clear BK; have BK := BK_; clear BK_; have hd0 : w82.cell? ⟨gb, 0, none⟩ = some (.slice A0 n0 c0) := (blk_cell BK.out 0).trans rfl; clear hc0; have hc0 := hd0; clear hd0; have hd1 : w82.cell? ⟨gb, 1, none⟩ = some (.slice A1 n1 c1) := (blk_cell BK.out 1).trans rfl; clear hc1; have hc1 := hd1; clear hd1; have hd2 : w82.cell? ⟨gb, 2, none⟩ = some (.int .i64 x2) := (blk_cell BK.out 2).trans rfl; clear hc2; have hc2 := hd2; clear hd2; clear hw))
  go_ret
  exact ⟨rfl, by simpa using HW.out⟩
end Go.Proofs.Ytjiipeidginjnaa.LayI

namespace Go.Proofs.Ytjiipeidginjnaa.PB
open Go.RowKit Go.Proofs.YtjiipeidginjnaaW.PrintWords
set_option linter.unusedVariables false

theorem Ev.pos {α : Type} {c : Prop} [Decidable c] {f g : Nat → Option α} {r : α} (h : c) (k : Ev f r) : Ev (fun n => if c then f n else g n) r :=
  Ev.congr (fun n => if_pos h) k
theorem Ev.neg {α : Type} {c : Prop} [Decidable c] {f g : Nat → Option α} {r : α} (h : ¬ c) (k : Ev g r) : Ev (fun n => if c then f n else g n) r :=
  Ev.congr (fun n => if_neg h) k
theorem Ev.const {α : Type} {x : Option α} {r : α} (h : x = some r) : Ev (fun _ => x) r := ⟨0, fun _ _ => h⟩
/-- A callee without rounds. -/
theorem Ev.bindc {α β : Type} {g : Option α} {f : Nat → α → Option β} {a : α} {r : β} (h : g = some a) (k : Ev (fun n => f n a) r) : Ev (fun n => g.bind (f n)) r := by
  subst h; exact k
theorem Ev.last {α β : Type} {g : Nat → Option α} {a : α} {f : α → β} (h : Ev g a) : Ev (fun n => (g n).bind fun x => some (f x)) (f a) := Ev.bind h (Ev.now _)
theorem Ev.eq {α : Type} {g f : Nat → Option α} {r q : α} (h : Ev g r) (hg : g = f) (hr : r = q) : Ev f q := by subst hg; subst hr; exact h

theorem inc {i : Nat} (h : i < 4611686018427387904) : wrap64 ((i : Int) + 1) = ((i + 1 : Nat) : Int) := by
  unfold wrap64; omega
theorem w64 {n : Int} (h : -9223372036854775808 ≤ n) (h' : n ≤ 9223372036854775807) : wrap64 n = n := by
  unfold wrap64; omega
theorem rd_nat (xs : List Int) (i : Nat) (h : i < xs.length) : rd xs (i : Int) = xs[i] := by
  unfold rd; simp [List.getD_eq_getElem?_getD, h]
theorem rdOf_nat {α : Type} (d : α) (xs : List α) (i : Nat) (h : i < xs.length) : rdOf d xs (i : Int) = xs[i] := by
  unfold rdOf; simp [List.getD_eq_getElem?_getD, h]
theorem getD_nat {α : Type} (d : α) (xs : List α) (i : Nat) (h : i < xs.length) : xs.getD (i : Int).toNat d = xs[i] := by
  simp [List.getD_eq_getElem?_getD, h]
theorem drop_cons {α : Type} {xs : List α} {i : Nat} (h : i < xs.length) : xs.drop i = xs[i] :: xs.drop (i + 1) := by
  exact List.drop_eq_getElem_cons h
theorem take_snoc {α : Type} {xs : List α} {i : Nat} (h : i < xs.length) : xs.take (i + 1) = xs.take i ++ [xs[i]] := by
  exact List.take_succ_eq_append_getElem h
theorem fill_set' {α : Type} (ys : List α) (i d : Nat) (z v : α) (h : ys.length = i) : (ys ++ List.replicate (d + 1) z).set i v = ys ++ [v] ++ List.replicate d z := by
  rw [List.set_append, if_neg (by omega), h, Nat.sub_self]
  simp [List.replicate_succ]
def tsum {α : Type} (f : α → Nat) : List α → Nat
  | [] => 0
  | x :: r => f x + tsum f r
theorem tsum_cons {α : Type} (f : α → Nat) (x : α) (r : List α) : tsum f (x :: r) = f x + tsum f r := rfl
theorem tsum_mem {α : Type} (f : α → Nat) {l : List α} {x : α} (h : x ∈ l) : f x ≤ tsum f l := by
  induction l with
  | nil => simp at h
  | cons y r ih =>
    rcases List.mem_cons.1 h with rfl | h
    · simp [tsum]
    · have := ih h; simp [tsum]; omega
end Go.Proofs.Ytjiipeidginjnaa.PB

namespace Go.Proofs.Ytjiipeidginjnaa.PNum
open Go.RowKit Go.Proofs.Ytjiipeidginjnaa.P Go.Proofs.YtjiipeidginjnaaW.PrintWords Go.Proofs.YtjiipeidginjnaaW.PrintLast Go.Proofs.Ytjiipeidginjnaa.PB
set_option linter.unusedVariables false

theorem sn_append (a b : List Int) : strOfNums (a ++ b) = strOfNums a ++ strOfNums b := by
  apply ByteArray.ext; simp [strOfNums]
theorem sn_nil : strOfNums [] = (⟨#[]⟩ : ByteArray) := rfl
theorem ba_nil (s : ByteArray) : (⟨#[]⟩ : ByteArray) ++ s = s := by
  apply ByteArray.ext; simp
theorem ba_nil' (s : ByteArray) : s ++ (⟨#[]⟩ : ByteArray) = s := by
  apply ByteArray.ext; simp
theorem ba_assoc (a b c : ByteArray) : a ++ b ++ c = a ++ (b ++ c) := by
  apply ByteArray.ext; simp [Array.append_assoc]

/-- A digit's byte. -/
def dg (x : Int) : Int := if Int.tmod x 10 < 0 then (wrap64 (48 + wrap64 (-(Int.tmod x 10)))) % 256 else (wrap64 (48 + Int.tmod x 10)) % 256
/-- The digits, the last one first. -/
def revd : Nat → Int → List Int
  | 0, _ => []
  | f + 1, x => if x = 0 then [] else dg x :: revd f (wrap64 (Int.tdiv x 10))

theorem div_small {f : Nat} {x : Int} (h : x.natAbs < 10 ^ (f + 1)) : (Int.tdiv x 10).natAbs < 10 ^ f := by
  rw [Int.natAbs_tdiv]
  show x.natAbs / 10 < 10 ^ f
  rw [Nat.div_lt_iff_lt_mul (by omega)]
  rw [Nat.pow_succ] at h; exact h
theorem in_range {x : Int} (h : (Lit.int .i64 x).wf = true) : -9223372036854775808 ≤ x ∧ x ≤ 9223372036854775807 := by
  simp only [Lit.wf, Bool.and_eq_true, decide_eq_true_eq] at h
  exact ⟨by have := h.1; simpa [IntKind.min, IntKind.bits, IntKind.signed] using this, by have := h.2; simpa [IntKind.max, IntKind.bits, IntKind.signed] using this⟩
theorem tdiv_wrap {x : Int} (h : x.natAbs ≤ 9223372036854775808) : wrap64 (Int.tdiv x 10) = Int.tdiv x 10 := by
  have : (Int.tdiv x 10).natAbs ≤ 922337203685477580 := by
    rw [Int.natAbs_tdiv]; show x.natAbs / 10 ≤ _; omega
  exact w64 (by omega) (by omega)
theorem tdiv_abs {x : Int} (h : x.natAbs ≤ 9223372036854775808) : (Int.tdiv x 10).natAbs ≤ 9223372036854775808 := by
  rw [Int.natAbs_tdiv]; show x.natAbs / 10 ≤ _; omega

theorem spec_loop (neg : Bool) : ∀ (f : Nat) (x : Int) (s : ByteArray), f ≤ 40 → x.natAbs < 10 ^ f → x.natAbs ≤ 9223372036854775808 → s.size + f ≤ 100 →
    Ev (fun k => spec_FormatInt.l0 k x s neg) ((if neg = true then (⟨#[45]⟩ : ByteArray) else ⟨#[]⟩) ++ (strOfNums (revd f x).reverse ++ s)) := by
  intro f
  induction f with
  | zero =>
    intro x s _ h _ hs
    obtain rfl : x = 0 := by simp at h; omega
    refine Ev.step (fun k => by rw [spec_FormatInt.l0]) ?_
    refine Ev.pos rfl ?_
    cases neg with
    | true =>
      refine Ev.pos rfl (Ev.pos (by omega) (Ev.const ?_))
      simp [revd, sn_nil, ba_nil]
    | false =>
      refine Ev.neg (by simp) (Ev.const ?_)
      simp [revd, sn_nil, ba_nil]
  | succ f ih =>
    intro x s hf h ha hs
    by_cases hx : x = 0
    · subst hx
      refine Ev.step (fun k => by rw [spec_FormatInt.l0]) ?_
      refine Ev.pos rfl ?_
      cases neg with
      | true =>
        refine Ev.pos rfl (Ev.pos (by omega) (Ev.const ?_))
        simp [revd, sn_nil, ba_nil]
      | false =>
        refine Ev.neg (by simp) (Ev.const ?_)
        simp [revd, sn_nil, ba_nil]
    · refine Ev.step (fun k => by rw [spec_FormatInt.l0]) ?_
      refine Ev.neg hx ?_
      have hsz : ∀ d : Int, (strOfNums [d]).size = 1 := fun d => by rw [strOfNums_size]; rfl
      have hb : ∀ d : Int, (strOfNums [d] ++ s).size + f ≤ 100 := fun d => by rw [ByteArray.size_append, hsz]; omega
      have key : ∀ d : Int, d = dg x → Ev (fun k => spec_FormatInt.l0 k (wrap64 (Int.tdiv x 10)) (strOfNums [d] ++ s) neg) ((if neg = true then (⟨#[45]⟩ : ByteArray) else ⟨#[]⟩) ++ (strOfNums (revd (f + 1) x).reverse ++ s)) := by
        intro d hd
        rw [tdiv_wrap ha]
        refine Ev.eq (ih (Int.tdiv x 10) (strOfNums [d] ++ s) (by omega) (div_small h) (tdiv_abs ha) (hb d)) rfl ?_
        have e : revd (f + 1) x = dg x :: revd f (Int.tdiv x 10) := by rw [revd, if_neg hx, tdiv_wrap ha]
        rw [e, List.reverse_cons, sn_append, hd, ba_assoc (strOfNums _) (strOfNums [dg x]) s]
      by_cases hm : Int.tmod x 10 < 0
      · refine Ev.pos hm ?_
        refine Ev.bindc (g := some _) rfl (Ev.pos (by rw [hsz]; omega) (key _ (by rw [dg, if_pos hm])))
      · refine Ev.neg hm ?_
        refine Ev.bindc (g := some _) rfl (Ev.pos (by rw [hsz]; omega) (key _ (by rw [dg, if_neg hm])))

/-- The text of a number. -/
def fmt (x : Int) : ByteArray := if x = 0 then ⟨#[48]⟩ else (if x < 0 then (⟨#[45]⟩ : ByteArray) else ⟨#[]⟩) ++ strOfNums (revd 20 x).reverse
theorem revd_len : ∀ f x, (revd f x).length ≤ f := by
  intro f
  induction f with
  | zero => intro x; simp [revd]
  | succ f ih =>
    intro x; rw [revd]; split
    · simp
    · have := ih (wrap64 (Int.tdiv x 10)); simp; omega
theorem fmt_size (x : Int) : (fmt x).size ≤ 21 := by
  unfold fmt; split
  · show (1 : Nat) ≤ 21; omega
  · have := revd_len 20 x
    rw [ByteArray.size_append, strOfNums_size, List.length_reverse]
    split
    · show 1 + _ ≤ 21; omega
    · show 0 + _ ≤ 21; omega
theorem abs_small {x : Int} (h : (Lit.int .i64 x).wf = true) : x.natAbs ≤ 9223372036854775808 := by
  have := in_range h; omega
theorem spec_ev {x : Int} (h : (Lit.int .i64 x).wf = true) : Ev (fun k => spec_FormatInt.f k x) (fmt x) := by
  have ha := abs_small h
  by_cases hx : x = 0
  · subst hx
    exact Ev.const rfl
  · refine Ev.eq (Ev.neg (c := x = 0) (f := fun _ => some (⟨#[48]⟩ : ByteArray)) hx (spec_loop (decide (x < 0)) 20 x ⟨#[]⟩ (by omega) (by show _ < (100000000000000000000 : Nat); omega) ha (by show 0 + 20 ≤ 100; omega))) (by funext k; rw [spec_FormatInt.f]) ?_
    rw [fmt, if_neg hx, ba_nil']
    by_cases hn : x < 0
    · simp [hn]
    · simp [hn]

theorem turn_loop : ∀ (n : Nat) (a m b : List Int), m.length = n → a.length = b.length → a.length + n + b.length ≤ 1000 →
    Ev (fun k => impl_FormatInt.l1 k (a ++ m ++ b) (a.length : Int) (wrap64 ((a.length + m.length : Nat) - 1 : Int))) (strOfNums (a ++ m.reverse ++ b)) := by
  intro n
  induction n using Nat.strongRecOn with
  | ind n ih =>
    intro a m b hm hab hl
    rw [w64 (by omega) (by omega)]
    by_cases h2 : n < 2
    · refine Ev.step (fun k => by rw [impl_FormatInt.l1]) ?_
      refine Ev.neg (by omega) (Ev.const ?_)
      have : m.reverse = m := by
        match m, hm with
        | [], _ => rfl
        | [x], _ => rfl
        | x :: y :: r, hm => simp at hm; omega
      rw [this]
    · obtain ⟨x, m1, y, rfl⟩ : ∃ x m1 y, m = x :: (m1 ++ [y]) := by
        match m, hm with
        | [], hm => simp at hm; omega
        | x :: r, hm =>
          have hr : r ≠ [] := by rintro rfl; simp at hm; omega
          exact ⟨x, r.dropLast, r.getLast hr, by rw [List.dropLast_concat_getLast hr]⟩
      simp only [List.length_cons, List.length_append, List.length_nil] at hm
      refine Ev.step (fun k => by rw [impl_FormatInt.l1]) ?_
      simp only [List.length_cons, List.length_append, List.length_nil] at hl ⊢
      refine Ev.pos (by omega) (Ev.pos (by omega) (Ev.pos (by omega) (Ev.pos (by omega) (Ev.pos (by omega) ?_))))
      have i1 : ((a.length : Int)).toNat = a.length := by omega
      have i2 : (((a.length + (m1.length + (0 + 1) + 1) : Nat) : Int) - 1).toNat = a.length + m1.length + 1 := by omega
      have r1 : rd (a ++ x :: (m1 ++ [y]) ++ b) (a.length : Int) = x := by
        unfold rd; rw [i1]; simp [List.getD_eq_getElem?_getD]
      have r2 : rd (a ++ x :: (m1 ++ [y]) ++ b) (((a.length + (m1.length + (0 + 1) + 1) : Nat) : Int) - 1) = y := by
        unfold rd; rw [i2, List.getD_eq_getElem?_getD]
        rw [List.getElem?_append_left (by simp; omega), List.getElem?_append_right (by omega)]
        have : a.length + m1.length + 1 - a.length = m1.length + 1 := by omega
        rw [this]; simp
      have s1 : ((a ++ x :: (m1 ++ [y]) ++ b).set (a.length : Int).toNat y).set (((a.length + (m1.length + (0 + 1) + 1) : Nat) : Int) - 1).toNat x = (a ++ [y]) ++ m1 ++ ([x] ++ b) := by
        rw [i1, i2]
        have e1 : (a ++ x :: (m1 ++ [y]) ++ b).set a.length y = (a ++ [y] ++ m1) ++ (y :: b) := by
          rw [List.append_assoc, List.set_append, if_neg (by omega), Nat.sub_self]; simp
        rw [e1, List.set_append, if_neg (by simp; omega)]
        have : a.length + m1.length + 1 - (a ++ [y] ++ m1).length = 0 := by simp; omega
        rw [this]; simp
      rw [r1, r2, s1, w64 (by omega) (by omega)]
      refine Ev.eq (ih m1.length (by omega) (a ++ [y]) m1 ([x] ++ b) rfl (by simp; omega) (by simp; omega)) ?_ ?_
      · funext k
        congr 1
        · simp
        · congr 1; simp; omega
      · simp
theorem turn_ev (l : List Int) (h : l.length ≤ 500) : Ev (fun k => impl_FormatInt.j1 k l) (strOfNums l.reverse) := by
  refine Ev.step (fun k => by rw [impl_FormatInt.j1]) ?_
  have := turn_loop l.length [] l [] rfl rfl (by simp; omega)
  simpa using this
theorem impl_loop (x0 : Int) : ∀ (f : Nat) (x : Int) (l : List Int), f ≤ 40 → x.natAbs < 10 ^ f → x.natAbs ≤ 9223372036854775808 → l.length + f ≤ 100 →
    Ev (fun k => impl_FormatInt.l0 k x0 l x) (strOfNums (l ++ revd f x ++ (if x0 < 0 then [45] else [])).reverse) := by
  intro f
  induction f with
  | zero =>
    intro x l _ h _ hs
    obtain rfl : x = 0 := by simp at h; omega
    refine Ev.step (fun k => by rw [impl_FormatInt.l0]) ?_
    refine Ev.pos rfl ?_
    by_cases hn : x0 < 0
    · refine Ev.pos hn (Ev.pos (by omega) ?_)
      rw [if_pos hn]; exact Ev.eq (turn_ev (l ++ [45]) (by simp; omega)) rfl (by simp [revd])
    · refine Ev.neg hn ?_
      rw [if_neg hn]; simpa [revd] using turn_ev l (by omega)
  | succ f ih =>
    intro x l hf h ha hs
    by_cases hx : x = 0
    · subst hx
      refine Ev.step (fun k => by rw [impl_FormatInt.l0]) ?_
      refine Ev.pos rfl ?_
      by_cases hn : x0 < 0
      · refine Ev.pos hn (Ev.pos (by omega) ?_)
        rw [if_pos hn]; exact Ev.eq (turn_ev (l ++ [45]) (by simp; omega)) rfl (by simp [revd])
      · refine Ev.neg hn ?_
        rw [if_neg hn]; simpa [revd] using turn_ev l (by omega)
    · refine Ev.step (fun k => by rw [impl_FormatInt.l0]) ?_
      refine Ev.neg hx ?_
      have key : ∀ d : Int, d = dg x → Ev (fun k => impl_FormatInt.l0 k x0 (l ++ [d]) (wrap64 (Int.tdiv x 10))) (strOfNums (l ++ revd (f + 1) x ++ (if x0 < 0 then [45] else [])).reverse) := by
        intro d hd
        rw [tdiv_wrap ha]
        refine Ev.eq (ih (Int.tdiv x 10) (l ++ [d]) (by omega) (div_small h) (tdiv_abs ha) (by simp; omega)) rfl ?_
        have e : revd (f + 1) x = dg x :: revd f (Int.tdiv x 10) := by rw [revd, if_neg hx, tdiv_wrap ha]
        rw [e, hd]; simp
      by_cases hm : Int.tmod x 10 < 0
      · exact Ev.pos hm (Ev.pos (by omega) (key _ (by rw [dg, if_pos hm])))
      · exact Ev.neg hm (Ev.pos (by omega) (key _ (by rw [dg, if_neg hm])))
theorem impl_ev {x : Int} (h : (Lit.int .i64 x).wf = true) : Ev (fun k => impl_FormatInt.f k x) (fmt x) := by
  have ha := abs_small h
  by_cases hx : x = 0
  · subst hx
    exact Ev.const rfl
  · refine Ev.eq (Ev.neg (c := x = 0) (f := fun _ => some (⟨#[48]⟩ : ByteArray)) hx (impl_loop x 20 x [] (by omega) (by show _ < (100000000000000000000 : Nat); omega) ha (by simp))) (by funext k; rw [impl_FormatInt.f]) ?_
    rw [fmt, if_neg hx]
    by_cases hn : x < 0
    · simp only [hn, if_true, List.nil_append, List.reverse_append, List.reverse_cons, List.reverse_nil]
      rw [sn_append]; rfl
    · simp only [hn, if_false, List.nil_append, List.append_nil]
      rw [ba_nil]
end Go.Proofs.Ytjiipeidginjnaa.PNum

namespace Go.Proofs.Ytjiipeidginjnaa.PJoin
open Go.RowKit Go.Proofs.Ytjiipeidginjnaa.P Go.Proofs.YtjiipeidginjnaaW.PrintWords Go.Proofs.YtjiipeidginjnaaW.PrintLast Go.Proofs.Ytjiipeidginjnaa.PB Go.Proofs.Ytjiipeidginjnaa.PNum
set_option linter.unusedVariables false

/-- What is there is followed by the texts; ahead of each, or of each but the first, stands 'by'. -/
def jn (b : ByteArray) : Bool → ByteArray → List ByteArray → ByteArray
  | _, s, [] => s
  | p, s, x :: r => jn b true (if p = true then (s ++ b) ++ x else s ++ x) r
def total (b : ByteArray) : List ByteArray → Nat
  | [] => 0
  | x :: r => b.size + x.size + total b r
theorem total_map {α : Type} (b : ByteArray) (f : α → ByteArray) (B : Nat) (xs : List α) (h : ∀ x ∈ xs, (f x).size ≤ B) : total b (xs.map f) ≤ xs.length * (b.size + B) := by
  induction xs with
  | nil => simp [total]
  | cons x r ih =>
    have := ih (fun y hy => h y (by simp [hy])); have := h x (by simp)
    simp only [List.map_cons, total, List.length_cons, Nat.add_mul]; omega
theorem jn_size (b : ByteArray) : ∀ (xs : List ByteArray) (p : Bool) (s : ByteArray), (jn b p s xs).size ≤ s.size + total b xs := by
  intro xs
  induction xs with
  | nil => intro p s; simp [jn, total]
  | cons x r ih =>
    intro p s
    rw [jn]; refine Nat.le_trans (ih _ _) ?_
    cases p <;> simp [total, ByteArray.size_append] <;> omega
theorem glued_loop (b : ByteArray) (l : List ByteArray) (hl : l.length ≤ 4611686018427387000) : ∀ (d i : Nat) (s : ByteArray), i + d = l.length → s.size + total b (l.drop i) ≤ 9223372036854775807 →
    Ev (fun k => impl_glued.l0 k b s l (l.length : Int) (i : Int)) (jn b (decide (0 < i)) s (l.drop i)) := by
  intro d
  induction d with
  | zero =>
    intro i s hi hs
    obtain rfl : i = l.length := by omega
    refine Ev.step (fun k => by rw [impl_glued.l0]) (Ev.neg (by omega) (Ev.const ?_))
    simp [jn]
  | succ d ih =>
    intro i s hi hs
    have hlt : i < l.length := by omega
    rw [drop_cons hlt] at hs ⊢
    simp only [total] at hs
    refine Ev.step (fun k => by rw [impl_glued.l0]) (Ev.pos (by omega) (Ev.pos (by omega) (Ev.pos (by omega) ?_)))
    rw [rdOf_nat _ _ _ hlt, inc (by omega)]
    by_cases h0 : 0 < i
    · refine Ev.pos (by omega) (Ev.pos (by omega) (Ev.pos (by rw [ByteArray.size_append]; omega) ?_))
      refine Ev.eq (ih (i + 1) _ (by omega) (by simp only [ByteArray.size_append]; omega)) rfl ?_
      simp [jn, h0]
    · obtain rfl : i = 0 := by omega
      refine Ev.neg (by omega) (Ev.pos (by omega) ?_)
      refine Ev.eq (ih (0 + 1) _ (by omega) (by simp only [ByteArray.size_append]; omega)) rfl ?_
      simp [jn]
theorem glued_ev (b : ByteArray) (l : List ByteArray) (hl : l.length ≤ 4611686018427387000) (ht : total b l ≤ 9223372036854775807) : Ev (fun k => impl_glued.f k l b) (jn b false ⟨#[]⟩ l) := by
  have := glued_loop b l hl l.length 0 ⟨#[]⟩ (by omega) (by have e0 : (⟨#[]⟩ : ByteArray).size = 0 := rfl; rw [List.drop_zero]; omega)
  exact Ev.eq this (by funext k; rw [impl_glued.f]; rfl) (by simp)

def comma : ByteArray := ⟨#[44]⟩
def blankB : ByteArray := ⟨#[32]⟩
def none_ : ByteArray := ⟨#[110, 111, 110, 101]⟩
end Go.Proofs.Ytjiipeidginjnaa.PJoin

namespace Go.Proofs.Ytjiipeidginjnaa.PIn
open Go.RowKit Go.Proofs.Ytjiipeidginjnaa.P Go.Proofs.YtjiipeidginjnaaW.PrintWords Go.Proofs.YtjiipeidginjnaaW.PrintLast Go.Proofs.Ytjiipeidginjnaa.PB
set_option linter.unusedVariables false

def inr (a lo hi : Int) : Bool := decide (lo ≤ a ∧ a ≤ hi)
theorem spec_in (a lo hi : Int) : spec_l1In.f a lo hi = some (inr a lo hi) := by
  unfold spec_l1In.f inr
  by_cases h : a ≥ lo
  · rw [if_pos h]; by_cases h2 : a ≤ hi <;> simp [h2] <;> omega
  · rw [if_neg h]; simp; omega
theorem impl_in (a lo hi : Int) : impl_within.f a lo hi = some (inr a lo hi) := by
  unfold impl_within.f inr
  by_cases h : a ≥ lo
  · rw [if_pos h]; by_cases h2 : a ≤ hi <;> simp [h2] <;> omega
  · rw [if_neg h]; simp; omega
end Go.Proofs.Ytjiipeidginjnaa.PIn

namespace Go.Proofs.Ytjiipeidginjnaa.PFact
open Go.RowKit Go.Proofs.Ytjiipeidginjnaa.P Go.Proofs.YtjiipeidginjnaaW.PrintWords Go.Proofs.YtjiipeidginjnaaW.PrintLast Go.Proofs.Ytjiipeidginjnaa.PB Go.Proofs.Ytjiipeidginjnaa.PNum Go.Proofs.Ytjiipeidginjnaa.PJoin Go.Proofs.Ytjiipeidginjnaa.PIn Go.Proofs.Ytjiipeidginjnaa.PVals
set_option linter.unusedVariables false

def rB : ByteArray := ⟨#[114]⟩
def openB : ByteArray := ⟨#[40]⟩
def closeB : ByteArray := ⟨#[41]⟩
theorem jn_pre (b a : ByteArray) : ∀ (l : List ByteArray) (p : Bool) (s : ByteArray), jn b p (a ++ s) l = a ++ jn b p s l := by
  intro l
  induction l with
  | nil => intro p s; simp [jn]
  | cons x r ih =>
    intro p s
    cases p <;> simp only [jn, ba_assoc, if_true, if_false, Bool.false_eq_true] <;> rw [ih]
end Go.Proofs.Ytjiipeidginjnaa.PFact

namespace Go.Proofs.Ytjiipeidginjnaa.PTerm
open Go.RowKit Go.Proofs.Ytjiipeidginjnaa.P Go.Proofs.YtjiipeidginjnaaW.PrintWords Go.Proofs.YtjiipeidginjnaaW.PrintLast Go.Proofs.Ytjiipeidginjnaa.PB Go.Proofs.Ytjiipeidginjnaa.PIn
set_option linter.unusedVariables false

theorem spec_var (t : Int) : spec_IsVar.f t = some (inr t 0 19) := by unfold spec_IsVar.f; rw [spec_in]; rfl
theorem impl_var (t : Int) : impl_IsVar.f t = some (inr t 0 19) := by unfold impl_IsVar.f; rw [impl_in]; rfl
theorem impl_term (t : Int) : impl_IsTerm.f t = some (inr t (-80) 19) := by unfold impl_IsTerm.f; rw [impl_in]; rfl
/-- The number of a constant, or -1. -/
def cst (t : Int) : Int := if inr t (-80) (-1) = true then -1 - t else -1
theorem spec_cst (t : Int) : spec_ConstOf.f t = some (cst t) := by
  unfold spec_ConstOf.f cst; rw [spec_in]; simp only [Option.bind_some]
  by_cases h : inr t (-80) (-1) = true
  · have h' : -80 ≤ t ∧ t ≤ -1 := by simpa [inr] using h
    rw [if_pos h, if_pos h, w64 (by omega) (by omega)]
  · rw [if_neg h, if_neg h]
theorem impl_cst (t : Int) : impl_ConstOf.f t = some (cst t) := by
  unfold impl_ConstOf.f cst; rw [impl_term, impl_var]; simp only [Option.bind_some]
  by_cases h : -80 ≤ t ∧ t ≤ 19
  · rw [if_pos (by simpa [inr] using h)]
    by_cases h2 : 0 ≤ t
    · rw [if_pos (by simp [inr]; omega), if_neg (by simp [inr]; omega)]
    · rw [if_neg (by simp [inr]; omega), if_pos (by simp [inr]; omega), w64 (by omega) (by omega)]
  · rw [if_neg (by simpa [inr] using h), if_neg (by simp [inr]; omega)]
theorem spec_term (t : Int) : spec_IsTerm.f t = some (inr t (-80) 19) := by
  unfold spec_IsTerm.f; rw [spec_var, spec_cst]; simp only [Option.bind_some]
  by_cases h2 : 0 ≤ t ∧ t ≤ 19
  · rw [if_pos (by simpa [inr] using h2)]; congr 1; unfold inr; symm; rw [decide_eq_true_eq]; omega
  · rw [if_neg (by simpa [inr] using h2)]
    by_cases h : -80 ≤ t ∧ t ≤ -1
    · have e : cst t = -1 - t := by rw [cst, if_pos (by simpa [inr] using h)]
      rw [e]; congr 1; unfold inr; rw [decide_eq_decide]; omega
    · have e : cst t = -1 := by rw [cst, if_neg (by simpa [inr] using h)]
      rw [e]; congr 1; unfold inr; rw [decide_eq_decide]; omega
end Go.Proofs.Ytjiipeidginjnaa.PTerm

namespace Go.Proofs.Ytjiipeidginjnaa.PSchema
open Go.RowKit Go.Proofs.Ytjiipeidginjnaa.P Go.Proofs.YtjiipeidginjnaaW.PrintWords Go.Proofs.YtjiipeidginjnaaW.PrintLast Go.Proofs.Ytjiipeidginjnaa.PB Go.Proofs.Ytjiipeidginjnaa.PIn
set_option linter.unusedVariables false
theorem all_cons {α : Type} (p : α → Bool) (x : α) (r : List α) : (x :: r).all p = (p x && r.all p) := rfl
end Go.Proofs.Ytjiipeidginjnaa.PSchema

namespace Go.Proofs.Ytjiipeidginjnaa.PQuery
open Go.RowKit Go.Proofs.Ytjiipeidginjnaa.P Go.Proofs.YtjiipeidginjnaaW.PrintWords Go.Proofs.YtjiipeidginjnaaW.PrintLast Go.Proofs.Ytjiipeidginjnaa.PB Go.Proofs.Ytjiipeidginjnaa.PIn Go.Proofs.Ytjiipeidginjnaa.PSchema Go.Proofs.Ytjiipeidginjnaa.PTerm
set_option linter.unusedVariables false
def areT (l : List Int) : Bool := l.all fun t => inr t (-80) 19
theorem impl_areT (l : List Int) (hl : l.length ≤ 1048576) : Ev (fun k => impl_areTerms.f k l) (areT l) := by
  have loop : ∀ (d i : Nat), i + d = l.length → Ev (fun k => impl_areTerms.l0 k l (l.length : Int) (i : Int)) (areT (l.drop i)) := by
    intro d
    induction d with
    | zero =>
      intro i hi
      obtain rfl : i = l.length := by omega
      rw [List.drop_length]; show Ev _ true
      exact Ev.step (fun k => by rw [impl_areTerms.l0]) (Ev.neg (by omega) (Ev.const rfl))
    | succ d ih =>
      intro i hi
      have hlt : i < l.length := by omega
      refine Ev.step (fun k => by rw [impl_areTerms.l0]) (Ev.pos (by omega) (Ev.pos (by omega) (Ev.pos (by omega) ?_)))
      rw [rd_nat _ _ hlt, inc (by omega), drop_cons hlt, areT, all_cons]
      refine Ev.bindc (impl_term _) ?_
      cases h : inr l[i] (-80) 19 with
      | true => exact Ev.pos rfl (Ev.eq (ih (i + 1) (by omega)) rfl (by simp only [Bool.true_and]; rfl))
      | false => exact Ev.neg (by simp) (Ev.const rfl)
  exact Ev.eq (loop l.length 0 (by omega)) (by funext k; rw [impl_areTerms.f]; rfl) (by simp)
theorem spec_areT (l : List Int) (hl : l.length ≤ 1048576) : Ev (fun k => spec_l3Terms.f k l) (areT l && decide (l.length ≤ 3)) := by
  have loop : ∀ (d i : Nat), i + d = l.length → Ev (fun k => spec_l3Terms.l0 k l (i : Int)) (areT (l.drop i) && decide (l.length ≤ 3)) := by
    intro d
    induction d with
    | zero =>
      intro i hi
      obtain rfl : i = l.length := by omega
      rw [List.drop_length]
      refine Ev.step (fun k => by rw [spec_l3Terms.l0]) (Ev.neg (by omega) (Ev.const ?_))
      simp [areT]; omega
    | succ d ih =>
      intro i hi
      have hlt : i < l.length := by omega
      refine Ev.step (fun k => by rw [spec_l3Terms.l0]) (Ev.pos (by omega) (Ev.pos (by omega) ?_))
      rw [rd_nat _ _ hlt, inc (by omega), drop_cons hlt, areT, all_cons]
      refine Ev.bindc (spec_term _) ?_
      cases h : inr l[i] (-80) 19 with
      | true => exact Ev.pos rfl (Ev.eq (ih (i + 1) (by omega)) rfl (by simp only [Bool.true_and]; rfl))
      | false => exact Ev.neg (by simp) (Ev.const rfl)
  exact Ev.eq (loop l.length 0 (by omega)) (by funext k; rw [spec_l3Terms.f]; rfl) (by simp)
theorem rdA (l : List S153) (i : Nat) (h : i < l.length) : rd_T153 l (i : Int) = l[i] := by rw [rd_T153]; exact getD_nat _ _ _ h
end Go.Proofs.Ytjiipeidginjnaa.PQuery

namespace Go.Proofs.Ytjiipeidginjnaa.PFmtQ
open Go.RowKit Go.Proofs.Ytjiipeidginjnaa.PSchema Go.Proofs.Ytjiipeidginjnaa.P Go.Proofs.YtjiipeidginjnaaW.PrintWords Go.Proofs.YtjiipeidginjnaaW.PrintLast Go.Proofs.Ytjiipeidginjnaa.PB Go.Proofs.Ytjiipeidginjnaa.PNum Go.Proofs.Ytjiipeidginjnaa.PJoin Go.Proofs.Ytjiipeidginjnaa.PIn Go.Proofs.Ytjiipeidginjnaa.PFact Go.Proofs.Ytjiipeidginjnaa.PTerm Go.Proofs.Ytjiipeidginjnaa.PQuery
set_option linter.unusedVariables false

theorem toList_len (s : ByteArray) : s.toList.length = s.size := by rw [ByteArray.toList_eq, Array.length_toList]; rfl
theorem wf_of {x : Int} (h1 : -9223372036854775808 ≤ x) (h2 : x ≤ 9223372036854775807) : (Lit.int .i64 x).wf = true := by
  simp only [Lit.wf, Bool.and_eq_true, decide_eq_true_eq]
  exact ⟨by simpa [IntKind.min, IntKind.bits, IntKind.signed] using h1, by simpa [IntKind.max, IntKind.bits, IntKind.signed] using h2⟩
theorem inr_iff {a lo hi : Int} : inr a lo hi = true ↔ lo ≤ a ∧ a ≤ hi := by simp [inr]
def xB : ByteArray := ⟨#[88]⟩
/-- The text of a term. -/
def termB (t : Int) : ByteArray := if inr t 0 19 = true then xB ++ fmt t else if inr t (-80) (-1) = true then fmt (cst t) else ⟨#[]⟩
theorem term_size (t : Int) : (termB t).size ≤ 22 := by
  unfold termB
  have h1 := fmt_size t; have h2 := fmt_size (cst t)
  have e1 : xB.size = 1 := rfl
  have e2 : (⟨#[]⟩ : ByteArray).size = 0 := rfl
  split
  · rw [ByteArray.size_append]; omega
  · split <;> omega
theorem spec_termB (t : Int) : Ev (fun k => spec_FormatTerm.f k t) (termB t) := by
  unfold spec_FormatTerm.f
  refine Ev.bindc (spec_var t) ?_
  by_cases h : inr t 0 19 = true
  · have h' := inr_iff.1 h
    have hs := fmt_size t
    refine Ev.pos h (Ev.bind (spec_ev (wf_of (by omega) (by omega))) (Ev.pos (by omega) (Ev.const ?_)))
    rw [termB, if_pos h]; rfl
  · refine Ev.neg h (Ev.bindc (spec_cst t) ?_)
    by_cases h2 : inr t (-80) (-1) = true
    · have h' := inr_iff.1 h2
      have hc : cst t = -1 - t := by rw [cst, if_pos h2]
      refine Ev.pos (by omega) (Ev.bindc (spec_cst t) ?_)
      refine Ev.eq (Ev.last (f := fun x => x) (spec_ev (x := cst t) (wf_of (by omega) (by omega)))) rfl ?_
      rw [termB, if_neg h, if_pos h2]
    · have hc : cst t = -1 := by rw [cst, if_neg h2]
      refine Ev.neg (by omega) (Ev.const ?_)
      rw [termB, if_neg h, if_neg h2]
theorem impl_termB (t : Int) : Ev (fun k => impl_FormatTerm.f k t) (termB t) := by
  unfold impl_FormatTerm.f
  refine Ev.bindc (impl_var t) ?_
  by_cases h : inr t 0 19 = true
  · have h' := inr_iff.1 h
    have hs := fmt_size t
    refine Ev.pos h (Ev.bind (impl_ev (wf_of (by omega) (by omega))) (Ev.pos (by omega) (Ev.const ?_)))
    rw [termB, if_pos h]; rfl
  · refine Ev.neg h (Ev.bindc (impl_term t) ?_)
    have hn : ¬ (0 ≤ t ∧ t ≤ 19) := fun x => h (inr_iff.2 x)
    by_cases h2 : inr t (-80) (-1) = true
    · have h' := inr_iff.1 h2
      have hc : cst t = -1 - t := by rw [cst, if_pos h2]
      refine Ev.pos (inr_iff.2 (by omega)) (Ev.bindc (impl_cst t) ?_)
      refine Ev.eq (Ev.last (f := fun x => x) (impl_ev (x := cst t) (wf_of (by omega) (by omega)))) rfl ?_
      rw [termB, if_neg h, if_pos h2]
    · have hn2 : ¬ (-80 ≤ t ∧ t ≤ -1) := fun x => h2 (inr_iff.2 x)
      refine Ev.neg (fun x => by have := inr_iff.1 x; omega) (Ev.const ?_)
      rw [termB, if_neg h, if_neg h2]
/-- Terms with commas between. -/
def termsB (l : List Int) : ByteArray := jn comma false ⟨#[]⟩ (l.map termB)
theorem terms_size (l : List Int) : (termsB l).size ≤ l.length * 23 := by
  have h1 := jn_size comma (l.map termB) false ⟨#[]⟩
  have h2 := total_map comma termB 22 l (fun x _ => term_size x)
  have e : comma.size = 1 := rfl
  have e0 : (⟨#[]⟩ : ByteArray).size = 0 := rfl
  rw [e] at h2
  unfold termsB; omega
theorem spec_list (l : List Int) (hl : l.length ≤ 1048576) : Ev (fun k => spec_l3List.f k l) (termsB l) := by
  have loop : ∀ (d i : Nat) (s : ByteArray), i + d = l.length → s.size ≤ 30 * i → Ev (fun k => spec_l3List.l0 k l s (i : Int)) (jn comma (decide (0 < i)) s ((l.drop i).map termB)) := by
    intro d
    induction d with
    | zero =>
      intro i s hi hs
      rw [List.drop_of_length_le (by omega)]
      refine Ev.step (fun k => by rw [spec_l3List.l0]) ?_
      exact Ev.neg (by omega) (Ev.const rfl)
    | succ d ih =>
      intro i s hi hs
      have hlt : i < l.length := by omega
      have hf := term_size l[i]
      have c1 : (⟨#[44]⟩ : ByteArray).size = 1 := rfl
      refine Ev.step (fun k => by rw [spec_l3List.l0]) ?_
      refine Ev.pos (by omega) ?_
      rw [rd_nat _ _ hlt, inc (by omega), drop_cons hlt, List.map_cons]
      by_cases h0 : 0 < i
      · refine Ev.pos (by omega) (Ev.pos (by omega) (Ev.pos (by omega) (Ev.bind (spec_termB _) (Ev.pos (by rw [ByteArray.size_append]; omega) ?_))))
        refine Ev.eq (ih (i + 1) _ (by omega) (by simp only [ByteArray.size_append]; omega)) rfl ?_
        rw [decide_eq_true h0, decide_eq_true (Nat.succ_pos i), jn]; rfl
      · obtain rfl : i = 0 := by omega
        refine Ev.neg (by omega) (Ev.pos (by omega) (Ev.bind (spec_termB _) (Ev.pos (by omega) ?_)))
        refine Ev.eq (ih (0 + 1) _ (by omega) (by simp only [ByteArray.size_append]; omega)) rfl ?_
        rfl
  have e0 : (⟨#[]⟩ : ByteArray).size = 0 := rfl
  exact Ev.eq (loop l.length 0 ⟨#[]⟩ (by omega) (by omega)) (by funext k; rw [spec_l3List.f]; rfl) (by rw [termsB, List.drop_zero]; rfl)
def okAtom (rel : Int) (args : List Int) : Bool := inr rel 0 3 && (areT args && decide (args.length ≤ 3))
/-- The text of an atom. -/
def atomB (rel : Int) (args : List Int) : ByteArray := if okAtom rel args = true then (((rB ++ fmt rel) ++ openB) ++ termsB args) ++ closeB else ⟨#[]⟩
theorem atom_size (rel : Int) (args : List Int) : (atomB rel args).size ≤ 100 := by
  unfold atomB
  split
  · rename_i h
    have hl : args.length ≤ 3 := by simp only [okAtom, Bool.and_eq_true, decide_eq_true_eq] at h; exact h.2.2
    have h1 := fmt_size rel; have h2 := terms_size args
    have e1 : rB.size = 1 := rfl
    have e2 : openB.size = 1 := rfl
    have e3 : closeB.size = 1 := rfl
    simp only [ByteArray.size_append]; omega
  · show 0 ≤ 100; omega
theorem spec_atom (rel : Int) (args : List Int) (ha : args.length ≤ 1048576) : Ev (fun k => spec_FormatAtom.f k rel args) (atomB rel args) := by
  unfold spec_FormatAtom.f
  have out : okAtom rel args = false → Ev (fun k => spec_FormatAtom.j0 k true rel args) (atomB rel args) := by
    intro h
    rw [atomB, h]
    refine Ev.step (fun k => by rw [spec_FormatAtom.j0]) ?_
    exact Ev.pos rfl (Ev.const rfl)
  refine Ev.bindc (spec_in _ _ _) ?_
  cases h1 : inr rel 0 3 with
  | false => exact Ev.neg (by simp) (out (by simp [okAtom, h1]))
  | true =>
    have h' := inr_iff.1 h1
    refine Ev.pos rfl (Ev.bind (spec_areT args ha) ?_)
    cases h2 : (areT args && decide (args.length ≤ 3)) with
    | false => exact out (by simp only [okAtom, h2, Bool.and_false])
    | true =>
      have hl : args.length ≤ 3 := by simp only [Bool.and_eq_true, decide_eq_true_eq] at h2; exact h2.2
      have hf := fmt_size rel; have ht := terms_size args
      have c1 : (⟨#[114]⟩ : ByteArray).size = 1 := rfl
      have c2 : (⟨#[40]⟩ : ByteArray).size = 1 := rfl
      refine Ev.step (fun k => by rw [spec_FormatAtom.j0]) ?_
      refine Ev.neg (by simp) (Ev.bind (spec_ev (wf_of (by omega) (by omega))) (Ev.pos (by omega) (Ev.pos (by rw [ByteArray.size_append]; omega) (Ev.bind (spec_list args ha) (Ev.pos (by simp only [ByteArray.size_append]; omega) (Ev.pos (by simp only [ByteArray.size_append]; omega) (Ev.const ?_)))))))
      rw [atomB, if_pos (by simp only [okAtom, h1, h2, Bool.and_self])]; rfl
theorem impl_atom (rel : Int) (args : List Int) (ha : args.length ≤ 1048576) : Ev (fun k => impl_FormatAtom.f k rel args) (atomB rel args) := by
  unfold impl_FormatAtom.f
  have out : okAtom rel args = false → Ev (fun k => impl_FormatAtom.j0 k true rel args) (atomB rel args) := by
    intro h
    rw [atomB, h]
    refine Ev.step (fun k => by rw [impl_FormatAtom.j0]) ?_
    exact Ev.pos rfl (Ev.const rfl)
  refine Ev.bindc (impl_in _ _ _) ?_
  cases h1 : inr rel 0 3 with
  | false => exact Ev.neg (by simp) (out (by simp [okAtom, h1]))
  | true =>
    have h' := inr_iff.1 h1
    refine Ev.pos rfl ?_
    by_cases hl : args.length ≤ 3
    · refine Ev.neg (by omega) (Ev.bind (impl_areT args ha) ?_)
      cases h2 : areT args with
      | false => exact out (by simp [okAtom, h2])
      | true =>
        have hok : okAtom rel args = true := by simp [okAtom, h1, h2, hl]
        have hf := fmt_size rel; have ht := terms_size args
        have c1 : (⟨#[114]⟩ : ByteArray).size = 1 := rfl
        have c2 : (⟨#[40]⟩ : ByteArray).size = 1 := rfl
        have hw : (Lit.int .i64 rel).wf = true := wf_of (by omega) (by omega)
        have loop : ∀ (d i : Nat), i + d = args.length → Ev (fun k => impl_FormatAtom.l0 k ((args.take i).map termB) args (args.length : Int) (i : Int) rel args) (atomB rel args) := by
          intro d
          induction d with
          | zero =>
            intro i hi
            rw [List.take_of_length_le (by omega)]
            refine Ev.step (fun k => by rw [impl_FormatAtom.l0]) ?_
            refine Ev.neg (by omega) (Ev.bind (impl_ev hw) (Ev.pos (by omega) (Ev.pos (by rw [ByteArray.size_append]; omega) ?_)))
            have tm := total_map comma termB 22 args (fun x _ => term_size x)
            have ce : comma.size = 1 := rfl
            rw [ce] at tm
            refine Ev.bind (glued_ev comma (args.map termB) (by rw [List.length_map]; omega) (by omega)) ?_
            have ht' : (jn comma false ⟨#[]⟩ (args.map termB)).size ≤ args.length * 23 := ht
            refine Ev.pos (by simp only [ByteArray.size_append]; omega) (Ev.pos (by simp only [ByteArray.size_append]; omega) (Ev.const ?_))
            rw [atomB, if_pos hok]; rfl
          | succ d ih =>
            intro i hi
            have hlt : i < args.length := by omega
            refine Ev.step (fun k => by rw [impl_FormatAtom.l0]) ?_
            refine Ev.pos (by omega) (Ev.pos (by omega) (Ev.pos (by omega) ?_))
            rw [rd_nat _ _ hlt, inc (by omega)]
            refine Ev.bind (impl_termB _) (Ev.pos (by rw [List.length_map, List.length_take]; omega) ?_)
            refine Ev.eq (ih (i + 1) (by omega)) ?_ rfl
            funext k
            rw [take_snoc hlt, List.map_append]; rfl
        refine Ev.step (fun k => by rw [impl_FormatAtom.j0]) ?_
        exact Ev.neg (by simp) (loop args.length 0 (by omega))
    · exact Ev.pos (by omega) (out (by simp [okAtom, hl]))
theorem rA_nil {rel : Int} {args : List Int} : (atomB rel args).toList = [] ↔ okAtom rel args = false := by
  cases h : okAtom rel args with
  | false => simp [atomB, h]
  | true =>
    have e3 : closeB.size = 1 := rfl
    constructor
    · intro x
      exfalso
      have hz : (atomB rel args).size = 0 := by
        have := toList_len (atomB rel args)
        rw [← this, x]; rfl
      rw [atomB, if_pos h] at hz
      simp only [ByteArray.size_append] at hz; omega
    · intro x; cases x
def semi : ByteArray := ⟨#[59, 32]⟩
def arrow : ByteArray := ⟨#[32, 58, 45, 32]⟩
def yesB : ByteArray := ⟨#[121, 101, 115]⟩
def aB (a : S153) : ByteArray := atomB a.f0 a.f1
def headB (head : List Int) : ByteArray := if head.length = 0 then yesB else termsB head
def okQ_ (head : List Int) (body : List S153) : Bool := (areT head && decide (head.length ≤ 3)) && inr body.length 1 8
def okAs (body : List S153) : Bool := body.all fun a => okAtom a.f0 a.f1
/-- The text of a query. -/
def queryB (head : List Int) (body : List S153) : ByteArray := if okQ_ head body = true then (if okAs body = true then (headB head ++ arrow) ++ jn semi false ⟨#[]⟩ (body.map aB) else ⟨#[]⟩) else ⟨#[]⟩
theorem head_size (head : List Int) (h : head.length ≤ 3) : (headB head).size ≤ 100 := by
  unfold headB
  have := terms_size head
  have e : yesB.size = 3 := rfl
  split <;> omega
theorem query_size (head : List Int) (body : List S153) : (queryB head body).size ≤ 2000 := by
  unfold queryB
  split
  · rename_i h
    split
    · simp only [okQ_, Bool.and_eq_true, decide_eq_true_eq] at h
      have h8 := inr_iff.1 h.2
      have h1 := head_size head h.1.2
      have h2 := jn_size semi (body.map aB) false ⟨#[]⟩
      have h3 := total_map semi aB 100 body (fun x _ => atom_size _ _)
      have e1 : semi.size = 2 := rfl
      have e2 : arrow.size = 4 := rfl
      have e0 : (⟨#[]⟩ : ByteArray).size = 0 := rfl
      rw [e1] at h3
      simp only [ByteArray.size_append]; omega
    · show 0 ≤ 2000; omega
  · show 0 ≤ 2000; omega
theorem spec_query (head : List Int) (body : List S153) (hh : head.length ≤ 1048576) (hl : body.length ≤ 1048576) (ha : ∀ a ∈ body, a.f1.length ≤ 1048576) : Ev (fun k => spec_FormatQuery.f k head body) (queryB head body) := by
  unfold spec_FormatQuery.f
  have out : okQ_ head body = false → Ev (fun k => spec_FormatQuery.j0 k true head body) (queryB head body) := by
    intro h
    rw [queryB, h]
    refine Ev.step (fun k => by rw [spec_FormatQuery.j0]) ?_
    exact Ev.pos rfl (Ev.const rfl)
  refine Ev.bind (spec_areT head hh) ?_
  cases h1 : (areT head && decide (head.length ≤ 3)) with
  | false => exact Ev.neg (by simp) (out (by simp only [okQ_, h1, Bool.false_and]))
  | true =>
    refine Ev.pos rfl (Ev.bindc (spec_in _ _ _) ?_)
    cases h2 : inr body.length 1 8 with
    | false => exact out (by simp only [okQ_, h2, Bool.and_false])
    | true =>
      have hok : okQ_ head body = true := by simp only [okQ_, h1, h2, Bool.and_self]
      have h8 := inr_iff.1 h2
      have h3 : head.length ≤ 3 := by simp only [Bool.and_eq_true, decide_eq_true_eq] at h1; exact h1.2
      have c2 : (⟨#[59, 32]⟩ : ByteArray).size = 2 := rfl
      have c4 : (⟨#[32, 58, 45, 32]⟩ : ByteArray).size = 4 := rfl
      have loop : ∀ (d i : Nat) (s : ByteArray), 0 < i → i + d = body.length → s.size ≤ 200 + 110 * i → Ev (fun k => spec_FormatQuery.l0 k s (i : Int) head body) (if okAs (body.drop i) = true then jn semi true s ((body.drop i).map aB) else ⟨#[]⟩) := by
        intro d
        induction d with
        | zero =>
          intro i s h0 hi hs
          rw [List.drop_of_length_le (by omega)]
          refine Ev.step (fun k => by rw [spec_FormatQuery.l0]) ?_
          exact Ev.neg (by omega) (Ev.const rfl)
        | succ d ih =>
          intro i s h0 hi hs
          have hlt : i < body.length := by omega
          have hf := atom_size (body[i]).f0 (body[i]).f1
          refine Ev.step (fun k => by rw [spec_FormatQuery.l0]) ?_
          refine Ev.pos (by omega) (Ev.pos (by omega) ?_)
          rw [rdA _ _ hlt, inc (by omega), drop_cons hlt, List.map_cons, okAs, all_cons]
          refine Ev.bind (spec_atom _ _ (ha _ (List.getElem_mem hlt))) ?_
          cases h4 : okAtom (body[i]).f0 (body[i]).f1 with
          | false => exact Ev.pos (rA_nil.2 h4) (Ev.const (by simp))
          | true =>
            refine Ev.neg (fun x => by rw [rA_nil.1 x] at h4; cases h4) (Ev.neg (by omega) (Ev.pos (by omega) (Ev.pos (by simp only [ByteArray.size_append]; omega) ?_)))
            refine Ev.eq (ih (i + 1) _ (by omega) (by omega) (by simp only [ByteArray.size_append]; omega)) rfl ?_
            simp only [Bool.true_and]; rfl
      have first : ∀ s : ByteArray, s.size ≤ 100 → Ev (fun k => spec_FormatQuery.l0 k s 0 head body) (if okAs body = true then (s ++ arrow) ++ jn semi false ⟨#[]⟩ (body.map aB) else ⟨#[]⟩) := by
        intro s hs
        have hlt : 0 < body.length := by omega
        have hf := atom_size (body[0]).f0 (body[0]).f1
        obtain ⟨a, r, rfl⟩ : ∃ a r, body = a :: r := by
          cases body with
          | nil => simp at hlt
          | cons a r => exact ⟨a, r, rfl⟩
        refine Ev.step (fun k => by rw [spec_FormatQuery.l0]) ?_
        refine Ev.pos (by omega) (Ev.pos (by omega) ?_)
        have e0 : rd_T153 (a :: r) 0 = a := rdA (a :: r) 0 hlt
        have e1 : wrap64 ((0 : Int) + 1) = ((1 : Nat) : Int) := by rw [w64 (by omega) (by omega)]; rfl
        rw [e0, e1, okAs, all_cons]
        refine Ev.bind (spec_atom _ _ (ha _ (by simp))) ?_
        cases h4 : okAtom a.f0 a.f1 with
        | false => exact Ev.pos (rA_nil.2 h4) (Ev.const (by simp))
        | true =>
          have hf' : (atomB a.f0 a.f1).size ≤ 100 := atom_size _ _
          refine Ev.neg (fun x => by rw [rA_nil.1 x] at h4; cases h4) (Ev.pos rfl (Ev.pos (by omega) (Ev.pos (by simp only [ByteArray.size_append]; omega) ?_)))
          refine Ev.eq (loop r.length 1 _ (by omega) (by simp; omega) (by simp only [ByteArray.size_append]; omega)) rfl ?_
          simp only [Bool.true_and]
          show (if okAs r = true then jn semi true ((s ++ arrow) ++ aB a) (r.map aB) else ⟨#[]⟩) = if okAs r = true then (s ++ arrow) ++ jn semi true (⟨#[]⟩ ++ aB a) (r.map aB) else ⟨#[]⟩
          rw [ba_nil, jn_pre]
      have hs1 := head_size head h3
      refine Ev.step (fun k => by rw [spec_FormatQuery.j0]) ?_
      refine Ev.neg (by simp) (Ev.bind (spec_list head hh) ?_)
      have fin : Ev (fun k => spec_FormatQuery.j1 k (headB head) head body) (queryB head body) := by
        refine Ev.eq (Ev.step (fun k => by rw [spec_FormatQuery.j1]) (first (headB head) hs1)) rfl ?_
        rw [queryB, if_pos hok]
      by_cases h5 : head.length = 0
      · refine Ev.pos (by omega) (Ev.eq fin ?_ rfl)
        funext k; rw [headB, if_pos h5]; rfl
      · refine Ev.neg (by omega) (Ev.eq fin ?_ rfl)
        funext k; rw [headB, if_neg h5]
theorem impl_query (head : List Int) (body : List S153) (hh : head.length ≤ 1048576) (hl : body.length ≤ 1048576) (ha : ∀ a ∈ body, a.f1.length ≤ 1048576) : Ev (fun k => impl_FormatQuery.f k head body) (queryB head body) := by
  unfold impl_FormatQuery.f
  have out : okQ_ head body = false → Ev (fun k => impl_FormatQuery.j0 k true head body) (queryB head body) := by
    intro h
    rw [queryB, h]
    refine Ev.step (fun k => by rw [impl_FormatQuery.j0]) ?_
    exact Ev.pos rfl (Ev.const rfl)
  by_cases h3 : head.length ≤ 3
  · refine Ev.neg (by omega) (Ev.bind (impl_areT head hh) ?_)
    cases h1 : areT head with
    | false => exact Ev.neg (by simp) (out (by simp [okQ_, h1]))
    | true =>
      refine Ev.pos rfl (Ev.bindc (impl_in _ _ _) ?_)
      cases h2 : inr body.length 1 8 with
      | false => exact out (by simp [okQ_, h2])
      | true =>
        have hok : okQ_ head body = true := by simp [okQ_, h1, h2, h3]
        have h8 := inr_iff.1 h2
        have hs1 := head_size head h3
        have ce : comma.size = 1 := rfl
        have se : semi.size = 2 := rfl
        have ye : yesB.size = 3 := rfl
        have c4 : (⟨#[32, 58, 45, 32]⟩ : ByteArray).size = 4 := rfl
        have e00 : (⟨#[]⟩ : ByteArray).size = 0 := rfl
        have tm := total_map comma termB 22 head (fun x _ => term_size x)
        have ts := total_map semi aB 100 body (fun x _ => atom_size _ _)
        have js := jn_size semi (body.map aB) false ⟨#[]⟩
        rw [ce] at tm; rw [se] at ts
        have loop1 : ∀ (d i : Nat), i + d = body.length → Ev (fun k => impl_FormatQuery.l1 k (head.map termB) ((body.take i).map aB) body (body.length : Int) (i : Int)) (if okAs (body.drop i) = true then (headB head ++ arrow) ++ jn semi false ⟨#[]⟩ (body.map aB) else ⟨#[]⟩) := by
          intro d
          induction d with
          | zero =>
            intro i hi
            rw [List.take_of_length_le (by omega), List.drop_of_length_le (by omega)]
            refine Ev.step (fun k => by rw [impl_FormatQuery.l1]) ?_
            refine Ev.neg (by omega) ?_
            refine Ev.bind (glued_ev comma (head.map termB) (by rw [List.length_map]; omega) (by omega)) ?_
            have gs := glued_ev semi (body.map aB) (by rw [List.length_map]; omega) (by omega)
            by_cases h5 : head.length = 0
            · refine Ev.pos (by rw [List.length_map]; omega) (Ev.pos (by omega) (Ev.bind gs (Ev.pos (by omega) (Ev.const ?_))))
              rw [headB, if_pos h5]; rfl
            · have hs2 : (jn comma false ⟨#[]⟩ (head.map termB)).size ≤ head.length * 23 := terms_size head
              refine Ev.neg (by rw [List.length_map]; omega) (Ev.pos (by omega) (Ev.bind gs (Ev.pos (by simp only [ByteArray.size_append]; omega) (Ev.const ?_))))
              rw [headB, if_neg h5]; rfl
          | succ d ih =>
            intro i hi
            have hlt : i < body.length := by omega
            refine Ev.step (fun k => by rw [impl_FormatQuery.l1]) ?_
            refine Ev.pos (by omega) (Ev.pos (by omega) (Ev.pos (by omega) ?_))
            rw [rdA _ _ hlt, inc (by omega), drop_cons hlt, okAs, all_cons]
            refine Ev.bind (impl_atom _ _ (ha _ (List.getElem_mem hlt))) ?_
            cases h4 : okAtom (body[i]).f0 (body[i]).f1 with
            | false => exact Ev.pos (rA_nil.2 h4) (Ev.const (by simp))
            | true =>
              refine Ev.neg (fun x => by rw [rA_nil.1 x] at h4; cases h4) (Ev.pos (by rw [List.length_map, List.length_take]; omega) ?_)
              refine Ev.eq (ih (i + 1) (by omega)) ?_ (by simp only [Bool.true_and]; rfl)
              funext k
              rw [take_snoc hlt, List.map_append]; rfl
        have loop0 : ∀ (d i : Nat), i + d = head.length → Ev (fun k => impl_FormatQuery.l0 k ((head.take i).map termB) [] head (head.length : Int) (i : Int) head body) (queryB head body) := by
          intro d
          induction d with
          | zero =>
            intro i hi
            rw [List.take_of_length_le (by omega)]
            refine Ev.step (fun k => by rw [impl_FormatQuery.l0]) ?_
            refine Ev.neg (by omega) ?_
            refine Ev.eq (loop1 body.length 0 (by omega)) rfl ?_
            rw [queryB, if_pos hok, List.drop_zero]
          | succ d ih =>
            intro i hi
            have hlt : i < head.length := by omega
            refine Ev.step (fun k => by rw [impl_FormatQuery.l0]) ?_
            refine Ev.pos (by omega) (Ev.pos (by omega) (Ev.pos (by omega) ?_))
            rw [rd_nat _ _ hlt, inc (by omega)]
            refine Ev.bind (impl_termB _) (Ev.pos (by rw [List.length_map, List.length_take]; omega) ?_)
            refine Ev.eq (ih (i + 1) (by omega)) ?_ rfl
            funext k
            rw [take_snoc hlt, List.map_append]; rfl
        refine Ev.step (fun k => by rw [impl_FormatQuery.j0]) ?_
        exact Ev.neg (by simp) (loop0 head.length 0 (by omega))
  · exact Ev.pos (by omega) (out (by simp [okQ_, h3]))
def fin (s : ByteArray) : Option (List ByteArray) → ByteArray
  | none => ⟨#[]⟩
  | some l => if s.size = 0 then (if l.length = 0 then none_ else jn blankB false s l) else jn blankB true s l
def done (acc : List ByteArray) : Option (List ByteArray) → ByteArray
  | none => ⟨#[]⟩
  | some l => if (acc ++ l).length = 0 then none_ else jn blankB false ⟨#[]⟩ (acc ++ l)
end Go.Proofs.Ytjiipeidginjnaa.PFmtQ

namespace Go.Proofs.Ytjiipeidginjnaa.PPInt
open Go.RowKit Go.Proofs.Ytjiipeidginjnaa.P Go.Proofs.YtjiipeidginjnaaW.PrintWords Go.Proofs.YtjiipeidginjnaaW.PrintLast Go.Proofs.Ytjiipeidginjnaa.PB Go.Proofs.Ytjiipeidginjnaa.PNum Go.Proofs.Ytjiipeidginjnaa.PIn
set_option linter.unusedVariables false

theorem wfOf {x : Int} (h1 : -9223372036854775808 ≤ x) (h2 : x ≤ 9223372036854775807) : (Lit.int .i64 x).wf = true := by
  simp only [Lit.wf, Bool.and_eq_true, decide_eq_true_eq]
  exact ⟨by simpa [IntKind.min, IntKind.bits, IntKind.signed] using h1, by simpa [IntKind.max, IntKind.bits, IntKind.signed] using h2⟩
end Go.Proofs.Ytjiipeidginjnaa.PPInt

namespace Go.Proofs.Ytjiipeidginjnaa.PVLines
open Go.RowKit Go.Proofs.Ytjiipeidginjnaa.P Go.Proofs.YtjiipeidginjnaaW.PrintWords Go.Proofs.YtjiipeidginjnaaW.PrintLast Go.Proofs.Ytjiipeidginjnaa.PB Go.Proofs.Ytjiipeidginjnaa.PNum Go.Proofs.Ytjiipeidginjnaa.PFmtQ Go.Proofs.Ytjiipeidginjnaa.PPInt
set_option linter.unusedVariables false
def spB : ByteArray := ⟨#[32]⟩
def szB : ByteArray := ⟨#[32, 115, 105, 122, 101, 32]⟩
def line (i : Nat) (v : S72) (t : List (List Int)) : ByteArray := (((fmt (i : Int) ++ spB) ++ queryB v.f0 v.f1) ++ szB) ++ fmt (t.length : Int)
def vls : Nat → List S72 → List (List (List Int)) → List ByteArray
  | i, v :: vs, t :: ts => line i v t :: vls (i + 1) vs ts
  | _, _, _ => []
theorem vls_nil (i : Nat) (vs : List S72) : vls i vs [] = [] := by cases vs <;> rfl
theorem vls_nil' (i : Nat) (ts : List (List (List Int))) : vls i [] ts = [] := rfl
theorem vls_len : ∀ (vs : List S72) (i : Nat) (ts : List (List (List Int))), (vls i vs ts).length ≤ vs.length := by
  intro vs
  induction vs with
  | nil => intro i ts; simp [vls]
  | cons v vs ih =>
    intro i ts
    cases ts with
    | nil => simp [vls]
    | cons t ts => have := ih (i + 1) ts; simp only [vls, List.length_cons]; omega
theorem rdQv (l : List S72) (i : Nat) (h : i < l.length) : rd_T72 l (i : Int) = l[i] := by rw [rd_T72]; exact getD_nat _ _ _ h
theorem rdTv (l : List (List (List Int))) (i : Nat) (h : i < l.length) : rd_L14 l (i : Int) = l[i] := by rw [rd_L14]; exact getD_nat _ _ _ h
theorem spec_vlines (vs : List S72) (ts : List (List (List Int))) (n : Int) (hv : vs.length ≤ 1048576) (ht : ts.length ≤ 1048576)
    (hq : ∀ v ∈ vs, v.f0.length ≤ 1048576 ∧ v.f1.length ≤ 1048576 ∧ ∀ a ∈ v.f1, a.f1.length ≤ 1048576) (hr : ∀ t ∈ ts, t.length ≤ 1048576) : Ev (fun k => spec_ViewLines.f k vs ts n) (vls 0 vs ts) := by
  have loop : ∀ (d i : Nat) (acc : List ByteArray), i + d = vs.length → acc.length ≤ i → Ev (fun k => spec_ViewLines.l0 k acc (i : Int) vs ts n) (acc ++ vls i (vs.drop i) (ts.drop i)) := by
    intro d
    induction d with
    | zero =>
      intro i acc hi ha
      have e : vs.drop i = [] := List.drop_of_length_le (by omega)
      rw [e, vls_nil', List.append_nil]
      refine Ev.step (fun k => by rw [spec_ViewLines.l0]) (Ev.neg (by omega) ?_)
      refine Ev.step (fun k => by rw [spec_ViewLines.j1]) ?_
      exact Ev.neg (by simp) (Ev.const rfl)
    | succ d ih =>
      intro i acc hi ha
      have hlt : i < vs.length := by omega
      refine Ev.step (fun k => by rw [spec_ViewLines.l0]) (Ev.pos (by omega) ?_)
      by_cases h2 : i < ts.length
      · rw [show decide ((i : Int) < (ts.length : Int)) = true from decide_eq_true (by omega)]
        refine Ev.step (fun k => by rw [spec_ViewLines.j1]) ?_
        have hQ := hq _ (List.getElem_mem hlt)
        have hT := hr _ (List.getElem_mem h2)
        have z1 := fmt_size (i : Int)
        have z2 := query_size vs[i].f0 vs[i].f1
        have z3 := fmt_size (ts[i].length : Int)
        have c1 : (⟨#[32]⟩ : ByteArray).size = 1 := rfl
        have c2 : (⟨#[32, 115, 105, 122, 101, 32]⟩ : ByteArray).size = 6 := rfl
        refine Ev.pos rfl (Ev.bind (spec_ev (wfOf (by omega) (by omega))) (Ev.pos (by omega) (Ev.pos (by omega) (Ev.pos (by omega) ?_))))
        rw [rdQv _ _ hlt, rdTv _ _ h2, inc (by omega)]
        refine Ev.bind (spec_query _ _ hQ.1 hQ.2.1 hQ.2.2) ?_
        refine Ev.pos (by simp only [ByteArray.size_append]; omega) ?_
        refine Ev.pos (by simp only [ByteArray.size_append]; omega) ?_
        refine Ev.pos (by omega) ?_
        refine Ev.bind (spec_ev (wfOf (by omega) (by omega))) ?_
        refine Ev.pos (by simp only [ByteArray.size_append]; omega) ?_
        refine Ev.pos (by omega) ?_
        refine Ev.eq (ih (i + 1) (acc ++ [line i vs[i] ts[i]]) (by omega) (by simp; omega)) rfl ?_
        rw [drop_cons hlt, drop_cons h2, vls, List.append_assoc]; rfl
      · rw [show decide ((i : Int) < (ts.length : Int)) = false from decide_eq_false (by omega)]
        have e : ts.drop i = [] := List.drop_of_length_le (by omega)
        rw [e, vls_nil, List.append_nil]
        refine Ev.step (fun k => by rw [spec_ViewLines.j1]) ?_
        exact Ev.neg (by simp) (Ev.const rfl)
  have h0 : Ev (fun k => spec_ViewLines.l0 k [] 0 vs ts n) ([] ++ vls 0 (vs.drop 0) (ts.drop 0)) := loop vs.length 0 [] (by omega) (by simp)
  exact h0
theorem impl_vlines (vs : List S72) (ts : List (List (List Int))) (n : Int) (hv : vs.length ≤ 1048576) (ht : ts.length ≤ 1048576)
    (hq : ∀ v ∈ vs, v.f0.length ≤ 1048576 ∧ v.f1.length ≤ 1048576 ∧ ∀ a ∈ v.f1, a.f1.length ≤ 1048576) (hr : ∀ t ∈ ts, t.length ≤ 1048576) : Ev (fun k => impl_ViewLines.f k vs ts n) (vls 0 vs ts) := by
  have loop : ∀ (d i : Nat) (acc : List ByteArray), i + d = vs.length → acc.length ≤ i → Ev (fun k => impl_ViewLines.l0 k acc vs (vs.length : Int) (i : Int) vs ts n) (acc ++ vls i (vs.drop i) (ts.drop i)) := by
    intro d
    induction d with
    | zero =>
      intro i acc hi ha
      have e : vs.drop i = [] := List.drop_of_length_le (by omega)
      rw [e, vls_nil', List.append_nil]
      exact Ev.step (fun k => by rw [impl_ViewLines.l0]) (Ev.neg (by omega) (Ev.const rfl))
    | succ d ih =>
      intro i acc hi ha
      have hlt : i < vs.length := by omega
      refine Ev.step (fun k => by rw [impl_ViewLines.l0]) (Ev.pos (by omega) (Ev.pos (by omega) (Ev.pos (by omega) ?_)))
      by_cases h2 : i < ts.length
      · have hQ := hq _ (List.getElem_mem hlt)
        have hT := hr _ (List.getElem_mem h2)
        have z1 := fmt_size (i : Int)
        have z2 := query_size vs[i].f0 vs[i].f1
        have z3 := fmt_size (ts[i].length : Int)
        have c1 : (⟨#[32]⟩ : ByteArray).size = 1 := rfl
        have c2 : (⟨#[32, 115, 105, 122, 101, 32]⟩ : ByteArray).size = 6 := rfl
        refine Ev.pos (by omega) (Ev.bind (impl_ev (wfOf (by omega) (by omega))) (Ev.pos (by omega) ?_))
        rw [rdQv _ _ hlt, rdTv _ _ h2, inc (by omega)]
        refine Ev.bind (impl_query _ _ hQ.1 hQ.2.1 hQ.2.2) ?_
        refine Ev.pos (by simp only [ByteArray.size_append]; omega) ?_
        refine Ev.pos (by simp only [ByteArray.size_append]; omega) ?_
        refine Ev.bind (impl_ev (wfOf (by omega) (by omega))) ?_
        refine Ev.pos (by simp only [ByteArray.size_append]; omega) ?_
        refine Ev.pos (by omega) ?_
        refine Ev.eq (ih (i + 1) (acc ++ [line i vs[i] ts[i]]) (by omega) (by simp; omega)) rfl ?_
        rw [drop_cons hlt, drop_cons h2, vls, List.append_assoc]; rfl
      · refine Ev.neg (by omega) ?_
        rw [inc (by omega)]
        refine Ev.eq (ih (i + 1) acc (by omega) (by omega)) rfl ?_
        rw [show ts.drop i = [] from List.drop_of_length_le (by omega), show ts.drop (i + 1) = [] from List.drop_of_length_le (by omega), vls_nil, vls_nil]
  have h0 : Ev (fun k => impl_ViewLines.l0 k [] vs (vs.length : Int) 0 vs ts n) ([] ++ vls 0 (vs.drop 0) (ts.drop 0)) := loop vs.length 0 [] (by omega) (by simp)
  exact h0
end Go.Proofs.Ytjiipeidginjnaa.PVLines

