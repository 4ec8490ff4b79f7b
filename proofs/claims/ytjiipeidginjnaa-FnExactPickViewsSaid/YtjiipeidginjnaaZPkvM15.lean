/- Several texts in one: what the claim needs of them. Conditions: each declaration's own. -/
import Derived.Test.YtjiipeidginjnaaZPkvWShare
import Derived.Test.YtjiipeidginjnaaZPkvWApart
import Derived.Test.YtjiipeidginjnaaZPkvM10
import Derived.Test.YtjiipeidginjnaaZPkvWWords
import Derived.Test.YtjiipeidginjnaaZPkvPx6
import Derived.Test.YtjiipeidginjnaaZPkvPx7
import Derived.Test.YtjiipeidginjnaaZPkvPx8
import Derived.Test.YtjiipeidginjnaaZPkvM14
import Derived.Deep.Slices
import Derived.Deep.Strs
import Derived.Lib.SmallJoins
import Derived.WideShapes
import Derived.ChangeSame
import Derived.DataElems
namespace Go.Proofs.Ytjiipeidginjnaa.Lay
open Go.RowKit Go.Proofs.YtjiipeidginjnaaW.PrintWords
set_option linter.unusedVariables false
set_option linter.unusedSimpArgs false

abbrev pa (g j : Nat) : Addr := ⟨g, j, none⟩
def isI (v : Value) : Prop := ∃ x, v = .int .i64 x
/-- Every plain cell of W stands in W', integers being integers still. -/
structure Hd (W W' : World) : Prop where
  size : W.heap.size ≤ W'.heap.size
  cell : ∀ g j v, W.cell? (pa g j) = some v → W.frozen? (pa g j) = false → W'.frozen? (pa g j) = false ∧ ∃ v', W'.cell? (pa g j) = some v' ∧ (v' = v ∨ isI v ∧ isI v')

variable {W W1 W2 w w1 w2 : World} {g j o : Nat} {v u : Value} {k x : Int}

theorem Hd.trans (h : Hd W W1) (k : Hd W1 W2) : Hd W W2 := ⟨Nat.le_trans h.size k.size, fun g j v hc hf => by
  obtain ⟨f1, v1, c1, e1⟩ := h.cell g j v hc hf
  obtain ⟨f2, v2, c2, e2⟩ := k.cell g j v1 c1 f1
  refine ⟨f2, v2, c2, ?_⟩
  rcases e2 with rfl | ⟨i1, i2⟩
  · exact e1
  · rcases e1 with rfl | ⟨j1, _⟩
    · exact .inr ⟨i1, i2⟩
    · exact .inr ⟨j1, i2⟩⟩
theorem blk_same (h : W1.heap[g]? = W.heap[g]?) (j : Nat) : W1.cell? (pa g j) = W.cell? (pa g j) ∧ W1.frozen? (pa g j) = W.frozen? (pa g j) := by
  unfold World.cell? World.frozen?
  simp only [pa]
  rw [h]
  exact ⟨rfl, rfl⟩
theorem lt_of_cell (h : W.cell? (pa g j) = some v) : g < W.heap.size := World.block_lt_of_cell? W _ h
theorem Hd.below (hb : Below W.heap.size W W1) : Hd W W1 := ⟨hb.size, fun g j v hc hf => by
  have hs := blk_same (hb.block g (lt_of_cell hc)) j
  exact ⟨hs.2.trans hf, v, hs.1.trans hc, .inl rfl⟩⟩
theorem obj_of_cell (h : W.cell? (pa g j) = some v) : ∃ cs t fz, W.heap[g]? = some (.cells cs t fz) ∧ cs[j]? = some v := by
  unfold World.cell? at h
  simp only [pa] at h
  split at h
  · rename_i c e f hc
    exact ⟨c, e, f, hc, by simpa using h⟩
  · cases h
theorem set_obj {cs : Array Value} {t : TypeId} {fz : Nat × Nat} (h : W.heap[g]? = some (.cells cs t fz)) (j : Nat) (u : Value) : (W.setCell (pa g j) u).heap[g]? = some (.cells (cs.setIfInBounds j u) t fz) := by
  simp only [World.setCell, pa, Array.getElem?_modify, if_true, h, Option.map_some]
  rfl
theorem set_cell (h : W.cell? (pa g j) = some v) (u : Value) : (W.setCell (pa g j) u).cell? (pa g j) = some u := by
  obtain ⟨cs, t, fz, ho, hc⟩ := obj_of_cell h
  unfold World.cell?
  simp only [set_obj ho, pa]
  have hj : j < cs.size := (Array.getElem?_eq_some_iff.1 hc).1
  simp [Array.getElem?_setIfInBounds, hj]
theorem set_other {g' j' : Nat} (u : Value) (hne : ¬ (g' = g ∧ j' = j)) : (W.setCell (pa g j) u).cell? (pa g' j') = W.cell? (pa g' j') := by
  by_cases hg : g' = g
  · subst hg
    have hj : j ≠ j' := fun h => hne ⟨rfl, h.symm⟩
    rcases hh : W.heap[g']? with _ | ob
    · have : (W.setCell (pa g' j) u).heap[g']? = none := by simp [World.setCell, pa, Array.getElem?_modify, hh]
      unfold World.cell?
      simp only [pa] at this ⊢
      rw [this, hh]
    · by_cases hk : ∃ cs t fz, ob = .cells cs t fz
      · obtain ⟨cs, t, fz, rfl⟩ := hk
        unfold World.cell?
        have := set_obj hh j u
        simp only [pa] at this ⊢
        rw [this, hh]
        simp [Array.getElem?_setIfInBounds, hj]
      · have h2 : (W.setCell (pa g' j) u).heap[g']? = some ob := by
          simp only [World.setCell, pa, Array.getElem?_modify, if_true, hh, Option.map_some]
          cases ob <;> first | rfl | exact absurd ⟨_, _, _, rfl⟩ hk
        exact (blk_same (h2.trans hh.symm) j').1
  · exact (blk_same (Below.heap_setCell W (pa g j) u g' (fun h => hg h)) j').1
theorem set_frozen (g' j' : Nat) (u : Value) : (W.setCell (pa g j) u).frozen? (pa g' j') = W.frozen? (pa g' j') := by
  by_cases hg : g' = g
  · subst hg
    rcases hh : W.heap[g']? with _ | ob
    · have : (W.setCell (pa g' j) u).heap[g']? = none := by simp [World.setCell, pa, Array.getElem?_modify, hh]
      unfold World.frozen?
      simp only [pa] at this ⊢
      rw [this, hh]
    · by_cases hk : ∃ cs t fz, ob = .cells cs t fz
      · obtain ⟨cs, t, fz, rfl⟩ := hk
        unfold World.frozen?
        have := set_obj hh j u
        simp only [pa] at this ⊢
        rw [this, hh]
      · have h2 : (W.setCell (pa g' j) u).heap[g']? = some ob := by
          simp only [World.setCell, pa, Array.getElem?_modify, if_true, hh, Option.map_some]
          cases ob <;> first | rfl | exact absurd ⟨_, _, _, rfl⟩ hk
        exact (blk_same (h2.trans hh.symm) j').2
  · exact (blk_same (Below.heap_setCell W (pa g j) u g' (fun h => hg h)) j').2

abbrev Pl := List (Nat × Nat)
/-- An integer's cell. -/
def Ic (W : World) (g j : Nat) : Prop := W.frozen? (pa g j) = false ∧ ∃ x, W.cell? (pa g j) = some (.int .i64 x)
theorem Ic.hd (h : Ic W g j) (hh : Hd W W1) : Ic W1 g j := by
  obtain ⟨hf, x, hc⟩ := h
  obtain ⟨f1, v1, c1, e1⟩ := hh.cell g j _ hc hf
  rcases e1 with rfl | ⟨_, y, rfl⟩
  · exact ⟨f1, x, c1⟩
  · exact ⟨f1, y, c1⟩

/-- What k, k+1, .. at the places al make of a world. -/
structure Wr (w w' : World) (al : Pl) (k : Int) : Prop where
  same : w'.os = w.os ∧ w'.tape = w.tape ∧ w'.output = w.output
  hd : Hd w w'
  kept : Kept w w' (fun b => ∃ p ∈ al, p.1 = b)
  other : ∀ g j, (g, j) ∉ al → g < w.heap.size → w'.cell? (pa g j) = w.cell? (pa g j)
  val : al.Nodup → ∀ j (h : j < al.length), w'.cell? (pa al[j].1 al[j].2) = some (.int .i64 (k + j))

theorem Wr.below (hb : Below w.heap.size w w1) (k : Int) : Wr w w1 [] k :=
  ⟨⟨hb.os, hb.tape, hb.output⟩, Hd.below hb, Kept.of_below hb _, fun g j _ hg => (blk_same (hb.block g hg) j).1, fun _ j h => absurd h (Nat.not_lt_zero _)⟩
theorem Wr.nil (w : World) (k : Int) : Wr w w [] k := Wr.below (Below.refl _ _) k
theorem Wr.trans {al bs : Pl} (h : Wr w w1 al k) (h2 : Wr w1 w2 bs (k + al.length)) (ha : ∀ p ∈ al, p.1 < w.heap.size) : Wr w w2 (al ++ bs) k := by
  refine ⟨⟨h2.same.1.trans h.same.1, h2.same.2.1.trans h.same.2.1, h2.same.2.2.trans h.same.2.2⟩, Hd.trans h.hd h2.hd, ?_, ?_, ?_⟩
  · refine Kept.then_ (Kept.mono h.kept (fun b ⟨p, hp, e⟩ => ⟨p, List.mem_append_left _ hp, e⟩)) h2.kept (fun b ⟨p, hp, e⟩ => .inl ⟨p, List.mem_append_right _ hp, e⟩)
  · intro g j hn hg
    rw [h2.other g j (fun hm => hn (List.mem_append_right _ hm)) (Nat.lt_of_lt_of_le hg h.hd.size), h.other g j (fun hm => hn (List.mem_append_left _ hm)) hg]
  · intro hnd j hj
    rw [List.nodup_append] at hnd
    rcases Nat.lt_or_ge j al.length with hl | hl
    · rw [List.getElem_append_left hl]
      have hm : al[j] ∈ al := List.getElem_mem hl
      exact (h2.other al[j].1 al[j].2 (fun hb => hnd.2.2 _ hm _ hb rfl) (Nat.lt_of_lt_of_le (ha _ hm) h.hd.size)).trans (h.val hnd.1 j hl)
    · rw [List.getElem_append_right hl]
      have := h2.val hnd.2.1 (j - al.length) (by rw [List.length_append] at hj; omega)
      rw [this]
      congr 2
      omega
theorem Wr.snoc {al : Pl} (h : Wr w w1 al k) (hb : Below w1.heap.size w1 w2) (ha : ∀ p ∈ al, p.1 < w.heap.size) : Wr w w2 al k := by
  have := Wr.trans h (Wr.below hb _) ha
  rwa [List.append_nil] at this
theorem Wr.store (h : Ic w g j) (k : Int) : Wr w (w.setCell (pa g j) (.int .i64 k)) [(g, j)] k := by
  obtain ⟨hf, x, hc⟩ := h
  refine ⟨⟨rfl, rfl, rfl⟩, ⟨by simp [World.setCell], ?_⟩, ?_, ?_, ?_⟩
  · intro g' j' v hv hfv
    refine ⟨(set_frozen g' j' _).trans hfv, ?_⟩
    by_cases he : g' = g ∧ j' = j
    · obtain ⟨rfl, rfl⟩ := he
      refine ⟨_, set_cell hc _, .inr ⟨?_, k, rfl⟩⟩
      rw [hc] at hv
      exact ⟨x, (Option.some.inj hv).symm⟩
    · exact ⟨v, (set_other _ he).trans hv, .inl rfl⟩
  · exact (Kept.refl w _).setCell (.inl ⟨(g, j), List.mem_singleton.2 rfl, rfl⟩) _
  · intro g' j' hn _
    exact set_other _ (fun he => hn (by rw [List.mem_singleton, he.1, he.2]))
  · intro _ i hi
    have : i = 0 := by simp at hi; omega
    subst this
    simpa using set_cell hc (.int .i64 k)

abbrev El := World → Nat → Nat → Pl → Prop
def St (E : El) : Prop := ∀ (W W' : World) (g o : Nat) (al : Pl), Hd W W' → E W g o al → E W' g o al
def In (E : El) : Prop := ∀ (W : World) (g o : Nat) (al : Pl), E W g o al → ∀ p ∈ al, p.1 < W.heap.size
def eInt : El := fun W g o al => Ic W g o ∧ al = [(g, o)]
def Row (sz : Nat) (E : El) (W : World) (v : Value) (al : Pl) : Prop :=
  ∃ A n c, v = .slice A n c ∧ n ≤ 9223372036854775807 ∧ ∃ ass : List Pl, ass.length = n ∧ al = ass.flatten ∧ (0 < n → ∃ g, A = some (pa g 0) ∧ ∀ j (h : j < ass.length), E W g (j * sz) ass[j])
def eRow (R : World → Value → Pl → Prop) : El := fun W g o al => ∃ v, W.cell? (pa g o) = some v ∧ W.frozen? (pa g o) = false ∧ ¬ isI v ∧ R W v al
def ePair (E1 E2 : El) : El := fun W g o al => ∃ bs cs, E1 W g o bs ∧ E2 W g (o + 1) cs ∧ al = bs ++ cs
def StR (R : World → Value → Pl → Prop) : Prop := ∀ (W W' : World) (v : Value) (al : Pl), Hd W W' → R W v al → R W' v al
def InR (R : World → Value → Pl → Prop) : Prop := ∀ (W : World) (v : Value) (al : Pl), R W v al → ∀ p ∈ al, p.1 < W.heap.size

theorem st_int : St eInt := fun _ _ _ _ _ hh h => ⟨h.1.hd hh, h.2⟩
theorem in_int : In eInt := by
  rintro W g o al ⟨⟨_, x, hc⟩, rfl⟩ p hp
  rw [List.mem_singleton.1 hp]
  exact lt_of_cell hc
theorem st_pair {E1 E2 : El} (h1 : St E1) (h2 : St E2) : St (ePair E1 E2) := by
  rintro W W' g o al hh ⟨bs, cs, a, b, rfl⟩
  exact ⟨bs, cs, h1 _ _ _ _ _ hh a, h2 _ _ _ _ _ hh b, rfl⟩
theorem in_pair {E1 E2 : El} (h1 : In E1) (h2 : In E2) : In (ePair E1 E2) := by
  rintro W g o al ⟨bs, cs, a, b, rfl⟩ p hp
  rcases List.mem_append.1 hp with hp | hp
  · exact h1 _ _ _ _ a p hp
  · exact h2 _ _ _ _ b p hp
theorem st_row {sz : Nat} {E : El} (h : St E) : StR (Row sz E) := by
  rintro W W' v al hh ⟨A, n, c, rfl, hn, ass, hl, rfl, hr⟩
  refine ⟨A, n, c, rfl, hn, ass, hl, rfl, fun h0 => ?_⟩
  obtain ⟨g, e, he⟩ := hr h0
  exact ⟨g, e, fun j hj => h _ _ _ _ _ hh (he j hj)⟩
theorem in_row {sz : Nat} {E : El} (h : In E) : InR (Row sz E) := by
  rintro W v al ⟨A, n, c, rfl, hn, ass, hl, rfl, hr⟩ p hp
  obtain ⟨al, hm, hp⟩ := List.mem_flatten.1 hp
  obtain ⟨j, hj, rfl⟩ := List.getElem_of_mem hm
  obtain ⟨g, _, he⟩ := hr (by omega)
  exact h _ _ _ _ (he j hj) p hp
theorem st_eRow {R : World → Value → Pl → Prop} (h : StR R) : St (eRow R) := by
  rintro W W' g o al hh ⟨v, hc, hf, hi, hr⟩
  obtain ⟨f1, v1, c1, e1⟩ := hh.cell g o v hc hf
  rcases e1 with rfl | ⟨hv, _⟩
  · exact ⟨v1, c1, f1, hi, h _ _ _ _ hh hr⟩
  · exact absurd hv hi
theorem in_eRow {R : World → Value → Pl → Prop} (h : InR R) : In (eRow R) := by
  rintro W g o al ⟨v, hc, hf, hi, hr⟩ p hp
  exact h _ _ _ hr p hp
/-- The row's own letters. -/
theorem Row.open_ {sz : Nat} {E : El} {al : Pl} (h : Row sz E W v al) : ∃ A n c, v = .slice A n c ∧ n ≤ 9223372036854775807 ∧ ∃ ass : List Pl, ass.length = n ∧ al = ass.flatten ∧ (0 < n → ∃ g, A = some (pa g 0) ∧ ∀ j (h : j < ass.length), E W g (j * sz) ass[j]) := h
theorem flat_take {ass : List Pl} {i : Nat} (h : i < ass.length) : (ass.take (i + 1)).flatten = (ass.take i).flatten ++ ass[i] := by
  rw [List.take_succ_eq_append_getElem h, List.flatten_append]
  simp

/-- An element made (its cells at g, o) hal its places, cnt of them, in blocks of ok or in g. -/
def Mk {α : Type} (d : Kd α) (E : El) (cnt : α → Nat) : Prop := ∀ {W : World} {base : Nat} {ok : Nat → Prop} {x : α} {cs : List Value} {g o : Nat},
  d.M W base ok x cs → (∀ i u, cs[i]? = some u → W.cell? (pa g (o + i)) = some u ∧ W.frozen? (pa g (o + i)) = false) → ∃ al, E W g o al ∧ al.length = cnt x ∧ ∀ p ∈ al, p.1 = g ∨ ok p.1
def sumOf {α : Type} (cnt : α → Nat) : List α → Nat
  | [] => 0
  | x :: xs => cnt x + sumOf cnt xs
theorem pick {α : Type} {n : Nat} {P : Nat → α → Prop} (h : ∀ j, j < n → ∃ a, P j a) : ∃ l : List α, l.length = n ∧ ∀ j (hj : j < l.length), P j l[j] := by
  induction n with
  | zero => exact ⟨[], rfl, fun j hj => absurd hj (Nat.not_lt_zero _)⟩
  | succ n ih =>
    obtain ⟨l, hl, hp⟩ := ih (fun j hj => h j (by omega))
    obtain ⟨a, ha⟩ := h n (by omega)
    refine ⟨l ++ [a], by simp [hl], fun j hj => ?_⟩
    rcases Nat.lt_or_ge j l.length with h1 | h1
    · rw [List.getElem_append_left h1]; exact hp j h1
    · have : j = l.length := by rw [List.length_append, List.length_singleton] at hj; omega
      subst this
      simp only [List.getElem_append_right (Nat.le_refl _), Nat.sub_self, List.getElem_cons_zero]
      rw [hl]; exact ha
theorem flat_len {α : Type} {cnt : α → Nat} : ∀ (xs : List α) (ass : List Pl), ass.length = xs.length → (∀ j (h : j < ass.length) (h' : j < xs.length), ass[j].length = cnt xs[j]) → ass.flatten.length = sumOf cnt xs
  | [], ass, hl, _ => by
    have : ass = [] := List.eq_nil_of_length_eq_zero hl
    subst this; rfl
  | x :: xs, [], hl, _ => by simp at hl
  | x :: xs, al :: ass, hl, h => by
    rw [List.flatten_cons, List.length_append, flat_len xs ass (by simpa using hl) (fun j h1 h2 => h (j + 1) (by simpa using h1) (by simpa using h2))]
    have := h 0 (by simp) (by simp)
    simp only [List.getElem_cons_zero] at this
    rw [this, sumOf]
theorem row_of_R {α : Type} {d : Kd α} {E : El} {cnt : α → Nat} (hE : Mk d E cnt) {e base : Nat} {ok : Nat → Prop} {xs : List α} (hm : xs.length ≤ 9223372036854775807) (h : d.R e W base ok v xs) :
    ∃ al, Row d.sz E W v al ∧ al.length = sumOf cnt xs ∧ ∀ p ∈ al, ok p.1 := by
  obtain ⟨hok, inner, ho, hr⟩ := h
  rcases ho.2 with ⟨rfl, h0⟩ | ⟨g, cap, cur, rfl, hgb, hh, hnc, _, hcs, htk⟩
  · have hx : xs = [] := List.eq_nil_of_length_eq_zero h0
    subst hx
    exact ⟨[], ⟨none, 0, 0, rfl, Nat.zero_le _, [], rfl, rfl, fun h => absurd h (Nat.lt_irrefl 0)⟩, rfl, fun p hp => absurd hp List.not_mem_nil⟩
  · have hil : inner.length = xs.length * d.sz := ho.1
    have hcell : ∀ j u, inner[j]? = some u → W.cell? (pa g j) = some u ∧ W.frozen? (pa g j) = false := by
      intro j u hu
      have hlt : j < inner.length := (List.getElem?_eq_some_iff.1 hu).1
      rw [← htk] at hu
      rw [List.getElem?_take] at hu
      split at hu
      · refine ⟨?_, ?_⟩
        · unfold World.cell?; simp only [pa, hh]; simpa using hu
        · unfold World.frozen?; simp [pa, hh]
      · cases hu
    have hel : ∀ j, j < xs.length → ∃ al : Pl, E W g (j * d.sz) al ∧ (∃ h : j < xs.length, al.length = cnt xs[j]) ∧ ∀ p ∈ al, ok p.1 := by
      intro j hj
      have hM := hr.2 j _ (List.getElem?_eq_getElem hj)
      obtain ⟨al, ha, hlen, hp⟩ := hE hM (g := g) (o := j * d.sz) (fun i u hu => by
        rw [List.getElem?_take] at hu
        split at hu
        · rw [List.getElem?_drop] at hu
          exact hcell _ _ hu
        · cases hu)
      refine ⟨al, ha, ⟨hj, hlen⟩, fun p hpp => ?_⟩
      rcases hp p hpp with h1 | h1
      · rw [h1]; exact hok g (by simp [Value.ownBlock])
      · exact h1.1
    obtain ⟨ass, hal, hap⟩ := pick hel
    refine ⟨ass.flatten, ⟨_, _, cap, rfl, hm, ass, hal, rfl, fun _ => ⟨g, rfl, fun j hj => (hap j hj).1⟩⟩, flat_len xs ass hal (fun j h1 h2 => (hap j h1).2.1.2), fun p hp => ?_⟩
    obtain ⟨al, hm, hp⟩ := List.mem_flatten.1 hp
    obtain ⟨j, hj, rfl⟩ := List.getElem_of_mem hm
    exact (hap j hj).2.2 p hp
theorem mk_int : Mk (Kd.int .i64) eInt (fun _ => 1) := by
  intro W base ok x cs g o hM hc
  have hcs : cs = [.int .i64 x] := (Kd.int .i64).K_of_M hM
  subst hcs
  have := hc 0 _ rfl
  exact ⟨[(g, o)], ⟨⟨this.2, x, this.1⟩, rfl⟩, rfl, fun p hp => .inl (by rw [List.mem_singleton.1 hp])⟩
theorem mk_slice {α : Type} {d : Kd α} {E : El} {cnt : α → Nat} (hE : Mk d E cnt) (e : Nat) : Mk (Kd.slice e d) (eRow (Row d.sz E)) (sumOf cnt) := by
  rintro W base ok xs cs g o ⟨v, rfl, hR⟩ hc
  have h2 := Kd.R_reads hR
  obtain ⟨A, c, rfl, hl, hr⟩ := h2
  obtain ⟨al, ha, hlen, hp⟩ := row_of_R hE hr.2.1 hR
  have := hc 0 _ rfl
  exact ⟨al, ⟨_, this.1, this.2, fun ⟨x, hx⟩ => (by cases hx), ha⟩, hlen, fun p hp' => .inr (hp p hp')⟩
end Go.Proofs.Ytjiipeidginjnaa.Lay

namespace Go.Proofs.Ytjiipeidginjnaa.LawM
open Go.RowKit Go.Proofs.YtjiipeidginjnaaW.PrintWords Go.Proofs.Ytjiipeidginjnaa.Lay
set_option linter.unusedVariables false
set_option linter.unusedSimpArgs false
variable {α β : Type} {d : Kd α} {d' : Kd β} {w W W1 : World} {lo hi lo' hi' base e : Nat} {A : Option Addr} {xs : List α} {v : Value} {pls : Pl} {k : Int} {ok : Nat → Prop}

/-- A row that is read, in the blocks from lo to hi. -/
abbrev FI {α : Type} (d : Kd α) (W : World) (lo hi : Nat) (A : Option Addr) (xs : List α) : Prop := Kd.F d W (fun b => lo ≤ b ∧ b < hi) A xs.length xs
theorem FI.below (h : FI d W lo hi A xs) (hb : Below W.heap.size W W1) : FI d W1 lo hi A xs := Kd.F_below h hb
theorem FI.wr (h : FI d W lo hi A xs) (hw : Wr W W1 pls k) (hp : ∀ p ∈ pls, lo' ≤ p.1 ∧ p.1 < hi') (hd : hi ≤ lo' ∨ hi' ≤ lo) : FI d W1 lo hi A xs :=
  Kd.F_kept h hw.kept (fun b hb ⟨p, hp', e⟩ => by have := hp p hp'; omega)
theorem FI.kept (h : FI d W lo hi A xs) (hk : Kept W W1 (fun b => lo' ≤ b ∧ b < hi')) (hd : hi ≤ lo' ∨ hi' ≤ lo) : FI d W1 lo hi A xs :=
  Kd.F_kept h hk (fun b hb hb' => by omega)
theorem FI.now (h : FI d W lo hi A xs) : d.C W A xs.length xs := Kd.F_now h
theorem open_R (h : d.R e W base ok v xs) : ∃ A c, v = .slice A xs.length c ∧ xs.length ≤ c ∧ xs.length ≤ 9223372036854775807 ∧ FI d W base W.heap.size A xs := by
  obtain ⟨A, c, rfl, hl, hc⟩ := Kd.R_reads h
  exact ⟨A, c, rfl, hl, hc.2.1, Kd.F_mono (Kd.R_F (Kd.R_bound h)) (fun k hk => ⟨hk.2.1, hk.2.2.1⟩)⟩
theorem span_R (h : d.R e W base ok v xs) : d.R e W base (fun b => base ≤ b ∧ b < W.heap.size) v xs := Kd.R_mono (Kd.R_bound h) (fun k hk => ⟨hk.2.1, hk.2.2.1⟩)
theorem R_wr (h : d.R e W base (fun b => lo ≤ b ∧ b < hi) v xs) (hw : Wr W W1 pls k) (hp : ∀ p ∈ pls, lo' ≤ p.1 ∧ p.1 < hi') (hd : hi ≤ lo' ∨ hi' ≤ lo) : d.R e W1 base (fun b => lo ≤ b ∧ b < hi) v xs :=
  Kd.R_kept h hw.kept (fun b hb ⟨p, hp', e⟩ => by have := hp p hp'; omega)
theorem below_wr (hb : Below w.heap.size w W) (hw : Wr W W1 pls k) (hp : ∀ p ∈ pls, lo' ≤ p.1 ∧ p.1 < hi') (hl : w.heap.size ≤ lo') : Below w.heap.size w W1 :=
  hb.trans ⟨hw.same.1, hw.same.2.1, hw.same.2.2, hw.hd.size, fun b hb' => hw.kept.2 b (Nat.lt_of_lt_of_le hb' hb.size) (fun ⟨p, hp', e⟩ => by have := hp p hp'; omega)⟩
/-- The same, in the span that is known. -/
theorem places_in {E : El} {cnt : α → Nat} {sz : Nat} (hE : Mk d E cnt) (hs : d.sz = sz) (h : d.R e W base (fun b => lo ≤ b ∧ b < hi) v xs) : ∃ pls, Row sz E W v pls ∧ pls.length = sumOf cnt xs ∧ ∀ p ∈ pls, lo ≤ p.1 ∧ p.1 < hi := by
  subst hs
  exact row_of_R hE (Kd.R_reads h).choose_spec.choose_spec.2.2.2.1 h
theorem row_below {sz : Nat} {E : El} (hE : St E) (h : Row sz E W v pls) (hb : Below W.heap.size W W1) : Row sz E W1 v pls := st_row hE _ _ _ _ (Hd.below hb) h
theorem row_wr {sz : Nat} {E : El} {qs : Pl} (hE : St E) (h : Row sz E W v pls) (hw : Wr W W1 qs k) : Row sz E W1 v pls := st_row hE _ _ _ _ hw.hd h
theorem mk_pair {E1 E2 : El} {c1 : α → Nat} {c2 : β → Nat} (h1 : Mk d E1 c1) (h2 : Mk d' E2 c2) (hs : d.sz = 1) : Mk (Kd.pair d d') (ePair E1 E2) (fun x => c1 x.1 + c2 x.2) := by
  rintro W base ok x cs g o ⟨a, b, rfl, ha, hb⟩ hc
  have hl : a.length = 1 := (d.K_len (d.K_of_M ha)).trans hs
  obtain ⟨p1, q1, l1, m1⟩ := h1 ha (g := g) (o := o) (fun i u hu => hc i u (by
    rw [List.getElem?_append_left (List.getElem?_eq_some_iff.1 hu).1]; exact hu))
  obtain ⟨p2, q2, l2, m2⟩ := h2 hb (g := g) (o := o + 1) (fun i u hu => by
    have := hc (1 + i) u (by rw [List.getElem?_append_right (by omega), hl, Nat.add_sub_cancel_left]; exact hu)
    rwa [← Nat.add_assoc] at this)
  refine ⟨p1 ++ p2, ⟨p1, p2, q1, q2, rfl⟩, by rw [List.length_append, l1, l2], fun p hp => ?_⟩
  rcases List.mem_append.1 hp with hp | hp
  · exact m1 p hp
  · exact m2 p hp
theorem mk_iso {E : El} {cnt : α → Nat} (f : β → α) (h : Mk d E cnt) : Mk (Kd.iso d f) E (fun x => cnt (f x)) := fun hM hc => h hM hc
end Go.Proofs.Ytjiipeidginjnaa.LawM

namespace Go.Proofs.Ytjiipeidginjnaa.Deep
open Go.RowKit Go.Proofs.YtjiipeidginjnaaW.PrintWords Go.Proofs.Ytjiipeidginjnaa.Lay Go.Proofs.Ytjiipeidginjnaa.LawM
set_option linter.unusedVariables false
set_option linter.unusedSimpArgs false
/-- A row in a cell, its elements' rows apart. -/
def sliceS {α : Type} (e : Nat) (d : Kd α) : Kd (List α) where
  sz := 1
  E := e :: d.E
  K := (Kd.slice e d).K
  M := fun w base ok xs cs => ∃ v, cs = [v] ∧ Kd.S d e w base ok v xs
  K_len := (Kd.slice e d).K_len
  K_one := (Kd.slice e d).K_one
  K_below := (Kd.slice e d).K_below
  K_of_M := fun {w base ok x cs} h => (Kd.slice e d).K_of_M (base := base) (ok := ok) (by obtain ⟨v, hv, hs⟩ := h; exact ⟨v, hv, Kd.S_R hs⟩)
  M_mono := by
    rintro w base ok ok' x cs hok ⟨v, rfl, h⟩
    exact ⟨v, rfl, Kd.S_mono h hok⟩
  M_bound := by
    rintro w base ok x cs ⟨v, rfl, h⟩
    exact ⟨v, rfl, Kd.S_bound h⟩
  M_move := by
    rintro w w1 base ok x cs hm ⟨v, rfl, h⟩
    exact ⟨v, rfl, Kd.S_move h hm⟩
  M_lower := by
    rintro w base base' ok x cs hb ⟨v, rfl, h⟩
    exact ⟨v, rfl, Kd.S_lower h hb⟩
/-- Two values behind each other, their blocks apart. -/
def pairA {α β : Type} (a : Kd α) (b : Kd β) : Kd (α × β) where
  sz := (Kd.pair a b).sz
  E := (Kd.pair a b).E
  K := (Kd.pair a b).K
  M := fun w base ok x cs => ∃ c0 c1 ok0 ok1, cs = c0 ++ c1 ∧ (∀ k, ok0 k → ok k) ∧ (∀ k, ok1 k → ok k) ∧ (∀ k, ok0 k → ¬ ok1 k) ∧ a.M w base ok0 x.1 c0 ∧ b.M w base ok1 x.2 c1
  K_len := (Kd.pair a b).K_len
  K_one := (Kd.pair a b).K_one
  K_below := (Kd.pair a b).K_below
  K_of_M := fun {w base ok x cs} h => by
    obtain ⟨c0, c1, ok0, ok1, he, h0, h1, _, ha, hb⟩ := h
    exact ⟨c0, c1, he, a.K_of_M ha, b.K_of_M hb⟩
  M_mono := by
    rintro w base ok ok' x cs hok ⟨c0, c1, ok0, ok1, he, h0, h1, hd, ha, hb⟩
    exact ⟨c0, c1, ok0, ok1, he, fun k hk => hok k (h0 k hk), fun k hk => hok k (h1 k hk), hd, ha, hb⟩
  M_bound := by
    rintro w base ok x cs ⟨c0, c1, ok0, ok1, he, h0, h1, hd, ha, hb⟩
    refine ⟨c0, c1, _, _, he, ?_, ?_, ?_, a.M_bound ha, b.M_bound hb⟩
    · rintro k ⟨hk, hb', hl, q, hq, hc⟩
      exact ⟨h0 k hk, hb', hl, q, List.mem_append_left _ hq, hc⟩
    · rintro k ⟨hk, hb', hl, q, hq, hc⟩
      exact ⟨h1 k hk, hb', hl, q, List.mem_append_right _ hq, hc⟩
    · rintro k ⟨hk, _⟩ ⟨hk', _⟩
      exact hd k hk hk'
  M_move := by
    rintro w w1 base ok x cs hm ⟨c0, c1, ok0, ok1, he, h0, h1, hd, ha, hb⟩
    exact ⟨c0, c1, ok0, ok1, he, h0, h1, hd, a.M_move (fun k hk => hm k (h0 k hk)) ha, b.M_move (fun k hk => hm k (h1 k hk)) hb⟩
  M_lower := by
    rintro w base base' ok x cs hb' ⟨c0, c1, ok0, ok1, he, h0, h1, hd, ha, hb⟩
    exact ⟨c0, c1, ok0, ok1, he, h0, h1, hd, a.M_lower hb' ha, b.M_lower hb' hb⟩
variable {α β : Type} {d : Kd α} {d' : Kd β} {w W W1 : World} {lo hi base e : Nat} {xs : List α} {v : Value} {k : Int} {ok : Nat → Prop}
/-- As Mk, and no place is named twice; the places in the element's own block lie among its cells. -/
def MkN {α : Type} (d : Kd α) (E : El) (cnt : α → Nat) : Prop := ∀ {W : World} {base : Nat} {ok : Nat → Prop} {x : α} {cs : List Value} {g o : Nat},
  d.M W base ok x cs → ¬ ok g → (∀ i u, cs[i]? = some u → W.cell? (pa g (o + i)) = some u ∧ W.frozen? (pa g (o + i)) = false) → ∃ pls : Pl, E W g o pls ∧ pls.length = cnt x ∧ pls.Nodup ∧ ∀ p ∈ pls, (p.1 = g ∧ o ≤ p.2 ∧ p.2 < o + d.sz) ∨ ok p.1
theorem flat_nodup {Q : Nat → Nat × Nat → Prop} : ∀ (ass : List Pl) (i : Nat), (∀ j (h : j < ass.length), ass[j].Nodup ∧ ∀ p ∈ ass[j], Q (i + j) p) → (∀ i j p, Q i p → Q j p → i = j) → ass.flatten.Nodup
  | [], _, _, _ => List.nodup_nil
  | a :: r, i, h, hq => by
    rw [List.flatten_cons, List.nodup_append]
    have h0 := h 0 (by simp)
    refine ⟨h0.1, flat_nodup (Q := Q) r (i + 1) (fun j hj => ?_) hq, ?_⟩
    · have := h (j + 1) (by simpa using hj)
      rw [show i + (j + 1) = i + 1 + j by omega] at this
      exact this
    · intro p hp q hq' he
      subst he
      obtain ⟨b, hb, hpb⟩ := List.mem_flatten.1 hq'
      obtain ⟨j, hj, rfl⟩ := List.getElem_of_mem hb
      have h1 := (h (j + 1) (by simpa using hj)).2 p hpb
      have h2 := h0.2 p hp
      have := hq _ _ _ h2 h1
      omega
theorem mkn_int : MkN (Kd.int .i64) eInt (fun _ => 1) := by
  intro W base ok x cs g o hM hg hc
  have hcs : cs = [.int .i64 x] := (Kd.int .i64).K_of_M hM
  subst hcs
  have := hc 0 _ rfl
  refine ⟨[(g, o)], ⟨⟨this.2, x, this.1⟩, rfl⟩, rfl, by simp, fun p hp => .inl ?_⟩
  rw [List.mem_singleton.1 hp]
  exact ⟨rfl, Nat.le_refl _, Nat.lt_succ_self _⟩
/-- Of a row: f tells the element of each block. -/
theorem row_nodup {E : El} {cnt : α → Nat} (hE : MkN d E cnt) (hsz : 0 < d.sz) (f : Nat → Nat) (hm : xs.length ≤ 9223372036854775807)
    (h : (∀ k, v.ownBlock = some k → ok k) ∧ ∃ inner, W.ownsRow base e d.sz v xs.length inner ∧ inner.length = xs.length * d.sz ∧ ∀ j p, xs[j]? = some p → d.M W base (fun k => (ok k ∧ some k ≠ v.ownBlock) ∧ f k = j) p ((inner.drop (j * d.sz)).take d.sz)) :
    ∃ pls, Row d.sz E W v pls ∧ pls.length = sumOf cnt xs ∧ pls.Nodup ∧ ∀ p ∈ pls, ok p.1 := by
  obtain ⟨hok, inner, ho, hil, hr⟩ := h
  rcases ho.2 with ⟨rfl, h0⟩ | ⟨g, cap, cur, rfl, hgb, hh, hnc, _, hcs, htk⟩
  · have hx : xs = [] := List.eq_nil_of_length_eq_zero h0
    subst hx
    exact ⟨[], ⟨none, 0, 0, rfl, Nat.zero_le _, [], rfl, rfl, fun h => absurd h (Nat.lt_irrefl 0)⟩, rfl, List.nodup_nil, fun p hp => absurd hp List.not_mem_nil⟩
  · have hcell : ∀ j u, inner[j]? = some u → W.cell? (pa g j) = some u ∧ W.frozen? (pa g j) = false := by
      intro j u hu
      rw [← htk] at hu
      rw [List.getElem?_take] at hu
      split at hu
      · refine ⟨?_, ?_⟩
        · unfold World.cell?; simp only [pa, hh]; simpa using hu
        · unfold World.frozen?; simp [pa, hh]
      · cases hu
    have hel : ∀ j, j < xs.length → ∃ pls : Pl, E W g (j * d.sz) pls ∧ (∃ h : j < xs.length, pls.length = cnt xs[j]) ∧ pls.Nodup ∧ ∀ p ∈ pls, (p.1 = g ∧ j * d.sz ≤ p.2 ∧ p.2 < j * d.sz + d.sz) ∨ ((ok p.1 ∧ p.1 ≠ g) ∧ f p.1 = j) := by
      intro j hj
      have hM := hr j _ (List.getElem?_eq_getElem hj)
      obtain ⟨pls, ha, hlen, hnd, hp⟩ := hE hM (g := g) (o := j * d.sz) (fun hk => hk.1.2 (by simp [Value.ownBlock])) (fun i u hu => by
        rw [List.getElem?_take] at hu
        split at hu
        · rw [List.getElem?_drop] at hu
          exact hcell _ _ hu
        · cases hu)
      refine ⟨pls, ha, ⟨hj, hlen⟩, hnd, fun p hpp => ?_⟩
      rcases hp p hpp with h1 | h1
      · exact .inl h1
      · exact .inr ⟨⟨h1.1.1, fun he => h1.1.2 (by simp [Value.ownBlock, he])⟩, h1.2⟩
    obtain ⟨ass, hal, hap⟩ := pick hel
    refine ⟨ass.flatten, ⟨_, _, cap, rfl, hm, ass, hal, rfl, fun _ => ⟨g, rfl, fun j hj => (hap j hj).1⟩⟩, flat_len xs ass hal (fun j h1 h2 => (hap j h1).2.1.2), ?_, fun p hp => ?_⟩
    · refine flat_nodup (Q := fun j p => (p.1 = g ∧ j * d.sz ≤ p.2 ∧ p.2 < j * d.sz + d.sz) ∨ (p.1 ≠ g ∧ f p.1 = j)) ass 0 (fun j hj => ⟨(hap j hj).2.2.1, fun p hp => ?_⟩) ?_
      · rw [Nat.zero_add]
        rcases (hap j hj).2.2.2 p hp with h1 | h1
        · exact .inl h1
        · exact .inr ⟨h1.1.2, h1.2⟩
      · intro i j p hi hj
        rcases hi with ⟨a1, a2, a3⟩ | ⟨a1, a2⟩ <;> rcases hj with ⟨b1, b2, b3⟩ | ⟨b1, b2⟩
        · have e1 : i = p.2 / d.sz := by
            refine (Nat.div_eq_of_lt_le a2 ?_).symm
            rw [Nat.add_mul, Nat.one_mul]; exact a3
          have e2 : j = p.2 / d.sz := by
            refine (Nat.div_eq_of_lt_le b2 ?_).symm
            rw [Nat.add_mul, Nat.one_mul]; exact b3
          rw [e1, e2]
        · exact absurd a1 b1
        · exact absurd b1 a1
        · exact a2.symm.trans b2
    · obtain ⟨b, hm, hp⟩ := List.mem_flatten.1 hp
      obtain ⟨j, hj, rfl⟩ := List.getElem_of_mem hm
      rcases (hap j hj).2.2.2 p hp with h1 | h1
      · rw [h1.1]; exact hok g (by simp [Value.ownBlock])
      · exact h1.1.1
theorem rowS_nodup {E : El} {cnt : α → Nat} (hE : MkN d E cnt) (hsz : 0 < d.sz) (h : Kd.S d e W base ok v xs) : ∃ pls, Row d.sz E W v pls ∧ pls.length = sumOf cnt xs ∧ pls.Nodup ∧ ∀ p ∈ pls, ok p.1 := by
  have hm := (Kd.S_reads h).choose_spec.choose_spec.2.2.2.1
  obtain ⟨f, h0, inner, ho, hr⟩ := h
  rw [List.length_zipIdx] at ho
  refine row_nodup hE hsz f hm ⟨h0, inner, ho, by have := hr.1; rw [List.length_zipIdx] at this; exact this, fun j p hj => hr.2 j (p, j) (Kd.zip_at hj)⟩
/-- A row of numbers: nothing else is behind them. -/
theorem rowI_nodup {l : List Int} (h : (Kd.int .i64).R e W base ok v l) : ∃ pls, Row 1 eInt W v pls ∧ pls.length = sumOf (fun _ => 1) l ∧ pls.Nodup ∧ ∀ p ∈ pls, ok p.1 := by
  have hm := (Kd.R_reads h).choose_spec.choose_spec.2.2.2.1
  obtain ⟨h0, inner, ho, hr⟩ := h
  classical
  exact row_nodup (d := Kd.int .i64) (f := fun _ => 0) mkn_int Nat.one_pos hm ⟨h0, inner, ho, hr.1, fun j p hj => hr.2 j p hj⟩
theorem mkn_sliceI (e : Nat) : MkN (Kd.slice e (Kd.int .i64)) (eRow (Row 1 eInt)) (sumOf fun _ => 1) := by
  rintro W base ok l cs g o ⟨v, rfl, hR⟩ hg hc
  obtain ⟨A, c, rfl, hl, hr⟩ := Kd.R_reads hR
  obtain ⟨pls, ha, hlen, hnd, hp⟩ := rowI_nodup hR
  have := hc 0 _ rfl
  exact ⟨pls, ⟨_, this.1, this.2, fun ⟨x, hx⟩ => (by cases hx), ha⟩, hlen, hnd, fun p hp' => .inr (hp p hp')⟩
theorem mkn_sliceS {E : El} {cnt : α → Nat} (hE : MkN d E cnt) (hsz : 0 < d.sz) (e : Nat) : MkN (sliceS e d) (eRow (Row d.sz E)) (sumOf cnt) := by
  rintro W base ok l cs g o ⟨v, rfl, hS⟩ hg hc
  obtain ⟨A, c, rfl, hl, hr⟩ := Kd.S_reads hS
  obtain ⟨pls, ha, hlen, hnd, hp⟩ := rowS_nodup hE hsz hS
  have := hc 0 _ rfl
  exact ⟨pls, ⟨_, this.1, this.2, fun ⟨x, hx⟩ => (by cases hx), ha⟩, hlen, hnd, fun p hp' => .inr (hp p hp')⟩
theorem mkn_pairA {E1 E2 : El} {c1 : α → Nat} {c2 : β → Nat} (h1 : MkN d E1 c1) (h2 : MkN d' E2 c2) (hs : d.sz = 1) : MkN (pairA d d') (ePair E1 E2) (fun x => c1 x.1 + c2 x.2) := by
  rintro W base ok x cs g o ⟨a, b, ok0, ok1, rfl, hk0, hk1, hd, ha, hb⟩ hg hc
  have hl : a.length = 1 := (d.K_len (d.K_of_M ha)).trans hs
  obtain ⟨p1, q1, l1, n1, m1⟩ := h1 ha (g := g) (o := o) (fun h => hg (hk0 g h)) (fun i u hu => hc i u (by
    rw [List.getElem?_append_left (List.getElem?_eq_some_iff.1 hu).1]; exact hu))
  obtain ⟨p2, q2, l2, n2, m2⟩ := h2 hb (g := g) (o := o + 1) (fun h => hg (hk1 g h)) (fun i u hu => by
    have := hc (1 + i) u (by rw [List.getElem?_append_right (by omega), hl, Nat.add_sub_cancel_left]; exact hu)
    rwa [← Nat.add_assoc] at this)
  have esz : (pairA d d').sz = d.sz + d'.sz := rfl
  refine ⟨p1 ++ p2, ⟨p1, p2, q1, q2, rfl⟩, by rw [List.length_append, l1, l2], ?_, fun p hp => ?_⟩
  · rw [List.nodup_append]
    refine ⟨n1, n2, fun p hp q hq he => ?_⟩
    subst he
    rcases m1 p hp with a1 | a1 <;> rcases m2 p hq with b1 | b1
    · omega
    · rw [a1.1] at b1; exact hg (hk1 g b1)
    · rw [b1.1] at a1; exact hg (hk0 g a1)
    · exact hd _ a1 b1
  · rcases List.mem_append.1 hp with hp | hp
    · rcases m1 p hp with a1 | a1
      · exact .inl (by rw [esz]; omega)
      · exact .inr (hk0 _ a1)
    · rcases m2 p hp with a1 | a1
      · exact .inl (by rw [esz]; omega)
      · exact .inr (hk1 _ a1)
/-- The first of the pair is a number or the like: nothing is behind it. -/
theorem mkn_pair {E1 E2 : El} {c1 : α → Nat} {c2 : β → Nat} (h1 : ∀ {W : World} {base : Nat} {ok : Nat → Prop} {x : α} {cs : List Value} {g o : Nat}, d.M W base ok x cs → (∀ i u, cs[i]? = some u → W.cell? (pa g (o + i)) = some u ∧ W.frozen? (pa g (o + i)) = false) → ∃ pls : Pl, E1 W g o pls ∧ pls.length = c1 x ∧ pls.Nodup ∧ ∀ p ∈ pls, p.1 = g ∧ o ≤ p.2 ∧ p.2 < o + d.sz)
    (h2 : MkN d' E2 c2) (hs : d.sz = 1) : MkN (Kd.pair d d') (ePair E1 E2) (fun x => c1 x.1 + c2 x.2) := by
  rintro W base ok x cs g o ⟨a, b, rfl, ha, hb⟩ hg hc
  have hl : a.length = 1 := (d.K_len (d.K_of_M ha)).trans hs
  obtain ⟨p1, q1, l1, n1, m1⟩ := h1 ha (g := g) (o := o) (fun i u hu => hc i u (by
    rw [List.getElem?_append_left (List.getElem?_eq_some_iff.1 hu).1]; exact hu))
  obtain ⟨p2, q2, l2, n2, m2⟩ := h2 hb (g := g) (o := o + 1) hg (fun i u hu => by
    have := hc (1 + i) u (by rw [List.getElem?_append_right (by omega), hl, Nat.add_sub_cancel_left]; exact hu)
    rwa [← Nat.add_assoc] at this)
  have esz : (Kd.pair d d').sz = d.sz + d'.sz := rfl
  refine ⟨p1 ++ p2, ⟨p1, p2, q1, q2, rfl⟩, by rw [List.length_append, l1, l2], ?_, fun p hp => ?_⟩
  · rw [List.nodup_append]
    refine ⟨n1, n2, fun p hp q hq he => ?_⟩
    subst he
    have a1 := m1 p hp
    rcases m2 p hq with b1 | b1
    · omega
    · rw [a1.1] at b1; exact hg b1
  · rcases List.mem_append.1 hp with hp | hp
    · have a1 := m1 p hp
      exact .inl (by rw [esz]; omega)
    · rcases m2 p hp with a1 | a1
      · exact .inl (by rw [esz]; omega)
      · exact .inr a1
theorem mkn_int1 : ∀ {W : World} {base : Nat} {ok : Nat → Prop} {x : Int} {cs : List Value} {g o : Nat}, (Kd.int .i64).M W base ok x cs → (∀ i u, cs[i]? = some u → W.cell? (pa g (o + i)) = some u ∧ W.frozen? (pa g (o + i)) = false) → ∃ pls : Pl, eInt W g o pls ∧ pls.length = 1 ∧ pls.Nodup ∧ ∀ p ∈ pls, p.1 = g ∧ o ≤ p.2 ∧ p.2 < o + (Kd.int .i64).sz := by
  intro W base ok x cs g o hM hc
  have hcs : cs = [.int .i64 x] := (Kd.int .i64).K_of_M hM
  subst hcs
  have := hc 0 _ rfl
  refine ⟨[(g, o)], ⟨⟨this.2, x, this.1⟩, rfl⟩, rfl, by simp, fun p hp => ?_⟩
  rw [List.mem_singleton.1 hp]
  exact ⟨rfl, Nat.le_refl _, Nat.lt_succ_self _⟩
theorem mkn_iso {E : El} {cnt : α → Nat} (f : β → α) (h : MkN d E cnt) : MkN (Kd.iso d f) E (fun x => cnt (f x)) := fun hM hg hc => h hM hg hc
end Go.Proofs.Ytjiipeidginjnaa.Deep

namespace Go.Proofs.Ytjiipeidginjnaa.LayI
open Go.RowKit Go.Proofs.Ytjiipeidginjnaa.P Go.Proofs.YtjiipeidginjnaaW.PrintWords Go.Proofs.YtjiipeidginjnaaW.PrintLast Go.Proofs.YtjiipeidginjnaaW.PrintMore Go.Proofs.Ytjiipeidginjnaa.Lay
attribute [local go_sem] max2_int min2_int max_two min_two max_three min_three max_four min_four
set_option linter.unusedVariables false
set_option linter.unusedSimpArgs false

theorem flat_le {ass : List Pl} {i : Nat} : ((ass.take i).flatten).length ≤ ass.flatten.length := by
  conv => rhs; rw [← List.take_append_drop i ass, List.flatten_append, List.length_append]
  omega
theorem flat_lt {ass : List Pl} {i : Nat} (h : i < ass.length) : ((ass.take i).flatten).length + ass[i].length ≤ ass.flatten.length := by
  have := flat_le (ass := ass) (i := i + 1)
  rw [flat_take h, List.length_append] at this
  exact this
theorem flat_all (ass : List Pl) {n : Nat} (h : ass.length = n) : ass.take n = ass := List.take_of_length_le (by omega)
theorem flat_mem {ass : List Pl} {i : Nat} {p : Nat × Nat} (h : p ∈ (ass.take i).flatten) : p ∈ ass.flatten := by
  rw [← List.take_append_drop i ass, List.flatten_append]
  exact List.mem_append_left _ h
set_option maxHeartbeats 8000000 in
set_option maxRecDepth 100000 in
theorem markIntS (v : Value) (ps : Pl) (a : Int) (w : World) (h : Row 1 eInt w v ps) (h0 : 0 ≤ a) (h1 : a + ps.length ≤ 4611686018427387000) :
    Calls Try.prog 30 #[v, .int .i64 a] w fun e w' => e = .returned (.int .i64 (a + ps.length)) ∧ Wr w w' ps a := by
  have hin := in_row in_int _ _ _ h
  obtain ⟨A, n, c, rfl, hn, ass, hl, hpf, hr⟩ := h.open_
  have HF := Aside0.mk hpf
  have HN := Aside0.mk hn
  have HL := Aside0.mk hl
  have HR := Aside0.mk hr
  have HI := Aside0.mk hin
  have H1 := Aside0.mk h1
  have H0 := Aside0.mk h0
  clear hn hr hin h1 h0 h hl hpf
  go_enter Try.func30, Try.ntmps30
  go_wp2
  go_loopg [1, 5] (n + 1) (fun kq v1 v5 w' => ∃ (x1 : Int) (x5 : Int), v1 = .int .i64 x1 ∧ v5 = .int .i64 x5 ∧ Aside0 (∃ i : Nat, x5 = (i : Int) ∧ i + kq = n + 1 ∧ x1 = a + ((ass.take i).flatten.length : Int) ∧ Wr w w' (ass.take i).flatten a) ∧ Aside0 (1 ≤ kq))
  case atStart => exact ⟨a, 0, rfl, rfl, ⟨0, rfl, by omega, by simp, by simpa using Wr.nil w a⟩, ⟨by omega⟩⟩
  case round =>
    obtain ⟨x1, x5, rfl, rfl, HX, HQ⟩ := hrel
    cases gk with
    | zero => exact absurd HQ.out (by omega)
    | succ k1 =>
      by_cases c3 : x5 < (n : Int)
      · obtain ⟨i, hi, hik, hx1, hw⟩ := HX.out
        have hil : i < ass.length := by have := HL.out; omega
        obtain ⟨g, rfl, hE⟩ := HR.out (by omega)
        obtain ⟨hic, hps⟩ := st_int _ _ _ _ _ hw.hd (hE i hil)
        have hsz : ((ass.take i).flatten).length + 1 ≤ ass.flatten.length := by
          have := flat_lt hil; rw [hps] at this; simpa using this
        have hb1 := H1.out
        have hpf := HF.out
        rw [hpf] at hb1
        have hb0 := H0.out
        have hn9 := HN.out
        obtain ⟨hf, y, hc⟩ := hic
        rw [Nat.mul_one] at hc hf
        have hx5 : x5.toNat = i := by omega
        have hcell : wr.cell? ⟨g, x5.toNat, none⟩ = some (.int .i64 y) := by rw [hx5]; exact hc
        have hfro : wr.frozen? ⟨g, x5.toNat, none⟩ = false := by rw [hx5]; exact hf
        have W2 : Aside0 (Wr w (wr.setCell ⟨g, x5.toNat, none⟩ (.int .i64 x1)) (ass.take (i + 1)).flatten a) := ⟨by
          rw [flat_take hil, hps, Nat.mul_one]
          refine Wr.trans hw ?_ (fun p hp => HI.out p (by rw [HF.out]; exact flat_mem hp))
          rw [← hx1, hx5]
          exact Wr.store ⟨hf, y, hc⟩ x1⟩
        have hx1' : wrap64 (x1 + 1) = a + (((ass.take (i + 1)).flatten.length : Nat) : Int) := by
          rw [flat_take hil, hps, List.length_append, List.length_singleton]
          unfold wrap64; omega
        have hx5' : wrap64 (x5 + 1) = ((i + 1 : Nat) : Int) := by unfold wrap64; omega
        have HH := Aside0.mk (show (i + 1) + k1 = n + 1 ∧ 1 ≤ k1 by omega)
        have HX1 := Aside0.mk hx1'
        have HX5 := Aside0.mk hx5'
        have c3b0 : decide (x5 < (n : Int)) = true := decide_eq_true c3
        have p5 : (0 ≤ (x5 : Int)) = True := eq_true (by omega)
        have q5 : (x5 < (n : Int)) = True := eq_true c3
        clear hpf HX HQ hx1' hx5' hsz hb1 hb0 hn9 hik hx1 hi hil hx5 hc hf hE c3 hw hps
        go_wp2_with (first | ((with_reducible refine gate_store (t := 3) (p := 15) rfl ?_); refine store_event (t := 3) (p := 15) (v := ?vo_w8) (w1 := (wr.setCell ⟨g, (x5 : Int).toNat, none⟩ (.int .i64 x1))) ?hg ?ho ?hn ?hr ?_; (case ho => rfl); (case hg => rfl); (case hn => rfl); (case hr => first | (go_simp; done) | (go_simp; rfl)); intro w8 hw; rw [← hw] at W2; clear hw))
        go_roundg k1
        case measure => exact Nat.lt_succ_self _
        case rel => exact ⟨_, _, rfl, rfl, ⟨i + 1, HX5.out, HH.out.1, HX1.out, W2.out⟩, ⟨HH.out.2⟩⟩
      · have c3b0 : decide (x5 < (n : Int)) = false := decide_eq_false c3
        go_wp2
        go_ret
        obtain ⟨i, hi, hik, hx1, hw⟩ := HX.out
        have hq := HQ.out
        have hi' : i = n := by omega
        subst hi'
        rw [flat_all ass HL.out, ← HF.out] at hx1 hw
        exact ⟨by rw [hx1]; rfl, hw⟩
end Go.Proofs.Ytjiipeidginjnaa.LayI

namespace Go.Proofs.Ytjiipeidginjnaa.LayI
open Go.RowKit Go.Proofs.Ytjiipeidginjnaa.P Go.Proofs.YtjiipeidginjnaaW.PrintWords Go.Proofs.YtjiipeidginjnaaW.PrintLast Go.Proofs.YtjiipeidginjnaaW.PrintMore Go.Proofs.Ytjiipeidginjnaa.Lay
attribute [local go_sem] max2_int min2_int max_two min_two max_three min_three max_four min_four
set_option linter.unusedVariables false
set_option linter.unusedSimpArgs false
set_option maxHeartbeats 8000000 in
set_option maxRecDepth 100000 in
theorem markAtomS (v : Value) (ps : Pl) (a : Int) (w : World) (h : Row 2 (ePair eInt (eRow (Row 1 eInt))) w v ps) (h0 : 0 ≤ a) (h1 : a + ps.length ≤ 4611686018427387000) :
    Calls Try.prog 82 #[v, .int .i64 a] w fun e w' => e = .returned (.int .i64 (a + ps.length)) ∧ Wr w w' ps a := by
  have hin := in_row (in_pair in_int (in_eRow (in_row in_int))) _ _ _ h
  obtain ⟨A, n, c, rfl, hn, ass, hl, hpf, hr⟩ := h.open_
  have HF := Aside0.mk hpf
  have HN := Aside0.mk hn
  have HL := Aside0.mk hl
  have HR := Aside0.mk hr
  have HI := Aside0.mk hin
  have H1 := Aside0.mk h1
  have H0 := Aside0.mk h0
  clear hn hr hin h1 h0 h hl hpf
  have hu153 := Try.underlying153
  go_enter Try.func82, Try.ntmps82
  go_wp2
  go_loopg [1, 5] (n + 1) (fun kq v1 v5 w' => ∃ (x1 : Int) (x5 : Int), v1 = .int .i64 x1 ∧ v5 = .int .i64 x5 ∧ Aside0 (∃ i : Nat, x5 = (i : Int) ∧ i + kq = n + 1 ∧ x1 = a + ((ass.take i).flatten.length : Int) ∧ Wr w w' (ass.take i).flatten a) ∧ Aside0 (1 ≤ kq))
  case atStart => exact ⟨a, 0, rfl, rfl, ⟨0, rfl, by omega, by simp, by simpa using Wr.nil w a⟩, ⟨by omega⟩⟩
  case round =>
    obtain ⟨x1, x5, rfl, rfl, HX, HQ⟩ := hrel
    cases gk with
    | zero => exact absurd HQ.out (by omega)
    | succ k1 =>
      by_cases c3 : x5 < (n : Int)
      · obtain ⟨i, hi, hik, hx1, hw⟩ := HX.out
        have hil : i < ass.length := by have := HL.out; omega
        obtain ⟨g, rfl, hE⟩ := HR.out (by omega)
        have hEi := hE i hil
        have hb1 := H1.out
        have hpf := HF.out
        rw [hpf] at hb1
        have hsz := flat_lt hil
        have hb0 := H0.out
        have hn9 := HN.out
        have hx5 : x5.toNat = i := by omega
        have HH := Aside0.mk (show (i + 1) + k1 = n + 1 ∧ 1 ≤ k1 by omega)
        have HX5 := Aside0.mk (show wrap64 (x5 + 1) = ((i + 1 : Nat) : Int) by unfold wrap64; omega)
        have c3b0 : decide (x5 < (n : Int)) = true := decide_eq_true c3
        have p5 : (0 ≤ (x5 : Int)) = True := eq_true (by omega)
        have q5 : (x5 < (n : Int)) = True := eq_true c3
        obtain ⟨b1, b2, hA, hB, hab⟩ := (st_pair st_int (st_eRow (st_row st_int))) _ _ _ _ _ hw.hd hEi
        rw [← hx5] at hA hB
        have hlen : ass[i].length = b1.length + b2.length := by rw [hab]; exact List.length_append
        obtain ⟨⟨hf0, y0, hc0⟩, he0⟩ := hA
        have e0 := Aside0.mk he0
        have el0 : b1.length = 1 := by rw [he0]; rfl
        clear he0
        obtain ⟨u1, hc1, hf1, hi1, hrw1⟩ := hB
        obtain ⟨A1, n1, cc1, rfl, hz1⟩ := id hrw1
        clear hz1
        have ew0 : wrap64 (x1 + 1) = x1 + (b1.length : Int) := by rw [el0]; unfold wrap64; omega
        have HC1 := Aside0.mk (show 0 ≤ wrap64 (x1 + 1) ∧ wrap64 (x1 + 1) + (b2.length : Int) ≤ 4611686018427387000 by rw [ew0]; omega)
        have hfin : (wrap64 (x1 + 1) + (b2.length : Int)) = a + (((ass.take (i + 1)).flatten.length : Nat) : Int) := by rw [flat_take hil, List.length_append, hlen]; rw [ew0]; omega
        have HFIN := Aside0.mk hfin
        have HWX := Aside0.mk (And.intro hw (And.intro hab hx1))
        have EW0 := Aside0.mk ew0
        clear ew0 el0
        clear hfin hw hab hx1 hlen hEi hb1 hsz hb0 hn9 hx5 hpf HX HQ hik hi c3 hE
        go_wp2_with (first | ((with_reducible refine gate_store (t := 3) (p := 16) rfl ?_); refine store_event (t := 3) (p := 16) (v := ?vo_w8) (w1 := (wr.setCell ⟨g, x5.toNat * 2, none⟩ (.int .i64 x1))) ?hg ?ho ?hn ?hr ?_; (case ho => rfl); (case hg => rfl); (case hn => rfl); (case hr => first | (go_simp; done) | (go_simp; rfl)); intro w80 hw_; have WW0 : Wr wr w80 b1 (x1) := (by rw [hw_, e0.out]; exact Wr.store ⟨hf0, y0, hc0⟩ _); clear hw_; obtain ⟨hf1_, v1_, hc1_, ev1_⟩ := WW0.hd.cell g (x5.toNat * 2 + 1) _ hc1 hf1; (rcases ev1_ with ev1_ | ev1_); rotate_left; (exact absurd ev1_.1 hi1); subst ev1_; have hrw1_ := st_row st_int _ _ _ _ WW0.hd hrw1; clear hc1 hf1 hrw1; have hc1 := hc1_; have hf1 := hf1_; have hrw1 := hrw1_; clear hc1_ hf1_ hrw1_) | ((with_reducible refine gate_callee (f := 30) rfl ?_); refine goesL_ (some 25) rfl rfl Try.func30 (by kernel_rfl) rfl #[.slice A1 n1 cc1, .int .i64 (wrap64 (x1 + 1))] rfl (by (try simp only [List.map_toArray, List.map_cons, List.map_nil]); first | done | rfl) ?_; (with_reducible refine (markIntS _ b2 (wrap64 (x1 + 1)) _ hrw1 ?k0 ?k1).mono ?_); (case k0 => exact HC1.out.1); (case k1 => exact HC1.out.2); rintro e w81 ⟨rfl, WW1⟩; refine ⟨_, rfl, ?_⟩; skip))
        have W2 : Wr w w81 (ass.take (i + 1)).flatten a := by
          obtain ⟨hw, hab, hx1⟩ := HWX.out
          rw [flat_take hil, hab]
          refine Wr.trans hw ?_ (fun p hp => HI.out p (by rw [HF.out]; exact flat_mem hp))
          rw [← hx1]
          have WA := WW0
          have WB := WW1
          rw [EW0.out] at WB
          refine Wr.trans WA WB (fun p hp => ?_)
          have hm := HI.out p (by rw [HF.out]; exact List.mem_flatten.2 ⟨_, List.getElem_mem hil, by rw [hab]; exact List.mem_append_left _ hp⟩)
          exact Nat.lt_of_lt_of_le hm hw.hd.size
        go_roundg k1
        case measure => exact Nat.lt_succ_self _
        case rel => exact ⟨_, _, rfl, rfl, ⟨i + 1, HX5.out, HH.out.1, HFIN.out, W2⟩, ⟨HH.out.2⟩⟩
      · have c3b0 : decide (x5 < (n : Int)) = false := decide_eq_false c3
        go_wp2
        go_ret
        obtain ⟨i, hi, hik, hx1, hw⟩ := HX.out
        have hq := HQ.out
        have hi' : i = n := by omega
        subst hi'
        rw [flat_all ass HL.out, ← HF.out] at hx1 hw
        exact ⟨by rw [hx1]; rfl, hw⟩
end Go.Proofs.Ytjiipeidginjnaa.LayI

namespace Go.Proofs.Ytjiipeidginjnaa.LayI
open Go.RowKit Go.Proofs.Ytjiipeidginjnaa.P Go.Proofs.YtjiipeidginjnaaW.PrintWords Go.Proofs.YtjiipeidginjnaaW.PrintLast Go.Proofs.YtjiipeidginjnaaW.PrintMore Go.Proofs.Ytjiipeidginjnaa.Lay
attribute [local go_sem] max2_int min2_int max_two min_two max_three min_three max_four min_four
set_option linter.unusedVariables false
set_option linter.unusedSimpArgs false
set_option maxHeartbeats 8000000 in
set_option maxRecDepth 100000 in
theorem markQueryS (v : Value) (ps : Pl) (a : Int) (w : World) (h : Row 2 (ePair (eRow (Row 1 eInt)) (eRow (Row 2 (ePair eInt (eRow (Row 1 eInt)))))) w v ps) (h0 : 0 ≤ a) (h1 : a + ps.length ≤ 4611686018427387000) :
    Calls Try.prog 29 #[v, .int .i64 a] w fun e w' => e = .returned (.int .i64 (a + ps.length)) ∧ Wr w w' ps a := by
  have hin := in_row (in_pair (in_eRow (in_row in_int)) (in_eRow (in_row (in_pair in_int (in_eRow (in_row in_int)))))) _ _ _ h
  obtain ⟨A, n, c, rfl, hn, ass, hl, hpf, hr⟩ := h.open_
  have HF := Aside0.mk hpf
  have HN := Aside0.mk hn
  have HL := Aside0.mk hl
  have HR := Aside0.mk hr
  have HI := Aside0.mk hin
  have H1 := Aside0.mk h1
  have H0 := Aside0.mk h0
  clear hn hr hin h1 h0 h hl hpf
  have hu72 := Try.underlying72
  go_enter Try.func29, Try.ntmps29
  go_wp2
  go_loopg [1, 5] (n + 1) (fun kq v1 v5 w' => ∃ (x1 : Int) (x5 : Int), v1 = .int .i64 x1 ∧ v5 = .int .i64 x5 ∧ Aside0 (∃ i : Nat, x5 = (i : Int) ∧ i + kq = n + 1 ∧ x1 = a + ((ass.take i).flatten.length : Int) ∧ Wr w w' (ass.take i).flatten a) ∧ Aside0 (1 ≤ kq))
  case atStart => exact ⟨a, 0, rfl, rfl, ⟨0, rfl, by omega, by simp, by simpa using Wr.nil w a⟩, ⟨by omega⟩⟩
  case round =>
    obtain ⟨x1, x5, rfl, rfl, HX, HQ⟩ := hrel
    cases gk with
    | zero => exact absurd HQ.out (by omega)
    | succ k1 =>
      by_cases c3 : x5 < (n : Int)
      · obtain ⟨i, hi, hik, hx1, hw⟩ := HX.out
        have hil : i < ass.length := by have := HL.out; omega
        obtain ⟨g, rfl, hE⟩ := HR.out (by omega)
        have hEi := hE i hil
        have hb1 := H1.out
        have hpf := HF.out
        rw [hpf] at hb1
        have hsz := flat_lt hil
        have hb0 := H0.out
        have hn9 := HN.out
        have hx5 : x5.toNat = i := by omega
        have HH := Aside0.mk (show (i + 1) + k1 = n + 1 ∧ 1 ≤ k1 by omega)
        have HX5 := Aside0.mk (show wrap64 (x5 + 1) = ((i + 1 : Nat) : Int) by unfold wrap64; omega)
        have c3b0 : decide (x5 < (n : Int)) = true := decide_eq_true c3
        have p5 : (0 ≤ (x5 : Int)) = True := eq_true (by omega)
        have q5 : (x5 < (n : Int)) = True := eq_true c3
        obtain ⟨b1, b2, hA, hB, hab⟩ := (st_pair (st_eRow (st_row st_int)) (st_eRow (st_row (st_pair st_int (st_eRow (st_row st_int)))))) _ _ _ _ _ hw.hd hEi
        rw [← hx5] at hA hB
        have hlen : ass[i].length = b1.length + b2.length := by rw [hab]; exact List.length_append
        obtain ⟨u0, hc0, hf0, hi0, hrw0⟩ := hA
        obtain ⟨A0, n0, cc0, rfl, hz0⟩ := id hrw0
        clear hz0
        obtain ⟨u1, hc1, hf1, hi1, hrw1⟩ := hB
        obtain ⟨A1, n1, cc1, rfl, hz1⟩ := id hrw1
        clear hz1
        have HC0 := Aside0.mk (show 0 ≤ x1 ∧ x1 + (b1.length : Int) ≤ 4611686018427387000 by omega)
        have HC1 := Aside0.mk (show 0 ≤ (x1 + (b1.length : Int)) ∧ (x1 + (b1.length : Int)) + (b2.length : Int) ≤ 4611686018427387000 by omega)
        have hfin : ((x1 + (b1.length : Int)) + (b2.length : Int)) = a + (((ass.take (i + 1)).flatten.length : Nat) : Int) := by rw [flat_take hil, List.length_append, hlen]; omega
        have HFIN := Aside0.mk hfin
        have HWX := Aside0.mk (And.intro hw (And.intro hab hx1))
        clear hfin hw hab hx1 hlen hEi hb1 hsz hb0 hn9 hx5 hpf HX HQ hik hi c3 hE
        go_wp2_with (first | ((with_reducible refine gate_callee (f := 30) rfl ?_); refine goesL_ (some 18) rfl rfl Try.func30 (by kernel_rfl) rfl #[.slice A0 n0 cc0, .int .i64 x1] rfl (by (try simp only [List.map_toArray, List.map_cons, List.map_nil]); first | done | rfl) ?_; (with_reducible refine (markIntS _ b1 x1 _ hrw0 ?k0 ?k1).mono ?_); (case k0 => exact HC0.out.1); (case k1 => exact HC0.out.2); rintro e w80 ⟨rfl, WW0⟩; refine ⟨_, rfl, ?_⟩; obtain ⟨hf1_, v1_, hc1_, ev1_⟩ := WW0.hd.cell g (x5.toNat * 2 + 1) _ hc1 hf1; (rcases ev1_ with ev1_ | ev1_); rotate_left; (exact absurd ev1_.1 hi1); subst ev1_; have hrw1_ := st_row (st_pair st_int (st_eRow (st_row st_int))) _ _ _ _ WW0.hd hrw1; clear hc1 hf1 hrw1; have hc1 := hc1_; have hf1 := hf1_; have hrw1 := hrw1_; clear hc1_ hf1_ hrw1_) | ((with_reducible refine gate_callee (f := 82) rfl ?_); refine goesL_ (some 25) rfl rfl Try.func82 (by kernel_rfl) rfl #[.slice A1 n1 cc1, .int .i64 ((x1 + (b1.length : Int)))] rfl (by (try simp only [List.map_toArray, List.map_cons, List.map_nil]); first | done | rfl) ?_; (with_reducible refine (markAtomS _ b2 ((x1 + (b1.length : Int))) _ hrw1 ?k0 ?k1).mono ?_); (case k0 => exact HC1.out.1); (case k1 => exact HC1.out.2); rintro e w81 ⟨rfl, WW1⟩; refine ⟨_, rfl, ?_⟩; skip))
        have W2 : Wr w w81 (ass.take (i + 1)).flatten a := by
          obtain ⟨hw, hab, hx1⟩ := HWX.out
          rw [flat_take hil, hab]
          refine Wr.trans hw ?_ (fun p hp => HI.out p (by rw [HF.out]; exact flat_mem hp))
          rw [← hx1]
          have WA := WW0
          have WB := WW1
          refine Wr.trans WA WB (fun p hp => ?_)
          have hm := HI.out p (by rw [HF.out]; exact List.mem_flatten.2 ⟨_, List.getElem_mem hil, by rw [hab]; exact List.mem_append_left _ hp⟩)
          exact Nat.lt_of_lt_of_le hm hw.hd.size
        go_roundg k1
        case measure => exact Nat.lt_succ_self _
        case rel => exact ⟨_, _, rfl, rfl, ⟨i + 1, HX5.out, HH.out.1, HFIN.out, W2⟩, ⟨HH.out.2⟩⟩
      · have c3b0 : decide (x5 < (n : Int)) = false := decide_eq_false c3
        go_wp2
        go_ret
        obtain ⟨i, hi, hik, hx1, hw⟩ := HX.out
        have hq := HQ.out
        have hi' : i = n := by omega
        subst hi'
        rw [flat_all ass HL.out, ← HF.out] at hx1 hw
        exact ⟨by rw [hx1]; rfl, hw⟩
end Go.Proofs.Ytjiipeidginjnaa.LayI

namespace Go.Proofs.Ytjiipeidginjnaa.LayI
open Go.RowKit Go.Proofs.Ytjiipeidginjnaa.P Go.Proofs.YtjiipeidginjnaaW.PrintWords Go.Proofs.YtjiipeidginjnaaW.PrintLast Go.Proofs.YtjiipeidginjnaaW.PrintMore Go.Proofs.Ytjiipeidginjnaa.Lay Go.Proofs.Ytjiipeidginjnaa.LawM
attribute [local go_sem] max2_int min2_int max_two min_two max_three min_three max_four min_four
set_option linter.unusedVariables false
set_option linter.unusedSimpArgs false
theorem flat_val {P : Nat → Nat × Nat → Prop} {ass : List Pl} {i : Nat} (h : i < ass.length) (hv : ∀ j (hj : j < ass.flatten.length), P j ass.flatten[j]) : ∀ j (hj : j < ass[i].length), P ((ass.take i).flatten.length + j) ass[i][j] := by
  intro j hj
  have e : ass.flatten = (ass.take i).flatten ++ (ass[i] ++ (ass.drop (i + 1)).flatten) := by
    conv => lhs; rw [← List.take_append_drop i ass, List.flatten_append, List.drop_eq_getElem_cons h, List.flatten_cons]
  have hl : (ass.take i).flatten.length + j < ass.flatten.length := by rw [e, List.length_append, List.length_append]; omega
  have := hv _ hl
  have e2 : ass.flatten[(ass.take i).flatten.length + j] = ass[i][j] := by
    have e3 : ∀ (l : Pl) (q : Nat) (h1 : q < l.length) (h2 : l = (ass.take i).flatten ++ (ass[i] ++ (ass.drop (i + 1)).flatten)) (h3 : q = (ass.take i).flatten.length + j), l[q] = ass[i][j] := by
      intro l q h1 h2 h3
      subst h2; subst h3
      rw [List.getElem_append_right (Nat.le_add_right _ _)]
      simp only [Nat.add_sub_cancel_left]
      rw [List.getElem_append_left hj]
    exact e3 _ _ hl e rfl
  rw [e2] at this; exact this
/-- The places hold a, a+1, .. -/
def Vals (w : World) (ps : Pl) (a : Int) : Prop := ∀ j (h : j < ps.length), w.cell? (pa ps[j].1 ps[j].2) = some (.int .i64 (a + (j : Int)))
theorem Vals.move {w w1 : World} {ps : Pl} {a : Int} (h : Vals w ps a) (hb : Below w.heap.size w w1) : Vals w1 ps a := fun j hj => (hb.cell (World.block_lt_of_cell? w _ (h j hj))).trans (h j hj)
theorem Vals.flat {w : World} {ass : List Pl} {a : Int} (hv : Vals w ass.flatten a) {i : Nat} (h : i < ass.length) : Vals w ass[i] (a + ((ass.take i).flatten.length : Int)) := fun j hj => by
  have := flat_val (P := fun j p => w.cell? (pa p.1 p.2) = some (.int .i64 (a + (j : Int)))) h hv j hj
  rw [this]; congr 2; omega
theorem Vals.left {w : World} {b c : Pl} {a : Int} (hv : Vals w (b ++ c) a) : Vals w b a := fun j hj => by
  have := hv j (by rw [List.length_append]; omega)
  rw [List.getElem_append_left hj] at this; exact this
theorem Vals.right {w : World} {b c : Pl} {a : Int} (hv : Vals w (b ++ c) a) : Vals w c (a + (b.length : Int)) := fun j hj => by
  have := hv (b.length + j) (by rw [List.length_append]; omega)
  rw [List.getElem_append_right (Nat.le_add_right _ _)] at this
  simp only [Nat.add_sub_cancel_left] at this
  rw [this]; congr 2; omega
theorem Vals.one {w : World} {g o : Nat} {a : Int} (hv : Vals w [(g, o)] a) : w.cell? (pa g o) = some (.int .i64 a) := by
  have := hv 0 (by simp)
  simpa using this
set_option maxHeartbeats 8000000 in
set_option maxRecDepth 100000 in
theorem heldIntS (v : Value) (ps : Pl) (a : Int) (w : World) (h : Row 1 eInt w v ps) (hv : Vals w ps a) (h0 : 0 ≤ a) (h1 : a + ps.length ≤ 4611686018427387000) :
    Calls Try.prog 65 #[v, .int .i64 a] w fun e w' => e = .returned (.int .i64 (a + ps.length)) ∧ Below w.heap.size w w' := by
  obtain ⟨A, n, c, rfl, hn, ass, hl, hpf, hr⟩ := h.open_
  have HF := Aside0.mk hpf
  have HN := Aside0.mk hn
  have HL := Aside0.mk hl
  have HR := Aside0.mk hr
  have HV := Aside0.mk hv
  have H1 := Aside0.mk h1
  have H0 := Aside0.mk h0
  clear hn hr h1 h0 h hl hpf hv
  go_enter Try.func65, Try.ntmps65
  go_wp2
  go_loopg [1, 5] (n + 1) (fun kq v1 v5 w' => ∃ (x1 : Int) (x5 : Int), v1 = .int .i64 x1 ∧ v5 = .int .i64 x5 ∧ Aside0 (∃ i : Nat, x5 = (i : Int) ∧ i + kq = n + 1 ∧ x1 = a + ((ass.take i).flatten.length : Int)) ∧ Aside0 (1 ≤ kq) ∧ Aside0 (Below w.heap.size w w'))
  case atStart => exact ⟨a, 0, rfl, rfl, ⟨0, rfl, by omega, by simp⟩, ⟨by omega⟩, ⟨by repeat (first | exact Below.refl _ _ | apply below_alloc | apply pw_below_drewN | apply below_drew1)⟩⟩
  case round =>
    obtain ⟨x1, x5, rfl, rfl, HX, HQ, HB⟩ := hrel
    cases gk with
    | zero => exact absurd HQ.out (by omega)
    | succ k1 =>
      by_cases c3 : x5 < (n : Int)
      · obtain ⟨i, hi, hik, hx1⟩ := HX.out
        have hil : i < ass.length := by have := HL.out; omega
        obtain ⟨g, rfl, hE⟩ := HR.out (by omega)
        have hEi := hE i hil
        have hvi := Vals.flat (by have := HV.out; rw [HF.out] at this; exact this) hil
        rw [← hx1] at hvi
        have hb1 := H1.out
        have hpf := HF.out
        rw [hpf] at hb1
        have hsz := flat_lt hil
        have hb0 := H0.out
        have hn9 := HN.out
        have hx5 : x5.toNat = i := by omega
        have HH := Aside0.mk (show (i + 1) + k1 = n + 1 ∧ 1 ≤ k1 by omega)
        have HX5 := Aside0.mk (show wrap64 (x5 + 1) = ((i + 1 : Nat) : Int) by unfold wrap64; omega)
        have c3b0 : decide (x5 < (n : Int)) = true := decide_eq_true c3
        have p5 : (0 ≤ (x5 : Int)) = True := eq_true (by omega)
        have q5 : (x5 < (n : Int)) = True := eq_true c3
        have hd := Hd.below HB.out
        have hA := st_int _ _ _ _ _ hd hEi
        obtain ⟨b1, hab⟩ : ∃ b1, ass[i] = b1 := ⟨_, rfl⟩
        rw [hab] at hA hvi
        rw [← hx5] at hA
        have hvw := Vals.move hvi HB.out
        have hv0 := hvw
        rw [Nat.mul_one] at hA
        have hlen : ass[i].length = b1.length := by rw [hab]
        obtain ⟨⟨hf0, y0, hcy0⟩, he0⟩ := hA
        have el0 : b1.length = 1 := by rw [he0]; rfl
        rw [he0] at hv0
        have hc0 : wr.cell? ⟨g, x5.toNat, none⟩ = some (.int .i64 (x1)) := Vals.one hv0
        clear hcy0 hf0 hv0
        have ew0 : wrap64 (x1 + 1) = x1 + (b1.length : Int) := by rw [el0]; unfold wrap64; omega
        have hne0 : ((x1) != (x1)) = false := by simp
        have hfin : wrap64 (x1 + 1) = a + (((ass.take (i + 1)).flatten.length : Nat) : Int) := by rw [flat_take hil, List.length_append, hlen]; rw [ew0]; omega
        have HFIN := Aside0.mk hfin
        clear ew0
        clear el0 he0
        clear hfin hab hx1 hlen hEi hb1 hsz hb0 hn9 hx5 hpf HX HQ hik hi c3 hE hvi hvw hd
        go_wp2
        go_roundg k1
        case measure => exact Nat.lt_succ_self _
        case rel => exact ⟨_, _, rfl, rfl, ⟨i + 1, HX5.out, HH.out.1, HFIN.out⟩, ⟨HH.out.2⟩, ⟨(by repeat (first | (with_reducible first | exact HB.out | apply below_alloc | apply pw_below_drewN | apply below_drew1) | exact HB.out))⟩⟩
      · have c3b0 : decide (x5 < (n : Int)) = false := decide_eq_false c3
        go_wp2
        go_ret
        obtain ⟨i, hi, hik, hx1⟩ := HX.out
        have hq := HQ.out
        have hi' : i = n := by omega
        subst hi'
        rw [flat_all ass HL.out, ← HF.out] at hx1
        exact ⟨by rw [hx1]; rfl, (by repeat (first | (with_reducible first | exact HB.out | apply below_alloc | apply pw_below_drewN | apply below_drew1) | exact HB.out))⟩
end Go.Proofs.Ytjiipeidginjnaa.LayI

namespace Go.Proofs.Ytjiipeidginjnaa.LayI
open Go.RowKit Go.Proofs.Ytjiipeidginjnaa.P Go.Proofs.YtjiipeidginjnaaW.PrintWords Go.Proofs.YtjiipeidginjnaaW.PrintLast Go.Proofs.YtjiipeidginjnaaW.PrintMore Go.Proofs.Ytjiipeidginjnaa.Lay Go.Proofs.Ytjiipeidginjnaa.LawM
attribute [local go_sem] max2_int min2_int max_two min_two max_three min_three max_four min_four
set_option linter.unusedVariables false
set_option linter.unusedSimpArgs false
set_option maxHeartbeats 8000000 in
set_option maxRecDepth 100000 in
theorem heldAtomS (v : Value) (ps : Pl) (a : Int) (w : World) (h : Row 2 (ePair eInt (eRow (Row 1 eInt))) w v ps) (hv : Vals w ps a) (h0 : 0 ≤ a) (h1 : a + ps.length ≤ 4611686018427387000) :
    Calls Try.prog 83 #[v, .int .i64 a] w fun e w' => e = .returned (.int .i64 (a + ps.length)) ∧ Below w.heap.size w w' := by
  obtain ⟨A, n, c, rfl, hn, ass, hl, hpf, hr⟩ := h.open_
  have HF := Aside0.mk hpf
  have HN := Aside0.mk hn
  have HL := Aside0.mk hl
  have HR := Aside0.mk hr
  have HV := Aside0.mk hv
  have H1 := Aside0.mk h1
  have H0 := Aside0.mk h0
  clear hn hr h1 h0 h hl hpf hv
  have hu153 := Try.underlying153
  go_enter Try.func83, Try.ntmps83
  go_wp2
  go_loopg [1, 5] (n + 1) (fun kq v1 v5 w' => ∃ (x1 : Int) (x5 : Int), v1 = .int .i64 x1 ∧ v5 = .int .i64 x5 ∧ Aside0 (∃ i : Nat, x5 = (i : Int) ∧ i + kq = n + 1 ∧ x1 = a + ((ass.take i).flatten.length : Int)) ∧ Aside0 (1 ≤ kq) ∧ Aside0 (Below w.heap.size w w'))
  case atStart => exact ⟨a, 0, rfl, rfl, ⟨0, rfl, by omega, by simp⟩, ⟨by omega⟩, ⟨by repeat (first | exact Below.refl _ _ | apply below_alloc | apply pw_below_drewN | apply below_drew1)⟩⟩
  case round =>
    obtain ⟨x1, x5, rfl, rfl, HX, HQ, HB⟩ := hrel
    cases gk with
    | zero => exact absurd HQ.out (by omega)
    | succ k1 =>
      by_cases c3 : x5 < (n : Int)
      · obtain ⟨i, hi, hik, hx1⟩ := HX.out
        have hil : i < ass.length := by have := HL.out; omega
        obtain ⟨g, rfl, hE⟩ := HR.out (by omega)
        have hEi := hE i hil
        have hvi := Vals.flat (by have := HV.out; rw [HF.out] at this; exact this) hil
        rw [← hx1] at hvi
        have hb1 := H1.out
        have hpf := HF.out
        rw [hpf] at hb1
        have hsz := flat_lt hil
        have hb0 := H0.out
        have hn9 := HN.out
        have hx5 : x5.toNat = i := by omega
        have HH := Aside0.mk (show (i + 1) + k1 = n + 1 ∧ 1 ≤ k1 by omega)
        have HX5 := Aside0.mk (show wrap64 (x5 + 1) = ((i + 1 : Nat) : Int) by unfold wrap64; omega)
        have c3b0 : decide (x5 < (n : Int)) = true := decide_eq_true c3
        have p5 : (0 ≤ (x5 : Int)) = True := eq_true (by omega)
        have q5 : (x5 < (n : Int)) = True := eq_true c3
        have hd := Hd.below HB.out
        obtain ⟨b1, b2, hA, hB, hab⟩ := (st_pair st_int (st_eRow (st_row st_int))) _ _ _ _ _ hd hEi
        rw [hab] at hvi
        rw [← hx5] at hA hB
        have hvw := Vals.move hvi HB.out
        have hv0 := Vals.left hvw
        have hv1 := Vals.right hvw
        have hlen : ass[i].length = b1.length + b2.length := by rw [hab]; exact List.length_append
        obtain ⟨⟨hf0, y0, hcy0⟩, he0⟩ := hA
        have el0 : b1.length = 1 := by rw [he0]; rfl
        rw [he0] at hv0
        have hc0 : wr.cell? ⟨g, x5.toNat * 2, none⟩ = some (.int .i64 (x1)) := Vals.one hv0
        clear hcy0 hf0 hv0
        have ew0 : wrap64 (x1 + 1) = x1 + (b1.length : Int) := by rw [el0]; unfold wrap64; omega
        have hne0 : ((x1) != (x1)) = false := by simp
        obtain ⟨u1, hc1, hf1, hi1, hrw1⟩ := hB
        obtain ⟨A1, n1, cc1, rfl, hz1⟩ := id hrw1
        clear hz1 hf1 hi1
        have HC1 := Aside0.mk (show 0 ≤ wrap64 (x1 + 1) ∧ wrap64 (x1 + 1) + (b2.length : Int) ≤ 4611686018427387000 by rw [ew0]; omega)
        have hlt1 : decide (wrap64 (x1 + 1) + (b2.length : Int) < 0) = false := decide_eq_false (by rw [ew0]; omega)
        have HVJ1 := Aside0.mk (show Vals wr b2 (wrap64 (x1 + 1)) from by rw [ew0]; exact hv1)
        have HRW1 := Aside0.mk hrw1
        clear hrw1 hv1
        have hfin : (wrap64 (x1 + 1) + (b2.length : Int)) = a + (((ass.take (i + 1)).flatten.length : Nat) : Int) := by rw [flat_take hil, List.length_append, hlen]; rw [ew0]; omega
        have HFIN := Aside0.mk hfin
        clear ew0
        clear el0 he0
        clear hfin hab hx1 hlen hEi hb1 hsz hb0 hn9 hx5 hpf HX HQ hik hi c3 hE hvi hvw hd
        go_wp2_with (first | ((with_reducible refine gate_callee (f := 65) rfl ?_); refine goesL_ (some 27) rfl rfl Try.func65 (by kernel_rfl) rfl #[.slice A1 n1 cc1, .int .i64 (wrap64 (x1 + 1))] rfl (by (try simp only [List.map_toArray, List.map_cons, List.map_nil]); first | done | rfl) ?_; (with_reducible refine (heldIntS _ b2 (wrap64 (x1 + 1)) _ ?hr ?hv ?k0 ?k1).mono ?_); (case hr => first | (with_reducible exact HRW1.out) | exact HRW1.out | exact row_below st_int HRW1.out (pw_below_drewN (Below.refl _ _) _)); (case hv => first | (with_reducible exact HVJ1.out) | exact HVJ1.out | exact Vals.move HVJ1.out (pw_below_drewN (Below.refl _ _) _)); (case k0 => exact HC1.out.1); (case k1 => exact HC1.out.2); rintro e w82 ⟨rfl, hb⟩; refine ⟨_, rfl, ?_⟩; have HB_ := Aside0.mk (below_then (by repeat (first | (with_reducible first | exact HB.out | apply below_alloc | apply pw_below_drewN | apply below_drew1) | exact HB.out)) (below_size (by repeat (first | (with_reducible first | exact HB.out | apply below_alloc | apply pw_below_drewN | apply below_drew1) | exact HB.out))) hb); clear HB hb; have HB := HB_; clear HB_))
        go_roundg k1
        case measure => exact Nat.lt_succ_self _
        case rel => exact ⟨_, _, rfl, rfl, ⟨i + 1, HX5.out, HH.out.1, HFIN.out⟩, ⟨HH.out.2⟩, ⟨(by repeat (first | (with_reducible first | exact HB.out | apply below_alloc | apply pw_below_drewN | apply below_drew1) | exact HB.out))⟩⟩
      · have c3b0 : decide (x5 < (n : Int)) = false := decide_eq_false c3
        go_wp2
        go_ret
        obtain ⟨i, hi, hik, hx1⟩ := HX.out
        have hq := HQ.out
        have hi' : i = n := by omega
        subst hi'
        rw [flat_all ass HL.out, ← HF.out] at hx1
        exact ⟨by rw [hx1]; rfl, (by repeat (first | (with_reducible first | exact HB.out | apply below_alloc | apply pw_below_drewN | apply below_drew1) | exact HB.out))⟩
end Go.Proofs.Ytjiipeidginjnaa.LayI

namespace Go.Proofs.Ytjiipeidginjnaa.LayI
open Go.RowKit Go.Proofs.Ytjiipeidginjnaa.P Go.Proofs.YtjiipeidginjnaaW.PrintWords Go.Proofs.YtjiipeidginjnaaW.PrintLast Go.Proofs.YtjiipeidginjnaaW.PrintMore Go.Proofs.Ytjiipeidginjnaa.Lay Go.Proofs.Ytjiipeidginjnaa.LawM
attribute [local go_sem] max2_int min2_int max_two min_two max_three min_three max_four min_four
set_option linter.unusedVariables false
set_option linter.unusedSimpArgs false
set_option maxHeartbeats 8000000 in
set_option maxRecDepth 100000 in
theorem heldQueryS (v : Value) (ps : Pl) (a : Int) (w : World) (h : Row 2 (ePair (eRow (Row 1 eInt)) (eRow (Row 2 (ePair eInt (eRow (Row 1 eInt)))))) w v ps) (hv : Vals w ps a) (h0 : 0 ≤ a) (h1 : a + ps.length ≤ 4611686018427387000) :
    Calls Try.prog 31 #[v, .int .i64 a] w fun e w' => e = .returned (.int .i64 (a + ps.length)) ∧ Below w.heap.size w w' := by
  obtain ⟨A, n, c, rfl, hn, ass, hl, hpf, hr⟩ := h.open_
  have HF := Aside0.mk hpf
  have HN := Aside0.mk hn
  have HL := Aside0.mk hl
  have HR := Aside0.mk hr
  have HV := Aside0.mk hv
  have H1 := Aside0.mk h1
  have H0 := Aside0.mk h0
  clear hn hr h1 h0 h hl hpf hv
  have hu72 := Try.underlying72
  go_enter Try.func31, Try.ntmps31
  go_wp2
  go_loopg [1, 5] (n + 1) (fun kq v1 v5 w' => ∃ (x1 : Int) (x5 : Int), v1 = .int .i64 x1 ∧ v5 = .int .i64 x5 ∧ Aside0 (∃ i : Nat, x5 = (i : Int) ∧ i + kq = n + 1 ∧ x1 = a + ((ass.take i).flatten.length : Int)) ∧ Aside0 (1 ≤ kq) ∧ Aside0 (Below w.heap.size w w'))
  case atStart => exact ⟨a, 0, rfl, rfl, ⟨0, rfl, by omega, by simp⟩, ⟨by omega⟩, ⟨by repeat (first | exact Below.refl _ _ | apply below_alloc | apply pw_below_drewN | apply below_drew1)⟩⟩
  case round =>
    obtain ⟨x1, x5, rfl, rfl, HX, HQ, HB⟩ := hrel
    cases gk with
    | zero => exact absurd HQ.out (by omega)
    | succ k1 =>
      by_cases c3 : x5 < (n : Int)
      · obtain ⟨i, hi, hik, hx1⟩ := HX.out
        have hil : i < ass.length := by have := HL.out; omega
        obtain ⟨g, rfl, hE⟩ := HR.out (by omega)
        have hEi := hE i hil
        have hvi := Vals.flat (by have := HV.out; rw [HF.out] at this; exact this) hil
        rw [← hx1] at hvi
        have hb1 := H1.out
        have hpf := HF.out
        rw [hpf] at hb1
        have hsz := flat_lt hil
        have hb0 := H0.out
        have hn9 := HN.out
        have hx5 : x5.toNat = i := by omega
        have HH := Aside0.mk (show (i + 1) + k1 = n + 1 ∧ 1 ≤ k1 by omega)
        have HX5 := Aside0.mk (show wrap64 (x5 + 1) = ((i + 1 : Nat) : Int) by unfold wrap64; omega)
        have c3b0 : decide (x5 < (n : Int)) = true := decide_eq_true c3
        have p5 : (0 ≤ (x5 : Int)) = True := eq_true (by omega)
        have q5 : (x5 < (n : Int)) = True := eq_true c3
        have hd := Hd.below HB.out
        obtain ⟨b1, b2, hA, hB, hab⟩ := (st_pair (st_eRow (st_row st_int)) (st_eRow (st_row (st_pair st_int (st_eRow (st_row st_int)))))) _ _ _ _ _ hd hEi
        rw [hab] at hvi
        rw [← hx5] at hA hB
        have hvw := Vals.move hvi HB.out
        have hv0 := Vals.left hvw
        have hv1 := Vals.right hvw
        have hlen : ass[i].length = b1.length + b2.length := by rw [hab]; exact List.length_append
        obtain ⟨u0, hc0, hf0, hi0, hrw0⟩ := hA
        obtain ⟨A0, n0, cc0, rfl, hz0⟩ := id hrw0
        clear hz0 hf0 hi0
        have HC0 := Aside0.mk (show 0 ≤ x1 ∧ x1 + (b1.length : Int) ≤ 4611686018427387000 by omega)
        have hlt0 : decide (x1 + (b1.length : Int) < 0) = false := decide_eq_false (by omega)
        have HVJ0 := Aside0.mk (show Vals wr b1 (x1) from by exact hv0)
        have HRW0 := Aside0.mk hrw0
        clear hrw0 hv0
        obtain ⟨u1, hc1, hf1, hi1, hrw1⟩ := hB
        obtain ⟨A1, n1, cc1, rfl, hz1⟩ := id hrw1
        clear hz1 hf1 hi1
        have HC1 := Aside0.mk (show 0 ≤ (x1 + (b1.length : Int)) ∧ (x1 + (b1.length : Int)) + (b2.length : Int) ≤ 4611686018427387000 by omega)
        have hlt1 : decide ((x1 + (b1.length : Int)) + (b2.length : Int) < 0) = false := decide_eq_false (by omega)
        have HVJ1 := Aside0.mk (show Vals wr b2 ((x1 + (b1.length : Int))) from by exact hv1)
        have HRW1 := Aside0.mk hrw1
        clear hrw1 hv1
        have hfin : ((x1 + (b1.length : Int)) + (b2.length : Int)) = a + (((ass.take (i + 1)).flatten.length : Nat) : Int) := by rw [flat_take hil, List.length_append, hlen]; omega
        have HFIN := Aside0.mk hfin
        clear hfin hab hx1 hlen hEi hb1 hsz hb0 hn9 hx5 hpf HX HQ hik hi c3 hE hvi hvw hd
        go_wp2_with (first | ((with_reducible refine gate_callee (f := 65) rfl ?_); refine goesL_ (some 18) rfl rfl Try.func65 (by kernel_rfl) rfl #[.slice A0 n0 cc0, .int .i64 x1] rfl (by (try simp only [List.map_toArray, List.map_cons, List.map_nil]); first | done | rfl) ?_; (with_reducible refine (heldIntS _ b1 x1 _ ?hr ?hv ?k0 ?k1).mono ?_); (case hr => first | (with_reducible exact HRW0.out) | exact HRW0.out | exact row_below st_int HRW0.out (pw_below_drewN (Below.refl _ _) _)); (case hv => first | (with_reducible exact HVJ0.out) | exact HVJ0.out | exact Vals.move HVJ0.out (pw_below_drewN (Below.refl _ _) _)); (case k0 => exact HC0.out.1); (case k1 => exact HC0.out.2); rintro e w81 ⟨rfl, hb⟩; refine ⟨_, rfl, ?_⟩; have HRW1_ := Aside0.mk (row_below (st_pair st_int (st_eRow (st_row st_int))) HRW1.out hb); have HVJ1_ := Aside0.mk (Vals.move HVJ1.out hb); clear HRW1 HVJ1; have HRW1 := HRW1_; have HVJ1 := HVJ1_; clear HRW1_ HVJ1_; have hd1_ := (hb.cell (World.block_lt_of_cell? _ _ hc1)).trans hc1; clear hc1; have hc1 := hd1_; clear hd1_; have HB_ := Aside0.mk (below_then (by repeat (first | (with_reducible first | exact HB.out | apply below_alloc | apply pw_below_drewN | apply below_drew1) | exact HB.out)) (below_size (by repeat (first | (with_reducible first | exact HB.out | apply below_alloc | apply pw_below_drewN | apply below_drew1) | exact HB.out))) hb); clear HB hb; have HB := HB_; clear HB_) | ((with_reducible refine gate_callee (f := 83) rfl ?_); refine goesL_ (some 27) rfl rfl Try.func83 (by kernel_rfl) rfl #[.slice A1 n1 cc1, .int .i64 ((x1 + (b1.length : Int)))] rfl (by (try simp only [List.map_toArray, List.map_cons, List.map_nil]); first | done | rfl) ?_; (with_reducible refine (heldAtomS _ b2 ((x1 + (b1.length : Int))) _ ?hr ?hv ?k0 ?k1).mono ?_); (case hr => first | (with_reducible exact HRW1.out) | exact HRW1.out | exact row_below (st_pair st_int (st_eRow (st_row st_int))) HRW1.out (pw_below_drewN (Below.refl _ _) _)); (case hv => first | (with_reducible exact HVJ1.out) | exact HVJ1.out | exact Vals.move HVJ1.out (pw_below_drewN (Below.refl _ _) _)); (case k0 => exact HC1.out.1); (case k1 => exact HC1.out.2); rintro e w82 ⟨rfl, hb⟩; refine ⟨_, rfl, ?_⟩; have HB_ := Aside0.mk (below_then (by repeat (first | (with_reducible first | exact HB.out | apply below_alloc | apply pw_below_drewN | apply below_drew1) | exact HB.out)) (below_size (by repeat (first | (with_reducible first | exact HB.out | apply below_alloc | apply pw_below_drewN | apply below_drew1) | exact HB.out))) hb); clear HB hb; have HB := HB_; clear HB_))
        go_roundg k1
        case measure => exact Nat.lt_succ_self _
        case rel => exact ⟨_, _, rfl, rfl, ⟨i + 1, HX5.out, HH.out.1, HFIN.out⟩, ⟨HH.out.2⟩, ⟨(by repeat (first | (with_reducible first | exact HB.out | apply below_alloc | apply pw_below_drewN | apply below_drew1) | exact HB.out))⟩⟩
      · have c3b0 : decide (x5 < (n : Int)) = false := decide_eq_false c3
        go_wp2
        go_ret
        obtain ⟨i, hi, hik, hx1⟩ := HX.out
        have hq := HQ.out
        have hi' : i = n := by omega
        subst hi'
        rw [flat_all ass HL.out, ← HF.out] at hx1
        exact ⟨by rw [hx1]; rfl, (by repeat (first | (with_reducible first | exact HB.out | apply below_alloc | apply pw_below_drewN | apply below_drew1) | exact HB.out))⟩
end Go.Proofs.Ytjiipeidginjnaa.LayI

namespace Go.Proofs.Ytjiipeidginjnaa.PB
open Go.RowKit Go.Proofs.YtjiipeidginjnaaW.PrintWords
set_option linter.unusedVariables false

theorem Ev.pos {α : Type} {c : Prop} [Decidable c] {f g : Nat → Option α} {r : α} (h : c) (k : Ev f r) : Ev (fun n => if c then f n else g n) r :=
  Ev.congr (fun n => if_pos h) k
theorem Ev.neg {α : Type} {c : Prop} [Decidable c] {f g : Nat → Option α} {r : α} (h : ¬ c) (k : Ev g r) : Ev (fun n => if c then f n else g n) r :=
  Ev.congr (fun n => if_neg h) k
theorem Ev.const {α : Type} {x : Option α} {r : α} (h : x = some r) : Ev (fun _ => x) r := ⟨0, fun _ _ => h⟩
/-- A callee without rounds. -/
theorem Ev.bindc {α β : Type} {g : Option α} {f : Nat → α → Option β} {a : α} {r : β} (h : g = some a) (k : Ev (fun n => f n a) r) : Ev (fun n => g.bind (f n)) r := by
  subst h; exact k
theorem Ev.eq {α : Type} {g f : Nat → Option α} {r q : α} (h : Ev g r) (hg : g = f) (hr : r = q) : Ev f q := by subst hg; subst hr; exact h

theorem inc {i : Nat} (h : i < 4611686018427387904) : wrap64 ((i : Int) + 1) = ((i + 1 : Nat) : Int) := by
  unfold wrap64; omega
theorem w64 {n : Int} (h : -9223372036854775808 ≤ n) (h' : n ≤ 9223372036854775807) : wrap64 n = n := by
  unfold wrap64; omega
theorem rd_nat (xs : List Int) (i : Nat) (h : i < xs.length) : rd xs (i : Int) = xs[i] := by
  unfold rd; simp [List.getD_eq_getElem?_getD, h]
theorem getD_nat {α : Type} (d : α) (xs : List α) (i : Nat) (h : i < xs.length) : xs.getD (i : Int).toNat d = xs[i] := by
  simp [List.getD_eq_getElem?_getD, h]
theorem drop_cons {α : Type} {xs : List α} {i : Nat} (h : i < xs.length) : xs.drop i = xs[i] :: xs.drop (i + 1) := by
  exact List.drop_eq_getElem_cons h
theorem take_snoc {α : Type} {xs : List α} {i : Nat} (h : i < xs.length) : xs.take (i + 1) = xs.take i ++ [xs[i]] := by
  exact List.take_succ_eq_append_getElem h
theorem fill_set' {α : Type} (ys : List α) (i d : Nat) (z v : α) (h : ys.length = i) : (ys ++ List.replicate (d + 1) z).set i v = ys ++ [v] ++ List.replicate d z := by
  rw [List.set_append, if_neg (by omega), h, Nat.sub_self]
  simp [List.replicate_succ]
def tsum {α : Type} (f : α → Nat) : List α → Nat
  | [] => 0
  | x :: r => f x + tsum f r
theorem tsum_cons {α : Type} (f : α → Nat) (x : α) (r : List α) : tsum f (x :: r) = f x + tsum f r := rfl
theorem tsum_mem {α : Type} (f : α → Nat) {l : List α} {x : α} (h : x ∈ l) : f x ≤ tsum f l := by
  induction l with
  | nil => simp at h
  | cons y r ih =>
    rcases List.mem_cons.1 h with rfl | h
    · simp [tsum]
    · have := ih h; simp [tsum]; omega
end Go.Proofs.Ytjiipeidginjnaa.PB

namespace Go.Proofs.Ytjiipeidginjnaa.PIn
open Go.RowKit Go.Proofs.Ytjiipeidginjnaa.P Go.Proofs.YtjiipeidginjnaaW.PrintWords Go.Proofs.YtjiipeidginjnaaW.PrintLast Go.Proofs.Ytjiipeidginjnaa.PB
set_option linter.unusedVariables false

def inr (a lo hi : Int) : Bool := decide (lo ≤ a ∧ a ≤ hi)
theorem spec_in (a lo hi : Int) : spec_l1In.f a lo hi = some (inr a lo hi) := by
  unfold spec_l1In.f inr
  by_cases h : a ≥ lo
  · rw [if_pos h]; by_cases h2 : a ≤ hi <;> simp [h2] <;> omega
  · rw [if_neg h]; simp; omega
theorem impl_in (a lo hi : Int) : impl_within.f a lo hi = some (inr a lo hi) := by
  unfold impl_within.f inr
  by_cases h : a ≥ lo
  · rw [if_pos h]; by_cases h2 : a ≤ hi <;> simp [h2] <;> omega
  · rw [if_neg h]; simp; omega
end Go.Proofs.Ytjiipeidginjnaa.PIn

namespace Go.Proofs.Ytjiipeidginjnaa.PPick
open Go.RowKit Go.Proofs.Ytjiipeidginjnaa.P Go.Proofs.YtjiipeidginjnaaW.PrintWords Go.Proofs.YtjiipeidginjnaaW.PrintLast Go.Proofs.Ytjiipeidginjnaa.PB Go.Proofs.Ytjiipeidginjnaa.PIn
set_option linter.unusedVariables false
theorem rdAp (l : List S153) (i : Nat) (h : i < l.length) : rd_T153 l (i : Int) = l[i] := by rw [rd_T153]; exact getD_nat _ _ _ h
theorem ints_copy (l : List Int) (hl : l.length ≤ 1048576) : impl_copyInts.f l = some l := by
  unfold impl_copyInts.f
  first
    | rfl
    | (simp; omega)
    | (rw [if_pos (by simp; omega)]; simp)
theorem atoms_copy (l : List S153) (hl : l.length ≤ 1048576) (ha : ∀ a ∈ l, a.f1.length ≤ 1048576) : Ev (fun k => impl_copyAtoms.f k l) l := by
  have loop : ∀ (d i : Nat), i + d = l.length → Ev (fun k => impl_copyAtoms.l0 k (l.take i) l (l.length : Int) (i : Int)) l := by
    intro d
    induction d with
    | zero =>
      intro i hi
      rw [List.take_of_length_le (by omega)]
      exact Ev.step (fun k => by rw [impl_copyAtoms.l0]) (Ev.neg (by omega) (Ev.const rfl))
    | succ d ih =>
      intro i hi
      have hlt : i < l.length := by omega
      have hz : (l.take i).length ≤ 1048576 := by rw [List.length_take]; omega
      refine Ev.step (fun k => by rw [impl_copyAtoms.l0]) ?_
      refine Ev.pos (by omega) (Ev.pos (by omega) (Ev.pos (by omega) ?_))
      rw [rdAp _ _ hlt, inc (by omega)]
      refine Ev.bindc (ints_copy _ (ha _ (List.getElem_mem hlt))) (Ev.pos (by omega) ?_)
      have e : l.take i ++ [(⟨l[i].f0, l[i].f1⟩ : S153)] = l.take (i + 1) := (take_snoc hlt).symm
      rw [e]
      exact ih (i + 1) (by omega)
  have h0 : Ev (fun k => impl_copyAtoms.l0 k (l.take 0) l (l.length : Int) 0) l := loop l.length 0 (by omega)
  exact h0
def okP (q : S72) : Prop := q.f0.length ≤ 1048576 ∧ q.f1.length ≤ 1048576 ∧ ∀ a ∈ q.f1, a.f1.length ≤ 1048576
theorem impl_copyq (q : S72) (h : okP q) : Ev (fun k => impl_copyQuery.f k q.f0 q.f1) (q.f0, q.f1) := by
  unfold impl_copyQuery.f
  exact Ev.bindc (ints_copy _ h.1) (Ev.bind (atoms_copy _ h.2.1 h.2.2) (Ev.const rfl))
theorem term_id (t : Int) : spec_l4Term.f t [] = some t := by
  unfold spec_l4Term.f
  rw [spec_in]
  have e : inr t 0 (wrap64 ((([] : List Int).length : Int) - 1)) = false := by
    rw [show wrap64 ((([] : List Int).length : Int) - 1) = -1 from by rw [w64 (by simp) (by simp)]; rfl]
    simp [inr]
    omega
  rw [e]; rfl
theorem terms_id (l : List Int) (hl : l.length ≤ 1048576) : Ev (fun k => spec_l4Terms.f k l []) l := by
  have loop : ∀ (d i : Nat), i + d = l.length → Ev (fun k => spec_l4Terms.l0 k l [] (l.take i) (i : Int)) l := by
    intro d
    induction d with
    | zero =>
      intro i hi
      rw [List.take_of_length_le (by omega)]
      exact Ev.step (fun k => by rw [spec_l4Terms.l0]) (Ev.neg (by omega) (Ev.const rfl))
    | succ d ih =>
      intro i hi
      have hlt : i < l.length := by omega
      have hz : (l.take i).length ≤ 1048576 := by rw [List.length_take]; omega
      refine Ev.step (fun k => by rw [spec_l4Terms.l0]) ?_
      refine Ev.pos (by omega) (Ev.pos (by omega) ?_)
      rw [rd_nat _ _ hlt, inc (by omega)]
      refine Ev.bindc (term_id _) (Ev.pos (by omega) ?_)
      rw [← take_snoc hlt]
      exact ih (i + 1) (by omega)
  have h0 : Ev (fun k => spec_l4Terms.l0 k l [] (l.take 0) 0) l := loop l.length 0 (by omega)
  exact h0
theorem spec_copyq (q : S72) (h : okP q) : Ev (fun k => spec_l4Copy.f k q.f0 q.f1) (q.f0, q.f1) := by
  unfold spec_l4Copy.f
  refine Ev.bind (a := (q.f0, q.f1)) ?_ (Ev.const rfl)
  unfold spec_RenameQuery.f
  refine Ev.bind (terms_id _ h.1) ?_
  have hb := h.2.1
  have loop : ∀ (d i : Nat), i + d = q.f1.length → Ev (fun k => spec_RenameQuery.l0 k [] (i : Int) q.f0 q.f1 q.f0 (q.f1.take i)) (q.f0, q.f1) := by
    intro d
    induction d with
    | zero =>
      intro i hi
      rw [List.take_of_length_le (by omega)]
      exact Ev.step (fun k => by rw [spec_RenameQuery.l0]) (Ev.neg (by omega) (Ev.const rfl))
    | succ d ih =>
      intro i hi
      have hlt : i < q.f1.length := by omega
      have hz : (q.f1.take i).length ≤ 1048576 := by rw [List.length_take]; omega
      refine Ev.step (fun k => by rw [spec_RenameQuery.l0]) ?_
      refine Ev.pos (by omega) (Ev.pos (by omega) ?_)
      rw [rdAp _ _ hlt, inc (by omega)]
      refine Ev.bind (terms_id _ (h.2.2 _ (List.getElem_mem hlt))) (Ev.pos (by omega) ?_)
      have e : q.f1.take i ++ [(⟨q.f1[i].f0, q.f1[i].f1⟩ : S153)] = q.f1.take (i + 1) := (take_snoc hlt).symm
      rw [e]
      exact ih (i + 1) (by omega)
  have h0 : Ev (fun k => spec_RenameQuery.l0 k [] 0 q.f0 q.f1 q.f0 (q.f1.take 0)) (q.f0, q.f1) := loop q.f1.length 0 (by omega)
  exact h0
/-- The views at the places that there are. -/
def pk (vs : List S72) : List Int → List S72
  | [] => []
  | i :: r => if inr i 0 ((vs.length : Int) - 1) = true then rd_T72 vs i :: pk vs r else pk vs r
theorem pk_app (vs : List S72) : ∀ (a b : List Int), pk vs (a ++ b) = pk vs a ++ pk vs b
  | [], b => rfl
  | i :: a, b => by
    rw [List.cons_append, pk, pk, pk_app vs a b]
    split <;> rfl
theorem pk_len (vs : List S72) : ∀ (a : List Int), (pk vs a).length ≤ a.length
  | [] => Nat.le_refl _
  | i :: a => by
    have := pk_len vs a
    rw [pk]
    split <;> simp only [List.length_cons] <;> omega
theorem rdQm (l : List S72) (i : Int) (h0 : 0 ≤ i) (h : i < l.length) : rd_T72 l i ∈ l := by
  obtain ⟨n, rfl⟩ := Int.eq_ofNat_of_zero_le h0
  rw [rd_T72, getD_nat _ _ _ (by omega)]; exact List.getElem_mem _
theorem pk_mem (vs : List S72) : ∀ (a : List Int), ∀ q ∈ pk vs a, q ∈ vs
  | [], q, h => by simp [pk] at h
  | i :: a, q, h => by
    rw [pk] at h
    split at h
    · rename_i hi
      simp only [inr, decide_eq_true_eq] at hi
      rcases List.mem_cons.1 h with rfl | h
      · exact rdQm vs i hi.1 (by omega)
      · exact pk_mem vs a q h
    · exact pk_mem vs a q h
theorem sum_bound {α : Type} (f : α → Nat) (B : Nat) : ∀ l : List α, (∀ x ∈ l, f x ≤ B) → Lay.sumOf f l ≤ l.length * B
  | [], _ => Nat.zero_le _
  | x :: r, h => by
    have h1 := sum_bound f B r (fun y hy => h y (by simp [hy]))
    have h2 := h x (by simp)
    rw [Lay.sumOf, List.length_cons, Nat.succ_mul]; omega
theorem spec_pick (vs : List S72) (set : List Int) (hv : vs.length ≤ 1048576) (hs : set.length ≤ 1048576) (hq : ∀ v ∈ vs, okP v) : Ev (fun k => spec_PickViews.f k vs set) (pk vs set) := by
  have loop : ∀ (d i : Nat), i + d = set.length → Ev (fun k => spec_PickViews.l0 k vs set (pk vs (set.take i)) (i : Int)) (pk vs set) := by
    intro d
    induction d with
    | zero =>
      intro i hi
      rw [List.take_of_length_le (by omega)]
      exact Ev.step (fun k => by rw [spec_PickViews.l0]) (Ev.neg (by omega) (Ev.const rfl))
    | succ d ih =>
      intro i hi
      have hlt : i < set.length := by omega
      have hz : (pk vs (set.take i)).length ≤ 1048576 := by have := pk_len vs (set.take i); rw [List.length_take] at this; omega
      have nx := ih (i + 1) (by omega)
      rw [take_snoc hlt, pk_app, pk] at nx
      refine Ev.step (fun k => by rw [spec_PickViews.l0]) ?_
      refine Ev.pos (by omega) (Ev.pos (by omega) ?_)
      rw [rd_nat _ _ hlt, inc (by omega), w64 (n := (vs.length : Int) - 1) (by omega) (by omega)]
      refine Ev.bindc (spec_in _ _ _) ?_
      by_cases h : inr set[i] 0 ((vs.length : Int) - 1) = true
      · rw [if_pos h] at nx
        have h' := h
        simp only [inr, decide_eq_true_eq] at h'
        refine Ev.pos h (Ev.pos h'.1 (Ev.pos (by omega) (Ev.bind (spec_copyq _ (hq _ (rdQm vs _ h'.1 (by omega)))) (Ev.pos (by omega) nx))))
      · rw [if_neg h, pk, List.append_nil] at nx
        exact Ev.neg h nx
  have h0 : Ev (fun k => spec_PickViews.l0 k vs set (pk vs (set.take 0)) 0) (pk vs set) := loop set.length 0 (by omega)
  exact h0
theorem impl_pick (vs : List S72) (set : List Int) (hv : vs.length ≤ 1048576) (hs : set.length ≤ 1048576) (hq : ∀ v ∈ vs, okP v) : Ev (fun k => impl_PickViews.f k vs set) (pk vs set) := by
  have loop : ∀ (d i : Nat), i + d = set.length → Ev (fun k => impl_PickViews.l0 k vs (pk vs (set.take i)) set (set.length : Int) (i : Int)) (pk vs set) := by
    intro d
    induction d with
    | zero =>
      intro i hi
      rw [List.take_of_length_le (by omega)]
      exact Ev.step (fun k => by rw [impl_PickViews.l0]) (Ev.neg (by omega) (Ev.const rfl))
    | succ d ih =>
      intro i hi
      have hlt : i < set.length := by omega
      have hz : (pk vs (set.take i)).length ≤ 1048576 := by have := pk_len vs (set.take i); rw [List.length_take] at this; omega
      have nx := ih (i + 1) (by omega)
      rw [take_snoc hlt, pk_app, pk] at nx
      refine Ev.step (fun k => by rw [impl_PickViews.l0]) ?_
      refine Ev.pos (by omega) (Ev.pos (by omega) (Ev.pos (by omega) ?_))
      rw [rd_nat _ _ hlt, inc (by omega), w64 (n := (vs.length : Int) - 1) (by omega) (by omega)]
      refine Ev.bindc (impl_in _ _ _) ?_
      by_cases h : inr set[i] 0 ((vs.length : Int) - 1) = true
      · rw [if_pos h] at nx
        have h' := h
        simp only [inr, decide_eq_true_eq] at h'
        refine Ev.pos h (Ev.pos h'.1 (Ev.pos (by omega) (Ev.bind (impl_copyq _ (hq _ (rdQm vs _ h'.1 (by omega)))) (Ev.pos (by omega) nx))))
      · rw [if_neg h, pk, List.append_nil] at nx
        exact Ev.neg h nx
  have h0 : Ev (fun k => impl_PickViews.l0 k vs (pk vs (set.take 0)) set (set.length : Int) 0) (pk vs set) := loop set.length 0 (by omega)
  exact h0
end Go.Proofs.Ytjiipeidginjnaa.PPick

namespace Go.Proofs.Ytjiipeidginjnaa.PSum
open Go.RowKit Go.Proofs.Ytjiipeidginjnaa.Lay Go.Proofs.Ytjiipeidginjnaa.PB
theorem sum_le {α β : Type} {f : β → Nat} {c : α → β} {n : α → Nat} (m : Nat) (h : ∀ x, f (c x) ≤ m + n x) : ∀ l : List α, sumOf f (l.map c) ≤ m * l.length + tsum n l
  | [] => Nat.zero_le _
  | x :: r => by
    have h1 := sum_le m h r
    have h2 := h x
    have e : m * (r.length + 1) = m * r.length + m := Nat.mul_succ m r.length
    rw [List.map_cons, sumOf, tsum_cons, List.length_cons, e]
    omega
theorem sum_one (l : List Int) : sumOf (fun _ : Int => 1) l = l.length := by
  induction l with
  | nil => rfl
  | cons x r ih => rw [sumOf, ih, List.length_cons]; omega
end Go.Proofs.Ytjiipeidginjnaa.PSum

namespace Go.Proofs.Ytjiipeidginjnaa.PLaw
open Go.RowKit Go.Proofs.Ytjiipeidginjnaa.P Go.Proofs.YtjiipeidginjnaaW.PrintWords Go.Proofs.YtjiipeidginjnaaW.PrintLast Go.Proofs.Ytjiipeidginjnaa.PB
set_option linter.unusedVariables false

def qIntS (l : List Int) : Prop := l.length ≤ 9223372036854775807 ∧ ∀ x ∈ l, (Lit.int .i64 x).wf = true
def nIntS (l : List Int) : Nat := l.length
def cIntS (l : List Int) : List Int := l
theorem szIntS (l : List Int) (a : Int) (h0 : 0 ≤ a) (h1 : a ≤ 1048576) (hl : qIntS l) : Ev (fun k => laws_szIntS.f l a) (if a < nIntS l then -1 else a - nIntS l) := by
  have hl1 := hl.1
  refine Ev.const ?_
  unfold laws_szIntS.f nIntS
  rw [w64 (by omega) (by omega)]
  by_cases h : a < l.length
  · rw [if_pos (by omega), if_pos h]
  · rw [if_neg (by omega), if_neg h]
theorem toIntS_loop (l : List Int) (hn : nIntS l ≤ 1048576) : ∀ (d i : Nat), i + d = l.length → Ev (fun k => laws_toIntS.l0 k l (cIntS (l.take i) ++ List.replicate d 0) (i : Int)) (cIntS l) := by
  have hlen : l.length ≤ 1048576 := by unfold nIntS at hn; omega
  intro d
  induction d with
  | zero =>
    intro i hi
    obtain rfl : i = l.length := by omega
    refine Ev.step (fun k => by rw [laws_toIntS.l0]) (Ev.neg (by omega) (Ev.const ?_))
    simp
  | succ d ih =>
    intro i hi
    have hlt : i < l.length := by omega
    refine Ev.step (fun k => by rw [laws_toIntS.l0]) (Ev.pos (by omega) (Ev.pos (by omega) ?_))
    rw [rd_nat _ _ hlt, inc (by omega)]
    refine Ev.pos (by simp [cIntS]; omega) ?_
    refine Ev.eq (ih (i + 1) (by omega)) ?_ rfl
    funext k
    have e : ((i : Int)).toNat = i := by omega
    have el : (cIntS (l.take i)).length = i := by simp [cIntS]; omega
    rw [e, fill_set' _ _ _ _ _ el, take_snoc hlt]
    try rfl
theorem toIntS (l : List Int) (hn : nIntS l ≤ 1048576) : Ev (fun k => laws_toIntS.f k l) (cIntS l) := by
  have h := toIntS_loop l hn l.length 0 (by omega)
  have hlen : l.length ≤ 1048576 := by unfold nIntS at hn; omega
  refine Ev.eq (Ev.pos (c := 0 ≤ (l.length : Int)) (g := fun _ => none) (by omega) (Ev.pos (c := ((l.length : Int) : Int).toNat ≤ 35184372088832) (g := fun _ => none) (by omega) h)) ?_ rfl
  funext k
  rw [laws_toIntS.f]; simp [cIntS]
theorem eqIntS_loop (l : List Int) (hl : l.length ≤ 4611686018427387000) : ∀ (d i : Nat), i + d = l.length → Ev (fun k => laws_eqIntS.l0 k l l (i : Int)) true := by
  intro d
  induction d with
  | zero =>
    intro i hi
    exact Ev.step (fun k => by rw [laws_eqIntS.l0]) (Ev.neg (by omega) (Ev.const rfl))
  | succ d ih =>
    intro i hi
    have hlt : i < l.length := by omega
    refine Ev.step (fun k => by rw [laws_eqIntS.l0]) (Ev.pos (by omega) (Ev.pos (by omega) (Ev.pos (by omega) (Ev.pos rfl ?_))))
    rw [inc (by omega)]
    exact ih (i + 1) (by omega)
theorem eqIntS (l : List Int) (hm : l.length ≤ 4611686018427387000) : Ev (fun k => laws_eqIntS.f k l l) true :=
  Ev.eq (Ev.pos (c := (l.length : Int) = l.length) (g := fun _ => some false) rfl (eqIntS_loop l hm l.length 0 (by omega))) (by funext k; rw [laws_eqIntS.f]; rfl) rfl
theorem mcIntS {l : List Int} (hn : nIntS l ≤ 1048576) : (cIntS l).length ≤ 4611686018427387000 := by unfold nIntS at hn; show l.length ≤ _; omega
end Go.Proofs.Ytjiipeidginjnaa.PLaw

namespace Go.Proofs.Ytjiipeidginjnaa.PLaw
open Go.RowKit Go.Proofs.Ytjiipeidginjnaa.P Go.Proofs.YtjiipeidginjnaaW.PrintWords Go.Proofs.YtjiipeidginjnaaW.PrintLast Go.Proofs.Ytjiipeidginjnaa.PB
set_option linter.unusedVariables false

def qAtom (x : S175) : Prop := ((Lit.int .i64 x.f0).wf = true) ∧ (qIntS x.f1)
def nAtom (x : S175) : Nat := nIntS x.f1
def cAtom (x : S175) : S153 := ⟨x.f0, cIntS x.f1⟩
def qAtomS (l : List S175) : Prop := l.length ≤ 9223372036854775807 ∧ ∀ x ∈ l, qAtom x
def nAtomS (l : List S175) : Nat := l.length + tsum nAtom l
def cAtomS (l : List S175) : List S153 := l.map cAtom
def mAtom (x : S153) : Prop := (True) ∧ (x.f1.length ≤ 4611686018427387000)
def mAtomS (l : List S153) : Prop := l.length ≤ 4611686018427387000 ∧ ∀ x ∈ l, mAtom x
theorem szAtom (x0 : Int) (x1 : List Int) (a : Int) (h0 : 0 ≤ a) (h1 : a ≤ 1048576) (qx0_ : (Lit.int .i64 x0).wf = true) (qx1_ : qIntS x1) : Ev (fun k => laws_szAtom.f x0 x1 a) (if a < ((nIntS x1 : Nat) : Int) then -1 else a - ((nIntS x1 : Nat) : Int)) := by
  unfold laws_szAtom.f
  have g0 : a ≤ 1048576 := by first | omega | exact h1
  refine Ev.bind (szIntS x1 a (by omega) (by omega) qx1_) ?_
  by_cases c0 : a < ((nIntS x1 : Nat) : Int)
  · rw [if_pos c0]
    exact Ev.pos (by omega) (Ev.const (by first | rfl | rw [if_pos (by omega)]))
  rw [if_neg c0]
  refine Ev.neg (by omega) ?_
  have e0 : a - ((nIntS x1 : Nat) : Int) = (a - ((nIntS x1 : Nat) : Int)) := by omega
  rw [e0]
  exact Ev.const (by first | rfl | rw [if_neg (by omega)])
theorem szAtomS_loop (l : List S175) (hl : l.length ≤ 1048576) (hb : ∀ x ∈ l, qAtom x) : ∀ (d i : Nat) (a : Int), i + d = l.length → 0 ≤ a → a ≤ 1048576 →
    Ev (fun k => laws_szAtomS.l0 k l a (i : Int)) (if a < tsum nAtom (l.drop i) then -1 else a - tsum nAtom (l.drop i)) := by
  intro d
  induction d with
  | zero =>
    intro i a hi h0 h1
    obtain rfl : i = l.length := by omega
    refine Ev.step (fun k => by rw [laws_szAtomS.l0]) (Ev.neg (by omega) (Ev.const ?_))
    simp [tsum]; omega
  | succ d ih =>
    intro i a hi h0 h1
    have hlt : i < l.length := by omega
    rw [drop_cons hlt, tsum_cons]
    refine Ev.step (fun k => by rw [laws_szAtomS.l0]) (Ev.pos (by omega) (Ev.pos (by omega) ?_))
    have e : rd_T175 l (i : Int) = l[i] := by rw [rd_T175]; exact getD_nat _ _ _ hlt
    rw [e, inc (by omega)]
    refine Ev.bind (szAtom (l[i].f0) (l[i].f1) a h0 h1 (hb _ (List.getElem_mem hlt)).1 (hb _ (List.getElem_mem hlt)).2) ?_
    by_cases h : a < nAtom l[i]
    · rw [if_pos (by first | exact h | (simp only [nAtom] at h; omega))]
      refine Ev.pos (by omega) (Ev.const ?_)
      rw [if_pos (by omega)]
    · rw [if_neg (by first | exact h | (simp only [nAtom] at h; omega))]
      refine Ev.neg (by first | omega | (simp only [nAtom] at h; omega)) (Ev.eq (ih (i + 1) _ (by omega) (by first | omega | (simp only [nAtom] at h; omega)) (by omega)) rfl ?_)
      by_cases h2 : a - nAtom l[i] < tsum nAtom (l.drop (i + 1))
      · rw [if_pos (by first | exact h2 | (simp only [nAtom] at h2 ⊢; omega)), if_pos (by omega)]
      · rw [if_neg (by first | exact h2 | (simp only [nAtom] at h2 ⊢; omega)), if_neg (by omega)]; first | omega | (simp only [nAtom]; omega)
theorem szAtomS (l : List S175) (a : Int) (h0 : 0 ≤ a) (h1 : a ≤ 1048576) (hq : qAtomS l) : Ev (fun k => laws_szAtomS.f k l a) (if a < nAtomS l then -1 else a - nAtomS l) := by
  have hl1 := hq.1
  have hw : wrap64 (a - (l.length : Int)) = a - l.length := w64 (by omega) (by omega)
  unfold nAtomS
  by_cases h : a < l.length
  · refine Ev.eq (Ev.const (r := -1) rfl) ?_ (by rw [if_pos (by omega)])
    funext k
    rw [laws_szAtomS.f, hw, if_pos (by omega)]
  · refine Ev.eq (szAtomS_loop l (by omega) hq.2 l.length 0 (a - l.length) (by omega) (by omega) (by omega)) ?_ ?_
    · funext k
      rw [laws_szAtomS.f, hw, if_neg (by omega)]; rfl
    · rw [List.drop_zero]
      by_cases h2 : a - l.length < tsum nAtom l
      · rw [if_pos h2, if_pos (by omega)]
      · rw [if_neg h2, if_neg (by omega)]; omega
theorem toAtom (x0 : Int) (x1 : List Int) (hn : nIntS x1 ≤ 1048576) : Ev (fun k => laws_toAtom.f k x0 x1) (x0, cIntS x1) := by
  unfold laws_toAtom.f
  refine Ev.bind (toIntS x1 (by omega)) ?_
  exact Ev.const rfl
theorem toAtomS_loop (l : List S175) (hn : nAtomS l ≤ 1048576) : ∀ (d i : Nat), i + d = l.length → Ev (fun k => laws_toAtomS.l0 k l (cAtomS (l.take i) ++ List.replicate d z153) (i : Int)) (cAtomS l) := by
  have hlen : l.length ≤ 1048576 := by unfold nAtomS at hn; omega
  intro d
  induction d with
  | zero =>
    intro i hi
    obtain rfl : i = l.length := by omega
    refine Ev.step (fun k => by rw [laws_toAtomS.l0]) (Ev.neg (by omega) (Ev.const ?_))
    simp
  | succ d ih =>
    intro i hi
    have hlt : i < l.length := by omega
    refine Ev.step (fun k => by rw [laws_toAtomS.l0]) (Ev.pos (by omega) (Ev.pos (by omega) ?_))
    have e : rd_T175 l (i : Int) = l[i] := by rw [rd_T175]; exact getD_nat _ _ _ hlt
    rw [e, inc (by omega)]
    have hx : nAtom l[i] ≤ 1048576 := by have := tsum_mem nAtom (List.getElem_mem hlt); unfold nAtomS at hn; omega
    refine Ev.bind (toAtom (l[i].f0) (l[i].f1) hx) (Ev.pos (by simp [cAtomS]; omega) ?_)
    refine Ev.eq (ih (i + 1) (by omega)) ?_ rfl
    funext k
    have e : ((i : Int)).toNat = i := by omega
    have el : (cAtomS (l.take i)).length = i := by simp [cAtomS]; omega
    rw [e, fill_set' _ _ _ _ _ el, take_snoc hlt]
    rw [show cAtomS (l.take i ++ [l[i]]) = cAtomS (l.take i) ++ [cAtom l[i]] from List.map_append ..]
    try rfl
theorem toAtomS (l : List S175) (hn : nAtomS l ≤ 1048576) : Ev (fun k => laws_toAtomS.f k l) (cAtomS l) := by
  have h := toAtomS_loop l hn l.length 0 (by omega)
  have hlen : l.length ≤ 1048576 := by unfold nAtomS at hn; omega
  refine Ev.eq (Ev.pos (c := 0 ≤ (l.length : Int)) (g := fun _ => none) (by omega) (Ev.pos (c := ((l.length : Int) : Int).toNat ≤ 8796093022208) (g := fun _ => none) (by omega) h)) ?_ rfl
  funext k
  rw [laws_toAtomS.f]; simp [cAtomS]
theorem eqAtom (x0 : Int) (x1 : List Int) (mx1_ : x1.length ≤ 4611686018427387000) : Ev (fun k => laws_eqAtom.f k x0 x1 x0 x1) true := by
  unfold laws_eqAtom.f
  first | refine Ev.pos rfl ?_ | skip
  refine Ev.bind (eqIntS x1 mx1_) (Ev.pos rfl ?_)
  exact Ev.const rfl
theorem eqAtomS_loop (l : List S153) (hl : l.length ≤ 4611686018427387000) (hb : ∀ x ∈ l, mAtom x) : ∀ (d i : Nat), i + d = l.length → Ev (fun k => laws_eqAtomS.l0 k l l (i : Int)) true := by
  intro d
  induction d with
  | zero =>
    intro i hi
    exact Ev.step (fun k => by rw [laws_eqAtomS.l0]) (Ev.neg (by omega) (Ev.const rfl))
  | succ d ih =>
    intro i hi
    have hlt : i < l.length := by omega
    refine Ev.step (fun k => by rw [laws_eqAtomS.l0]) (Ev.pos (by omega) (Ev.pos (by omega) (Ev.pos (by omega) ?_)))
    have e : rd_T153 l (i : Int) = l[i] := by rw [rd_T153]; exact getD_nat _ _ _ hlt
    rw [e, inc (by omega)]
    exact Ev.bind (eqAtom (l[i].f0) (l[i].f1) ((hb _ (List.getElem_mem hlt)).2)) (Ev.pos rfl (ih (i + 1) (by omega)))
theorem eqAtomS (l : List S153) (hm : mAtomS l) : Ev (fun k => laws_eqAtomS.f k l l) true :=
  Ev.eq (Ev.pos (c := (l.length : Int) = l.length) (g := fun _ => some false) rfl (eqAtomS_loop l hm.1 hm.2 l.length 0 (by omega))) (by funext k; rw [laws_eqAtomS.f]; rfl) rfl
theorem mcAtom {x : S175} (hn : nAtom x ≤ 1048576) : mAtom (cAtom x) := by
  unfold nAtom at hn
  exact ⟨trivial, mcIntS (l := x.f1) (by omega)⟩
theorem mcAtomS {l : List S175} (hn : nAtomS l ≤ 1048576) : mAtomS (cAtomS l) := by
  unfold nAtomS at hn
  refine ⟨by simp [cAtomS]; omega, fun x hx => ?_⟩
  obtain ⟨y, hy, rfl⟩ := List.mem_map.1 hx
  have := tsum_mem nAtom hy
  exact mcAtom (by omega)
end Go.Proofs.Ytjiipeidginjnaa.PLaw

namespace Go.Proofs.Ytjiipeidginjnaa.PLaw
open Go.RowKit Go.Proofs.Ytjiipeidginjnaa.P Go.Proofs.YtjiipeidginjnaaW.PrintWords Go.Proofs.YtjiipeidginjnaaW.PrintLast Go.Proofs.Ytjiipeidginjnaa.PB
set_option linter.unusedVariables false

def qQuery (x : S65) : Prop := (qIntS x.f0) ∧ (qAtomS x.f1)
def nQuery (x : S65) : Nat := nIntS x.f0 + nAtomS x.f1
def cQuery (x : S65) : S72 := ⟨cIntS x.f0, cAtomS x.f1⟩
def qQueryS (l : List S65) : Prop := l.length ≤ 9223372036854775807 ∧ ∀ x ∈ l, qQuery x
def nQueryS (l : List S65) : Nat := l.length + tsum nQuery l
def cQueryS (l : List S65) : List S72 := l.map cQuery
def mQuery (x : S72) : Prop := (x.f0.length ≤ 4611686018427387000) ∧ (mAtomS x.f1)
def mQueryS (l : List S72) : Prop := l.length ≤ 4611686018427387000 ∧ ∀ x ∈ l, mQuery x
theorem szQuery (x0 : List Int) (x1 : List S175) (a : Int) (h0 : 0 ≤ a) (h1 : a ≤ 1048576) (qx0_ : qIntS x0) (qx1_ : qAtomS x1) : Ev (fun k => laws_szQuery.f k x0 x1 a) (if a < ((nIntS x0 + nAtomS x1 : Nat) : Int) then -1 else a - ((nIntS x0 + nAtomS x1 : Nat) : Int)) := by
  unfold laws_szQuery.f
  have g0 : a ≤ 1048576 := by first | omega | exact h1
  refine Ev.bind (szIntS x0 a (by omega) (by omega) qx0_) ?_
  by_cases c0 : a < ((nIntS x0 : Nat) : Int)
  · rw [if_pos c0]
    exact Ev.pos (by omega) (Ev.const (by first | rfl | rw [if_pos (by omega)]))
  rw [if_neg c0]
  refine Ev.neg (by omega) ?_
  have e0 : a - ((nIntS x0 : Nat) : Int) = (a - ((nIntS x0 : Nat) : Int)) := by omega
  rw [e0]
  have g1 : (a - ((nIntS x0 : Nat) : Int)) ≤ 1048576 := by first | omega | exact h1
  refine Ev.bind (szAtomS x1 (a - ((nIntS x0 : Nat) : Int)) (by omega) (by omega) qx1_) ?_
  by_cases c1 : (a - ((nIntS x0 : Nat) : Int)) < ((nAtomS x1 : Nat) : Int)
  · rw [if_pos c1]
    exact Ev.pos (by omega) (Ev.const (by first | rfl | rw [if_pos (by omega)]))
  rw [if_neg c1]
  refine Ev.neg (by omega) ?_
  have e1 : (a - ((nIntS x0 : Nat) : Int)) - ((nAtomS x1 : Nat) : Int) = (a - ((nIntS x0 + nAtomS x1 : Nat) : Int)) := by omega
  rw [e1]
  exact Ev.const (by first | rfl | rw [if_neg (by omega)])
theorem szQueryS_loop (l : List S65) (hl : l.length ≤ 1048576) (hb : ∀ x ∈ l, qQuery x) : ∀ (d i : Nat) (a : Int), i + d = l.length → 0 ≤ a → a ≤ 1048576 →
    Ev (fun k => laws_szQueryS.l0 k l a (i : Int)) (if a < tsum nQuery (l.drop i) then -1 else a - tsum nQuery (l.drop i)) := by
  intro d
  induction d with
  | zero =>
    intro i a hi h0 h1
    obtain rfl : i = l.length := by omega
    refine Ev.step (fun k => by rw [laws_szQueryS.l0]) (Ev.neg (by omega) (Ev.const ?_))
    simp [tsum]; omega
  | succ d ih =>
    intro i a hi h0 h1
    have hlt : i < l.length := by omega
    rw [drop_cons hlt, tsum_cons]
    refine Ev.step (fun k => by rw [laws_szQueryS.l0]) (Ev.pos (by omega) (Ev.pos (by omega) ?_))
    have e : rd_T65 l (i : Int) = l[i] := by rw [rd_T65]; exact getD_nat _ _ _ hlt
    rw [e, inc (by omega)]
    refine Ev.bind (szQuery (l[i].f0) (l[i].f1) a h0 h1 (hb _ (List.getElem_mem hlt)).1 (hb _ (List.getElem_mem hlt)).2) ?_
    by_cases h : a < nQuery l[i]
    · rw [if_pos (by first | exact h | (simp only [nQuery] at h; omega))]
      refine Ev.pos (by omega) (Ev.const ?_)
      rw [if_pos (by omega)]
    · rw [if_neg (by first | exact h | (simp only [nQuery] at h; omega))]
      refine Ev.neg (by first | omega | (simp only [nQuery] at h; omega)) (Ev.eq (ih (i + 1) _ (by omega) (by first | omega | (simp only [nQuery] at h; omega)) (by omega)) rfl ?_)
      by_cases h2 : a - nQuery l[i] < tsum nQuery (l.drop (i + 1))
      · rw [if_pos (by first | exact h2 | (simp only [nQuery] at h2 ⊢; omega)), if_pos (by omega)]
      · rw [if_neg (by first | exact h2 | (simp only [nQuery] at h2 ⊢; omega)), if_neg (by omega)]; first | omega | (simp only [nQuery]; omega)
theorem szQueryS (l : List S65) (a : Int) (h0 : 0 ≤ a) (h1 : a ≤ 1048576) (hq : qQueryS l) : Ev (fun k => laws_szQueryS.f k l a) (if a < nQueryS l then -1 else a - nQueryS l) := by
  have hl1 := hq.1
  have hw : wrap64 (a - (l.length : Int)) = a - l.length := w64 (by omega) (by omega)
  unfold nQueryS
  by_cases h : a < l.length
  · refine Ev.eq (Ev.const (r := -1) rfl) ?_ (by rw [if_pos (by omega)])
    funext k
    rw [laws_szQueryS.f, hw, if_pos (by omega)]
  · refine Ev.eq (szQueryS_loop l (by omega) hq.2 l.length 0 (a - l.length) (by omega) (by omega) (by omega)) ?_ ?_
    · funext k
      rw [laws_szQueryS.f, hw, if_neg (by omega)]; rfl
    · rw [List.drop_zero]
      by_cases h2 : a - l.length < tsum nQuery l
      · rw [if_pos h2, if_pos (by omega)]
      · rw [if_neg h2, if_neg (by omega)]; omega
theorem toQuery (x0 : List Int) (x1 : List S175) (hn : nIntS x0 + nAtomS x1 ≤ 1048576) : Ev (fun k => laws_toQuery.f k x0 x1) (cIntS x0, cAtomS x1) := by
  unfold laws_toQuery.f
  refine Ev.bind (toIntS x0 (by omega)) ?_
  refine Ev.bind (toAtomS x1 (by omega)) ?_
  exact Ev.const rfl
theorem toQueryS_loop (l : List S65) (hn : nQueryS l ≤ 1048576) : ∀ (d i : Nat), i + d = l.length → Ev (fun k => laws_toQueryS.l0 k l (cQueryS (l.take i) ++ List.replicate d z72) (i : Int)) (cQueryS l) := by
  have hlen : l.length ≤ 1048576 := by unfold nQueryS at hn; omega
  intro d
  induction d with
  | zero =>
    intro i hi
    obtain rfl : i = l.length := by omega
    refine Ev.step (fun k => by rw [laws_toQueryS.l0]) (Ev.neg (by omega) (Ev.const ?_))
    simp
  | succ d ih =>
    intro i hi
    have hlt : i < l.length := by omega
    refine Ev.step (fun k => by rw [laws_toQueryS.l0]) (Ev.pos (by omega) (Ev.pos (by omega) ?_))
    have e : rd_T65 l (i : Int) = l[i] := by rw [rd_T65]; exact getD_nat _ _ _ hlt
    rw [e, inc (by omega)]
    have hx : nQuery l[i] ≤ 1048576 := by have := tsum_mem nQuery (List.getElem_mem hlt); unfold nQueryS at hn; omega
    refine Ev.bind (toQuery (l[i].f0) (l[i].f1) hx) (Ev.pos (by simp [cQueryS]; omega) ?_)
    refine Ev.eq (ih (i + 1) (by omega)) ?_ rfl
    funext k
    have e : ((i : Int)).toNat = i := by omega
    have el : (cQueryS (l.take i)).length = i := by simp [cQueryS]; omega
    rw [e, fill_set' _ _ _ _ _ el, take_snoc hlt]
    rw [show cQueryS (l.take i ++ [l[i]]) = cQueryS (l.take i) ++ [cQuery l[i]] from List.map_append ..]
    try rfl
theorem toQueryS (l : List S65) (hn : nQueryS l ≤ 1048576) : Ev (fun k => laws_toQueryS.f k l) (cQueryS l) := by
  have h := toQueryS_loop l hn l.length 0 (by omega)
  have hlen : l.length ≤ 1048576 := by unfold nQueryS at hn; omega
  refine Ev.eq (Ev.pos (c := 0 ≤ (l.length : Int)) (g := fun _ => none) (by omega) (Ev.pos (c := ((l.length : Int) : Int).toNat ≤ 5864062014805) (g := fun _ => none) (by omega) h)) ?_ rfl
  funext k
  rw [laws_toQueryS.f]; simp [cQueryS]
theorem eqQuery (x0 : List Int) (x1 : List S153) (mx0_ : x0.length ≤ 4611686018427387000) (mx1_ : mAtomS x1) : Ev (fun k => laws_eqQuery.f k x0 x1 x0 x1) true := by
  unfold laws_eqQuery.f
  refine Ev.bind (eqIntS x0 mx0_) (Ev.pos rfl ?_)
  refine Ev.bind (eqAtomS x1 mx1_) (Ev.pos rfl ?_)
  exact Ev.const rfl
theorem eqQueryS_loop (l : List S72) (hl : l.length ≤ 4611686018427387000) (hb : ∀ x ∈ l, mQuery x) : ∀ (d i : Nat), i + d = l.length → Ev (fun k => laws_eqQueryS.l0 k l l (i : Int)) true := by
  intro d
  induction d with
  | zero =>
    intro i hi
    exact Ev.step (fun k => by rw [laws_eqQueryS.l0]) (Ev.neg (by omega) (Ev.const rfl))
  | succ d ih =>
    intro i hi
    have hlt : i < l.length := by omega
    refine Ev.step (fun k => by rw [laws_eqQueryS.l0]) (Ev.pos (by omega) (Ev.pos (by omega) (Ev.pos (by omega) ?_)))
    have e : rd_T72 l (i : Int) = l[i] := by rw [rd_T72]; exact getD_nat _ _ _ hlt
    rw [e, inc (by omega)]
    exact Ev.bind (eqQuery (l[i].f0) (l[i].f1) ((hb _ (List.getElem_mem hlt)).1) ((hb _ (List.getElem_mem hlt)).2)) (Ev.pos rfl (ih (i + 1) (by omega)))
theorem eqQueryS (l : List S72) (hm : mQueryS l) : Ev (fun k => laws_eqQueryS.f k l l) true :=
  Ev.eq (Ev.pos (c := (l.length : Int) = l.length) (g := fun _ => some false) rfl (eqQueryS_loop l hm.1 hm.2 l.length 0 (by omega))) (by funext k; rw [laws_eqQueryS.f]; rfl) rfl
theorem mcQuery {x : S65} (hn : nQuery x ≤ 1048576) : mQuery (cQuery x) := by
  unfold nQuery at hn
  exact ⟨mcIntS (l := x.f0) (by omega), mcAtomS (l := x.f1) (by omega)⟩
theorem mcQueryS {l : List S65} (hn : nQueryS l ≤ 1048576) : mQueryS (cQueryS l) := by
  unfold nQueryS at hn
  refine ⟨by simp [cQueryS]; omega, fun x hx => ?_⟩
  obtain ⟨y, hy, rfl⟩ := List.mem_map.1 hx
  have := tsum_mem nQuery hy
  exact mcQuery (by omega)
end Go.Proofs.Ytjiipeidginjnaa.PLaw

namespace Go.Proofs.Ytjiipeidginjnaa.Opens
open Go.RowKit Go.Proofs.YtjiipeidginjnaaW.PrintWords Go.Deep Go.ChangeShapes Go.WideShapes
set_option linter.unusedVariables false

/-- Whatever reads as data of type t is of kind d, and Q holds of it. -/
def Rdd {α : Type} (P : Program) (w : World) (t : TypeId) (d : Kd α) (Q : α → Prop) : Prop :=
  ∀ (H : Type) (enc : TypeId × Value → H) (fuel : Nat) (cs : List Value) (x : DataW H × List MemPlace),
    DataW.trod enc P w 0 (fun _ => true) true fuel t cs = some x → ∃ a, d.K w a cs ∧ Q a

variable {α β γ δ : Type} {P : Program} {w : World} {t e : TypeId}

theorem op_int {k : IntKind} (ht : P.underlying t = some (.int k)) : Rdd P w t (Kd.int k) (fun n => (Lit.int k n).wf = true) := by
  intro H enc fuel cs x h
  obtain ⟨n, rfl, _, hw⟩ := DataW.trod_int ht h
  exact ⟨n, rfl, hw⟩
theorem op_mono {d : Kd α} {Q Q' : α → Prop} (h : Rdd P w t d Q) (hq : ∀ a, Q a → Q' a) : Rdd P w t d Q' := by
  intro H enc fuel cs x hx
  obtain ⟨a, hk, hQ⟩ := h H enc fuel cs x hx
  exact ⟨a, hk, hq a hQ⟩
theorem op_slice {d : Kd α} {Q : α → Prop} (ht : P.underlying t = some (.slice e)) (hc : P.cellsOf e = d.sz) (hd : Rdd P w e d Q) :
    Rdd P w t (Kd.slice e d) (fun xs => xs.length ≤ 9223372036854775807 ∧ ∀ x ∈ xs, Q x) := by
  classical
  intro H enc fuel cs x h
  rcases open_slice ht h with ⟨rfl, _⟩ | ⟨a, len, cap, m, n, D, Pl, rfl, _, hl, hm, hmm, _, hx⟩
  · exact ⟨[], ⟨none, 0, rfl, Nat.le_refl _, Kd.C_nil d w⟩, by simp⟩
  · have hm' : m = cap := by simpa using hmm
    have hX : ∀ i, i < len → ∃ x : α, ∃ cs', w.cells? 0 (a.add (i * d.sz)) d.sz = some cs' ∧ d.K w x cs' ∧ Q x := by
      intro i hi
      obtain ⟨cs', h1, h2⟩ := hx i (by omega)
      obtain ⟨y, hk, hq⟩ := hd H enc n cs' _ h2
      rw [hc] at h1
      exact ⟨y, cs', h1, hk, hq⟩
    rcases Nat.eq_zero_or_pos len with h0 | h0
    · subst h0
      exact ⟨[], ⟨some a, cap, rfl, Nat.zero_le _, ⟨rfl, by simp, fun h => absurd h (Nat.lt_irrefl 0)⟩⟩, by simp⟩
    · obtain ⟨x0, _⟩ := hX 0 h0
      haveI : Inhabited α := ⟨x0⟩
      obtain ⟨X, hX'⟩ := choose_lt hX
      have hlen : ((List.range len).map X).length = len := by simp
      have hmx : ((List.range len).map X).length ≤ 9223372036854775807 := by rw [hlen]; unfold maxLen at hm; omega
      refine ⟨(List.range len).map X, ⟨some a, cap, by rw [hlen], by rw [hlen]; exact hl, ⟨rfl, hmx, fun _ => ⟨a, rfl, ?_⟩⟩⟩, hmx, ?_⟩
      · intro j p hj
        have hj' : j < len := by
          have := (List.getElem?_eq_some_iff.1 hj).1
          rwa [hlen] at this
        have hp : p = X j := by
          rw [List.getElem?_map, List.getElem?_range hj'] at hj
          simpa using hj.symm
        subst hp
        obtain ⟨cs', h1, h2, _⟩ := hX' j hj'
        obtain ⟨_, hl', hcell⟩ := World.cells?_some h1
        refine ⟨cs', hl', h2, fun i u hu => ?_⟩
        have hi : i < d.sz := by
          have := (List.getElem?_eq_some_iff.1 hu).1
          omega
        have := hcell i hi
        rw [hu] at this
        rw [← this, Addr.add_add]
      · intro x hx
        obtain ⟨i, hi, rfl⟩ := List.mem_map.1 hx
        exact (hX' i (List.mem_range.1 hi)).choose_spec.2.2
theorem op_iso {d : Kd α} {Q : α → Prop} (f : β → α) (g : α → β) (hfg : ∀ a, f (g a) = a) (h : Rdd P w t d Q) : Rdd P w t (Kd.iso d f) (fun b => Q (f b)) := by
  intro H enc fuel cs x hx
  obtain ⟨a, hk, hq⟩ := h H enc fuel cs x hx
  refine ⟨g a, ?_, ?_⟩
  · show d.K w (f (g a)) cs
    rw [hfg]; exact hk
  · show Q (f (g a))
    rw [hfg]; exact hq
theorem op_struct2 {f0 f1 : Field} {d0 : Kd α} {d1 : Kd β} {Q0 : α → Prop} {Q1 : β → Prop} (ht : P.underlying t = some (.struct #[f0, f1])) (h0 : f0.offset = 0) (h1 : f1.offset = d0.sz)
    (z : P.cellsOf t = d0.sz + d1.sz) (z0 : P.cellsOf f0.type = d0.sz) (z1 : P.cellsOf f1.type = d1.sz)
    (o0 : Rdd P w f0.type d0 Q0) (o1 : Rdd P w f1.type d1 Q1) : Rdd P w t (Kd.pair d0 d1) (fun a => Q0 a.1 ∧ Q1 a.2) := by
  intro H enc fuel cs x hx
  obtain ⟨y0, y1, n, rfl, hl, g0, g1⟩ := trod_struct2 ht hx
  obtain ⟨a, hk, hq⟩ := o0 H enc n _ y0 g0
  obtain ⟨b, hk1, hq1⟩ := o1 H enc n _ y1 g1
  rw [h0, List.drop_zero, z0] at hk
  rw [h1, z1, List.take_of_length_le (by simp; omega)] at hk1
  exact ⟨(a, b), ⟨_, _, (List.take_append_drop d0.sz cs).symm, hk, hk1⟩, hq, hq1⟩
theorem op_of {d : Kd α} {Q : α → Prop} {H : Type} {enc : TypeId × Value → H} {v : Value} {dd : DataW H} {ps : List MemPlace} (h : Rdd P w t d Q) (hx : DataW.Trod enc P w 0 (fun _ => true) true t v dd ps) :
    ∃ a, d.K w a v.cells.toList ∧ Q a := by
  obtain ⟨fuel, hf⟩ := hx
  exact h H enc fuel _ _ hf
end Go.Proofs.Ytjiipeidginjnaa.Opens

