/- Several texts in one: what the claim needs of them. Conditions: each declaration's own. -/
import Derived.Test.YtjglknoebaojgaaZAppWShare
import Derived.Test.YtjglknoebaojgaaZAppWApart
import Derived.Shelf.SlSortCmp.NoneTotal
import Derived.Test.YtjglknoebaojgaaZAppM12
import Derived.Shelf.SlGeneric
import Derived.Ground.SlsfProg
import Derived.Test.YtjglknoebaojgaaProg
import Derived.Test.YtjglknoebaojgaaZAppWWords
namespace Go.Proofs.Ytjglknoebaojgaa.Lay
open Go.RowKit Go.Proofs.YtjglknoebaojgaaW.PrintWords
set_option linter.unusedVariables false
set_option linter.unusedSimpArgs false

abbrev pa (g j : Nat) : Addr := ⟨g, j, none⟩
def isI (v : Value) : Prop := ∃ x, v = .int .i64 x
/-- Every plain cell of W stands in W', integers being integers still. -/
structure Hd (W W' : World) : Prop where
 size : W.heap.size ≤ W'.heap.size
 cell : ∀ g j v, W.cell? (pa g j) = some v → W.frozen? (pa g j) = false → W'.frozen? (pa g j) = false ∧ ∃ v', W'.cell? (pa g j) = some v' ∧ (v' = v ∨ isI v ∧ isI v')

variable {W W1 W2 w w1 w2 : World} {g j o : Nat} {v u : Value} {k x : Int}

theorem Hd.trans (h : Hd W W1) (k : Hd W1 W2) : Hd W W2 := ⟨Nat.le_trans h.size k.size, fun g j v hc hf => by
 obtain ⟨f1, v1, c1, e1⟩ := h.cell g j v hc hf
 obtain ⟨f2, v2, c2, e2⟩ := k.cell g j v1 c1 f1
 refine ⟨f2, v2, c2, ?_⟩
 rcases e2 with rfl | ⟨i1, i2⟩
 ·exact e1
 ·rcases e1 with rfl | ⟨j1, _⟩
  ·exact .inr ⟨i1, i2⟩
  ·exact .inr ⟨j1, i2⟩⟩
theorem blk_same (h : W1.heap[g]? = W.heap[g]?) (j : Nat) : W1.cell? (pa g j) = W.cell? (pa g j) ∧ W1.frozen? (pa g j) = W.frozen? (pa g j) := by
 unfold World.cell? World.frozen?
 simp only [pa]
 rw [h]
 exact ⟨rfl, rfl⟩
theorem lt_of_cell (h : W.cell? (pa g j) = some v) : g < W.heap.size := World.block_lt_of_cell? W _ h
theorem Hd.below (hb : Below W.heap.size W W1) : Hd W W1 := ⟨hb.size, fun g j v hc hf => by
 have hs := blk_same (hb.block g (lt_of_cell hc)) j
 exact ⟨hs.2.trans hf, v, hs.1.trans hc, .inl rfl⟩⟩
theorem obj_of_cell (h : W.cell? (pa g j) = some v) : ∃ cs t fz, W.heap[g]? = some (.cells cs t fz) ∧ cs[j]? = some v := by
 unfold World.cell? at h
 simp only [pa] at h
 split at h
 ·rename_i c e f hc
  exact ⟨c, e, f, hc, by simpa using h⟩
 ·cases h
theorem set_obj {cs : Array Value} {t : TypeId} {fz : Nat × Nat} (h : W.heap[g]? = some (.cells cs t fz)) (j : Nat) (u : Value) : (W.setCell (pa g j) u).heap[g]? = some (.cells (cs.setIfInBounds j u) t fz) := by
 simp only [World.setCell, pa, Array.getElem?_modify, if_true, h, Option.map_some]
 rfl
theorem set_cell (h : W.cell? (pa g j) = some v) (u : Value) : (W.setCell (pa g j) u).cell? (pa g j) = some u := by
 obtain ⟨cs, t, fz, ho, hc⟩ := obj_of_cell h
 unfold World.cell?
 simp only [set_obj ho, pa]
 have hj : j < cs.size := (Array.getElem?_eq_some_iff.1 hc).1
 simp [Array.getElem?_setIfInBounds, hj]
theorem set_other {g' j' : Nat} (u : Value) (hne : ¬ (g' = g ∧ j' = j)) : (W.setCell (pa g j) u).cell? (pa g' j') = W.cell? (pa g' j') := by
 by_cases hg : g' = g
 ·subst hg
  have hj : j ≠ j' := fun h => hne ⟨rfl, h.symm⟩
  rcases hh : W.heap[g']? with _ | ob
  ·have : (W.setCell (pa g' j) u).heap[g']? = none := by simp [World.setCell, pa, Array.getElem?_modify, hh]
   unfold World.cell?
   simp only [pa] at this ⊢
   rw [this, hh]
  ·by_cases hk : ∃ cs t fz, ob = .cells cs t fz
   ·obtain ⟨cs, t, fz, rfl⟩ := hk
    unfold World.cell?
    have := set_obj hh j u
    simp only [pa] at this ⊢
    rw [this, hh]
    simp [Array.getElem?_setIfInBounds, hj]
   ·have h2 : (W.setCell (pa g' j) u).heap[g']? = some ob := by
     simp only [World.setCell, pa, Array.getElem?_modify, if_true, hh, Option.map_some]
     cases ob <;> first | rfl | exact absurd ⟨_, _, _, rfl⟩ hk
    exact (blk_same (h2.trans hh.symm) j').1
 ·exact (blk_same (Below.heap_setCell W (pa g j) u g' (fun h => hg h)) j').1
theorem set_frozen (g' j' : Nat) (u : Value) : (W.setCell (pa g j) u).frozen? (pa g' j') = W.frozen? (pa g' j') := by
 by_cases hg : g' = g
 ·subst hg
  rcases hh : W.heap[g']? with _ | ob
  ·have : (W.setCell (pa g' j) u).heap[g']? = none := by simp [World.setCell, pa, Array.getElem?_modify, hh]
   unfold World.frozen?
   simp only [pa] at this ⊢
   rw [this, hh]
  ·by_cases hk : ∃ cs t fz, ob = .cells cs t fz
   ·obtain ⟨cs, t, fz, rfl⟩ := hk
    unfold World.frozen?
    have := set_obj hh j u
    simp only [pa] at this ⊢
    rw [this, hh]
   ·have h2 : (W.setCell (pa g' j) u).heap[g']? = some ob := by
     simp only [World.setCell, pa, Array.getElem?_modify, if_true, hh, Option.map_some]
     cases ob <;> first | rfl | exact absurd ⟨_, _, _, rfl⟩ hk
    exact (blk_same (h2.trans hh.symm) j').2
 ·exact (blk_same (Below.heap_setCell W (pa g j) u g' (fun h => hg h)) j').2

abbrev Pl := List (Nat × Nat)
/-- An integer's cell. -/
def Ic (W : World) (g j : Nat) : Prop := W.frozen? (pa g j) = false ∧ ∃ x, W.cell? (pa g j) = some (.int .i64 x)
theorem Ic.hd (h : Ic W g j) (hh : Hd W W1) : Ic W1 g j := by
 obtain ⟨hf, x, hc⟩ := h
 obtain ⟨f1, v1, c1, e1⟩ := hh.cell g j _ hc hf
 rcases e1 with rfl | ⟨_, y, rfl⟩
 ·exact ⟨f1, x, c1⟩
 ·exact ⟨f1, y, c1⟩

/-- What k, k+1, .. at the places al make of a world. -/
structure Wr (w w' : World) (al : Pl) (k : Int) : Prop where
 same : w'.os = w.os ∧ w'.tape = w.tape ∧ w'.output = w.output
 hd : Hd w w'
 kept : Kept w w' (fun b => ∃ p ∈ al, p.1 = b)
 other : ∀ g j, (g, j) ∉ al → g < w.heap.size → w'.cell? (pa g j) = w.cell? (pa g j)
 val : al.Nodup → ∀ j (h : j < al.length), w'.cell? (pa al[j].1 al[j].2) = some (.int .i64 (k + j))

theorem Wr.below (hb : Below w.heap.size w w1) (k : Int) : Wr w w1 [] k :=
 ⟨⟨hb.os, hb.tape, hb.output⟩, Hd.below hb, Kept.of_below hb _, fun g j _ hg => (blk_same (hb.block g hg) j).1, fun _ j h => absurd h (Nat.not_lt_zero _)⟩
theorem Wr.nil (w : World) (k : Int) : Wr w w [] k := Wr.below (Below.refl _ _) k
theorem Wr.trans {al bs : Pl} (h : Wr w w1 al k) (h2 : Wr w1 w2 bs (k + al.length)) (ha : ∀ p ∈ al, p.1 < w.heap.size) : Wr w w2 (al ++ bs) k := by
 refine ⟨⟨h2.same.1.trans h.same.1, h2.same.2.1.trans h.same.2.1, h2.same.2.2.trans h.same.2.2⟩, Hd.trans h.hd h2.hd, ?_, ?_, ?_⟩
 ·refine Kept.then_ (Kept.mono h.kept (fun b ⟨p, hp, e⟩ => ⟨p, List.mem_append_left _ hp, e⟩)) h2.kept (fun b ⟨p, hp, e⟩ => .inl ⟨p, List.mem_append_right _ hp, e⟩)
 ·intro g j hn hg
  rw [h2.other g j (fun hm => hn (List.mem_append_right _ hm)) (Nat.lt_of_lt_of_le hg h.hd.size), h.other g j (fun hm => hn (List.mem_append_left _ hm)) hg]
 ·intro hnd j hj
  rw [List.nodup_append] at hnd
  rcases Nat.lt_or_ge j al.length with hl | hl
  ·rw [List.getElem_append_left hl]
   have hm : al[j] ∈ al := List.getElem_mem hl
   exact (h2.other al[j].1 al[j].2 (fun hb => hnd.2.2 _ hm _ hb rfl) (Nat.lt_of_lt_of_le (ha _ hm) h.hd.size)).trans (h.val hnd.1 j hl)
  ·rw [List.getElem_append_right hl]
   have := h2.val hnd.2.1 (j - al.length) (by rw [List.length_append] at hj; omega)
   rw [this]
   congr 2
   omega
theorem Wr.snoc {al : Pl} (h : Wr w w1 al k) (hb : Below w1.heap.size w1 w2) (ha : ∀ p ∈ al, p.1 < w.heap.size) : Wr w w2 al k := by
 have := Wr.trans h (Wr.below hb _) ha
 rwa [List.append_nil] at this
theorem Wr.store (h : Ic w g j) (k : Int) : Wr w (w.setCell (pa g j) (.int .i64 k)) [(g, j)] k := by
 obtain ⟨hf, x, hc⟩ := h
 refine ⟨⟨rfl, rfl, rfl⟩, ⟨by simp [World.setCell], ?_⟩, ?_, ?_, ?_⟩
 ·intro g' j' v hv hfv
  refine ⟨(set_frozen g' j' _).trans hfv, ?_⟩
  by_cases he : g' = g ∧ j' = j
  ·obtain ⟨rfl, rfl⟩ := he
   refine ⟨_, set_cell hc _, .inr ⟨?_, k, rfl⟩⟩
   rw [hc] at hv
   exact ⟨x, (Option.some.inj hv).symm⟩
  ·exact ⟨v, (set_other _ he).trans hv, .inl rfl⟩
 ·exact (Kept.refl w _).setCell (.inl ⟨(g, j), List.mem_singleton.2 rfl, rfl⟩) _
 ·intro g' j' hn _
  exact set_other _ (fun he => hn (by rw [List.mem_singleton, he.1, he.2]))
 ·intro _ i hi
  have : i = 0 := by simp at hi; omega
  subst this
  simpa using set_cell hc (.int .i64 k)

abbrev El := World → Nat → Nat → Pl → Prop
def St (E : El) : Prop := ∀ (W W' : World) (g o : Nat) (al : Pl), Hd W W' → E W g o al → E W' g o al
def In (E : El) : Prop := ∀ (W : World) (g o : Nat) (al : Pl), E W g o al → ∀ p ∈ al, p.1 < W.heap.size
def eInt : El := fun W g o al => Ic W g o ∧ al = [(g, o)]
def Row (sz : Nat) (E : El) (W : World) (v : Value) (al : Pl) : Prop :=
 ∃ A n c, v = .slice A n c ∧ n ≤ 9223372036854775807 ∧ ∃ ass : List Pl, ass.length = n ∧ al = ass.flatten ∧ (0 < n → ∃ g, A = some (pa g 0) ∧ ∀ j (h : j < ass.length), E W g (j * sz) ass[j])
def eRow (R : World → Value → Pl → Prop) : El := fun W g o al => ∃ v, W.cell? (pa g o) = some v ∧ W.frozen? (pa g o) = false ∧ ¬ isI v ∧ R W v al
def ePair (E1 E2 : El) : El := fun W g o al => ∃ bs cs, E1 W g o bs ∧ E2 W g (o + 1) cs ∧ al = bs ++ cs
def StR (R : World → Value → Pl → Prop) : Prop := ∀ (W W' : World) (v : Value) (al : Pl), Hd W W' → R W v al → R W' v al
def InR (R : World → Value → Pl → Prop) : Prop := ∀ (W : World) (v : Value) (al : Pl), R W v al → ∀ p ∈ al, p.1 < W.heap.size

theorem st_int : St eInt := fun _ _ _ _ _ hh h => ⟨h.1.hd hh, h.2⟩
theorem in_int : In eInt := by
 rintro W g o al ⟨⟨_, x, hc⟩, rfl⟩ p hp
 rw [List.mem_singleton.1 hp]
 exact lt_of_cell hc
theorem st_pair {E1 E2 : El} (h1 : St E1) (h2 : St E2) : St (ePair E1 E2) := by
 rintro W W' g o al hh ⟨bs, cs, a, b, rfl⟩
 exact ⟨bs, cs, h1 _ _ _ _ _ hh a, h2 _ _ _ _ _ hh b, rfl⟩
theorem in_pair {E1 E2 : El} (h1 : In E1) (h2 : In E2) : In (ePair E1 E2) := by
 rintro W g o al ⟨bs, cs, a, b, rfl⟩ p hp
 rcases List.mem_append.1 hp with hp | hp
 ·exact h1 _ _ _ _ a p hp
 ·exact h2 _ _ _ _ b p hp
theorem st_row {sz : Nat} {E : El} (h : St E) : StR (Row sz E) := by
 rintro W W' v al hh ⟨A, n, c, rfl, hn, ass, hl, rfl, hr⟩
 refine ⟨A, n, c, rfl, hn, ass, hl, rfl, fun h0 => ?_⟩
 obtain ⟨g, e, he⟩ := hr h0
 exact ⟨g, e, fun j hj => h _ _ _ _ _ hh (he j hj)⟩
theorem in_row {sz : Nat} {E : El} (h : In E) : InR (Row sz E) := by
 rintro W v al ⟨A, n, c, rfl, hn, ass, hl, rfl, hr⟩ p hp
 obtain ⟨al, hm, hp⟩ := List.mem_flatten.1 hp
 obtain ⟨j, hj, rfl⟩ := List.getElem_of_mem hm
 obtain ⟨g, _, he⟩ := hr (by omega)
 exact h _ _ _ _ (he j hj) p hp
theorem st_eRow {R : World → Value → Pl → Prop} (h : StR R) : St (eRow R) := by
 rintro W W' g o al hh ⟨v, hc, hf, hi, hr⟩
 obtain ⟨f1, v1, c1, e1⟩ := hh.cell g o v hc hf
 rcases e1 with rfl | ⟨hv, _⟩
 ·exact ⟨v1, c1, f1, hi, h _ _ _ _ hh hr⟩
 ·exact absurd hv hi
theorem in_eRow {R : World → Value → Pl → Prop} (h : InR R) : In (eRow R) := by
 rintro W g o al ⟨v, hc, hf, hi, hr⟩ p hp
 exact h _ _ _ hr p hp
/-- The row's own letters. -/
theorem Row.open_ {sz : Nat} {E : El} {al : Pl} (h : Row sz E W v al) : ∃ A n c, v = .slice A n c ∧ n ≤ 9223372036854775807 ∧ ∃ ass : List Pl, ass.length = n ∧ al = ass.flatten ∧ (0 < n → ∃ g, A = some (pa g 0) ∧ ∀ j (h : j < ass.length), E W g (j * sz) ass[j]) := h
theorem flat_take {ass : List Pl} {i : Nat} (h : i < ass.length) : (ass.take (i + 1)).flatten = (ass.take i).flatten ++ ass[i] := by
 rw [List.take_succ_eq_append_getElem h, List.flatten_append]
 simp

/-- An element made (its cells at g, o) hal its places, cnt of them, in blocks of ok or in g. -/
def Mk {α : Type} (d : Kd α) (E : El) (cnt : α → Nat) : Prop := ∀ {W : World} {base : Nat} {ok : Nat → Prop} {x : α} {cs : List Value} {g o : Nat},
 d.M W base ok x cs → (∀ i u, cs[i]? = some u → W.cell? (pa g (o + i)) = some u ∧ W.frozen? (pa g (o + i)) = false) → ∃ al, E W g o al ∧ al.length = cnt x ∧ ∀ p ∈ al, p.1 = g ∨ ok p.1
def sumOf {α : Type} (cnt : α → Nat) : List α → Nat
 | [] => 0
 | x :: xs => cnt x + sumOf cnt xs
theorem pick {α : Type} {n : Nat} {P : Nat → α → Prop} (h : ∀ j, j < n → ∃ a, P j a) : ∃ l : List α, l.length = n ∧ ∀ j (hj : j < l.length), P j l[j] := by
 induction n with
 | zero => exact ⟨[], rfl, fun j hj => absurd hj (Nat.not_lt_zero _)⟩
 | succ n ih =>
  obtain ⟨l, hl, hp⟩ := ih (fun j hj => h j (by omega))
  obtain ⟨a, ha⟩ := h n (by omega)
  refine ⟨l ++ [a], by simp [hl], fun j hj => ?_⟩
  rcases Nat.lt_or_ge j l.length with h1 | h1
  ·rw [List.getElem_append_left h1]; exact hp j h1
  ·have : j = l.length := by rw [List.length_append, List.length_singleton] at hj; omega
   subst this
   simp only [List.getElem_append_right (Nat.le_refl _), Nat.sub_self, List.getElem_cons_zero]
   rw [hl]; exact ha
theorem flat_len {α : Type} {cnt : α → Nat} : ∀ (xs : List α) (ass : List Pl), ass.length = xs.length → (∀ j (h : j < ass.length) (h' : j < xs.length), ass[j].length = cnt xs[j]) → ass.flatten.length = sumOf cnt xs
 | [], ass, hl, _ => by
  have : ass = [] := List.eq_nil_of_length_eq_zero hl
  subst this; rfl
 | x :: xs, [], hl, _ => by simp at hl
 | x :: xs, al :: ass, hl, h => by
  rw [List.flatten_cons, List.length_append, flat_len xs ass (by simpa using hl) (fun j h1 h2 => h (j + 1) (by simpa using h1) (by simpa using h2))]
  have := h 0 (by simp) (by simp)
  simp only [List.getElem_cons_zero] at this
  rw [this, sumOf]
theorem row_of_R {α : Type} {d : Kd α} {E : El} {cnt : α → Nat} (hE : Mk d E cnt) {e base : Nat} {ok : Nat → Prop} {xs : List α} (hm : xs.length ≤ 9223372036854775807) (h : d.R e W base ok v xs) :
  ∃ al, Row d.sz E W v al ∧ al.length = sumOf cnt xs ∧ ∀ p ∈ al, ok p.1 := by
 obtain ⟨hok, inner, ho, hr⟩ := h
 rcases ho.2 with ⟨rfl, h0⟩ | ⟨g, cap, cur, rfl, hgb, hh, hnc, _, hcs, htk⟩
 ·have hx : xs = [] := List.eq_nil_of_length_eq_zero h0
  subst hx
  exact ⟨[], ⟨none, 0, 0, rfl, Nat.zero_le _, [], rfl, rfl, fun h => absurd h (Nat.lt_irrefl 0)⟩, rfl, fun p hp => absurd hp List.not_mem_nil⟩
 ·have hil : inner.length = xs.length * d.sz := ho.1
  have hcell : ∀ j u, inner[j]? = some u → W.cell? (pa g j) = some u ∧ W.frozen? (pa g j) = false := by
   intro j u hu
   have hlt : j < inner.length := (List.getElem?_eq_some_iff.1 hu).1
   rw [← htk] at hu
   rw [List.getElem?_take] at hu
   split at hu
   ·refine ⟨?_, ?_⟩
    ·unfold World.cell?; simp only [pa, hh]; simpa using hu
    ·unfold World.frozen?; simp [pa, hh]
   ·cases hu
  have hel : ∀ j, j < xs.length → ∃ al : Pl, E W g (j * d.sz) al ∧ (∃ h : j < xs.length, al.length = cnt xs[j]) ∧ ∀ p ∈ al, ok p.1 := by
   intro j hj
   have hM := hr.2 j _ (List.getElem?_eq_getElem hj)
   obtain ⟨al, ha, hlen, hp⟩ := hE hM (g := g) (o := j * d.sz) (fun i u hu => by
    rw [List.getElem?_take] at hu
    split at hu
    ·rw [List.getElem?_drop] at hu
     exact hcell _ _ hu
    ·cases hu)
   refine ⟨al, ha, ⟨hj, hlen⟩, fun p hpp => ?_⟩
   rcases hp p hpp with h1 | h1
   ·rw [h1]; exact hok g (by simp [Value.ownBlock])
   ·exact h1.1
  obtain ⟨ass, hal, hap⟩ := pick hel
  refine ⟨ass.flatten, ⟨_, _, cap, rfl, hm, ass, hal, rfl, fun _ => ⟨g, rfl, fun j hj => (hap j hj).1⟩⟩, flat_len xs ass hal (fun j h1 h2 => (hap j h1).2.1.2), fun p hp => ?_⟩
  obtain ⟨al, hm, hp⟩ := List.mem_flatten.1 hp
  obtain ⟨j, hj, rfl⟩ := List.getElem_of_mem hm
  exact (hap j hj).2.2 p hp
theorem mk_int : Mk (Kd.int .i64) eInt (fun _ => 1) := by
 intro W base ok x cs g o hM hc
 have hcs : cs = [.int .i64 x] := (Kd.int .i64).K_of_M hM
 subst hcs
 have := hc 0 _ rfl
 exact ⟨[(g, o)], ⟨⟨this.2, x, this.1⟩, rfl⟩, rfl, fun p hp => .inl (by rw [List.mem_singleton.1 hp])⟩
theorem mk_slice {α : Type} {d : Kd α} {E : El} {cnt : α → Nat} (hE : Mk d E cnt) (e : Nat) : Mk (Kd.slice e d) (eRow (Row d.sz E)) (sumOf cnt) := by
 rintro W base ok xs cs g o ⟨v, rfl, hR⟩ hc
 have h2 := Kd.R_reads hR
 obtain ⟨A, c, rfl, hl, hr⟩ := h2
 obtain ⟨al, ha, hlen, hp⟩ := row_of_R hE hr.2.1 hR
 have := hc 0 _ rfl
 exact ⟨al, ⟨_, this.1, this.2, fun ⟨x, hx⟩ => (by cases hx), ha⟩, hlen, fun p hp' => .inr (hp p hp')⟩
end Go.Proofs.Ytjglknoebaojgaa.Lay

namespace Go.Proofs.Ytjglknoebaojgaa.LawM
open Go.RowKit Go.Proofs.YtjglknoebaojgaaW.PrintWords Go.Proofs.Ytjglknoebaojgaa.Lay
set_option linter.unusedVariables false
set_option linter.unusedSimpArgs false
variable {α β : Type} {d : Kd α} {d' : Kd β} {w W W1 : World} {lo hi lo' hi' base e : Nat} {A : Option Addr} {xs : List α} {v : Value} {pls : Pl} {k : Int} {ok : Nat → Prop}

/-- A row that is read, in the blocks from lo to hi. -/
abbrev FI {α : Type} (d : Kd α) (W : World) (lo hi : Nat) (A : Option Addr) (xs : List α) : Prop := Kd.F d W (fun b => lo ≤ b ∧ b < hi) A xs.length xs
theorem FI.below (h : FI d W lo hi A xs) (hb : Below W.heap.size W W1) : FI d W1 lo hi A xs := Kd.F_below h hb
theorem FI.wr (h : FI d W lo hi A xs) (hw : Wr W W1 pls k) (hp : ∀ p ∈ pls, lo' ≤ p.1 ∧ p.1 < hi') (hd : hi ≤ lo' ∨ hi' ≤ lo) : FI d W1 lo hi A xs :=
 Kd.F_kept h hw.kept (fun b hb ⟨p, hp', e⟩ => by have := hp p hp'; omega)
theorem FI.kept (h : FI d W lo hi A xs) (hk : Kept W W1 (fun b => lo' ≤ b ∧ b < hi')) (hd : hi ≤ lo' ∨ hi' ≤ lo) : FI d W1 lo hi A xs :=
 Kd.F_kept h hk (fun b hb hb' => by omega)
theorem FI.now (h : FI d W lo hi A xs) : d.C W A xs.length xs := Kd.F_now h
theorem open_R (h : d.R e W base ok v xs) : ∃ A c, v = .slice A xs.length c ∧ xs.length ≤ c ∧ xs.length ≤ 9223372036854775807 ∧ FI d W base W.heap.size A xs := by
 obtain ⟨A, c, rfl, hl, hc⟩ := Kd.R_reads h
 exact ⟨A, c, rfl, hl, hc.2.1, Kd.F_mono (Kd.R_F (Kd.R_bound h)) (fun k hk => ⟨hk.2.1, hk.2.2.1⟩)⟩
theorem span_R (h : d.R e W base ok v xs) : d.R e W base (fun b => base ≤ b ∧ b < W.heap.size) v xs := Kd.R_mono (Kd.R_bound h) (fun k hk => ⟨hk.2.1, hk.2.2.1⟩)
theorem R_wr (h : d.R e W base (fun b => lo ≤ b ∧ b < hi) v xs) (hw : Wr W W1 pls k) (hp : ∀ p ∈ pls, lo' ≤ p.1 ∧ p.1 < hi') (hd : hi ≤ lo' ∨ hi' ≤ lo) : d.R e W1 base (fun b => lo ≤ b ∧ b < hi) v xs :=
 Kd.R_kept h hw.kept (fun b hb ⟨p, hp', e⟩ => by have := hp p hp'; omega)
theorem below_wr (hb : Below w.heap.size w W) (hw : Wr W W1 pls k) (hp : ∀ p ∈ pls, lo' ≤ p.1 ∧ p.1 < hi') (hl : w.heap.size ≤ lo') : Below w.heap.size w W1 :=
 hb.trans ⟨hw.same.1, hw.same.2.1, hw.same.2.2, hw.hd.size, fun b hb' => hw.kept.2 b (Nat.lt_of_lt_of_le hb' hb.size) (fun ⟨p, hp', e⟩ => by have := hp p hp'; omega)⟩
/-- The same, in the span that is known. -/
theorem places_in {E : El} {cnt : α → Nat} {sz : Nat} (hE : Mk d E cnt) (hs : d.sz = sz) (h : d.R e W base (fun b => lo ≤ b ∧ b < hi) v xs) : ∃ pls, Row sz E W v pls ∧ pls.length = sumOf cnt xs ∧ ∀ p ∈ pls, lo ≤ p.1 ∧ p.1 < hi := by
 subst hs
 exact row_of_R hE (Kd.R_reads h).choose_spec.choose_spec.2.2.2.1 h
/-- A block that a mark doesn't write. -/
theorem blk_wr {g : Nat} {o : Obj} (h : W.heap[g]? = some o) (hw : Wr W W1 pls k) (hp : ∀ p ∈ pls, lo' ≤ p.1 ∧ p.1 < hi') (hd : g < lo' ∨ hi' ≤ g) : W1.heap[g]? = some o :=
 (hw.kept.2 g (blk_lt h) (fun ⟨p, hp', e⟩ => by have := hp p hp'; omega)).trans h
theorem row_below {sz : Nat} {E : El} (hE : St E) (h : Row sz E W v pls) (hb : Below W.heap.size W W1) : Row sz E W1 v pls := st_row hE _ _ _ _ (Hd.below hb) h
theorem row_wr {sz : Nat} {E : El} {qs : Pl} (hE : St E) (h : Row sz E W v pls) (hw : Wr W W1 qs k) : Row sz E W1 v pls := st_row hE _ _ _ _ hw.hd h
theorem mk_pair {E1 E2 : El} {c1 : α → Nat} {c2 : β → Nat} (h1 : Mk d E1 c1) (h2 : Mk d' E2 c2) (hs : d.sz = 1) : Mk (Kd.pair d d') (ePair E1 E2) (fun x => c1 x.1 + c2 x.2) := by
 rintro W base ok x cs g o ⟨a, b, rfl, ha, hb⟩ hc
 have hl : a.length = 1 := (d.K_len (d.K_of_M ha)).trans hs
 obtain ⟨p1, q1, l1, m1⟩ := h1 ha (g := g) (o := o) (fun i u hu => hc i u (by
  rw [List.getElem?_append_left (List.getElem?_eq_some_iff.1 hu).1]; exact hu))
 obtain ⟨p2, q2, l2, m2⟩ := h2 hb (g := g) (o := o + 1) (fun i u hu => by
  have := hc (1 + i) u (by rw [List.getElem?_append_right (by omega), hl, Nat.add_sub_cancel_left]; exact hu)
  rwa [← Nat.add_assoc] at this)
 refine ⟨p1 ++ p2, ⟨p1, p2, q1, q2, rfl⟩, by rw [List.length_append, l1, l2], fun p hp => ?_⟩
 rcases List.mem_append.1 hp with hp | hp
 ·exact m1 p hp
 ·exact m2 p hp
theorem mk_iso {E : El} {cnt : α → Nat} (f : β → α) (h : Mk d E cnt) : Mk (Kd.iso d f) E (fun x => cnt (f x)) := fun hM hc => h hM hc
section
variable {w0 : World} {g : Nat} {o : Obj} {sz : Nat} {E : El} {qs : Pl}
theorem qFb (h : Aside0 (FI d W lo hi A xs)) (hb : Below W.heap.size W W1) : Aside0 (FI d W1 lo hi A xs) := ⟨FI.below h.out hb⟩
theorem qRb (h : Aside0 (d.R e W base ok v xs)) (hb : Below W.heap.size W W1) : Aside0 (d.R e W1 base ok v xs) := ⟨Kd.R_below h.out hb⟩
theorem qDb (h : Aside0 (Kd.S d e W base ok v xs)) (hb : Below W.heap.size W W1) : Aside0 (Kd.S d e W1 base ok v xs) := ⟨Kd.S_below h.out hb⟩
theorem qBb (h : Aside0 (W.heap[g]? = some o)) (hb : Below W.heap.size W W1) : Aside0 (W1.heap[g]? = some o) := ⟨blk_below h.out hb⟩
theorem qGb (hE : St E) (h : Aside0 (Row sz E W v pls)) (hb : Below W.heap.size W W1) : Aside0 (Row sz E W1 v pls) := ⟨row_below hE h.out hb⟩
theorem qHb (h : Aside0 (Below w0.heap.size w0 W)) (hb : Below W.heap.size W W1) : Aside0 (Below w0.heap.size w0 W1) := ⟨below_then h.out h.out.size hb⟩
theorem qFw (h : Aside0 (FI d W lo hi A xs)) (hw : Wr W W1 pls k) (hp : ∀ p ∈ pls, lo' ≤ p.1 ∧ p.1 < hi') (hd : hi ≤ lo' ∨ hi' ≤ lo) : Aside0 (FI d W1 lo hi A xs) := ⟨FI.wr h.out hw hp hd⟩
theorem qRw (h : Aside0 (d.R e W base (fun b => lo ≤ b ∧ b < hi) v xs)) (hw : Wr W W1 pls k) (hp : ∀ p ∈ pls, lo' ≤ p.1 ∧ p.1 < hi') (hd : hi ≤ lo' ∨ hi' ≤ lo) : Aside0 (d.R e W1 base (fun b => lo ≤ b ∧ b < hi) v xs) := ⟨R_wr h.out hw hp hd⟩
theorem S_wr (h : Kd.S d e W base (fun b => lo ≤ b ∧ b < hi) v xs) (hw : Wr W W1 pls k) (hp : ∀ p ∈ pls, lo' ≤ p.1 ∧ p.1 < hi') (hd : hi ≤ lo' ∨ hi' ≤ lo) : Kd.S d e W1 base (fun b => lo ≤ b ∧ b < hi) v xs :=
 Kd.S_step h (fun b hb hlt => hw.kept.2 b hlt (fun ⟨p, hp', e⟩ => by have := hp p hp'; omega))
theorem qDw (h : Aside0 (Kd.S d e W base (fun b => lo ≤ b ∧ b < hi) v xs)) (hw : Wr W W1 pls k) (hp : ∀ p ∈ pls, lo' ≤ p.1 ∧ p.1 < hi') (hd : hi ≤ lo' ∨ hi' ≤ lo) : Aside0 (Kd.S d e W1 base (fun b => lo ≤ b ∧ b < hi) v xs) := ⟨S_wr h.out hw hp hd⟩
theorem qBw (h : Aside0 (W.heap[g]? = some o)) (hw : Wr W W1 pls k) (hp : ∀ p ∈ pls, lo' ≤ p.1 ∧ p.1 < hi') (hd : g < lo' ∨ hi' ≤ g) : Aside0 (W1.heap[g]? = some o) := ⟨blk_wr h.out hw hp hd⟩
theorem qGw (hE : St E) (h : Aside0 (Row sz E W v pls)) (hw : Wr W W1 qs k) : Aside0 (Row sz E W1 v pls) := ⟨row_wr hE h.out hw⟩
theorem qHw (hb : Aside0 (Below w0.heap.size w0 W)) (hw : Wr W W1 pls k) (hp : ∀ p ∈ pls, lo' ≤ p.1 ∧ p.1 < hi') (hl : w0.heap.size ≤ lo') : Aside0 (Below w0.heap.size w0 W1) := ⟨below_wr hb.out hw hp hl⟩
theorem sg0 (W : World) (g : Nat) : W.grownBy W (some g) := ⟨rfl, rfl, rfl, Nat.le_refl _, fun _ _ _ => rfl⟩
theorem sg (h : W.grownBy W1 (some g)) (j : Nat) (u : Value) : W.grownBy (W1.setCell ⟨g, j, none⟩ u) (some g) :=
 ⟨h.os, h.tape, h.output, by simpa [World.setCell] using h.size, fun k hk hne => (Below.heap_setCell W1 ⟨g, j, none⟩ u k (fun e => hne (by rw [e]))).trans (h.block k hk hne)⟩
theorem qFs (h : Aside0 (FI d W lo hi A xs)) (hg : W.grownBy W1 (some g)) (hd : g < lo ∨ hi ≤ g) : Aside0 (FI d W1 lo hi A xs) :=
 ⟨Kd.F_kept (S := fun b => b = g) h.out ⟨hg.size, fun b hb hne => hg.block b hb (fun e => hne (Option.some.inj e))⟩ (fun b hb e => by subst e; omega)⟩
theorem qRs (h : Aside0 (d.R e W base (fun b => lo ≤ b ∧ b < hi) v xs)) (hg : W.grownBy W1 (some g)) (hd : g < lo ∨ hi ≤ g) : Aside0 (d.R e W1 base (fun b => lo ≤ b ∧ b < hi) v xs) :=
 ⟨Kd.R_grown h.out hg (fun b hb he => by have := Option.some.inj he; omega)⟩
theorem qDs (h : Aside0 (Kd.S d e W base (fun b => lo ≤ b ∧ b < hi) v xs)) (hg : W.grownBy W1 (some g)) (hd : g < lo ∨ hi ≤ g) : Aside0 (Kd.S d e W1 base (fun b => lo ≤ b ∧ b < hi) v xs) :=
 ⟨Kd.S_grown h.out hg (fun b hb he => by have := Option.some.inj he; omega)⟩
theorem qBs {g' : Nat} (h : Aside0 (W.heap[g']? = some o)) (hg : W.grownBy W1 (some g)) (hne : g' ≠ g) : Aside0 (W1.heap[g']? = some o) :=
 ⟨(hg.block g' (blk_lt h.out) (fun e => hne (Option.some.inj e))).trans h.out⟩
theorem qHs (h : Aside0 (Below w0.heap.size w0 W)) (hg : W.grownBy W1 (some g)) (hl : w0.heap.size ≤ g) : Aside0 (Below w0.heap.size w0 W1) :=
 ⟨pw_below_grown h.out (some g) h.out.size hg (fun k hk => by cases hk; exact hl)⟩
theorem qZ {P Q : Prop} (h : Aside0 P) (q : Q) : Aside0 (P ∧ Q) := ⟨h.out, q⟩
end
end Go.Proofs.Ytjglknoebaojgaa.LawM

namespace Go.Proofs.Ytjglknoebaojgaa.PSort
open Go.RowKit Go.Proofs.YtjglknoebaojgaaW.PrintWords Go.Shelf
set_option linter.unusedVariables false
/-- The world has grown: blocks behind it, draws. -/
def Grw (w w' : World) : Prop := ∃ q os, w' = Sort.grow (w.drewN q) os
theorem Grw.refl (w : World) : Grw w w := ⟨0, #[], by rw [Sort.grow_empty]; rfl⟩
theorem Grw.alloc {w w1 : World} (h : Grw w w1) (o : Obj) : Grw w (w1.alloc o) := by
 obtain ⟨q, os, rfl⟩ := h
 exact ⟨q, os ++ #[o], by rw [Sort.alloc_eq_grow, Sort.grow_grow]⟩
theorem Grw.drewN {w w1 : World} (h : Grw w w1) (n : Nat) : Grw w (w1.drewN n) := by
 obtain ⟨q, os, rfl⟩ := h
 exact ⟨q + n, os, by show Sort.grow ((w.drewN q).drewN n) os = _; rw [World.drewN_drewN]⟩
theorem Grw.drew {w w1 : World} (h : Grw w w1) : Grw w w1.drew := h.drewN 1
theorem Grw.drawn {w w1 w2 : World} (h : Grw w w1) (k : Drawn0 w1 w2) : Grw w w2 := by
 obtain ⟨⟨n, rfl⟩⟩ := k
 exact h.drewN n
theorem Grw.below {w w1 : World} (h : Grw w w1) : Below w.heap.size w w1 := by
 obtain ⟨q, os, rfl⟩ := h
 refine ⟨rfl, rfl, rfl, by simp [Sort.grow, World.drewN], fun i hi => ?_⟩
 show (w.heap ++ os)[i]? = w.heap[i]?
 rw [Array.getElem?_append_left hi]
section
variable {P : Program} {ops : Array Oper} {rest : List Oper} {o : Oper} {a : Act} {Q : Exit → Act → World → Prop}
/-- A box is made: the world is told to have grown, too. -/
theorem box_grw {W w : World} (HG : Grw w W) (hgd : o.guard = none) {N : Tmp} (_hd : o.dst = some N) {cs : Array Value} {t : TypeId}
  (hrun : (execOp a.eval o).run P W = .ok (.value (.pointer (some ⟨W.heap.size, 0, none⟩))) (W.alloc (.cells cs t (0, 0))))
  (h : ∀ g, g = W.heap.size → ∀ w1, w1.heap[g]? = some (.cells cs t (0, 0)) → Below W.heap.size W w1 → Grw w w1 → wpList P ops Q rest (a.put o.dst (.pointer (some ⟨g, 0, none⟩))) w1) : wpList P ops Q (o :: rest) a W :=
 Kd.event_run hgd hrun (h _ rfl _ (blk_new W _) (below_alloc (Below.refl _ _) _) (HG.alloc _))
end
theorem grow_mapBlock {w : World} {blk m : Nat} {e : TypeId} {cur : Array Value} {f : Array Value → Array Value} {os : Array Obj} (hb : w.heap[blk]? = some (.cells cur e (0, 0))) :
  (∀ b, b < w.heap.size → b ≠ blk → (Sort.grow (Sort.mapBlock (Sort.ahead w m) blk f) os).heap[b]? = w.heap[b]?) ∧ (Sort.grow (Sort.mapBlock (Sort.ahead w m) blk f) os).heap[blk]? = some (.cells (f cur) e (0, 0)) := by
 have hlt : blk < w.heap.size := (Array.getElem?_eq_some_iff.1 hb).1
 have hh : (Sort.grow (Sort.mapBlock (Sort.ahead w m) blk f) os).heap = w.heap.modify blk (Sort.onCells f) ++ os := rfl
 refine ⟨fun b hbl hne => ?_, ?_⟩
 ·rw [hh, Array.getElem?_append_left (by simpa using hbl), Array.getElem?_modify, if_neg (fun h => hne h.symm)]
 ·rw [hh, Array.getElem?_append_left (by simpa using hlt), Array.getElem?_modify, if_pos rfl, hb]
  rfl
theorem inj_of_nodup {β : Type} {l : List β} (h : l.Nodup) {i j : Nat} (hi : i < l.length) (hj : j < l.length) (e : l[i] = l[j]) : i = j := by
 rcases Nat.lt_trichotomy i j with h1 | h1 | h1
 ·exact absurd e (List.pairwise_iff_getElem.1 h i j hi hj h1)
 ·exact h1
 ·exact absurd e.symm (List.pairwise_iff_getElem.1 h j i hj hi h1)
theorem ext_all {β : Type} (a : Array β) (n : Nat) (h : n = a.size) : a.extract 0 n = a := by subst h; simp
theorem ofFn_nodup (n : Nat) : (List.ofFn (fun i : Fin n => i)).Nodup := by
 refine List.pairwise_iff_getElem.2 fun i j hi hj hij e => ?_
 simp only [List.getElem_ofFn] at e
 have := congrArg Fin.val e
 simp at this
 omega
theorem ofFn_map {β : Type} (xs : List β) : (List.ofFn (fun i : Fin xs.length => i)).map (fun i => xs[i.val]) = xs := by
 apply List.ext_getElem
 ·simp
 ·intro i h1 h2
  simp
section
variable {α : Type} {d : Kd α} {e : Nat} {w : World} {base : Nat} {ok : Nat → Prop} {v : Value} {xs : List α}
/-- The pieces of a row, one an element. -/
structure Pcs (d : Kd α) (e : Nat) (w : World) (base : Nat) (ok : Nat → Prop) (xs : List α) (g cap : Nat) (cur : Array Value) (f : Nat → Nat) (pc : Nat → List Value) : Prop where
 gb : base ≤ g
 og : ok g
 hh : w.heap[g]? = some (.cells cur e (0, 0))
 nc : xs.length ≤ cap
 cm : cap ≤ maxLen
 cs : cur.size = cap * d.sz
 at_ : ∀ t, t < xs.length * d.sz → cur[t]? = (pc (t / d.sz))[t % d.sz]?
 M : ∀ i (h : i < xs.length), d.M w base (fun b => (ok b ∧ b ≠ g) ∧ f b = i) xs[i] (pc i)
theorem pieces (hsz : 0 < d.sz) (h : Kd.S d e w base ok v xs) (hn : 0 < xs.length) : ∃ g cap cur f pc, v = .slice (some ⟨g, 0, none⟩) xs.length cap ∧ Pcs d e w base ok xs g cap cur f pc := by
 obtain ⟨f, h0, inner, ho, hr⟩ := h
 rw [List.length_zipIdx] at ho
 rcases ho.2 with ⟨_, h1⟩ | ⟨g, cap, cur, rfl, hgb, hh, hnc, hcm, hcs, htk⟩
 ·omega
 ·refine ⟨g, cap, cur, f, fun i => (inner.drop (i * d.sz)).take d.sz, rfl, ⟨hgb, h0 g (by simp [Value.ownBlock]), hh, hnc, hcm, hcs, fun t ht => ?_, fun i hi => ?_⟩⟩
  ·have hq : t / d.sz * d.sz + t % d.sz = t := by rw [Nat.mul_comm]; exact Nat.div_add_mod t d.sz
   rw [List.getElem?_take, if_pos (Nat.mod_lt _ hsz), List.getElem?_drop, hq, ← htk, List.getElem?_take, if_pos (show t < xs.length * (Kd.tag f d).sz from ht)]
   simp
  ·have hM := hr.2 i (xs[i], i) (Kd.zip_at (List.getElem?_eq_getElem hi))
   exact d.M_mono (fun k hk => ⟨⟨hk.1.1, fun e => hk.1.2 (by simp [Value.ownBlock, e])⟩, hk.2⟩) hM
/-- Pieces laid again make a row. -/
theorem row_of {w' : World} {g cap : Nat} {cur' : Array Value} {f' : Nat → Nat} {pc' : Nat → List Value} {ys : List α} (hsz : 0 < d.sz) (hp : Pcs d e w' base ok ys g cap cur' f' pc') : Kd.S d e w' base ok (.slice (some ⟨g, 0, none⟩) ys.length cap) ys := by
 have hlen : ∀ i (h : i < ys.length), (pc' i).length = d.sz := fun i h => d.K_len (d.K_of_M (hp.M i h))
 have hcl : ys.length * d.sz ≤ cur'.size := by rw [hp.cs]; exact Nat.mul_le_mul_right _ hp.nc
 have htake : (cur'.toList.take (ys.length * d.sz)).length = ys.length * d.sz := by rw [List.length_take]; simp; omega
 have hget : ∀ i (h : i < ys.length), ((cur'.toList.take (ys.length * d.sz)).drop (i * d.sz)).take d.sz = pc' i := by
  intro i hi
  have hfit : i * d.sz + d.sz ≤ ys.length * d.sz := by rw [← Nat.succ_mul]; exact Nat.mul_le_mul_right _ hi
  apply List.ext_getElem?
  intro t
  rw [List.getElem?_take]
  by_cases ht : t < d.sz
  ·rw [if_pos ht, List.getElem?_drop, List.getElem?_take, if_pos (by omega)]
   have h2 := hp.at_ (i * d.sz + t) (by omega)
   have e1 : (i * d.sz + t) / d.sz = i := by rw [Nat.mul_comm, Nat.mul_add_div hsz, Nat.div_eq_of_lt ht, Nat.add_zero]
   have e2 : (i * d.sz + t) % d.sz = t := by rw [Nat.mul_comm, Nat.mul_add_mod, Nat.mod_eq_of_lt ht]
   rw [e1, e2] at h2
   rw [← h2]; simp
  ·rw [if_neg ht]
   symm
   rw [List.getElem?_eq_none]
   rw [hlen i hi]; omega
 refine ⟨f', fun k hk => ?_, cur'.toList.take (ys.length * d.sz), ?_, ?_, fun j p hj => ?_⟩
 ·have : g = k := by simpa [Value.ownBlock] using hk
  rw [← this]; exact hp.og
 ·rw [List.length_zipIdx]
  exact ⟨htake, .inr ⟨g, cap, cur', rfl, hp.gb, hp.hh, hp.nc, hp.cm, hp.cs, rfl⟩⟩
 ·rw [List.length_zipIdx]; exact htake
 ·rw [List.getElem?_zipIdx, Nat.zero_add] at hj
  obtain ⟨x, hx, rfl⟩ := Option.map_eq_some_iff.1 hj
  obtain ⟨hjl, rfl⟩ := List.getElem?_eq_some_iff.1 hx
  show d.M w' base _ ys[j] (((cur'.toList.take (ys.length * d.sz)).drop (j * d.sz)).take d.sz)
  rw [hget j hjl]
  exact d.M_mono (fun k hk => ⟨⟨hk.1.1, fun e => hk.1.2 (by simpa [Value.ownBlock] using e)⟩, hk.2⟩) (hp.M j hjl)
/-- The elements stay where block g alone is turned. -/
theorem Pcs.move {g cap : Nat} {cur : Array Value} {f : Nat → Nat} {pc : Nat → List Value} {W : World} (hp : Pcs d e w base ok xs g cap cur f pc) (hW : ∀ b, b < w.heap.size → b ≠ g → W.heap[b]? = w.heap[b]?) (i : Nat) (h : i < xs.length) :
  d.M W base (fun b => (ok b ∧ b ≠ g) ∧ f b = i) xs[i] (pc i) :=
 d.M_mono (fun k hk => hk.1) (d.M_move (fun k hk => hW k hk.2.2.1 hk.1.1.2) (d.M_bound (hp.M i h)))
/-- Behind a sort. -/
theorem Pcs.sorted {g cap : Nat} {cur : Array Value} {f : Nat → Nat} {pc : Nat → List Value} {w' : World} (hsz : 0 < d.sz) (hp : Pcs d e w base ok xs g cap cur f pc) (d' : List (Fin xs.length)) (hl : d'.length = xs.length) (hperm : d'.Perm (List.ofFn fun i => i))
  (hfar : ∀ b, b < w.heap.size → b ≠ g → w'.heap[b]? = w.heap[b]?) (cur' : Array Value) (hh : w'.heap[g]? = some (.cells cur' e (0, 0))) (hcs : cur'.size = cur.size) (hat : ∀ t, t < xs.length * d.sz → ∀ (h : t / d.sz < d'.length), cur'[t]? = (pc (d'[t / d.sz]).val)[t % d.sz]?) :
  Kd.S d e w' base ok (.slice (some ⟨g, 0, none⟩) xs.length cap) (d'.map fun i => xs[i.val]) := by
 have hnd : (d'.map Fin.val).Nodup := by
  have h1 := hperm.symm.nodup (ofFn_nodup _)
  refine List.pairwise_iff_getElem.2 fun i j hi hj hij he => ?_
  rw [List.length_map] at hi hj
  rw [List.getElem_map, List.getElem_map] at he
  exact absurd (Fin.ext he) (List.pairwise_iff_getElem.1 h1 i j hi hj hij)
 have hly : (d'.map fun i => xs[i.val]).length = xs.length := by rw [List.length_map, hl]
 have hrow := row_of (d := d) (e := e) (w' := w') (base := base) (ok := ok) (g := g) (cap := cap) (cur' := cur') (f' := fun b => (d'.map Fin.val).idxOf (f b)) (pc' := fun j => if h : j < d'.length then pc (d'[j]).val else []) (ys := d'.map fun i => xs[i.val]) hsz
  ⟨hp.gb, hp.og, hh, by rw [hly]; exact hp.nc, hp.cm, hcs.trans hp.cs, fun t ht => ?_, fun j hj => ?_⟩
 ·rwa [hly] at hrow
 ·rw [hly] at ht
  have hlt : t / d.sz < d'.length := by rw [hl, Nat.div_lt_iff_lt_mul hsz]; exact ht
  rw [dif_pos hlt]
  exact hat t ht hlt
 ·rw [List.length_map] at hj
  show d.M w' base _ (d'.map fun i => xs[i.val])[j] (if h : j < d'.length then pc (d'[j]).val else [])
  rw [dif_pos hj, List.getElem_map]
  refine d.M_mono (fun b hb => ⟨hb.1, ?_⟩) (hp.move hfar (d'[j]).val (d'[j]).isLt)
  have hm : f b ∈ d'.map Fin.val := by
   rw [hb.2]; exact List.mem_map.2 ⟨d'[j], List.getElem_mem hj, rfl⟩
  have hil := List.idxOf_lt_length_of_mem hm
  refine inj_of_nodup hnd hil (by rw [List.length_map]; exact hj) ?_
  rw [List.getElem_idxOf hil, List.getElem_map, hb.2]
/-- What stays to be said once the shelf's contract has told the world. -/
theorem sorted_end {P : Program} {fn : Nat} {g cap : Nat} {cur : Array Value} {f : Nat → Nat} {pc : Nat → List Value} (hsz : 0 < d.sz) (hp : Pcs d e w base ok xs g cap cur f pc) (cmp : α → α → Int) {w' : World} {m : Nat} {os : Array Obj} {d' : Array (Fin xs.length)} {F : Array Value} [Inhabited (Fin xs.length)]
  (hperm : Sort.PermIn 0 xs.length (Array.ofFn fun i : Fin xs.length => i) d') (hs : Sort.SortedIn (ltOf fun i j : Fin xs.length => cmp xs[i.val] xs[j.val]) 0 xs.length d') (hF : F.size = xs.length * d.sz) (hFat : ∀ t, t < xs.length * d.sz → ∀ h : t / d.sz < d'.size, F[t]? = (pc (d'[t / d.sz]).val)[t % d.sz]?)
  (hw : w' = Sort.grow (Sort.mapBlock (Sort.ahead w m) g (Sort.putCells id 0 F)) os) :
  ∃ ys, ys.Perm xs ∧ ys.Pairwise (fun a b => ¬ cmp b a < 0) ∧ Kd.S d e w' base ok (.slice (some ⟨g, 0, none⟩) xs.length cap) ys ∧ w.grownBy w' (Value.ownBlock (.slice (some ⟨g, 0, none⟩) xs.length cap)) := by
 have hsize : d'.size = xs.length := by rw [hperm.1]; simp
 have hp' : d'.toList.Perm (List.ofFn fun i : Fin xs.length => i) := by
  have := hperm.2.2
  rw [ext_all d' _ hsize.symm, ext_all (Array.ofFn fun i : Fin xs.length => i) _ (by simp)] at this
  simpa using this
 obtain ⟨h1, h2⟩ := grow_mapBlock (m := m) (f := Sort.putCells id 0 F) (os := os) hp.hh
 have hcl : xs.length * d.sz ≤ cur.size := by rw [hp.cs]; exact Nat.mul_le_mul_right _ hp.nc
 subst hw
 refine ⟨d'.toList.map fun i => xs[i.val], ?_, ?_, ?_, ?_⟩
 ·have := hp'.map fun i : Fin xs.length => xs[i.val]
  rwa [ofFn_map] at this
 ·refine List.pairwise_iff_getElem.2 fun i j hi hj hij hlt => ?_
  rw [List.length_map, Array.length_toList] at hi hj
  have h3 := hs i j (Nat.zero_le _) hij (by omega)
  rw [getElem!_pos d' j hj, getElem!_pos d' i hi] at h3
  rw [List.getElem_map, List.getElem_map] at hlt
  unfold ltOf at h3
  exact absurd hlt (of_decide_eq_false h3)
 ·refine hp.sorted hsz d'.toList (by simpa using hsize) hp' h1 _ h2 (by simp [Sort.putCells]) (fun t ht hd => ?_)
  rw [Array.length_toList] at hd
  have hlt : t < F.size := by rw [hF]; exact ht
  simp only [Sort.putCells, Array.getElem?_mapIdx]
  rw [Array.getElem?_eq_getElem (show t < cur.size by omega)]
  simp only [Option.map_some, id]
  rw [if_pos ⟨Nat.zero_le _, by omega⟩, Nat.sub_zero, getElem!_pos F t hlt]
  have := hFat t ht hd
  rw [Array.getElem?_eq_getElem hlt] at this
  rw [this]; simp
 ·refine ⟨rfl, rfl, rfl, ?_, fun b hb hne => ?_⟩
  ·show w.heap.size ≤ (w.heap.modify g _ ++ os).size
   simp
  ·exact h1 b hb (fun e => hne (by simp [Value.ownBlock, e]))
/-- slices.SortFunc at structs. -/
theorem sort_structs {P : Program} {ρ : Ren} (L : SlLaysF0.n6 P ρ) (hsz : 0 < d.sz) (aE : ∀ w, (isAgg (ρ.t 24)).run P w = .ok true w) (zE : ∀ w, (Go.sizeOf (ρ.t 24)).run P w = .ok d.sz w) (cmp : α → α → Int) (hO : Sort.SWO (ltOf cmp)) (gf : Nat)
  (eg : ∀ args w, (callFunc gf args).run P w = .ok (.enter gf args) w)
  (hcmp : ∀ (W : World) x y cx cy, x ∈ xs → y ∈ xs → d.K W x cx → d.K W y cy → Calls P gf #[.agg cx.toArray, .agg cy.toArray] W fun e' w' => e' = .returned (.int .i64 (cmp x y)) ∧ Grw W w')
  (h : Kd.S d e w base ok v xs) (hlen : xs.length < 4611686018427387904) :
  Calls P (ρ.f 6) #[v, .func (.func gf) #[] #[]] w fun e' w' => e' = .returned (.tuple #[]) ∧ ∃ ys, ys.Perm xs ∧ ys.Pairwise (fun a b => ¬ cmp b a < 0) ∧ Kd.S d e w' base ok v ys ∧ w.grownBy w' v.ownBlock := by
 rcases Nat.eq_zero_or_pos xs.length with h0 | hn
 ·obtain ⟨A, c, rfl⟩ := Kd.S_slice h
  rw [h0]
  refine (AnyF.slices_SortFunc_none L A c (.func (.func gf) #[] #[]) w).mono ?_
  rintro e' w' ⟨rfl, rfl⟩
  have hx : xs = [] := List.eq_nil_of_length_eq_zero h0
  subst hx
  exact ⟨rfl, [], List.Perm.refl _, List.Pairwise.nil, h, ⟨rfl, rfl, rfl, Nat.le_refl _, fun _ _ _ => rfl⟩⟩
 ·obtain ⟨g, cap, cur, f, pc, rfl, hp⟩ := pieces hsz h hn
  haveI : Inhabited (Fin xs.length) := ⟨⟨0, hn⟩⟩
  have hpl : ∀ i : Fin xs.length, (pc i.val).length = d.sz := fun i => d.K_len (d.K_of_M (hp.M i.val i.isLt))
  have hd0 : (Array.ofFn fun i : Fin xs.length => i).size = xs.length := by simp
  have hat : ∀ (dk : Array (Fin xs.length)), dk.size = xs.length → ∀ t, t < xs.length * d.sz → ∀ hh : t / d.sz < dk.size, (Sort.flatK (fun i : Fin xs.length => pc i.val) d.sz dk)[t]? = (pc (dk[t / d.sz]).val)[t % d.sz]? := by
   intro dk hdk t ht hh
   have hlt : t < (Sort.flatK (fun i : Fin xs.length => pc i.val) d.sz dk).size := by rw [Sort.size_flatK, hdk]; exact ht
   have e1 := getElem!_pos (Sort.flatK (fun i : Fin xs.length => pc i.val) d.sz dk) t hlt
   have hm : t % d.sz < (pc (dk[t / d.sz]).val).length := by rw [hpl]; exact Nat.mod_lt _ hsz
   have e2 := getElem!_pos (pc (dk[t / d.sz]).val) (t % d.sz) hm
   rw [Array.getElem?_eq_getElem hlt, ← e1, Sort.get_flatK _ _ _ _ (by rw [hdk]; exact ht), getElem!_pos dk _ hh, e2, List.getElem?_eq_getElem hm]
  have hH : Sort.HoldsK (fun i : Fin xs.length => pc i.val) d.sz w g 0 (Array.ofFn fun i : Fin xs.length => i) := by
   intro t ht
   rw [Sort.size_flatK, hd0] at ht
   have hq : t / d.sz < (Array.ofFn fun i : Fin xs.length => i).size := by rw [hd0, Nat.div_lt_iff_lt_mul hsz]; exact ht
   have h1 := hp.at_ t ht
   have h2 := hat _ hd0 t ht hq
   have hlt : t < (Sort.flatK (fun i : Fin xs.length => pc i.val) d.sz (Array.ofFn fun i : Fin xs.length => i)).size := by rw [Sort.size_flatK, hd0]; exact ht
   have e1 := getElem!_pos (Sort.flatK (fun i : Fin xs.length => pc i.val) d.sz (Array.ofFn fun i : Fin xs.length => i)) t hlt
   rw [e1, Nat.zero_add]
   rw [Array.getElem?_eq_getElem hlt] at h2
   simp only [Array.getElem_ofFn] at h2
   refine ⟨?_, ?_⟩
   ·unfold World.cell?
    simp only [hp.hh]
    simpa [h1] using h2.symm
   ·unfold World.frozen?
    simp [hp.hh]
  have hcon := AnyQ.slices_SortFunc L d.sz aE zE (fun i : Fin xs.length => pc i.val) hpl (fun i u hu => d.K_one (d.K_of_M (hp.M i.val i.isLt)) u hu) (fun i j : Fin xs.length => cmp xs[i.val] xs[j.val])
   ⟨fun i => hO.irrefl xs[i.val], fun i j k => hO.trans xs[i.val] xs[j.val] xs[k.val], fun i j k => hO.ntrans xs[i.val] xs[j.val] xs[k.val]⟩ gf #[] g 0 cap (Array.ofFn fun i : Fin xs.length => i) w eg
   (fun m os dk hdk x y => by
    rw [hd0] at hdk
    have hfar := (grow_mapBlock (m := m) (f := Sort.putCells id 0 (Sort.flatK (fun i : Fin xs.length => pc i.val) d.sz dk)) (os := os) hp.hh).1
    have hx := d.K_of_M (hp.move (W := sortWorldK (fun i : Fin xs.length => pc i.val) d.sz w g 0 m dk os) hfar x.val x.isLt)
    have hy := d.K_of_M (hp.move (W := sortWorldK (fun i : Fin xs.length => pc i.val) d.sz w g 0 m dk os) hfar y.val y.isLt)
    exact hcmp _ _ _ _ _ (List.getElem_mem _) (List.getElem_mem _) hx hy) hH (Array.getElem?_eq_some_iff.1 hp.hh).1 (by rw [hd0]; exact hlen)
  rw [hd0] at hcon
  refine hcon.mono ?_
  rintro e' w' ⟨rfl, d', m, os, hperm, hs, hw⟩
  refine ⟨rfl, sorted_end (P := P) (fn := gf) hsz hp cmp hperm hs (by rw [Sort.size_flatK, hperm.1, hd0]) (fun t ht hh => hat d' (by rw [hperm.1, hd0]) t ht hh) hw⟩
end
end Go.Proofs.Ytjglknoebaojgaa.PSort

namespace Go.Proofs.Ytjglknoebaojgaa.P
open Go.RowKit Go.Proofs.YtjglknoebaojgaaW.PrintWords Go.Proofs.YtjglknoebaojgaaW.PrintLast Go.Proofs.YtjglknoebaojgaaW.PrintMore Go.Proofs.Ytjglknoebaojgaa
attribute [local go_sem] max2_int min2_int max_two min_two max_three min_three max_four min_four
set_option linter.unusedVariables false
set_option linter.unusedSimpArgs false
set_option maxHeartbeats 8000000 in
set_option maxRecDepth 100000 in
theorem impl_compareFacts.grw (k : Nat) (a0_0 : Int) (A0_1 : Option Addr) (c0_1 : Nat) (l0_1 : List Int) (a1_0 : Int) (A1_1 : Option Addr) (c1_1 : Nat) (l1_1 : List Int) (r : Int) (w : World) (hr0_1 : Kd.C (Kd.int .i64) w A0_1 l0_1.length l0_1) (hc0_1 : l0_1.length ≤ c0_1) (hr1_1 : Kd.C (Kd.int .i64) w A1_1 l1_1.length l1_1) (hc1_1 : l1_1.length ≤ c1_1) (h : impl_compareFacts.f k a0_0 l0_1 a1_0 l1_1 = some r) :
  Calls Try.prog 107 #[.agg #[.int .i64 a0_0, .slice A0_1 l0_1.length c0_1], .agg #[.int .i64 a1_0, .slice A1_1 l1_1.length c1_1]] w fun e w' => e = .returned (.int .i64 r) ∧ PSort.Grw w w' := by
 have hu53 := Try.underlying53
 have HR0_1 := Aside0.mk hr0_1
 have HC0_1 := Aside0.mk hc0_1
 clear hr0_1 hc0_1
 have HR1_1 := Aside0.mk hr1_1
 have HC1_1 := Aside0.mk hc1_1
 clear hr1_1 hc1_1
 have HB := Aside0.mk (Below.refl w.heap.size w)
 have HG := Aside0.mk (PSort.Grw.refl w)
 have H : (if a0_0 < a1_0 then (some (-1)) else (if a0_0 > a1_0 then (some 1) else ((slices_Compare_int_int.f k l0_1 l1_1).bind fun t113 => (some t113)))) = some r := h
 clear h
 by_cases c3 : a0_0 < a1_0
 ·rw [if_pos c3] at H
  have c3b0 : decide (a0_0 < a1_0) = true := decide_eq_true c3
  clear c3
  obtain rfl := Option.some.inj H
  go_enter Try.func107, Try.ntmps107
  go_wp2_with (first | ((with_reducible refine gate_dst (N := 2) rfl ?_); refine PSort.box_grw (w := w) ?gw ?hg (N := 2) ?hd (cs := #[.int .i64 a0_0, .slice A0_1 l0_1.length c0_1]) (t := 53) ?hr ?_; (case gw => exact (by repeat (first | (with_reducible exact HG.out) | (with_reducible apply PSort.Grw.alloc) | (with_reducible apply PSort.Grw.drewN) | (with_reducible apply PSort.Grw.drew)))); (case hd => rfl); (case hg => rfl); (case hr => first | (go_simp; done) | (go_simp; rfl)); intro gb111 hg w4 hbox hb hG_; clear HG; have HG := Aside0.mk hG_; clear hG_; have n0_ := Aside0.mk (below_step (by repeat (first | (with_reducible first | exact HB.out | apply below_alloc | apply pw_below_drewN | apply below_drew1) | exact HB.out)) hb); have n1_ := Aside0.mk (hbox); have n2_ := Aside0.mk ((by rw [hg]; exact (below_size (by repeat (first | (with_reducible first | exact HB.out | apply below_alloc | apply pw_below_drewN | apply below_drew1) | exact HB.out))) : w.heap.size ≤ gb111)); have n3_ := Aside0.mk ((by rw [hg]; exact (below_size (by repeat (first | (with_reducible first | exact HB.out | apply below_alloc | apply pw_below_drewN | apply below_drew1) | exact HB.out))) : w.heap.size ≤ gb111)); clear HB; have HB := n0_; have BK111 := n1_; have GW111 := n2_; have GE111 := n3_; clear n0_ n1_ n2_ n3_; clear hb hbox hg) | ((with_reducible refine gate_dst (N := 3) rfl ?_); refine PSort.box_grw (w := w) ?gw ?hg (N := 3) ?hd (cs := #[.int .i64 a1_0, .slice A1_1 l1_1.length c1_1]) (t := 53) ?hr ?_; (case gw => exact (by repeat (first | (with_reducible exact HG.out) | (with_reducible apply PSort.Grw.alloc) | (with_reducible apply PSort.Grw.drewN) | (with_reducible apply PSort.Grw.drew)))); (case hd => rfl); (case hg => rfl); (case hr => first | (go_simp; done) | (go_simp; rfl)); intro gb112 hg w5 hbox hb hG_; clear HG; have HG := Aside0.mk hG_; clear hG_; have n0_ := Aside0.mk (blk_below (g := gb111) (o := .cells #[.int .i64 a0_0, .slice A0_1 l0_1.length c0_1] 53 (0, 0)) (by (with_reducible repeat (first | refine blk_drewN ?_ _ | refine blk_drew ?_ | refine blk_alloc ?_ _)); exact BK111.out) hb); have n1_ := Aside0.mk (below_step (by repeat (first | (with_reducible first | exact HB.out | apply below_alloc | apply pw_below_drewN | apply below_drew1 | refine below_set ?_ GE111.out) | exact HB.out)) hb); have n2_ := Aside0.mk (hbox); have n3_ := Aside0.mk ((by rw [hg]; exact (below_size (by repeat (first | (with_reducible first | exact HB.out | apply below_alloc | apply pw_below_drewN | apply below_drew1 | refine below_set ?_ GE111.out) | exact HB.out))) : w.heap.size ≤ gb112)); have n4_ := Aside0.mk ((by rw [hg]; exact (below_size (by repeat (first | (with_reducible first | exact HB.out | apply below_alloc | apply pw_below_drewN | apply below_drew1 | refine below_set ?_ GE111.out) | exact HB.out))) : w.heap.size ≤ gb112)); have n5_ := Aside0.mk ((by rw [hg]; exact Nat.ne_of_lt (blk_lt (g := gb111) (o := .cells #[.int .i64 a0_0, .slice A0_1 l0_1.length c0_1] 53 (0, 0)) (by (with_reducible repeat (first | refine blk_drewN ?_ _ | refine blk_drew ?_ | refine blk_alloc ?_ _)); exact BK111.out)) : gb111 ≠ gb112)); have n6_ := Aside0.mk ((by rw [hg]; exact Nat.ne_of_gt (blk_lt (g := gb111) (o := .cells #[.int .i64 a0_0, .slice A0_1 l0_1.length c0_1] 53 (0, 0)) (by (with_reducible repeat (first | refine blk_drewN ?_ _ | refine blk_drew ?_ | refine blk_alloc ?_ _)); exact BK111.out)) : gb112 ≠ gb111)); clear BK111; clear HB; have BK111 := n0_; have HB := n1_; have BK112 := n2_; have GW112 := n3_; have GE112 := n4_; have NB111_112 := n5_; have NB112_111 := n6_; clear n0_ n1_ n2_ n3_ n4_ n5_ n6_; clear hb hbox hg; have hnb6 := NB111_112.out; have hnc6 := NB112_111.out; have hcz7_0 : w5.cell? ⟨gb111, 0, none⟩ = some (.int .i64 a0_0) := (blk_cell BK111.out 0).trans rfl; have hcz7_1 : w5.cell? ⟨gb111, 1, none⟩ = some (.slice A0_1 l0_1.length c0_1) := (blk_cell BK111.out 1).trans rfl; have hfz7_0 := blk_frozen BK111.out 0; have hfz7_1 := blk_frozen BK111.out 1; have hcz8_0 : w5.cell? ⟨gb112, 0, none⟩ = some (.int .i64 a1_0) := (blk_cell BK112.out 0).trans rfl; have hcz8_1 : w5.cell? ⟨gb112, 1, none⟩ = some (.slice A1_1 l1_1.length c1_1) := (blk_cell BK112.out 1).trans rfl; have hfz8_0 := blk_frozen BK112.out 0; have hfz8_1 := blk_frozen BK112.out 1))
  go_ret
  exact ⟨by first | rfl | (simp [errW_none, errW_some] <;> rfl) | (simp [*, errW_none, errW_some] <;> rfl), (by repeat (first | (with_reducible exact HG.out) | (with_reducible apply PSort.Grw.alloc) | (with_reducible apply PSort.Grw.drewN) | (with_reducible apply PSort.Grw.drew)))⟩
 ·rw [if_neg c3] at H
  have c3b0 : decide (a0_0 < a1_0) = false := decide_eq_false c3
  clear c3
  by_cases c9 : a0_0 > a1_0
  ·rw [if_pos c9] at H
   have c9b0 : decide (a1_0 < a0_0) = true := decide_eq_true c9
   clear c9
   obtain rfl := Option.some.inj H
   go_enter Try.func107, Try.ntmps107
   go_wp2_with (first | ((with_reducible refine gate_dst (N := 2) rfl ?_); refine PSort.box_grw (w := w) ?gw ?hg (N := 2) ?hd (cs := #[.int .i64 a0_0, .slice A0_1 l0_1.length c0_1]) (t := 53) ?hr ?_; (case gw => exact (by repeat (first | (with_reducible exact HG.out) | (with_reducible apply PSort.Grw.alloc) | (with_reducible apply PSort.Grw.drewN) | (with_reducible apply PSort.Grw.drew)))); (case hd => rfl); (case hg => rfl); (case hr => first | (go_simp; done) | (go_simp; rfl)); intro gb111 hg w10 hbox hb hG_; clear HG; have HG := Aside0.mk hG_; clear hG_; have n0_ := Aside0.mk (below_step (by repeat (first | (with_reducible first | exact HB.out | apply below_alloc | apply pw_below_drewN | apply below_drew1) | exact HB.out)) hb); have n1_ := Aside0.mk (hbox); have n2_ := Aside0.mk ((by rw [hg]; exact (below_size (by repeat (first | (with_reducible first | exact HB.out | apply below_alloc | apply pw_below_drewN | apply below_drew1) | exact HB.out))) : w.heap.size ≤ gb111)); have n3_ := Aside0.mk ((by rw [hg]; exact (below_size (by repeat (first | (with_reducible first | exact HB.out | apply below_alloc | apply pw_below_drewN | apply below_drew1) | exact HB.out))) : w.heap.size ≤ gb111)); clear HB; have HB := n0_; have BK111 := n1_; have GW111 := n2_; have GE111 := n3_; clear n0_ n1_ n2_ n3_; clear hb hbox hg) | ((with_reducible refine gate_dst (N := 3) rfl ?_); refine PSort.box_grw (w := w) ?gw ?hg (N := 3) ?hd (cs := #[.int .i64 a1_0, .slice A1_1 l1_1.length c1_1]) (t := 53) ?hr ?_; (case gw => exact (by repeat (first | (with_reducible exact HG.out) | (with_reducible apply PSort.Grw.alloc) | (with_reducible apply PSort.Grw.drewN) | (with_reducible apply PSort.Grw.drew)))); (case hd => rfl); (case hg => rfl); (case hr => first | (go_simp; done) | (go_simp; rfl)); intro gb112 hg w11 hbox hb hG_; clear HG; have HG := Aside0.mk hG_; clear hG_; have n0_ := Aside0.mk (blk_below (g := gb111) (o := .cells #[.int .i64 a0_0, .slice A0_1 l0_1.length c0_1] 53 (0, 0)) (by (with_reducible repeat (first | refine blk_drewN ?_ _ | refine blk_drew ?_ | refine blk_alloc ?_ _)); exact BK111.out) hb); have n1_ := Aside0.mk (below_step (by repeat (first | (with_reducible first | exact HB.out | apply below_alloc | apply pw_below_drewN | apply below_drew1 | refine below_set ?_ GE111.out) | exact HB.out)) hb); have n2_ := Aside0.mk (hbox); have n3_ := Aside0.mk ((by rw [hg]; exact (below_size (by repeat (first | (with_reducible first | exact HB.out | apply below_alloc | apply pw_below_drewN | apply below_drew1 | refine below_set ?_ GE111.out) | exact HB.out))) : w.heap.size ≤ gb112)); have n4_ := Aside0.mk ((by rw [hg]; exact (below_size (by repeat (first | (with_reducible first | exact HB.out | apply below_alloc | apply pw_below_drewN | apply below_drew1 | refine below_set ?_ GE111.out) | exact HB.out))) : w.heap.size ≤ gb112)); have n5_ := Aside0.mk ((by rw [hg]; exact Nat.ne_of_lt (blk_lt (g := gb111) (o := .cells #[.int .i64 a0_0, .slice A0_1 l0_1.length c0_1] 53 (0, 0)) (by (with_reducible repeat (first | refine blk_drewN ?_ _ | refine blk_drew ?_ | refine blk_alloc ?_ _)); exact BK111.out)) : gb111 ≠ gb112)); have n6_ := Aside0.mk ((by rw [hg]; exact Nat.ne_of_gt (blk_lt (g := gb111) (o := .cells #[.int .i64 a0_0, .slice A0_1 l0_1.length c0_1] 53 (0, 0)) (by (with_reducible repeat (first | refine blk_drewN ?_ _ | refine blk_drew ?_ | refine blk_alloc ?_ _)); exact BK111.out)) : gb112 ≠ gb111)); clear BK111; clear HB; have BK111 := n0_; have HB := n1_; have BK112 := n2_; have GW112 := n3_; have GE112 := n4_; have NB111_112 := n5_; have NB112_111 := n6_; clear n0_ n1_ n2_ n3_ n4_ n5_ n6_; clear hb hbox hg; have hnb12 := NB111_112.out; have hnc12 := NB112_111.out; have hcz13_0 : w11.cell? ⟨gb111, 0, none⟩ = some (.int .i64 a0_0) := (blk_cell BK111.out 0).trans rfl; have hcz13_1 : w11.cell? ⟨gb111, 1, none⟩ = some (.slice A0_1 l0_1.length c0_1) := (blk_cell BK111.out 1).trans rfl; have hfz13_0 := blk_frozen BK111.out 0; have hfz13_1 := blk_frozen BK111.out 1; have hcz14_0 : w11.cell? ⟨gb112, 0, none⟩ = some (.int .i64 a1_0) := (blk_cell BK112.out 0).trans rfl; have hcz14_1 : w11.cell? ⟨gb112, 1, none⟩ = some (.slice A1_1 l1_1.length c1_1) := (blk_cell BK112.out 1).trans rfl; have hfz14_0 := blk_frozen BK112.out 0; have hfz14_1 := blk_frozen BK112.out 1))
   go_ret
   exact ⟨by first | rfl | (simp [errW_none, errW_some] <;> rfl) | (simp [*, errW_none, errW_some] <;> rfl), (by repeat (first | (with_reducible exact HG.out) | (with_reducible apply PSort.Grw.alloc) | (with_reducible apply PSort.Grw.drewN) | (with_reducible apply PSort.Grw.drew)))⟩
  ·rw [if_neg c9] at H
   have c9b0 : decide (a1_0 < a0_0) = false := decide_eq_false c9
   clear c9
   replace H := Option.bind_eq_some_iff.mp H
   obtain ⟨t113, A150, H⟩ := H
   replace H : (some t113) = some r := H
   have A15 := Aside0.mk A150
   clear A150
   obtain rfl := Option.some.inj H
   go_enter Try.func107, Try.ntmps107
   go_wp2_with (first | ((with_reducible refine gate_dst (N := 2) rfl ?_); refine PSort.box_grw (w := w) ?gw ?hg (N := 2) ?hd (cs := #[.int .i64 a0_0, .slice A0_1 l0_1.length c0_1]) (t := 53) ?hr ?_; (case gw => exact (by repeat (first | (with_reducible exact HG.out) | (with_reducible apply PSort.Grw.alloc) | (with_reducible apply PSort.Grw.drewN) | (with_reducible apply PSort.Grw.drew)))); (case hd => rfl); (case hg => rfl); (case hr => first | (go_simp; done) | (go_simp; rfl)); intro gb111 hg w16 hbox hb hG_; clear HG; have HG := Aside0.mk hG_; clear hG_; have n0_ := Aside0.mk (below_step (by repeat (first | (with_reducible first | exact HB.out | apply below_alloc | apply pw_below_drewN | apply below_drew1) | exact HB.out)) hb); have n1_ := Aside0.mk (hbox); have n2_ := Aside0.mk ((by rw [hg]; exact (below_size (by repeat (first | (with_reducible first | exact HB.out | apply below_alloc | apply pw_below_drewN | apply below_drew1) | exact HB.out))) : w.heap.size ≤ gb111)); have n3_ := Aside0.mk ((by rw [hg]; exact (below_size (by repeat (first | (with_reducible first | exact HB.out | apply below_alloc | apply pw_below_drewN | apply below_drew1) | exact HB.out))) : w.heap.size ≤ gb111)); clear HB; have HB := n0_; have BK111 := n1_; have GW111 := n2_; have GE111 := n3_; clear n0_ n1_ n2_ n3_; clear hb hbox hg) | ((with_reducible refine gate_dst (N := 3) rfl ?_); refine PSort.box_grw (w := w) ?gw ?hg (N := 3) ?hd (cs := #[.int .i64 a1_0, .slice A1_1 l1_1.length c1_1]) (t := 53) ?hr ?_; (case gw => exact (by repeat (first | (with_reducible exact HG.out) | (with_reducible apply PSort.Grw.alloc) | (with_reducible apply PSort.Grw.drewN) | (with_reducible apply PSort.Grw.drew)))); (case hd => rfl); (case hg => rfl); (case hr => first | (go_simp; done) | (go_simp; rfl)); intro gb112 hg w17 hbox hb hG_; clear HG; have HG := Aside0.mk hG_; clear hG_; have n0_ := Aside0.mk (blk_below (g := gb111) (o := .cells #[.int .i64 a0_0, .slice A0_1 l0_1.length c0_1] 53 (0, 0)) (by (with_reducible repeat (first | refine blk_drewN ?_ _ | refine blk_drew ?_ | refine blk_alloc ?_ _)); exact BK111.out) hb); have n1_ := Aside0.mk (below_step (by repeat (first | (with_reducible first | exact HB.out | apply below_alloc | apply pw_below_drewN | apply below_drew1 | refine below_set ?_ GE111.out) | exact HB.out)) hb); have n2_ := Aside0.mk (hbox); have n3_ := Aside0.mk ((by rw [hg]; exact (below_size (by repeat (first | (with_reducible first | exact HB.out | apply below_alloc | apply pw_below_drewN | apply below_drew1 | refine below_set ?_ GE111.out) | exact HB.out))) : w.heap.size ≤ gb112)); have n4_ := Aside0.mk ((by rw [hg]; exact (below_size (by repeat (first | (with_reducible first | exact HB.out | apply below_alloc | apply pw_below_drewN | apply below_drew1 | refine below_set ?_ GE111.out) | exact HB.out))) : w.heap.size ≤ gb112)); have n5_ := Aside0.mk ((by rw [hg]; exact Nat.ne_of_lt (blk_lt (g := gb111) (o := .cells #[.int .i64 a0_0, .slice A0_1 l0_1.length c0_1] 53 (0, 0)) (by (with_reducible repeat (first | refine blk_drewN ?_ _ | refine blk_drew ?_ | refine blk_alloc ?_ _)); exact BK111.out)) : gb111 ≠ gb112)); have n6_ := Aside0.mk ((by rw [hg]; exact Nat.ne_of_gt (blk_lt (g := gb111) (o := .cells #[.int .i64 a0_0, .slice A0_1 l0_1.length c0_1] 53 (0, 0)) (by (with_reducible repeat (first | refine blk_drewN ?_ _ | refine blk_drew ?_ | refine blk_alloc ?_ _)); exact BK111.out)) : gb112 ≠ gb111)); clear BK111; clear HB; have BK111 := n0_; have HB := n1_; have BK112 := n2_; have GW112 := n3_; have GE112 := n4_; have NB111_112 := n5_; have NB112_111 := n6_; clear n0_ n1_ n2_ n3_ n4_ n5_ n6_; clear hb hbox hg; have hnb18 := NB111_112.out; have hnc18 := NB112_111.out; have hcz19_0 : w17.cell? ⟨gb111, 0, none⟩ = some (.int .i64 a0_0) := (blk_cell BK111.out 0).trans rfl; have hcz19_1 : w17.cell? ⟨gb111, 1, none⟩ = some (.slice A0_1 l0_1.length c0_1) := (blk_cell BK111.out 1).trans rfl; have hfz19_0 := blk_frozen BK111.out 0; have hfz19_1 := blk_frozen BK111.out 1; have hcz20_0 : w17.cell? ⟨gb112, 0, none⟩ = some (.int .i64 a1_0) := (blk_cell BK112.out 0).trans rfl; have hcz20_1 : w17.cell? ⟨gb112, 1, none⟩ = some (.slice A1_1 l1_1.length c1_1) := (blk_cell BK112.out 1).trans rfl; have hfz20_0 := blk_frozen BK112.out 0; have hfz20_1 := blk_frozen BK112.out 1) | ((with_reducible refine gate_callee (f := 55) rfl ?_); refine goesL_ (some 21) rfl rfl Try.func55 (by kernel_rfl) rfl #[.slice A0_1 l0_1.length c0_1, .slice A1_1 l1_1.length c1_1] rfl (by (try simp only [List.map_toArray, List.map_cons, List.map_nil]); first | done | rfl | (simp only [List.length_drop, List.length_take]; rfl)) ?_; (with_reducible refine (slices_Compare_int_int.calls k _ _ l0_1 _ _ l1_1 t113 _ ?side1 ?side2 ?side3 ?side4 A15.out).mono ?_); (case side1 => repeat (first | exact (Kd.C_below HR0_1.out HB.out) | (with_reducible refine Kd.C_alloc ?_ _) | (with_reducible refine Kd.C_drewN ?_ _) | (with_reducible refine Kd.C_drew ?_))); (case side2 => exact HC0_1.out); (case side3 => repeat (first | exact (Kd.C_below HR1_1.out HB.out) | (with_reducible refine Kd.C_alloc ?_ _) | (with_reducible refine Kd.C_drewN ?_ _) | (with_reducible refine Kd.C_drew ?_))); (case side4 => exact HC1_1.out); rintro e w' ⟨rfl, ⟨nd, rfl⟩⟩; refine ⟨_, rfl, ?_⟩))
   go_ret
   exact ⟨by first | rfl | (simp [errW_none, errW_some] <;> rfl) | (simp [*, errW_none, errW_some] <;> rfl), (by repeat (first | (with_reducible exact HG.out) | (with_reducible apply PSort.Grw.alloc) | (with_reducible apply PSort.Grw.drewN) | (with_reducible apply PSort.Grw.drew)))⟩

set_option maxHeartbeats 8000000 in
set_option maxRecDepth 100000 in
theorem impl_AddCounts_1.grw (k : Nat) (A0_0 : Option Addr) (c0_0 : Nat) (l0_0 : List Int) (a0_1 : Int) (A1_0 : Option Addr) (c1_0 : Nat) (l1_0 : List Int) (a1_1 : Int) (r : Int) (w : World) (hr0_0 : Kd.C (Kd.int .i64) w A0_0 l0_0.length l0_0) (hc0_0 : l0_0.length ≤ c0_0) (hr1_0 : Kd.C (Kd.int .i64) w A1_0 l1_0.length l1_0) (hc1_0 : l1_0.length ≤ c1_0) (h : impl_AddCounts_1.f k l0_0 a0_1 l1_0 a1_1 = some r) :
  Calls Try.prog 54 #[.agg #[.slice A0_0 l0_0.length c0_0, .int .i64 a0_1], .agg #[.slice A1_0 l1_0.length c1_0, .int .i64 a1_1]] w fun e w' => e = .returned (.int .i64 r) ∧ PSort.Grw w w' := by
 have hu91 := Try.underlying91
 have HR0_0 := Aside0.mk hr0_0
 have HC0_0 := Aside0.mk hc0_0
 clear hr0_0 hc0_0
 have HR1_0 := Aside0.mk hr1_0
 have HC1_0 := Aside0.mk hc1_0
 clear hr1_0 hc1_0
 have HB := Aside0.mk (Below.refl w.heap.size w)
 have HG := Aside0.mk (PSort.Grw.refl w)
 have H : ((slices_Compare_int_int.f k l0_0 l1_0).bind fun t110 => (some t110)) = some r := h
 clear h
 replace H := Option.bind_eq_some_iff.mp H
 obtain ⟨t110, A30, H⟩ := H
 replace H : (some t110) = some r := H
 have A3 := Aside0.mk A30
 clear A30
 obtain rfl := Option.some.inj H
 go_enter Try.func54, Try.ntmps54
 go_wp2_with (first | ((with_reducible refine gate_dst (N := 2) rfl ?_); refine PSort.box_grw (w := w) ?gw ?hg (N := 2) ?hd (cs := #[.slice A0_0 l0_0.length c0_0, .int .i64 a0_1]) (t := 91) ?hr ?_; (case gw => exact (by repeat (first | (with_reducible exact HG.out) | (with_reducible apply PSort.Grw.alloc) | (with_reducible apply PSort.Grw.drewN) | (with_reducible apply PSort.Grw.drew)))); (case hd => rfl); (case hg => rfl); (case hr => first | (go_simp; done) | (go_simp; rfl)); intro gb108 hg w4 hbox hb hG_; clear HG; have HG := Aside0.mk hG_; clear hG_; have n0_ := Aside0.mk (below_step (by repeat (first | (with_reducible first | exact HB.out | apply below_alloc | apply pw_below_drewN | apply below_drew1) | exact HB.out)) hb); have n1_ := Aside0.mk (hbox); have n2_ := Aside0.mk ((by rw [hg]; exact (below_size (by repeat (first | (with_reducible first | exact HB.out | apply below_alloc | apply pw_below_drewN | apply below_drew1) | exact HB.out))) : w.heap.size ≤ gb108)); have n3_ := Aside0.mk ((by rw [hg]; exact (below_size (by repeat (first | (with_reducible first | exact HB.out | apply below_alloc | apply pw_below_drewN | apply below_drew1) | exact HB.out))) : w.heap.size ≤ gb108)); clear HB; have HB := n0_; have BK108 := n1_; have GW108 := n2_; have GE108 := n3_; clear n0_ n1_ n2_ n3_; clear hb hbox hg) | ((with_reducible refine gate_dst (N := 3) rfl ?_); refine PSort.box_grw (w := w) ?gw ?hg (N := 3) ?hd (cs := #[.slice A1_0 l1_0.length c1_0, .int .i64 a1_1]) (t := 91) ?hr ?_; (case gw => exact (by repeat (first | (with_reducible exact HG.out) | (with_reducible apply PSort.Grw.alloc) | (with_reducible apply PSort.Grw.drewN) | (with_reducible apply PSort.Grw.drew)))); (case hd => rfl); (case hg => rfl); (case hr => first | (go_simp; done) | (go_simp; rfl)); intro gb109 hg w5 hbox hb hG_; clear HG; have HG := Aside0.mk hG_; clear hG_; have n0_ := Aside0.mk (blk_below (g := gb108) (o := .cells #[.slice A0_0 l0_0.length c0_0, .int .i64 a0_1] 91 (0, 0)) (by (with_reducible repeat (first | refine blk_drewN ?_ _ | refine blk_drew ?_ | refine blk_alloc ?_ _)); exact BK108.out) hb); have n1_ := Aside0.mk (below_step (by repeat (first | (with_reducible first | exact HB.out | apply below_alloc | apply pw_below_drewN | apply below_drew1 | refine below_set ?_ GE108.out) | exact HB.out)) hb); have n2_ := Aside0.mk (hbox); have n3_ := Aside0.mk ((by rw [hg]; exact (below_size (by repeat (first | (with_reducible first | exact HB.out | apply below_alloc | apply pw_below_drewN | apply below_drew1 | refine below_set ?_ GE108.out) | exact HB.out))) : w.heap.size ≤ gb109)); have n4_ := Aside0.mk ((by rw [hg]; exact (below_size (by repeat (first | (with_reducible first | exact HB.out | apply below_alloc | apply pw_below_drewN | apply below_drew1 | refine below_set ?_ GE108.out) | exact HB.out))) : w.heap.size ≤ gb109)); have n5_ := Aside0.mk ((by rw [hg]; exact Nat.ne_of_lt (blk_lt (g := gb108) (o := .cells #[.slice A0_0 l0_0.length c0_0, .int .i64 a0_1] 91 (0, 0)) (by (with_reducible repeat (first | refine blk_drewN ?_ _ | refine blk_drew ?_ | refine blk_alloc ?_ _)); exact BK108.out)) : gb108 ≠ gb109)); have n6_ := Aside0.mk ((by rw [hg]; exact Nat.ne_of_gt (blk_lt (g := gb108) (o := .cells #[.slice A0_0 l0_0.length c0_0, .int .i64 a0_1] 91 (0, 0)) (by (with_reducible repeat (first | refine blk_drewN ?_ _ | refine blk_drew ?_ | refine blk_alloc ?_ _)); exact BK108.out)) : gb109 ≠ gb108)); clear BK108; clear HB; have BK108 := n0_; have HB := n1_; have BK109 := n2_; have GW109 := n3_; have GE109 := n4_; have NB108_109 := n5_; have NB109_108 := n6_; clear n0_ n1_ n2_ n3_ n4_ n5_ n6_; clear hb hbox hg; have hnb6 := NB108_109.out; have hnc6 := NB109_108.out; have hcz7_0 : w5.cell? ⟨gb108, 0, none⟩ = some (.slice A0_0 l0_0.length c0_0) := (blk_cell BK108.out 0).trans rfl; have hcz7_1 : w5.cell? ⟨gb108, 1, none⟩ = some (.int .i64 a0_1) := (blk_cell BK108.out 1).trans rfl; have hfz7_0 := blk_frozen BK108.out 0; have hfz7_1 := blk_frozen BK108.out 1; have hcz8_0 : w5.cell? ⟨gb109, 0, none⟩ = some (.slice A1_0 l1_0.length c1_0) := (blk_cell BK109.out 0).trans rfl; have hcz8_1 : w5.cell? ⟨gb109, 1, none⟩ = some (.int .i64 a1_1) := (blk_cell BK109.out 1).trans rfl; have hfz8_0 := blk_frozen BK109.out 0; have hfz8_1 := blk_frozen BK109.out 1) | ((with_reducible refine gate_callee (f := 55) rfl ?_); refine goesL_ (some 9) rfl rfl Try.func55 (by kernel_rfl) rfl #[.slice A0_0 l0_0.length c0_0, .slice A1_0 l1_0.length c1_0] rfl (by (try simp only [List.map_toArray, List.map_cons, List.map_nil]); first | done | rfl | (simp only [List.length_drop, List.length_take]; rfl)) ?_; (with_reducible refine (slices_Compare_int_int.calls k _ _ l0_0 _ _ l1_0 t110 _ ?side1 ?side2 ?side3 ?side4 A3.out).mono ?_); (case side1 => repeat (first | exact (Kd.C_below HR0_0.out HB.out) | (with_reducible refine Kd.C_alloc ?_ _) | (with_reducible refine Kd.C_drewN ?_ _) | (with_reducible refine Kd.C_drew ?_))); (case side2 => exact HC0_0.out); (case side3 => repeat (first | exact (Kd.C_below HR1_0.out HB.out) | (with_reducible refine Kd.C_alloc ?_ _) | (with_reducible refine Kd.C_drewN ?_ _) | (with_reducible refine Kd.C_drew ?_))); (case side4 => exact HC1_0.out); rintro e w' ⟨rfl, ⟨nd, rfl⟩⟩; refine ⟨_, rfl, ?_⟩))
 go_ret
 exact ⟨by first | rfl | (simp [errW_none, errW_some] <;> rfl) | (simp [*, errW_none, errW_some] <;> rfl), (by repeat (first | (with_reducible exact HG.out) | (with_reducible apply PSort.Grw.alloc) | (with_reducible apply PSort.Grw.drewN) | (with_reducible apply PSort.Grw.drew)))⟩

end Go.Proofs.Ytjglknoebaojgaa.P

namespace Go.Proofs.Ytjglknoebaojgaa.Shl
open Go.Shelf Go.Proofs
def sortF_ren : Go.Shelf.Ren := ⟨fun | 6 => 106 | 15 => 90 | 14 => 148 | 28 => 141 | 29 => 142 | 20 => 169 | 21 => 170 | 22 => 171 | 23 => 172 | 24 => 173 | 25 => 174 | 26 => 175 | 27 => 176 | 46 => 187 | 47 => 165 | 48 => 166 | 49 => 188 | 50 => 189 | 57 => 193 | n => n, fun | 22 => 45 | 24 => 53 | 25 => 136 | 3 => 3 | 39 => 127 | 0 => 0 | 53 => 168 | 55 => 170 | 4 => 4 | 46 => 161 | 45 => 160 | 50 => 165 | 5 => 5 | 9 => 9 | 66 => 181 | 70 => 185 | 76 => 192 | 77 => 193 | n => n, fun | n => n⟩
theorem sortF : Go.Proofs.SlLaysF0.n6 Try.prog sortF_ren := {
 mixed := by kernel_rfl
 f6 := ⟨Try.f106.name, by decide, Try.func106.trans (congrArg some (by kernel_rfl))⟩
 f14 := ⟨Try.f148.name, by decide, Try.func148.trans (congrArg some (by kernel_rfl))⟩
 f15 := Try.func90.trans (congrArg some (by kernel_rfl))
 f20 := ⟨Try.f169.name, by decide, Try.func169.trans (congrArg some (by kernel_rfl))⟩
 f21 := ⟨Try.f170.name, by decide, Try.func170.trans (congrArg some (by kernel_rfl))⟩
 f22 := ⟨Try.f171.name, by decide, Try.func171.trans (congrArg some (by kernel_rfl))⟩
 f23 := ⟨Try.f172.name, by decide, Try.func172.trans (congrArg some (by kernel_rfl))⟩
 f24 := ⟨Try.f173.name, by decide, Try.func173.trans (congrArg some (by kernel_rfl))⟩
 f25 := ⟨Try.f174.name, by decide, Try.func174.trans (congrArg some (by kernel_rfl))⟩
 f26 := ⟨Try.f175.name, by decide, Try.func175.trans (congrArg some (by kernel_rfl))⟩
 f27 := ⟨Try.f176.name, by decide, Try.func176.trans (congrArg some (by kernel_rfl))⟩
 f28 := Try.func141.trans (congrArg some (by kernel_rfl))
 f29 := Try.func142.trans (congrArg some (by kernel_rfl))
 f46 := ⟨Try.f187.name, by decide, Try.func187.trans (congrArg some (by kernel_rfl))⟩
 f47 := Try.func165.trans (congrArg some (by kernel_rfl))
 f48 := Try.func166.trans (congrArg some (by kernel_rfl))
 f49 := ⟨Try.f188.name, by decide, Try.func188.trans (congrArg some (by kernel_rfl))⟩
 f50 := ⟨Try.f189.name, by decide, Try.func189.trans (congrArg some (by kernel_rfl))⟩
 f57 := ⟨Try.f193.name, by decide, Try.func193.trans (congrArg some (by kernel_rfl))⟩
 t0 := Try.underlying0
 a0 := Try.isAgg0
 z0 := Try.sizeOf0
 v0 := Try.zeroValue0
 t3 := Try.underlying3
 a3 := Try.isAgg3
 z3 := Try.sizeOf3
 v3 := Try.zeroValue3
 t4 := Try.underlying4
 a4 := Try.isAgg4
 z4 := Try.sizeOf4
 v4 := Try.zeroValue4
 t5 := Try.underlying5
 a5 := Try.isAgg5
 z5 := Try.sizeOf5
 v5 := Try.zeroValue5
 t9 := Try.underlying9
 a9 := Try.isAgg9
 z9 := Try.sizeOf9
 v9 := Try.zeroValue9
 t22 := Try.underlying45
 a22 := Try.isAgg45
 z22 := Try.sizeOf45
 v22 := Try.zeroValue45
 t25 := Try.underlying136
 a25 := Try.isAgg136
 z25 := Try.sizeOf136
 v25 := Try.zeroValue136
 t39 := Try.underlying127
 a39 := Try.isAgg127
 z39 := Try.sizeOf127
 v39 := Try.zeroValue127
 t45 := Try.underlying160
 a45 := Try.isAgg160
 z45 := Try.sizeOf160
 v45 := Try.zeroValue160
 t46 := Try.underlying161
 a46 := Try.isAgg161
 z46 := Try.sizeOf161
 v46 := Try.zeroValue161
 t50 := Try.underlying165
 a50 := Try.isAgg165
 z50 := Try.sizeOf165
 v50 := Try.zeroValue165
 t53 := Try.underlying168
 a53 := Try.isAgg168
 z53 := Try.sizeOf168
 v53 := Try.zeroValue168
 t55 := Try.underlying170
 a55 := Try.isAgg170
 z55 := Try.sizeOf170
 v55 := Try.zeroValue170
 t66 := Try.underlying181
 a66 := Try.isAgg181
 z66 := Try.sizeOf181
 v66 := Try.zeroValue181
 t70 := Try.underlying185
 a70 := Try.isAgg185
 z70 := Try.sizeOf185
 v70 := Try.zeroValue185
 t76 := Try.underlying192
 a76 := Try.isAgg192
 z76 := Try.sizeOf192
 v76 := Try.zeroValue192
 t77 := Try.underlying193
 a77 := Try.isAgg193
 z77 := Try.sizeOf193
 v77 := Try.zeroValue193 }
end Go.Proofs.Ytjglknoebaojgaa.Shl

namespace Go.Proofs.Ytjglknoebaojgaa.PB
open Go.RowKit Go.Proofs.YtjglknoebaojgaaW.PrintWords
set_option linter.unusedVariables false

theorem Ev.pos {α : Type} {c : Prop} [Decidable c] {f g : Nat → Option α} {r : α} (h : c) (k : Ev f r) : Ev (fun n => if c then f n else g n) r :=
 Ev.congr (fun n => if_pos h) k
theorem Ev.neg {α : Type} {c : Prop} [Decidable c] {f g : Nat → Option α} {r : α} (h : ¬ c) (k : Ev g r) : Ev (fun n => if c then f n else g n) r :=
 Ev.congr (fun n => if_neg h) k
theorem Ev.const {α : Type} {x : Option α} {r : α} (h : x = some r) : Ev (fun _ => x) r := ⟨0, fun _ _ => h⟩
/-- A callee without rounds. -/
theorem Ev.bindc {α β : Type} {g : Option α} {f : Nat → α → Option β} {a : α} {r : β} (h : g = some a) (k : Ev (fun n => f n a) r) : Ev (fun n => g.bind (f n)) r := by
 subst h; exact k
theorem Ev.eq {α : Type} {g f : Nat → Option α} {r q : α} (h : Ev g r) (hg : g = f) (hr : r = q) : Ev f q := by subst hg; subst hr; exact h

theorem inc {i : Nat} (h : i < 4611686018427387904) : wrap64 ((i : Int) + 1) = ((i + 1 : Nat) : Int) := by
 unfold wrap64; omega
theorem w64 {n : Int} (h : -9223372036854775808 ≤ n) (h' : n ≤ 9223372036854775807) : wrap64 n = n := by
 unfold wrap64; omega
theorem rd_nat (xs : List Int) (i : Nat) (h : i < xs.length) : rd xs (i : Int) = xs[i] := by
 unfold rd; simp [List.getD_eq_getElem?_getD, h]
theorem getD_nat {α : Type} (d : α) (xs : List α) (i : Nat) (h : i < xs.length) : xs.getD (i : Int).toNat d = xs[i] := by
 simp [List.getD_eq_getElem?_getD, h]
theorem drop_cons {α : Type} {xs : List α} {i : Nat} (h : i < xs.length) : xs.drop i = xs[i] :: xs.drop (i + 1) := by
 exact List.drop_eq_getElem_cons h
theorem take_snoc {α : Type} {xs : List α} {i : Nat} (h : i < xs.length) : xs.take (i + 1) = xs.take i ++ [xs[i]] := by
 exact List.take_succ_eq_append_getElem h
theorem fill_set' {α : Type} (ys : List α) (i d : Nat) (z v : α) (h : ys.length = i) : (ys ++ List.replicate (d + 1) z).set i v = ys ++ [v] ++ List.replicate d z := by
 rw [List.set_append, if_neg (by omega), h, Nat.sub_self]
 simp [List.replicate_succ]
def tsum {α : Type} (f : α → Nat) : List α → Nat
 | [] => 0
 | x :: r => f x + tsum f r
theorem tsum_cons {α : Type} (f : α → Nat) (x : α) (r : List α) : tsum f (x :: r) = f x + tsum f r := rfl
theorem tsum_mem {α : Type} (f : α → Nat) {l : List α} {x : α} (h : x ∈ l) : f x ≤ tsum f l := by
 induction l with
 | nil => simp at h
 | cons y r ih =>
  rcases List.mem_cons.1 h with rfl | h
  ·simp [tsum]
  ·have := ih h; simp [tsum]; omega
end Go.Proofs.Ytjglknoebaojgaa.PB

namespace Go.Proofs.Ytjglknoebaojgaa.PLess
open Go.RowKit Go.Proofs.Ytjglknoebaojgaa.P Go.Proofs.YtjglknoebaojgaaW.PrintWords Go.Proofs.YtjglknoebaojgaaW.PrintLast Go.Proofs.Ytjglknoebaojgaa.PB
set_option linter.unusedVariables false
/-- -1, 0 or 1: by the first number that differs; a list comes before longer ones that begin with it. -/
def cmpL : List Int → List Int → Int
 | [], [] => 0
 | [], _ :: _ => -1
 | _ :: _, [] => 1
 | x :: a, y :: b => if x < y then -1 else if x > y then 1 else cmpL a b
theorem cmp_ev (x y : Int) : cmp_Compare_int.f x y = some (if x < y then -1 else if x > y then 1 else 0) := by
 unfold cmp_Compare_int.f cmp_isNaN_int.f
 simp only [Option.bind_some, bne_self_eq_false, Bool.false_eq_true, if_false]
 split
 ·rfl
 ·split <;> rfl
theorem compare_ev (a b : List Int) (ha : a.length ≤ 1048576) (hb : b.length ≤ 1048576) : Ev (fun k => slices_Compare_int_int.f k a b) (cmpL a b) := by
 have loop : ∀ (d i : Nat), i + d = a.length → i ≤ b.length → Ev (fun k => slices_Compare_int_int.l0 k a b a (a.length : Int) (i : Int)) (cmpL (a.drop i) (b.drop i)) := by
  intro d
  induction d with
  | zero =>
   intro i hi hj
   obtain rfl : i = a.length := by omega
   refine Ev.step (fun k => by rw [slices_Compare_int_int.l0]) (Ev.neg (by omega) ?_)
   rw [List.drop_length]
   by_cases h : a.length < b.length
   ·refine Ev.pos (by omega) (Ev.const ?_)
    rw [drop_cons h]; rfl
   ·refine Ev.neg (by omega) (Ev.const ?_)
    rw [List.drop_of_length_le (show b.length ≤ a.length by omega)]; rfl
  | succ d ih =>
   intro i hi hj
   have hlt : i < a.length := by omega
   refine Ev.step (fun k => by rw [slices_Compare_int_int.l0]) (Ev.pos (by omega) (Ev.pos (by omega) (Ev.pos (by omega) ?_)))
   by_cases h : i < b.length
   ·refine Ev.neg (by omega) (Ev.pos (by omega) ?_)
    rw [rd_nat _ _ hlt, rd_nat _ _ h, inc (by omega), drop_cons hlt, drop_cons h, cmpL]
    refine Ev.bindc (cmp_ev _ _) ?_
    by_cases h1 : a[i] < b[i]
    ·simp only [if_pos h1]; exact Ev.neg (by omega) (Ev.const rfl)
    ·by_cases h2 : a[i] > b[i]
     ·simp only [if_neg h1, if_pos h2]; exact Ev.neg (by omega) (Ev.const rfl)
     ·simp only [if_neg h1, if_neg h2]; exact Ev.pos trivial (ih (i + 1) (by omega) (by omega))
   ·refine Ev.pos (by omega) (Ev.const ?_)
    rw [drop_cons hlt, List.drop_of_length_le (show b.length ≤ i by omega)]; rfl
 exact Ev.eq (loop a.length 0 (by omega) (by omega)) (by funext k; rw [slices_Compare_int_int.f]; rfl) (by simp)
theorem less_ev (a b : List Int) (ha : a.length ≤ 1048576) (hb : b.length ≤ 1048576) : Ev (fun k => spec_l2Less.f k a b) (decide (cmpL a b < 0)) := by
 have loop : ∀ (d i : Nat), i + d = a.length → i ≤ b.length → Ev (fun k => spec_l2Less.l0 k a b (i : Int)) (decide (cmpL (a.drop i) (b.drop i) < 0)) := by
  intro d
  induction d with
  | zero =>
   intro i hi hj
   obtain rfl : i = a.length := by omega
   refine Ev.step (fun k => by rw [spec_l2Less.l0]) (Ev.neg (by omega) (Ev.step (fun k => by rw [spec_l2Less.j1]) (Ev.neg (by simp) (Ev.const ?_))))
   rw [List.drop_length]
   by_cases h : a.length < b.length
   ·rw [drop_cons h, decide_eq_true (by omega)]; rfl
   ·rw [List.drop_of_length_le (show b.length ≤ a.length by omega), decide_eq_false (by omega)]; rfl
  | succ d ih =>
   intro i hi hj
   have hlt : i < a.length := by omega
   refine Ev.step (fun k => by rw [spec_l2Less.l0]) (Ev.pos (by omega) (Ev.step (fun k => by rw [spec_l2Less.j1]) ?_))
   by_cases h : i < b.length
   ·refine Ev.pos (decide_eq_true (by omega)) (Ev.pos (by omega) (Ev.pos (by omega) (Ev.pos (by omega) ?_)))
    rw [rd_nat _ _ hlt, rd_nat _ _ h, inc (by omega), drop_cons hlt, drop_cons h, cmpL]
    by_cases h1 : a[i] < b[i]
    ·refine Ev.neg (by omega) (Ev.const ?_)
     rw [if_pos h1, decide_eq_true h1]; rfl
    ·by_cases h2 : a[i] > b[i]
     ·refine Ev.neg (by omega) (Ev.const ?_)
      rw [if_neg h1, if_pos h2, decide_eq_false h1]; rfl
     ·simp only [if_neg h1, if_neg h2]; exact Ev.pos (by omega) (ih (i + 1) (by omega) (by omega))
   ·refine Ev.neg (by simp; omega) (Ev.const ?_)
    rw [drop_cons hlt, List.drop_of_length_le (show b.length ≤ i by omega), decide_eq_false (by omega)]; rfl
 exact Ev.eq (loop a.length 0 (by omega) (by omega)) (by funext k; rw [spec_l2Less.f]; rfl) (by simp)
end Go.Proofs.Ytjglknoebaojgaa.PLess

namespace Go.Proofs.Ytjglknoebaojgaa.PCmp
open Go.RowKit Go.Proofs.Ytjglknoebaojgaa.P Go.Proofs.YtjglknoebaojgaaW.PrintWords Go.Proofs.Ytjglknoebaojgaa.PB Go.Proofs.Ytjglknoebaojgaa.PLess
set_option linter.unusedVariables false
theorem cmp_self : ∀ a : List Int, cmpL a a = 0
 | [] => rfl
 | x :: a => by rw [cmpL, if_neg (by omega), if_neg (by omega)]; exact cmp_self a
theorem cmp_trans : ∀ a b c : List Int, cmpL a b < 0 → cmpL b c < 0 → cmpL a c < 0
 | [], [], _, h, _ => by simp [cmpL] at h
 | _, _ :: _, [], _, h => by simp [cmpL] at h
 | [], _ :: _, _ :: _, _, _ => by simp [cmpL]
 | _ :: _, [], _, h, _ => by simp [cmpL] at h
 | x :: a, y :: b, z :: c, h1, h2 => by
  rw [cmpL] at h1 h2 ⊢
  split at h1
  ·split at h2
   ·rw [if_pos (by omega)]; omega
   ·split at h2
    ·omega
    ·rw [if_pos (by omega)]; omega
  ·split at h1
   ·omega
   ·split at h2
    ·rw [if_pos (by omega)]; omega
    ·split at h2
     ·omega
     ·rw [if_neg (by omega), if_neg (by omega)]; exact cmp_trans a b c h1 h2
theorem cmp_flip : ∀ a b : List Int, ¬ cmpL a b < 0 → a ≠ b → cmpL b a < 0
 | [], [], _, h => absurd rfl h
 | [], _ :: _, h, _ => by simp [cmpL] at h
 | _ :: _, [], _, _ => by simp [cmpL]
 | x :: a, y :: b, h, hne => by
  rw [cmpL] at h ⊢
  split at h
  ·omega
  ·split at h
   ·rw [if_pos (by omega)]; omega
   ·have e : x = y := by omega
    rw [if_neg (by omega), if_neg (by omega)]
    exact cmp_flip a b h (fun h' => hne (by rw [e, h']))
/-- In strictly ascending order. -/
theorem lt_dec {α : Type} (cmp : α → α → Int) (x y : α) : ltOf cmp x y = decide (cmp x y < 0) := rfl
theorem swoL : Sort.SWO (ltOf cmpL) where
 irrefl x := by rw [lt_dec, cmp_self]; rfl
 trans x y z h1 h2 := by
  rw [lt_dec, decide_eq_true_eq] at *
  exact cmp_trans x y z h1 h2
 ntrans x y z h1 h2 := by
  rw [lt_dec, decide_eq_false_iff_not] at *
  intro h3
  by_cases e : x = y
  ·subst e; exact h2 h3
  ·have h4 := cmp_flip x y h1 e
   exact h2 (cmp_trans y x z h4 h3)
theorem antiL (a b : List Int) (h1 : ¬ cmpL b a < 0) (h2 : ¬ cmpL a b < 0) : a = b := by
 by_cases e : a = b
 ·exact e
 ·exact absurd (cmp_flip a b h2 e) h1
abbrev F := S53
def cmpF (a b : F) : Int := if a.f0 < b.f0 then -1 else if a.f0 > b.f0 then 1 else cmpL a.f1 b.f1
theorem ltF (a b : F) : cmpF a b < 0 ↔ a.f0 < b.f0 ∨ a.f0 = b.f0 ∧ cmpL a.f1 b.f1 < 0 := by
 unfold cmpF
 by_cases h1 : a.f0 < b.f0
 ·rw [if_pos h1]; exact ⟨fun _ => .inl h1, fun _ => by omega⟩
 ·rw [if_neg h1]
  by_cases h2 : a.f0 > b.f0
  ·rw [if_pos h2]; exact ⟨fun h => by omega, fun h => by omega⟩
  ·rw [if_neg h2]; exact ⟨fun h => .inr ⟨by omega, h⟩, fun h => by rcases h with h | h; omega; exact h.2⟩
theorem swoF : Sort.SWO (ltOf cmpF) where
 irrefl x := by
  rw [lt_dec, decide_eq_false_iff_not, ltF]
  rintro (h | h)
  ·omega
  ·rw [cmp_self] at h; omega
 trans x y z h1 h2 := by
  rw [lt_dec, decide_eq_true_eq, ltF] at *
  rcases h1 with h1 | h1 <;> rcases h2 with h2 | h2
  ·exact .inl (by omega)
  ·exact .inl (by omega)
  ·exact .inl (by omega)
  ·exact .inr ⟨by omega, cmp_trans _ _ _ h1.2 h2.2⟩
 ntrans x y z h1 h2 := by
  rw [lt_dec, decide_eq_false_iff_not, ltF] at *
  rintro (h3 | h3)
  ·by_cases e : x.f0 = y.f0
   ·exact h2 (.inl (by omega))
   ·exact h1 (.inl (by have : ¬ y.f0 < z.f0 := fun h => h2 (.inl h); omega))
  ·have a1 : ¬ x.f0 < y.f0 := fun h => h1 (.inl h)
   have a2 : ¬ y.f0 < z.f0 := fun h => h2 (.inl h)
   have e1 : x.f0 = y.f0 := by omega
   have e2 : y.f0 = z.f0 := by omega
   have b1 : ¬ cmpL x.f1 y.f1 < 0 := fun h => h1 (.inr ⟨e1, h⟩)
   have b2 : ¬ cmpL y.f1 z.f1 < 0 := fun h => h2 (.inr ⟨e2, h⟩)
   have := swoL.ntrans x.f1 y.f1 z.f1 (by rw [lt_dec]; exact decide_eq_false b1) (by rw [lt_dec]; exact decide_eq_false b2)
   rw [lt_dec, decide_eq_false_iff_not] at this
   exact this h3.2
theorem antiF (a b : F) (h1 : ¬ cmpF b a < 0) (h2 : ¬ cmpF a b < 0) : a = b := by
 rw [ltF] at h1 h2
 have c1 : ¬ b.f0 < a.f0 := fun h => h1 (.inl h)
 have c2 : ¬ a.f0 < b.f0 := fun h => h2 (.inl h)
 have e : a.f0 = b.f0 := by omega
 have := antiL a.f1 b.f1 (fun h => h1 (.inr ⟨e.symm, h⟩)) (fun h => h2 (.inr ⟨e, h⟩))
 cases a; cases b
 simp only at e this
 rw [e, this]
/-- In order. -/
def srt {α : Type} (cmp : α → α → Int) (xs : List α) : List α := xs.mergeSort fun x y => !decide (cmp y x < 0)
section
variable {α : Type} {cmp : α → α → Int} {xs ys : List α}
theorem srt_perm : (srt cmp xs).Perm xs := List.mergeSort_perm _ _
theorem srt_sorted (hO : Sort.SWO (ltOf cmp)) : (srt cmp xs).Pairwise fun a b => ¬ cmp b a < 0 := by
 have h := List.pairwise_mergeSort (le := fun x y => !decide (cmp y x < 0)) (fun a b c h1 h2 => by
  simp only [Bool.not_eq_true', decide_eq_false_iff_not] at *
  have := hO.ntrans c b a (by rw [lt_dec]; exact decide_eq_false h2) (by rw [lt_dec]; exact decide_eq_false h1)
  rw [lt_dec, decide_eq_false_iff_not] at this
  exact this) (fun a b => by
  by_cases h1 : cmp b a < 0
  ·have h2 : ¬ cmp a b < 0 := fun h2 => by
    have := hO.trans a b a (by rw [lt_dec]; exact decide_eq_true h2) (by rw [lt_dec]; exact decide_eq_true h1)
    rw [hO.irrefl] at this; cases this
   simp [h2]
  ·simp [h1]) xs
 exact h.imp (fun {a b} h => by simpa using h)
theorem srt_eq (hO : Sort.SWO (ltOf cmp)) (ha : ∀ a b, a ∈ xs → b ∈ xs → ¬ cmp b a < 0 → ¬ cmp a b < 0 → a = b) (hp : ys.Perm xs) (hs : ys.Pairwise fun a b => ¬ cmp b a < 0) : ys = srt cmp xs :=
 List.Perm.eq_of_pairwise (le := fun a b => ¬ cmp b a < 0) (fun a b h1 h2 h3 h4 => ha a b (hp.mem_iff.1 h1) (srt_perm.mem_iff.1 h2) h3 h4) hs (srt_sorted hO) (hp.trans srt_perm.symm)
end
theorem compareF_ev (a b : F) (ha : a.f1.length ≤ 1048576) (hb : b.f1.length ≤ 1048576) : Ev (fun k => impl_compareFacts.f k a.f0 a.f1 b.f0 b.f1) (cmpF a b) := by
 unfold impl_compareFacts.f cmpF
 by_cases h1 : a.f0 < b.f0
 ·simp only [if_pos h1]; exact Ev.const rfl
 ·simp only [if_neg h1]
  by_cases h2 : a.f0 > b.f0
  ·simp only [if_pos h2]; exact Ev.const rfl
  ·simp only [if_neg h2]
   exact Ev.bind (compare_ev _ _ ha hb) (Ev.const rfl)
end Go.Proofs.Ytjglknoebaojgaa.PCmp

namespace Go.Proofs.Ytjglknoebaojgaa.P
open Go.RowKit Go.Proofs.YtjglknoebaojgaaW.PrintWords Go.Proofs.YtjglknoebaojgaaW.PrintLast Go.Proofs.Ytjglknoebaojgaa.PB Go.Proofs.Ytjglknoebaojgaa.PSort Go.Proofs.Ytjglknoebaojgaa.PCmp
set_option linter.unusedVariables false
theorem ev_some {α : Type} {g : Nat → Option α} {r : α} (h : Ev g r) : ∃ k, g k = some r := Ev.rounds h
theorem sortF_calls {base : Nat} {ok : Nat → Prop} {v : Value} {xs : List S53} {w : World} (h : Kd.S k53 53 w base ok v xs) (hlen : xs.length < 4611686018427387904) (hb : ∀ x ∈ xs, x.f1.length ≤ 1048576) :
  Calls Try.prog 106 #[v, .func (.func 107) #[] #[]] w fun e' w' => e' = .returned (.tuple #[]) ∧ Kd.S k53 53 w' base ok v (srt cmpF xs) ∧ w.grownBy w' v.ownBlock := by
 have hc := sort_structs (P := Try.prog) (ρ := Shl.sortF_ren) Shl.sortF (d := k53) (Nat.succ_pos 1) (fun w => by exact Try.isAgg53 w) (fun w => by exact Try.sizeOf53 w) cmpF swoF 107 (enters_of Try.func107 (by kernel_rfl) rfl)
  (fun W x y cx cy hx hy kx ky => by
   obtain ⟨A1, c1, rfl, l1, g1⟩ := k53_open kx
   obtain ⟨A2, c2, rfl, l2, g2⟩ := k53_open ky
   obtain ⟨k, hk⟩ := ev_some (compareF_ev x y (hb x hx) (hb y hy))
   exact impl_compareFacts.grw k x.f0 A1 c1 x.f1 y.f0 A2 c2 y.f1 (cmpF x y) W g1 l1 g2 l2 hk) h hlen
 refine hc.mono ?_
 rintro e' w' ⟨rfl, ys, hp, hs, hS, hg⟩
 have e := srt_eq swoF (xs := xs) (fun a b _ _ => antiF a b) hp hs
 subst e
 exact ⟨rfl, hS, hg⟩
end Go.Proofs.Ytjglknoebaojgaa.P

