/- Several texts in one: what the claim needs of them. Conditions: each declaration's own. -/
import Derived.Test.YtpdpgfagklhpaaaGreatZIndVDef
namespace Go.Proofs.YtpdpgfagklhpaaaGreat.V
open Go
set_option linter.unusedVariables false
set_option linter.unusedSimpArgs false
abbrev Heap := Array Go.Obj
structure BI where
  b : Nat
  off : Nat
  cap : Nat
  isNil : Bool
def BI.addr (x : BI) : Option Addr := if x.isNil then none else some ⟨x.b, x.off, none⟩
/-- Laid out in blocks of Z. -/
inductive Rep (h : Heap) (Z : Nat → Prop) : Value → T → Prop where
  | b (x : Bool) : Rep h Z (.bool x) (.b x)
  | i (k : IntKind) (n : Int) : Rep h Z (.int k n) (.i k n)
  | s (x : ByteArray) : Rep h Z (.string x) (.s x)
  | nl : Rep h Z (.slice none 0 0) .nl
  | sl0 : Rep h Z (.slice none 0 0) (.sl [])
  | sl1 (a : Addr) : Rep h Z (.slice (some a) 0 0) (.sl [])
  | sl (blk off cap sz : Nat) (cells : Array Value) (e : TypeId) (fz : Nat × Nat) (vs : Nat → Nat → Value) (rows : List (List T))
      (hz : Z blk) (hh : h[blk]? = some (.cells cells e fz)) (hc : rows.length ≤ cap) (hr : ∀ r ∈ rows, r.length = sz)
      (hv : ∀ (i : Nat) (r : List T) (j : Nat) (t : T), rows[i]? = some r → r[j]? = some t → cells[off + (i * sz + j)]? = some (vs i j))
      (hn : ∀ (i : Nat) (r : List T) (j : Nat) (t : T), rows[i]? = some r → r[j]? = some t → Rep h Z (vs i j) t) :
      Rep h Z (.slice (some ⟨blk, off, none⟩) rows.length cap) (.sl rows)
/-- Laid out in blocks of S, each slice in blocks of its own. -/
inductive RepO (h : Heap) : (Nat → Prop) → Value → T → Prop where
  | b (S : Nat → Prop) (x : Bool) : RepO h S (.bool x) (.b x)
  | i (S : Nat → Prop) (k : IntKind) (n : Int) : RepO h S (.int k n) (.i k n)
  | s (S : Nat → Prop) (x : ByteArray) : RepO h S (.string x) (.s x)
  | nl (S : Nat → Prop) : RepO h S (.slice none 0 0) .nl
  | sl0 (S : Nat → Prop) : RepO h S (.slice none 0 0) (.sl [])
  | sl (S : Nat → Prop) (blk off cap sz : Nat) (cells : Array Value) (e : TypeId) (f : Nat → Nat × Nat) (vs : Nat → Nat → Value) (rows : List (List T))
      (hz : S blk) (hh : h[blk]? = some (.cells cells e (0, 0))) (hc : rows.length ≤ cap) (hcs : off + cap * sz ≤ cells.size) (hr : ∀ r ∈ rows, r.length = sz)
      (hv : ∀ (i : Nat) (r : List T) (j : Nat) (t : T), rows[i]? = some r → r[j]? = some t → cells[off + (i * sz + j)]? = some (vs i j))
      (hn : ∀ (i : Nat) (r : List T) (j : Nat) (t : T), rows[i]? = some r → r[j]? = some t → RepO h (fun b => S b ∧ b ≠ blk ∧ f b = (i, j)) (vs i j) t) :
      RepO h S (.slice (some ⟨blk, off, none⟩) rows.length cap) (.sl rows)
theorem Rep.mono {h h' : Heap} {Z Z' : Nat → Prop} (hz : ∀ b, Z b → Z' b ∧ h'[b]? = h[b]?) {v : Value} {t : T} (H : Rep h Z v t) : Rep h' Z' v t := by
  induction H with
  | b x => exact .b x
  | i k n => exact .i k n
  | s x => exact .s x
  | nl => exact .nl
  | sl0 => exact .sl0
  | sl1 a => exact .sl1 a
  | sl blk off cap sz cells e fz vs rows h1 h2 h3 h4 h5 _ ih => exact .sl blk off cap sz cells e fz vs rows (hz _ h1).1 ((hz _ h1).2.trans h2) h3 h4 h5 ih
theorem RepO.mono {h h' : Heap} {S : Nat → Prop} {v : Value} {t : T} (H : RepO h S v t) : ∀ {S' : Nat → Prop}, (∀ b, S b → S' b ∧ h'[b]? = h[b]?) → RepO h' S' v t := by
  induction H with
  | b S x => exact fun _ => .b _ x
  | i S k n => exact fun _ => .i _ k n
  | s S x => exact fun _ => .s _ x
  | nl S => exact fun _ => .nl _
  | sl0 S => exact fun _ => .sl0 _
  | sl S blk off cap sz cells e f vs rows h1 h2 h3 hcs h4 h5 _ ih =>
    intro S' hs
    exact .sl S' blk off cap sz cells e f vs rows (hs _ h1).1 ((hs _ h1).2.trans h2) h3 hcs h4 h5 fun i r j t hi hj => ih i r j t hi hj fun b hb => ⟨⟨(hs _ hb.1).1, hb.2⟩, (hs _ hb.1).2⟩
theorem RepO.rep {h : Heap} {S : Nat → Prop} {v : Value} {t : T} (H : RepO h S v t) : ∀ {Z : Nat → Prop}, (∀ b, S b → Z b) → Rep h Z v t := by
  induction H with
  | b S x => exact fun _ => .b x
  | i S k n => exact fun _ => .i k n
  | s S x => exact fun _ => .s x
  | nl S => exact fun _ => .nl
  | sl0 S => exact fun _ => .sl0
  | sl S blk off cap sz cells e f vs rows h1 h2 h3 hcs h4 h5 _ ih =>
    intro Z hs
    exact .sl blk off cap sz cells e _ vs rows (hs _ h1) h2 h3 h4 h5 fun i r j t hi hj => ih i r j t hi hj fun b hb => hs _ hb.1
/-- From a slice's value and rows the path leads to that slice's value and rows. -/
inductive At (h : Heap) : Value → List (List T) → List (Nat × Nat) → Value → List (List T) → Prop where
  | nil (v : Value) (rows : List (List T)) : At h v rows [] v rows
  | cons (b off len cap sz : Nat) (cells : Array Value) (e : TypeId) (fz : Nat × Nat) (rows q : List (List T)) (r : List T) (i j : Nat) (p : List (Nat × Nat)) (v1 v' : Value) (rows' : List (List T))
      (hh : h[b]? = some (.cells cells e fz)) (hr : ∀ r ∈ rows, r.length = sz) (hv : cells[off + (i * sz + j)]? = some v1) (hi : rows[i]? = some r) (hj : r[j]? = some (.sl q))
      (ha : At h v1 q p v' rows') : At h (.slice (some ⟨b, off, none⟩) len cap) rows ((i, j) :: p) v' rows'
theorem At.rowsAt {h : Heap} {v v' : Value} {rows rows' : List (List T)} {p : List (Nat × Nat)} (H : At h v rows p v' rows') : rowsAt rows p = some rows' := by
  induction H with
  | nil v rows => rfl
  | cons b off len cap sz cells e fz rows q r i j p v1 v' rows' hh hr hv hi hj _ ih => simp [V.rowsAt, hi, hj, ih]
/-- The age of a name's slice: a whole one's length, an inner one's stamp. -/
def VO.age (x : VO) (p : List (Nat × Nat)) : Option Nat := match x with
  | .arr _ st _ rows => some (match p with | [] => rows.length | _ => st)
  | _ => none
def VO.val (x : VO) (bi : BI) : Value := match x with
  | .arr _ _ _ rows => .slice bi.addr rows.length bi.cap
  | _ => .bool false
def VO.all (x : VO) : List (List T) := match x with
  | .arr _ _ _ rows => rows
  | _ => []
def VO.wid (x : VO) : Nat := match x with
  | .arr _ _ sz _ => sz
  | _ => 0
def RefOk (x : VO) (bi : BI) (h : Heap) (v : Nat) (p : List (Nat × Nat)) (val : Value) : Prop :=
  (∀ a, x.age p = some a → v ≤ a) ∧ (x.age p = some v → (V.rowsAt x.all p).isSome) ∧ ∀ q, x.rows v p = some q → At h (x.val bi) x.all p val q
def EptrOk (x : VO) (bi : BI) (h : Heap) (v : Nat) (p : List (Nat × Nat)) (i j : Nat) (ad : Addr) : Prop :=
  (∀ a, x.age p = some a → v ≤ a) ∧ (x.age p = some v → (V.rowsAt x.all p).isSome) ∧ ∀ q, x.rows v p = some q → ∃ b off len cap sz, At h (x.val bi) x.all p (.slice (some ⟨b, off, none⟩) len cap) q ∧ (∀ r ∈ q, r.length = sz) ∧ i < q.length ∧ ad = ⟨b, off + (i * sz + j), none⟩
inductive AVRel (ob : Nat → VO) (β : Nat → BI) (C : Nat → Prop) (h : Heap) (Z : Nat → Prop) : Value → AV → Prop where
  | t (v : Value) (x : T) (hx : Rep h Z v x) : AVRel ob β C h Z v (.t x)
  | ref (o v : Nat) (p : List (Nat × Nat)) (a : Option Addr) (l c : Nat) (hc : C o) (hx : RefOk (ob o) (β o) h v p (.slice a l c)) (hl : p = [] → l = v) : AVRel ob β C h Z (.slice a l c) (.ref o v p)
  | ptr (o off : Nat) (ad : Addr) (hc : C o) (hx : ∀ cs, ob o = .box cs → ad = ⟨(β o).b, off, none⟩) : AVRel ob β C h Z (.pointer (some ad)) (.ptr o off)
  | eptr (o v : Nat) (p : List (Nat × Nat)) (i j : Nat) (ad : Addr) (hc : C o) (hx : EptrOk (ob o) (β o) h v p i j ad) : AVRel ob β C h Z (.pointer (some ad)) (.eptr o v p i j)
  | fptr (blk off : Nat) (cs : Array Value) (e : TypeId) (fz : Nat × Nat) (cells : List T) (hz : Z blk) (hh : h[blk]? = some (.cells cs e fz))
      (hv : ∀ (j : Nat) (t : T), cells[j]? = some t → ∃ v, cs[off + j]? = some v ∧ Rep h Z v t) : AVRel ob β C h Z (.pointer (some ⟨blk, off, none⟩)) (.fptr cells)
  | np : AVRel ob β C h Z (.pointer none) .np
  | nf : AVRel ob β C h Z .nilFunc .np
  | clo (f : Nat) (vs : Array Value) (caps : List AV) (hs : vs.size = caps.length)
      (hv : ∀ (i : Nat) (v : Value) (a : AV), vs[i]? = some v → caps[i]? = some a → AVRel ob β C h Z v a) : AVRel ob β C h Z (.func (.func f) #[] vs) (.clo f caps)
  | agg (vs : Array Value) (cells : List AV) (hs : vs.size = cells.length)
      (hv : ∀ (i : Nat) (v : Value) (a : AV), vs[i]? = some v → cells[i]? = some a → AVRel ob β C h Z v a) : AVRel ob β C h Z (.agg vs) (.agg cells)
  | tup (vs : Array Value) (cells : List AV) (hs : vs.size = cells.length)
      (hv : ∀ (i : Nat) (v : Value) (a : AV), vs[i]? = some v → cells[i]? = some a → AVRel ob β C h Z v a) : AVRel ob β C h Z (.tuple vs) (.tup cells)
  | undef (v : Value) : AVRel ob β C h Z v .undef
/-- How an object may go on: what its names say stays. -/
structure Evo (x : VO) (bi : BI) (h : Heap) (x' : VO) (bi' : BI) (h' : Heap) : Prop where
  age : ∀ p a', x'.age p = some a' → ∃ a, x.age p = some a ∧ a ≤ a'
  rows : ∀ p v, x.age p = some v → x'.age p = some v → (V.rowsAt x.all p).isSome → (V.rowsAt x'.all p).isSome ∧ ∀ q', x'.rows v p = some q' → ∃ q, x.rows v p = some q ∧ q'.length = q.length ∧ (∀ sz, (∀ r ∈ q, r.length = sz) → ∀ r ∈ q', r.length = sz) ∧
    ∀ val, At h (x.val bi) x.all p val q → At h' (x'.val bi') x'.all p val q'
  box : ∀ cs', x' = .box cs' → (∃ cs, x = .box cs) ∧ bi' = bi
theorem VO.rows_age {x : VO} {v : Nat} {p : List (Nat × Nat)} {q : List (List T)} (h : x.rows v p = some q) : x.age p = some v := by
  cases x with
  | box cs => simp [VO.rows] at h
  | dead => simp [VO.rows] at h
  | arr m st sz rows =>
    cases p with
    | nil =>
      simp only [VO.rows] at h
      split at h
      · rename_i hl; simp [VO.age, hl]
      · cases h
    | cons a p =>
      obtain ⟨i, j⟩ := a
      simp only [VO.rows] at h
      cases m with
      | own k =>
        simp only at h
        split at h
        · rename_i hl; simp [VO.age, hl.1]
        · cases h
      | shr => cases h
      | frz => cases h
theorem Evo.at_ {x x' : VO} {bi bi' : BI} {h h' : Heap} (hE : Evo x bi h x' bi' h') {v : Nat} {p : List (Nat × Nat)} (h1 : ∀ a, x.age p = some a → v ≤ a) (h2 : x'.age p = some v) : x.age p = some v := by
  obtain ⟨a, ha, hle⟩ := hE.age p v h2
  have : a = v := Nat.le_antisymm hle (h1 a ha)
  rw [ha, this]
theorem RefOk.mono {x x' : VO} {bi bi' : BI} {h h' : Heap} (hE : Evo x bi h x' bi' h') {v : Nat} {p : List (Nat × Nat)} {val : Value} (H : RefOk x bi h v p val) : RefOk x' bi' h' v p val := by
  refine ⟨fun a' ha' => ?_, fun ha' => ?_, fun q' hq' => ?_⟩
  · obtain ⟨a, ha, hle⟩ := hE.age p a' ha'
    exact Nat.le_trans (H.1 a ha) hle
  · have h1 := hE.at_ H.1 ha'
    exact (hE.rows p v h1 ha' (H.2.1 h1)).1
  · have h2 := VO.rows_age hq'
    have h1 := hE.at_ H.1 h2
    obtain ⟨q, hq, _, _, hat⟩ := (hE.rows p v h1 h2 (H.2.1 h1)).2 q' hq'
    exact hat _ (H.2.2 q hq)
theorem EptrOk.mono {x x' : VO} {bi bi' : BI} {h h' : Heap} (hE : Evo x bi h x' bi' h') {v : Nat} {p : List (Nat × Nat)} {i j : Nat} {ad : Addr} (H : EptrOk x bi h v p i j ad) : EptrOk x' bi' h' v p i j ad := by
  refine ⟨fun a' ha' => ?_, fun ha' => ?_, fun q' hq' => ?_⟩
  · obtain ⟨a, ha, hle⟩ := hE.age p a' ha'
    exact Nat.le_trans (H.1 a ha) hle
  · have h1 := hE.at_ H.1 ha'
    exact (hE.rows p v h1 ha' (H.2.1 h1)).1
  · have h2 := VO.rows_age hq'
    have h1 := hE.at_ H.1 h2
    obtain ⟨q, hq, hlen, hsz, hat⟩ := (hE.rows p v h1 h2 (H.2.1 h1)).2 q' hq'
    obtain ⟨b, off, len, cap, sz, h1, h2, h3, h4⟩ := H.2.2 q hq
    exact ⟨b, off, len, cap, sz, hat _ h1, hsz sz h2, hlen ▸ h3, h4⟩
theorem AVRel.mono {ob ob' : Nat → VO} {β β' : Nat → BI} {C C' : Nat → Prop} {h h' : Heap} {Z Z' : Nat → Prop}
    (hZ : ∀ b, Z b → Z' b ∧ h'[b]? = h[b]?) (hC : ∀ o, C o → C' o ∧ Evo (ob o) (β o) h (ob' o) (β' o) h') {v : Value} {a : AV}
    (H : AVRel ob β C h Z v a) : AVRel ob' β' C' h' Z' v a := by
  induction H with
  | t v x hx => exact .t v x (hx.mono hZ)
  | ref o v p a l c hc hx hl => exact .ref o v p a l c (hC o hc).1 (hx.mono (hC o hc).2) hl
  | ptr o off ad hc hx =>
    refine .ptr o off ad (hC o hc).1 fun cs' hcs' => ?_
    obtain ⟨⟨cs, hcs⟩, hb⟩ := (hC o hc).2.box cs' hcs'
    rw [hb]; exact hx cs hcs
  | eptr o v p i j ad hc hx => exact .eptr o v p i j ad (hC o hc).1 (hx.mono (hC o hc).2)
  | fptr blk off cs e fz cells hz hh hv => exact .fptr blk off cs e fz cells (hZ _ hz).1 ((hZ _ hz).2.trans hh) fun j t ht => let ⟨v, h1, h2⟩ := hv j t ht; ⟨v, h1, h2.mono hZ⟩
  | np => exact .np
  | nf => exact .nf
  | clo f vs caps hs hv ih => exact .clo f vs caps hs ih
  | agg vs cells hs hv ih => exact .agg vs cells hs ih
  | tup vs cells hs hv ih => exact .tup vs cells hs ih
  | undef v => exact .undef v
theorem Evo.same {x : VO} {bi : BI} {h h' : Heap} (hA : ∀ v p q val, x.rows v p = some q → At h (x.val bi) x.all p val q → At h' (x.val bi) x.all p val q) : Evo x bi h x bi h' :=
  ⟨fun p a' ha => ⟨a', ha, Nat.le_refl _⟩, fun p v _ _ hs => ⟨hs, fun q' hq => ⟨q', hq, rfl, fun _ h => h, fun val => hA v p q' val hq⟩⟩, fun cs' h => ⟨⟨cs', h⟩, rfl⟩⟩
theorem Evo.dead {x : VO} {bi bi' : BI} {h h' : Heap} : Evo x bi h .dead bi' h' :=
  ⟨fun p a' ha => by simp [VO.age] at ha, fun p v _ ha _ => by simp [VO.age] at ha, fun cs' h => by cases h⟩
theorem Evo.trans {x y z : VO} {a b c : BI} {h1 h2 h3 : Heap} (H : Evo x a h1 y b h2) (H' : Evo y b h2 z c h3) : Evo x a h1 z c h3 := by
  refine ⟨fun p a' ha => ?_, fun p v hx hz hs => ?_, fun cs' hz => ?_⟩
  · obtain ⟨a1, h1, h2⟩ := H'.age p a' ha
    obtain ⟨a2, h3, h4⟩ := H.age p a1 h1
    exact ⟨a2, h3, Nat.le_trans h4 h2⟩
  · obtain ⟨a1, ha1, hle1⟩ := H'.age p v hz
    obtain ⟨a2, ha2, hle2⟩ := H.age p a1 ha1
    have e2 : a2 = v := Option.some.inj (ha2.symm.trans hx)
    subst e2
    have e1 : a1 = a2 := Nat.le_antisymm hle1 hle2
    subst e1
    have A := H.rows p a1 ha2 ha1 hs
    have B := H'.rows p a1 ha1 hz A.1
    refine ⟨B.1, fun q' hq => ?_⟩
    obtain ⟨q1, hq1, hl1, hs1, hA1⟩ := B.2 q' hq
    obtain ⟨q2, hq2, hl2, hs2, hA2⟩ := A.2 q1 hq1
    exact ⟨q2, hq2, hl1.trans hl2, fun sz h => hs1 sz (hs2 sz h), fun val h => hA1 val (hA2 val h)⟩
  · obtain ⟨⟨cs, hcs⟩, e⟩ := H'.box cs' hz
    obtain ⟨hx, e'⟩ := H.box cs hcs
    exact ⟨hx, e.trans e'⟩
/-- A slice made here, its rows from k on owned. -/
structure ArrG (h : Heap) (S : Nat → Prop) (sz : Nat) (rows : List (List T)) (bi : BI) (N : Nat → Nat → Value → T → Prop) : Prop where
  wid : ∀ r ∈ rows, r.length = sz
  cap : rows.length ≤ bi.cap
  nil : bi.isNil = true → bi.cap = 0
  blk : bi.isNil = false → S bi.b ∧ ∃ cells e, h[bi.b]? = some (.cells cells e (0, 0)) ∧ bi.off + bi.cap * sz ≤ cells.size ∧
    ∀ (i : Nat) (r : List T) (j : Nat) (t : T), rows[i]? = some r → r[j]? = some t → ∃ v, cells[bi.off + (i * sz + j)]? = some v ∧ N i j v t
def oneV : Value → Bool
  | .agg _ | .tuple _ => false
  | _ => true
def NOwn (h : Heap) (S : Nat → Prop) (bi : BI) (f : Nat → Nat × Nat) (k : Nat) (i j : Nat) (v : Value) (t : T) : Prop :=
  oneV v = true ∧ (t.flat = true → Rep h (fun _ => False) v t) ∧ (k ≤ i → RepO h (fun b => S b ∧ b ≠ bi.b ∧ f b = (i, j)) v t)
def ObjRel (ob : Nat → VO) (β : Nat → BI) (C : Nat → Prop) (h : Heap) (Z : Nat → Prop) (own : Nat → Option Nat) (o : Nat) : Prop :=
  match ob o with
  | .dead => True
  | .box cs => own (β o).b = some o ∧ ∃ cells e, h[(β o).b]? = some (.cells cells e (0, 0)) ∧ cells.size = cs.length ∧ cs.all AV.one = true ∧ ∀ (j : Nat) (v : Value) (a : AV), cells[j]? = some v → cs[j]? = some a → AVRel ob β C h Z v a
  | .arr (.own k) _ sz rows => ∃ f, ArrG h (fun b => own b = some o) sz rows (β o) (NOwn h (fun b => own b = some o) (β o) f k)
  | .arr .shr _ sz rows => ArrG h (fun b => own b = some o) sz rows (β o) (fun _ _ v t => Rep h Z v t)
  | .arr .frz _ sz rows => (∀ r ∈ rows, r.length = sz) ∧ Rep h Z (.slice (β o).addr rows.length (β o).cap) (.sl rows)
/-- What is told already and made later. -/
def Pend (x : VO) : Prop := (∃ cs, x = .box cs) ∨ ∃ sz, x = .arr (.own 0) 0 sz []
structure Rel (ob : Nat → VO) (β : Nat → BI) (C : Nat → Prop) (h : Heap) (Z : Nat → Prop) (own : Nat → Option Nat) : Prop where
  own_lt : ∀ b o, own b = some o → b < h.size
  zlt : ∀ b, Z b → b < h.size ∧ own b = none
  objs : ∀ o, C o → ObjRel ob β C h Z own o
  dead : ∀ o, ¬ C o → ob o = .dead ∨ Pend (ob o)
/-- A step over memory: what nobody here owns stays, and what is owned or readable later was so before, or is new. -/
structure Good (h : Heap) (Z : Nat → Prop) (own : Nat → Option Nat) (h' : Heap) (Z' : Nat → Prop) (own' : Nat → Option Nat) : Prop where
  sz : h.size ≤ h'.size
  keep : ∀ b, b < h.size → own b = none → h'[b]? = h[b]?
  ownb : ∀ b o, own' b = some o → (∃ o', own b = some o') ∨ h.size ≤ b
  zin : ∀ b, Z b → Z' b
  zout : ∀ b, Z' b → Z b ∨ (∃ o', own b = some o') ∨ h.size ≤ b
theorem Good.refl (h : Heap) (Z : Nat → Prop) (own : Nat → Option Nat) : Good h Z own h Z own := ⟨Nat.le_refl _, fun _ _ _ => rfl, fun b o h => .inl ⟨o, h⟩, fun _ h => h, fun _ h => .inl h⟩
theorem Good.trans {h h1 h2 : Heap} {Z Z1 Z2 : Nat → Prop} {o o1 o2 : Nat → Option Nat} (A : Good h Z o h1 Z1 o1) (B : Good h1 Z1 o1 h2 Z2 o2) : Good h Z o h2 Z2 o2 := by
  refine ⟨Nat.le_trans A.sz B.sz, fun b hb hn => ?_, fun b x hx => ?_, fun b hb => B.zin b (A.zin b hb), fun b hb => ?_⟩
  · have : o1 b = none := by
      cases h1 : o1 b with
      | none => rfl
      | some x =>
        rcases A.ownb b x h1 with ⟨y, hy⟩ | hge
        · rw [hn] at hy; cases hy
        · omega
    rw [B.keep b (Nat.lt_of_lt_of_le hb A.sz) this, A.keep b hb hn]
  · rcases B.ownb b x hx with ⟨y, hy⟩ | hge
    · exact A.ownb b y hy
    · exact .inr (Nat.le_trans A.sz hge)
  · rcases B.zout b hb with h1 | ⟨y, hy⟩ | hge
    · exact A.zout b h1
    · exact .inr (A.ownb b y hy)
    · exact .inr (.inr (Nat.le_trans A.sz hge))
end Go.Proofs.YtpdpgfagklhpaaaGreat.V

namespace Go.Proofs.YtpdpgfagklhpaaaGreat.V
open Go
set_option linter.unusedVariables false
set_option linter.unusedSimpArgs false
variable {ob ob' : Nat → VO} {β β' : Nat → BI} {C C' : Nat → Prop} {h h' : Heap} {Z Z' : Nat → Prop} {own own' : Nat → Option Nat}
theorem upd_same {α : Type} (f : Nat → α) (i : Nat) (x : α) : upd f i x i = x := by simp [upd]
theorem upd_ne {α : Type} (f : Nat → α) {i j : Nat} (x : α) (h : j ≠ i) : upd f i x j = f j := by simp [upd, h]
theorem ArrG.mono {S S' : Nat → Prop} {sz : Nat} {rows : List (List T)} {bi : BI} {N N' : Nat → Nat → Value → T → Prop} (H : ArrG h S sz rows bi N)
    (hS : ∀ b, S b → S' b ∧ h'[b]? = h[b]?) (hN : ∀ i j v t, N i j v t → N' i j v t) : ArrG h' S' sz rows bi N' := by
  refine ⟨H.wid, H.cap, H.nil, fun hb => ?_⟩
  obtain ⟨h1, cells, e, h2, h3, h4⟩ := H.blk hb
  refine ⟨(hS _ h1).1, cells, e, (hS _ h1).2.trans h2, h3, fun i r j t hi hj => ?_⟩
  obtain ⟨v, h5, h6⟩ := h4 i r j t hi hj
  exact ⟨v, h5, hN i j v t h6⟩
theorem NOwn.mono {S S' : Nat → Prop} {bi : BI} {f : Nat → Nat × Nat} {k i j : Nat} {v : Value} {t : T} (H : NOwn h S bi f k i j v t) (hS : ∀ b, S b → S' b ∧ h'[b]? = h[b]?) : NOwn h' S' bi f k i j v t :=
  ⟨H.1, fun hf => (H.2.1 hf).mono (fun b hb => hb.elim), fun hk => (H.2.2 hk).mono fun b hb => ⟨⟨(hS b hb.1).1, hb.2⟩, (hS b hb.1).2⟩⟩
theorem ObjRel.mono {o : Nat} (hob : ob' o = ob o) (hβ : β' o = β o) (hown : ∀ b, own b = some o → own' b = some o ∧ h'[b]? = h[b]?) (hZ : ∀ b, Z b → Z' b ∧ h'[b]? = h[b]?)
    (hAV : ∀ v a, AVRel ob β C h Z v a → AVRel ob' β' C' h' Z' v a) (H : ObjRel ob β C h Z own o) : ObjRel ob' β' C' h' Z' own' o := by
  unfold ObjRel at H ⊢
  rw [hob, hβ]
  split
  · trivial
  · rename_i cs heq
    rw [heq] at H
    obtain ⟨h1, cells, e, h2, h3, h4, h5⟩ := H
    exact ⟨(hown _ h1).1, cells, e, (hown _ h1).2.trans h2, h3, h4, fun j v a hj ha => hAV v a (h5 j v a hj ha)⟩
  · rename_i k st sz rows heq
    rw [heq] at H
    obtain ⟨f, H⟩ := H
    exact ⟨f, H.mono hown fun i j v t hN => hN.mono hown⟩
  · rename_i st sz rows heq
    rw [heq] at H
    exact ArrG.mono H hown fun i j v t hN => hN.mono hZ
  · rename_i st sz rows heq
    rw [heq] at H
    exact ⟨H.1, H.2.mono hZ⟩
/-- From one state of memory and knowledge to another. -/
structure Mv (ob : Nat → VO) (β : Nat → BI) (C : Nat → Prop) (h : Heap) (Z : Nat → Prop) (own : Nat → Option Nat) (ob' : Nat → VO) (β' : Nat → BI) (C' : Nat → Prop) (h' : Heap) (Z' : Nat → Prop) (own' : Nat → Option Nat) : Prop where
  rel : Rel ob' β' C' h' Z' own'
  good : Good h Z own h' Z' own'
  evo : ∀ o, C o → C' o ∧ Evo (ob o) (β o) h (ob' o) (β' o) h'
theorem Mv.refl (R : Rel ob β C h Z own) : Mv ob β C h Z own ob β C h Z own := ⟨R, .refl _ _ _, fun o ho => ⟨ho, .same fun _ _ _ _ _ ha => ha⟩⟩
theorem Mv.trans {ob2 : Nat → VO} {β2 : Nat → BI} {C2 : Nat → Prop} {h2 : Heap} {Z2 : Nat → Prop} {own2 : Nat → Option Nat} (A : Mv ob β C h Z own ob' β' C' h' Z' own') (B : Mv ob' β' C' h' Z' own' ob2 β2 C2 h2 Z2 own2) : Mv ob β C h Z own ob2 β2 C2 h2 Z2 own2 :=
  ⟨B.rel, A.good.trans B.good, fun o ho => ⟨(B.evo o (A.evo o ho).1).1, (A.evo o ho).2.trans (B.evo o (A.evo o ho).1).2⟩⟩
theorem Mv.zkeep (R : Rel ob β C h Z own) (A : Mv ob β C h Z own ob' β' C' h' Z' own') : ∀ b, Z b → Z' b ∧ h'[b]? = h[b]? :=
  fun b hb => ⟨A.good.zin b hb, A.good.keep b (R.zlt b hb).1 (R.zlt b hb).2⟩
theorem Mv.av (R : Rel ob β C h Z own) (A : Mv ob β C h Z own ob' β' C' h' Z' own') {v : Value} {a : AV} (H : AVRel ob β C h Z v a) : AVRel ob' β' C' h' Z' v a :=
  H.mono (A.zkeep R) A.evo
theorem getElem?_push_lt {α : Type} {a : Array α} {x : α} {i : Nat} (hi : i < a.size) : (a.push x)[i]? = a[i]? := by
  rw [Array.getElem?_push]; split
  · omega
  · rfl
/-- An At over memory that keeps the blocks it had. -/
theorem At.keep {v v' : Value} {rows rows' : List (List T)} {p : List (Nat × Nat)} (H : At h v rows p v' rows') (hk : ∀ (b : Nat) (c : Array Value) (e : TypeId) (fz : Nat × Nat), h[b]? = some (Go.Obj.cells c e fz) → h'[b]? = h[b]?) : At h' v rows p v' rows' := by
  induction H with
  | nil v rows => exact .nil v rows
  | cons b off len cap sz cells e fz rows q r i j p v1 v' rows' hh hr hv hi hj _ ih => exact .cons b off len cap sz cells e fz rows q r i j p v1 v' rows' ((hk b _ _ _ hh).trans hh) hr hv hi hj ih
theorem At.inv0 {v v' : Value} {rows rows' : List (List T)} {p : List (Nat × Nat)} (H : At h v rows p v' rows') (hp : p = []) : v' = v ∧ rows' = rows := by
  cases H with
  | nil v rows => exact ⟨rfl, rfl⟩
  | cons => cases hp
theorem At.inv1 {v v' : Value} {rows rows' : List (List T)} {p p' : List (Nat × Nat)} {i j : Nat} (H : At h v rows p v' rows') (hp : p = (i, j) :: p') :
    ∃ b off len cap sz cells e fz q r v1, v = .slice (some ⟨b, off, none⟩) len cap ∧ h[b]? = some (Go.Obj.cells cells e fz) ∧ (∀ r ∈ rows, r.length = sz) ∧ cells[off + (i * sz + j)]? = some v1 ∧ rows[i]? = some r ∧ r[j]? = some (.sl q) ∧ At h v1 q p' v' rows' := by
  cases H with
  | nil v rows => cases hp
  | cons b off len cap sz cells e fz rows q r i j p v1 v' rows' hh hr hv hi hj ha =>
    cases hp
    exact ⟨b, off, len, cap, sz, cells, e, fz, q, r, v1, rfl, hh, hr, hv, hi, hj, ha⟩
theorem getElem?_lt {α : Type} {a : Array α} {i : Nat} {x : α} (h : a[i]? = some x) : i < a.size := by
  rcases Nat.lt_or_ge i a.size with h1 | h1
  · exact h1
  · rw [Array.getElem?_eq_none h1] at h; cases h
theorem At.push {v v' : Value} {rows rows' : List (List T)} {p : List (Nat × Nat)} {x : Go.Obj} (H : At h v rows p v' rows') : At (h.push x) v rows p v' rows' :=
  H.keep fun b c e fz hb => getElem?_push_lt (getElem?_lt hb)
theorem AVRel.one {v : Value} {a : AV} (H : AVRel ob β C h Z v a) (h1 : a.one = true) : oneV v = true := by
  cases H with
  | t v x hx => cases hx <;> rfl
  | agg => cases h1
  | tup => cases h1
  | undef => cases h1
  | _ => rfl
/-- A new object in a new block. -/
theorem Mv.new (R : Rel ob β C h Z own) {n : Nat} (hn : ¬ C n) (x : VO) (bi : BI) (obj : Go.Obj)
    (hx : ObjRel (upd ob n x) (upd β n bi) (fun o => C o ∨ o = n) (h.push obj) Z (upd own h.size (some n)) n) :
    Mv ob β C h Z own (upd ob n x) (upd β n bi) (fun o => C o ∨ o = n) (h.push obj) Z (upd own h.size (some n)) := by
  have hne : ∀ o, C o → o ≠ n := fun o ho e => hn (e ▸ ho)
  have hk : ∀ b, b < h.size → (h.push obj)[b]? = h[b]? := fun b hb => getElem?_push_lt hb
  have hevo : ∀ o, C o → (C o ∨ o = n) ∧ Evo (ob o) (β o) h (upd ob n x o) (upd β n bi o) (h.push obj) := fun o ho => by
    rw [upd_ne _ _ (hne o ho), upd_ne _ _ (hne o ho)]
    exact ⟨.inl ho, .same fun _ _ _ _ _ ha => ha.push⟩
  have hZ : ∀ b, Z b → Z b ∧ (h.push obj)[b]? = h[b]? := fun b hb => ⟨hb, hk b (R.zlt b hb).1⟩
  refine ⟨⟨fun b o hb => ?_, fun b hb => ?_, fun o ho => ?_, fun o ho => ?_⟩, ⟨by simp, fun b hb _ => hk b hb, fun b o hb => ?_, fun _ h => h, fun _ h => .inl h⟩, hevo⟩
  · by_cases e : b = h.size
    · subst e; simp
    · rw [upd_ne _ _ e] at hb
      have := R.own_lt b o hb
      simp; omega
  · have := R.zlt b hb
    exact ⟨by simp; omega, by rw [upd_ne _ _ (by omega)]; exact this.2⟩
  · rcases ho with ho | rfl
    · refine ObjRel.mono (upd_ne _ _ (hne o ho)) (upd_ne _ _ (hne o ho)) (fun b hb => ?_) hZ (fun v a => AVRel.mono hZ hevo) (R.objs o ho)
      have := R.own_lt b o hb
      exact ⟨by rw [upd_ne _ _ (by omega)]; exact hb, hk b this⟩
    · exact hx
  · have : o ≠ n := fun e => ho (.inr e)
    rw [upd_ne _ _ this]
    exact R.dead o fun hc => ho (.inl hc)
  · by_cases e : b = h.size
    · exact .inr (Nat.le_of_eq e.symm)
    · rw [upd_ne _ _ e] at hb; exact .inl ⟨o, hb⟩
theorem RepO.ofArr {S : Nat → Prop} {sz : Nat} {rows : List (List T)} {bi : BI} {f : Nat → Nat × Nat} (H : ArrG h S sz rows bi (NOwn h S bi f 0)) : RepO h S (.slice bi.addr rows.length bi.cap) (.sl rows) := by
  unfold BI.addr
  cases hb : bi.isNil with
  | true =>
    have h1 := H.nil hb
    have h2 := H.cap
    have : rows = [] := List.eq_nil_of_length_eq_zero (by omega)
    subst this
    simp only [if_pos, h1]
    exact .sl0 _
  | false =>
    obtain ⟨h1, cells, e, h2, h3, h4⟩ := H.blk hb
    have : ∃ vs : Nat → Nat → Value, ∀ i r j t, rows[i]? = some r → r[j]? = some t → cells[bi.off + (i * sz + j)]? = some (vs i j) ∧ NOwn h S bi f 0 i j (vs i j) t := by
      refine ⟨fun i j => (cells[bi.off + (i * sz + j)]?).getD default, fun i r j t hi hj => ?_⟩
      obtain ⟨v, h5, h6⟩ := h4 i r j t hi hj
      simp only [h5, Option.getD_some]
      exact ⟨trivial, h6⟩
    obtain ⟨vs, hvs⟩ := this
    exact .sl S bi.b bi.off bi.cap sz cells e f vs rows h1 h2 H.cap h3 H.wid (fun i r j t hi hj => (hvs i r j t hi hj).1) fun i r j t hi hj => (hvs i r j t hi hj).2.2.2 (Nat.zero_le _)
theorem Rep.ofArr {S : Nat → Prop} {sz : Nat} {rows : List (List T)} {bi : BI} (hS : ∀ b, S b → Z b) (H : ArrG h S sz rows bi (fun _ _ v t => Rep h Z v t)) : Rep h Z (.slice bi.addr rows.length bi.cap) (.sl rows) := by
  unfold BI.addr
  cases hb : bi.isNil with
  | true =>
    have h1 := H.nil hb
    have h2 := H.cap
    have : rows = [] := List.eq_nil_of_length_eq_zero (by omega)
    subst this
    simp only [if_pos, h1]
    exact .sl0
  | false =>
    obtain ⟨h1, cells, e, h2, h3, h4⟩ := H.blk hb
    have : ∃ vs : Nat → Nat → Value, ∀ i r j t, rows[i]? = some r → r[j]? = some t → cells[bi.off + (i * sz + j)]? = some (vs i j) ∧ Rep h Z (vs i j) t := by
      refine ⟨fun i j => (cells[bi.off + (i * sz + j)]?).getD default, fun i r j t hi hj => ?_⟩
      obtain ⟨v, h5, h6⟩ := h4 i r j t hi hj
      simp only [h5, Option.getD_some]
      exact ⟨trivial, h6⟩
    obtain ⟨vs, hvs⟩ := this
    exact .sl bi.b bi.off bi.cap sz cells e (0, 0) vs rows (hS _ h1) h2 H.cap H.wid (fun i r j t hi hj => (hvs i r j t hi hj).1) fun i r j t hi hj => (hvs i r j t hi hj).2
/-- An object's blocks go to another owner, or to what is only read. -/
theorem Mv.give (R : Rel ob β C h Z own) (o : Nat) (x : VO) (S : Nat → Prop) [DecidablePred S] (hS : ∀ b, S b → own b = some o) (m : Option Nat) (hm : ∀ n, m = some n → ¬ C n) (Z' : Nat → Prop)
    (hZ' : ∀ b, Z' b ↔ Z b ∨ (m = none ∧ S b)) (hE : Evo (ob o) (β o) h x (β o) h) (hC : C o)
    (hx : (∀ v a, AVRel ob β C h Z v a → AVRel (upd ob o x) β C h Z' v a) → ObjRel (upd ob o x) β C h Z' (fun b => if S b then m else own b) o) :
    Mv ob β C h Z own (upd ob o x) β C h Z' (fun b => if S b then m else own b) := by
  have hZ : ∀ b, Z b → Z' b ∧ h[b]? = h[b]? := fun b hb => ⟨(hZ' b).2 (.inl hb), rfl⟩
  have hevo : ∀ o', C o' → C o' ∧ Evo (ob o') (β o') h (upd ob o x o') (β o') h := fun o' ho => by
    refine ⟨ho, ?_⟩
    by_cases e : o' = o
    · subst e; rw [upd_same]; exact hE
    · rw [upd_ne _ _ e]; exact .same fun _ _ _ _ _ ha => ha
  have hAV : ∀ v a, AVRel ob β C h Z v a → AVRel (upd ob o x) β C h Z' v a := fun v a => AVRel.mono hZ hevo
  refine ⟨⟨fun b o' hb => ?_, fun b hb => ?_, fun o' ho => ?_, fun o' ho => ?_⟩, ⟨Nat.le_refl _, fun _ _ _ => rfl, fun b o' hb => ?_, fun b hb => (hZ b hb).1, fun b hb => ?_⟩, hevo⟩
  · split at hb
    · exact R.own_lt b o (hS b (by assumption))
    · exact R.own_lt b o' hb
  · rcases (hZ' b).1 hb with h1 | ⟨h1, h2⟩
    · have := R.zlt b h1
      refine ⟨this.1, ?_⟩
      split
      · rename_i hs; rw [hS b hs] at this; cases this.2
      · exact this.2
    · exact ⟨R.own_lt b o (hS b h2), by rw [if_pos h2, h1]⟩
  · by_cases e : o' = o
    · subst e; exact hx hAV
    · refine ObjRel.mono (upd_ne _ _ e) rfl (fun b hb => ⟨?_, rfl⟩) hZ hAV (R.objs o' ho)
      rw [if_neg]
      · exact hb
      · intro hs; rw [hS b hs] at hb; exact e (Option.some.inj hb).symm
  · have : o' ≠ o := fun e => ho (e ▸ hC)
    rw [upd_ne _ _ this]; exact R.dead o' ho
  · split at hb
    · rename_i hs; exact .inl ⟨o, hS b hs⟩
    · exact .inl ⟨o', hb⟩
  · rcases (hZ' b).1 hb with h1 | ⟨_, h2⟩
    · exact .inl h1
    · exact .inr (.inl ⟨o, hS b h2⟩)
end Go.Proofs.YtpdpgfagklhpaaaGreat.V

namespace Go.Proofs.YtpdpgfagklhpaaaGreat.V
open Go
set_option linter.unusedVariables false
set_option linter.unusedSimpArgs false
variable {ob ob' : Nat → VO} {β β' : Nat → BI} {C C' : Nat → Prop} {h h' : Heap} {Z Z' : Nat → Prop} {own own' : Nat → Option Nat}
theorem Rep.repO {v : Value} {x : T} (H : Rep h Z v x) (hf : x.flat = true) (S : Nat → Prop) : RepO h S v x := by
  cases H with
  | b x => exact .b _ x
  | i k n => exact .i _ k n
  | s x => exact .s _ x
  | nl => cases hf
  | sl0 => cases hf
  | sl1 a => cases hf
  | sl => cases hf
theorem Rep.nz {v : Value} {x : T} (H : Rep h Z v x) : Rep h Z v x.nz := by
  cases x with
  | nl => cases H; exact .sl0
  | _ => exact H
theorem Rep.one {v : Value} {x : T} (H : Rep h Z v x) : oneV v = true := by cases H <;> rfl
theorem RepO.one {S : Nat → Prop} {v : Value} {x : T} (H : RepO h S v x) : oneV v = true := by cases H <;> rfl
theorem RefOk.whole {m : Md} {st sz : Nat} {rows : List (List T)} {bi : BI} {val : Value} (H : RefOk (.arr m st sz rows) bi h rows.length [] val) : val = .slice bi.addr rows.length bi.cap := by
  exact ((H.2.2 rows (by simp [VO.rows])).inv0 rfl).1
open Classical in
theorem absorb_ok {σ σ1 : Sto} {n : Nat} {a : AV} {x : T} {f : Bool} {v : Value} (R : Rel σ.ob β C h Z own) (hn : ¬ C n) (ha : absorb σ a = some (x, f, σ1)) (hv : AVRel σ.ob β C h Z v a) :
    σ1.n = σ.n ∧ ∃ (Z' : Nat → Prop) (own' : Nat → Option Nat) (S : Nat → Prop), Mv σ.ob β C h Z own σ1.ob β C h Z' own' ∧ oneV v = true ∧ (f = true → RepO h S v x) ∧ (f = false → Rep h Z' v x) ∧
      (∀ b, S b → own' b = some n ∧ own b ≠ some n) ∧ (∀ b, own b = some n → own' b = some n) := by
  cases hv with
  | t v y hx =>
    simp only [absorb, Option.some.injEq, Prod.mk.injEq] at ha
    obtain ⟨rfl, rfl, rfl⟩ := ha
    refine ⟨rfl, Z, own, fun _ => False, .refl R, hx.one, fun hf => ?_, fun _ => hx.nz, fun _ h => h.elim, fun _ h => h⟩
    cases hx with
    | b x => exact .b _ x
    | i k n => exact .i _ k n
    | s x => exact .s _ x
    | nl => exact .sl0 _
    | sl0 => cases hf
    | sl1 a => cases hf
    | sl => cases hf
  | ref o ver p ad l c hc hx hl0 =>
    have hno : o ≠ n := fun e => hn (e ▸ hc)
    have hon : ∀ b, own b = some o → own b ≠ some n := fun b h1 h2 => hno (Option.some.inj (h1.symm.trans h2))
    simp only [absorb] at ha
    have HO := R.objs o hc
    unfold ObjRel at HO
    split at ha
    · rename_i k st sz rows heq
      rw [heq] at HO hx
      simp only at HO
      obtain ⟨fo, HO⟩ := HO
      split at ha
      · split at ha
        · rename_i hcond
          obtain ⟨hl, rfl⟩ := hcond
          simp only [Option.some.injEq, Prod.mk.injEq] at ha
          obtain ⟨rfl, rfl, rfl⟩ := ha
          subst hl
          have hval := hx.whole
          have hro := RepO.ofArr HO
          rw [← hval] at hro
          refine ⟨rfl, Z, fun b => if own b = some o then some n else own b, fun b => own b = some o, ?_, hro.one, fun _ => hro, (by intro h; cases h), fun b hb => ⟨by simp [hb], hon b hb⟩, fun b hb => ?_⟩
          · refine Mv.give R o .dead (fun b => own b = some o) (fun _ h => h) (some n) (fun m hm => by cases hm; exact hn) Z (fun b => by simp) Evo.dead hc fun _ => ?_
            unfold ObjRel; rw [upd_same]; trivial
          · by_cases e : own b = some o
            · simp [e]
            · simp only [e, if_false]; exact hb
        · cases ha
      · rename_i i j
        split at ha
        · rename_i hcond
          obtain ⟨hst, hki⟩ := hcond
          split at ha
          · rename_i r hr
            split at ha
            · rename_i q hq
              split at ha
              · rename_i hflat
                simp only [Option.some.injEq, Prod.mk.injEq] at ha
                obtain ⟨rfl, rfl, rfl⟩ := ha
                have hat := hx.2.2 q (by simp [VO.rows, hst, hki, V.rowsAt, hr, hq])
                have hnil : (β o).isNil = false := by
                  cases hb : (β o).isNil with
                  | false => rfl
                  | true =>
                    have h1 := HO.nil hb
                    have h2 := HO.cap
                    have : rows = [] := List.eq_nil_of_length_eq_zero (by omega)
                    rw [this] at hr; simp at hr
                obtain ⟨hS, cells, e, hh, hcs, hel⟩ := HO.blk hnil
                obtain ⟨v1, hv1, hN⟩ := hel i r j _ hr hq
                have hv1e : v1 = .slice ad l c := by
                  obtain ⟨b, off, len, cap, sz', cells', e', fz, q', r', v1', hve, hh', hr', hv', hi', hj', ha'⟩ := hat.inv1 rfl
                  simp only [VO.val, BI.addr, hnil] at hve
                  cases hve
                  simp only [VO.all] at hi' hr'
                  rw [hr] at hi'; cases hi'
                  rw [hq] at hj'; cases hj'
                  rw [hh] at hh'; cases hh'
                  have : sz' = sz := by rw [← hr' r (List.mem_of_getElem? hr), HO.wid r (List.mem_of_getElem? hr)]
                  subst this
                  rw [hv1] at hv'; cases hv'
                  exact (ha'.inv0 rfl).1.symm
                subst hv1e
                refine ⟨rfl, Z, fun b => if (own b = some o ∧ b ≠ (β o).b ∧ fo b = (i, j)) then some n else own b, fun b => own b = some o ∧ b ≠ (β o).b ∧ fo b = (i, j), ?_, rfl, fun _ => hN.2.2 hki, (by intro h; cases h), fun b hb => ⟨if_pos hb, hon b hb.1⟩, fun b hb => ?_⟩
                · refine Mv.give R o _ (fun b => own b = some o ∧ b ≠ (β o).b ∧ fo b = (i, j)) (fun _ h => h.1) (some n) (fun m hm => by cases hm; exact hn) Z (fun b => by simp) ?_ hc fun _ => ?_
                  · rw [heq]
                    refine ⟨fun p a' ha => ⟨a', ha, Nat.le_refl _⟩, fun p v h1 _ hs => ⟨hs, fun q' h2 => ⟨q', ?_, rfl, fun _ h => h, fun val h => h⟩⟩, fun cs' h => by cases h⟩
                    cases p with
                    | nil => exact h2
                    | cons ij p =>
                      obtain ⟨i', j'⟩ := ij
                      simp only [VO.rows] at h2 ⊢
                      split at h2
                      · rename_i hc2
                        rw [if_pos ⟨hc2.1, by omega⟩]; exact h2
                      · cases h2
                  · unfold ObjRel; rw [upd_same]
                    refine ⟨fo, HO.wid, HO.cap, HO.nil, fun hb => ?_⟩
                    refine ⟨?_, cells, e, hh, hcs, fun i' r' j' t' hi' hj' => ?_⟩
                    · show (if _ then _ else _) = _
                      rw [if_neg (fun h => h.2.1 rfl)]; exact hS
                    · obtain ⟨v2, h1, h2⟩ := hel i' r' j' t' hi' hj'
                      refine ⟨v2, h1, h2.1, h2.2.1, fun hk => (h2.2.2 (by omega)).mono fun b hb => ⟨⟨?_, hb.2⟩, rfl⟩⟩
                      show (if _ then _ else _) = _
                      rw [if_neg]
                      · exact hb.1
                      · intro h3
                        rw [hb.2.2] at h3
                        have := h3.2.2
                        simp only [Prod.mk.injEq] at this
                        omega
                · by_cases e2 : (own b = some o ∧ b ≠ (β o).b ∧ fo b = (i, j))
                  · exact absurd hb (hon b e2.1)
                  · simp only [e2, if_false]; exact hb
              · cases ha
            · cases ha
          · cases ha
        · cases ha
      · cases ha
    · rename_i m st sz rows hm heq
      split at ha
      · split at ha
        · rename_i hl
          simp only [Option.some.injEq, Prod.mk.injEq] at ha
          obtain ⟨rfl, rfl, rfl⟩ := ha
          rw [heq] at hx
          subst hl
          have hval := hx.whole
          rw [heq] at HO
          have key : ∃ (S : Nat → Prop) (Z' : Nat → Prop), (∀ b, S b → own b = some o) ∧ (∀ b, Z' b ↔ Z b ∨ (none = (none : Option Nat) ∧ S b)) ∧ (∀ r ∈ rows, r.length = sz) ∧ Rep h Z' (.slice (β o).addr rows.length (β o).cap) (.sl rows) := by
            cases m with
            | own k => exact (hm k rfl).elim
            | shr =>
              refine ⟨fun b => own b = some o, fun b => Z b ∨ own b = some o, fun _ h => h, fun b => by simp, HO.wid, ?_⟩
              refine Rep.ofArr (S := fun b => own b = some o) (fun b hb => .inr hb) (ArrG.mono HO (fun b hb => ⟨hb, rfl⟩) fun i j v t hN => hN.mono fun b hb => ⟨.inl hb, rfl⟩)
            | frz => exact ⟨fun _ => False, Z, fun _ h => h.elim, fun b => by simp, HO.1, HO.2⟩
          obtain ⟨S, Z', hS, hZ', hw, hrep⟩ := key
          refine ⟨rfl, Z', fun b => if S b then none else own b, fun _ => False, ?_, hval ▸ rfl, (by intro h; cases h), fun _ => hval ▸ hrep, fun _ h => h.elim, fun b hb => ?_⟩
          · refine Mv.give R o _ S hS none (fun m hm => by cases hm) Z' hZ' ?_ hc fun _ => ?_
            · rw [heq]
              refine ⟨fun p a' ha => ⟨a', ha, Nat.le_refl _⟩, fun p v h1 _ hs => ⟨hs, fun q' h2 => ⟨q', ?_, rfl, fun _ h => h, fun val h => h⟩⟩, fun cs' h => by cases h⟩
              cases p with
              | nil => exact h2
              | cons ij p => simp [VO.rows] at h2
            · unfold ObjRel; rw [upd_same]; exact ⟨hw, hrep⟩
          · by_cases e2 : S b
            · exact absurd hb (hon b (hS b e2))
            · simp only [e2, if_false]; exact hb
        · cases ha
      · cases ha
    · cases ha
  | _ => simp [absorb] at ha
end Go.Proofs.YtpdpgfagklhpaaaGreat.V

namespace Go.Proofs.YtpdpgfagklhpaaaGreat.V
open Go
set_option linter.unusedVariables false
set_option linter.unusedSimpArgs false
variable {ob ob' : Nat → VO} {β β' : Nat → BI} {C C' : Nat → Prop} {h h' : Heap} {Z Z' : Nat → Prop} {own own' : Nat → Option Nat}
theorem absorbL_ok {n : Nat} (hn : ¬ C n) : ∀ (l : List AV) {σ σ1 : Sto} {xs : List T} {f : Bool} {vs : List Value} {Z : Nat → Prop} {own : Nat → Option Nat} (R : Rel σ.ob β C h Z own),
    absorbL σ l = some (xs, f, σ1) → vs.length = l.length → (∀ (j : Nat) (v : Value) (a : AV), vs[j]? = some v → l[j]? = some a → AVRel σ.ob β C h Z v a) →
    σ1.n = σ.n ∧ xs.length = l.length ∧ ∃ (Z' : Nat → Prop) (own' : Nat → Option Nat) (S : Nat → Nat → Prop), Mv σ.ob β C h Z own σ1.ob β C h Z' own' ∧
      (∀ (j : Nat) (v : Value) (x : T), vs[j]? = some v → xs[j]? = some x → oneV v = true ∧ (RepO h (S j) v x ∨ (f = false ∧ Rep h Z' v x))) ∧
      (∀ j b, S j b → own' b = some n ∧ own b ≠ some n) ∧ (∀ b, own b = some n → own' b = some n) ∧ ∀ i j b, S i b → S j b → i = j
  | [], σ, σ1, xs, f, vs, Z, own, R, ha, hl, hv => by
    simp only [absorbL, Option.some.injEq, Prod.mk.injEq] at ha
    obtain ⟨rfl, rfl, rfl⟩ := ha
    exact ⟨rfl, rfl, Z, own, fun _ _ => False, .refl R, fun j v x _ hx => by simp at hx, fun _ _ h => h.elim, fun _ h => h, fun _ _ _ h => h.elim⟩
  | a :: l, σ, σ1, xs, f, vs, Z, own, R, ha, hl, hv => by
    simp only [absorbL] at ha
    split at ha
    · rename_i x f1 σ2 h1
      split at ha
      · rename_i xs1 f2 σ3 h2
        simp only [Option.some.injEq, Prod.mk.injEq] at ha
        obtain ⟨rfl, rfl, rfl⟩ := ha
        cases vs with
        | nil => simp at hl
        | cons v vs =>
          obtain ⟨e1, Z1, own1, S0, M1, ho, hr1, hr2, hS, hk⟩ := absorb_ok R hn h1 (hv 0 v a rfl rfl)
          obtain ⟨e2, e3, Z2, own2, S, M2, hr, hS2, hk2, hd⟩ := absorbL_ok hn l M1.rel h2 (vs := vs) (by simpa using hl) (fun j w b hj hb => M1.av R (hv (j + 1) w b (by simpa using hj) (by simpa using hb)))
          refine ⟨e2.trans e1, by simp [e3], Z2, own2, fun j => match j with | 0 => S0 | j + 1 => S j, M1.trans M2, ?_, ?_, fun b hb => hk2 b (hk b hb), ?_⟩
          · intro j w y hj hy
            cases j with
            | zero =>
              simp only [List.getElem?_cons_zero, Option.some.injEq] at hj hy
              subst hj; subst hy
              refine ⟨ho, ?_⟩
              cases f1 with
              | true => exact .inl (hr1 rfl)
              | false => exact .inr ⟨rfl, (hr2 rfl).mono fun b hb => ⟨M2.good.zin b hb, rfl⟩⟩
            | succ j =>
              obtain ⟨h3, h4⟩ := hr j w y (by simpa using hj) (by simpa using hy)
              refine ⟨h3, ?_⟩
              rcases h4 with h4 | ⟨h4, h5⟩
              · exact .inl h4
              · exact .inr ⟨by rw [h4]; cases f1 <;> rfl, h5⟩
          · intro j b hb
            cases j with
            | zero => exact ⟨hk2 b (hS b hb).1, (hS b hb).2⟩
            | succ j => exact ⟨(hS2 j b hb).1, fun hc => (hS2 j b hb).2 (hk b hc)⟩
          · intro i j b hi hj
            cases i with
            | zero =>
              cases j with
              | zero => rfl
              | succ j => exact absurd (hS b hi).1 (hS2 j b hj).2
            | succ i =>
              cases j with
              | zero => exact absurd (hS b hj).1 (hS2 i b hi).2
              | succ j => rw [hd i j b hi hj]
      · cases ha
    · cases ha
theorem absorbR_ok {n : Nat} (hn : ¬ C n) : ∀ (l : List (List AV)) {σ σ1 : Sto} {xs : List (List T)} {f : Bool} {vs : List (List Value)} {Z : Nat → Prop} {own : Nat → Option Nat} (R : Rel σ.ob β C h Z own),
    absorbR σ l = some (xs, f, σ1) → vs.map List.length = l.map List.length → (∀ (i : Nat) (vr : List Value) (ar : List AV) (j : Nat) (v : Value) (a : AV), vs[i]? = some vr → l[i]? = some ar → vr[j]? = some v → ar[j]? = some a → AVRel σ.ob β C h Z v a) →
    σ1.n = σ.n ∧ xs.map List.length = l.map List.length ∧ ∃ (Z' : Nat → Prop) (own' : Nat → Option Nat) (S : Nat → Nat → Nat → Prop), Mv σ.ob β C h Z own σ1.ob β C h Z' own' ∧
      (∀ (i : Nat) (vr : List Value) (xr : List T) (j : Nat) (v : Value) (x : T), vs[i]? = some vr → xs[i]? = some xr → vr[j]? = some v → xr[j]? = some x → oneV v = true ∧ (RepO h (S i j) v x ∨ (f = false ∧ Rep h Z' v x))) ∧
      (∀ i j b, S i j b → own' b = some n ∧ own b ≠ some n) ∧ (∀ b, own b = some n → own' b = some n) ∧ ∀ i j i' j' b, S i j b → S i' j' b → i = i' ∧ j = j'
  | [], σ, σ1, xs, f, vs, Z, own, R, ha, hl, hv => by
    simp only [absorbR, Option.some.injEq, Prod.mk.injEq] at ha
    obtain ⟨rfl, rfl, rfl⟩ := ha
    exact ⟨rfl, rfl, Z, own, fun _ _ _ => False, .refl R, fun i vr xr j v x _ hx => by simp at hx, fun _ _ _ h => h.elim, fun _ h => h, fun _ _ _ _ _ h => h.elim⟩
  | a :: l, σ, σ1, xs, f, vs, Z, own, R, ha, hl, hv => by
    simp only [absorbR] at ha
    split at ha
    · rename_i x f1 σ2 h1
      split at ha
      · rename_i xs1 f2 σ3 h2
        simp only [Option.some.injEq, Prod.mk.injEq] at ha
        obtain ⟨rfl, rfl, rfl⟩ := ha
        cases vs with
        | nil => simp at hl
        | cons v vs =>
          simp only [List.map_cons, List.cons.injEq] at hl
          obtain ⟨e1, e1', Z1, own1, S0, M1, hr1, hS, hk, hd1⟩ := absorbL_ok hn a R h1 hl.1 (fun j w b hj hb => hv 0 v a j w b rfl rfl hj hb)
          obtain ⟨e2, e3, Z2, own2, S, M2, hr, hS2, hk2, hd⟩ := absorbR_ok hn l M1.rel h2 hl.2 (fun i vr ar j w b hi ha hj hb => M1.av R (hv (i + 1) vr ar j w b (by simpa using hi) (by simpa using ha) hj hb))
          refine ⟨e2.trans e1, by simp [e3, e1'], Z2, own2, fun i => match i with | 0 => S0 | i + 1 => S i, M1.trans M2, ?_, ?_, fun b hb => hk2 b (hk b hb), ?_⟩
          · intro i vr xr j w y hi hx hj hy
            cases i with
            | zero =>
              simp only [List.getElem?_cons_zero, Option.some.injEq] at hi hx
              subst hi; subst hx
              obtain ⟨h3, h4⟩ := hr1 j w y hj hy
              refine ⟨h3, ?_⟩
              rcases h4 with h4 | ⟨h4, h5⟩
              · exact .inl h4
              · exact .inr ⟨by rw [h4]; rfl, h5.mono fun b hb => ⟨M2.good.zin b hb, rfl⟩⟩
            | succ i =>
              obtain ⟨h3, h4⟩ := hr i vr xr j w y (by simpa using hi) (by simpa using hx) hj hy
              refine ⟨h3, ?_⟩
              rcases h4 with h4 | ⟨h4, h5⟩
              · exact .inl h4
              · exact .inr ⟨by rw [h4]; cases f1 <;> rfl, h5⟩
          · intro i j b hb
            cases i with
            | zero => exact ⟨hk2 b (hS j b hb).1, (hS j b hb).2⟩
            | succ i => exact ⟨(hS2 i j b hb).1, fun hc => (hS2 i j b hb).2 (hk b hc)⟩
          · intro i j i' j' b hi hj
            cases i with
            | zero =>
              cases i' with
              | zero => exact ⟨rfl, hd1 j j' b hi hj⟩
              | succ i' => exact absurd (hS j b hi).1 (hS2 i' j' b hj).2
            | succ i =>
              cases i' with
              | zero => exact absurd (hS j' b hj).1 (hS2 i j b hi).2
              | succ i' => obtain ⟨e, e'⟩ := hd i j i' j' b hi hj; exact ⟨by rw [e], e'⟩
      · cases ha
    · cases ha
/-- What no object names any more is only read from now on. -/
theorem Mv.release (R : Rel ob β C h Z own) {n : Nat} (hn : ¬ C n) (U : Nat → Prop) [DecidablePred U] (hU : ∀ b, U b → own b = some n) :
    Mv ob β C h Z own ob β C h (fun b => Z b ∨ U b) (fun b => if U b then none else own b) := by
  have hZ : ∀ b, Z b → (Z b ∨ U b) ∧ h[b]? = h[b]? := fun b hb => ⟨.inl hb, rfl⟩
  have hevo : ∀ o, C o → C o ∧ Evo (ob o) (β o) h (ob o) (β o) h := fun o ho => ⟨ho, .same fun _ _ _ _ _ ha => ha⟩
  refine ⟨⟨fun b o hb => ?_, fun b hb => ?_, fun o ho => ?_, R.dead⟩, ⟨Nat.le_refl _, fun _ _ _ => rfl, fun b o hb => ?_, fun b hb => .inl hb, fun b hb => ?_⟩, hevo⟩
  · split at hb
    · cases hb
    · exact R.own_lt b o hb
  · rcases hb with hb | hb
    · refine ⟨(R.zlt b hb).1, ?_⟩
      split
      · rfl
      · exact (R.zlt b hb).2
    · exact ⟨R.own_lt b n (hU b hb), if_pos hb⟩
  · refine ObjRel.mono rfl rfl (fun b hb => ⟨?_, rfl⟩) hZ (fun v a => AVRel.mono hZ hevo) (R.objs o ho)
    rw [if_neg]
    · exact hb
    · intro hu; rw [hU b hu] at hb; exact hn (Option.some.inj hb ▸ ho)
  · split at hb
    · cases hb
    · exact .inl ⟨o, hb⟩
  · rcases hb with hb | hb
    · exact .inl hb
    · exact .inr (.inl ⟨n, hU b hb⟩)
open Classical in
/-- Rows of values taken in: owned, all of them, or only read, all of them. -/
theorem absorbR_all {n : Nat} (hn : ¬ C n) {l : List (List AV)} {σ σ1 : Sto} {xs : List (List T)} {f : Bool} {vs : List (List Value)} (R : Rel σ.ob β C h Z own)
    (ha : absorbR σ l = some (xs, f, σ1)) (hl : vs.map List.length = l.map List.length) (hv : ∀ (i : Nat) (vr : List Value) (ar : List AV) (j : Nat) (v : Value) (a : AV), vs[i]? = some vr → l[i]? = some ar → vr[j]? = some v → ar[j]? = some a → AVRel σ.ob β C h Z v a) :
    σ1.n = σ.n ∧ xs.map List.length = l.map List.length ∧ ∃ (Z' : Nat → Prop) (own' : Nat → Option Nat) (S : Nat → Nat → Nat → Prop), Mv σ.ob β C h Z own σ1.ob β C h Z' own' ∧
      (∀ (i : Nat) (vr : List Value) (xr : List T) (j : Nat) (v : Value) (x : T), vs[i]? = some vr → xs[i]? = some xr → vr[j]? = some v → xr[j]? = some x → oneV v = true ∧ (f = true → RepO h (S i j) v x) ∧ (f = false → Rep h Z' v x)) ∧
      (∀ i j b, S i j b → own' b = some n) ∧ (∀ i j i' j' b, S i j b → S i' j' b → i = i' ∧ j = j') := by
  obtain ⟨e1, e2, Z1, own1, S, M1, hr, hS, hk, hd⟩ := absorbR_ok hn l R ha hl hv
  cases f with
  | true =>
    refine ⟨e1, e2, Z1, own1, S, M1, fun i vr xr j v x hi hx hj hy => ?_, fun i j b hb => (hS i j b hb).1, hd⟩
    obtain ⟨h1, h2⟩ := hr i vr xr j v x hi hx hj hy
    refine ⟨h1, fun _ => ?_, fun h => by cases h⟩
    rcases h2 with h2 | ⟨h2, _⟩
    · exact h2
    · cases h2
  | false =>
    have M2 := Mv.release M1.rel hn (fun b => ∃ i j, S i j b) (fun b ⟨i, j, hb⟩ => (hS i j b hb).1)
    refine ⟨e1, e2, _, _, fun _ _ _ => False, M1.trans M2, fun i vr xr j v x hi hx hj hy => ?_, fun _ _ _ h => h.elim, fun _ _ _ _ _ h => h.elim⟩
    obtain ⟨h1, h2⟩ := hr i vr xr j v x hi hx hj hy
    refine ⟨h1, (by intro hc; cases hc), fun _ => ?_⟩
    rcases h2 with h2 | ⟨_, h2⟩
    · exact h2.rep fun b hb => .inr ⟨i, j, hb⟩
    · exact h2.mono fun b hb => ⟨.inl hb, rfl⟩
open Classical in
/-- Rows in a new block. -/
theorem Mv.newArr (R : Rel ob β C h Z own) {n : Nat} (hn : ¬ C n) (f : Bool) (sz : Nat) (rows : List (List T)) (cells : Array Value) (e : TypeId) (cap : Nat) (S : Nat → Nat → Nat → Prop)
    (hw : ∀ r ∈ rows, r.length = sz) (hcap : rows.length ≤ cap) (hcs : cap * sz ≤ cells.size)
    (hr : ∀ (i : Nat) (r : List T) (j : Nat) (t : T), rows[i]? = some r → r[j]? = some t → ∃ v, cells[i * sz + j]? = some v ∧ oneV v = true ∧ (f = true → RepO h (S i j) v t) ∧ (f = false → Rep h Z v t))
    (hS : ∀ i j b, S i j b → own b = some n) (hd : ∀ i j i' j' b, S i j b → S i' j' b → i = i' ∧ j = j') :
    Mv ob β C h Z own (upd ob n (.arr (md f) 0 sz rows)) (upd β n ⟨h.size, 0, cap, false⟩) (fun o => C o ∨ o = n) (h.push (.cells cells e)) Z (upd own h.size (some n)) := by
  refine Mv.new R hn _ _ _ ?_
  have hg : (h.push (Go.Obj.cells cells e))[h.size]? = some (Go.Obj.cells cells e) := by simp
  unfold ObjRel
  rw [upd_same, upd_same]
  cases f with
  | true =>
    simp only [md, if_true]
    refine ⟨fun b => if hb : ∃ ij : Nat × Nat, S ij.1 ij.2 b then hb.choose else (0, 0), hw, hcap, fun h => (by cases h), fun _ => ⟨upd_same _ _ _, cells, e, hg, by simpa using hcs, fun i r j t hi hj => ?_⟩⟩
    obtain ⟨v, h1, h2, h3, _⟩ := hr i r j t hi hj
    refine ⟨v, by simpa using h1, h2, fun hf => ?_, fun _ => ?_⟩
    · have := h3 rfl
      cases this with
      | b => exact .b _
      | i => exact .i _ _
      | s => exact .s _
      | nl => cases hf
      | sl0 => cases hf
      | sl => cases hf
    · refine (h3 rfl).mono fun b hb => ?_
      have hlt := R.own_lt b n (hS i j b hb)
      refine ⟨⟨?_, by show b ≠ h.size; omega, ?_⟩, getElem?_push_lt hlt⟩
      · show upd own h.size (some n) b = some n
        rw [upd_ne _ _ (by omega)]; exact hS i j b hb
      · have hex : ∃ ij : Nat × Nat, S ij.1 ij.2 b := ⟨(i, j), hb⟩
        show (if hb : ∃ ij : Nat × Nat, S ij.1 ij.2 b then hb.choose else (0, 0)) = (i, j)
        rw [dif_pos hex]
        have := hd _ _ _ _ b hex.choose_spec hb
        exact Prod.ext this.1 this.2
  | false =>
    simp only [md, Bool.false_eq_true, if_false]
    refine ⟨hw, hcap, fun h => (by cases h), fun _ => ⟨upd_same _ _ _, cells, e, hg, by simpa using hcs, fun i r j t hi hj => ?_⟩⟩
    obtain ⟨v, h1, h2, _, h3⟩ := hr i r j t hi hj
    refine ⟨v, by simpa using h1, (h3 rfl).mono fun b hb => ⟨hb, getElem?_push_lt (R.zlt b hb).1⟩⟩
end Go.Proofs.YtpdpgfagklhpaaaGreat.V

namespace Go.Proofs.YtpdpgfagklhpaaaGreat.V
open Go
set_option linter.unusedVariables false
set_option linter.unusedSimpArgs false
variable {ob ob' : Nat → VO} {β β' : Nat → BI} {C C' : Nat → Prop} {h h' : Heap} {Z Z' : Nat → Prop} {own own' : Nat → Option Nat}
theorem RepO.flat {S : Nat → Prop} {v : Value} {t : T} (H : RepO h S v t) (hf : t.flat = true) (Z : Nat → Prop) : Rep h Z v t := by
  cases H with
  | b => exact .b _
  | i => exact .i _ _
  | s => exact .s _
  | nl => cases hf
  | sl0 => cases hf
  | sl => cases hf
/-- The block, place and width of a slice with a row. -/
theorem RepO.open_ {S : Nat → Prop} {v : Value} {rows : List (List T)} (H : RepO h S v (.sl rows)) (hne : rows ≠ []) : ∃ (b off cap sz : Nat) (cells : Array Value) (e : TypeId) (f : Nat → Nat × Nat), v = .slice (some ⟨b, off, none⟩) rows.length cap ∧ S b ∧ h[b]? = some (.cells cells e (0, 0)) ∧
    rows.length ≤ cap ∧ off + cap * sz ≤ cells.size ∧ (∀ r ∈ rows, r.length = sz) ∧ ∀ (i : Nat) (r : List T) (j : Nat) (t : T), rows[i]? = some r → r[j]? = some t → ∃ v, cells[off + (i * sz + j)]? = some v ∧ RepO h (fun b' => S b' ∧ b' ≠ b ∧ f b' = (i, j)) v t := by
  cases H with
  | sl0 => exact absurd rfl hne
  | sl S blk off cap sz cells e f vs rows hz hh hc hcs hr hv hn => exact ⟨blk, off, cap, sz, cells, e, f, rfl, hz, hh, hc, hcs, hr, fun i r j t hi hj => ⟨vs i j, hv i r j t hi hj, hn i r j t hi hj⟩⟩
theorem Rep.open_ {v : Value} {rows : List (List T)} (H : Rep h Z v (.sl rows)) (hne : rows ≠ []) : ∃ b off cap sz cells e fz, v = .slice (some ⟨b, off, none⟩) rows.length cap ∧ Z b ∧ h[b]? = some (.cells cells e fz) ∧
    rows.length ≤ cap ∧ (∀ r ∈ rows, r.length = sz) ∧ ∀ (i : Nat) (r : List T) (j : Nat) (t : T), rows[i]? = some r → r[j]? = some t → ∃ v, cells[off + (i * sz + j)]? = some v ∧ Rep h Z v t := by
  cases H with
  | sl0 => exact absurd rfl hne
  | sl1 a => exact absurd rfl hne
  | sl blk off cap sz cells e fz vs rows hz hh hc hr hv hn => exact ⟨blk, off, cap, sz, cells, e, fz, rfl, hz, hh, hc, hr, fun i r j t hi hj => ⟨vs i j, hv i r j t hi hj, hn i r j t hi hj⟩⟩
theorem ne_of_get {α : Type} {l : List α} {i : Nat} {x : α} (h : l[i]? = some x) : l ≠ [] := by rintro rfl; simp at h
theorem At.repO {v v' : Value} {rows rows' : List (List T)} {p : List (Nat × Nat)} (H : At h v rows p v' rows') : ∀ {S : Nat → Prop}, RepO h S v (.sl rows) → ∃ S' : Nat → Prop, (∀ b, S' b → S b) ∧ RepO h S' v' (.sl rows') := by
  induction H with
  | nil v rows => exact fun {S} hr => ⟨S, fun _ h => h, hr⟩
  | cons b off len cap sz cells e fz rows q r i j p v1 v' rows' hh hr hv hi hj ha ih =>
    intro S hro
    obtain ⟨b', off', cap', sz', cells', e', f, hve, hS, hh', _, _, hw, hel⟩ := hro.open_ (ne_of_get hi)
    cases hve
    rw [hh] at hh'; cases hh'
    have : sz' = sz := by rw [← hr r (List.mem_of_getElem? hi), hw r (List.mem_of_getElem? hi)]
    subst this
    obtain ⟨v2, h2, h3⟩ := hel i r j _ hi hj
    rw [hv] at h2; cases h2
    obtain ⟨S', h4, h5⟩ := ih h3
    exact ⟨S', fun b hb => (h4 b hb).1, h5⟩
theorem At.snoc {v v' : Value} {rows rows' : List (List T)} {p : List (Nat × Nat)} (H : At h v rows p v' rows') : ∀ {b off len cap sz : Nat} {cells : Array Value} {e : TypeId} {fz : Nat × Nat} {q : List (List T)} {r : List T} {i j : Nat} {v1 : Value},
    v' = .slice (some ⟨b, off, none⟩) len cap → h[b]? = some (.cells cells e fz) → (∀ r ∈ rows', r.length = sz) → cells[off + (i * sz + j)]? = some v1 → rows'[i]? = some r → r[j]? = some (.sl q) → At h v rows (p ++ [(i, j)]) v1 q := by
  induction H with
  | nil v rows =>
    intro b off len cap sz cells e fz q r i j v1 hv hh hr hc hi hj
    subst hv
    exact .cons b off len cap sz cells e fz rows q r i j [] v1 v1 q hh hr hc hi hj (.nil _ _)
  | cons b off len cap sz cells e fz rows q r i j p v1 v' rows' hh hr hv hi hj ha ih =>
    intro b2 off2 len2 cap2 sz2 cells2 e2 fz2 q2 r2 i2 j2 v2 h1 h2 h3 h4 h5 h6
    exact .cons b off len cap sz cells e fz rows q r i j _ v1 v2 q2 hh hr hv hi hj (ih h1 h2 h3 h4 h5 h6)
/-- The cells of the rows at a path, each with what is known of it. -/
theorem Rel.rowsAt2 (R : Rel ob β C h Z own) {o v : Nat} {p : List (Nat × Nat)} {val : Value} {q : List (List T)} (hc : C o) (hq : (ob o).rows v p = some q) (hat : At h ((ob o).val (β o)) (ob o).all p val q) (hne : q ≠ []) :
    ∃ b off cap sz cells e fz, val = .slice (some ⟨b, off, none⟩) q.length cap ∧ h[b]? = some (.cells cells e fz) ∧ (own b = some o ∨ Z b) ∧ q.length ≤ cap ∧ (∀ r ∈ q, r.length = sz) ∧
      ∀ (i : Nat) (r : List T) (j : Nat) (t : T), q[i]? = some r → r[j]? = some t → ∃ u, cells[off + (i * sz + j)]? = some u ∧ oneV u = true ∧ (t.flat = true → Rep h Z u t) ∧
        (match ob o with | .arr (.own k) _ _ _ => p ≠ [] ∨ k ≤ i → ∃ S : Nat → Prop, (∀ b, S b → own b = some o) ∧ RepO h S u t | _ => Rep h Z u t) := by
  have HO := R.objs o hc
  unfold ObjRel at HO
  cases hob : ob o with
  | box cs => rw [hob] at hq; simp [VO.rows] at hq
  | dead => rw [hob] at hq; simp [VO.rows] at hq
  | arr m st sz rows =>
    rw [hob] at HO hq hat
    cases p with
    | nil =>
      have hqe : q = rows := by
        simp only [VO.rows] at hq
        split at hq
        · exact (Option.some.inj hq).symm
        · cases hq
      subst hqe
      obtain ⟨hval, _⟩ := hat.inv0 rfl
      have hz : (β o).isNil = false ∨ m = .frz := by
        cases m with
        | own k =>
          obtain ⟨f, HO⟩ := HO
          cases hb : (β o).isNil with
          | false => exact .inl rfl
          | true => exact absurd (List.eq_nil_of_length_eq_zero (by have := HO.nil hb; have := HO.cap; omega)) hne
        | shr =>
          cases hb : (β o).isNil with
          | false => exact .inl rfl
          | true => exact absurd (List.eq_nil_of_length_eq_zero (by have := ArrG.nil HO hb; have := ArrG.cap HO; omega)) hne
        | frz => exact .inr rfl
      cases m with
      | own k =>
        obtain ⟨f, HO⟩ := HO
        have hb : (β o).isNil = false := by
          rcases hz with hz | hz
          · exact hz
          · cases hz
        obtain ⟨hS, cells, e, hh, hcs, hel⟩ := HO.blk hb
        refine ⟨(β o).b, (β o).off, (β o).cap, sz, cells, e, (0, 0), by rw [hval]; simp [VO.val, BI.addr, hb], hh, .inl hS, HO.cap, HO.wid, fun i r j t hi hj => ?_⟩
        obtain ⟨u, h1, h2⟩ := hel i r j t hi hj
        refine ⟨u, h1, h2.1, fun hf => (h2.2.1 hf).mono fun b hb => hb.elim, fun hk => ?_⟩
        rcases hk with hk | hk
        · exact absurd rfl hk
        · exact ⟨_, fun b hb => hb.1, h2.2.2 hk⟩
      | shr =>
        have hb : (β o).isNil = false := by
          rcases hz with hz | hz
          · exact hz
          · cases hz
        obtain ⟨hS, cells, e, hh, hcs, hel⟩ := ArrG.blk HO hb
        refine ⟨(β o).b, (β o).off, (β o).cap, sz, cells, e, (0, 0), by rw [hval]; simp [VO.val, BI.addr, hb], hh, .inl hS, ArrG.cap HO, ArrG.wid HO, fun i r j t hi hj => ?_⟩
        obtain ⟨u, h1, h2⟩ := hel i r j t hi hj
        exact ⟨u, h1, h2.one, fun _ => h2, h2⟩
      | frz =>
        obtain ⟨hw, hr⟩ := HO
        obtain ⟨b, off, cap, sz', cells, e, fz, hve, hzb, hh, hcap, hw', hel⟩ := hr.open_ hne
        refine ⟨b, off, cap, sz', cells, e, fz, by rw [hval]; exact hve, hh, .inr hzb, hcap, hw', fun i r j t hi hj => ?_⟩
        obtain ⟨u, h1, h2⟩ := hel i r j t hi hj
        exact ⟨u, h1, h2.one, fun _ => h2, h2⟩
    | cons ij p =>
      obtain ⟨i0, j0⟩ := ij
      cases m with
      | own k =>
        simp only [VO.rows] at hq
        split at hq
        · rename_i hcond
          obtain ⟨f, HO⟩ := HO
          obtain ⟨b, off, len, cap, sz', cells', e', fz', q', r', v1, hve, hh', hr', hv', hi', hj', ha'⟩ := hat.inv1 rfl
          simp only [VO.val, VO.all] at hve hr' hi'
          have hb : (β o).isNil = false := by
            cases hb : (β o).isNil with
            | false => rfl
            | true => rw [BI.addr, if_pos hb] at hve; cases hve
          obtain ⟨hS, cells, e, hh, hcs, hel⟩ := HO.blk hb
          simp only [BI.addr, hb] at hve
          cases hve
          rw [hh] at hh'; cases hh'
          have : sz' = sz := by rw [← hr' r' (List.mem_of_getElem? hi'), HO.wid r' (List.mem_of_getElem? hi')]
          subst this
          obtain ⟨u, h1, h2⟩ := hel i0 r' j0 _ hi' hj'
          rw [hv'] at h1; cases h1
          obtain ⟨S', hS', hro⟩ := ha'.repO (h2.2.2 hcond.2)
          obtain ⟨b, off, cap, sz, cells, e, f', hve, hsb, hh, hcap, _, hw, hel⟩ := hro.open_ hne
          refine ⟨b, off, cap, sz, cells, e, (0, 0), hve, hh, .inl (hS' _ hsb).1, hcap, hw, fun i r j t hi hj => ?_⟩
          obtain ⟨u, h1, h2⟩ := hel i r j t hi hj
          exact ⟨u, h1, h2.one, fun hf => h2.flat hf Z, fun _ => ⟨_, fun b hb => (hS' b hb.1).1, h2⟩⟩
        · cases hq
      | shr => simp [VO.rows] at hq
      | frz => simp [VO.rows] at hq
theorem Rel.rowsAt (R : Rel ob β C h Z own) {o v : Nat} {p : List (Nat × Nat)} {val : Value} {q : List (List T)} (hc : C o) (hq : (ob o).rows v p = some q) (hat : At h ((ob o).val (β o)) (ob o).all p val q) (hne : q ≠ []) :
    ∃ b off cap sz cells e fz, val = .slice (some ⟨b, off, none⟩) q.length cap ∧ h[b]? = some (.cells cells e fz) ∧ q.length ≤ cap ∧ (∀ r ∈ q, r.length = sz) ∧
      ∀ (i : Nat) (r : List T) (j : Nat) (t : T), q[i]? = some r → r[j]? = some t → ∃ u, cells[off + (i * sz + j)]? = some u ∧ oneV u = true ∧ (t.flat = true → Rep h Z u t) ∧
        (match ob o with | .arr (.own k) _ _ _ => p ≠ [] ∨ k ≤ i → ∃ S : Nat → Prop, (∀ b, S b → own b = some o) ∧ RepO h S u t | _ => Rep h Z u t) :=
  let ⟨b, off, cap, sz, cells, e, fz, h1, h2, _, h3, h4, h5⟩ := R.rowsAt2 hc hq hat hne
  ⟨b, off, cap, sz, cells, e, fz, h1, h2, h3, h4, h5⟩
/-- Cells behind a place. -/
def CellsAt (h : Heap) (b off : Nat) (vs : List Value) : Prop := ∃ cells e fz, h[b]? = some (Go.Obj.cells cells e fz) ∧ ∀ (k : Nat) (v : Value), vs[k]? = some v → cells[off + k]? = some v
/-- Values chosen one by one. -/
theorem choose_list {α : Type} {n : Nat} {Q : Nat → α → Prop} (H : ∀ k, k < n → ∃ v, Q k v) : ∃ vs : List α, vs.length = n ∧ ∀ k v, vs[k]? = some v → Q k v := by
  induction n with
  | zero => exact ⟨[], rfl, fun k v h => by simp at h⟩
  | succ n ih =>
    obtain ⟨vs, hl, hq⟩ := ih fun k hk => H k (by omega)
    obtain ⟨v, hv⟩ := H n (by omega)
    refine ⟨vs ++ [v], by simp [hl], fun k u hu => ?_⟩
    rw [List.getElem?_append] at hu
    split at hu
    · exact hq k u hu
    · have : k = n := by
        rcases Nat.lt_or_ge (k - vs.length) 1 with h1 | h1
        · omega
        · rw [List.getElem?_eq_none (by simpa using h1)] at hu; cases hu
      subst this
      simp [hl] at hu
      subst hu; exact hv
theorem loadV_len {σ : Sto} {a : AV} {n : Nat} {cs : List AV} (hl : loadV σ a n = some cs) : cs.length = n := by
  unfold loadV at hl
  split at hl
  · split at hl
    · split at hl
      · cases hl; simp; omega
      · cases hl
    · cases hl
  · split at hl
    · split at hl
      · split at hl
        · split at hl
          · split at hl
            · cases hl; simp; omega
            · cases hl
          · cases hl; simp; omega
        · cases hl
      · cases hl
    · cases hl
  · split at hl
    · cases hl; simp; omega
    · cases hl
  · cases hl
theorem loadV_ok {σ : Sto} (R : Rel σ.ob β C h Z own) {a : AV} {n : Nat} {cs : List AV} {pv : Value} (hv : AVRel σ.ob β C h Z pv a) (hl : loadV σ a n = some cs) :
    ∃ b off vs, pv = .pointer (some ⟨b, off, none⟩) ∧ vs.length = n ∧ CellsAt h b off vs ∧ ∀ (k : Nat) (v : Value) (x : AV), vs[k]? = some v → cs[k]? = some x → AVRel σ.ob β C h Z v x := by
  have hlen := loadV_len hl
  cases hv with
  | ptr o off ad hc hx =>
    have HO := R.objs o hc
    unfold ObjRel at HO
    simp only [loadV] at hl
    split at hl
    · rename_i bcs hob
      rw [hob] at HO
      split at hl
      · rename_i hle
        cases hl
        obtain ⟨h1, cells, e, h2, h3, h4, h5⟩ := HO
        have had := hx bcs hob
        refine ⟨(β o).b, off, ((cells.toList.drop off).take n), by rw [had], ?_, ⟨cells, e, (0, 0), h2, fun k v hk => ?_⟩, fun k v x hk hx' => ?_⟩
        · simp; omega
        · rw [List.getElem?_take] at hk
          split at hk
          · rw [List.getElem?_drop] at hk; simpa using hk
          · cases hk
        · rw [List.getElem?_take] at hk hx'
          split at hk
          · rename_i hkn
            rw [if_pos hkn] at hx'
            rw [List.getElem?_drop] at hk hx'
            exact h5 (off + k) v x (by simpa using hk) hx'
          · cases hk
      · cases hl
    · cases hl
  | eptr o v p i j ad hc hx =>
    simp only [loadV] at hl
    split at hl
    · rename_i q hq
      split at hl
      · rename_i r hr
        split at hl
        · rename_i hjn
          obtain ⟨b, off, len, cap, sz, hat, hw, hi, had⟩ := hx.2.2 q hq
          obtain ⟨b', off', cap', sz', cells, e, fz, hve, hh, hcap, hw', hel⟩ := R.rowsAt hc hq hat (ne_of_get hr)
          cases hve
          have hsz : sz' = sz := by rw [← hw r (List.mem_of_getElem? hr), hw' r (List.mem_of_getElem? hr)]
          subst hsz
          have hcell : ∀ k, k < n → ∃ u t, r[j + k]? = some t ∧ cells[off + (i * sz' + (j + k))]? = some u ∧ oneV u = true ∧ (t.flat = true → Rep h Z u t) ∧
              (match σ.ob o with | .arr (.own k) _ _ _ => p ≠ [] ∨ k ≤ i → ∃ S : Nat → Prop, (∀ b, S b → own b = some o) ∧ RepO h S u t | _ => Rep h Z u t) := by
            intro k hk
            have : j + k < r.length := by omega
            obtain ⟨u, h1, h2⟩ := hel i r (j + k) r[j + k] hr (List.getElem?_eq_getElem this)
            exact ⟨u, _, List.getElem?_eq_getElem this, h1, h2⟩
          obtain ⟨vs, hvl, hvs⟩ := choose_list hcell
          refine ⟨b, off + (i * sz' + j), vs, by rw [had], hvl, ⟨cells, e, fz, hh, fun k u hu => ?_⟩, fun k u x hu hxk => ?_⟩
          · obtain ⟨t, _, h2, _⟩ := hvs k u hu
            rw [show off + (i * sz' + j) + k = off + (i * sz' + (j + k)) by omega]; exact h2
          · obtain ⟨t, ht, h2, h3, h4, h5⟩ := hvs k u hu
            have hkn : k < n := by
              rcases Nat.lt_or_ge k n with h6 | h6
              · exact h6
              · rw [List.getElem?_eq_none (by omega)] at hu; cases hu
            have hdt : ((r.drop j).take n)[k]? = some t := by rw [List.getElem?_take, if_pos hkn, List.getElem?_drop]; exact ht
            split at hl
            · rename_i ko sto szo rowso hob
              rw [hob] at h5
              split at hl
              · rename_i hcond
                cases hl
                rw [List.getElem?_mapIdx, hdt] at hxk
                simp only [Option.map_some, Option.some.injEq] at hxk
                subst hxk
                cases t with
                | b y => exact .t _ _ (h4 rfl)
                | i k0 n0 => exact .t _ _ (h4 rfl)
                | s y => exact .t _ _ (h4 rfl)
                | nl =>
                  have hcond' : p ≠ [] ∨ ko ≤ i := by
                    rcases hcond with h6 | h6 | h6
                    · exact .inl h6
                    · exact .inr h6
                    · rw [List.all_eq_true] at h6
                      exact absurd (h6 _ (List.mem_of_getElem? hdt)) (by simp [T.flat])
                  obtain ⟨S, hS, hro⟩ := h5 hcond'
                  cases hro
                  exact .t _ _ .nl
                | sl q1 =>
                  have hcond' : p ≠ [] ∨ ko ≤ i := by
                    rcases hcond with h6 | h6 | h6
                    · exact .inl h6
                    · exact .inr h6
                    · rw [List.all_eq_true] at h6
                      exact absurd (h6 _ (List.mem_of_getElem? hdt)) (by simp [T.flat])
                  obtain ⟨S, hS, hro⟩ := h5 hcond'
                  have hsl : ∃ a l c, u = .slice a l c := by
                    cases hro with
                    | sl0 => exact ⟨_, _, _, rfl⟩
                    | sl => exact ⟨_, _, _, rfl⟩
                  obtain ⟨a, l, c, rfl⟩ := hsl
                  rw [hob] at hq hat
                  have hsn := hat.snoc rfl hh hw h2 hr ht
                  refine .ref o sto _ a l c hc ⟨fun a' ha' => ?_, fun _ => ?_, fun q2 hq2 => ?_⟩ (fun e => by simp at e)
                  · rw [hob] at ha'
                    cases p <;> simp [VO.age] at ha' <;> omega
                  · rw [hob, hsn.rowsAt]; rfl
                  · rw [hob] at hq2 ⊢
                    have hq2' : V.rowsAt rowso (p ++ [(i, j + k)]) = some q2 := by
                      cases p with
                      | nil =>
                        simp only [List.nil_append, VO.rows] at hq2 ⊢
                        split at hq2
                        · exact hq2
                        · cases hq2
                      | cons a p =>
                        obtain ⟨i', j'⟩ := a
                        simp only [List.cons_append, VO.rows] at hq2 ⊢
                        split at hq2
                        · exact hq2
                        · cases hq2
                    have h9 := hsn.rowsAt
                    simp only [VO.all] at h9
                    rw [hq2'] at h9
                    cases h9
                    exact hsn
              · cases hl
            · rename_i hnot
              cases hl
              rw [List.getElem?_map, hdt] at hxk
              simp only [Option.map_some, Option.some.injEq] at hxk
              subst hxk
              split at h5
              · rename_i k0 s0 z0 r0 hob; exact absurd hob (hnot k0 s0 z0 r0)
              · exact .t _ _ h5
        · cases hl
      · cases hl
    · cases hl
  | fptr blk off cells' e fz cells hz hh hcv =>
    simp only [loadV] at hl
    split at hl
    · rename_i hle
      cases hl
      have hcell : ∀ k, k < n → ∃ u, cells'[off + k]? = some u ∧ ∃ t, cells[k]? = some t ∧ Rep h Z u t := by
        intro k hk
        obtain ⟨u, h1, h2⟩ := hcv k cells[k] (List.getElem?_eq_getElem (by omega))
        exact ⟨u, h1, _, List.getElem?_eq_getElem (by omega), h2⟩
      obtain ⟨vs, hvl, hvs⟩ := choose_list hcell
      refine ⟨blk, off, vs, rfl, hvl, ⟨cells', e, fz, hh, fun k u hu => (hvs k u hu).1⟩, fun k u x hu hxk => ?_⟩
      obtain ⟨h1, t, h2, h3⟩ := hvs k u hu
      rw [List.getElem?_map, List.getElem?_take] at hxk
      split at hxk
      · rw [h2] at hxk
        simp only [Option.map_some, Option.some.injEq] at hxk
        subst hxk
        exact .t _ _ h3
      · cases hxk
    · cases hl
  | _ => simp [loadV] at hl
end Go.Proofs.YtpdpgfagklhpaaaGreat.V

namespace Go.Proofs.YtpdpgfagklhpaaaGreat.V
open Go
set_option linter.unusedVariables false
set_option linter.unusedSimpArgs false
variable {ob ob' : Nat → VO} {β β' : Nat → BI} {C C' : Nat → Prop} {h h' : Heap} {Z Z' : Nat → Prop} {own own' : Nat → Option Nat}
/-- Cells with some of them written. -/
def spl (cells : Array Value) (off : Nat) (vs : List Value) : Array Value := (cells.toList.take off ++ vs ++ cells.toList.drop (off + vs.length)).toArray
theorem spl_size {cells : Array Value} {off : Nat} {vs : List Value} (hle : off + vs.length ≤ cells.size) : (spl cells off vs).size = cells.size := by
  simp [spl]; omega
theorem spl_in {cells : Array Value} {off : Nat} {vs : List Value} (hle : off + vs.length ≤ cells.size) {k : Nat} (hk : k < vs.length) : (spl cells off vs)[off + k]? = vs[k]? := by
  simp only [spl, List.getElem?_toArray, List.append_assoc]
  rw [List.getElem?_append_right (by simp; omega), List.getElem?_append_left (by simp; omega)]
  congr 1; simp; omega
theorem spl_out {cells : Array Value} {off : Nat} {vs : List Value} (hle : off + vs.length ≤ cells.size) {m : Nat} (hm : m < off ∨ off + vs.length ≤ m) : (spl cells off vs)[m]? = cells[m]? := by
  simp only [spl, List.getElem?_toArray, List.append_assoc]
  rcases hm with hm | hm
  · rw [List.getElem?_append_left (by simp; omega), List.getElem?_take, if_pos hm]; simp
  · rw [List.getElem?_append_right (by simp; omega), List.getElem?_append_right (by simp; omega), List.getElem?_drop]
    simp only [List.length_take, Array.length_toList, Array.getElem?_toList]
    congr 1; omega
theorem getElem?_set_same {α : Type} {a : Array α} {i : Nat} {x y : α} (h : a[i]? = some y) : (a.setIfInBounds i x)[i]? = some x := by
  have := getElem?_lt h
  simp [Array.getElem?_setIfInBounds, this]
theorem getElem?_set_ne {α : Type} {a : Array α} {i j : Nat} {x : α} (h : j ≠ i) : (a.setIfInBounds i x)[j]? = a[j]? := by
  rw [Array.getElem?_setIfInBounds]; split
  · rename_i e; exact absurd e.symm h
  · rfl
theorem At.keepO {v v' : Value} {rows rows' : List (List T)} {p : List (Nat × Nat)} (H : At h v rows p v' rows') : ∀ {S : Nat → Prop}, RepO h S v (.sl rows) → (∀ b, S b → h'[b]? = h[b]?) → At h' v rows p v' rows' := by
  induction H with
  | nil v rows => exact fun _ _ => .nil _ _
  | cons b off len cap sz cells e fz rows q r i j p v1 v' rows' hh hr hv hi hj ha ih =>
    intro S hro hk
    obtain ⟨b', off', cap', sz', cells', e', f, hve, hS, hh', _, _, hw, hel⟩ := hro.open_ (ne_of_get hi)
    cases hve
    rw [hh] at hh'; cases hh'
    have : sz' = sz := by rw [← hr r (List.mem_of_getElem? hi), hw r (List.mem_of_getElem? hi)]
    subst this
    obtain ⟨v2, h2, h3⟩ := hel i r j _ hi hj
    rw [hv] at h2; cases h2
    exact .cons b off _ _ sz' cells e _ rows q r i j p v1 v' rows' ((hk b hS).trans hh) hr hv hi hj (ih h3 fun b hb => hk b hb.1)
theorem Rel.atKeep (R : Rel ob β C h Z own) {o : Nat} (hc : C o) (hk : ∀ b, own b = some o → h'[b]? = h[b]?) : ∀ v p q val, (ob o).rows v p = some q → At h ((ob o).val (β o)) (ob o).all p val q → At h' ((ob o).val (β o)) (ob o).all p val q := by
  intro v p q val hq hat
  have HO := R.objs o hc
  unfold ObjRel at HO
  cases p with
  | nil => obtain ⟨rfl, rfl⟩ := hat.inv0 rfl; exact .nil _ _
  | cons ij p =>
    obtain ⟨i0, j0⟩ := ij
    cases hob : ob o with
    | box cs => rw [hob] at hq; simp [VO.rows] at hq
    | dead => rw [hob] at hq; simp [VO.rows] at hq
    | arr m st sz rows =>
      rw [hob] at HO hq hat
      cases m with
      | own k =>
        simp only [VO.rows] at hq
        split at hq
        · rename_i hcond
          obtain ⟨f, HO⟩ := HO
          obtain ⟨b, off, len, cap, sz', cells', e', fz', q', r', v1, hve, hh', hr', hv', hi', hj', ha'⟩ := hat.inv1 rfl
          simp only [VO.val, VO.all] at hve hr' hi' ⊢
          have hb : (β o).isNil = false := by
            cases hb : (β o).isNil with
            | false => rfl
            | true => rw [BI.addr, if_pos hb] at hve; cases hve
          obtain ⟨hS, cells, e, hh, hcs, hel⟩ := HO.blk hb
          have hve2 := hve
          simp only [BI.addr, hb] at hve2
          cases hve2
          rw [hh] at hh'; cases hh'
          have : sz' = sz := by rw [← hr' r' (List.mem_of_getElem? hi'), HO.wid r' (List.mem_of_getElem? hi')]
          subst this
          obtain ⟨u, h1, h2⟩ := hel i0 r' j0 _ hi' hj'
          rw [hv'] at h1; cases h1
          rw [hve]
          exact .cons _ _ _ _ sz' _ _ (0, 0) rows q' r' i0 j0 p v1 val q ((hk _ hS).trans hh) hr' hv' hi' hj' (ha'.keepO (h2.2.2 hcond.2) fun b hb => hk b hb.1)
        · cases hq
      | shr => simp [VO.rows] at hq
      | frz => simp [VO.rows] at hq
theorem Rel.evoKeep (R : Rel ob β C h Z own) {o : Nat} (hc : C o) (hk : ∀ b, own b = some o → h'[b]? = h[b]?) : Evo (ob o) (β o) h (ob o) (β o) h' := .same (R.atKeep hc hk)
/-- One object's own block is written: the others stay. -/
theorem Mv.write (R : Rel ob β C h Z own) {o b : Nat} (hc : C o) (x : VO) (obj : Go.Obj) (hb : own b = some o) (hE : Evo (ob o) (β o) h x (β o) (h.setIfInBounds b obj))
    (hx : (∀ v a, AVRel ob β C h Z v a → AVRel (upd ob o x) β C (h.setIfInBounds b obj) Z v a) → ObjRel (upd ob o x) β C (h.setIfInBounds b obj) Z own o) :
    Mv ob β C h Z own (upd ob o x) β C (h.setIfInBounds b obj) Z own := by
  have hZ : ∀ b', Z b' → Z b' ∧ (h.setIfInBounds b obj)[b']? = h[b']? := fun b' hz => ⟨hz, getElem?_set_ne fun e => by rw [e] at hz; have := (R.zlt b hz).2; rw [hb] at this; cases this⟩
  have hne : ∀ o' b', o' ≠ o → own b' = some o' → (h.setIfInBounds b obj)[b']? = h[b']? := fun o' b' hno hb' => getElem?_set_ne fun e => by rw [e, hb] at hb'; exact hno (Option.some.inj hb').symm
  have hevo : ∀ o', C o' → C o' ∧ Evo (ob o') (β o') h (upd ob o x o') (β o') (h.setIfInBounds b obj) := fun o' ho => by
    refine ⟨ho, ?_⟩
    by_cases e : o' = o
    · subst e; rw [upd_same]; exact hE
    · rw [upd_ne _ _ e]; exact R.evoKeep ho fun b' hb' => hne o' b' e hb'
  have hAV : ∀ v a, AVRel ob β C h Z v a → AVRel (upd ob o x) β C (h.setIfInBounds b obj) Z v a := fun v a => AVRel.mono hZ hevo
  refine ⟨⟨fun b' o' h1 => by simpa using R.own_lt b' o' h1, fun b' h1 => by simpa using R.zlt b' h1, fun o' ho => ?_, fun o' ho => ?_⟩, ⟨by simp, fun b' _ hn => getElem?_set_ne (fun e => by rw [e, hb] at hn; cases hn), fun b' o' h1 => .inl ⟨o', h1⟩, fun _ h => h, fun _ h => .inl h⟩, hevo⟩
  · by_cases e : o' = o
    · subst e; exact hx hAV
    · exact ObjRel.mono (upd_ne _ _ e) rfl (fun b' hb' => ⟨hb', hne o' b' e hb'⟩) hZ hAV (R.objs o' ho)
  · have : o' ≠ o := fun e => ho (e ▸ hc)
    rw [upd_ne _ _ this]; exact R.dead o' ho
theorem putL_len {cs : List AV} {off : Nat} {vs : List AV} (h : off + vs.length ≤ cs.length) : (putL cs off vs).length = cs.length := by simp [putL]; omega
theorem putL_get {cs : List AV} {off : Nat} {vs : List AV} (hle : off + vs.length ≤ cs.length) (m : Nat) : (putL cs off vs)[m]? = if off ≤ m ∧ m < off + vs.length then vs[m - off]? else cs[m]? := by
  unfold putL
  rw [List.append_assoc]
  split
  · rename_i hm
    rw [List.getElem?_append_right (by simp; omega), List.getElem?_append_left (by simp; omega)]
    congr 1; simp; omega
  · rename_i hm
    rcases Nat.lt_or_ge m off with h1 | h1
    · rw [List.getElem?_append_left (by simp; omega), List.getElem?_take, if_pos h1]
    · rw [List.getElem?_append_right (by simp; omega), List.getElem?_append_right (by simp; omega), List.getElem?_drop]
      congr 1; simp; omega
theorem putT_get {cs : List T} {off : Nat} {vs : List T} (hle : off + vs.length ≤ cs.length) (m : Nat) : (putT cs off vs)[m]? = if off ≤ m ∧ m < off + vs.length then vs[m - off]? else cs[m]? := by
  unfold putT
  rw [List.append_assoc]
  split
  · rename_i hm
    rw [List.getElem?_append_right (by simp; omega), List.getElem?_append_left (by simp; omega)]
    congr 1; simp; omega
  · rename_i hm
    rcases Nat.lt_or_ge m off with h1 | h1
    · rw [List.getElem?_append_left (by simp; omega), List.getElem?_take, if_pos h1]
    · rw [List.getElem?_append_right (by simp; omega), List.getElem?_append_right (by simp; omega), List.getElem?_drop]
      congr 1; simp; omega
theorem putT_len {cs : List T} {off : Nat} {vs : List T} (h : off + vs.length ≤ cs.length) : (putT cs off vs).length = cs.length := by simp [putT]; omega
theorem Mv.setBox (R : Rel ob β C h Z own) {o off : Nat} {cs vs : List AV} {us : List Value} (hc : C o) (hob : ob o = .box cs) (hle : off + vs.length ≤ cs.length) (h1 : vs.all AV.one = true) (hlen : us.length = vs.length)
    (hv : ∀ (k : Nat) (u : Value) (a : AV), us[k]? = some u → vs[k]? = some a → AVRel ob β C h Z u a) :
    ∃ cells e, h[(β o).b]? = some (.cells cells e (0, 0)) ∧ off + us.length ≤ cells.size ∧ (∀ u ∈ us, oneV u = true) ∧
      Mv ob β C h Z own (upd ob o (.box (putL cs off vs))) β C (h.setIfInBounds (β o).b (.cells (spl cells off us) e)) Z own := by
  have HO := R.objs o hc
  unfold ObjRel at HO
  rw [hob] at HO
  obtain ⟨hb, cells, e, hh, hs, ho, hcs⟩ := HO
  refine ⟨cells, e, hh, by omega, fun u hu => ?_, ?_⟩
  · obtain ⟨k, hk⟩ := List.getElem?_of_mem hu
    have hkl : k < vs.length := by
      rcases Nat.lt_or_ge k vs.length with h2 | h2
      · exact h2
      · rw [List.getElem?_eq_none (by omega)] at hk; cases hk
    exact (hv k u vs[k] hk (List.getElem?_eq_getElem hkl)).one (by rw [List.all_eq_true] at h1; exact h1 _ (List.getElem_mem hkl))
  · refine Mv.write R hc _ _ hb ?_ fun hAV => ?_
    · rw [hob]
      exact ⟨fun p a' ha => by simp [VO.age] at ha, fun p v _ ha _ => by simp [VO.age] at ha, fun cs' _ => ⟨⟨cs, rfl⟩, rfl⟩⟩
    · unfold ObjRel
      rw [upd_same]
      refine ⟨hb, spl cells off us, e, getElem?_set_same hh, by rw [spl_size (by omega), putL_len hle, hs], ?_, fun j v a hj ha => ?_⟩
      · rw [List.all_eq_true] at ho h1 ⊢
        intro a ha
        obtain ⟨k, hk⟩ := List.getElem?_of_mem ha
        rw [putL_get hle] at hk
        split at hk
        · exact h1 _ (List.mem_of_getElem? hk)
        · exact ho _ (List.mem_of_getElem? hk)
      · rw [putL_get hle] at ha
        split at ha
        · rename_i hm
          have := spl_in (cells := cells) (off := off) (vs := us) (by omega) (k := j - off) (by omega)
          rw [show off + (j - off) = j by omega] at this
          rw [this] at hj
          exact hAV v a (hv _ v a hj ha)
        · rename_i hm
          rw [spl_out (by omega) (by omega)] at hj
          exact hAV v a (hcs j v a hj ha)
end Go.Proofs.YtpdpgfagklhpaaaGreat.V

namespace Go.Proofs.YtpdpgfagklhpaaaGreat.V
open Go
set_option linter.unusedVariables false
set_option linter.unusedSimpArgs false
variable {ob ob' : Nat → VO} {β β' : Nat → BI} {C C' : Nat → Prop} {h h' : Heap} {Z Z' : Nat → Prop} {own own' : Nat → Option Nat}
theorem idx_ne {i i' j j' sz n : Nat} (hj : j' < sz) (hn : j + n ≤ sz) (hne : ¬ (i' = i ∧ j ≤ j' ∧ j' < j + n)) : i' * sz + j' < i * sz + j ∨ i * sz + j + n ≤ i' * sz + j' := by
  rcases Nat.lt_trichotomy i' i with h1 | h1 | h1
  · have : (i' + 1) * sz ≤ i * sz := Nat.mul_le_mul_right _ h1
    rw [Nat.add_mul] at this; omega
  · subst h1; omega
  · have : (i + 1) * sz ≤ i' * sz := Nat.mul_le_mul_right _ h1
    rw [Nat.add_mul] at this; omega
/-- Cells of rows, one row's part written. -/
theorem cells_put {cells : Array Value} {off sz : Nat} {rows : List (List T)} {i j : Nat} {r xs : List T} {us : List Value} {N N' : Nat → Nat → Value → T → Prop}
    (hw : ∀ r ∈ rows, r.length = sz) (hr : rows[i]? = some r) (hle : j + xs.length ≤ r.length) (hlen : us.length = xs.length) (hsz : off + (i * sz + j) + us.length ≤ cells.size)
    (hel : ∀ (i' : Nat) (r' : List T) (j' : Nat) (t : T), rows[i']? = some r' → r'[j']? = some t → ∃ u, cells[off + (i' * sz + j')]? = some u ∧ N i' j' u t)
    (hold : ∀ i' j' u t, N i' j' u t → N' i' j' u t) (hnew : ∀ (k : Nat) (u : Value) (x : T), us[k]? = some u → xs[k]? = some x → N' i (j + k) u x) :
    ∀ (i' : Nat) (r' : List T) (j' : Nat) (t : T), (rows.set i (putT r j xs))[i']? = some r' → r'[j']? = some t → ∃ u, (spl cells (off + (i * sz + j)) us)[off + (i' * sz + j')]? = some u ∧ N' i' j' u t := by
  intro i' r' j' t hi' hj'
  have hrl := hw r (List.mem_of_getElem? hr)
  rw [List.getElem?_set] at hi'
  split at hi'
  · rename_i e
    subst e
    split at hi'
    · cases hi'
      rw [putT_get hle] at hj'
      have hjl : j' < sz := by
        have : j' < (putT r j xs).length := by
          rcases Nat.lt_or_ge j' (putT r j xs).length with h1 | h1
          · exact h1
          · rw [putT_len hle] at h1
            split at hj'
            · omega
            · rw [List.getElem?_eq_none h1] at hj'; cases hj'
        rw [putT_len hle] at this; omega
      split at hj'
      · rename_i hm
        have hk : j' - j < us.length := by omega
        refine ⟨us[j' - j], ?_, ?_⟩
        · have := spl_in hsz hk
          rw [show off + (i * sz + j) + (j' - j) = off + (i * sz + j') by omega] at this
          rw [this, List.getElem?_eq_getElem hk]
        · have := hnew (j' - j) us[j' - j] t (List.getElem?_eq_getElem hk) hj'
          rwa [show j + (j' - j) = j' by omega] at this
      · rename_i hm
        obtain ⟨u, h1, h2⟩ := hel i r j' t hr hj'
        refine ⟨u, ?_, hold _ _ _ _ h2⟩
        rw [spl_out hsz (by omega)]; exact h1
    · cases hi'
  · rename_i e
    obtain ⟨u, h1, h2⟩ := hel i' r' j' t hi' hj'
    refine ⟨u, ?_, hold _ _ _ _ h2⟩
    have hjl : j' < sz := by
      have := hw r' (List.mem_of_getElem? hi')
      have h3 : j' < r'.length := by
        rcases Nat.lt_or_ge j' r'.length with h4 | h4
        · exact h4
        · rw [List.getElem?_eq_none h4] at hj'; cases hj'
      omega
    have := idx_ne (i := i) (i' := i') (j := j) (j' := j') (sz := sz) (n := us.length) hjl (by omega) (fun hc => e hc.1.symm)
    rw [spl_out hsz (by omega)]; exact h1
theorem wid_set {rows : List (List T)} {i j sz : Nat} {r xs : List T} (hw : ∀ r ∈ rows, r.length = sz) (hr : rows[i]? = some r) (hle : j + xs.length ≤ r.length) : ∀ r' ∈ rows.set i (putT r j xs), r'.length = sz := by
  intro r' h1
  rcases List.mem_or_eq_of_mem_set h1 with h2 | h2
  · exact hw r' h2
  · rw [h2, putT_len hle]; exact hw r (List.mem_of_getElem? hr)
def stepT (f : List (List T) → List (List T)) : T → T
  | .sl q => .sl (f q)
  | x => x
theorem setAt_cons (rows : List (List T)) (i j : Nat) (p : List (Nat × Nat)) (g : List (List T) → List (List T)) : setAt rows ((i, j) :: p) g = rows.modify i fun r => r.modify j (stepT fun q => setAt q p g) := by
  rw [setAt]; congr 1
theorem modify_get {rows : List (List T)} {i0 j0 i' j' : Nat} {f : T → T} {r' : List T} {t : T} (h1 : (rows.modify i0 fun r => r.modify j0 f)[i']? = some r') (h2 : r'[j']? = some t) :
    ∃ r0 t0, rows[i']? = some r0 ∧ r0[j']? = some t0 ∧ t = if i0 = i' ∧ j0 = j' then f t0 else t0 := by
  rw [List.getElem?_modify] at h1
  cases hr : rows[i']? with
  | none => rw [hr] at h1; cases h1
  | some r0 =>
    rw [hr] at h1
    simp only [Option.map_eq_map, Option.map_some, Option.some.injEq] at h1
    subst h1
    by_cases e : i0 = i'
    · simp only [e, if_true] at h2
      rw [List.getElem?_modify] at h2
      cases ht : r0[j']? with
      | none => rw [ht] at h2; cases h2
      | some t0 =>
        rw [ht] at h2
        simp only [Option.map_eq_map, Option.map_some, Option.some.injEq] at h2
        refine ⟨r0, t0, rfl, ht, ?_⟩
        by_cases e2 : j0 = j'
        · simp [e, e2] at h2 ⊢; exact h2.symm
        · simp [e, e2] at h2 ⊢; exact h2.symm
    · simp only [e, if_false] at h2
      exact ⟨r0, t, rfl, h2, by simp [e]⟩
theorem wid_modify {rows : List (List T)} {i0 j0 sz : Nat} {f : T → T} (hw : ∀ r ∈ rows, r.length = sz) : ∀ r ∈ rows.modify i0 (fun r => r.modify j0 f), r.length = sz := by
  intro r hr
  obtain ⟨k, hk⟩ := List.getElem?_of_mem hr
  rw [List.getElem?_modify] at hk
  cases h1 : rows[k]? with
  | none => rw [h1] at hk; cases hk
  | some r0 =>
    rw [h1] at hk
    simp only [Option.map_eq_map, Option.map_some, Option.some.injEq] at hk
    rw [← hk]
    have := hw r0 (List.mem_of_getElem? h1)
    split
    · simpa using this
    · exact this
/-- What is written: xs at cell j of row i of q, in block bq. -/
structure Wr (h : Heap) (val : Value) (q : List (List T)) (bq offq sz i j : Nat) (cells : Array Value) (e : TypeId) (r xs : List T) (us : List Value) : Prop where
  val : ∃ len cap, val = .slice (some ⟨bq, offq, none⟩) len cap
  hh : h[bq]? = some (Go.Obj.cells cells e (0, 0))
  wid : ∀ r ∈ q, r.length = sz
  row : q[i]? = some r
  le : j + xs.length ≤ r.length
  len : us.length = xs.length
  size : offq + (i * sz + j) + us.length ≤ cells.size
  new : ∀ (k : Nat) (u : Value) (x : T), us[k]? = some u → xs[k]? = some x → x.flat = true ∧ ∀ Z, Rep h Z u x
  old : ∀ (k : Nat) (x : T), k < xs.length → r[j + k]? = some x → x.flat = true
abbrev wrH (h : Heap) (bq offq sz i j : Nat) (cells : Array Value) (e : TypeId) (us : List Value) : Heap := h.setIfInBounds bq (.cells (spl cells (offq + (i * sz + j)) us) e)
abbrev wrG (i j : Nat) (r xs : List T) : List (List T) → List (List T) := fun q => q.set i (putT r j xs)
theorem flatRep {h h' : Heap} {Z Z' : Nat → Prop} {u : Value} {x : T} (hf : x.flat = true) (H : Rep h Z u x) : Rep h' Z' u x := by
  cases H with
  | b => exact .b _
  | i => exact .i _ _
  | s => exact .s _
  | nl => cases hf
  | sl0 => cases hf
  | sl1 a => cases hf
  | sl => cases hf
theorem RepO.upd {v val : Value} {rows q : List (List T)} {p : List (Nat × Nat)} {bq offq sz i j : Nat} {cells : Array Value} {e : TypeId} {r xs : List T} {us : List Value} (H : At h v rows p val q) (W : Wr h val q bq offq sz i j cells e r xs us) :
    ∀ {S : Nat → Prop}, RepO h S v (.sl rows) → S bq ∧ RepO (wrH h bq offq sz i j cells e us) S v (.sl (setAt rows p (wrG i j r xs))) := by
  induction H with
  | nil v rows =>
    intro S hro
    obtain ⟨b, off, cap, sz', cells', e', f, hve, hS, hh, hcap, hcs, hw, hel⟩ := hro.open_ (ne_of_get W.row)
    obtain ⟨len, cap2, hval⟩ := W.val
    rw [hve] at hval; cases hval
    have hh2 := W.hh
    rw [hh] at hh2; cases hh2
    have : sz' = sz := by rw [← W.wid r (List.mem_of_getElem? W.row), hw r (List.mem_of_getElem? W.row)]
    subst this
    refine ⟨hS, ?_⟩
    have hput := cells_put (N' := fun i' j' u t => RepO (wrH h bq offq sz' i j cells e us) (fun b' => S b' ∧ b' ≠ bq ∧ f b' = (i', j')) u t) W.wid W.row W.le W.len W.size hel
      (fun i' j' u t hN => hN.mono fun b hb => ⟨hb, getElem?_set_ne hb.2.1⟩) (fun k u x hu hx => ((W.new k u x hu hx).2 S).repO (W.new k u x hu hx).1 _ |>.mono fun b hb => ⟨hb, getElem?_set_ne hb.2.1⟩)
    have hvs : ∃ vs : Nat → Nat → Value, ∀ i' r' j' t, (rows.set i (putT r j xs))[i']? = some r' → r'[j']? = some t → (spl cells (offq + (i * sz' + j)) us)[offq + (i' * sz' + j')]? = some (vs i' j') ∧ RepO (wrH h bq offq sz' i j cells e us) (fun b' => S b' ∧ b' ≠ bq ∧ f b' = (i', j')) (vs i' j') t := by
      refine ⟨fun i' j' => ((spl cells (offq + (i * sz' + j)) us)[offq + (i' * sz' + j')]?).getD default, fun i' r' j' t hi hj => ?_⟩
      obtain ⟨u, h5, h6⟩ := hput i' r' j' t hi hj
      simp only [h5, Option.getD_some]
      exact ⟨trivial, h6⟩
    obtain ⟨vs, hvs⟩ := hvs
    rw [hve]
    simp only [setAt]
    rw [show rows.length = (rows.set i (putT r j xs)).length by simp]
    exact .sl S bq offq cap sz' _ e f vs _ hS (getElem?_set_same hh) (by simpa using hcap) (by rw [spl_size W.size]; exact hcs) (wid_set W.wid W.row W.le) (fun i' r' j' t h1 h2 => (hvs i' r' j' t h1 h2).1) fun i' r' j' t h1 h2 => (hvs i' r' j' t h1 h2).2
  | cons b off len cap sz0 cells0 e0 fz rows q0 r0 i0 j0 p v1 val q hh hr hv hi hj ha ih =>
    intro S hro
    obtain ⟨b', off', cap', sz', cells', e', f, hve, hS, hh', hcap, hcs, hw, hel⟩ := hro.open_ (ne_of_get hi)
    cases hve
    rw [hh] at hh'; cases hh'
    have : sz' = sz0 := by rw [← hr r0 (List.mem_of_getElem? hi), hw r0 (List.mem_of_getElem? hi)]
    subst this
    obtain ⟨v2, h2, h3⟩ := hel i0 r0 j0 _ hi hj
    rw [hv] at h2; cases h2
    obtain ⟨hbq, h4⟩ := ih W h3
    refine ⟨hbq.1, ?_⟩
    have hvs : ∃ vs : Nat → Nat → Value, ∀ i' r' j' t, (setAt rows ((i0, j0) :: p) (wrG i j r xs))[i']? = some r' → r'[j']? = some t → cells0[off + (i' * sz' + j')]? = some (vs i' j') ∧ RepO (wrH h bq offq sz i j cells e us) (fun b' => S b' ∧ b' ≠ b ∧ f b' = (i', j')) (vs i' j') t := by
      refine ⟨fun i' j' => (cells0[off + (i' * sz' + j')]?).getD default, fun i' r' j' t h5 h6 => ?_⟩
      rw [setAt_cons] at h5
      obtain ⟨r1, t1, h7, h8, h9⟩ := modify_get h5 h6
      obtain ⟨u, h10, h11⟩ := hel i' r1 j' t1 h7 h8
      simp only [h10, Option.getD_some]
      refine ⟨trivial, ?_⟩
      by_cases e3 : i0 = i' ∧ j0 = j'
      · obtain ⟨rfl, rfl⟩ := e3
        rw [hi] at h7; cases h7
        rw [hj] at h8; cases h8
        rw [hv] at h10; cases h10
        rw [h9, if_pos ⟨rfl, rfl⟩]
        exact h4
      · rw [h9, if_neg e3]
        refine h11.mono fun b2 hb2 => ⟨hb2, getElem?_set_ne fun e4 => ?_⟩
        subst e4
        have := hbq.2.2.symm.trans hb2.2.2
        simp only [Prod.mk.injEq] at this
        exact e3 this
    obtain ⟨vs, hvs⟩ := hvs
    have hl : rows.length = (setAt rows ((i0, j0) :: p) (wrG i j r xs)).length := by rw [setAt_cons]; simp
    rw [hl]
    refine .sl S b off cap sz' cells0 e0 f vs _ hS ?_ (by rw [← hl]; exact hcap) hcs ?_ (fun i' r' j' t h1 h2 => (hvs i' r' j' t h1 h2).1) fun i' r' j' t h1 h2 => (hvs i' r' j' t h1 h2).2
    · rw [getElem?_set_ne (fun e4 => hbq.2.1 e4.symm)]; exact hh
    · rw [setAt_cons]; exact wid_modify hw
/-- Paths before the writing are there after it. -/
theorem setAt_some {i j : Nat} {r xs : List T} {q : List (List T)} (hr : q[i]? = some r) (hle : j + xs.length ≤ r.length) (hold : ∀ (k : Nat) (x : T), k < xs.length → r[j + k]? = some x → x.flat = true) :
    ∀ (p : List (Nat × Nat)) (rows : List (List T)) (p2 : List (Nat × Nat)), rowsAt rows p = some q → (rowsAt rows p2).isSome → (rowsAt (setAt rows p (wrG i j r xs)) p2).isSome
  | [], rows, p2, h1, h2 => by
    simp only [rowsAt, Option.some.injEq] at h1
    subst h1
    cases p2 with
    | nil => rfl
    | cons ij p2 =>
      obtain ⟨i2, j2⟩ := ij
      simp only [rowsAt, setAt] at h2 ⊢
      split at h2
      · rename_i q3 h3
        rw [Option.bind_eq_some_iff] at h3
        obtain ⟨r3, h4, h5⟩ := h3
        have : ((rows.set i (putT r j xs))[i2]?).bind (·[j2]?) = some (.sl q3) := by
          rw [List.getElem?_set]
          by_cases e : i = i2
          · subst e
            rw [hr] at h4; cases h4
            have hlt : i < rows.length := by
              rcases Nat.lt_or_ge i rows.length with h6 | h6
              · exact h6
              · rw [List.getElem?_eq_none h6] at hr; cases hr
            simp only [if_pos, hlt, Option.bind_some]
            rw [putT_get hle, if_neg]
            · exact h5
            · intro hm
              have := hold (j2 - j) (.sl q3) (by omega) (by rw [show j + (j2 - j) = j2 by omega]; exact h5)
              cases this
          · rw [if_neg e, h4]; exact h5
        simp only [this]; exact h2
      · cases h2
  | (i0, j0) :: p, rows, p2, h1, h2 => by
    simp only [rowsAt] at h1
    split at h1
    · rename_i q0 h3
      rw [Option.bind_eq_some_iff] at h3
      obtain ⟨r0, h4, h5⟩ := h3
      cases p2 with
      | nil => rfl
      | cons ij p2 =>
        obtain ⟨i2, j2⟩ := ij
        simp only [rowsAt] at h2 ⊢
        split at h2
        · rename_i q3 h6
          rw [Option.bind_eq_some_iff] at h6
          obtain ⟨r3, h7, h8⟩ := h6
          rw [setAt_cons, List.getElem?_modify, h7]
          simp only [Option.map_eq_map, Option.map_some, Option.bind_some]
          by_cases e : i0 = i2
          · subst e
            rw [h4] at h7; cases h7
            simp only [if_true]
            rw [List.getElem?_modify, h8]
            simp only [Option.map_eq_map, Option.map_some]
            by_cases e2 : j0 = j2
            · subst e2
              rw [h5] at h8; cases h8
              simp only [if_true, stepT]
              exact setAt_some hr hle hold p q0 p2 h1 h2
            · simp only [e2, if_false]; exact h2
          · simp only [e, if_false, h8]; exact h2
        · cases h2
    · cases h1
/-- Paths after the writing were there before. -/
theorem At.upd {v val : Value} {rows q : List (List T)} {p : List (Nat × Nat)} {bq offq sz i j : Nat} {cells : Array Value} {e : TypeId} {r xs : List T} {us : List Value} (H : At h v rows p val q) (W : Wr h val q bq offq sz i j cells e r xs us) :
    ∀ {S : Nat → Prop} (hro : RepO h S v (.sl rows)) (p2 : List (Nat × Nat)) (q2' : List (List T)), V.rowsAt (setAt rows p (wrG i j r xs)) p2 = some q2' →
      ∃ q2, V.rowsAt rows p2 = some q2 ∧ q2'.length = q2.length ∧ (∀ sz, (∀ r ∈ q2, r.length = sz) → ∀ r ∈ q2', r.length = sz) ∧ ∀ val2, At h v rows p2 val2 q2 → At (wrH h bq offq sz i j cells e us) v (setAt rows p (wrG i j r xs)) p2 val2 q2' := by
  induction H with
  | nil v rows =>
    intro S hro p2 q2' h2
    simp only [setAt] at h2 ⊢
    cases p2 with
    | nil =>
      simp only [V.rowsAt, Option.some.injEq] at h2
      subst h2
      refine ⟨rows, rfl, by simp, fun sz' hw => wid_set hw W.row W.le, fun val2 ha => ?_⟩
      obtain ⟨rfl, _⟩ := ha.inv0 rfl
      exact .nil _ _
    | cons ij p2 =>
      obtain ⟨i2, j2⟩ := ij
      simp only [V.rowsAt] at h2
      split at h2
      · rename_i q3 h3
        rw [Option.bind_eq_some_iff] at h3
        obtain ⟨r3, h4, h5⟩ := h3
        obtain ⟨b, off, cap, sz', cells', e', f, hve, hS, hh, hcap, hcs, hw, hel⟩ := hro.open_ (ne_of_get W.row)
        obtain ⟨len, cap2, hval⟩ := W.val
        rw [hve] at hval; cases hval
        have hh2 := W.hh
        rw [hh] at hh2; cases hh2
        have : sz' = sz := by rw [← W.wid r (List.mem_of_getElem? W.row), hw r (List.mem_of_getElem? W.row)]
        subst this
        have hold : ∃ r4, rows[i2]? = some r4 ∧ r4[j2]? = some (.sl q3) ∧ ¬ (i2 = i ∧ j ≤ j2 ∧ j2 < j + xs.length) := by
          rw [List.getElem?_set] at h4
          split at h4
          · rename_i e4
            subst e4
            split at h4
            · cases h4
              rw [putT_get W.le] at h5
              split at h5
              · rename_i hm
                have hk : j2 - j < us.length := by have := W.len; omega
                have := (W.new (j2 - j) _ _ (List.getElem?_eq_getElem hk) h5).1
                cases this
              · rename_i hm; exact ⟨r, W.row, h5, fun hc => hm hc.2⟩
            · cases h4
          · rename_i e4; exact ⟨r3, h4, h5, fun hc => e4 hc.1.symm⟩
        obtain ⟨r4, h6, h7, h8⟩ := hold
        refine ⟨q2', by simp only [V.rowsAt, h6, Option.bind_some, h7]; exact h2, rfl, fun _ h => h, fun val2 ha => ?_⟩
        obtain ⟨b1, off1, len1, cap1, sz1, cells1, e1, fz1, q5, r5, v5, hv5, hh5, hw5, hc5, hi5, hj5, ha5⟩ := ha.inv1 rfl
        rw [hve] at hv5; cases hv5
        rw [hh] at hh5; cases hh5
        rw [h6] at hi5; cases hi5
        rw [h7] at hj5; cases hj5
        have hs1 : sz1 = sz' := by rw [← hw5 r4 (List.mem_of_getElem? h6), hw r4 (List.mem_of_getElem? h6)]
        subst hs1
        obtain ⟨u, h10, h11⟩ := hel i2 r4 j2 _ h6 h7
        rw [hc5] at h10; cases h10
        have hjl : j2 < sz1 := by
          have := hw r4 (List.mem_of_getElem? h6)
          have h9 : j2 < r4.length := by
            rcases Nat.lt_or_ge j2 r4.length with h9 | h9
            · exact h9
            · rw [List.getElem?_eq_none h9] at h7; cases h7
          omega
        have hne := idx_ne (i := i) (i' := i2) (j := j) (j' := j2) (sz := sz1) (n := us.length) hjl (by have := W.le; have := W.len; have := W.wid r (List.mem_of_getElem? W.row); omega) (by rw [W.len]; exact h8)
        rw [hve]
        refine .cons bq offq _ _ sz1 _ e (0, 0) _ q3 r3 i2 j2 p2 _ val2 q2' (getElem?_set_same hh) (wid_set W.wid W.row W.le) ?_ h4 h5 (ha5.keepO h11 fun b hb => getElem?_set_ne hb.2.1)
        rw [spl_out W.size (by omega)]; exact hc5
      · cases h2
  | cons b off len cap sz0 cells0 e0 fz rows q0 r0 i0 j0 p v1 val q hh hr hv hi hj ha ih =>
    intro S hro p2 q2' h2
    obtain ⟨b', off', cap', sz', cells', e', f, hve, hS, hh', hcap, hcs, hw, hel⟩ := hro.open_ (ne_of_get hi)
    cases hve
    rw [hh] at hh'; cases hh'
    have : sz' = sz0 := by rw [← hr r0 (List.mem_of_getElem? hi), hw r0 (List.mem_of_getElem? hi)]
    subst this
    obtain ⟨v2, h2', h3⟩ := hel i0 r0 j0 _ hi hj
    rw [hv] at h2'; cases h2'
    obtain ⟨hbq, _⟩ := RepO.upd ha W h3
    cases p2 with
    | nil =>
      simp only [V.rowsAt, Option.some.injEq] at h2
      subst h2
      refine ⟨rows, rfl, by rw [setAt_cons]; simp, fun sz' hw => by rw [setAt_cons]; exact wid_modify hw, fun val2 ha => ?_⟩
      obtain ⟨rfl, _⟩ := ha.inv0 rfl
      exact .nil _ _
    | cons ij p2 =>
      obtain ⟨i2, j2⟩ := ij
      simp only [V.rowsAt] at h2
      split at h2
      · rename_i q3 h5
        rw [Option.bind_eq_some_iff] at h5
        obtain ⟨r3, h6, h7⟩ := h5
        have h6' := h6
        rw [setAt_cons] at h6'
        obtain ⟨r1, t1, h8, h9, h10⟩ := modify_get h6' h7
        have hlev : (wrH h bq offq sz i j cells e us)[b]? = some (.cells cells0 e0 (0, 0)) := by rw [getElem?_set_ne (fun e4 => hbq.2.1 e4.symm)]; exact hh
        have hwid : ∀ r' ∈ setAt rows ((i0, j0) :: p) (wrG i j r xs), r'.length = sz' := by rw [setAt_cons]; exact wid_modify hw
        by_cases e3 : i0 = i2 ∧ j0 = j2
        · obtain ⟨rfl, rfl⟩ := e3
          rw [hi] at h8; cases h8
          rw [hj] at h9; cases h9
          rw [if_pos ⟨rfl, rfl⟩] at h10
          simp only [stepT, T.sl.injEq] at h10
          subst h10
          obtain ⟨q2, h11, h12, h13, h14⟩ := ih W h3 p2 q2' h2
          refine ⟨q2, by simp only [V.rowsAt, hi, Option.bind_some, hj]; exact h11, h12, h13, fun val2 ha2 => ?_⟩
          obtain ⟨b1, off1, len1, cap1, sz1, cells1, e1, fz1, q5, r5, v5, hv5, hh5, hw5, hc5, hi5, hj5, ha5⟩ := ha2.inv1 rfl
          cases hv5
          rw [hh] at hh5; cases hh5
          rw [hi] at hi5; cases hi5
          rw [hj] at hj5; cases hj5
          have hs1 : sz1 = sz' := by rw [← hw5 r0 (List.mem_of_getElem? hi), hw r0 (List.mem_of_getElem? hi)]
          subst hs1
          rw [hv] at hc5; cases hc5
          exact .cons b off _ _ sz1 cells0 e0 (0, 0) _ _ r3 i0 j0 p2 v1 val2 q2' hlev hwid hv h6 h7 (h14 val2 ha5)
        · rw [if_neg e3] at h10
          subst h10
          refine ⟨q2', by simp only [V.rowsAt, h8, Option.bind_some, h9]; exact h2, rfl, fun _ h => h, fun val2 ha2 => ?_⟩
          obtain ⟨b1, off1, len1, cap1, sz1, cells1, e1, fz1, q5, r5, v5, hv5, hh5, hw5, hc5, hi5, hj5, ha5⟩ := ha2.inv1 rfl
          cases hv5
          rw [hh] at hh5; cases hh5
          rw [h8] at hi5; cases hi5
          rw [h9] at hj5; cases hj5
          have hs1 : sz1 = sz' := by rw [← hw5 r1 (List.mem_of_getElem? h8), hw r1 (List.mem_of_getElem? h8)]
          subst hs1
          obtain ⟨u, h11, h12⟩ := hel i2 r1 j2 _ h8 h9
          rw [hc5] at h11; cases h11
          refine .cons b off _ _ sz1 cells0 e0 (0, 0) _ _ r3 i2 j2 p2 v5 val2 q2' hlev hwid hc5 h6 h7 (ha5.keepO h12 fun b2 hb2 => getElem?_set_ne fun e4 => ?_)
          subst e4
          have := hbq.2.2.symm.trans hb2.2.2
          simp only [Prod.mk.injEq] at this
          exact e3 this
      · cases h2
end Go.Proofs.YtpdpgfagklhpaaaGreat.V

namespace Go.Proofs.YtpdpgfagklhpaaaGreat.V
open Go
set_option linter.unusedVariables false
set_option linter.unusedSimpArgs false
variable {ob ob' : Nat → VO} {β β' : Nat → BI} {C C' : Nat → Prop} {h h' : Heap} {Z Z' : Nat → Prop} {own own' : Nat → Option Nat}
theorem RepO.toArr {S : Nat → Prop} {rows : List (List T)} {bi : BI} {v : Value} (H : RepO h S v (.sl rows)) (hv : v = .slice bi.addr rows.length bi.cap) (hne : rows ≠ []) (hb : bi.isNil = false) : ∃ sz f, ArrG h S sz rows bi (NOwn h S bi f 0) := by
  obtain ⟨b, off, cap, sz, cells, e, f, hve, hS, hh, hcap, hcs, hw, hel⟩ := H.open_ hne
  rw [hv] at hve
  simp only [BI.addr, hb] at hve
  have e1 : bi.b = b ∧ bi.off = off ∧ bi.cap = cap := by
    simp at hve
    exact ⟨hve.1.1, hve.1.2, hve.2⟩
  obtain ⟨rfl, rfl, rfl⟩ := e1
  exact ⟨sz, f, hw, hcap, fun h => (by rw [hb] at h; cases h), fun _ => ⟨hS, cells, e, hh, hcs, fun i r j t hi hj => by
    obtain ⟨u, h1, h2⟩ := hel i r j t hi hj
    exact ⟨u, h1, h2.one, fun hf => h2.flat hf _, fun _ => h2⟩⟩⟩
theorem mapM_asT {vs : List AV} {xs : List T} (h : vs.mapM asT = some xs) : vs = xs.map .t := by
  induction vs generalizing xs with
  | nil => simp at h; subst h; rfl
  | cons a l ih =>
    rw [List.mapM_cons] at h
    cases a with
    | t x =>
      simp only [asT, Option.pure_def, Option.bind_eq_bind, Option.bind_some, Option.bind_eq_some_iff, Option.some.injEq] at h
      obtain ⟨ys, h1, rfl⟩ := h
      rw [ih h1]; rfl
    | _ => simp [asT] at h
theorem storeV_ok {σ σ' : Sto} (R : Rel σ.ob β C h Z own) {a : AV} {vs : List AV} {pv : Value} {us : List Value} (hv : AVRel σ.ob β C h Z pv a) (hlen : us.length = vs.length)
    (hu : ∀ (k : Nat) (u : Value) (x : AV), us[k]? = some u → vs[k]? = some x → AVRel σ.ob β C h Z u x) (hs : storeV σ a vs = some σ') :
    ∃ b off cells e, pv = .pointer (some ⟨b, off, none⟩) ∧ h[b]? = some (Go.Obj.cells cells e (0, 0)) ∧ off + us.length ≤ cells.size ∧ (∀ u ∈ us, oneV u = true) ∧ σ'.n = σ.n ∧
      Mv σ.ob β C h Z own σ'.ob β C (h.setIfInBounds b (.cells (spl cells off us) e)) Z own := by
  cases hv with
  | ptr o off ad hc hx =>
    simp only [storeV] at hs
    split at hs
    · rename_i cs hob
      split at hs
      · rename_i hcond
        cases hs
        obtain ⟨cells, e, h1, h2, h3, M⟩ := Mv.setBox R hc hob hcond.1 hcond.2 hlen hu
        exact ⟨(β o).b, off, cells, e, by rw [hx cs hob], h1, h2, h3, rfl, M⟩
      · cases hs
    · cases hs
  | eptr o v p i j ad hc hx =>
    simp only [storeV] at hs
    split at hs
    · rename_i q hq
      split at hs
      · rename_i r hr
        split at hs
        · rename_i hle
          split at hs
          · rename_i xs hxs
            split at hs
            · rename_i hflat
              have hvs := mapM_asT hxs
              have hxl : xs.length = vs.length := by rw [hvs]; simp
              obtain ⟨b, off, len, cap, sz, hat, hw, hi, had⟩ := hx.2.2 q hq
              have hnew : ∀ (k : Nat) (u : Value) (x : T), us[k]? = some u → xs[k]? = some x → x.flat = true ∧ ∀ Z, Rep h Z u x := by
                intro k u x h1 h2
                have h3 : vs[k]? = some (.t x) := by rw [hvs]; simp [h2]
                have h4 := hu k u _ h1 h3
                have h5 : x.flat = true := by
                  have := hflat.1; rw [List.all_eq_true] at this; exact this x (List.mem_of_getElem? h2)
                cases h4 with
                | t _ _ h6 => exact ⟨h5, fun Z => flatRep h5 h6⟩
              have hone : ∀ u ∈ us, oneV u = true := by
                intro u h1
                obtain ⟨k, hk⟩ := List.getElem?_of_mem h1
                have hkl : k < xs.length := by
                  have := getElem?_lt (a := us.toArray) (by simpa using hk)
                  simp at this; omega
                exact ((hnew k u _ hk (List.getElem?_eq_getElem hkl)).2 Z).one
              have hold : ∀ (k : Nat) (x : T), k < xs.length → r[j + k]? = some x → x.flat = true := by
                intro k x h1 h2
                have := hflat.2; rw [List.all_eq_true] at this
                refine this x (List.mem_of_getElem? (i := k) ?_)
                rw [List.getElem?_take, if_pos (by omega), List.getElem?_drop]; exact h2
              have HO := R.objs o hc
              unfold ObjRel at HO
              split at hs
              · cases hs
              · cases hs
              · rename_i m st szo rw_ hm1 hm2 hob
                cases hs
                rw [hob] at HO hq hat
                have hrl := hw r (List.mem_of_getElem? hr)
                cases m with
                | frz => exact (hm1 rfl).elim
                | own k =>
                  cases k with
                  | succ k => exact (hm2 k rfl).elim
                  | zero =>
                    obtain ⟨f, HO⟩ := HO
                    have hro := RepO.ofArr HO
                    simp only [VO.val, VO.all] at hat
                    have hrn : rw_ ≠ [] := by
                      have := hat.rowsAt
                      rintro rfl
                      cases p with
                      | nil => simp only [V.rowsAt, Option.some.injEq] at this; subst this; simp at hr
                      | cons a p => simp [V.rowsAt] at this
                    have hbn : (β o).isNil = false := by
                      cases hb : (β o).isNil with
                      | false => rfl
                      | true => exact absurd (List.eq_nil_of_length_eq_zero (by have := HO.nil hb; have := HO.cap; omega)) hrn
                    obtain ⟨S', hS', hro2⟩ := hat.repO hro
                    obtain ⟨b2, off2, cap2, sz2, cells, e, f2, hve, hSb, hh, hcap2, hcs2, hw2, hel2⟩ := hro2.open_ (ne_of_get hr)
                    cases hve
                    have : sz2 = sz := by rw [← hw r (List.mem_of_getElem? hr), hw2 r (List.mem_of_getElem? hr)]
                    subst this
                    have hi' : i < q.length := hi
                    have hsize : off + (i * sz2 + j) + us.length ≤ cells.size := by
                      have h1 : (i + 1) * sz2 ≤ cap * sz2 := Nat.mul_le_mul_right _ (by omega)
                      rw [Nat.add_mul] at h1; omega
                    have W : Wr h (.slice (some ⟨b, off, none⟩) q.length cap) q b off sz2 i j cells e r xs us := ⟨⟨_, _, rfl⟩, hh, hw, hr, by omega, by omega, hsize, hnew, hold⟩
                    refine ⟨b, off + (i * sz2 + j), cells, e, by rw [had], hh, hsize, hone, rfl, ?_⟩
                    obtain ⟨_, hro3⟩ := RepO.upd hat W hro
                    have hl : (setAt rw_ p (wrG i j r xs)).length = rw_.length := by
                      cases p with
                      | nil => simp [setAt]
                      | cons a p => obtain ⟨i0, j0⟩ := a; rw [setAt_cons]; simp
                    refine Mv.write R hc _ _ (hS' _ hSb) ?_ fun _ => ?_
                    · rw [hob]
                      refine ⟨fun p2 a' ha => ?_, fun p2 v2 h1 _ hs2 => ⟨?_, fun q2' h2 => ?_⟩, fun cs' hc => by cases hc⟩
                      · cases p2 with
                        | nil => simp only [VO.age, Option.some.injEq] at ha ⊢; exact ⟨_, rfl, by rw [← ha]; exact Nat.le_of_eq hl.symm⟩
                        | cons => simp only [VO.age, Option.some.injEq] at ha ⊢; exact ⟨_, rfl, Nat.le_of_eq ha⟩
                      · exact setAt_some hr (by omega) hold p rw_ p2 hat.rowsAt hs2
                      · have h3 : V.rowsAt (setAt rw_ p (wrG i j r xs)) p2 = some q2' := by
                          cases p2 with
                          | nil =>
                            simp only [VO.rows] at h2
                            split at h2
                            · exact h2
                            · cases h2
                          | cons a p2 =>
                            obtain ⟨i0, j0⟩ := a
                            simp only [VO.rows] at h2
                            split at h2
                            · exact h2
                            · cases h2
                        obtain ⟨q2, h4, h5, h6, h7⟩ := At.upd hat W hro p2 q2' h3
                        refine ⟨q2, ?_, h5, h6, fun val h8 => ?_⟩
                        · cases p2 with
                          | nil =>
                            simp only [V.rowsAt, Option.some.injEq] at h4
                            subst h4
                            simp only [VO.rows] at h2 ⊢
                            rw [hl] at h2
                            split at h2
                            · rename_i h9; rw [if_pos h9]
                            · cases h2
                          | cons a p2 =>
                            obtain ⟨i0, j0⟩ := a
                            simp only [VO.rows] at h2 ⊢
                            split at h2
                            · rename_i h9; rw [if_pos h9]; exact h4
                            · cases h2
                        · have := h7 val h8
                          simp only [VO.val, VO.all]
                          rw [hl]; exact this
                    · unfold ObjRel
                      rw [upd_same]
                      rw [show Value.slice (β o).addr rw_.length (β o).cap = Value.slice (β o).addr (setAt rw_ p (wrG i j r xs)).length (β o).cap by rw [hl]] at hro3
                      obtain ⟨sz3, f3, hA⟩ := RepO.toArr hro3 rfl (by intro h0; rw [h0] at hl; exact hrn (List.eq_nil_of_length_eq_zero hl.symm)) hbn
                      have hsz3 : sz3 = szo := by
                        cases hrw : rw_ with
                        | nil => exact absurd hrw hrn
                        | cons r0 rs =>
                          have hwall : ∀ r' ∈ setAt rw_ p (wrG i j r xs), r'.length = szo := by
                            cases p with
                            | nil =>
                              simp only [setAt]
                              have : rw_ = q := by have := hat.rowsAt; simpa [V.rowsAt] using this
                              subst this
                              exact wid_set HO.wid hr (by omega)
                            | cons a p => obtain ⟨i0, j0⟩ := a; rw [setAt_cons]; exact wid_modify HO.wid
                          cases hset : setAt rw_ p (wrG i j r xs) with
                          | nil => rw [hset, hrw] at hl; simp at hl
                          | cons r1 rs1 =>
                            rw [hset] at hwall hA
                            exact (hA.wid r1 (by simp)).symm.trans (hwall r1 (by simp))
                      subst hsz3
                      exact ⟨f3, hA⟩
                | shr =>
                  cases p with
                  | cons a p => simp [VO.rows] at hq
                  | nil =>
                    obtain ⟨hval, hqe⟩ := hat.inv0 rfl
                    simp only [VO.val, VO.all] at hval hqe
                    subst hqe
                    have hbn : (β o).isNil = false := by
                      cases hb : (β o).isNil with
                      | false => rfl
                      | true => exact absurd (List.eq_nil_of_length_eq_zero (by have := ArrG.nil HO hb; have := ArrG.cap HO; omega)) (ne_of_get hr)
                    simp only [BI.addr, hbn] at hval
                    cases hval
                    obtain ⟨hS, cells, e, hh, hcs, hel⟩ := ArrG.blk HO hbn
                    have hcap := ArrG.cap HO
                    have hwid := ArrG.wid HO
                    have : sz = szo := by rw [← hw r (List.mem_of_getElem? hr), hwid r (List.mem_of_getElem? hr)]
                    subst this
                    have hsize : (β o).off + (i * sz + j) + us.length ≤ cells.size := by
                      have h1 : (i + 1) * sz ≤ (β o).cap * sz := Nat.mul_le_mul_right _ (by omega)
                      rw [Nat.add_mul] at h1; omega
                    refine ⟨(β o).b, (β o).off + (i * sz + j), cells, e, by rw [had], hh, hsize, hone, rfl, ?_⟩
                    refine Mv.write R hc _ _ hS ?_ fun _ => ?_
                    · rw [hob]
                      refine ⟨fun p2 a' ha => ?_, fun p2 v2 h1 _ hs2 => ⟨setAt_some hr (by omega) hold [] q p2 rfl hs2, fun q2' h2 => ?_⟩, fun cs' hc => by cases hc⟩
                      · cases p2 with
                        | nil => simp only [VO.age, setAt, Option.some.injEq, List.length_set] at ha ⊢; exact ⟨_, rfl, Nat.le_of_eq ha⟩
                        | cons => simp only [VO.age, Option.some.injEq] at ha ⊢; exact ⟨_, rfl, Nat.le_of_eq ha⟩
                      · cases p2 with
                        | cons a p2 => simp [VO.rows] at h2
                        | nil =>
                          simp only [VO.rows, setAt, List.length_set] at h2
                          split at h2
                          · rename_i h9
                            cases h2
                            refine ⟨q, by simp [VO.rows, h9], by simp, fun sz' hw' => wid_set hw' hr (by omega), fun val h8 => ?_⟩
                            obtain ⟨rfl, _⟩ := h8.inv0 rfl
                            simp only [VO.val, VO.all, setAt, List.length_set]
                            exact .nil _ _
                          · cases h2
                    · unfold ObjRel
                      rw [upd_same]
                      simp only [setAt]
                      refine ⟨wid_set hwid hr (by omega), by simpa using hcap, fun h => (by rw [hbn] at h; cases h), fun _ => ⟨hS, spl cells ((β o).off + (i * sz + j)) us, e, getElem?_set_same hh, by rw [spl_size hsize]; exact hcs, ?_⟩⟩
                      have hZ : ∀ b, Z b → Z b ∧ (h.setIfInBounds (β o).b (.cells (spl cells ((β o).off + (i * sz + j)) us) e))[b]? = h[b]? := fun b hb => ⟨hb, getElem?_set_ne fun e4 => by rw [e4] at hb; have := (R.zlt _ hb).2; rw [hS] at this; cases this⟩
                      exact cells_put hwid hr (by omega) (by omega) hsize hel (fun i' j' u t hN => hN.mono hZ) (fun k u x h1 h2 => flatRep (hnew k u x h1 h2).1 ((hnew k u x h1 h2).2 Z))
              · cases hs
            · cases hs
          · cases hs
        · cases hs
      · cases hs
    · cases hs
  | _ => simp [storeV] at hs
end Go.Proofs.YtpdpgfagklhpaaaGreat.V

namespace Go.Proofs.YtpdpgfagklhpaaaGreat.V
open Go
set_option linter.unusedVariables false
set_option linter.unusedSimpArgs false
variable {ob ob' : Nat → VO} {β β' : Nat → BI} {C C' : Nat → Prop} {h h' : Heap} {Z Z' : Nat → Prop} {own own' : Nat → Option Nat}
/-- Cells of rows in one list. -/
theorem flat_us {rows : List (List T)} {sz : Nat} {Q : Nat → Nat → Value → T → Prop} (hw : ∀ r ∈ rows, r.length = sz)
    (H : ∀ (i : Nat) (r : List T) (j : Nat) (t : T), rows[i]? = some r → r[j]? = some t → ∃ u, Q i j u t) :
    ∃ us : List Value, us.length = rows.length * sz ∧ ∀ (i : Nat) (r : List T) (j : Nat) (t : T), rows[i]? = some r → r[j]? = some t → ∃ u, us[i * sz + j]? = some u ∧ Q i j u t := by
  rcases Nat.eq_zero_or_pos sz with h0 | h0
  · subst h0
    refine ⟨[], by simp, fun i r j t hi hj => ?_⟩
    have := hw r (List.mem_of_getElem? hi)
    rw [List.eq_nil_of_length_eq_zero this] at hj; simp at hj
  · have : ∀ k, k < rows.length * sz → ∃ v, ∀ (r : List T) (t : T), rows[k / sz]? = some r → r[k % sz]? = some t → Q (k / sz) (k % sz) v t := by
      intro k hk
      have hd : k / sz < rows.length := (Nat.div_lt_iff_lt_mul h0).2 hk
      have hr := List.getElem?_eq_getElem hd
      have hl := hw _ (List.mem_of_getElem? hr)
      have hm : k % sz < rows[k / sz].length := by rw [hl]; exact Nat.mod_lt _ h0
      obtain ⟨u, hu⟩ := H _ _ _ _ hr (List.getElem?_eq_getElem hm)
      refine ⟨u, fun r t h1 h2 => ?_⟩
      rw [hr] at h1; cases h1
      rw [List.getElem?_eq_getElem hm] at h2; cases h2
      exact hu
    obtain ⟨us, hl, hus⟩ := choose_list this
    refine ⟨us, hl, fun i r j t hi hj => ?_⟩
    have hil : i < rows.length := getElem?_lt (a := rows.toArray) (by simpa using hi)
    have hjl : j < sz := by
      have := getElem?_lt (a := r.toArray) (i := j) (by simpa using hj)
      have h2 := hw r (List.mem_of_getElem? hi)
      simp at this; omega
    have hk : i * sz + j < us.length := by
      rw [hl]
      have : (i + 1) * sz ≤ rows.length * sz := Nat.mul_le_mul_right _ hil
      rw [Nat.add_mul] at this; omega
    have h1 : (i * sz + j) / sz = i := by rw [Nat.mul_comm, Nat.mul_add_div h0, Nat.div_eq_of_lt hjl]; rfl
    have h2 : (i * sz + j) % sz = j := by rw [Nat.mul_comm, Nat.mul_add_mod, Nat.mod_eq_of_lt hjl]
    have := hus (i * sz + j) us[i * sz + j] (List.getElem?_eq_getElem hk) r t (by rw [h1]; exact hi) (by rw [h2]; exact hj)
    rw [h1, h2] at this
    exact ⟨_, List.getElem?_eq_getElem hk, this⟩
theorem flat_split {rows : List (List T)} {sz k : Nat} (hw : ∀ r ∈ rows, r.length = sz) (hk : k < rows.length * sz) : ∃ i r j t, rows[i]? = some r ∧ r[j]? = some t ∧ k = i * sz + j := by
  have h0 : 0 < sz := by
    rcases Nat.eq_zero_or_pos sz with h0 | h0
    · subst h0; simp at hk
    · exact h0
  have hd : k / sz < rows.length := (Nat.div_lt_iff_lt_mul h0).2 hk
  have hr := List.getElem?_eq_getElem hd
  have hl := hw _ (List.mem_of_getElem? hr)
  have hm : k % sz < rows[k / sz].length := by rw [hl]; exact Nat.mod_lt _ h0
  exact ⟨k / sz, _, k % sz, _, hr, List.getElem?_eq_getElem hm, by rw [Nat.mul_comm]; exact (Nat.div_add_mod k sz).symm⟩
/-- The value of a name of a slice has its length; its cells. -/
theorem Rel.ref_ok (R : Rel ob β C h Z own) {o v : Nat} {p : List (Nat × Nat)} {xv : Value} {q : List (List T)} (hv : AVRel ob β C h Z xv (.ref o v p)) (hq : (ob o).rows v p = some q) :
    ∃ a c, xv = .slice a q.length c ∧ (q ≠ [] → ∃ b off sz cells e fz, a = some ⟨b, off, none⟩ ∧ h[b]? = some (.cells cells e fz) ∧ (∀ r ∈ q, r.length = sz) ∧
      ∀ (i : Nat) (r : List T) (j : Nat) (t : T), q[i]? = some r → r[j]? = some t → ∃ u, cells[off + (i * sz + j)]? = some u ∧ oneV u = true ∧ (t.flat = true → Rep h Z u t) ∧
        (match ob o with | .arr (.own k) _ _ _ => p ≠ [] ∨ k ≤ i → ∃ S : Nat → Prop, (∀ b, S b → own b = some o) ∧ RepO h S u t | _ => Rep h Z u t)) := by
  cases hv with
  | ref _ _ _ a l c hc hx hl0 =>
    have hat := hx.2.2 q hq
    by_cases hne : q = []
    · subst hne
      have hl : l = 0 := by
        have HO := R.objs o hc
        unfold ObjRel at HO
        cases hob : ob o with
        | box cs => rw [hob] at hq; simp [VO.rows] at hq
        | dead => rw [hob] at hq; simp [VO.rows] at hq
        | arr m st sz rows =>
          rw [hob] at HO hq hat
          cases p with
          | nil =>
            obtain ⟨h1, h2⟩ := hat.inv0 rfl
            simp only [VO.val, VO.all] at h1 h2
            cases h1; rw [← h2]; rfl
          | cons ij p =>
            obtain ⟨i0, j0⟩ := ij
            cases m with
            | own k =>
              simp only [VO.rows] at hq
              split at hq
              · rename_i hcond
                obtain ⟨f, HO⟩ := HO
                obtain ⟨b, off, len, cap, sz', cells', e', fz', q', r', v1, hve, hh', hr', hv', hi', hj', ha'⟩ := hat.inv1 rfl
                simp only [VO.val, VO.all] at hve hr' hi'
                have hb : (β o).isNil = false := by
                  cases hb : (β o).isNil with
                  | false => rfl
                  | true => rw [BI.addr, if_pos hb] at hve; cases hve
                obtain ⟨hS, cells, e, hh, hcs, hel⟩ := HO.blk hb
                simp only [BI.addr, hb] at hve
                cases hve
                rw [hh] at hh'; cases hh'
                have : sz' = sz := by rw [← hr' r' (List.mem_of_getElem? hi'), HO.wid r' (List.mem_of_getElem? hi')]
                subst this
                obtain ⟨u, h1, h2⟩ := hel i0 r' j0 _ hi' hj'
                rw [hv'] at h1; cases h1
                obtain ⟨S', hS', hro⟩ := ha'.repO (h2.2.2 hcond.2)
                cases hro <;> rfl
              · cases hq
            | shr => simp [VO.rows] at hq
            | frz => simp [VO.rows] at hq
      exact ⟨a, c, by rw [hl]; rfl, fun hn => absurd rfl hn⟩
    · obtain ⟨b, off, cap, sz, cells, e, fz, hve, hh, _, hw, hel⟩ := R.rowsAt hc hq hat hne
      cases hve
      exact ⟨_, _, rfl, fun _ => ⟨b, off, sz, cells, e, fz, rfl, hh, hw, hel⟩⟩
/-- What is known of the rows that are appended. -/
structure Rows (h : Heap) (Z : Nat → Prop) (own : Nat → Option Nat) (m : Nat) (sz : Nat) (rows : List (List T)) (f : Bool) (xv : Value) (us : List Value) (S : Nat → Nat → Nat → Prop) : Prop where
  len : us.length = rows.length * sz
  val : ∃ a c, xv = .slice a rows.length c ∧ (rows ≠ [] → ∃ b off, a = some ⟨b, off, none⟩ ∧ CellsAt h b off us)
  cell : ∀ (i : Nat) (r : List T) (j : Nat) (t : T), rows[i]? = some r → r[j]? = some t → ∃ u, us[i * sz + j]? = some u ∧ oneV u = true ∧ (f = true → RepO h (S i j) u t) ∧ (f = false → Rep h Z u t)
  own : ∀ i j b, S i j b → own b = some m
  dis : ∀ i j i' j' b, S i j b → S i' j' b → i = i' ∧ j = j'
theorem rows_of {m sz : Nat} {rows : List (List T)} {f : Bool} {a : Option Addr} {c : Nat} {S : Nat → Nat → Nat → Prop} (hw : ∀ r ∈ rows, r.length = sz)
    (hc : rows ≠ [] → ∃ b off cells e fz, a = some ⟨b, off, none⟩ ∧ h[b]? = some (Go.Obj.cells cells e fz) ∧ ∀ (i : Nat) (r : List T) (j : Nat) (t : T), rows[i]? = some r → r[j]? = some t → ∃ u, cells[off + (i * sz + j)]? = some u ∧ oneV u = true ∧ (f = true → RepO h (S i j) u t) ∧ (f = false → Rep h Z u t))
    (hS : ∀ i j b, S i j b → own b = some m) (hd : ∀ i j i' j' b, S i j b → S i' j' b → i = i' ∧ j = j') : ∃ us, Rows h Z own m sz rows f (.slice a rows.length c) us S := by
  by_cases hne : rows = []
  · subst hne
    exact ⟨[], by simp, ⟨a, c, rfl, fun h => absurd rfl h⟩, fun i r j t hi => by simp at hi, hS, hd⟩
  · obtain ⟨b, off, cells, e, fz, ha, hh, hel⟩ := hc hne
    obtain ⟨us, hl, hus⟩ := flat_us hw hel
    refine ⟨us, hl, ⟨a, c, rfl, fun _ => ⟨b, off, ha, cells, e, fz, hh, fun k u hu => ?_⟩⟩, fun i r j t hi hj => ?_, hS, hd⟩
    · have hk : k < rows.length * sz := by
        rw [← hl]; exact getElem?_lt (a := us.toArray) (by simpa using hu)
      obtain ⟨i, r, j, t, h1, h2, rfl⟩ := flat_split hw hk
      obtain ⟨u2, h3, h4⟩ := hus i r j t h1 h2
      rw [hu] at h3; cases h3
      exact h4.1
    · obtain ⟨u, h3, h4⟩ := hus i r j t hi hj
      exact ⟨u, h3, h4.2⟩
theorem flatR_get {rows : List (List T)} (hf : flatR rows = true) {i j : Nat} {r : List T} {t : T} (hi : rows[i]? = some r) (hj : r[j]? = some t) : t.flat = true := by
  unfold flatR at hf
  rw [List.all_eq_true] at hf
  have := hf r (List.mem_of_getElem? hi)
  rw [List.all_eq_true] at this
  exact this t (List.mem_of_getElem? hj)
open Classical in
theorem rowsV_ok {flat f : Bool} {σ σ1 : Sto} {m sz : Nat} {x : AV} {rows : List (List T)} {xv : Value} (R : Rel σ.ob β C h Z own) (hm : ¬ C m) (hx : rowsV flat σ x = some (rows, f, σ1)) (hv : AVRel σ.ob β C h Z xv x)
    (hw : ∀ r ∈ rows, r.length = sz) (hfl : flat = true → flatR rows = true) :
    σ1.n = σ.n ∧ ∃ (Z' : Nat → Prop) (own' : Nat → Option Nat) (S : Nat → Nat → Nat → Prop) (us : List Value), Mv σ.ob β C h Z own σ1.ob β C h Z' own' ∧ Rows h Z' own' m sz rows f xv us S := by
  cases hv with
  | t v y hy =>
    cases y with
    | nl =>
      simp only [rowsV, Option.some.injEq, Prod.mk.injEq] at hx
      obtain ⟨rfl, rfl, rfl⟩ := hx
      cases hy
      obtain ⟨us, hus⟩ := rows_of (h := h) (Z := Z) (own := own) (m := m) (sz := sz) (rows := []) (f := true) (a := none) (c := 0) (S := fun _ _ _ => False) hw (fun h => absurd rfl h) (fun _ _ _ h => h.elim) (fun _ _ _ _ _ h => h.elim)
      exact ⟨rfl, Z, own, _, us, .refl R, hus⟩
    | sl q =>
      simp only [rowsV, Option.some.injEq, Prod.mk.injEq] at hx
      obtain ⟨rfl, rfl, rfl⟩ := hx
      have hva : ∃ a c, xv = .slice a q.length c := by cases hy <;> exact ⟨_, _, rfl⟩
      obtain ⟨a, c, rfl⟩ := hva
      obtain ⟨us, hus⟩ := rows_of (h := h) (Z := Z) (own := own) (m := m) (sz := sz) (rows := q) (f := flat) (a := a) (c := c) (S := fun _ _ _ => False) hw (fun hne => by
        obtain ⟨b, off, cap, sz', cells, e, fz, hve, _, hh, _, hw', hel⟩ := hy.open_ hne
        cases hve
        have : sz' = sz := by
          cases q with
          | nil => exact absurd rfl hne
          | cons r q => rw [← hw' r (by simp), hw r (by simp)]
        subst this
        refine ⟨b, off, cells, e, fz, rfl, hh, fun i r j t hi hj => ?_⟩
        obtain ⟨u, h1, h2⟩ := hel i r j t hi hj
        exact ⟨u, h1, h2.one, fun hf => h2.repO (flatR_get (hfl hf) hi hj) _, fun _ => h2⟩) (fun _ _ _ h => h.elim) (fun _ _ _ _ _ h => h.elim)
      exact ⟨rfl, Z, own, _, us, .refl R, hus⟩
    | _ => simp [rowsV] at hx
  | ref o v p a l c hc hr hl0 =>
    have hv0 : AVRel σ.ob β C h Z (.slice a l c) (.ref o v p) := .ref o v p a l c hc hr hl0
    simp only [rowsV] at hx
    split at hx
    · rename_i hflat
      rw [Option.map_eq_some_iff] at hx
      obtain ⟨q, hq, he⟩ := hx
      simp only [Prod.mk.injEq] at he
      obtain ⟨rfl, rfl, rfl⟩ := he
      obtain ⟨a', c', hve, hcell⟩ := R.ref_ok hv0 hq
      rw [hve]
      obtain ⟨us, hus⟩ := rows_of (h := h) (Z := Z) (own := own) (m := m) (sz := sz) (rows := q) (f := true) (a := a') (c := c') (S := fun _ _ _ => False) hw (fun hne => by
        obtain ⟨b, off, sz', cells, e, fz, ha, hh, hw', hel⟩ := hcell hne
        have : sz' = sz := by
          cases q with
          | nil => exact absurd rfl hne
          | cons r q => rw [← hw' r (by simp), hw r (by simp)]
        subst this
        refine ⟨b, off, cells, e, fz, ha, hh, fun i r j t hi hj => ?_⟩
        obtain ⟨u, h1, h2, h3, _⟩ := hel i r j t hi hj
        have hf := flatR_get (hfl hflat) hi hj
        exact ⟨u, h1, h2, fun _ => (h3 hf).repO hf _, fun h => by cases h⟩) (fun _ _ _ h => h.elim) (fun _ _ _ _ _ h => h.elim)
      exact ⟨rfl, Z, own, _, us, .refl R, hus⟩
    · split at hx
      · have HO := R.objs o hc
        unfold ObjRel at HO
        split at hx
        · rename_i st z rows' hob
          rw [hob] at HO
          split at hx
          · rename_i hl
            simp only [Option.some.injEq, Prod.mk.injEq] at hx
            obtain ⟨rfl, rfl, rfl⟩ := hx
            obtain ⟨fo, HO⟩ := HO
            rw [hob] at hr
            subst hl
            have hval := hr.whole
            rw [hval]
            have M := Mv.give R o .dead (fun b => own b = some o) (fun _ h => h) (some m) (fun n hn => by cases hn; exact hm) Z (fun b => by simp) Evo.dead hc (fun _ => by unfold ObjRel; rw [upd_same]; trivial)
            obtain ⟨us, hus⟩ := rows_of (h := h) (Z := Z) (own := fun b => if own b = some o then some m else own b) (m := m) (sz := sz) (rows := rows') (f := true) (a := (β o).addr) (c := (β o).cap) (S := fun i j b => own b = some o ∧ b ≠ (β o).b ∧ fo b = (i, j)) hw (fun hne => by
              have hb : (β o).isNil = false := by
                cases hb : (β o).isNil with
                | false => rfl
                | true => exact absurd (List.eq_nil_of_length_eq_zero (by have := HO.nil hb; have := HO.cap; omega)) hne
              obtain ⟨hS, cells, e, hh, hcs, hel⟩ := HO.blk hb
              have : z = sz := by
                cases rows' with
                | nil => exact absurd rfl hne
                | cons r q => rw [← HO.wid r (by simp), hw r (by simp)]
              subst this
              refine ⟨(β o).b, (β o).off, cells, e, (0, 0), by simp [BI.addr, hb], hh, fun i r j t hi hj => ?_⟩
              obtain ⟨u, h1, h2⟩ := hel i r j t hi hj
              exact ⟨u, h1, h2.1, fun _ => h2.2.2 (Nat.zero_le _), fun h => by cases h⟩) (fun i j b hb => if_pos hb.1) (fun i j i' j' b h1 h2 => by
                have := h1.2.2.symm.trans h2.2.2
                simp only [Prod.mk.injEq] at this
                exact this)
            exact ⟨rfl, Z, _, _, us, M, hus⟩
          · cases hx
        · rename_i st z rows' hob
          rw [hob] at HO
          split at hx
          · rename_i hl
            simp only [Option.some.injEq, Prod.mk.injEq] at hx
            obtain ⟨rfl, rfl, rfl⟩ := hx
            rw [hob] at hr
            subst hl
            have hval := hr.whole
            rw [hval]
            have hrep : Rep h (fun b => Z b ∨ own b = some o) (.slice (β o).addr rows'.length (β o).cap) (.sl rows') :=
              Rep.ofArr (S := fun b => own b = some o) (fun b hb => .inr hb) (ArrG.mono HO (fun b hb => ⟨hb, rfl⟩) fun i j v t hN => hN.mono fun b hb => ⟨.inl hb, rfl⟩)
            have M := Mv.give R o (.arr .frz st z rows') (fun b => own b = some o) (fun _ h => h) none (fun n hn => by cases hn) (fun b => Z b ∨ own b = some o) (fun b => by simp) (by
              rw [hob]
              refine ⟨fun p a' ha => ⟨a', ha, Nat.le_refl _⟩, fun p v h1 _ hs => ⟨hs, fun q' h2 => ⟨q', ?_, rfl, fun _ h => h, fun val h => h⟩⟩, fun cs' h => by cases h⟩
              cases p with
              | nil => exact h2
              | cons ij p => simp [VO.rows] at h2) hc (fun _ => by unfold ObjRel; rw [upd_same]; exact ⟨HO.wid, hrep⟩)
            obtain ⟨us, hus⟩ := rows_of (h := h) (Z := fun b => Z b ∨ own b = some o) (own := fun b => if own b = some o then none else own b) (m := m) (sz := sz) (rows := rows') (f := false) (a := (β o).addr) (c := (β o).cap) (S := fun _ _ _ => False) hw (fun hne => by
              obtain ⟨b, off, cap, sz', cells, e, fz, hve, _, hh, _, hw', hel⟩ := hrep.open_ hne
              have : sz' = sz := by
                cases rows' with
                | nil => exact absurd rfl hne
                | cons r q => rw [← hw' r (by simp), hw r (by simp)]
              subst this
              have hve' : (β o).addr = some ⟨b, off, none⟩ := by injection hve
              refine ⟨b, off, cells, e, fz, hve', hh, fun i r j t hi hj => ?_⟩
              obtain ⟨u, h1, h2⟩ := hel i r j t hi hj
              exact ⟨u, h1, h2.one, fun h => (by cases h), fun _ => h2⟩) (fun _ _ _ h => h.elim) (fun _ _ _ _ _ h => h.elim)
            exact ⟨rfl, _, _, _, us, M, hus⟩
          · cases hx
        · rename_i st z rows' hob
          rw [hob] at HO
          split at hx
          · rename_i hl
            simp only [Option.some.injEq, Prod.mk.injEq] at hx
            obtain ⟨rfl, rfl, rfl⟩ := hx
            rw [hob] at hr
            subst hl
            have hval := hr.whole
            rw [hval]
            have hrep := HO.2
            obtain ⟨us, hus⟩ := rows_of (h := h) (Z := Z) (own := own) (m := m) (sz := sz) (rows := rows') (f := false) (a := (β o).addr) (c := (β o).cap) (S := fun _ _ _ => False) hw (fun hne => by
              obtain ⟨b, off, cap, sz', cells, e, fz, hve, _, hh, _, hw', hel⟩ := hrep.open_ hne
              have : sz' = sz := by
                cases rows' with
                | nil => exact absurd rfl hne
                | cons r q => rw [← hw' r (by simp), hw r (by simp)]
              subst this
              have hve' : (β o).addr = some ⟨b, off, none⟩ := by injection hve
              refine ⟨b, off, cells, e, fz, hve', hh, fun i r j t hi hj => ?_⟩
              obtain ⟨u, h1, h2⟩ := hel i r j t hi hj
              exact ⟨u, h1, h2.one, fun h => (by cases h), fun _ => h2⟩) (fun _ _ _ h => h.elim) (fun _ _ _ _ _ h => h.elim)
            exact ⟨rfl, _, _, _, us, .refl R, hus⟩
          · cases hx
        · cases hx
      · cases hx
  | _ => simp [rowsV] at hx
end Go.Proofs.YtpdpgfagklhpaaaGreat.V

