/- Out of YtpdpgfagklhpaaaGreatVDef: what the claim needs of it. Conditions: each declaration's own. -/
import Derived.Orders
namespace AddM
end AddM
namespace Go.Proofs.YtpdpgfagklhpaaaGreat
end Go.Proofs.YtpdpgfagklhpaaaGreat
namespace Go.Proofs.YtpdpgfagklhpaaaGreat.Shl
end Go.Proofs.YtpdpgfagklhpaaaGreat.Shl
namespace Go.Proofs.YtpdpgfagklhpaaaGreat.V
end Go.Proofs.YtpdpgfagklhpaaaGreat.V
namespace Go.Proofs.YtpdpgfagklhpaaaGreat.fnIndependence
end Go.Proofs.YtpdpgfagklhpaaaGreat.fnIndependence
namespace Go.Proofs.YtpdpgfagklhpaaaGreat.V
open Go
set_option linter.unusedVariables false
/-- What lies in memory, laid out: a number, a text, or a slice by its rows of cells. -/
inductive T where
  | b (x : Bool) | i (k : IntKind) (n : Int) | s (x : ByteArray) | nl | sl (rows : List (List T))
  deriving Inhabited
/-- A temporary's value: laid out, or a name of what this function has made. -/
inductive AV where
  | t (x : T)
  | ref (o v : Nat) (p : List (Nat × Nat))
  | ptr (o off : Nat)
  | eptr (o v : Nat) (p : List (Nat × Nat)) (i j : Nat)
  | fptr (cells : List T)
  | np
  | clo (f : Nat) (caps : List AV)
  | agg (cells : List AV)
  | tup (vs : List AV)
  | undef
  deriving Inhabited
inductive Md where
  | own (k : Nat) | shr | frz
inductive VO where
  | box (cells : List AV) | arr (m : Md) (st sz : Nat) (rows : List (List T)) | dead
structure Sto where
  n : Nat
  ob : Nat → VO
structure VS where
  nt : Nat
  tm : Nat → AV
  σ : Sto
inductive VX where
  | normal | exit (id : Nat) | ret
def upd {α : Type} (f : Nat → α) (i : Nat) (x : α) : Nat → α := fun j => if j = i then x else f j
def Sto.e : Sto := ⟨0, fun _ => .dead⟩
def Sto.new (σ : Sto) (x : VO) : Sto := ⟨σ.n + 1, upd σ.ob σ.n x⟩
def Sto.set (σ : Sto) (o : Nat) (x : VO) : Sto := ⟨σ.n, upd σ.ob o x⟩
def T.flat : T → Bool
  | .nl | .sl _ => false
  | _ => true
def T.nz : T → T
  | .nl => .sl []
  | x => x
def AV.cells : AV → List AV
  | .agg cs => cs
  | v => [v]
/-- One cell's value. -/
def AV.one : AV → Bool
  | .agg _ | .tup _ | .undef => false
  | _ => true
def constT : Value → Option T
  | .bool b => some (.b b)
  | .int k n => some (.i k n)
  | .string s => some (.s s)
  | .slice none 0 0 => some .nl
  | _ => none
def constV : Value → Option AV
  | .agg cs => (cs.toList.mapM constT).map fun l => .agg (l.map .t)
  | .pointer none => some .np
  | .nilFunc => some .np
  | v => (constT v).map .t
def evalO (tm : Nat → AV) : Operand → Option AV
  | .tmp t => some (tm t)
  | .const v => constV v
  | .func f => some (.clo f [])
  | .global _ => none
def rowsAt : List (List T) → List (Nat × Nat) → Option (List (List T))
  | rows, [] => some rows
  | rows, (i, j) :: p => match (rows[i]?).bind (·[j]?) with
    | some (.sl q) => rowsAt q p
    | _ => none
def VO.rows (x : VO) (v : Nat) (p : List (Nat × Nat)) : Option (List (List T)) :=
  match x with
  | .arr m st sz rows =>
    match p with
    | [] => if rows.length = v then some rows else none
    | (i, j) :: p' => match m with
      | .own k => if v = st ∧ k ≤ i then rowsAt rows ((i, j) :: p') else none
      | _ => none
  | _ => none
def setAt : List (List T) → List (Nat × Nat) → (List (List T) → List (List T)) → List (List T)
  | rows, [], f => f rows
  | rows, (i, j) :: p, f => rows.modify i fun r => r.modify j fun
    | .sl q => .sl (setAt q p f)
    | x => x
/-- Cells read from behind a pointer. -/
def loadV (σ : Sto) (a : AV) (n : Nat) : Option (List AV) :=
  match a with
  | .ptr o off => match σ.ob o with
    | .box cs => if off + n ≤ cs.length then some ((cs.drop off).take n) else none
    | _ => none
  | .eptr o v p i j => match (σ.ob o).rows v p with
    | some rows => match rows[i]? with
      | some r => if j + n ≤ r.length then
          match σ.ob o with
          | .arr (.own k) st _ _ => if p ≠ [] ∨ k ≤ i ∨ ((r.drop j).take n).all T.flat then
              some (((r.drop j).take n).mapIdx fun d x => match x with | .sl _ => .ref o st (p ++ [(i, j + d)]) | x => .t x) else none
          | _ => some (((r.drop j).take n).map .t)
        else none
      | none => none
    | none => none
  | .fptr cells => if n ≤ cells.length then some ((cells.take n).map .t) else none
  | _ => none
/-- A cell taken into a row: what lies there, whether it is owned. -/
def absorb (σ : Sto) (a : AV) : Option (T × Bool × Sto) :=
  match a with
  | .t x => some (x.nz, x.flat || (match x with | .nl => true | _ => false), σ)
  | .ref o v p => match σ.ob o with
    | .arr (.own k) st sz rows => match p with
      | [] => if rows.length = v ∧ k = 0 then some (.sl rows, true, σ.set o .dead) else none
      | [(i, j)] => if v = st ∧ k ≤ i then match rows[i]? with
          | some r => match r[j]? with
            | some (.sl q) => if (r.eraseIdx j).all T.flat then some (.sl q, true, σ.set o (.arr (.own (i + 1)) st sz rows)) else none
            | _ => none
          | none => none
        else none
      | _ => none
    | .arr _ st sz rows => match p with
      | [] => if rows.length = v then some (.sl rows, false, σ.set o (.arr .frz st sz rows)) else none
      | _ => none
    | _ => none
  | _ => none
def absorbL : Sto → List AV → Option (List T × Bool × Sto)
  | σ, [] => some ([], true, σ)
  | σ, a :: l => match absorb σ a with
    | some (x, f, σ1) => match absorbL σ1 l with
      | some (xs, g, σ2) => some (x :: xs, f && g, σ2)
      | none => none
    | none => none
def absorbR : Sto → List (List AV) → Option (List (List T) × Bool × Sto)
  | σ, [] => some ([], true, σ)
  | σ, a :: l => match absorbL σ a with
    | some (x, f, σ1) => match absorbR σ1 l with
      | some (xs, g, σ2) => some (x :: xs, f && g, σ2)
      | none => none
    | none => none
def md (f : Bool) : Md := if f then .own 0 else .shr
def putL (cs : List AV) (off : Nat) (vs : List AV) : List AV := cs.take off ++ vs ++ cs.drop (off + vs.length)
def putT (cs : List T) (off : Nat) (vs : List T) : List T := cs.take off ++ vs ++ cs.drop (off + vs.length)
def asT : AV → Option T
  | .t x => some x
  | _ => none
/-- Cells written behind a pointer. -/
def storeV (σ : Sto) (a : AV) (vs : List AV) : Option Sto :=
  match a with
  | .ptr o off => match σ.ob o with
    | .box cs => if off + vs.length ≤ cs.length ∧ vs.all AV.one then some (σ.set o (.box (putL cs off vs))) else none
    | _ => none
  | .eptr o v p i j => match (σ.ob o).rows v p with
    | some rows => match rows[i]? with
      | some r => if j + vs.length ≤ r.length then
          match vs.mapM asT with
          | some xs => if xs.all T.flat ∧ ((r.drop j).take vs.length).all T.flat then
              match σ.ob o with
              | .arr .frz _ _ _ => none
              | .arr (.own (_ + 1)) _ _ _ => none
              | .arr m st sz rw => some (σ.set o (.arr m st sz (setAt rw p fun q => q.set i (putT r j xs))))
              | _ => none
            else none
          | none => none
        else none
      | none => none
    | none => none
  | _ => none
/-- Values that may own, put into a row of an array that owns. -/
def storeN (σ : Sto) (a : AV) (vs : List AV) : Option Sto :=
  match a with
  | .eptr o v [] i j => match absorbL σ vs with
    | some (xs, true, σ1) => match σ1.ob o with
      | .arr (.own 0) st sz old => match old[i]? with
        | some r => if old.length = v ∧ j + xs.length ≤ r.length then some (σ1.set o (.arr (.own 0) (st + 1) sz (old.set i (putT r j xs)))) else none
        | none => none
      | _ => none
    | _ => none
  | _ => none
def storeW (σ : Sto) (a : AV) (vs : List AV) : Option Sto :=
  match storeV σ a vs with
  | some s => some s
  | none => storeN σ a vs
def szOf (P : Program) (t : TypeId) : Option Nat := (P.info? t).map (·.size)
def zeroC (P : Program) (t : TypeId) : Option AV := ((P.info? t).bind (·.zero)).bind constV
def aggT (P : Program) (t : TypeId) : Option Bool :=
  match P.underlying t with
  | some (.struct _) | some (.array _ _) => some true
  | some _ => some false
  | none => none
def fillV (place : Nat → Option (Nat × Nat)) : List AV → List (Nat × AV) → Option (List AV)
  | cs, [] => some cs
  | cs, (i, v) :: l => match place i with
    | some (off, size) => if v.cells.length = size ∧ off + size ≤ cs.length ∧ v.cells.all AV.one then fillV place (putL cs off v.cells) l else none
    | none => none
def intV (op : BinOp) (k : IntKind) (x y : Int) : Option T :=
  match op with
  | .add => some (.i k (k.wrap (x + y)))
  | .sub => some (.i k (k.wrap (x - y)))
  | .mul => some (.i k (k.wrap (x * y)))
  | .quo => if y = 0 then none else some (.i k (k.wrap (x.tdiv y)))
  | .rem => if y = 0 then none else some (.i k (x.tmod y))
  | .and => some (.i k (k.wrap (BitVec.ofInt k.bits x &&& BitVec.ofInt k.bits y).toNat))
  | .or => some (.i k (k.wrap (BitVec.ofInt k.bits x ||| BitVec.ofInt k.bits y).toNat))
  | .xor => some (.i k (k.wrap (BitVec.ofInt k.bits x ^^^ BitVec.ofInt k.bits y).toNat))
  | .eql => some (.b (decide (x = y)))
  | .neq => some (.b (!decide (x = y)))
  | .lss => some (.b (decide (x < y)))
  | .leq => some (.b (decide (x ≤ y)))
  | .gtr => some (.b (decide (y < x)))
  | .geq => some (.b (decide (y ≤ x)))
  | _ => none
def strV (op : BinOp) (x y : ByteArray) : Option T :=
  match op with
  | .add => if x.size + y.size < 2 ^ 62 then some (.s (x ++ y)) else none
  | .eql => some (.b (x.toList == y.toList))
  | .neq => some (.b (!(x.toList == y.toList)))
  | _ => none
/-- Whether a slice is surely nil, or surely none. -/
def nilV (σ : Sto) : AV → Option Bool
  | .t .nl => some true
  | .t (.sl rows) => if rows.length = 0 then none else some false
  | .ref o v p => match (σ.ob o).rows v p with
    | some rows => if rows.length = 0 then none else some false
    | none => none
  | _ => none
def binV (P : Program) (σ : Sto) (op : BinOp) (t : TypeId) (x y : AV) : Option T :=
  match x, y with
  | .t (.i k a), .t (.i k' c) => match op with
    | .shl => if 0 ≤ c then some (.i k (k.wrap (a * 2 ^ (min c.toNat k.bits)))) else none
    | .shr => if 0 ≤ c then some (.i k (a.fdiv (2 ^ (min c.toNat k.bits)))) else none
    | op => if k = k' then intV op k a c else none
  | .t (.b a), .t (.b c) => match P.underlying t with
    | some .bool => match op with
      | .eql => some (.b (a == c))
      | .neq => some (.b (!(a == c)))
      | _ => none
    | _ => none
  | .t (.s a), .t (.s c) => strV op a c
  | x, .t .nl => match P.underlying t with
    | some (.slice _) => match op, nilV σ x with
      | .eql, some r => some (.b r)
      | .neq, some r => some (.b (!r))
      | _, _ => none
    | _ => none
  | _, _ => none
def sliceT (rows : List (List T)) (lo hi : Nat) : Option T := if lo ≤ hi ∧ hi ≤ rows.length then some (.sl ((rows.take hi).drop lo)) else none
def natOf : AV → Option Nat
  | .t (.i _ n) => if 0 ≤ n then some n.toNat else none
  | _ => none
def boundO (tm : Nat → AV) (d : Nat) : Option Operand → Option Nat
  | none => some d
  | some x => (evalO tm x).bind natOf
def slRows (P : Program) (tm : Nat → AV) (e : TypeId) (rows : List (List T)) (lo hi mx : Option Operand) : Option T :=
  match szOf P e, boundO tm 0 lo, boundO tm rows.length hi with
  | some sz, some l, some h => if rows.all (fun r => r.length == sz) then
      match mx with
      | none => sliceT rows l h
      | some m => if (evalO tm m).bind natOf = some h ∧ hi.isSome then sliceT rows l h else none
    else none
  | _, _, _ => none
/-- The value as it is handed to a function that only reads. -/
def reify1 (σ : Sto) : AV → Option T
  | .t x => some x.nz
  | .ref o v p => match σ.ob o with
    | .arr (.own k) st sz rows => if p = [] ∧ k ≠ 0 then none else ((σ.ob o).rows v p).map .sl
    | _ => ((σ.ob o).rows v p).map .sl
  | _ => none
def reifyP (σ : Sto) : AV → Option AV
  | .ptr o off => match σ.ob o with
    | .box cs => ((cs.drop off).mapM (reify1 σ)).map .fptr
    | _ => none
  | .eptr o v p i j => match σ.ob o with
    | .arr (.own k) _ _ _ => if p = [] ∧ ¬ k ≤ i then none else (((σ.ob o).rows v p).bind (·[i]?)).map fun r => .fptr (r.drop j)
    | _ => (((σ.ob o).rows v p).bind (·[i]?)).map fun r => .fptr (r.drop j)
  | .fptr cs => some (.fptr cs)
  | .np => some .np
  | a => (reify1 σ a).map .t
def reify (σ : Sto) : AV → Option AV
  | .agg cs => (cs.mapM (reify1 σ)).map fun l => .agg (l.map .t)
  | .clo f cs => (cs.mapM (reifyP σ)).map fun l => .clo f l
  | a => reifyP σ a
/-- A result taken out of the store of the function called into the caller's: the value, both stores, whether it may share. -/
def imp1 (base : Nat) (σ c : Sto) : AV → Option (AV × Sto × Sto × Bool)
  | .t x => some (.t x, σ, c, match x with | .sl _ => true | _ => false)
  | .ref o v p => if o < base then some (.ref o v p, σ, c, false) else
    match p with
    | [] => match σ.ob o with
      | .arr (.own k) st sz rows => if rows.length = v ∧ k = 0 then some (.ref c.n v [], σ.set o .dead, c.new (.arr (.own 0) 0 sz rows), false) else none
      | .arr _ st sz rows => if rows.length = v then some (.t (.sl rows), σ.set o (.arr .frz st sz rows), c, true) else none
      | _ => none
    | _ => none
  | .ptr o off => if o < base then some (.ptr o off, σ, c, false) else
    match σ.ob o with
    | .box cs => match cs.mapM asT with
      | some l => some (.ptr c.n off, σ.set o .dead, c.new (.box (l.map .t)), true)
      | none => none
    | _ => none
  | .np => some (.np, σ, c, false)
  | .undef => some (.undef, σ, c, false)
  | _ => none
def impL (base : Nat) : Sto → Sto → List AV → Option (List AV × Sto × Sto × Bool)
  | σ, c, [] => some ([], σ, c, false)
  | σ, c, a :: l => match imp1 base σ c a with
    | some (x, σ1, c1, f) => match impL base σ1 c1 l with
      | some (xs, σ2, c2, g) => some (x :: xs, σ2, c2, f || g)
      | none => none
    | none => none
def impA (base : Nat) (σ c : Sto) : AV → Option (AV × Sto × Sto × Bool)
  | .agg l => (impL base σ c l).map fun r => (.agg r.1, r.2)
  | a => imp1 base σ c a
def impAs (base : Nat) : Sto → Sto → List AV → Option (List AV × Sto × Sto × Bool)
  | σ, c, [] => some ([], σ, c, false)
  | σ, c, a :: l => match impA base σ c a with
    | some (x, σ1, c1, f) => match impAs base σ1 c1 l with
      | some (xs, σ2, c2, g) => some (x :: xs, σ2, c2, f || g)
      | none => none
    | none => none
def impR (base : Nat) (σ c : Sto) : AV → Option (AV × Sto × Bool)
  | .tup l => (impAs base σ c l).map fun r => (.tup r.1, r.2.2.1, r.2.2.2)
  | a => (impA base σ c a).map fun r => (r.1, r.2.2.1, r.2.2.2)
def ids1 : AV → List Nat
  | .ref o _ _ | .ptr o _ | .eptr o _ _ _ _ => [o]
  | _ => []
def ids : AV → List Nat
  | .agg l | .clo _ l => l.flatMap ids1
  | a => ids1 a
def freeze1 (σ : Sto) (o : Nat) : Option Sto :=
  match σ.ob o with
  | .arr (.own 0) st sz rows => some (σ.set o (.arr .frz st sz rows))
  | .arr (.own _) _ _ _ => none
  | .arr _ st sz rows => some (σ.set o (.arr .frz st sz rows))
  | _ => some σ
def isBox : VO → Bool
  | .box _ => true
  | _ => false
def freezeL : Sto → List Nat → Option Sto
  | σ, [] => some σ
  | σ, o :: l => if isBox (σ.ob o) then none else (freeze1 σ o).bind fun σ1 => freezeL σ1 l
def clean1 (n : Nat) : AV → Bool
  | .ref o _ _ | .ptr o _ | .eptr o _ _ _ _ => decide (o < n)
  | .t _ | .fptr _ | .np | .undef => true
  | _ => false
def cleanA (n : Nat) : AV → Bool
  | .clo _ l | .agg l => l.all (clean1 n)
  | a => clean1 n a
def VO.clean (n : Nat) (x : VO) : Bool := match x with
  | .box cs => cs.all (cleanA n)
  | _ => true
def Sto.cut (n : Nat) (σ : Sto) : Sto := ⟨n, fun o => if o < n then σ.ob o else .dead⟩
abbrev Ora := Nat → List AV → Sto → Option (AV × Sto)
/-- A call of a function that writes to one box of plain cells: over that box alone. -/
def callP (X : Ora) (σ : Sto) (f : Nat) (args : List AV) : Option (AV × Sto) :=
  match args with
  | .ptr o 0 :: rest => match σ.ob o with
    | .box cs => match cs.mapM asT, rest.mapM (reify σ), freezeL σ (rest.flatMap ids) with
      | some l, some as_, some σf => match X f (.ptr 0 0 :: as_) (Sto.e.new (.box (l.map .t))) with
        | some (r, σ1) => match σ1.ob 0 with
          | .box cs' => match cs'.mapM asT with
            | some l' => match impR 0 (σ1.set 0 .dead) (σf.set o (.box (l'.map .t))) r with
              | some (v, c, _) => some (v, c)
              | none => none
            | none => none
          | _ => none
        | none => none
      | _, _, _ => none
    | _ => none
  | _ => none
/-- A call: of a function that writes to what is handed to it (M), over the caller's store; of any other over an empty one. -/
def callV (M : Nat → Bool) (X : Ora) (σ : Sto) (f : Nat) (args : List AV) : Option (AV × Sto) :=
  if M f then
    if M (f + 1000000) then callP X σ f args else
    match X f args σ with
    | some (r, σ1) => if σ1.n = σ.n then some (r, σ1) else if (List.range σ.n).all (fun o => (σ1.ob o).clean σ.n) then
        match impR σ.n σ1 (σ1.cut σ.n) r with
        | some (v, c, _) => some (v, c)
        | none => none
      else none
    | none => none
  else
    match args.mapM (reify σ) with
    | some as_ => match X f as_ Sto.e with
      | some (r, σ1) => match impR 0 σ1 σ r with
        | some (_, _, true) => match freezeL σ (args.flatMap ids) with
          | some σf => (impR 0 σ1 σf r).map fun x => (x.1, x.2.1)
          | none => none
        | some (v, c, false) => some (v, c)
        | none => none
      | none => none
    | none => none
def flatR (rows : List (List T)) : Bool := rows.all fun r => r.all T.flat
/-- The rows that are appended: whether they are owned. -/
def rowsV (flat : Bool) (σ : Sto) (x : AV) : Option (List (List T) × Bool × Sto) :=
  match x with
  | .t .nl => some ([], true, σ)
  | .t (.sl rows) => some (rows, flat, σ)
  | .ref o v p => if flat then ((σ.ob o).rows v p).map fun r => (r, true, σ) else
    match p with
    | [] => match σ.ob o with
      | .arr (.own 0) st z rows => if rows.length = v then some (rows, true, σ.set o .dead) else none
      | .arr .shr st z rows => if rows.length = v then some (rows, false, σ.set o (.arr .frz st z rows)) else none
      | .arr .frz st z rows => if rows.length = v then some (rows, false, σ) else none
      | _ => none
    | _ => none
  | _ => none
def appendV (flat : Bool) (σ : Sto) (sz : Nat) (a x : AV) : Option (AV × Sto) :=
  match rowsV flat σ x with
  | none => none
  | some (rows, f, σ1) =>
    if rows.all (fun r => r.length == sz) ∧ (flat = true → flatR rows = true) then
    match a with
    | .t .nl => if rows.length = 0 then some (.t .nl, σ1) else if rows.length < 2 ^ 40 then some (.ref σ1.n rows.length [], σ1.new (.arr (md f) 0 sz rows)) else none
    | .ref o v [] => match σ1.ob o with
      | .arr (.own 0) st z old => if old.length = v ∧ z = sz ∧ old.length + rows.length < 2 ^ 40 then
          some (.ref o (old.length + rows.length) [], σ1.set o (.arr (md f) (if f then st else st + 1) sz (old ++ rows))) else none
      | .arr .shr st z old => if old.length = v ∧ z = sz ∧ old.length + rows.length < 2 ^ 40 then
          some (.ref o (old.length + rows.length) [], σ1.set o (.arr .shr st sz (old ++ rows))) else none
      | _ => none
    | _ => none
    else none
/-- One operation. -/
def opV (P : Program) (M : Nat → Bool) (X : Ora) (tm : Nat → AV) (σ : Sto) (o : Oper) : Option (AV × Sto) :=
  match o.op with
  | .move x | .assign x => (evalO tm x).map fun v => (v, σ)
  | .pick c a b => match evalO tm c with
    | some (.t (.b x)) => (evalO tm (if x then a else b)).map fun v => (v, σ)
    | _ => none
  | .alloc t => (zeroC P t).map fun z => (.ptr σ.n 0, σ.new (.box z.cells))
  | .box _ x => match evalO tm x with
    | some v => if v.cells.all AV.one then some (.ptr σ.n 0, σ.new (.box v.cells)) else none
    | none => none
  | .build t parts => match zeroC P t, P.underlying t, parts.toList.mapM (fun p => (evalO tm p.2).map fun v => (p.1, v)) with
    | some z, some (.struct fs), some ps =>
      match fs.toList.mapM (fun f => (szOf P f.type).map fun s => (f.offset, s)) with
      | some pl => (fillV (pl[·]?) z.cells ps).map fun cs => (.agg cs, σ)
      | none => none
    | _, _, _ => none
  | .buildSlice t len parts => match P.underlying t with
    | some (.slice e) => match szOf P e, parts.toList.mapM (fun p => evalO tm p.2) with
      | some sz, some vs =>
        if parts.toList.map (·.1) = List.range len ∧ vs.all (fun v => v.cells.length == sz) ∧ len * sz ≤ 2 ^ 24 then
          match absorbR σ (vs.map AV.cells) with
          | some (rows, f, σ1) => if len = 0 ∨ (zeroC P e).isSome then some (.ref σ1.n len [], σ1.new (.arr (md f) 0 sz rows)) else none
          | none => none
        else none
      | _, _ => none
    | _ => none
  | .load t a => match evalO tm a, aggT P t, szOf P t with
    | some p, some true, some n => (loadV σ p n).map fun cs => (.agg cs, σ)
    | some p, some false, _ => match loadV σ p 1 with
      | some [c] => some (c, σ)
      | _ => none
    | _, _, _ => none
  | .store t a x => match evalO tm a, evalO tm x, szOf P t with
    | some p, some v, some n => if v.cells.length = n then (storeW σ p v.cells).map fun s => (.undef, s) else none
    | _, _, _ => none
  | .nilCheck x => match evalO tm x with
    | some (.ptr o off) => some (.ptr o off, σ)
    | some (.eptr o v p i j) => some (.eptr o v p i j, σ)
    | some (.fptr cs) => some (.fptr cs, σ)
    | _ => none
  | .binOp op t x y _ => match evalO tm x, evalO tm y with
    | some a, some b => (binV P σ op t a b).map fun r => (.t r, σ)
    | _, _ => none
  | .unOp .not _ x => match evalO tm x with
    | some (.t (.b x)) => some (.t (.b (!x)), σ)
    | _ => none
  | .unOp .neg _ x => match evalO tm x with
    | some (.t (.i k n)) => some (.t (.i k (k.wrap (0 - n))), σ)
    | _ => none
  | .convert s d x => match P.underlying s, P.underlying d, evalO tm x with
    | some _, some (.int k), some (.t (.i _ n)) => some (.t (.i k (k.wrap n)), σ)
    | _, _, _ => none
  | .makeFunc (.func f) first caps => if first.size = 0 then (caps.toList.mapM (evalO tm)).bind fun l => if l.all AV.one then some (.clo f l, σ) else none else none
  | .makeSlice t l c => match P.underlying t, (evalO tm l).bind natOf, (evalO tm c).bind natOf with
    | some (.slice e), some n, some m => match szOf P e, zeroC P e, (P.info? e).map (·.bytes) with
      | some sz, some z, some by_ => match z.cells.mapM asT with
        | some zs => if n = m ∧ n < 2 ^ 40 ∧ by_ ≤ 64 ∧ zs.length = sz then
            some (.ref σ.n n [], σ.new (.arr (.own 0) 0 sz (List.replicate n (zs.map T.nz)))) else none
        | none => none
      | _, _, _ => none
    | _, _, _ => none
  | .slice t x lo hi mx => match evalO tm x, P.underlying t with
    | some (.t (.s a)), some .string => match boundO tm 0 lo, boundO tm a.size hi, mx with
      | some l, some h, none => if l ≤ h ∧ h ≤ a.size then some (.t (.s (a.extract l h)), σ) else none
      | _, _, _ => none
    | some (.t (.sl rows)), some (.slice e) => (slRows P tm e rows lo hi mx).map fun r => (.t r, σ)
    | some (.ref o v []), some (.slice e) => match freeze1 σ o, (σ.ob o).rows v [] with
      | some σ1, some rows => (slRows P tm e rows lo hi mx).map fun r => (.t r, σ1)
      | _, _ => none
    | _, _ => none
  | .fieldAddr s x f => match P.underlying s, evalO tm x with
    | some (.struct fs), some v => match fs[f]? with
      | some fd => match szOf P fd.type with
        | some (_ + 1) => match v with
          | .ptr o off => some (.ptr o (off + fd.offset), σ)
          | .eptr o v p i j => some (.eptr o v p i (j + fd.offset), σ)
          | .fptr cs => some (.fptr (cs.drop fd.offset), σ)
          | _ => none
        | _ => none
      | none => none
    | _, _ => none
  | .field s x f => match P.underlying s, evalO tm x with
    | some (.struct fs), some (.agg cs) => match fs[f]? with
      | some fd => match aggT P fd.type, szOf P fd.type with
        | some true, some n => if fd.offset + n ≤ cs.length then some (.agg ((cs.drop fd.offset).take n), σ) else none
        | some false, _ => (cs[fd.offset]?).map fun c => (c, σ)
        | _, _ => none
      | none => none
    | _, _ => none
  | .indexAddr t x ix => match P.underlying t, evalO tm x, (evalO tm ix).bind natOf with
    | some (.slice e), some v, some i => match szOf P e with
      | some sz => match v with
        | .t (.sl rows) => match rows[i]? with
          | some r => if r.length = sz then some (.fptr r, σ) else none
          | none => none
        | .ref o v p => match ((σ.ob o).rows v p).bind (·[i]?) with
          | some r => if r.length = sz then some (.eptr o v p i 0, σ) else none
          | none => none
        | _ => none
      | none => none
    | some (.array n e), some v, some i => match szOf P e with
      | some sz => if i < n then match v with
          | .ptr o off => some (.ptr o (off + i * sz), σ)
          | .fptr cs => some (.fptr (cs.drop (i * sz)), σ)
          | _ => none
        else none
      | none => none
    | _, _, _ => none
  | .index t x ix => match P.underlying t, evalO tm x, (evalO tm ix).bind natOf with
    | some .string, some (.t (.s a)), some i => (a[i]?).map fun c => (.t (.i .u8 c.toNat), σ)
    | _, _, _ => none
  | .extract x i => match evalO tm x with
    | some (.tup vs) => (vs[i]?).map fun v => (v, σ)
    | _ => none
  | .call c => match c.args.toList.mapM (evalO tm) with
    | some as_ => match c.callee with
      | .value f => match evalO tm f with
        | some (.clo g caps) => callV M X σ g (as_ ++ caps)
        | _ => none
      | .builtin .len => match as_, (c.argTypes[0]?).bind P.underlying with
        | [.t (.s a)], some .string => some (.t (.i .i64 a.size), σ)
        | [.t .nl], some (.slice _) => some (.t (.i .i64 0), σ)
        | [.t (.sl rows)], some (.slice _) => some (.t (.i .i64 rows.length), σ)
        | [.ref o v p], some (.slice _) => match (σ.ob o).rows v p with
          | some r => some (.t (.i .i64 r.length), σ)
          | none => if p = [] then some (.t (.i .i64 v), σ) else none
        | _, _ => none
      | .builtin .append => match as_, (c.argTypes[0]?).bind P.underlying with
        | [a, x], some (.slice e) => match szOf P e, (zeroC P e).bind (fun z => z.cells.mapM asT), (P.info? e).map (·.bytes), (c.argTypes[1]?).bind P.underlying with
          | some sz, some zs, some by_, some (.slice _) => if by_ ≤ 64 ∧ zs.length = sz then appendV (zs.all T.flat) σ sz a x else none
          | _, _, _, _ => none
        | _, _ => none
      | .builtin .max => match as_ with
        | [.t (.i k a), .t (.i _ b)] => some (.t (.i k (if a < b then b else a)), σ)
        | _ => none
      | .builtin .min => match as_ with
        | [.t (.i k a), .t (.i _ b)] => some (.t (.i k (if b < a then b else a)), σ)
        | _ => none
      | _ => none
    | none => none
  | _ => none
/-- Whether an operation behind a guard is wanted. -/
def wantV (ops : Array Oper) (tm : Nat → AV) (o : Oper) : Option Bool :=
  match o.guard with
  | none => some true
  | some (j, w) => match ((ops[j]?).bind (·.dst)).map tm with
    | some (.t (.b x)) => some (x == w)
    | some (.tup []) => some false
    | _ => none
def putV (s : VS) (d : Option Tmp) (v : AV) (σ : Sto) : Option VS :=
  match d with
  | none => some { s with σ := σ }
  | some d => if d < s.nt then some { s with tm := upd s.tm d v, σ := σ } else none
def stepV (P : Program) (M : Nat → Bool) (X : Ora) (ops : Array Oper) (s : VS) (o : Oper) : Option VS :=
  match wantV ops s.tm o with
  | some true => match opV P M X s.tm s.σ o with
    | some (v, σ) => putV s o.dst v σ
    | none => none
  | some false => putV s o.dst (.tup []) s.σ
  | none => none
def opsV (P : Program) (M : Nat → Bool) (X : Ora) (ops : Array Oper) : List Oper → VS → Option VS
  | [], s => some s
  | o :: l, s => match stepV P M X ops s o with
    | some s1 => opsV P M X ops l s1
    | none => none
end Go.Proofs.YtpdpgfagklhpaaaGreat.V

