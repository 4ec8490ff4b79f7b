/- Several texts in one: what the claim needs of them. Conditions: each declaration's own. -/
import Derived.Shelf.SlSortCmp.NoneTotal
import Derived.Shelf.SlGeneric
import Derived.Ground.SlsfProg
import Derived.Test.YtlehbgapjibeeaaProg
import Derived.Test.YtlehbgapjibeeaaZChkM4
import Derived.Orders
import Derived.Lib.SlKept
namespace Go.Proofs.Ytlehbgapjibeeaa.Shl
open Go.Shelf Go.Proofs
def sortF_ren : Go.Shelf.Ren := ⟨fun | 6 => 93 | 15 => 123 | 14 => 122 | 28 => 144 | 29 => 145 | 20 => 136 | 21 => 137 | 22 => 138 | 23 => 139 | 24 => 140 | 25 => 141 | 26 => 142 | 27 => 143 | 46 => 150 | 47 => 151 | 48 => 152 | 49 => 153 | 50 => 154 | 57 => 158 | n => n, fun | 22 => 54 | 24 => 58 | 25 => 125 | 3 => 3 | 39 => 142 | 0 => 0 | 53 => 153 | 55 => 155 | 4 => 4 | 46 => 146 | 45 => 145 | 50 => 150 | 5 => 5 | 9 => 9 | 66 => 158 | 70 => 162 | 76 => 165 | 77 => 166 | n => n, fun | n => n⟩
theorem sortF : Go.Proofs.SlLaysF0.n6 Try.prog sortF_ren := {
  mixed := by kernel_rfl
  f6 := ⟨Try.f93.name, by decide, Try.func93.trans (congrArg some (by kernel_rfl))⟩
  f14 := ⟨Try.f122.name, by decide, Try.func122.trans (congrArg some (by kernel_rfl))⟩
  f15 := Try.func123.trans (congrArg some (by kernel_rfl))
  f20 := ⟨Try.f136.name, by decide, Try.func136.trans (congrArg some (by kernel_rfl))⟩
  f21 := ⟨Try.f137.name, by decide, Try.func137.trans (congrArg some (by kernel_rfl))⟩
  f22 := ⟨Try.f138.name, by decide, Try.func138.trans (congrArg some (by kernel_rfl))⟩
  f23 := ⟨Try.f139.name, by decide, Try.func139.trans (congrArg some (by kernel_rfl))⟩
  f24 := ⟨Try.f140.name, by decide, Try.func140.trans (congrArg some (by kernel_rfl))⟩
  f25 := ⟨Try.f141.name, by decide, Try.func141.trans (congrArg some (by kernel_rfl))⟩
  f26 := ⟨Try.f142.name, by decide, Try.func142.trans (congrArg some (by kernel_rfl))⟩
  f27 := ⟨Try.f143.name, by decide, Try.func143.trans (congrArg some (by kernel_rfl))⟩
  f28 := Try.func144.trans (congrArg some (by kernel_rfl))
  f29 := Try.func145.trans (congrArg some (by kernel_rfl))
  f46 := ⟨Try.f150.name, by decide, Try.func150.trans (congrArg some (by kernel_rfl))⟩
  f47 := Try.func151.trans (congrArg some (by kernel_rfl))
  f48 := Try.func152.trans (congrArg some (by kernel_rfl))
  f49 := ⟨Try.f153.name, by decide, Try.func153.trans (congrArg some (by kernel_rfl))⟩
  f50 := ⟨Try.f154.name, by decide, Try.func154.trans (congrArg some (by kernel_rfl))⟩
  f57 := ⟨Try.f158.name, by decide, Try.func158.trans (congrArg some (by kernel_rfl))⟩
  t0 := Try.underlying0
  a0 := Try.isAgg0
  z0 := Try.sizeOf0
  v0 := Try.zeroValue0
  t3 := Try.underlying3
  a3 := Try.isAgg3
  z3 := Try.sizeOf3
  v3 := Try.zeroValue3
  t4 := Try.underlying4
  a4 := Try.isAgg4
  z4 := Try.sizeOf4
  v4 := Try.zeroValue4
  t5 := Try.underlying5
  a5 := Try.isAgg5
  z5 := Try.sizeOf5
  v5 := Try.zeroValue5
  t9 := Try.underlying9
  a9 := Try.isAgg9
  z9 := Try.sizeOf9
  v9 := Try.zeroValue9
  t22 := Try.underlying54
  a22 := Try.isAgg54
  z22 := Try.sizeOf54
  v22 := Try.zeroValue54
  t25 := Try.underlying125
  a25 := Try.isAgg125
  z25 := Try.sizeOf125
  v25 := Try.zeroValue125
  t39 := Try.underlying142
  a39 := Try.isAgg142
  z39 := Try.sizeOf142
  v39 := Try.zeroValue142
  t45 := Try.underlying145
  a45 := Try.isAgg145
  z45 := Try.sizeOf145
  v45 := Try.zeroValue145
  t46 := Try.underlying146
  a46 := Try.isAgg146
  z46 := Try.sizeOf146
  v46 := Try.zeroValue146
  t50 := Try.underlying150
  a50 := Try.isAgg150
  z50 := Try.sizeOf150
  v50 := Try.zeroValue150
  t53 := Try.underlying153
  a53 := Try.isAgg153
  z53 := Try.sizeOf153
  v53 := Try.zeroValue153
  t55 := Try.underlying155
  a55 := Try.isAgg155
  z55 := Try.sizeOf155
  v55 := Try.zeroValue155
  t66 := Try.underlying158
  a66 := Try.isAgg158
  z66 := Try.sizeOf158
  v66 := Try.zeroValue158
  t70 := Try.underlying162
  a70 := Try.isAgg162
  z70 := Try.sizeOf162
  v70 := Try.zeroValue162
  t76 := Try.underlying165
  a76 := Try.isAgg165
  z76 := Try.sizeOf165
  v76 := Try.zeroValue165
  t77 := Try.underlying166
  a77 := Try.isAgg166
  z77 := Try.sizeOf166
  v77 := Try.zeroValue166 }
end Go.Proofs.Ytlehbgapjibeeaa.Shl

namespace Go.Proofs.Ytlehbgapjibeeaa.V
open Go Go.Proofs
theorem noGiv : GivOk Try.prog (fun _ => none) := fun f args σ r σ' H => by cases H
theorem mixed : Try.prog.follows .mixedOrders = true := by kernel_rfl
theorem givOk : GivOk Try.prog Gs := by
  intro f args σ r σ' H
  simp only [Option.bind_eq_some_iff] at H
  obtain ⟨g, hg, H⟩ := H
  have hm := lookG_mem hg
  simp only [srtL, List.mem_cons, List.not_mem_nil, or_false, Prod.mk.injEq] at hm
  rcases hm with ⟨rfl, rfl⟩ | ⟨rfl, rfl⟩
  · exact ⟨⟨_, Try.func93, rfl, rfl⟩, fun R hf hargs => sortG_ok (M := Ms) mixed noGiv (sortCon_K (ρ := Shl.sortF_ren) Shl.sortF 2 (fun w => by exact Try.isAgg58 w) (fun w => by exact Try.sizeOf58 w)) pk_agg ⟨fun x y hx hy => cmpF_r x y hx, swoF⟩ (by decide) H R hf hargs⟩
  · cases H
end Go.Proofs.Ytlehbgapjibeeaa.V

namespace Go.Proofs.Ytlehbgapjibeeaa.V
open Go Go.Proofs
set_option linter.unusedVariables false
theorem rowsE_set {α : Type} [Enc α] (l : List α) (i : Nat) (x : α) : rowsE (l.set i x) = (rowsE l).set i (Enc.cells x) := by simp [rowsE, List.map_set]
/-- A name for a slice in an array that owns. -/
def Nm (st : Nat) (rows : List (List T)) (v : Nat) (p : List (Nat × Nat)) (q : List (List T)) : Prop := (p = [] → rows.length = v) ∧ (p ≠ [] → v = st) ∧ rowsAt rows p = some q
theorem Nm.rows {st sz v : Nat} {rows q : List (List T)} {p : List (Nat × Nat)} (h : Nm st rows v p q) : (VO.arr (.own 0) st sz rows).rows v p = some q := by
  obtain ⟨h1, h2, h3⟩ := h
  cases p with
  | nil => simp only [rowsAt, Option.some.injEq] at h3; subst h3; simp [VO.rows, h1 rfl]
  | cons a p => obtain ⟨i, j⟩ := a; simp only [VO.rows]; rw [if_pos ⟨h2 (by simp), Nat.zero_le _⟩]; exact h3
theorem mod_get {α : Type} {l : List α} {i : Nat} {r : α} (f : α → α) (h : l[i]? = some r) : (l.modify i f)[i]? = some (f r) := by
  rw [List.getElem?_modify, h]; simp
theorem rowsAt_set : ∀ {rows : List (List T)} {p : List (Nat × Nat)} {q : List (List T)} (f : List (List T) → List (List T)), rowsAt rows p = some q → rowsAt (setAt rows p f) p = some (f q)
  | rows, [], q, f, h => by simp only [rowsAt, Option.some.injEq] at h; subst h; rfl
  | rows, (i, j) :: p, q, f, h => by
    simp only [rowsAt] at h
    split at h
    · rename_i q0 hq
      rw [Option.bind_eq_some_iff] at hq
      obtain ⟨r, h1, h2⟩ := hq
      simp only [rowsAt, setAt]
      rw [mod_get _ h1]
      simp only [Option.bind_some]
      rw [mod_get _ h2]
      exact rowsAt_set f h
    · cases h
/-- The name stays a name. -/
theorem Nm.set {st v : Nat} {rows q q' : List (List T)} {p : List (Nat × Nat)} (h : Nm st rows v p q) (hl : q'.length = q.length) : Nm st (setAt rows p fun _ => q') v p q' := by
  obtain ⟨h1, h2, h3⟩ := h
  refine ⟨fun e => ?_, h2, rowsAt_set _ h3⟩
  subst e
  simp only [rowsAt, Option.some.injEq] at h3
  subst h3
  simp only [setAt]
  rw [hl]; exact h1 rfl
class Mk (α : Type) where
  cnt : α → Nat
  mrk : Int → α → α
section
variable {α : Type} [Mk α]
def cntL (l : List α) : Nat := (l.map Mk.cnt).sum
def mkL : Int → List α → List α
  | _, [] => []
  | k, a :: l => Mk.mrk k a :: mkL (k + Mk.cnt a) l
end
instance : Mk Int := ⟨fun _ => 1, fun k _ => k⟩
@[simp] theorem cnt_int (x : Int) : Mk.cnt x = 1 := rfl
@[simp] theorem mrk_int (k x : Int) : Mk.mrk k x = k := rfl
instance {α : Type} [Mk α] : Mk (List α) := ⟨cntL, mkL⟩
@[simp] theorem cnt_list {α : Type} [Mk α] (x : List α) : Mk.cnt x = cntL x := rfl
@[simp] theorem mrk_list {α : Type} [Mk α] (k : Int) (x : List α) : Mk.mrk k x = mkL k x := rfl
instance : Mk Cnt := ⟨fun c => cntL c.tuple + 1, fun k c => ⟨mkL k c.tuple, k + cntL c.tuple⟩⟩
/-- Atoms and facts: the relation first. -/
instance : Mk RA := ⟨fun a => 1 + cntL a.args, fun k a => ⟨k, mkL (k + 1) a.args⟩⟩
instance : Mk Qry := ⟨fun q => cntL q.head + cntL q.body, fun k q => ⟨mkL k q.head, mkL (k + cntL q.head) q.body⟩⟩
theorem fill_set {α : Type} (l : List α) (z : α) (i : Nat) (h : i < l.length) : (l.take i ++ List.replicate (l.length - i) z).set i l[i] = l.take (i + 1) ++ List.replicate (l.length - (i + 1)) z := by
  rw [List.set_append_right _ _ (by rw [List.length_take]; omega)]
  have e : i - (l.take i).length = 0 := by simp; omega
  rw [e, List.take_succ_eq_append_getElem h, List.append_assoc, show l.length - i = (l.length - (i + 1)) + 1 by omega, List.replicate_succ]
  simp
theorem fill_get {α : Type} [Enc α] (l : List α) (z : α) (i : Nat) (h : i < l.length) : (rowsE (l.take i ++ List.replicate (l.length - i) z))[i]? = some (Enc.cells z) := by
  rw [rowsE, List.getElem?_map, List.getElem?_append_right (by rw [List.length_take]; omega)]
  have e : i - (l.take i).length = 0 := by rw [List.length_take]; omega
  rw [e, show l.length - i = (l.length - (i + 1)) + 1 by omega, List.replicate_succ]
  rfl
theorem fill_len {α : Type} [Enc α] (l : List α) (z : α) (i : Nat) (h : i ≤ l.length) : (rowsE (l.take i ++ List.replicate (l.length - i) z)).length = l.length := by
  rw [rowsE_len, List.length_append, List.length_take, List.length_replicate]; omega
end Go.Proofs.Ytlehbgapjibeeaa.V

namespace Go.Proofs.Ytlehbgapjibeeaa.V
open Go Go.Proofs
set_option linter.unusedVariables false
structure Src where
  facts : List RA
  version : Int
  deriving DecidableEq
instance : Enc Src := ⟨fun a => [.sl (rowsE a.facts), .i .i64 a.version], 2, false, fun _ => rfl, fun h => by cases h⟩
@[simp] theorem cells_Src (a : Src) : Enc.cells a = [.sl (rowsE a.facts), .i .i64 a.version] := rfl
@[simp] theorem n_Src : Enc.n Src = 2 := rfl
structure Chg where
  insert : Bool
  fact : RA
  deriving DecidableEq
instance : Enc Chg := ⟨fun a => [.b a.insert, .i .i64 a.fact.rel, .sl (rowsE a.fact.args)], 3, false, fun _ => rfl, fun h => by cases h⟩
@[simp] theorem cells_Chg (a : Chg) : Enc.cells a = [.b a.insert, .i .i64 a.fact.rel, .sl (rowsE a.fact.args)] := rfl
@[simp] theorem n_Chg : Enc.n Chg = 3 := rfl
structure Cch where
  views : List Qry
  tables : List (List (List Int))
  version : Int
  deriving DecidableEq
instance : Enc Cch := ⟨fun a => [.sl (rowsE a.views), .sl (rowsE a.tables), .i .i64 a.version], 3, false, fun _ => rfl, fun h => by cases h⟩
@[simp] theorem cells_Cch (a : Cch) : Enc.cells a = [.sl (rowsE a.views), .sl (rowsE a.tables), .i .i64 a.version] := rfl
@[simp] theorem n_Cch : Enc.n Cch = 3 := rfl
structure Wtd where
  query : Qry
  weight : Int
  deriving DecidableEq
instance : Enc Wtd := ⟨fun a => [.sl (rowsE a.query.head), .sl (rowsE a.query.body), .i .i64 a.weight], 3, false, fun _ => rfl, fun h => by cases h⟩
@[simp] theorem cells_Wtd (a : Wtd) : Enc.cells a = [.sl (rowsE a.query.head), .sl (rowsE a.query.body), .i .i64 a.weight] := rfl
@[simp] theorem n_Wtd : Enc.n Wtd = 3 := rfl
structure Crt where
  rw_ : Qry
  forth : List Int
  back : List Int
  deriving DecidableEq
instance : Enc Crt := ⟨fun a => [.sl (rowsE a.rw_.head), .sl (rowsE a.rw_.body), .sl (rowsE a.forth), .sl (rowsE a.back)], 4, false, fun _ => rfl, fun h => by cases h⟩
@[simp] theorem cells_Crt (a : Crt) : Enc.cells a = [.sl (rowsE a.rw_.head), .sl (rowsE a.rw_.body), .sl (rowsE a.forth), .sl (rowsE a.back)] := rfl
@[simp] theorem n_Crt : Enc.n Crt = 4 := rfl
structure Ses where
  seen : Int
  lag : Int
  deriving DecidableEq
instance : Enc Ses := ⟨fun a => [.i .i64 a.seen, .i .i64 a.lag], 2, true, fun _ => rfl, fun _ _ => rfl⟩
@[simp] theorem cells_Ses (a : Ses) : Enc.cells a = [.i .i64 a.seen, .i .i64 a.lag] := rfl
@[simp] theorem n_Ses : Enc.n Ses = 2 := rfl
instance : Mk Wtd := ⟨fun w => cntL w.query.head + cntL w.query.body + 1, fun k w => ⟨⟨mkL k w.query.head, mkL (k + cntL w.query.head) w.query.body⟩, k + cntL w.query.head + cntL w.query.body⟩⟩
/-- What a size function counts; bounds on what it counted. -/
class Lw (α : Type) where
  w : α → Nat
  bd : Nat → α → Prop
  bd_of : ∀ (N : Nat) (a : α), w a ≤ N → bd N a
instance : Lw Int := ⟨fun _ => 0, fun _ _ => True, fun _ _ _ => trivial⟩
def wL {α : Type} [Lw α] (l : List α) : Nat := l.length + (l.map Lw.w).sum
theorem wL_mem {α : Type} [Lw α] {l : List α} {x : α} (h : x ∈ l) : Lw.w x ≤ (l.map Lw.w).sum := by
  induction l with
  | nil => simp at h
  | cons a l ih =>
    simp only [List.map_cons, List.sum_cons]
    rcases List.mem_cons.1 h with rfl | h
    · omega
    · have := ih h; omega
instance {α : Type} [Lw α] : Lw (List α) := ⟨wL, fun N l => l.length ≤ N ∧ ∀ x ∈ l, Lw.bd N x, fun N l h => ⟨by unfold wL at h; omega, fun x hx => Lw.bd_of N x (by have := wL_mem hx; unfold wL at h; omega)⟩⟩
@[simp] theorem w_int (x : Int) : Lw.w x = 0 := rfl
theorem w_list {α : Type} [Lw α] (x : List α) : Lw.w x = wL x := rfl
theorem wL_ints (l : List Int) : wL l = l.length := by
  have : ∀ l : List Int, (l.map Lw.w).sum = 0 := fun l => by induction l with
    | nil => rfl
    | cons a l ih => simp only [List.map_cons, List.sum_cons, ih]; rfl
  rw [wL, this]; rfl
instance : Lw RA := ⟨fun a => wL a.args, fun N a => Lw.bd N a.args, fun N a h => Lw.bd_of N a.args h⟩
instance : Lw Cnt := ⟨fun a => wL a.tuple, fun N a => Lw.bd N a.tuple, fun N a h => Lw.bd_of N a.tuple h⟩
instance : Lw Sch := ⟨fun a => wL a.arity, fun N a => Lw.bd N a.arity, fun N a h => Lw.bd_of N a.arity h⟩
instance : Lw Qry := ⟨fun a => wL a.head + wL a.body, fun N a => Lw.bd N a.head ∧ Lw.bd N a.body, fun N a h => ⟨Lw.bd_of N a.head (by rw [w_list]; omega), Lw.bd_of N a.body (by rw [w_list]; omega)⟩⟩
instance : Lw Src := ⟨fun a => wL a.facts, fun N a => Lw.bd N a.facts, fun N a h => Lw.bd_of N a.facts h⟩
instance : Lw Chg := ⟨fun a => wL a.fact.args, fun N a => Lw.bd N a.fact.args, fun N a h => Lw.bd_of N a.fact.args h⟩
instance : Lw Cch := ⟨fun a => wL a.views + wL a.tables, fun N a => Lw.bd N a.views ∧ Lw.bd N a.tables, fun N a h => ⟨Lw.bd_of N a.views (by rw [w_list]; omega), Lw.bd_of N a.tables (by rw [w_list]; omega)⟩⟩
instance : Lw Wtd := ⟨fun a => wL a.query.head + wL a.query.body, fun N a => Lw.bd N a.query, fun N a h => Lw.bd_of N a.query h⟩
instance : Lw Crt := ⟨fun a => wL a.rw_.head + wL a.rw_.body + wL a.forth + wL a.back, fun N a => Lw.bd N a.rw_ ∧ Lw.bd N a.forth ∧ Lw.bd N a.back,
  fun N a h => ⟨Lw.bd_of N a.rw_ (show wL a.rw_.head + wL a.rw_.body ≤ N by omega), Lw.bd_of N a.forth (by rw [w_list]; omega), Lw.bd_of N a.back (by rw [w_list]; omega)⟩⟩
/-- What a size function answers: what is left, or -1. -/
def szA (w : Nat) (left : Int) : Int := if (w : Int) ≤ left then left - w else -1
theorem wL_take {α : Type} [Lw α] (l : List α) (i : Nat) (h : i < l.length) : ((l.take (i + 1)).map Lw.w).sum = ((l.take i).map Lw.w).sum + Lw.w l[i] := by
  rw [List.take_succ_eq_append_getElem h]; simp only [List.map_append, List.sum_append, List.map_cons, List.map_nil, List.sum_cons, List.sum_nil, Nat.add_zero]
theorem wL_split {α : Type} [Lw α] (l : List α) (i : Nat) : (l.map Lw.w).sum = ((l.take i).map Lw.w).sum + ((l.drop i).map Lw.w).sum := by
  conv => lhs; rw [← List.take_append_drop i l]
  simp only [List.map_append, List.sum_append]
/-- The maximal length of Go's slices: lengths can be told. -/
def Fit {α : Type} [Lw α] (a : α) : Prop := Lw.bd 9223372036854775807 a
end Go.Proofs.Ytlehbgapjibeeaa.V

namespace Go.Proofs.Ytlehbgapjibeeaa.V
open Go Go.Proofs
set_option linter.unusedVariables false
set_option linter.unusedSimpArgs false
theorem l2Ints_r (a b : List Int) (ha : Sm a) : Ret XX 61 [Ar a, Ar b] (.t (.b (decide (a = b))) false) := by
  refine ret_W rfl Try.func61 rfl rfl (by simp [Try.f61]) ?_
  simp only [Try.f61]
  repeat' first|refine nx ?_|refine xb_miss (by decide) ?_|(apply W_reg;(simp;exact .r _))
  refine W_cond (by simp; exact .r _) (fun hc => ?_) (fun hc => ?_)
  · repeat' first|refine nx ?_|refine xb_miss (by decide) ?_|(apply W_reg;(simp;exact .r _))
    have : a ≠ b := fun e => by subst e; simp at hc
    simp [this]
  have hl : a.length = b.length := by simp at hc; omega
  repeat' first|refine nx ?_|refine xb_miss (by decide) ?_|(apply W_reg;(simp;exact .r _))
  refine W_loop (n := a.length) (fun n s => ∃ i : Nat, n = a.length - i ∧ s.nt = 26 ∧ s.tm 0 = Ar a ∧ s.tm 1 = Ar b ∧ s.tm 5 = In i ∧ i ≤ a.length ∧ a.take i = b.take i) ⟨0, by simp⟩ ?_
  rintro n ⟨nt, tm, σ⟩ ⟨i, rfl, hnt, h0, h1, h5, hi, heq⟩
  simp only at hnt h0 h1 h5
  subst hnt
  repeat' first|refine nx ?_|refine xb_miss (by decide) ?_|(apply W_reg;(simp [h0, h1, h5];exact .r _))
  refine W_cond (by simp [h0, h1, h5]; exact .r _) (fun hc => ?_) (fun hc => ?_)
  · have hia : i < a.length := by simpa using hc
    have hib : i < b.length := by omega
    repeat' first|refine nx ?_|refine xb_miss (by decide) ?_|(apply W_reg;(simp [h0, h1, h5, hia, hib];exact .r _))|(apply W_draw (id := 6) [0,0,3,7,0,0,48,112,255] rfl rfl; (· simp; exact .r _); (· simp [h0, h1, h5, hia, hib]; exact .r _); (· first|trivial|simp))
    refine W_cond (by simp [h0, h1, h5]; exact .r _) (fun hd => ?_) (fun hd => ?_)
    · repeat' first|refine nx ?_|refine xb_miss (by decide) ?_|(apply W_reg;(simp [h0, h1, h5];exact .r _))
      have : a ≠ b := fun e => by subst e; simp at hd
      simp [this]
    · have hd : a[i] = b[i] := by simpa using hd
      repeat' first|refine nx ?_|refine xb_miss (by decide) ?_|(apply W_reg;(simp [h0, h1, h5];exact .r _))
      refine ⟨_, ?_, i + 1, rfl, rfl, ?_, ?_, ?_, by omega, by rw [List.take_succ_eq_append_getElem hia, List.take_succ_eq_append_getElem hib, heq, hd]⟩
      all_goals first|assumption|(simp [h0, h1, h5];done)|(simp [h0, h1, h5];omega)|(simp [h0, h1, h5];exact wrap_succ (by omega))|omega
  · have hil : i = a.length := by simp at hc; omega
    subst hil
    repeat' first|refine nx ?_|refine xb_miss (by decide) ?_|(apply W_reg;(simp [h0, h1, h5];exact .r _))
    rw [List.take_length, hl, List.take_length] at heq
    have : a = b := heq
    simp [this]
end Go.Proofs.Ytlehbgapjibeeaa.V

namespace Go.Proofs.Ytlehbgapjibeeaa.V
open Go Go.Proofs
set_option linter.unusedVariables false
set_option linter.unusedSimpArgs false
theorem within_r (x lo hi : Int) : Ret XX 51 [In x, In lo, In hi] (.t (.b (inR x lo hi)) false) := by
  refine ret_W rfl Try.func51 rfl rfl (by simp [Try.f51]) ?_
  simp only [Try.f51]
  by_cases h : lo ≤ x
  · repeat' first|refine nx ?_|refine xb_miss (by decide) ?_|(apply W_reg;(simp [h];exact .r _))
    simp [inR, h]
  · repeat' first|refine nx ?_|refine xb_miss (by decide) ?_|(apply W_reg;(simp [h];exact .r _))
    simp [inR, h]
theorem l1In_r (x lo hi : Int) : Ret XX 53 [In x, In lo, In hi] (.t (.b (inR x lo hi)) false) := by
  refine ret_W rfl Try.func53 rfl rfl (by simp [Try.f53]) ?_
  simp only [Try.f53]
  by_cases h : lo ≤ x
  · repeat' first|refine nx ?_|refine xb_miss (by decide) ?_|(apply W_reg;(simp [h];exact .r _))
    simp [inR, h]
  · repeat' first|refine nx ?_|refine xb_miss (by decide) ?_|(apply W_reg;(simp [h];exact .r _))
    simp [inR, h]
theorem implIsVar_r (t : Int) : Ret XX 109 [In t] (.t (.b (isVar t)) false) := by
  refine ret_W rfl Try.func109 rfl rfl (by simp [Try.f109]) ?_
  simp only [Try.f109]
  have hc := cv (within_r t 0 19)
  repeat' first|refine nx ?_|refine xb_miss (by decide) ?_|(apply W_reg;(simp [hc];exact .r _))
  simp [isVar]
theorem implIsTerm_r (t : Int) : Ret XX 112 [In t] (.t (.b (isTerm t)) false) := by
  refine ret_W rfl Try.func112 rfl rfl (by simp [Try.f112]) ?_
  simp only [Try.f112]
  have hc := cv (within_r t (-80) 19)
  repeat' first|refine nx ?_|refine xb_miss (by decide) ?_|(apply W_reg;(simp [hc];exact .r _))
  simp [isTerm]
theorem specIsVar_r (t : Int) : Ret XX 128 [In t] (.t (.b (isVar t)) false) := by
  refine ret_W rfl Try.func128 rfl rfl (by simp [Try.f128]) ?_
  simp only [Try.f128]
  have hc := cv (l1In_r t 0 19)
  repeat' first|refine nx ?_|refine xb_miss (by decide) ?_|(apply W_reg;(simp [hc];exact .r _))
  simp [isVar]
theorem constOf_eq (t : Int) : constOf t = if inR t (-80) (-1) then -1 - t else -1 := by
  unfold constOf isTerm isVar inR
  have e1 : (decide (-80 ≤ t ∧ t ≤ 19) && !decide (0 ≤ t ∧ t ≤ 19)) = decide (-80 ≤ t ∧ t ≤ -1) := by rw [Bool.eq_iff_iff]; simp; omega
  rw [e1]
theorem specConstOf_r (t : Int) : Ret XX 156 [In t] (.t (.i .i64 (constOf t)) false) := by
  refine ret_W rfl Try.func156 rfl rfl (by simp [Try.f156]) ?_
  simp only [Try.f156]
  have h1 := cv (l1In_r t (-80) (-1))
  rw [constOf_eq]
  cases e1 : inR t (-80) (-1)
  · repeat' first|refine nx ?_|refine xb_miss (by decide) ?_|(apply W_reg;(simp [h1, e1];exact .r _))
    refine W_cond (by simp; exact .r _) (fun hc => ?_) (fun hc => ?_)
    · repeat' first|refine nx ?_|refine xb_miss (by decide) ?_|(apply W_reg;(simp;exact .r _))
      simp
    · cases hc
  · have hb : -80 ≤ t ∧ t ≤ -1 := by simpa [inR] using e1
    have hw : IntKind.i64.wrap (-1 - t) = -1 - t := wrap_ok (by omega) (by omega)
    repeat' first|refine nx ?_|refine xb_miss (by decide) ?_|(apply W_reg;(simp [h1, e1, hw];exact .r _))
    refine W_cond (by simp; exact .r _) (fun hc => ?_) (fun hc => ?_)
    · cases hc
    · repeat' first|refine nx ?_|refine xb_miss (by decide) ?_|(apply W_reg;(simp [hw];exact .r _))
      simp
theorem isTerm_or (t : Int) : isTerm t = (isVar t || decide (0 ≤ constOf t)) := by
  rw [Bool.eq_iff_iff, Bool.or_eq_true, isVar_iff, isTerm_iff, decide_eq_true_eq, constOf_eq]
  split
  · rename_i h; simp [inR] at h; omega
  · rename_i h; simp [inR] at h; omega
theorem specIsTerm_r (t : Int) : Ret XX 147 [In t] (.t (.b (isTerm t)) false) := by
  refine ret_W rfl Try.func147 rfl rfl (by simp [Try.f147]) ?_
  simp only [Try.f147]
  have h1 := cv (specIsVar_r t)
  have h2 := cv (specConstOf_r t)
  rw [isTerm_or]
  cases e : isVar t
  · repeat' first|refine nx ?_|refine xb_miss (by decide) ?_|(apply W_reg;(simp [h1, h2, e];exact .r _))
    simp
  · repeat' first|refine nx ?_|refine xb_miss (by decide) ?_|(apply W_reg;(simp [h1, h2, e];exact .r _))
    simp
theorem areTerms_r (l : List Int) (hl : Sm l) : Ret XX 73 [Ar l] (.t (.b (l.all isTerm)) false) := by
  refine ret_W rfl Try.func73 rfl rfl (by simp [Try.f73]) ?_
  simp only [Try.f73]
  repeat' first|refine nx ?_|refine xb_miss (by decide) ?_|(apply W_reg;(simp;exact .r _))
  refine W_loop (n := l.length) (fun n s => ∃ i : Nat, n = l.length - i ∧ s.nt = 15 ∧ s.tm 5 = Ar l ∧ s.tm 6 = In l.length ∧ s.tm 7 = In i ∧ i ≤ l.length ∧ l.all isTerm = (l.drop i).all isTerm) ⟨0, by simp⟩ ?_
  rintro n ⟨nt, tm, σ⟩ ⟨i, rfl, hnt, h5, h6, h7, hi, heq⟩
  simp only at hnt h5 h6 h7
  subst hnt
  repeat' first|refine nx ?_|refine xb_miss (by decide) ?_|(apply W_reg;(simp [h5, h6, h7];exact .r _))
  refine W_cond (by simp [h5, h6, h7]; exact .r _) (fun hc => ?_) (fun hc => ?_)
  · have hil : i < l.length := by simpa using hc
    have hcc := cv (implIsTerm_r l[i])
    repeat' first|refine nx ?_|refine xb_miss (by decide) ?_|(apply W_reg;(simp [h5, h6, h7, hil, hcc];exact .r _))
    rw [List.drop_eq_getElem_cons hil, List.all_cons] at heq
    refine W_cond (by simp [h5, h6, h7]; exact .r _) (fun hd => ?_) (fun hd => ?_)
    · repeat' first|refine nx ?_|refine xb_miss (by decide) ?_|(apply W_reg;(simp [h5, h6, h7];exact .r _))
      have hd' : isTerm l[i] = false := by simpa using hd
      rw [heq, hd']; simp
    · have hd' : isTerm l[i] = true := by simpa using hd
      repeat' first|refine nx ?_|refine xb_miss (by decide) ?_|(apply W_reg;(simp [h5, h6, h7];exact .r _))
      refine ⟨_, ?_, i + 1, rfl, rfl, ?_, ?_, ?_, by omega, by (rw [heq]; simp [hd'])⟩
      all_goals first|assumption|(simp [h5, h6, h7];done)|(simp [h5, h6, h7];omega)|(simp [h5, h6, h7];exact wrap_succ (by omega))|omega
  · have hil : i = l.length := by simp at hc; omega
    subst hil
    repeat' first|refine nx ?_|refine xb_miss (by decide) ?_|(apply W_reg;(simp [h5, h6, h7];exact .r _))
    rw [heq, List.drop_length]; simp
theorem implIsSchema_r (c : Sch) (hl : Sm c.arity) : Ret XX 72 [Ag c] (.t (.b (isSch c)) false) := by
  refine ret_W rfl Try.func72 rfl rfl (by simp [Try.f72]) ?_
  simp only [Try.f72]
  repeat' first|refine nx ?_|refine xb_miss (by decide) ?_|(apply W_reg;(simp [Ag];exact .r _))
  refine W_loop (n := c.arity.length) (fun n s => ∃ i : Nat, n = c.arity.length - i ∧ s.nt = 20 ∧ s.tm 1 = .ptr 0 0 ∧ s.tm 6 = Ar c.arity ∧ s.tm 7 = In c.arity.length ∧ s.tm 8 = In i ∧ i ≤ c.arity.length ∧ c.arity.all (fun x => inR x 1 3) = (c.arity.drop i).all (fun x => inR x 1 3) ∧ s.σ.ob 0 = .box [Ar c.arity]) ⟨0, by simp⟩ ?_
  rintro n ⟨nt, tm, σ⟩ ⟨i, rfl, hnt, h1, h6, h7, h8, hi, heq, hb⟩
  simp only at hnt h1 h6 h7 h8 hb
  subst hnt
  repeat' first|refine nx ?_|refine xb_miss (by decide) ?_|(apply W_reg;(simp [h1, h6, h7, h8, hb];exact .r _))
  refine W_cond (by simp [h1, h6, h7, h8, hb]; exact .r _) (fun hc => ?_) (fun hc => ?_)
  · have hil : i < c.arity.length := by simpa using hc
    have hcc := cv (within_r c.arity[i] 1 3)
    repeat' first|refine nx ?_|refine xb_miss (by decide) ?_|(apply W_reg;(simp [h1, h6, h7, h8, hb, hil, hcc];exact .r _))
    rw [List.drop_eq_getElem_cons hil, List.all_cons] at heq
    refine W_cond (by simp [h1, h6, h7, h8, hb]; exact .r _) (fun hd => ?_) (fun hd => ?_)
    · repeat' first|refine nx ?_|refine xb_miss (by decide) ?_|(apply W_reg;(simp [h1, h6, h7, h8, hb];exact .r _))
      have hd' : (fun x => inR x 1 3) c.arity[i] = false := by simpa using hd
      simp [isSch, heq, hd']
    · have hd' : (fun x => inR x 1 3) c.arity[i] = true := by simpa using hd
      repeat' first|refine nx ?_|refine xb_miss (by decide) ?_|(apply W_reg;(simp [h1, h6, h7, h8, hb];exact .r _))
      refine ⟨_, ?_, i + 1, rfl, rfl, ?_, ?_, ?_, ?_, by omega, by (rw [heq]; simp [hd']), ?_⟩
      all_goals first|assumption|(simp [h1, h6, h7, h8, hb];done)|(simp [h1, h6, h7, h8, hb];omega)|(simp [h1, h6, h7, h8, hb];exact wrap_succ (by omega))|omega
  have hil : i = c.arity.length := by simp at hc; omega
  subst hil
  rw [List.drop_length, List.all_nil] at heq
  have h9 := cv (within_r c.arity.length 1 4)
  repeat' first|refine nx ?_|refine xb_miss (by decide) ?_|(apply W_reg;(simp [h1, h6, h7, h8, hb, h9];exact .r _))
  simp [isSch, heq]
theorem specIsSchema_r (c : Sch) (hl : Sm c.arity) : Ret XX 99 [Ag c] (.t (.b (isSch c)) false) := by
  refine ret_W rfl Try.func99 rfl rfl (by simp [Try.f99]) ?_
  simp only [Try.f99]
  repeat' first|refine nx ?_|refine xb_miss (by decide) ?_|(apply W_reg;(simp [Ag];exact .r _))
  refine W_loop (n := c.arity.length) (fun n s => ∃ i : Nat, n = c.arity.length - i ∧ s.nt = 22 ∧ s.tm 1 = .ptr 0 0 ∧ s.tm 3 = In i ∧ i ≤ c.arity.length ∧ c.arity.all (fun x => inR x 1 3) = (c.arity.drop i).all (fun x => inR x 1 3) ∧ s.σ.ob 0 = .box [Ar c.arity]) ⟨0, by simp⟩ ?_
  rintro n ⟨nt, tm, σ⟩ ⟨i, rfl, hnt, h1, h3, hi, heq, hb⟩
  simp only at hnt h1 h3 hb
  subst hnt
  repeat' first|refine nx ?_|refine xb_miss (by decide) ?_|(apply W_reg;(simp [h1, h3, hb];exact .r _))
  refine W_cond (by simp [h1, h3, hb]; exact .r _) (fun hc => ?_) (fun hc => ?_)
  · have hil : i < c.arity.length := by simpa using hc
    have hcc := cv (l1In_r c.arity[i] 1 3)
    repeat' first|refine nx ?_|refine xb_miss (by decide) ?_|(apply W_reg;(simp [h1, h3, hb, hil, hcc];exact .r _))
    rw [List.drop_eq_getElem_cons hil, List.all_cons] at heq
    refine W_cond (by simp [h1, h3, hb]; exact .r _) (fun hd => ?_) (fun hd => ?_)
    · repeat' first|refine nx ?_|refine xb_miss (by decide) ?_|(apply W_reg;(simp [h1, h3, hb];exact .r _))
      have hd' : (fun x => inR x 1 3) c.arity[i] = false := by simpa using hd
      simp [isSch, heq, hd']
    · have hd' : (fun x => inR x 1 3) c.arity[i] = true := by simpa using hd
      repeat' first|refine nx ?_|refine xb_miss (by decide) ?_|(apply W_reg;(simp [h1, h3, hb];exact .r _))
      refine ⟨_, ?_, i + 1, rfl, rfl, ?_, ?_, by omega, by (rw [heq]; simp [hd']), ?_⟩
      all_goals first|assumption|(simp [h1, h3, hb];done)|(simp [h1, h3, hb];omega)|(simp [h1, h3, hb];exact wrap_succ (by omega))|omega
  have hil : i = c.arity.length := by simp at hc; omega
  subst hil
  rw [List.drop_length, List.all_nil] at heq
  have h9 := cv (l1In_r c.arity.length 1 4)
  repeat' first|refine nx ?_|refine xb_miss (by decide) ?_|(apply W_reg;(simp [h1, h3, hb, h9];exact .r _))
  simp [isSch, heq]
theorem l3Terms_r (l : List Int) (hl : Sm l) : Ret XX 126 [Ar l] (.t (.b (l.all isTerm && decide (l.length ≤ 3))) false) := by
  refine ret_W rfl Try.func126 rfl rfl (by simp [Try.f126]) ?_
  simp only [Try.f126]
  repeat' first|refine nx ?_|refine xb_miss (by decide) ?_|(apply W_reg;(simp;exact .r _))
  refine W_loop (n := l.length) (fun n s => ∃ i : Nat, n = l.length - i ∧ s.nt = 19 ∧ s.tm 0 = Ar l ∧ s.tm 3 = In i ∧ i ≤ l.length ∧ l.all isTerm = (l.drop i).all isTerm) ⟨0, by simp⟩ ?_
  rintro n ⟨nt, tm, σ⟩ ⟨i, rfl, hnt, h0, h3, hi, heq⟩
  simp only at hnt h0 h3
  subst hnt
  repeat' first|refine nx ?_|refine xb_miss (by decide) ?_|(apply W_reg;(simp [h0, h3];exact .r _))
  refine W_cond (by simp [h0, h3]; exact .r _) (fun hc => ?_) (fun hc => ?_)
  · have hil : i < l.length := by simpa using hc
    have hcc := cv (specIsTerm_r l[i])
    repeat' first|refine nx ?_|refine xb_miss (by decide) ?_|(apply W_reg;(simp [h0, h3, hil, hcc];exact .r _))
    rw [List.drop_eq_getElem_cons hil, List.all_cons] at heq
    refine W_cond (by simp [h0, h3]; exact .r _) (fun hd => ?_) (fun hd => ?_)
    · repeat' first|refine nx ?_|refine xb_miss (by decide) ?_|(apply W_reg;(simp [h0, h3];exact .r _))
      have hd' : isTerm l[i] = false := by simpa using hd
      rw [heq, hd']; simp
    · have hd' : isTerm l[i] = true := by simpa using hd
      repeat' first|refine nx ?_|refine xb_miss (by decide) ?_|(apply W_reg;(simp [h0, h3];exact .r _))
      refine ⟨_, ?_, i + 1, rfl, rfl, ?_, ?_, by omega, by (rw [heq]; simp [hd'])⟩
      all_goals first|assumption|(simp [h0, h3];done)|(simp [h0, h3];omega)|(simp [h0, h3];exact wrap_succ (by omega))|omega
  have hil : i = l.length := by simp at hc; omega
  subst hil
  rw [List.drop_length, List.all_nil] at heq
  repeat' first|refine nx ?_|refine xb_miss (by decide) ?_|(apply W_reg;(simp [h0, h3];exact .r _))
  rw [heq]; simp <;> omega
theorem takes_r (c : Sch) (rel n : Int) (hl : Sm c.arity) : Ret XX 113 [Ag c, In rel, In n] (.t (.b (takes c rel n)) false) := by
  refine ret_W rfl Try.func113 rfl rfl (by simp [Try.f113]) ?_
  simp only [Try.f113]
  have h1 := cv (implIsSchema_r c hl)
  have h2 := cv (within_r rel 0 (c.arity.length - 1))
  have hw : IntKind.i64.wrap ((c.arity.length : Int) - 1) = (c.arity.length : Int) - 1 := wrap_ok (by omega) (by omega)
  simp only [Ag, cells_Sch, List.map_cons, List.map_nil] at h1
  cases e1 : isSch c
  · repeat' first|refine nx ?_|refine xb_miss (by decide) ?_|(apply W_reg;(simp [Ag, h1, e1];exact .r _))
    simp [takes, e1]
  · cases e2 : inR rel 0 (c.arity.length - 1)
    · repeat' first|refine nx ?_|refine xb_miss (by decide) ?_|(apply W_reg;(simp [Ag, h1, e1, h2, e2, hw];exact .r _))
      simp [takes, e2]
    · have hb : 0 ≤ rel ∧ rel ≤ c.arity.length - 1 := by simpa [inR] using e2
      have hr : rel.toNat < c.arity.length := by omega
      have hr0 : 0 ≤ rel := hb.1
      repeat' first|refine nx ?_|refine xb_miss (by decide) ?_|(apply W_reg;(simp [Ag, h1, e1, h2, e2, hw, hr, hr0];exact .r _))
      simp [takes, e1, e2, hr]
theorem implIsAtom_r (c : Sch) (a : RA) (hl : Sm c.arity) (ha : Sm a.args) : Ret XX 74 [Ag c, Ag a] (.t (.b (isAtom c a)) false) := by
  refine ret_W rfl Try.func74 rfl rfl (by simp [Try.f74]) ?_
  simp only [Try.f74]
  have h1 := cv (takes_r c a.rel a.args.length hl)
  have h2 := cv (areTerms_r a.args ha)
  simp only [Ag, cells_Sch, List.map_cons, List.map_nil] at h1
  cases e1 : takes c a.rel a.args.length
  · repeat' first|refine nx ?_|refine xb_miss (by decide) ?_|(apply W_reg;(simp [Ag, h1, e1];exact .r _))
    simp [isAtom, e1]
  · repeat' first|refine nx ?_|refine xb_miss (by decide) ?_|(apply W_reg;(simp [Ag, h1, e1, h2];exact .r _))
    simp [isAtom, e1]
theorem index_r (l : List Int) (x : Int) (hl : Sm l) : Ret XX 133 [Ar l, In x] (.t (.i .i64 (fidx (fun y => decide (x = y)) l 0)) false) := by
  refine ret_W rfl Try.func133 rfl rfl (by simp [Try.f133]) ?_
  simp only [Try.f133]
  repeat' first|refine nx ?_|refine xb_miss (by decide) ?_|(apply W_reg;(simp;exact .r _))
  refine W_loop (n := l.length) (fun n s => ∃ i : Nat, n = l.length - i ∧ s.nt = 19 ∧ s.tm 0 = Ar l ∧ s.tm 1 = In x ∧ s.tm 7 = In l.length ∧ s.tm 8 = In i ∧ i ≤ l.length ∧ fidx (fun y => decide (x = y)) l 0 = fidx (fun y => decide (x = y)) (l.drop i) i) ⟨0, by simp⟩ ?_
  rintro n ⟨nt, tm, σ⟩ ⟨i, rfl, hnt, h0, h1, h7, h8, hi, heq⟩
  simp only at hnt h0 h1 h7 h8
  subst hnt
  repeat' first|refine nx ?_|refine xb_miss (by decide) ?_|(apply W_reg;(simp [h0, h1, h7, h8];exact .r _))
  refine W_cond (by simp [h0, h1, h7, h8]; exact .r _) (fun hc => ?_) (fun hc => ?_)
  · have hil : i < l.length := by simpa using hc
    repeat' first|refine nx ?_|refine xb_miss (by decide) ?_|(apply W_reg;(simp [h0, h1, h7, h8, hil];exact .r _))
    rw [List.drop_eq_getElem_cons hil] at heq
    refine W_cond (by simp [h0, h1, h7, h8]; exact .r _) (fun hd => ?_) (fun hd => ?_)
    · repeat' first|refine nx ?_|refine xb_miss (by decide) ?_|(apply W_reg;(simp [h0, h1, h7, h8];exact .r _))
      have hd : x = l[i] := by simpa using hd
      rw [heq]; simp [fidx, ← hd]
    · have hd : ¬ x = l[i] := by simpa using hd
      repeat' first|refine nx ?_|refine xb_miss (by decide) ?_|(apply W_reg;(simp [h0, h1, h7, h8];exact .r _))
      refine ⟨_, ?_, i + 1, rfl, rfl, ?_, ?_, ?_, ?_, by omega, by (rw [heq]; simp [fidx, hd])⟩
      all_goals first|assumption|(simp [h0, h1, h7, h8];done)|(simp [h0, h1, h7, h8];omega)|(simp [h0, h1, h7, h8];exact wrap_succ (by omega))|omega
  have hil : i = l.length := by simp at hc; omega
  subst hil
  repeat' first|refine nx ?_|refine xb_miss (by decide) ?_|(apply W_reg;(simp [h0, h1, h7, h8];exact .r _))
  rw [heq, List.drop_length]; simp [fidx]
theorem fidx_has (x : Int) : ∀ (l : List Int) (k : Nat), decide (0 ≤ fidx (fun y => decide (x = y)) l k) = decide (x ∈ l)
  | [], k => by simp [fidx]
  | a :: l, k => by
    unfold fidx
    by_cases h : x = a
    · subst h; simp
    · simp only [h, decide_false, Bool.false_eq_true, if_false, fidx_has x l (k + 1), List.mem_cons, false_or]
theorem contains_r (l : List Int) (x : Int) (hl : Sm l) : Ret XX 107 [Ar l, In x] (.t (.b (decide (x ∈ l))) false) := by
  refine ret_W rfl Try.func107 rfl rfl (by simp [Try.f107]) ?_
  simp only [Try.f107]
  have h1 := cv (index_r l x hl)
  repeat' first|refine nx ?_|refine xb_miss (by decide) ?_|(apply W_reg;(simp [h1];exact .r _))
  rw [← fidx_has x l 0]
  simp
theorem l2Has_r (l : List Int) (x : Int) (hl : Sm l) : Ret XX 129 [Ar l, In x] (.t (.b (decide (x ∈ l))) false) := by
  refine ret_W rfl Try.func129 rfl rfl (by simp [Try.f129]) ?_
  simp only [Try.f129]
  repeat' first|refine nx ?_|refine xb_miss (by decide) ?_|(apply W_reg;(simp;exact .r _))
  refine W_loop (n := l.length) (fun n s => ∃ i : Nat, n = l.length - i ∧ s.nt = 18 ∧ s.tm 0 = Ar l ∧ s.tm 1 = In x ∧ s.tm 5 = In i ∧ i ≤ l.length ∧ (x ∈ l ↔ x ∈ l.drop i)) ⟨0, by simp⟩ ?_
  rintro n ⟨nt, tm, σ⟩ ⟨i, rfl, hnt, h0, h1, h5, hi, heq⟩
  simp only at hnt h0 h1 h5
  subst hnt
  repeat' first|refine nx ?_|refine xb_miss (by decide) ?_|(apply W_reg;(simp [h0, h1, h5];exact .r _))
  refine W_cond (by simp [h0, h1, h5]; exact .r _) (fun hc => ?_) (fun hc => ?_)
  · have hil : i < l.length := by simpa using hc
    repeat' first|refine nx ?_|refine xb_miss (by decide) ?_|(apply W_reg;(simp [h0, h1, h5, hil];exact .r _))
    rw [List.drop_eq_getElem_cons hil, List.mem_cons] at heq
    refine W_cond (by simp [h0, h1, h5]; exact .r _) (fun hd => ?_) (fun hd => ?_)
    · repeat' first|refine nx ?_|refine xb_miss (by decide) ?_|(apply W_reg;(simp [h0, h1, h5];exact .r _))
      have hd : l[i] = x := by simpa using hd
      have : x ∈ l := heq.2 (.inl hd.symm)
      simp [this]
    · have hd : ¬ l[i] = x := by simpa using hd
      repeat' first|refine nx ?_|refine xb_miss (by decide) ?_|(apply W_reg;(simp [h0, h1, h5];exact .r _))
      refine ⟨_, ?_, i + 1, rfl, rfl, ?_, ?_, ?_, by omega, by (rw [heq]; exact ⟨fun h => h.elim (fun e => absurd e.symm hd) id, .inr⟩)⟩
      all_goals first|assumption|(simp [h0, h1, h5];done)|(simp [h0, h1, h5];omega)|(simp [h0, h1, h5];exact wrap_succ (by omega))|omega
  have hil : i = l.length := by simp at hc; omega
  subst hil
  repeat' first|refine nx ?_|refine xb_miss (by decide) ?_|(apply W_reg;(simp [h0, h1, h5];exact .r _))
  rw [List.drop_length] at heq
  have : x ∉ l := fun h => by cases heq.1 h
  simp [this]
end Go.Proofs.Ytlehbgapjibeeaa.V

namespace Go.Proofs.Ytlehbgapjibeeaa.V
open Go Go.Proofs
set_option linter.unusedVariables false
set_option linter.unusedSimpArgs false
theorem occurs_r (q : Qry) (t : Int) (hb : Sm q.body) (ha : ∀ a ∈ q.body, Sm a.args) : Ret XX 106 [Ag q, In t] (.t (.b (occurs q t)) false) := by
  refine ret_W rfl Try.func106 rfl rfl (by simp [Try.f106]) ?_
  simp only [Try.f106]
  repeat' first|refine nx ?_|refine xb_miss (by decide) ?_|(apply W_reg;(simp [Ag];exact .r _))
  refine W_loop (n := q.body.length) (fun n s => ∃ i : Nat, n = q.body.length - i ∧ s.nt = 19 ∧ s.tm 1 = In t ∧ s.tm 8 = Ar q.body ∧ s.tm 9 = In q.body.length ∧ s.tm 10 = In i ∧ i ≤ q.body.length ∧ occurs q t = (q.body.drop i).any (fun a => decide (t ∈ a.args))) ⟨0, by simp [occurs]⟩ ?_
  rintro n ⟨nt, tm, σ⟩ ⟨i, rfl, hnt, h1, h8, h9, h10, hi, heq⟩
  simp only at hnt h1 h8 h9 h10
  subst hnt
  repeat' first|refine nx ?_|refine xb_miss (by decide) ?_|(apply W_reg;(simp [h1, h8, h9, h10];exact .r _))
  refine W_cond (by simp [h1, h8, h9, h10]; exact .r _) (fun hc => ?_) (fun hc => ?_)
  · have hil : i < q.body.length := by simpa using hc
    have hcc := cv (contains_r q.body[i].args t (ha _ (List.getElem_mem hil)))
    repeat' first|refine nx ?_|refine xb_miss (by decide) ?_|(apply W_reg;(simp [h1, h8, h9, h10, hil, hcc];exact .r _))
    rw [List.drop_eq_getElem_cons hil, List.any_cons] at heq
    refine W_cond (by simp [h1, h8, h9, h10]; exact .r _) (fun hd => ?_) (fun hd => ?_)
    · repeat' first|refine nx ?_|refine xb_miss (by decide) ?_|(apply W_reg;(simp [h1, h8, h9, h10];exact .r _))
      have hd' : t ∈ q.body[i].args := by simpa using hd
      rw [heq]; simp [hd']
    · have hd' : t ∉ q.body[i].args := by simpa using hd
      repeat' first|refine nx ?_|refine xb_miss (by decide) ?_|(apply W_reg;(simp [h1, h8, h9, h10];exact .r _))
      refine ⟨_, ?_, i + 1, rfl, rfl, ?_, ?_, ?_, ?_, by omega, by (rw [heq]; simp [hd'])⟩
      all_goals first|assumption|(simp [h1, h8, h9, h10];done)|(simp [h1, h8, h9, h10];omega)|(simp [h1, h8, h9, h10];exact wrap_succ (by omega))|omega
  have hil : i = q.body.length := by simp at hc; omega
  subst hil
  repeat' first|refine nx ?_|refine xb_miss (by decide) ?_|(apply W_reg;(simp [h1, h8, h9, h10];exact .r _))
  rw [heq, List.drop_length]; simp
theorem isSafe_r (q : Qry) (hh : Sm q.head) (hb : Sm q.body) (ha : ∀ a ∈ q.body, Sm a.args) : Ret XX 75 [Ag q] (.t (.b (isSafe q)) false) := by
  refine ret_W rfl Try.func75 rfl rfl (by simp [Try.f75]) ?_
  simp only [Try.f75]
  repeat' first|refine nx ?_|refine xb_miss (by decide) ?_|(apply W_reg;(simp [Ag];exact .r _))
  refine W_loop (n := q.head.length) (fun n s => ∃ i : Nat, n = q.head.length - i ∧ s.nt = 21 ∧ s.tm 1 = .ptr 0 0 ∧ s.tm 6 = Ar q.head ∧ s.tm 7 = In q.head.length ∧ s.tm 8 = In i ∧ i ≤ q.head.length ∧ s.σ.ob 0 = .box [Ar q.head, Ar q.body] ∧ isSafe q = (q.head.drop i).all (fun t => !isVar t || occurs q t)) ⟨0, by simp [isSafe]⟩ ?_
  rintro n ⟨nt, tm, σ⟩ ⟨i, rfl, hnt, h1, h6, h7, h8, hi, hb0, heq⟩
  simp only at hnt h1 h6 h7 h8 hb0
  subst hnt
  repeat' first|refine nx ?_|refine xb_miss (by decide) ?_|(apply W_reg;(simp [h1, h6, h7, h8, hb0];exact .r _))
  refine W_cond (by simp [h1, h6, h7, h8, hb0]; exact .r _) (fun hc => ?_) (fun hc => ?_)
  · have hil : i < q.head.length := by simpa using hc
    have c1 := cv (implIsVar_r q.head[i])
    have c2 := cv (occurs_r q q.head[i] hb ha)
    simp only [Ag, cells_Q, List.map_cons, List.map_nil] at c2
    rw [List.drop_eq_getElem_cons hil, List.all_cons] at heq
    cases e : isVar q.head[i]
    · repeat' first|refine nx ?_|refine xb_miss (by decide) ?_|(apply W_reg;(simp [h1, h6, h7, h8, hb0, hil, c1, c2, e];exact .r _))
      refine W_cond (by simp [h1, h6, h7, h8, hb0]; exact .r _) (fun hd => ?_) (fun hd => ?_)
      · cases hd
      · repeat' first|refine nx ?_|refine xb_miss (by decide) ?_|(apply W_reg;(simp [h1, h6, h7, h8, hb0];exact .r _))
        refine ⟨_, ?_, i + 1, rfl, rfl, ?_, ?_, ?_, ?_, by omega, ?_, by (rw [heq, e]; simp)⟩
        all_goals first|assumption|(simp [h1, h6, h7, h8, hb0];done)|(simp [h1, h6, h7, h8, hb0];omega)|(simp [h1, h6, h7, h8, hb0];exact wrap_succ (by omega))|omega
    · repeat' first|refine nx ?_|refine xb_miss (by decide) ?_|(apply W_reg;(simp [h1, h6, h7, h8, hb0, hil, c1, c2, e];exact .r _))
      refine W_cond (by simp [h1, h6, h7, h8, hb0]; exact .r _) (fun hd => ?_) (fun hd => ?_)
      · repeat' first|refine nx ?_|refine xb_miss (by decide) ?_|(apply W_reg;(simp [h1, h6, h7, h8, hb0];exact .r _))
        have hd' : occurs q q.head[i] = false := by simpa using hd
        rw [heq, e, hd']; simp
      · have hd' : occurs q q.head[i] = true := by simpa using hd
        repeat' first|refine nx ?_|refine xb_miss (by decide) ?_|(apply W_reg;(simp [h1, h6, h7, h8, hb0];exact .r _))
        refine ⟨_, ?_, i + 1, rfl, rfl, ?_, ?_, ?_, ?_, by omega, ?_, by (rw [heq, e, hd']; simp)⟩
        all_goals first|assumption|(simp [h1, h6, h7, h8, hb0];done)|(simp [h1, h6, h7, h8, hb0];omega)|(simp [h1, h6, h7, h8, hb0];exact wrap_succ (by omega))|omega
  have hil : i = q.head.length := by simp at hc; omega
  subst hil
  repeat' first|refine nx ?_|refine xb_miss (by decide) ?_|(apply W_reg;(simp [h1, h6, h7, h8, hb0];exact .r _))
  rw [heq, List.drop_length]; simp
theorem implIsQuery_r (c : Sch) (q : Qry) (hl : Sm c.arity) (hh : Sm q.head) (hb : Sm q.body) (ha : ∀ a ∈ q.body, Sm a.args) : Ret XX 36 [Ag c, Ag q] (.t (.b (isQry c q)) false) := by
  refine ret_W rfl Try.func36 rfl rfl (by simp [Try.f36]) ?_
  simp only [Try.f36]
  have h1 := cv (implIsSchema_r c hl)
  have h2 := cv (areTerms_r q.head hh)
  have h3 := cv (within_r q.body.length 1 4)
  have h4 := cv (isSafe_r q hh hb ha)
  simp only [Ag, cells_Sch, cells_Q, List.map_cons, List.map_nil] at h1 h4
  cases e1 : isSch c
  · repeat' first|refine nx ?_|refine xb_miss (by decide) ?_|(apply W_reg;(simp [Ag, h1, e1];exact .r _))
    refine W_cond (by simp; exact .r _) (fun hc => ?_) (fun hc => ?_)
    · repeat' first|refine nx ?_|refine xb_miss (by decide) ?_|(apply W_reg;(simp;exact .r _))
      simp [isQry, e1]
    · cases hc
  by_cases e2 : (q.head.length : Int) ≤ 3
  case neg =>
    have e2' : (3 : Int) < q.head.length := by omega
    have e2n : ¬ q.head.length ≤ 3 := by omega
    repeat' first|refine nx ?_|refine xb_miss (by decide) ?_|(apply W_reg;(simp [Ag, h1, e1, e2'];exact .r _))
    refine W_cond (by simp; exact .r _) (fun hc => ?_) (fun hc => ?_)
    · repeat' first|refine nx ?_|refine xb_miss (by decide) ?_|(apply W_reg;(simp;exact .r _))
      simp [isQry, e2n]
    · cases hc
  have e2' : ¬ (3 : Int) < q.head.length := by omega
  have e2n : q.head.length ≤ 3 := by omega
  cases e3 : q.head.all isTerm
  · repeat' first|refine nx ?_|refine xb_miss (by decide) ?_|(apply W_reg;(simp [Ag, h1, e1, e2', h2, e3];exact .r _))
    refine W_cond (by simp; exact .r _) (fun hc => ?_) (fun hc => ?_)
    · repeat' first|refine nx ?_|refine xb_miss (by decide) ?_|(apply W_reg;(simp;exact .r _))
      simp only [isQry, e3]; simp
    · cases hc
  cases e4 : inR q.body.length 1 4
  · repeat' first|refine nx ?_|refine xb_miss (by decide) ?_|(apply W_reg;(simp [Ag, h1, e1, e2', h2, e3, h3, e4];exact .r _))
    refine W_cond (by simp; exact .r _) (fun hc => ?_) (fun hc => ?_)
    · repeat' first|refine nx ?_|refine xb_miss (by decide) ?_|(apply W_reg;(simp;exact .r _))
      simp [isQry, e4]
    · cases hc
  repeat' first|refine nx ?_|refine xb_miss (by decide) ?_|(apply W_reg;(simp [Ag, h1, e1, e2', h2, e3, h3, e4];exact .r _))
  refine W_cond (by simp; exact .r _) (fun hc => ?_) (fun hc => ?_)
  · cases hc
  repeat' first|refine nx ?_|refine xb_miss (by decide) ?_|(apply W_reg;(simp;exact .r _))
  refine W_loop (n := q.body.length) (fun n s => ∃ i : Nat, n = q.body.length - i ∧ s.nt = 43 ∧ s.tm 2 = .ptr 0 0 ∧ s.tm 3 = .ptr 1 0 ∧ s.tm 30 = Ar q.body ∧ s.tm 31 = In q.body.length ∧ s.tm 32 = In i ∧ i ≤ q.body.length ∧ s.σ.ob 0 = .box [Ar c.arity] ∧ s.σ.ob 1 = .box [Ar q.head, Ar q.body] ∧ 2 ≤ s.σ.n ∧ q.body.all (isAtom c) = (q.body.drop i).all (isAtom c)) ⟨0, by simp⟩ ?_
  rintro n ⟨nt, tm, σ⟩ ⟨i, rfl, hnt, h2, h3, h30, h31, h32, hi, hb0, hb1, hn, heq⟩
  simp only at hnt h2 h3 h30 h31 h32 hb0 hb1 hn
  subst hnt
  have n0 : ¬ (0 = σ.n) := by omega
  have n1 : ¬ (1 = σ.n) := by omega
  have n0' : ¬ (σ.n = 0) := by omega
  have n1' : ¬ (σ.n = 1) := by omega
  repeat' first|refine nx ?_|refine xb_miss (by decide) ?_|(apply W_reg;(simp [h2, h3, h30, h31, h32, hb0, hb1, hn];exact .r _))
  refine W_cond (by simp [h2, h3, h30, h31, h32, hb0, hb1, hn]; exact .r _) (fun hc => ?_) (fun hc => ?_)
  · have hil : i < q.body.length := by simpa using hc
    have hcc := cv (implIsAtom_r c q.body[i] hl (ha _ (List.getElem_mem hil)))
    simp only [Ag, cells_Sch, cells_RA, List.map_cons, List.map_nil] at hcc
    repeat' first|refine nx ?_|refine xb_miss (by decide) ?_|(apply W_reg;(simp [h2, h3, h30, h31, h32, hb0, hb1, hn, hil, hcc, n0, n1, n0', n1'];exact .r _))
    rw [List.drop_eq_getElem_cons hil, List.all_cons] at heq
    refine W_cond (by simp [h2, h3, h30, h31, h32, hb0, hb1, hn]; exact .r _) (fun hd => ?_) (fun hd => ?_)
    · repeat' first|refine nx ?_|refine xb_miss (by decide) ?_|(apply W_reg;(simp [h2, h3, h30, h31, h32, hb0, hb1, hn];exact .r _))
      have hd' : isAtom c q.body[i] = false := by simpa using hd
      simp [isQry, heq, hd']
    · have hd' : isAtom c q.body[i] = true := by simpa using hd
      repeat' first|refine nx ?_|refine xb_miss (by decide) ?_|(apply W_reg;(simp [h2, h3, h30, h31, h32, hb0, hb1, hn];exact .r _))
      refine ⟨_, ?_, i + 1, rfl, rfl, ?_, ?_, ?_, ?_, ?_, by omega, ?_, ?_, ?_, by (rw [heq]; simp [hd'])⟩
      all_goals first|assumption|(simp [h2, h3, h30, h31, h32, hb0, hb1, hn, n0, n1, n0', n1'];done)|(simp [h2, h3, h30, h31, h32, hb0, hb1, hn, n0, n1, n0', n1'];omega)|(simp [h2, h3, h30, h31, h32, hb0, hb1, hn, n0, n1, n0', n1'];exact wrap_succ (by omega))|omega
  have hil : i = q.body.length := by simp at hc; omega
  subst hil
  rw [List.drop_length, List.all_nil] at heq
  repeat' first|refine nx ?_|refine xb_miss (by decide) ?_|(apply W_reg;(simp [h2, h3, h30, h31, h32, hb0, hb1, hn, h4];exact .r _))
  simp only [isQry, e1, e2n, e3, e4, heq]; simp
/-- The variables of a body, as the reference lists them. -/
def bvars1 (acc : List Int) (l : List Int) : List Int := l.foldl (fun acc t => if decide (0 ≤ t) && !decide (t ∈ acc) then acc ++ [t] else acc) acc
def bvars (acc : List Int) (body : List RA) : List Int := body.foldl (fun acc a => bvars1 acc a.args) acc
theorem bvars1_mem : ∀ (l acc : List Int) (x : Int), x ∈ bvars1 acc l ↔ x ∈ acc ∨ (0 ≤ x ∧ x ∈ l)
  | [], acc, x => by simp [bvars1]
  | t :: l, acc, x => by
    have ih := fun acc => bvars1_mem l acc x
    unfold bvars1 at ih ⊢
    rw [List.foldl_cons, ih]
    split
    · rename_i h
      simp only [Bool.and_eq_true, decide_eq_true_eq] at h
      simp only [List.mem_append, List.mem_cons, List.not_mem_nil, or_false]
      constructor
      · rintro ((h1 | rfl) | h1)
        · exact .inl h1
        · exact .inr ⟨h.1, .inl rfl⟩
        · exact .inr ⟨h1.1, .inr h1.2⟩
      · rintro (h1 | ⟨h1, rfl | h2⟩)
        · exact .inl (.inl h1)
        · exact .inl (.inr rfl)
        · exact .inr ⟨h1, h2⟩
    · rename_i h
      simp only [Bool.and_eq_true, decide_eq_true_eq, Bool.not_eq_true', decide_eq_false_iff_not, not_and, Classical.not_not] at h
      simp only [List.mem_cons]
      constructor
      · rintro (h1 | h1)
        · exact .inl h1
        · exact .inr ⟨h1.1, .inr h1.2⟩
      · rintro (h1 | ⟨h1, rfl | h2⟩)
        · exact .inl h1
        · exact .inl (h h1)
        · exact .inr ⟨h1, h2⟩
theorem bvars_mem : ∀ (body : List RA) (acc : List Int) (x : Int), x ∈ bvars acc body ↔ x ∈ acc ∨ (0 ≤ x ∧ ∃ a ∈ body, x ∈ a.args)
  | [], acc, x => by simp [bvars]
  | a :: body, acc, x => by
    have ih := bvars_mem body (bvars1 acc a.args) x
    unfold bvars at ih ⊢
    rw [List.foldl_cons, ih, bvars1_mem]
    constructor
    · rintro ((h | h) | ⟨h, b, hb, h2⟩)
      · exact .inl h
      · exact .inr ⟨h.1, a, by simp, h.2⟩
      · exact .inr ⟨h, b, by simp [hb], h2⟩
    · rintro (h | ⟨h, b, hb, h2⟩)
      · exact .inl (.inl h)
      · rcases List.mem_cons.1 hb with rfl | hb
        · exact .inl (.inr ⟨h, h2⟩)
        · exact .inr ⟨h, b, hb, h2⟩
theorem bvars1_take (l acc : List Int) (j : Nat) (h : j < l.length) : bvars1 acc (l.take (j + 1)) = if decide (0 ≤ l[j]) && !decide (l[j] ∈ bvars1 acc (l.take j)) then bvars1 acc (l.take j) ++ [l[j]] else bvars1 acc (l.take j) := by
  rw [List.take_succ_eq_append_getElem h]; unfold bvars1; rw [List.foldl_append]; rfl
theorem bvars_take (l : List RA) (acc : List Int) (j : Nat) (h : j < l.length) : bvars acc (l.take (j + 1)) = bvars1 (bvars acc (l.take j)) l[j].args := by
  rw [List.take_succ_eq_append_getElem h]; unfold bvars; rw [List.foldl_append]; rfl
theorem bodyVars_r (q : Qry) (hb : q.body.length ≤ 1000) (ha : ∀ a ∈ q.body, a.args.length ≤ 1000) : Ret XX 130 [Ag q] (.own 1 (rowsE (bvars [] q.body))) := by
  refine ret_W rfl Try.func130 rfl rfl (by simp [Try.f130]) ?_
  simp only [Try.f130]
  repeat' first|refine nx ?_|refine xb_miss (by decide) ?_|(apply W_reg;(simp [Ag];exact .r _))
  refine W_loop (n := q.body.length) (fun n s => ∃ i : Nat, ∃ acc : List Int, n = q.body.length - i ∧ s.nt = 48 ∧ s.tm 1 = .ptr 0 0 ∧ s.tm 3 = .ref 1 acc.length [] ∧ s.tm 4 = In i ∧ i ≤ q.body.length ∧ s.σ.ob 0 = .box [Ar q.head, Ar q.body] ∧ s.σ.ob 1 = .arr (.own 0) 0 1 (rowsE acc) ∧ 2 ≤ s.σ.n ∧ acc = bvars [] (q.body.take i) ∧ acc.length ≤ i * 1000) ⟨0, [], by simp [bvars]⟩ ?_
  rintro n ⟨nt, tm, σ⟩ ⟨i, acc, rfl, hnt, h1, h3, h4, hi, hb0, ho, hn, hac, hal⟩
  simp only at hnt h1 h3 h4 hb0 ho hn
  subst hnt
  have n0 : ¬ (0 = σ.n) := by omega
  have n1 : ¬ (1 = σ.n) := by omega
  have n0' : ¬ (σ.n = 0) := by omega
  have n1' : ¬ (σ.n = 1) := by omega
  repeat' first|refine nx ?_|refine xb_miss (by decide) ?_|(apply W_reg;(simp [h1, h3, h4, hb0, ho, hn];exact .r _))
  refine W_cond (by simp [h1, h3, h4, hb0, ho, hn]; exact .r _) (fun hc => ?_) (fun hc => ?_)
  · have hil : i < q.body.length := by simpa using hc
    have hal2 := ha _ (List.getElem_mem hil)
    repeat' first|refine nx ?_|refine xb_miss (by decide) ?_|(apply W_reg;(simp [h1, h3, h4, hb0, ho, hn, hil];exact .r _))
    refine W_loop (n := q.body[i].args.length) (fun n s => ∃ j : Nat, ∃ ac2 : List Int, n = q.body[i].args.length - j ∧ s.nt = 48 ∧ s.tm 1 = .ptr 0 0 ∧ s.tm 3 = .ref 1 ac2.length [] ∧ s.tm 4 = In i ∧ s.tm 5 = In j ∧ j ≤ q.body[i].args.length ∧ s.σ.ob 0 = .box [Ar q.head, Ar q.body] ∧ s.σ.ob 1 = .arr (.own 0) 0 1 (rowsE ac2) ∧ 2 ≤ s.σ.n ∧ ac2 = bvars1 acc (q.body[i].args.take j) ∧ ac2.length ≤ i * 1000 + j) ⟨0, acc, by simp [h1, h3, h4, hb0, ho, hn, bvars1, hal]⟩ ?_
    rintro n ⟨nt, tm, σ⟩ ⟨j, ac2, rfl, hnt, h1, h3, h4, h5, hj, hb0, ho, hn, hac2, hal3⟩
    simp only at hnt h1 h3 h4 h5 hb0 ho hn
    subst hnt
    have n0 : ¬ (0 = σ.n) := by omega
    have n1 : ¬ (1 = σ.n) := by omega
    have n0' : ¬ (σ.n = 0) := by omega
    have n1' : ¬ (σ.n = 1) := by omega
    repeat' first|refine nx ?_|refine xb_miss (by decide) ?_|(apply W_reg;(simp [h1, h3, h4, h5, hb0, ho, hn, hil];exact .r _))
    refine W_cond (by simp [h1, h3, h4, h5, hb0, ho, hn]; exact .r _) (fun hd => ?_) (fun hd => ?_)
    · have hjl : j < q.body[i].args.length := by simpa using hd
      have h2 := cv (l2Has_r ac2 q.body[i].args[j] (by unfold Sm; omega))
      have htk := bvars1_take q.body[i].args acc j hjl
      rw [← hac2] at htk
      by_cases e : 0 ≤ q.body[i].args[j]
      · repeat' first|refine nx ?_|refine xb_miss (by decide) ?_|(apply W_reg;(simp [h1, h3, h4, h5, hb0, ho, hn, hil, hjl, e, h2];exact .r _))
        have hb40 : ac2.length + 1 < 1099511627776 := by omega
        refine W_cond (by simp [h1, h3, h4, h5, hb0, ho, hn]; exact .r _) (fun he => ?_) (fun he => ?_)
        · have he' : q.body[i].args[j] ∉ ac2 := by simpa using he
          repeat' first|refine nx ?_|refine xb_miss (by decide) ?_|(apply W_reg;(simp [h1, h3, h4, h5, hb0, ho, hn, hb40, n0, n1, n0', n1'];exact .r _))
          refine ⟨_, ?_, j + 1, ac2 ++ [q.body[i].args[j]], rfl, rfl, ?_, ?_, ?_, ?_, by omega, ?_, ?_, ?_, by (rw [htk]; simp [e, he']), by (simp; omega)⟩
          all_goals first|assumption|(simp [h1, h3, h4, h5, hb0, ho, hn, n0, n1, n0', n1', rowsE_append, rowsE];done)|(simp [h1, h3, h4, h5, hb0, ho, hn, n0, n1, n0', n1', rowsE_append, rowsE];omega)|(simp [h1, h3, h4, h5, hb0, ho, hn, n0, n1, n0', n1', rowsE_append, rowsE];exact wrap_succ (by omega))|omega
        · have he' : q.body[i].args[j] ∈ ac2 := by simpa using he
          repeat' first|refine nx ?_|refine xb_miss (by decide) ?_|(apply W_reg;(simp [h1, h3, h4, h5, hb0, ho, hn];exact .r _))
          refine ⟨_, ?_, j + 1, ac2, rfl, rfl, ?_, ?_, ?_, ?_, by omega, ?_, ?_, ?_, by (rw [htk]; simp [he']), by omega⟩
          all_goals first|assumption|(simp [h1, h3, h4, h5, hb0, ho, hn];done)|(simp [h1, h3, h4, h5, hb0, ho, hn];omega)|(simp [h1, h3, h4, h5, hb0, ho, hn];exact wrap_succ (by omega))|omega
      · repeat' first|refine nx ?_|refine xb_miss (by decide) ?_|(apply W_reg;(simp [h1, h3, h4, h5, hb0, ho, hn, hil, hjl, e, h2];exact .r _))
        refine W_cond (by simp [h1, h3, h4, h5, hb0, ho, hn]; exact .r _) (fun he => ?_) (fun he => ?_)
        · cases he
        · repeat' first|refine nx ?_|refine xb_miss (by decide) ?_|(apply W_reg;(simp [h1, h3, h4, h5, hb0, ho, hn];exact .r _))
          refine ⟨_, ?_, j + 1, ac2, rfl, rfl, ?_, ?_, ?_, ?_, by omega, ?_, ?_, ?_, by (rw [htk]; simp [e]), by omega⟩
          all_goals first|assumption|(simp [h1, h3, h4, h5, hb0, ho, hn];done)|(simp [h1, h3, h4, h5, hb0, ho, hn];omega)|(simp [h1, h3, h4, h5, hb0, ho, hn];exact wrap_succ (by omega))|omega
    · have hje : j = q.body[i].args.length := by simp at hd; omega
      subst hje
      rw [List.take_length] at hac2
      repeat' first|refine nx ?_|refine xb_miss (by decide) ?_|(apply W_reg;(simp [h1, h3, h4, h5, hb0, ho, hn];exact .r _))
      exact ⟨q.body.length - (i + 1), by omega, i + 1, ac2, rfl, rfl, by simp [h1], by simp [h3], by simp [h4]; exact wrap_succ (by omega), by omega, by simp [hb0], by simp [ho], by simpa using hn, by rw [bvars_take _ _ _ hil, ← hac, hac2], by omega⟩
  have hil : i = q.body.length := by simp at hc; omega
  subst hil
  rw [List.take_length] at hac
  subst hac
  repeat' first|refine nx ?_|refine xb_miss (by decide) ?_|(apply W_reg;(simp [h1, h3, h4, hb0, ho];exact .r _))
  simp [ho]
theorem bvars_len (q : Qry) (hb : q.body.length ≤ 1000) (ha : ∀ a ∈ q.body, a.args.length ≤ 1000) : (bvars [] q.body).length ≤ 1000000 := by
  have h1 : ∀ (l acc : List Int), (bvars1 acc l).length ≤ acc.length + l.length := by
    intro l
    induction l with
    | nil => intro acc; simp [bvars1]
    | cons t l ih =>
      intro acc
      have := ih (if decide (0 ≤ t) && !decide (t ∈ acc) then acc ++ [t] else acc)
      unfold bvars1 at this ⊢
      rw [List.foldl_cons]
      refine Nat.le_trans this ?_
      split <;> simp <;> omega
  have h2 : ∀ (l : List RA) (acc : List Int), (∀ a ∈ l, a.args.length ≤ 1000) → (bvars acc l).length ≤ acc.length + l.length * 1000 := by
    intro l
    induction l with
    | nil => intro acc _; simp [bvars]
    | cons a l ih =>
      intro acc h
      have hx := ih (bvars1 acc a.args) fun b hb => h b (List.mem_cons_of_mem _ hb)
      have hy := h1 a.args acc
      have hz := h a (by simp)
      unfold bvars at hx ⊢
      rw [List.foldl_cons, List.length_cons]
      omega
  have := h2 q.body [] ha
  simp at this
  omega
end Go.Proofs.Ytlehbgapjibeeaa.V

namespace Go.Proofs.Ytlehbgapjibeeaa.V
open Go Go.Proofs
set_option linter.unusedVariables false
set_option linter.unusedSimpArgs false
theorem specIsAtom_r (c : Sch) (a : RA) (hl : Sm c.arity) (ha : Sm a.args) : Ret XX 127 [Ag c, Ag a] (.t (.b (isAtom c a)) false) := by
  refine ret_W rfl Try.func127 rfl rfl (by simp [Try.f127]) ?_
  simp only [Try.f127]
  have c1 := cv (specIsSchema_r c hl)
  have c2 := cv (l1In_r a.rel 0 (c.arity.length - 1))
  have c3 := cv (l3Terms_r a.args ha)
  have hw : IntKind.i64.wrap ((c.arity.length : Int) - 1) = (c.arity.length : Int) - 1 := wrap_ok (by omega) (by omega)
  simp only [Ag, cells_Sch, List.map_cons, List.map_nil] at c1
  cases e1 : isSch c
  · repeat' first|refine nx ?_|refine xb_miss (by decide) ?_|(apply W_reg;(simp [Ag, c1, e1];exact .r _))|(apply W_draw (id := 1) [0,1,3,7,15,7,39,103,231,511,1023,2047,4095,8191,16383,4095,36863,4095,135167,495615,1019903,2097151,4194303,8388607,16777215,33554431,67108863,134217727,268435455] rfl rfl; (· simp; exact .r _); (· simp [Ag, c1, e1]; exact .r _); (· first|trivial|simp))
    simp [isAtom, takes, e1]
  · cases e2 : inR a.rel 0 (c.arity.length - 1)
    · repeat' first|refine nx ?_|refine xb_miss (by decide) ?_|(apply W_reg;(simp [Ag, c1, e1, c2, e2, hw];exact .r _))|(apply W_draw (id := 1) [0,1,3,7,15,7,39,103,231,511,1023,2047,4095,8191,16383,4095,36863,4095,135167,495615,1019903,2097151,4194303,8388607,16777215,33554431,67108863,134217727,268435455] rfl rfl; (· simp; exact .r _); (· simp [Ag, c1, e1, c2, e2, hw]; exact .r _); (· first|trivial|simp))
      simp [isAtom, takes, e2]
    · have hb : 0 ≤ a.rel ∧ a.rel ≤ c.arity.length - 1 := by simpa [inR] using e2
      have hr : a.rel.toNat < c.arity.length := by omega
      have hr0 : 0 ≤ a.rel := hb.1
      by_cases e3 : (a.args.length : Int) = c.arity[a.rel.toNat]
      · have ht : takes c a.rel a.args.length = true := by simp [takes, e1, e2, hr, e3]
        have h3 := takes_len ht
        repeat' first|refine nx ?_|refine xb_miss (by decide) ?_|(apply W_reg;(simp [Ag, c1, e1, c2, e2, hw, hr, hr0, e3, c3];exact .r _))|(apply W_draw (id := 1) [0,1,3,7,15,7,39,103,231,511,1023,2047,4095,8191,16383,4095,36863,4095,135167,495615,1019903,2097151,4194303,8388607,16777215,33554431,67108863,134217727,268435455] rfl rfl; (· simp; exact .r _); (· simp [Ag, c1, e1, c2, e2, hw, hr, hr0, e3, c3]; exact .r _); (· first|trivial|simp))
        simp [isAtom, ht, h3]
      · have e3' : ¬ c.arity[a.rel.toNat] = (a.args.length : Int) := fun e => e3 e.symm
        repeat' first|refine nx ?_|refine xb_miss (by decide) ?_|(apply W_reg;(simp [Ag, c1, e1, c2, e2, hw, hr, hr0, e3];exact .r _))|(apply W_draw (id := 1) [0,1,3,7,15,7,39,103,231,511,1023,2047,4095,8191,16383,4095,36863,4095,135167,495615,1019903,2097151,4194303,8388607,16777215,33554431,67108863,134217727,268435455] rfl rfl; (· simp; exact .r _); (· simp [Ag, c1, e1, c2, e2, hw, hr, hr0, e3]; exact .r _); (· first|trivial|simp))
        simp [isAtom, takes, e1, e2, hr, e3']
theorem specIsQuery4_r (c : Sch) (q : Qry) (hl : Sm c.arity) (hh : Sm q.head) (hb : Sm q.body) (ha : ∀ a ∈ q.body, Sm a.args) : Ret XX 100 [Ag c, Ag q, In 4] (.t (.b (isQry c q)) false) := by
  refine ret_W rfl Try.func100 rfl rfl (by simp [Try.f100]) ?_
  simp only [Try.f100]
  have c1 := cv (specIsSchema_r c hl)
  have c2 := cv (l3Terms_r q.head hh)
  have c3 := cv (l1In_r q.body.length 1 4)
  simp only [Ag, cells_Sch, List.map_cons, List.map_nil] at c1
  cases e1 : isSch c
  · repeat' first|refine nx ?_|refine xb_miss (by decide) ?_|(apply W_reg;(simp [Ag, c1, e1];exact .r _))
    refine W_cond (by simp; exact .r _) (fun hc => ?_) (fun hc => ?_)
    · repeat' first|refine nx ?_|refine xb_miss (by decide) ?_|(apply W_reg;(simp;exact .r _))
      simp [isQry, e1]
    · cases hc
  cases e2 : (q.head.all isTerm && decide (q.head.length ≤ 3))
  · repeat' first|refine nx ?_|refine xb_miss (by decide) ?_|(apply W_reg;(simp [Ag, c1, e1, c2, e2];exact .r _))
    refine W_cond (by simp; exact .r _) (fun hc => ?_) (fun hc => ?_)
    · repeat' first|refine nx ?_|refine xb_miss (by decide) ?_|(apply W_reg;(simp;exact .r _))
      have : isQry c q = false := by
        cases h : isQry c q with
        | false => rfl
        | true => simp only [isQry, Bool.and_eq_true] at h; rw [h.1.1.1.2, h.1.1.1.1.2] at e2; cases e2
      simp [this]
    · cases hc
  cases e4 : inR q.body.length 1 4
  · repeat' first|refine nx ?_|refine xb_miss (by decide) ?_|(apply W_reg;(simp [Ag, c1, e1, c2, e2, c3, e4];exact .r _))
    refine W_cond (by simp; exact .r _) (fun hc => ?_) (fun hc => ?_)
    · repeat' first|refine nx ?_|refine xb_miss (by decide) ?_|(apply W_reg;(simp;exact .r _))
      simp [isQry, e4]
    · cases hc
  have e2' : (∀ x ∈ q.head, isTerm x = true) ∧ q.head.length ≤ 3 := by simpa using e2
  repeat' first|refine nx ?_|refine xb_miss (by decide) ?_|(apply W_reg;(simp [Ag, c1, e1, c2, e2, c3, e4];exact .r _))
  refine W_cond (by simp; exact .r _) (fun hc => ?_) (fun hc => ?_)
  · cases hc
  repeat' first|refine nx ?_|refine xb_miss (by decide) ?_|(apply W_reg;(simp;exact .r _))
  refine W_loop (n := q.body.length) (fun n s => ∃ i : Nat, n = q.body.length - i ∧ s.nt = 65 ∧ s.tm 3 = .ptr 0 0 ∧ s.tm 4 = .ptr 1 0 ∧ s.tm 7 = In i ∧ i ≤ q.body.length ∧ s.σ.ob 0 = .box [Ar c.arity] ∧ s.σ.ob 1 = .box [Ar q.head, Ar q.body] ∧ 2 ≤ s.σ.n ∧ q.body.all (isAtom c) = (q.body.drop i).all (isAtom c)) ⟨0, by simp⟩ ?_
  rintro n ⟨nt, tm, σ⟩ ⟨i, rfl, hnt, h3, h4, h7, hi, hb0, hb1, hn, heq⟩
  simp only at hnt h3 h4 h7 hb0 hb1 hn
  subst hnt
  have n0 : ¬ (0 = σ.n) := by omega
  have n1 : ¬ (1 = σ.n) := by omega
  have n0' : ¬ (σ.n = 0) := by omega
  have n1' : ¬ (σ.n = 1) := by omega
  repeat' first|refine nx ?_|refine xb_miss (by decide) ?_|(apply W_reg;(simp [h3, h4, h7, hb0, hb1, hn];exact .r _))
  refine W_cond (by simp [h3, h4, h7, hb0, hb1, hn]; exact .r _) (fun hc => ?_) (fun hc => ?_)
  · have hil : i < q.body.length := by simpa using hc
    have hcc := cv (specIsAtom_r c q.body[i] hl (ha _ (List.getElem_mem hil)))
    simp only [Ag, cells_Sch, cells_RA, List.map_cons, List.map_nil] at hcc
    repeat' first|refine nx ?_|refine xb_miss (by decide) ?_|(apply W_reg;(simp [h3, h4, h7, hb0, hb1, hn, hil, hcc, n0, n1, n0', n1'];exact .r _))|(apply W_draw (id := 6) [0,0,2,0,14,30,63,127] rfl rfl; (· simp; exact .r _); (· simp [h3, h4, h7, hb0, hb1, hn, hil, hcc, n0, n1, n0', n1']; exact .r _); (· first|trivial|simp))
    rw [List.drop_eq_getElem_cons hil, List.all_cons] at heq
    refine W_cond (by simp [h3, h4, h7, hb0, hb1, hn]; exact .r _) (fun hd => ?_) (fun hd => ?_)
    · repeat' first|refine nx ?_|refine xb_miss (by decide) ?_|(apply W_reg;(simp [h3, h4, h7, hb0, hb1, hn];exact .r _))
      have hd' : isAtom c q.body[i] = false := by simpa using hd
      simp [isQry, heq, hd']
    · have hd' : isAtom c q.body[i] = true := by simpa using hd
      repeat' first|refine nx ?_|refine xb_miss (by decide) ?_|(apply W_reg;(simp [h3, h4, h7, hb0, hb1, hn];exact .r _))
      refine ⟨_, ?_, i + 1, rfl, rfl, ?_, ?_, ?_, by omega, ?_, ?_, ?_, by (rw [heq]; simp [hd'])⟩
      all_goals first|assumption|(simp [h3, h4, h7, hb0, hb1, hn, n0, n1, n0', n1'];done)|(simp [h3, h4, h7, hb0, hb1, hn, n0, n1, n0', n1'];omega)|(simp [h3, h4, h7, hb0, hb1, hn, n0, n1, n0', n1'];exact wrap_succ (by omega))|omega
  have hil : i = q.body.length := by simp at hc; omega
  subst hil
  rw [List.drop_length, List.all_nil] at heq
  have hbl : q.body.length ≤ 4 := by simp [inR] at e4; omega
  have hal : ∀ a ∈ q.body, a.args.length ≤ 3 := fun a ha => by
    have := List.all_eq_true.1 heq a ha
    simp only [isAtom, Bool.and_eq_true] at this
    exact takes_len this.1
  have c4 := cv (bodyVars_r q (by omega) fun a ha => by have := hal a ha; omega)
  simp only [Ag, cells_Q, List.map_cons, List.map_nil] at c4
  have hbv := bvars_len q (by omega) fun a ha => by have := hal a ha; omega
  repeat' first|refine nx ?_|refine xb_miss (by decide) ?_|(apply W_reg;(simp [h3, h4, h7, hb0, hb1, hn];exact .r _))
  refine W_loop (n := q.head.length) (fun n s => ∃ i : Nat, n = q.head.length - i ∧ s.nt = 65 ∧ s.tm 4 = .ptr 1 0 ∧ s.tm 8 = In i ∧ i ≤ q.head.length ∧ s.σ.ob 1 = .box [Ar q.head, Ar q.body] ∧ 2 ≤ s.σ.n ∧ isSafe q = (q.head.drop i).all (fun t => !isVar t || occurs q t)) ⟨0, by simp [h4, hb1, hn, isSafe]⟩ ?_
  rintro n ⟨nt, tm, σ⟩ ⟨i, rfl, hnt, h4, h8, hi, hb1, hn, hsf⟩
  simp only at hnt h4 h8 hb1 hn
  subst hnt
  have n1 : ¬ (1 = σ.n) := by omega
  have n1' : ¬ (σ.n = 1) := by omega
  repeat' first|refine nx ?_|refine xb_miss (by decide) ?_|(apply W_reg;(simp [h4, h8, hb1, hn];exact .r _))
  refine W_cond (by simp [h4, h8, hb1, hn]; exact .r _) (fun hc => ?_) (fun hc => ?_)
  · have hil : i < q.head.length := by simpa using hc
    have c5 := cv (specIsVar_r q.head[i])
    have c6 := cv (l2Has_r (bvars [] q.body) q.head[i] (by unfold Sm; omega))
    rw [List.drop_eq_getElem_cons hil, List.all_cons] at hsf
    cases e : isVar q.head[i]
    · repeat' first|refine nx ?_|refine xb_miss (by decide) ?_|(apply W_reg;(simp [h4, h8, hb1, hn, hil, c5, e, n1, n1'];exact .r _))|(apply W_draw (id := 11) [0,1,0,7,15,31,63,127,255,127,639,127,3711,7807,16383,32767,65535] rfl rfl; (· simp; exact .r _); (· simp [h4, h8, hb1, hn, hil, c5, e, n1, n1']; exact .r _); (· first|trivial|simp))
      refine W_cond (by simp [h4, h8, hb1, hn]; exact .r _) (fun hd => ?_) (fun hd => ?_)
      · cases hd
      · repeat' first|refine nx ?_|refine xb_miss (by decide) ?_|(apply W_reg;(simp [h4, h8, hb1, hn];exact .r _))
        refine ⟨_, ?_, i + 1, rfl, rfl, ?_, ?_, by omega, ?_, ?_, by (rw [hsf, e]; simp)⟩
        all_goals first|assumption|(simp [h4, h8, hb1, hn, n1, n1'];done)|(simp [h4, h8, hb1, hn, n1, n1'];omega)|(simp [h4, h8, hb1, hn, n1, n1'];exact wrap_succ (by omega))|omega
    · have hm : q.head[i] ∈ bvars [] q.body ↔ ∃ a ∈ q.body, q.head[i] ∈ a.args := by
        rw [bvars_mem]
        have h0 := (isVar_iff.1 e).1
        simp [h0]
      repeat' first|refine nx ?_|refine xb_miss (by decide) ?_|(apply W_reg;(simp [h4, h8, hb1, hn, hil, c5, e, c4, c6, n1, n1'];exact .r _))|(apply W_draw (id := 11) [0,1,0,7,15,31,63,127,255,127,639,127,3711,7807,16383,32767,65535] rfl rfl; (· simp; exact .r _); (· simp [h4, h8, hb1, hn, hil, c5, e, c4, c6, n1, n1']; exact .r _); (· first|trivial|simp))
      refine W_cond (by simp [h4, h8, hb1, hn]; exact .r _) (fun hd => ?_) (fun hd => ?_)
      · have hd' : q.head[i] ∉ bvars [] q.body := by simpa using hd
        have ho : occurs q q.head[i] = false := by
          cases h : occurs q q.head[i] with
          | false => rfl
          | true => exact absurd (hm.2 (by simpa [occurs] using h)) hd'
        repeat' first|refine nx ?_|refine xb_miss (by decide) ?_|(apply W_reg;(simp [h4, h8, hb1, hn];exact .r _))
        simp [isQry, hsf, e, ho]
      · have hd' : q.head[i] ∈ bvars [] q.body := by simpa using hd
        have ho : occurs q q.head[i] = true := by
          simpa [occurs] using hm.1 hd'
        repeat' first|refine nx ?_|refine xb_miss (by decide) ?_|(apply W_reg;(simp [h4, h8, hb1, hn];exact .r _))
        refine ⟨_, ?_, i + 1, rfl, rfl, ?_, ?_, by omega, ?_, ?_, by (rw [hsf, e, ho]; simp)⟩
        all_goals first|assumption|(simp [h4, h8, hb1, hn, n1, n1'];done)|(simp [h4, h8, hb1, hn, n1, n1'];omega)|(simp [h4, h8, hb1, hn, n1, n1'];exact wrap_succ (by omega))|omega
  have hil : i = q.head.length := by simp at hc; omega
  subst hil
  rw [List.drop_length, List.all_nil] at hsf
  repeat' first|refine nx ?_|refine xb_miss (by decide) ?_|(apply W_reg;(simp [h4, h8, hb1, hn];exact .r _))
  have e2a : q.head.all isTerm = true := List.all_eq_true.2 e2'.1
  simp only [isQry, e1, e2a, e2'.2, e4, heq, hsf]; simp
theorem specIsQuery_r (c : Sch) (q : Qry) (hl : Sm c.arity) (hh : Sm q.head) (hb : Sm q.body) (ha : ∀ a ∈ q.body, Sm a.args) : Ret XX 58 [Ag c, Ag q] (.t (.b (isQry c q)) false) := by
  refine ret_W rfl Try.func58 rfl rfl (by simp [Try.f58]) ?_
  simp only [Try.f58]
  have c1 := cv (specIsQuery4_r c q hl hh hb ha)
  simp only [Ag, cells_Sch, cells_Q, List.map_cons, List.map_nil] at c1
  repeat' first|refine nx ?_|refine xb_miss (by decide) ?_|(apply W_reg;(simp [Ag, c1];exact .r _))
  simp
end Go.Proofs.Ytlehbgapjibeeaa.V

namespace Go.Proofs.Ytlehbgapjibeeaa.V
open Go Go.Proofs
set_option linter.unusedVariables false
set_option linter.unusedSimpArgs false
theorem W_gen {P : Program} {M : Nat → Bool} {G : Giv} {c : Code} {nt : Nat} {tm : Nat → AV} {σ : Sto} {N : VS → Prop} {X : Nat → VS → Prop} {K : VS → Prop} (Q : Sto → Prop) (h : Q σ) (hw : ∀ σ2, Q σ2 → W P M G c ⟨nt, tm, σ2⟩ N X K) : W P M G c ⟨nt, tm, σ⟩ N X K := hw σ h
theorem clean1_mono {n m : Nat} (h : n ≤ m) : ∀ {a : AV}, clean1 n a = true → clean1 m a = true := by
  intro a ha
  cases a with
  | ref o v p => simp only [clean1, decide_eq_true_eq] at ha ⊢; omega
  | ptr o v => simp only [clean1, decide_eq_true_eq] at ha ⊢; omega
  | eptr o v p i j => simp only [clean1, decide_eq_true_eq] at ha ⊢; omega
  | clo f c => cases ha
  | agg c => cases ha
  | tup c => cases ha
  | _ => rfl
theorem cleanA_mono {n m : Nat} (h : n ≤ m) {a : AV} (ha : cleanA n a = true) : cleanA m a = true := by
  cases a with
  | clo f l => simp only [cleanA, List.all_eq_true] at ha ⊢; exact fun x hx => clean1_mono h (ha x hx)
  | agg l => simp only [cleanA, List.all_eq_true] at ha ⊢; exact fun x hx => clean1_mono h (ha x hx)
  | tup l => cases ha
  | t x => rfl
  | ref o v p => exact clean1_mono h (a := .ref o v p) ha
  | ptr o v => exact clean1_mono h (a := .ptr o v) ha
  | eptr o v p i j => exact clean1_mono h (a := .eptr o v p i j) ha
  | _ => rfl
theorem clean_mono {n m : Nat} (h : n ≤ m) {x : VO} (hx : x.clean n = true) : x.clean m = true := by
  cases x with
  | box cs => simp only [VO.clean, List.all_eq_true] at hx ⊢; exact fun a ha => cleanA_mono h (hx a ha)
  | _ => rfl
/-- The store: a box p that names rows in o; ks: what else is there and stays. -/
structure Ok (p o : Nat) (ks : List (Nat × VO)) (σ : Sto) (acc : List Row) : Prop where
  hp : σ.ob p = .box [.ref o acc.length []]
  ho : σ.ob o = .arr (.own 0) 0 1 (rowsE acc)
  pn : p < σ.n
  on : o < σ.n
  po : p ≠ o
  ks : ∀ q ∈ ks, σ.ob q.1 = q.2 ∧ q.1 ≠ p ∧ q.1 ≠ o ∧ q.1 < σ.n
  cl : ∀ x, x < σ.n → (σ.ob x).clean σ.n = true
  dd : ∀ x, σ.n ≤ x → σ.ob x = .dead
def St (p o : Nat) (σ : Sto) (acc : List Row) : Sto := ⟨σ.n, upd (upd σ.ob p (.box [.ref o acc.length []])) o (.arr (.own 0) 0 1 (rowsE acc))⟩
variable {p o : Nat} {ks : List (Nat × VO)} {σ σ2 : Sto} {acc acc2 : List Row}
theorem St_ob {x : Nat} : (St p o σ acc).ob x = if x = o then .arr (.own 0) 0 1 (rowsE acc) else if x = p then .box [.ref o acc.length []] else σ.ob x := rfl
theorem Ok.st (h : Ok p o ks σ acc) (acc2 : List Row) : Ok p o ks (St p o σ acc2) acc2 := by
  refine ⟨?_, ?_, h.pn, h.on, h.po, fun q hq => ?_, fun x hx => ?_, fun x hx => ?_⟩
  · rw [St_ob, if_neg h.po, if_pos rfl]
  · rw [St_ob, if_pos rfl]
  · obtain ⟨h1, h2, h3, h4⟩ := h.ks q hq
    exact ⟨by rw [St_ob, if_neg h3, if_neg h2]; exact h1, h2, h3, h4⟩
  · rw [St_ob]
    split
    · rfl
    · split
      · have := h.on
        simp [VO.clean, cleanA, clean1, St, this]
      · exact h.cl x hx
  · have hx : σ.n ≤ x := hx
    have h1 := h.on
    have h2 := h.pn
    rw [St_ob, if_neg (by omega), if_neg (by omega)]; exact h.dd x hx
theorem Ok.grow (h : Ok p o ks σ acc) (hn : σ.n ≤ σ2.n) (h1 : ∀ x, x < σ.n → σ2.ob x = σ.ob x) (h2 : ∀ x, σ.n ≤ x → x < σ2.n → (σ2.ob x).clean σ2.n = true) (h3 : ∀ x, σ2.n ≤ x → σ2.ob x = .dead) : Ok p o ks σ2 acc := by
  refine ⟨by rw [h1 p h.pn]; exact h.hp, by rw [h1 o h.on]; exact h.ho, Nat.lt_of_lt_of_le h.pn hn, Nat.lt_of_lt_of_le h.on hn, h.po, fun q hq => ?_, fun x hx => ?_, h3⟩
  · obtain ⟨g1, g2, g3, g4⟩ := h.ks q hq
    exact ⟨by rw [h1 _ g4]; exact g1, g2, g3, Nat.lt_of_lt_of_le g4 hn⟩
  · rcases Nat.lt_or_ge x σ.n with g | g
    · rw [h1 x g]; exact clean_mono hn (h.cl x g)
    · exact h2 x g hx
section
end
end Go.Proofs.Ytlehbgapjibeeaa.V

namespace Go.Proofs.Ytlehbgapjibeeaa.V
open Go Go.Proofs
set_option linter.unusedVariables false
set_option linter.unusedSimpArgs false
theorem Ok.put {p o w : Nat} {ks : List (Nat × VO)} {σ : Sto} {acc : List Row} {y : VO} (h : Ok p o ks σ acc) (h1 : w ≠ p) (h2 : w ≠ o) (h3 : ∀ q ∈ ks, q.1 ≠ w) (h4 : y.clean σ.n = true) (h5 : w < σ.n) : Ok p o ks ⟨σ.n, upd σ.ob w y⟩ acc := by
  refine ⟨?_, ?_, h.pn, h.on, h.po, fun q hq => ?_, fun x hx => ?_, fun x hx => ?_⟩
  · simp only [upd_app]; rw [if_neg (fun e => h1 e.symm)]; exact h.hp
  · simp only [upd_app]; rw [if_neg (fun e => h2 e.symm)]; exact h.ho
  · obtain ⟨g1, g2, g3, g4⟩ := h.ks q hq
    exact ⟨by simp only [upd_app]; rw [if_neg (h3 q hq)]; exact g1, g2, g3, g4⟩
  · simp only [upd_app]
    split
    · exact h4
    · exact h.cl x hx
  · have hx : σ.n ≤ x := hx
    simp only [upd_app]; rw [if_neg (by omega)]; exact h.dd x hx
end Go.Proofs.Ytlehbgapjibeeaa.V

namespace Go.Proofs.Ytlehbgapjibeeaa.V
open Go Go.Proofs
set_option linter.unusedVariables false
set_option linter.unusedSimpArgs false
/-- What l6Sort keeps: sorted; each row once, or each as often as it comes. -/
def SortI (once : Bool) (acc m : List Row) : Prop := if once = true then Asc acc ∧ ∀ x, x ∈ acc ↔ x ∈ m else Ord acc ∧ acc.Perm m
theorem SortI.eq {once : Bool} {acc m : List Row} (h : SortI once acc m) : acc = if once = true then srtU m else srt cmpI m := by
  unfold SortI at h
  split at h
  · rename_i e; rw [if_pos e]; exact srtU_of h.1 h.2
  · rename_i e; rw [if_neg e]; exact srt_of h.1 h.2
theorem uniq_len : ∀ l : List Row, (uniq l).length ≤ l.length
  | [] => by simp [uniq]
  | [a] => by simp [uniq]
  | a :: b :: l => by
    have h := uniq_len (b :: l)
    unfold uniq
    split
    · simp only [List.length_cons] at h ⊢; omega
    · simp only [List.length_cons] at h ⊢; omega
theorem SortI.len {once : Bool} {acc m : List Row} (h : SortI once acc m) : acc.length ≤ m.length := by
  rw [h.eq]
  split
  · exact Nat.le_trans (uniq_len _) (by rw [srt_perm.length_eq]; exact Nat.le_refl _)
  · rw [srt_perm.length_eq]; exact Nat.le_refl _
theorem SortI.mem {once : Bool} {acc m : List Row} (h : SortI once acc m) {x : Row} (hx : x ∈ acc) : x ∈ m := by
  unfold SortI at h
  split at h
  · exact (h.2 x).1 hx
  · exact h.2.mem_iff.1 hx
end Go.Proofs.Ytlehbgapjibeeaa.V

namespace Go.Proofs.Ytlehbgapjibeeaa.V
open Go Go.Proofs
set_option linter.unusedVariables false
set_option linter.unusedSimpArgs false
/-- Nothing points beyond the store's end, and nothing lies there. -/
structure Cl (σ : Sto) : Prop where
  cl : ∀ x, x < σ.n → (σ.ob x).clean σ.n = true
  dd : ∀ x, σ.n ≤ x → σ.ob x = .dead
theorem Cl.e : Cl Sto.e := ⟨fun x hx => absurd hx (Nat.not_lt_zero _), fun x _ => rfl⟩
theorem Cl.new {n : Nat} {ob : Nat → VO} {X : VO} (h : Cl ⟨n, ob⟩) (hx : X.clean (n + 1) = true) : Cl ⟨n + 1, upd ob n X⟩ := by
  refine ⟨fun x hxn => ?_, fun x hxn => ?_⟩
  · simp only [upd_app]
    split
    · exact hx
    · have hxn' : x < n + 1 := hxn
      exact clean_mono (Nat.le_succ n) (h.cl x (by show x < n; omega))
  · have hxn' : n + 1 ≤ x := hxn
    simp only [upd_app]
    rw [if_neg (by omega)]
    exact h.dd x (by show n ≤ x; omega)
theorem Cl.set {n o : Nat} {ob : Nat → VO} {X : VO} (h : Cl ⟨n, ob⟩) (ho : o < n) (hx : X.clean n = true) : Cl ⟨n, upd ob o X⟩ := by
  refine ⟨fun x hxn => ?_, fun x hxn => ?_⟩
  · simp only [upd_app]
    split
    · exact hx
    · exact h.cl x hxn
  · have hxn' : n ≤ x := hxn
    simp only [upd_app]
    rw [if_neg (by omega)]
    exact h.dd x hxn
theorem Cl.e3 {n : Nat} {ob : Nat → VO} (h : Cl ⟨n, ob⟩) {X Y Z : VO} (h1 : X.clean (n + 1) = true) (h2 : Y.clean (n + 2) = true) (h3 : Z.clean (n + 3) = true) : Cl ⟨n + 3, upd (upd (upd ob n X) (n + 1) Y) (n + 2) Z⟩ := Cl.new (n := n + 2) (Cl.new (n := n + 1) (Cl.new h h1) h2) h3
end Go.Proofs.Ytlehbgapjibeeaa.V

namespace Go.Proofs.Ytlehbgapjibeeaa.V
open Go Go.Proofs
set_option linter.unusedVariables false
/-- Terms sent to terms, one after another; m: where each variable goes, -1000 where nowhere yet. -/
def mGet (m : List Int) (t : Int) : Int := (m[t.toNat]?).getD 0
/-- A mapping applied to a term. -/
def appM (m : List Int) (t : Int) : Int := if 0 ≤ t ∧ t < m.length ∧ mGet m t ≠ -1000 then mGet m t else t
def mapA (f : Int → Int) (a : RA) : RA := ⟨a.rel, a.args.map f⟩
def chg (f : Int → Int) (q : Qry) : Qry := ⟨q.head.map f, q.body.map (mapA f)⟩
def isMap (q to : Qry) (m : List Int) : Bool := decide (m.length = 20) && ((chg (appM m) q).body.all fun a => decide (a ∈ to.body)) && decide ((chg (appM m) q).head = to.head)
/-- The variables of a query, ascending. -/
def iota (n : Nat) : List Int := (List.range n).map Int.ofNat
def varsQ (q : Qry) : List Int := (iota 20).filter fun v => occurs q v || decide (v ∈ q.head)
/-- Names that are not in use. -/
def lst (us : List Int) : Nat := ((List.range (us.length + 1)).find? fun (v : Nat) => !decide ((v : Int) ∈ us)).getD 0
def frF (s : List (Int × Int) × List Int) (x : Int) : List (Int × Int) × List Int := (s.1 ++ [(x, (lst s.2 : Int))], s.2 ++ [(lst s.2 : Int)])
def fr (l us : List Int) : List (Int × Int) × List Int := l.foldl frF ([], us)
def frOk (ps : List (Int × Int)) : Bool := ps.all fun p => decide (p.2 < 20)
def asn (ps : List (Int × Int)) (t : Int) : Int := ((ps.find? fun p => decide (p.1 = t)).map (·.2)).getD t
/-- The views' bodies under fresh names; the arguments; the views' heads. -/
def unfS (views : List Qry) : List RA → List Int → Option (List RA × List Int × List Int)
  | [], _ => some ([], [], [])
  | a :: as_, us => match views[a.rel.toNat]? with
    | none => none
    | some v => if frOk (fr (varsQ v) us).1 then (unfS views as_ (fr (varsQ v) us).2).map fun s => (v.body.map (mapA (asn (fr (varsQ v) us).1)) ++ s.1, a.args ++ s.2.1, v.head.map (asn (fr (varsQ v) us).1) ++ s.2.2) else none
/-- What is put for what, so that two terms become equal. -/
def eqt (t u : Int) : Option (Int × Int) := if t = u then some (t, t) else if t < 0 then (if u < 0 then none else some (u, t)) else if u < 0 then some (t, u) else some (max t u, min t u)
def sb (p : Int × Int) (t : Int) : Int := if t = p.1 then p.2 else t
/-- Head, body, arguments and heads while the pairs from the i-th on are made equal. -/
structure Ust where
  h : List Int
  b : List RA
  l : List Int
  r : List Int
  deriving DecidableEq
def Ust.sub (p : Int × Int) (s : Ust) : Ust := ⟨s.h.map (sb p), s.b.map (mapA (sb p)), s.l.map (sb p), s.r.map (sb p)⟩
def eqS : List Nat → Ust → Option Ust
  | [], s => some s
  | i :: is, s => (eqt ((s.l[i]?).getD 0) ((s.r[i]?).getD 0)).bind fun p => eqS is (s.sub p)
/-- Each atom once, where it comes first. -/
def ddF (out : List RA) (a : RA) : List RA := if a ∈ out then out else out ++ [a]
def ddp (l : List RA) : List RA := l.foldl ddF []
def vSch (views : List Qry) : Sch := ⟨views.map fun v => (v.head.length : Int)⟩
def vOk (c : Sch) (v : Qry) : Bool := isQry c v && !decide (v.head.length = 0)
def allVs (c : Sch) (views : List Qry) : Bool := views.all (vOk c)
theorem allVs_cons {c : Sch} {v : Qry} {l : List Qry} : allVs c (v :: l) = (vOk c v && allVs c l) := rfl
theorem allVs_nil {c : Sch} : allVs c [] = true := rfl
def areVs (c : Sch) (views : List Qry) : Bool := allVs c views && isSch c && inR views.length 1 4
theorem areVs_mem {c : Sch} {vs : List Qry} (h : areVs c vs = true) : (∀ v ∈ vs, isQry c v = true ∧ v.head.length ≠ 0) ∧ isSch c = true ∧ 1 ≤ vs.length ∧ vs.length ≤ 4 := by
  simp only [areVs, allVs, vOk, Bool.and_eq_true, List.all_eq_true, inR, decide_eq_true_eq, Bool.not_eq_true', decide_eq_false_iff_not] at h
  exact ⟨fun v hv => ⟨(h.1.1 v hv).1, (h.1.1 v hv).2⟩, h.1.2, by omega, by omega⟩
def unfQ (views : List Qry) (q : Qry) : Option Qry := (unfS views q.body (varsQ q)).bind fun s => (eqS (List.range s.2.1.length) ⟨q.head, s.1, s.2.1, s.2.2⟩).map fun u => ⟨u.h, ddp u.b⟩
def unfold (c : Sch) (views : List Qry) (q : Qry) : Option Qry := if areVs c views && isQry (vSch views) q then unfQ views q else none
end Go.Proofs.Ytlehbgapjibeeaa.V

namespace Go.Proofs.Ytlehbgapjibeeaa.V
open Go Go.Proofs
set_option linter.unusedVariables false
set_option linter.unusedSimpArgs false
/-- Lengths of a query. -/
def SmQ (q : Qry) : Prop := Sm q.head ∧ Sm q.body ∧ ∀ a ∈ q.body, Sm a.args
theorem SmQ.of {N : Nat} (hN : N < 1099511627775) {q : Qry} (h : Lw.bd N q) : SmQ q := ⟨Nat.lt_of_le_of_lt h.1.1 hN, Nat.lt_of_le_of_lt h.2.1 hN, fun a ha => Nat.lt_of_le_of_lt (h.2.2 a ha).1 hN⟩
/-- A slice in a struct that grows from nil. -/
def gc (o n : Nat) : AV := if n = 0 then .t .nl else .ref o n []
@[simp] theorem gc_zero (o : Nat) : gc o 0 = .t .nl := rfl
@[simp] theorem gc_succ (o n : Nat) : gc o (n + 1) = .ref o (n + 1) [] := rfl
theorem gc_pos {o n : Nat} (h : n ≠ 0) : gc o n = .ref o n [] := by unfold gc; rw [if_neg h]
abbrev xvQ (q : Qry) : XV := .agg [.own 1 (rowsE q.head), .own 2 (rowsE q.body)]
theorem copyQuery_r (q : Qry) (h : SmQ q) : Ret XX 114 [Ag q] (xvQ q) := by
  refine ret_W rfl Try.func114 rfl rfl (by simp [Try.f114]) ?_
  simp only [Try.f114]
  have c1 := cv (copyInts_r q.head h.1)
  have c2 := cv (copyAtoms_r q.body h.2.1 h.2.2)
  repeat' first|refine nx ?_|refine xb_miss (by decide) ?_|(apply W_reg;(simp [Ag, c1, c2];exact .r _))|(apply W_draw (id := 1) [0,1,3,0,8,31,63,127] rfl rfl; (· simp; exact .r _); (· simp [Ag, c1, c2]; exact .r _); (· first|trivial|simp))
  simp
theorem implAreVs_r (c : Sch) (vs : List Qry) (sc : Sm c.arity) (hl : Sm vs) (h : ∀ q ∈ vs, SmQ q) : Ret XX 65 [Ag c, Ar vs] (.t (.b (areVs c vs)) false) := by
  refine ret_W rfl Try.func65 rfl rfl (by simp [Try.f65]) ?_
  simp only [Try.f65]
  repeat' first|refine nx ?_|refine xb_miss (by decide) ?_|(apply W_reg;(simp [Ag];exact .r _))
  refine W_loop (n := vs.length) (fun n s => ∃ i : Nat, n = vs.length - i ∧ s.nt = 31 ∧ s.tm 1 = Ar vs ∧ s.tm 2 = .ptr 0 0 ∧ s.tm 7 = Ar vs ∧ s.tm 8 = In vs.length ∧ s.tm 9 = In i ∧ i ≤ vs.length ∧ s.σ.ob 0 = .box [Ar c.arity] ∧ 1 ≤ s.σ.n ∧ allVs c vs = allVs c (vs.drop i)) ⟨0, by simp⟩ ?_
  rintro n ⟨nt, tm, σ⟩ ⟨i, rfl, hnt, h1, h2, h7, h8, h9, hi, hb0, hn, heq⟩
  simp only at hnt h1 h2 h7 h8 h9 hb0 hn
  subst hnt
  have ne1_ : ¬ (0 = σ.n) := by omega
  have ne2_ : ¬ (σ.n = 0) := by omega
  repeat' first|refine nx ?_|refine xb_miss (by decide) ?_|(apply W_reg;(simp [h1, h2, h7, h8, h9, hb0, hn, ne1_, ne2_];exact .r _))
  refine W_cond (by simp [h1, h2, h7, h8, h9, hb0, hn, ne1_, ne2_]; exact .r _) (fun hc => ?_) (fun hc => ?_)
  · have hil : i < vs.length := by simpa using hc
    have hq := h _ (List.getElem_mem hil)
    have c1 := cv (implIsQuery_r c vs[i] sc hq.1 hq.2.1 hq.2.2)
    simp only [Ag, cells_Sch, cells_Q, List.map_cons, List.map_nil] at c1
    rw [List.drop_eq_getElem_cons hil, allVs_cons, vOk] at heq
    cases e1 : isQry c vs[i]
    · repeat' first|refine nx ?_|refine xb_miss (by decide) ?_|(apply W_reg;(simp [h1, h2, h7, h8, h9, hb0, hn, ne1_, ne2_, hil, c1, e1];exact .r _))
      refine W_cond (by simp [h1, h2, h7, h8, h9, hb0, hn, ne1_, ne2_]; exact .r _) (fun hd => ?_) (fun hd => ?_)
      · repeat' first|refine nx ?_|refine xb_miss (by decide) ?_|(apply W_reg;(simp [h1, h2, h7, h8, h9, hb0, hn, ne1_, ne2_];exact .r _))
        simp [areVs, heq, e1]
      · cases hd
    · repeat' first|refine nx ?_|refine xb_miss (by decide) ?_|(apply W_reg;(simp [h1, h2, h7, h8, h9, hb0, hn, ne1_, ne2_, hil, c1, e1];exact .r _))
      refine W_cond (by simp [h1, h2, h7, h8, h9, hb0, hn, ne1_, ne2_]; exact .r _) (fun hd => ?_) (fun hd => ?_)
      · repeat' first|refine nx ?_|refine xb_miss (by decide) ?_|(apply W_reg;(simp [h1, h2, h7, h8, h9, hb0, hn, ne1_, ne2_];exact .r _))
        have hd' : vs[i].head.length = 0 := by simp at hd; simp [hd]
        simp [areVs, heq, hd']
      · have hd' : ¬ vs[i].head.length = 0 := by simp at hd; simp [hd]
        repeat' first|refine nx ?_|refine xb_miss (by decide) ?_|(apply W_reg;(simp [h1, h2, h7, h8, h9, hb0, hn, ne1_, ne2_];exact .r _))
        refine ⟨_, ?_, i + 1, rfl, rfl, ?_, ?_, ?_, ?_, ?_, by omega, ?_, ?_, (by rw [heq, e1, decide_eq_false hd']; rfl)⟩
        all_goals first|assumption|(simp [h1, h2, h7, h8, h9, hb0, hn, ne1_, ne2_];done)|(simp [h1, h2, h7, h8, h9, hb0, hn, ne1_, ne2_];omega)|(simp [h1, h2, h7, h8, h9, hb0, hn, ne1_, ne2_];exact wrap_succ (by omega))|omega
  · have hil : i = vs.length := by simp at hc; omega
    subst hil
    rw [List.drop_length, allVs_nil] at heq
    have c2 := cv (implIsSchema_r c sc)
    have c3 := cv (within_r vs.length 1 4)
    simp only [Ag, cells_Sch, List.map_cons, List.map_nil] at c2
    cases e : isSch c
    · repeat' first|refine nx ?_|refine xb_miss (by decide) ?_|(apply W_reg;(simp [h1, h2, h7, h8, h9, hb0, hn, ne1_, ne2_, c2, e];exact .r _))
      simp [areVs, e]
    · repeat' first|refine nx ?_|refine xb_miss (by decide) ?_|(apply W_reg;(simp [h1, h2, h7, h8, h9, hb0, hn, ne1_, ne2_, c2, e, c3];exact .r _))
      simp [areVs, e, heq]
theorem specAreVs_r (c : Sch) (vs : List Qry) (sc : Sm c.arity) (hl : Sm vs) (h : ∀ q ∈ vs, SmQ q) : Ret XX 57 [Ag c, Ar vs] (.t (.b (areVs c vs)) false) := by
  refine ret_W rfl Try.func57 rfl rfl (by simp [Try.f57]) ?_
  simp only [Try.f57]
  repeat' first|refine nx ?_|refine xb_miss (by decide) ?_|(apply W_reg;(simp [Ag];exact .r _))
  refine W_loop (n := vs.length) (fun n s => ∃ i : Nat, n = vs.length - i ∧ s.nt = 35 ∧ s.tm 1 = Ar vs ∧ s.tm 2 = .ptr 0 0 ∧ s.tm 5 = In i ∧ i ≤ vs.length ∧ s.σ.ob 0 = .box [Ar c.arity] ∧ 1 ≤ s.σ.n ∧ allVs c vs = allVs c (vs.drop i)) ⟨0, by simp⟩ ?_
  rintro n ⟨nt, tm, σ⟩ ⟨i, rfl, hnt, h1, h2, h5, hi, hb0, hn, heq⟩
  simp only at hnt h1 h2 h5 hb0 hn
  subst hnt
  have ne3_ : ¬ (0 = σ.n) := by omega
  have ne4_ : ¬ (σ.n = 0) := by omega
  repeat' first|refine nx ?_|refine xb_miss (by decide) ?_|(apply W_reg;(simp [h1, h2, h5, hb0, hn, ne3_, ne4_];exact .r _))
  refine W_cond (by simp [h1, h2, h5, hb0, hn, ne3_, ne4_]; exact .r _) (fun hc => ?_) (fun hc => ?_)
  · have hil : i < vs.length := by simpa using hc
    have hq := h _ (List.getElem_mem hil)
    have c1 := cv (specIsQuery_r c vs[i] sc hq.1 hq.2.1 hq.2.2)
    simp only [Ag, cells_Sch, cells_Q, List.map_cons, List.map_nil] at c1
    rw [List.drop_eq_getElem_cons hil, allVs_cons, vOk] at heq
    cases e1 : isQry c vs[i]
    · repeat' first|refine nx ?_|refine xb_miss (by decide) ?_|(apply W_reg;(simp [h1, h2, h5, hb0, hn, ne3_, ne4_, hil, c1, e1];exact .r _))|(apply W_draw (id := 4) [0,0,0,6,14,31,63,127,255,255,1023,2047,4095,8191,16383,32767] rfl rfl; (· simp; exact .r _); (· simp [h1, h2, h5, hb0, hn, ne3_, ne4_, hil, c1, e1]; exact .r _); (· first|trivial|simp))
      refine W_cond (by simp [h1, h2, h5, hb0, hn, ne3_, ne4_]; exact .r _) (fun hd => ?_) (fun hd => ?_)
      · repeat' first|refine nx ?_|refine xb_miss (by decide) ?_|(apply W_reg;(simp [h1, h2, h5, hb0, hn, ne3_, ne4_];exact .r _))
        simp [areVs, heq, e1]
      · cases hd
    · repeat' first|refine nx ?_|refine xb_miss (by decide) ?_|(apply W_reg;(simp [h1, h2, h5, hb0, hn, ne3_, ne4_, hil, c1, e1];exact .r _))|(apply W_draw (id := 4) [0,0,0,6,14,31,63,127,255,255,1023,2047,4095,8191,16383,32767] rfl rfl; (· simp; exact .r _); (· simp [h1, h2, h5, hb0, hn, ne3_, ne4_, hil, c1, e1]; exact .r _); (· first|trivial|simp))
      refine W_cond (by simp [h1, h2, h5, hb0, hn, ne3_, ne4_]; exact .r _) (fun hd => ?_) (fun hd => ?_)
      · repeat' first|refine nx ?_|refine xb_miss (by decide) ?_|(apply W_reg;(simp [h1, h2, h5, hb0, hn, ne3_, ne4_];exact .r _))
        have hd' : vs[i].head.length = 0 := by simp at hd; simp [hd]
        simp [areVs, heq, hd']
      · have hd' : ¬ vs[i].head.length = 0 := by simp at hd; simp [hd]
        repeat' first|refine nx ?_|refine xb_miss (by decide) ?_|(apply W_reg;(simp [h1, h2, h5, hb0, hn, ne3_, ne4_];exact .r _))
        refine ⟨_, ?_, i + 1, rfl, rfl, ?_, ?_, ?_, by omega, ?_, ?_, (by rw [heq, e1, decide_eq_false hd']; rfl)⟩
        all_goals first|assumption|(simp [h1, h2, h5, hb0, hn, ne3_, ne4_];done)|(simp [h1, h2, h5, hb0, hn, ne3_, ne4_];omega)|(simp [h1, h2, h5, hb0, hn, ne3_, ne4_];exact wrap_succ (by omega))|omega
  · have hil : i = vs.length := by simp at hc; omega
    subst hil
    rw [List.drop_length, allVs_nil] at heq
    have c2 := cv (specIsSchema_r c sc)
    have c3 := cv (l1In_r vs.length 1 4)
    simp only [Ag, cells_Sch, List.map_cons, List.map_nil] at c2
    cases e : isSch c
    · repeat' first|refine nx ?_|refine xb_miss (by decide) ?_|(apply W_reg;(simp [h1, h2, h5, hb0, hn, ne3_, ne4_, c2, e];exact .r _))
      simp [areVs, e]
    · repeat' first|refine nx ?_|refine xb_miss (by decide) ?_|(apply W_reg;(simp [h1, h2, h5, hb0, hn, ne3_, ne4_, c2, e, c3];exact .r _))
      simp [areVs, e, heq]
/-- A term renamed by a list. -/
def rnI (to : List Int) (t : Int) : Int := if 0 ≤ t ∧ t ≤ (to.length : Int) - 1 then (to[t.toNat]?).getD 0 else t
theorem l4Term_r (t : Int) (to : List Int) (h : Sm to) : Ret XX 157 [In t, Ar to] (.t (.i .i64 (rnI to t)) false) := by
  refine ret_W rfl Try.func157 rfl rfl (by simp [Try.f157]) ?_
  simp only [Try.f157]
  have c1 := cv (l1In_r t 0 ((to.length : Int) - 1))
  have wr5_ : IntKind.i64.wrap ((to.length : Int) - 1) = (to.length : Int) - 1 := wrap_ok (by omega) (by omega)
  repeat' first|refine nx ?_|refine xb_miss (by decide) ?_|(apply W_reg;(simp [wr5_, c1];exact .r _))
  refine W_cond (by simp [wr5_]; exact .r _) (fun hc => ?_) (fun hc => ?_)
  · have hc' : 0 ≤ t ∧ t ≤ (to.length : Int) - 1 := by simpa [inR] using hc
    have ht : t.toNat < to.length := by omega
    repeat' first|refine nx ?_|refine xb_miss (by decide) ?_|(apply W_reg;(simp [wr5_, hc'.1, ht];exact .r _))
    simp [rnI, hc', ht]
  · have hc' : ¬ (0 ≤ t ∧ t ≤ (to.length : Int) - 1) := by simpa [inR] using hc
    repeat' first|refine nx ?_|refine xb_miss (by decide) ?_|(apply W_reg;(simp [wr5_];exact .r _))
    simp only [rnI, if_neg hc']
    simp
theorem l4Terms_r (l to : List Int) (hl : Sm l) (h : Sm to) : Ret XX 148 [Ar l, Ar to] (.own 1 (rowsE (l.map (rnI to)))) := by
  refine ret_W rfl Try.func148 rfl rfl (by simp [Try.f148]) ?_
  simp only [Try.f148]
  repeat' first|refine nx ?_|refine xb_miss (by decide) ?_|(apply W_reg;(simp;exact .r _))
  refine W_loop (n := l.length) (fun n s => ∃ i : Nat, n = l.length - i ∧ s.nt = 26 ∧ s.tm 0 = Ar l ∧ s.tm 1 = Ar to ∧ s.tm 5 = .ref 0 i [] ∧ s.tm 6 = In i ∧ i ≤ l.length ∧ s.σ.ob 0 = .arr (.own 0) 0 1 (rowsE ((l.map (rnI to)).take i)) ∧ 1 ≤ s.σ.n) ⟨0, by simp⟩ ?_
  rintro n ⟨nt, tm, σ⟩ ⟨i, rfl, hnt, h0, h1, h5, h6, hi, ho, hn⟩
  simp only at hnt h0 h1 h5 h6 ho hn
  subst hnt
  have ne6_ : ¬ (0 = σ.n) := by omega
  have ne7_ : ¬ (σ.n = 0) := by omega
  have ne8_ : ¬ (0 = σ.n + 1) := by omega
  have ne9_ : ¬ (σ.n + 1 = 0) := by omega
  repeat' first|refine nx ?_|refine xb_miss (by decide) ?_|(apply W_reg;(simp [h0, h1, h5, h6, ho, hn, ne6_, ne7_, ne8_, ne9_];exact .r _))
  refine W_cond (by simp [h0, h1, h5, h6, ho, hn, ne6_, ne7_, ne8_, ne9_]; exact .r _) (fun hc => ?_) (fun hc => ?_)
  · have hil : i < l.length := by simpa using hc
    have c1 := cv (l4Term_r l[i] to h)
    repeat' first|refine nx ?_|refine xb_miss (by decide) ?_|(apply W_reg;(simp [h0, h1, h5, h6, ho, hn, ne6_, ne7_, ne8_, ne9_, hil, c1, show min i l.length = i by omega, show i + 1 < 1099511627776 by unfold Sm at hl; omega];exact .r _))
    refine ⟨_, ?_, i + 1, rfl, rfl, ?_, ?_, ?_, ?_, by omega, (by simp [h0, h1, h5, h6, ho, hn, ne6_, ne7_, ne8_, ne9_]; rw [rowsE_take (l.map (rnI to)) i (by simpa using hil)]; simp), ?_⟩
    all_goals first|assumption|(simp [h0, h1, h5, h6, ho, hn, ne6_, ne7_, ne8_, ne9_];done)|(simp [h0, h1, h5, h6, ho, hn, ne6_, ne7_, ne8_, ne9_];omega)|(simp [h0, h1, h5, h6, ho, hn, ne6_, ne7_, ne8_, ne9_];exact wrap_succ (by omega))|omega
  · have hil : i = l.length := by simp at hc; omega
    subst hil
    rw [List.take_of_length_le (by simp)] at ho
    repeat' first|refine nx ?_|refine xb_miss (by decide) ?_|(apply W_reg;(simp [h0, h1, h5, h6, ho, hn, ne6_, ne7_, ne8_, ne9_];exact .r _))
    simp [ho]
/-- A query whose body may be nil. -/
def xvQn (q : Qry) : XV := if q.body = [] then .agg [.own 1 (rowsE q.head), .t .nl false] else xvQ q
theorem xvQn_ne {q : Qry} (h : q.body ≠ []) : xvQn q = xvQ q := by unfold xvQn; rw [if_neg h]
set_option maxRecDepth 10000 in
set_option maxHeartbeats 2000000 in
theorem rename_r (q : Qry) (to : List Int) (h : SmQ q) (ht : Sm to) : Ret XX 131 [Ag q, Ar to] (xvQn (chg (rnI to) q)) := by
  refine ret_W rfl Try.func131 rfl rfl (by simp [Try.f131]) ?_
  simp only [Try.f131]
  have c1 := cv (l4Terms_r q.head to h.1 ht)
  have sb : q.body.length < 1099511627775 := h.2.1
  repeat' first|refine nx ?_|refine xb_miss (by decide) ?_|(apply W_reg;(simp [Ag, c1];exact .r _))
  refine W_loop (n := q.body.length) (fun n s => ∃ i : Nat, ∃ oT : Nat, ∃ st : Nat, n = q.body.length - i ∧ s.nt = 40 ∧ s.tm 1 = Ar to ∧ s.tm 2 = .ptr 0 0 ∧ s.tm 4 = .ptr 1 0 ∧ s.tm 5 = .ptr 3 0 ∧ s.tm 6 = In i ∧ i ≤ q.body.length ∧ s.σ.ob 0 = .box [Ar q.head, Ar q.body] ∧ s.σ.ob 1 = .box [.t .nl, .t .nl] ∧ s.σ.ob 2 = .arr (.own 0) 0 1 (rowsE (q.head.map (rnI to))) ∧ s.σ.ob 3 = .box [.ref 2 q.head.length [], gc oT i] ∧ 4 ≤ s.σ.n ∧ (i = 0 ∨ (s.σ.ob oT = .arr (.own 0) st 2 (rowsE ((q.body.map (mapA (rnI to))).take i)) ∧ 4 ≤ oT ∧ oT < s.σ.n))) ⟨0, 0, 0, by simp⟩ ?_
  rintro n ⟨nt, tm, σ⟩ ⟨i, oT, st, rfl, hnt, h1, h2, h4, h5, h6, hi, hb0, hb1, hb2, hb3, hn, hT⟩
  simp only at hnt h1 h2 h4 h5 h6 hb0 hb1 hb2 hb3 hn hT
  subst hnt
  have ne10_ : ¬ (0 = σ.n) := by omega
  have ne11_ : ¬ (σ.n = 0) := by omega
  have ne12_ : ¬ (0 = σ.n + 1) := by omega
  have ne13_ : ¬ (σ.n + 1 = 0) := by omega
  have ne14_ : ¬ (0 = σ.n + 2) := by omega
  have ne15_ : ¬ (σ.n + 2 = 0) := by omega
  have ne16_ : ¬ (0 = σ.n + 3) := by omega
  have ne17_ : ¬ (σ.n + 3 = 0) := by omega
  have ne18_ : ¬ (1 = σ.n) := by omega
  have ne19_ : ¬ (σ.n = 1) := by omega
  have ne20_ : ¬ (1 = σ.n + 1) := by omega
  have ne21_ : ¬ (σ.n + 1 = 1) := by omega
  have ne22_ : ¬ (1 = σ.n + 2) := by omega
  have ne23_ : ¬ (σ.n + 2 = 1) := by omega
  have ne24_ : ¬ (1 = σ.n + 3) := by omega
  have ne25_ : ¬ (σ.n + 3 = 1) := by omega
  have ne26_ : ¬ (2 = σ.n) := by omega
  have ne27_ : ¬ (σ.n = 2) := by omega
  have ne28_ : ¬ (2 = σ.n + 1) := by omega
  have ne29_ : ¬ (σ.n + 1 = 2) := by omega
  have ne30_ : ¬ (2 = σ.n + 2) := by omega
  have ne31_ : ¬ (σ.n + 2 = 2) := by omega
  have ne32_ : ¬ (2 = σ.n + 3) := by omega
  have ne33_ : ¬ (σ.n + 3 = 2) := by omega
  have ne34_ : ¬ (3 = σ.n) := by omega
  have ne35_ : ¬ (σ.n = 3) := by omega
  have ne36_ : ¬ (3 = σ.n + 1) := by omega
  have ne37_ : ¬ (σ.n + 1 = 3) := by omega
  have ne38_ : ¬ (3 = σ.n + 2) := by omega
  have ne39_ : ¬ (σ.n + 2 = 3) := by omega
  have ne40_ : ¬ (3 = σ.n + 3) := by omega
  have ne41_ : ¬ (σ.n + 3 = 3) := by omega
  have hml : (q.body.map (mapA (rnI to))).length = q.body.length := by simp
  repeat' first|refine nx ?_|refine xb_miss (by decide) ?_|(apply W_reg;(simp [h1, h2, h4, h5, h6, hb0, hb1, hb2, hb3, hn, hT, ne10_, ne11_, ne12_, ne13_, ne14_, ne15_, ne16_, ne17_, ne18_, ne19_, ne20_, ne21_, ne22_, ne23_, ne24_, ne25_, ne26_, ne27_, ne28_, ne29_, ne30_, ne31_, ne32_, ne33_, ne34_, ne35_, ne36_, ne37_, ne38_, ne39_, ne40_, ne41_];exact .r _))
  refine W_cond (by simp [h1, h2, h4, h5, h6, hb0, hb1, hb2, hb3, hn, hT, ne10_, ne11_, ne12_, ne13_, ne14_, ne15_, ne16_, ne17_, ne18_, ne19_, ne20_, ne21_, ne22_, ne23_, ne24_, ne25_, ne26_, ne27_, ne28_, ne29_, ne30_, ne31_, ne32_, ne33_, ne34_, ne35_, ne36_, ne37_, ne38_, ne39_, ne40_, ne41_]; exact .r _) (fun hc => ?_) (fun hc => ?_)
  · have hil : i < q.body.length := by simpa using hc
    have hit : i < (q.body.map (mapA (rnI to))).length := by omega
    have hti : (q.body.map (mapA (rnI to)))[i] = ⟨q.body[i].rel, q.body[i].args.map (rnI to)⟩ := by simp [mapA]
    have c2 := cv (l4Terms_r q.body[i].args to (h.2.2 _ (List.getElem_mem hil)) ht)
    have hrl : (rowsE (q.body[i].args.map (rnI to))).length = q.body[i].args.length := by rw [rowsE_len, List.length_map]
    have hbt : i + 1 < 1099511627776 := by omega
    rcases Nat.eq_zero_or_pos i with h0 | h0
    · subst h0
      repeat' first|refine nx ?_|refine xb_miss (by decide) ?_|(apply W_reg;(simp [h1, h2, h4, h5, h6, hb0, hb1, hb2, hb3, hn, hT, ne10_, ne11_, ne12_, ne13_, ne14_, ne15_, ne16_, ne17_, ne18_, ne19_, ne20_, ne21_, ne22_, ne23_, ne24_, ne25_, ne26_, ne27_, ne28_, ne29_, ne30_, ne31_, ne32_, ne33_, ne34_, ne35_, ne36_, ne37_, ne38_, ne39_, ne40_, ne41_, hil, c2, hrl];exact .r _))|(apply W_draw (id := 5) [0,1,0,4,0,28,60,124,0,256,0,1792,3840,7936,0,32512,65532,131068,262143,524287,1048575] rfl rfl; (· simp; exact .r _); (· simp [h1, h2, h4, h5, h6, hb0, hb1, hb2, hb3, hn, hT, ne10_, ne11_, ne12_, ne13_, ne14_, ne15_, ne16_, ne17_, ne18_, ne19_, ne20_, ne21_, ne22_, ne23_, ne24_, ne25_, ne26_, ne27_, ne28_, ne29_, ne30_, ne31_, ne32_, ne33_, ne34_, ne35_, ne36_, ne37_, ne38_, ne39_, ne40_, ne41_, hil, c2, hrl]; exact .r _); (· first|trivial|simp))
      refine ⟨_, ?_, 0 + 1, σ.n + 2, 0, rfl, rfl, ?_, ?_, ?_, ?_, ?_, by omega, ?_, ?_, ?_, ?_, ?_, (.inr ⟨by (simp [h1, h2, h4, h5, h6, hb0, hb1, hb2, hb3, hn, hT, ne10_, ne11_, ne12_, ne13_, ne14_, ne15_, ne16_, ne17_, ne18_, ne19_, ne20_, ne21_, ne22_, ne23_, ne24_, ne25_, ne26_, ne27_, ne28_, ne29_, ne30_, ne31_, ne32_, ne33_, ne34_, ne35_, ne36_, ne37_, ne38_, ne39_, ne40_, ne41_]; rw [rowsE_take _ _ hit, hti]; simp [rowsE]), by omega, by (simp)⟩)⟩
      all_goals first|assumption|(simp [h1, h2, h4, h5, h6, hb0, hb1, hb2, hb3, hn, hT, ne10_, ne11_, ne12_, ne13_, ne14_, ne15_, ne16_, ne17_, ne18_, ne19_, ne20_, ne21_, ne22_, ne23_, ne24_, ne25_, ne26_, ne27_, ne28_, ne29_, ne30_, ne31_, ne32_, ne33_, ne34_, ne35_, ne36_, ne37_, ne38_, ne39_, ne40_, ne41_];done)|(simp [h1, h2, h4, h5, h6, hb0, hb1, hb2, hb3, hn, hT, ne10_, ne11_, ne12_, ne13_, ne14_, ne15_, ne16_, ne17_, ne18_, ne19_, ne20_, ne21_, ne22_, ne23_, ne24_, ne25_, ne26_, ne27_, ne28_, ne29_, ne30_, ne31_, ne32_, ne33_, ne34_, ne35_, ne36_, ne37_, ne38_, ne39_, ne40_, ne41_];omega)|(simp [h1, h2, h4, h5, h6, hb0, hb1, hb2, hb3, hn, hT, ne10_, ne11_, ne12_, ne13_, ne14_, ne15_, ne16_, ne17_, ne18_, ne19_, ne20_, ne21_, ne22_, ne23_, ne24_, ne25_, ne26_, ne27_, ne28_, ne29_, ne30_, ne31_, ne32_, ne33_, ne34_, ne35_, ne36_, ne37_, ne38_, ne39_, ne40_, ne41_];exact wrap_succ (by omega))|omega
    · obtain ⟨hT1, hT2, hT3⟩ := hT.resolve_left (by omega)
      have hgc := gc_pos (o := oT) (show i ≠ 0 by omega)
      have ne42_ : ¬ (oT = 0) := by omega
      have ne43_ : ¬ (0 = oT) := by omega
      have ne44_ : ¬ (oT = 1) := by omega
      have ne45_ : ¬ (1 = oT) := by omega
      have ne46_ : ¬ (oT = 2) := by omega
      have ne47_ : ¬ (2 = oT) := by omega
      have ne48_ : ¬ (oT = 3) := by omega
      have ne49_ : ¬ (3 = oT) := by omega
      have ne50_ : ¬ (oT = σ.n) := by omega
      have ne51_ : ¬ (σ.n = oT) := by omega
      have ne52_ : ¬ (oT = σ.n + 1) := by omega
      have ne53_ : ¬ (σ.n + 1 = oT) := by omega
      have ne54_ : ¬ (oT = σ.n + 2) := by omega
      have ne55_ : ¬ (σ.n + 2 = oT) := by omega
      have ne56_ : ¬ (oT = σ.n + 3) := by omega
      have ne57_ : ¬ (σ.n + 3 = oT) := by omega
      repeat' first|refine nx ?_|refine xb_miss (by decide) ?_|(apply W_reg;(simp [h1, h2, h4, h5, h6, hb0, hb1, hb2, hb3, hn, hT, ne10_, ne11_, ne12_, ne13_, ne14_, ne15_, ne16_, ne17_, ne18_, ne19_, ne20_, ne21_, ne22_, ne23_, ne24_, ne25_, ne26_, ne27_, ne28_, ne29_, ne30_, ne31_, ne32_, ne33_, ne34_, ne35_, ne36_, ne37_, ne38_, ne39_, ne40_, ne41_, ne42_, ne43_, ne44_, ne45_, ne46_, ne47_, ne48_, ne49_, ne50_, ne51_, ne52_, ne53_, ne54_, ne55_, ne56_, ne57_, hil, c2, hrl, hT1, hgc, hbt, show min i q.body.length = i by omega];exact .r _))|(apply W_draw (id := 5) [0,1,0,4,0,28,60,124,0,256,0,1792,3840,7936,0,32512,65532,131068,262143,524287,1048575] rfl rfl; (· simp; exact .r _); (· simp [h1, h2, h4, h5, h6, hb0, hb1, hb2, hb3, hn, hT, ne10_, ne11_, ne12_, ne13_, ne14_, ne15_, ne16_, ne17_, ne18_, ne19_, ne20_, ne21_, ne22_, ne23_, ne24_, ne25_, ne26_, ne27_, ne28_, ne29_, ne30_, ne31_, ne32_, ne33_, ne34_, ne35_, ne36_, ne37_, ne38_, ne39_, ne40_, ne41_, ne42_, ne43_, ne44_, ne45_, ne46_, ne47_, ne48_, ne49_, ne50_, ne51_, ne52_, ne53_, ne54_, ne55_, ne56_, ne57_, hil, c2, hrl, hT1, hgc, hbt, show min i q.body.length = i by omega]; exact .r _); (· first|trivial|simp))
      refine ⟨_, ?_, i + 1, oT, st, rfl, rfl, ?_, ?_, ?_, ?_, ?_, by omega, ?_, ?_, ?_, ?_, ?_, (.inr ⟨by (simp [h1, h2, h4, h5, h6, hb0, hb1, hb2, hb3, hn, hT, ne10_, ne11_, ne12_, ne13_, ne14_, ne15_, ne16_, ne17_, ne18_, ne19_, ne20_, ne21_, ne22_, ne23_, ne24_, ne25_, ne26_, ne27_, ne28_, ne29_, ne30_, ne31_, ne32_, ne33_, ne34_, ne35_, ne36_, ne37_, ne38_, ne39_, ne40_, ne41_, ne42_, ne43_, ne44_, ne45_, ne46_, ne47_, ne48_, ne49_, ne50_, ne51_, ne52_, ne53_, ne54_, ne55_, ne56_, ne57_]; rw [rowsE_take _ _ hit, hti]; simp [rowsE]), hT2, by (simp; omega)⟩)⟩
      all_goals first|assumption|(simp [h1, h2, h4, h5, h6, hb0, hb1, hb2, hb3, hn, hT, ne10_, ne11_, ne12_, ne13_, ne14_, ne15_, ne16_, ne17_, ne18_, ne19_, ne20_, ne21_, ne22_, ne23_, ne24_, ne25_, ne26_, ne27_, ne28_, ne29_, ne30_, ne31_, ne32_, ne33_, ne34_, ne35_, ne36_, ne37_, ne38_, ne39_, ne40_, ne41_, ne42_, ne43_, ne44_, ne45_, ne46_, ne47_, ne48_, ne49_, ne50_, ne51_, ne52_, ne53_, ne54_, ne55_, ne56_, ne57_];done)|(simp [h1, h2, h4, h5, h6, hb0, hb1, hb2, hb3, hn, hT, ne10_, ne11_, ne12_, ne13_, ne14_, ne15_, ne16_, ne17_, ne18_, ne19_, ne20_, ne21_, ne22_, ne23_, ne24_, ne25_, ne26_, ne27_, ne28_, ne29_, ne30_, ne31_, ne32_, ne33_, ne34_, ne35_, ne36_, ne37_, ne38_, ne39_, ne40_, ne41_, ne42_, ne43_, ne44_, ne45_, ne46_, ne47_, ne48_, ne49_, ne50_, ne51_, ne52_, ne53_, ne54_, ne55_, ne56_, ne57_];omega)|(simp [h1, h2, h4, h5, h6, hb0, hb1, hb2, hb3, hn, hT, ne10_, ne11_, ne12_, ne13_, ne14_, ne15_, ne16_, ne17_, ne18_, ne19_, ne20_, ne21_, ne22_, ne23_, ne24_, ne25_, ne26_, ne27_, ne28_, ne29_, ne30_, ne31_, ne32_, ne33_, ne34_, ne35_, ne36_, ne37_, ne38_, ne39_, ne40_, ne41_, ne42_, ne43_, ne44_, ne45_, ne46_, ne47_, ne48_, ne49_, ne50_, ne51_, ne52_, ne53_, ne54_, ne55_, ne56_, ne57_];exact wrap_succ (by omega))|omega
  · have hil : i = q.body.length := by simp at hc; omega
    subst hil
    rcases Nat.eq_zero_or_pos q.body.length with h0 | h0
    · have hb : q.body = [] := List.eq_nil_of_length_eq_zero h0
      rw [h0] at hb3
      repeat' first|refine nx ?_|refine xb_miss (by decide) ?_|(apply W_reg;(simp [h1, h2, h4, h5, h6, hb0, hb1, hb2, hb3, hn, hT, ne10_, ne11_, ne12_, ne13_, ne14_, ne15_, ne16_, ne17_, ne18_, ne19_, ne20_, ne21_, ne22_, ne23_, ne24_, ne25_, ne26_, ne27_, ne28_, ne29_, ne30_, ne31_, ne32_, ne33_, ne34_, ne35_, ne36_, ne37_, ne38_, ne39_, ne40_, ne41_];exact .r _))
      simp [xvQn, chg, hb, h4, hb2]
    · obtain ⟨hT1, hT2, hT3⟩ := hT.resolve_left (by omega)
      have hgc := gc_pos (o := oT) (show q.body.length ≠ 0 by omega)
      have hne : q.body ≠ [] := fun e => by rw [e] at h0; simp at h0
      rw [← hml, List.take_length] at hT1
      have ne58_ : ¬ (oT = 0) := by omega
      have ne59_ : ¬ (0 = oT) := by omega
      have ne60_ : ¬ (oT = 1) := by omega
      have ne61_ : ¬ (1 = oT) := by omega
      have ne62_ : ¬ (oT = 2) := by omega
      have ne63_ : ¬ (2 = oT) := by omega
      have ne64_ : ¬ (oT = 3) := by omega
      have ne65_ : ¬ (3 = oT) := by omega
      repeat' first|refine nx ?_|refine xb_miss (by decide) ?_|(apply W_reg;(simp [h1, h2, h4, h5, h6, hb0, hb1, hb2, hb3, hn, hT, ne10_, ne11_, ne12_, ne13_, ne14_, ne15_, ne16_, ne17_, ne18_, ne19_, ne20_, ne21_, ne22_, ne23_, ne24_, ne25_, ne26_, ne27_, ne28_, ne29_, ne30_, ne31_, ne32_, ne33_, ne34_, ne35_, ne36_, ne37_, ne38_, ne39_, ne40_, ne41_, ne58_, ne59_, ne60_, ne61_, ne62_, ne63_, ne64_, ne65_, hgc];exact .r _))
      simp [xvQn, chg, hne, h4, hb2, hT1, hgc, h1, h2, h4, h5, h6, hb0, hb1, hb2, hb3, hn, hT, ne10_, ne11_, ne12_, ne13_, ne14_, ne15_, ne16_, ne17_, ne18_, ne19_, ne20_, ne21_, ne22_, ne23_, ne24_, ne25_, ne26_, ne27_, ne28_, ne29_, ne30_, ne31_, ne32_, ne33_, ne34_, ne35_, ne36_, ne37_, ne38_, ne39_, ne40_, ne41_, ne58_, ne59_, ne60_, ne61_, ne62_, ne63_, ne64_, ne65_]
end Go.Proofs.Ytlehbgapjibeeaa.V

namespace Go.Proofs.Ytlehbgapjibeeaa.V
open Go Go.Proofs
set_option linter.unusedVariables false
set_option linter.unusedSimpArgs false
def vals (r : Row) : Bool := r.all fun x => inR x 0 99
/-- Lengths of a cache. -/
def SmC (x : Cch) : Prop := Sm x.views ∧ (∀ q ∈ x.views, SmQ q) ∧ Sm x.tables ∧ ∀ t ∈ x.tables, Sm t ∧ ∀ r ∈ t, Sm r
theorem SmC.of {N : Nat} (hN : N < 1099511627775) {x : Cch} (h : Lw.bd N x) : SmC x := ⟨Nat.lt_of_le_of_lt h.1.1 hN, fun q hq => SmQ.of hN (h.1.2 q hq), Nat.lt_of_le_of_lt h.2.1 hN, fun t ht => ⟨Nat.lt_of_le_of_lt (h.2.2 t ht).1 hN, fun r hr => Nat.lt_of_le_of_lt ((h.2.2 t ht).2 r hr).1 hN⟩⟩
end Go.Proofs.Ytlehbgapjibeeaa.V

namespace Go.Proofs.Ytlehbgapjibeeaa.V
open Go Go.Proofs
set_option linter.unusedVariables false
set_option linter.unusedSimpArgs false
theorem eqAtoms_d (a b : RA) (ha : Sm a.args) : Ret XX 81 [Ag a, Ag b] (.t (.b (decide (a = b))) false) := by
  have h := eqAtoms_r a b ha
  rwa [show decide (a.rel = b.rel ∧ a.args = b.args) = decide (a = b) from decide_eq_decide.2 ⟨fun h => by cases a; cases b; simp only at h; rw [h.1, h.2], fun h => by rw [h]; exact ⟨rfl, rfl⟩⟩] at h
theorem specEqA_r (a b : RA) (ha : Sm a.args) : Ret XX 63 [Ag a, Ag b] (.t (.b (decide (a = b))) false) := by
  refine ret_W rfl Try.func63 rfl rfl (by simp [Try.f63]) ?_
  simp only [Try.f63]
  have c1 := cv (l2Ints_r a.args b.args ha)
  by_cases h : a.rel = b.rel
  · repeat' first|refine nx ?_|refine xb_miss (by decide) ?_|(apply W_reg;(simp [Ag, c1, h];exact .r _))
    have : a = b ↔ a.args = b.args := ⟨fun e => by rw [e], fun e => by cases a; cases b; simp only at h e; rw [h, e]⟩
    simp [this]
  · repeat' first|refine nx ?_|refine xb_miss (by decide) ?_|(apply W_reg;(simp [Ag, h];exact .r _))
    have : a ≠ b := fun e => h (by rw [e])
    simp [this]
end Go.Proofs.Ytlehbgapjibeeaa.V

namespace Go.Proofs.Ytlehbgapjibeeaa.V
open Go Go.Proofs
set_option linter.unusedVariables false
set_option linter.unusedSimpArgs false
theorem iota_succ (i : Nat) : iota (i + 1) = iota i ++ [(i : Int)] := by unfold iota; rw [List.range_succ, List.map_append]; rfl
def varL (q : Qry) (i : Nat) : List Int := (iota i).filter fun v => occurs q v || decide (v ∈ q.head)
theorem varL_succ (q : Qry) (i : Nat) : varL q (i + 1) = varL q i ++ (if occurs q i || decide ((i : Int) ∈ q.head) then [(i : Int)] else []) := by
  unfold varL
  rw [iota_succ, List.filter_append]
  congr 1
  by_cases e : (occurs q i || decide ((i : Int) ∈ q.head)) = true
  · rw [if_pos e, List.filter_cons_of_pos (p := fun v => occurs q v || decide (v ∈ q.head)) e, List.filter_nil]
  · rw [if_neg e, List.filter_cons_of_neg (p := fun v => occurs q v || decide (v ∈ q.head)) e, List.filter_nil]
theorem varL_len (q : Qry) (i : Nat) : (varL q i).length ≤ i := by
  have := List.length_filter_le (fun v => occurs q v || decide (v ∈ q.head)) (iota i)
  unfold iota at this; rw [List.length_map, List.length_range] at this; exact this
theorem implVars_r (q : Qry) (h : SmQ q) : Ret XX 67 [Ag q] (.own 1 (rowsE (varsQ q))) := by
  refine ret_W rfl Try.func67 rfl rfl (by simp [Try.f67]) ?_
  simp only [Try.f67]
  repeat' first|refine nx ?_|refine xb_miss (by decide) ?_|(apply W_reg;(simp [Ag];exact .r _))
  refine W_loop (n := 20) (fun n s => ∃ i : Nat, ∃ R : List Int, n = 20 - i ∧ s.nt = 24 ∧ s.tm 1 = .ptr 0 0 ∧ s.tm 3 = .ref 1 R.length [] ∧ s.tm 6 = In i ∧ i ≤ 20 ∧ s.σ.ob 0 = .box [Ar q.head, Ar q.body] ∧ s.σ.ob 1 = .arr (.own 0) 0 1 (rowsE R) ∧ 2 ≤ s.σ.n ∧ R = varL q i) ⟨0, [], by simp [show varL q 0 = [] from rfl]⟩ ?_
  rintro n ⟨nt, tm, σ⟩ ⟨i, R, rfl, hnt, h1, h3, h6, hi, hb0, ho, hn, hR⟩
  simp only at hnt h1 h3 h6 hb0 ho hn
  subst hnt
  have ap1_ := apart hn
  have hRl : R.length ≤ i := by rw [hR]; exact varL_len q i
  repeat' first|refine nx ?_|refine xb_miss (by decide) ?_|(apply W_reg;(simp [h1, h3, h6, hb0, ho, hn, ap1_];exact .r _))
  refine W_cond (by simp [h1, h3, h6, hb0, ho, hn, ap1_]; exact .r _) (fun hc => ?_) (fun hc => ?_)
  · have hil : i < 20 := by simp at hc; omega
    have c1 := cv (occurs_r q i h.2.1 h.2.2)
    have c2 := cv (contains_r q.head i h.1)
    simp only [Ag, cells_Q, List.map_cons, List.map_nil] at c1
    have ht := varL_succ q i
    rw [← hR] at ht
    cases e1 : occurs q i
    · by_cases e2 : (i : Int) ∈ q.head
      · rw [e1, decide_eq_true e2, Bool.false_or, if_pos rfl] at ht
        repeat' first|refine nx ?_|refine xb_miss (by decide) ?_|(apply W_reg;(simp [h1, h3, h6, hb0, ho, hn, ap1_, c1, e1, c2, e2];exact .r _))
        refine W_cond (by simp [h1, h3, h6, hb0, ho, hn, ap1_]; exact .r _) (fun hd => ?_) (fun hd => ?_)
        · repeat' first|refine nx ?_|refine xb_miss (by decide) ?_|(apply W_reg;(simp [h1, h3, h6, hb0, ho, hn, ap1_, show R.length + 1 < 1099511627776 by omega];exact .r _))
          refine ⟨_, ?_, i + 1, R ++ [(i : Int)], rfl, rfl, ?_, ?_, ?_, by omega, ?_, (by simp [h1, h3, h6, hb0, ho, hn, ap1_, rowsE]), ?_, ht.symm⟩
          all_goals first|assumption|(simp [h1, h3, h6, hb0, ho, hn, ap1_];done)|(simp [h1, h3, h6, hb0, ho, hn, ap1_];omega)|(simp [h1, h3, h6, hb0, ho, hn, ap1_];exact wrap_succ (by omega))|omega
        · cases hd
      · rw [e1, decide_eq_false e2, if_neg (by decide), List.append_nil] at ht
        repeat' first|refine nx ?_|refine xb_miss (by decide) ?_|(apply W_reg;(simp [h1, h3, h6, hb0, ho, hn, ap1_, c1, e1, c2, e2];exact .r _))
        refine W_cond (by simp [h1, h3, h6, hb0, ho, hn, ap1_]; exact .r _) (fun hd => ?_) (fun hd => ?_)
        · cases hd
        repeat' first|refine nx ?_|refine xb_miss (by decide) ?_|(apply W_reg;(simp [h1, h3, h6, hb0, ho, hn, ap1_];exact .r _))
        refine ⟨_, ?_, i + 1, R, rfl, rfl, ?_, ?_, ?_, by omega, ?_, ?_, ?_, ht.symm⟩
        all_goals first|assumption|(simp [h1, h3, h6, hb0, ho, hn, ap1_];done)|(simp [h1, h3, h6, hb0, ho, hn, ap1_];omega)|(simp [h1, h3, h6, hb0, ho, hn, ap1_];exact wrap_succ (by omega))|omega
    · rw [e1, Bool.true_or, if_pos rfl] at ht
      repeat' first|refine nx ?_|refine xb_miss (by decide) ?_|(apply W_reg;(simp [h1, h3, h6, hb0, ho, hn, ap1_, c1, e1];exact .r _))
      refine W_cond (by simp [h1, h3, h6, hb0, ho, hn, ap1_]; exact .r _) (fun hd => ?_) (fun hd => ?_)
      · repeat' first|refine nx ?_|refine xb_miss (by decide) ?_|(apply W_reg;(simp [h1, h3, h6, hb0, ho, hn, ap1_, show R.length + 1 < 1099511627776 by omega];exact .r _))
        refine ⟨_, ?_, i + 1, R ++ [(i : Int)], rfl, rfl, ?_, ?_, ?_, by omega, ?_, (by simp [h1, h3, h6, hb0, ho, hn, ap1_, rowsE]), ?_, ht.symm⟩
        all_goals first|assumption|(simp [h1, h3, h6, hb0, ho, hn, ap1_];done)|(simp [h1, h3, h6, hb0, ho, hn, ap1_];omega)|(simp [h1, h3, h6, hb0, ho, hn, ap1_];exact wrap_succ (by omega))|omega
      · cases hd
  · have hil : i = 20 := by simp at hc; omega
    subst hil
    repeat' first|refine nx ?_|refine xb_miss (by decide) ?_|(apply W_reg;(simp [h1, h3, h6, hb0, ho, hn, ap1_];exact .r _))
    simp [ho, hR, varsQ, varL]
theorem specVars_r (q : Qry) (hh : Sm q.head) (hb : q.body.length ≤ 1000) (ha : ∀ a ∈ q.body, a.args.length ≤ 1000) : Ret XX 101 [Ag q] (.own 1 (rowsE (varsQ q))) := by
  refine ret_W rfl Try.func101 rfl rfl (by simp [Try.f101]) ?_
  simp only [Try.f101]
  have hbl := bvars_len q hb ha
  repeat' first|refine nx ?_|refine xb_miss (by decide) ?_|(apply W_reg;(simp [Ag];exact .r _))
  refine W_loop (n := 20) (fun n s => ∃ i : Nat, ∃ R : List Int, n = 20 - i ∧ s.nt = 25 ∧ s.tm 1 = .ptr 0 0 ∧ s.tm 3 = .ref 1 R.length [] ∧ s.tm 4 = In i ∧ i ≤ 20 ∧ s.σ.ob 0 = .box [Ar q.head, Ar q.body] ∧ s.σ.ob 1 = .arr (.own 0) 0 1 (rowsE R) ∧ 2 ≤ s.σ.n ∧ R = varL q i) ⟨0, [], by simp [show varL q 0 = [] from rfl]⟩ ?_
  rintro n ⟨nt, tm, σ⟩ ⟨i, R, rfl, hnt, h1, h3, h4, hi, hb0, ho, hn, hR⟩
  simp only at hnt h1 h3 h4 hb0 ho hn
  subst hnt
  have ap2_ := apart hn
  have hRl : R.length ≤ i := by rw [hR]; exact varL_len q i
  repeat' first|refine nx ?_|refine xb_miss (by decide) ?_|(apply W_reg;(simp [h1, h3, h4, hb0, ho, hn, ap2_];exact .r _))
  refine W_cond (by simp [h1, h3, h4, hb0, ho, hn, ap2_]; exact .r _) (fun hc => ?_) (fun hc => ?_)
  · have hil : i < 20 := by simp at hc; omega
    have c0 := cv (bodyVars_r q hb ha)
    have c1 := cv (l2Has_r (bvars [] q.body) i (by unfold Sm; omega))
    have c2 := cv (l2Has_r q.head i hh)
    simp only [Ag, cells_Q, List.map_cons, List.map_nil] at c0
    have ho1 : decide ((i : Int) ∈ bvars [] q.body) = occurs q i := by
      have := bvars_mem q.body [] (i : Int)
      have hoc : occurs q i = true ↔ ∃ a ∈ q.body, (i : Int) ∈ a.args := by simp [occurs]
      rw [Bool.eq_iff_iff, decide_eq_true_eq, this, hoc]
      exact ⟨fun h => h.elim (fun h => by cases h) (·.2), fun h => .inr ⟨by omega, h⟩⟩
    have ht := varL_succ q i
    rw [← hR] at ht
    rw [ho1] at c1
    cases e1 : occurs q i
    · by_cases e2 : (i : Int) ∈ q.head
      · rw [e1, decide_eq_true e2, Bool.false_or, if_pos rfl] at ht
        repeat' first|refine nx ?_|refine xb_miss (by decide) ?_|(apply W_reg;(simp [h1, h3, h4, hb0, ho, hn, ap2_, c0, c1, e1, c2, e2];exact .r _))
        refine W_cond (by simp [h1, h3, h4, hb0, ho, hn, ap2_]; exact .r _) (fun hd => ?_) (fun hd => ?_)
        · repeat' first|refine nx ?_|refine xb_miss (by decide) ?_|(apply W_reg;(simp [h1, h3, h4, hb0, ho, hn, ap2_, show R.length + 1 < 1099511627776 by omega];exact .r _))
          refine ⟨_, ?_, i + 1, R ++ [(i : Int)], rfl, rfl, ?_, ?_, ?_, by omega, ?_, (by simp [h1, h3, h4, hb0, ho, hn, ap2_, rowsE]), ?_, ht.symm⟩
          all_goals first|assumption|(simp [h1, h3, h4, hb0, ho, hn, ap2_];done)|(simp [h1, h3, h4, hb0, ho, hn, ap2_];omega)|(simp [h1, h3, h4, hb0, ho, hn, ap2_];exact wrap_succ (by omega))|omega
        · cases hd
      · rw [e1, decide_eq_false e2, if_neg (by decide), List.append_nil] at ht
        repeat' first|refine nx ?_|refine xb_miss (by decide) ?_|(apply W_reg;(simp [h1, h3, h4, hb0, ho, hn, ap2_, c0, c1, e1, c2, e2];exact .r _))
        refine W_cond (by simp [h1, h3, h4, hb0, ho, hn, ap2_]; exact .r _) (fun hd => ?_) (fun hd => ?_)
        · cases hd
        repeat' first|refine nx ?_|refine xb_miss (by decide) ?_|(apply W_reg;(simp [h1, h3, h4, hb0, ho, hn, ap2_];exact .r _))
        refine ⟨_, ?_, i + 1, R, rfl, rfl, ?_, ?_, ?_, by omega, ?_, ?_, ?_, ht.symm⟩
        all_goals first|assumption|(simp [h1, h3, h4, hb0, ho, hn, ap2_];done)|(simp [h1, h3, h4, hb0, ho, hn, ap2_];omega)|(simp [h1, h3, h4, hb0, ho, hn, ap2_];exact wrap_succ (by omega))|omega
    · rw [e1, Bool.true_or, if_pos rfl] at ht
      repeat' first|refine nx ?_|refine xb_miss (by decide) ?_|(apply W_reg;(simp [h1, h3, h4, hb0, ho, hn, ap2_, c0, c1, e1];exact .r _))
      refine W_cond (by simp [h1, h3, h4, hb0, ho, hn, ap2_]; exact .r _) (fun hd => ?_) (fun hd => ?_)
      · repeat' first|refine nx ?_|refine xb_miss (by decide) ?_|(apply W_reg;(simp [h1, h3, h4, hb0, ho, hn, ap2_, show R.length + 1 < 1099511627776 by omega];exact .r _))
        refine ⟨_, ?_, i + 1, R ++ [(i : Int)], rfl, rfl, ?_, ?_, ?_, by omega, ?_, (by simp [h1, h3, h4, hb0, ho, hn, ap2_, rowsE]), ?_, ht.symm⟩
        all_goals first|assumption|(simp [h1, h3, h4, hb0, ho, hn, ap2_];done)|(simp [h1, h3, h4, hb0, ho, hn, ap2_];omega)|(simp [h1, h3, h4, hb0, ho, hn, ap2_];exact wrap_succ (by omega))|omega
      · cases hd
  · have hil : i = 20 := by simp at hc; omega
    subst hil
    repeat' first|refine nx ?_|refine xb_miss (by decide) ?_|(apply W_reg;(simp [h1, h3, h4, hb0, ho, hn, ap2_];exact .r _))
    simp [ho, hR, varsQ, varL]
def hds (vs : List Qry) : List Int := vs.map fun v => (v.head.length : Int)
theorem implVSch_r (vs : List Qry) (hv : Sm vs) (hne : vs ≠ []) : Ret XX 66 [Ar vs] (.agg [.own 1 (rowsE (hds vs))]) := by
  refine ret_W rfl Try.func66 rfl rfl (by simp [Try.f66]) ?_
  simp only [Try.f66]
  have hl : vs.length < 1099511627775 := hv
  have hml : (hds vs).length = vs.length := by simp [hds]
  repeat' first|refine nx ?_|refine xb_miss (by decide) ?_|(apply W_reg;(simp;exact .r _))
  refine W_loop (n := vs.length) (fun n s => ∃ i : Nat, ∃ oT : Nat, ∃ st : Nat, n = vs.length - i ∧ s.nt = 23 ∧ s.tm 2 = .ptr 0 0 ∧ s.tm 3 = .ptr 1 0 ∧ s.tm 7 = Ar vs ∧ s.tm 8 = In vs.length ∧ s.tm 9 = In i ∧ i ≤ vs.length ∧ s.σ.ob 0 = .box [.t .nl] ∧ s.σ.ob 1 = .box [gc oT i] ∧ 2 ≤ s.σ.n ∧ (i = 0 ∨ (s.σ.ob oT = .arr (.own 0) st 1 (rowsE ((hds vs).take i)) ∧ 2 ≤ oT ∧ oT < s.σ.n))) ⟨0, 0, 0, by simp⟩ ?_
  rintro n ⟨nt, tm, σ⟩ ⟨i, oT, st, rfl, hnt, h2, h3, h7, h8, h9, hi, hb0, hb1, hn, hT⟩
  simp only at hnt h2 h3 h7 h8 h9 hb0 hb1 hn hT
  subst hnt
  have ap3_ := apart hn
  repeat' first|refine nx ?_|refine xb_miss (by decide) ?_|(apply W_reg;(simp [h2, h3, h7, h8, h9, hb0, hb1, hn, hT, ap3_];exact .r _))
  refine W_cond (by simp [h2, h3, h7, h8, h9, hb0, hb1, hn, hT, ap3_]; exact .r _) (fun hc => ?_) (fun hc => ?_)
  · have hil : i < vs.length := by simpa using hc
    have hit : i < (hds vs).length := by omega
    have hti : (hds vs)[i] = (vs[i].head.length : Int) := by simp [hds]
    have htk := rowsE_take (hds vs) i hit
    rw [hti] at htk
    have hbt : i + 1 < 1099511627776 := by omega
    repeat' first|refine W_seq ?_|refine W_block ?_|refine W_skip ?_|(apply W_reg;(simp [h2, h3, h7, h8, h9, hb0, hb1, hn, hT, ap3_, hil];exact .r _))
    rcases Nat.eq_zero_or_pos i with rfl | hpos
    · repeat' first|refine nx ?_|refine xb_miss (by decide) ?_|(apply W_reg;(simp [h2, h3, h7, h8, h9, hb0, hb1, hn, hT, ap3_, flatR];exact .r _))
      refine ⟨_, ?_, 0 + 1, σ.n + 2, 0, rfl, rfl, ?_, ?_, ?_, ?_, ?_, by omega, ?_, ?_, ?_, (.inr ⟨by (simp [h2, h3, h7, h8, h9, hb0, hb1, hn, hT, ap3_]; rw [htk]; simp [rowsE]), by omega, by (simp)⟩)⟩
      all_goals first|assumption|(simp [h2, h3, h7, h8, h9, hb0, hb1, hn, hT, ap3_];done)|(simp [h2, h3, h7, h8, h9, hb0, hb1, hn, hT, ap3_];omega)|(simp [h2, h3, h7, h8, h9, hb0, hb1, hn, hT, ap3_];exact wrap_succ (by omega))|omega
    · obtain ⟨hT1, hT2, hT3⟩ := hT.resolve_left (by omega)
      have hgc := gc_pos (o := oT) (show i ≠ 0 by omega)
      have ap4_ := apart hT3
      have ne5_ : ¬ (oT = 0) := by omega
      have ne6_ : ¬ (0 = oT) := by omega
      have ne7_ : ¬ (oT = 1) := by omega
      have ne8_ : ¬ (1 = oT) := by omega
      repeat' first|refine nx ?_|refine xb_miss (by decide) ?_|(apply W_reg;(simp [h2, h3, h7, h8, h9, hb0, hb1, hn, hT, ap3_, ap4_, ne5_, ne6_, ne7_, ne8_, flatR, hT1, hgc, hbt, show min i (hds vs).length = i by omega];exact .r _))
      refine ⟨_, ?_, i + 1, oT, st, rfl, rfl, ?_, ?_, ?_, ?_, ?_, by omega, ?_, ?_, ?_, (.inr ⟨by (simp [h2, h3, h7, h8, h9, hb0, hb1, hn, hT, ap3_, ap4_, ne5_, ne6_, ne7_, ne8_]; rw [htk]; simp [rowsE]), hT2, by (simp; omega)⟩)⟩
      all_goals first|assumption|(simp [h2, h3, h7, h8, h9, hb0, hb1, hn, hT, ap3_, ap4_, ne5_, ne6_, ne7_, ne8_];done)|(simp [h2, h3, h7, h8, h9, hb0, hb1, hn, hT, ap3_, ap4_, ne5_, ne6_, ne7_, ne8_];omega)|(simp [h2, h3, h7, h8, h9, hb0, hb1, hn, hT, ap3_, ap4_, ne5_, ne6_, ne7_, ne8_];exact wrap_succ (by omega))|omega
  · have hil : i = vs.length := by simp at hc; omega
    subst hil
    have hne' : vs.length ≠ 0 := fun hh => hne (List.length_eq_zero_iff.1 hh)
    obtain ⟨hT1, hT2, hT3⟩ := hT.resolve_left hne'
    rw [← hml, List.take_length] at hT1
    have hgc := gc_pos (o := oT) hne'
    have ne9_ : ¬ (oT = 0) := by omega
    have ne10_ : ¬ (0 = oT) := by omega
    have ne11_ : ¬ (oT = 1) := by omega
    have ne12_ : ¬ (1 = oT) := by omega
    repeat' first|refine nx ?_|refine xb_miss (by decide) ?_|(apply W_reg;(simp [h2, h3, h7, h8, h9, hb0, hb1, hn, hT, ap3_, ne9_, ne10_, ne11_, ne12_, hgc];exact .r _))
    simp [hgc, hT1, hml, h2, h3, h7, h8, h9, hb0, hb1, hn, hT, ap3_, ne9_, ne10_, ne11_, ne12_]
theorem specVSch_r (vs : List Qry) (hv : Sm vs) (hne : vs ≠ []) : Ret XX 59 [Ar vs] (.agg [.own 1 (rowsE (hds vs))]) := by
  refine ret_W rfl Try.func59 rfl rfl (by simp [Try.f59]) ?_
  simp only [Try.f59]
  have hl : vs.length < 1099511627775 := hv
  have hml : (hds vs).length = vs.length := by simp [hds]
  repeat' first|refine nx ?_|refine xb_miss (by decide) ?_|(apply W_reg;(simp;exact .r _))
  refine W_loop (n := vs.length) (fun n s => ∃ i : Nat, ∃ oT : Nat, ∃ st : Nat, n = vs.length - i ∧ s.nt = 24 ∧ s.tm 0 = Ar vs ∧ s.tm 2 = .ptr 0 0 ∧ s.tm 3 = .ptr 1 0 ∧ s.tm 4 = In i ∧ i ≤ vs.length ∧ s.σ.ob 0 = .box [.t .nl] ∧ s.σ.ob 1 = .box [gc oT i] ∧ 2 ≤ s.σ.n ∧ (i = 0 ∨ (s.σ.ob oT = .arr (.own 0) st 1 (rowsE ((hds vs).take i)) ∧ 2 ≤ oT ∧ oT < s.σ.n))) ⟨0, 0, 0, by simp⟩ ?_
  rintro n ⟨nt, tm, σ⟩ ⟨i, oT, st, rfl, hnt, h0, h2, h3, h4, hi, hb0, hb1, hn, hT⟩
  simp only at hnt h0 h2 h3 h4 hb0 hb1 hn hT
  subst hnt
  have ap13_ := apart hn
  repeat' first|refine nx ?_|refine xb_miss (by decide) ?_|(apply W_reg;(simp [h0, h2, h3, h4, hb0, hb1, hn, hT, ap13_];exact .r _))
  refine W_cond (by simp [h0, h2, h3, h4, hb0, hb1, hn, hT, ap13_]; exact .r _) (fun hc => ?_) (fun hc => ?_)
  · have hil : i < vs.length := by simpa using hc
    have hit : i < (hds vs).length := by omega
    have hti : (hds vs)[i] = (vs[i].head.length : Int) := by simp [hds]
    have htk := rowsE_take (hds vs) i hit
    rw [hti] at htk
    have hbt : i + 1 < 1099511627776 := by omega
    rcases Nat.eq_zero_or_pos i with rfl | hpos
    · repeat' first|refine nx ?_|refine xb_miss (by decide) ?_|(apply W_reg;(simp [h0, h2, h3, h4, hb0, hb1, hn, hT, ap13_, hil, flatR];exact .r _))|(apply W_draw (id := 5) [0,1,0,0,12,28,60,124,252,511,1023,2047] rfl rfl; (· simp; exact .r _); (· simp [h0, h2, h3, h4, hb0, hb1, hn, hT, ap13_, hil, flatR]; exact .r _); (· first|trivial|simp))
      refine ⟨_, ?_, 0 + 1, σ.n + 1, 0, rfl, rfl, ?_, ?_, ?_, ?_, by omega, ?_, ?_, ?_, (.inr ⟨by (simp [h0, h2, h3, h4, hb0, hb1, hn, hT, ap13_]; rw [htk]; simp [rowsE]), by omega, by (simp)⟩)⟩
      all_goals first|assumption|(simp [h0, h2, h3, h4, hb0, hb1, hn, hT, ap13_];done)|(simp [h0, h2, h3, h4, hb0, hb1, hn, hT, ap13_];omega)|(simp [h0, h2, h3, h4, hb0, hb1, hn, hT, ap13_];exact wrap_succ (by omega))|omega
    · obtain ⟨hT1, hT2, hT3⟩ := hT.resolve_left (by omega)
      have hgc := gc_pos (o := oT) (show i ≠ 0 by omega)
      have ap14_ := apart hT3
      have ne15_ : ¬ (oT = 0) := by omega
      have ne16_ : ¬ (0 = oT) := by omega
      have ne17_ : ¬ (oT = 1) := by omega
      have ne18_ : ¬ (1 = oT) := by omega
      repeat' first|refine nx ?_|refine xb_miss (by decide) ?_|(apply W_reg;(simp [h0, h2, h3, h4, hb0, hb1, hn, hT, ap13_, ap14_, ne15_, ne16_, ne17_, ne18_, hil, flatR, hT1, hgc, hbt, show min i (hds vs).length = i by omega];exact .r _))|(apply W_draw (id := 5) [0,1,0,0,12,28,60,124,252,511,1023,2047] rfl rfl; (· simp; exact .r _); (· simp [h0, h2, h3, h4, hb0, hb1, hn, hT, ap13_, ap14_, ne15_, ne16_, ne17_, ne18_, hil, flatR, hT1, hgc, hbt, show min i (hds vs).length = i by omega]; exact .r _); (· first|trivial|simp))
      refine ⟨_, ?_, i + 1, oT, st, rfl, rfl, ?_, ?_, ?_, ?_, by omega, ?_, ?_, ?_, (.inr ⟨by (simp [h0, h2, h3, h4, hb0, hb1, hn, hT, ap13_, ap14_, ne15_, ne16_, ne17_, ne18_]; rw [htk]; simp [rowsE]), hT2, by (simp; omega)⟩)⟩
      all_goals first|assumption|(simp [h0, h2, h3, h4, hb0, hb1, hn, hT, ap13_, ap14_, ne15_, ne16_, ne17_, ne18_];done)|(simp [h0, h2, h3, h4, hb0, hb1, hn, hT, ap13_, ap14_, ne15_, ne16_, ne17_, ne18_];omega)|(simp [h0, h2, h3, h4, hb0, hb1, hn, hT, ap13_, ap14_, ne15_, ne16_, ne17_, ne18_];exact wrap_succ (by omega))|omega
  · have hil : i = vs.length := by simp at hc; omega
    subst hil
    have hne' : vs.length ≠ 0 := fun hh => hne (List.length_eq_zero_iff.1 hh)
    obtain ⟨hT1, hT2, hT3⟩ := hT.resolve_left hne'
    rw [← hml, List.take_length] at hT1
    have hgc := gc_pos (o := oT) hne'
    have ne19_ : ¬ (oT = 0) := by omega
    have ne20_ : ¬ (0 = oT) := by omega
    have ne21_ : ¬ (oT = 1) := by omega
    have ne22_ : ¬ (1 = oT) := by omega
    repeat' first|refine nx ?_|refine xb_miss (by decide) ?_|(apply W_reg;(simp [h0, h2, h3, h4, hb0, hb1, hn, hT, ap13_, ne19_, ne20_, ne21_, ne22_, hgc];exact .r _))
    simp [hgc, hT1, hml, h0, h2, h3, h4, hb0, hb1, hn, hT, ap13_, ne19_, ne20_, ne21_, ne22_]
end Go.Proofs.Ytlehbgapjibeeaa.V

