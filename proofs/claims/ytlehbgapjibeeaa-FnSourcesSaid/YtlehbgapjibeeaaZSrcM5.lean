/- Several texts in one: what the claim needs of them. Conditions: each declaration's own. -/
import Derived.Test.YtlehbgapjibeeaaZSrcM4
import Derived.Orders
import Derived.Lib.SlKept
import Derived.Shelf.SlSortCmp.NoneTotal
import Derived.Shelf.SlGeneric
import Derived.Ground.SlsfProg
import Derived.Test.YtlehbgapjibeeaaProg
namespace Go.Proofs.Ytlehbgapjibeeaa.V
open Go Go.Proofs
set_option linter.unusedVariables false
abbrev Row := List Int
/-- In order. -/
abbrev Ord (l : List Row) : Prop := l.Pairwise fun a b => ¬ cmpI b a < 0
/-- In strictly ascending order. -/
abbrev Asc (l : List Row) : Prop := l.Pairwise fun a b => cmpI a b < 0
/-- Equal neighbours once. -/
def uniq : List Row → List Row
  | a :: b :: l => if a = b then uniq (b :: l) else a :: uniq (b :: l)
  | l => l
def srtU (l : List Row) : List Row := uniq (srt cmpI l)
theorem cmp_asym {a b : Row} (h : cmpI a b < 0) : ¬ cmpI b a < 0 := fun h2 => by
  have := cmp_trans a b a h h2
  rw [cmp_self] at this; omega
theorem mem_uniq : ∀ (l : List Row) (x : Row), x ∈ uniq l ↔ x ∈ l
  | [], _ => Iff.rfl
  | [_], _ => Iff.rfl
  | a :: b :: l, x => by
    unfold uniq
    split
    · rename_i e; subst e; rw [mem_uniq (a :: l) x]; simp
    · rw [List.mem_cons, mem_uniq (b :: l) x, ← List.mem_cons]
theorem asc_uniq : ∀ {l : List Row}, Ord l → Asc (uniq l)
  | [], _ => List.Pairwise.nil
  | [_], _ => by simp [uniq]
  | a :: b :: l, h => by
    unfold uniq
    split
    · exact asc_uniq (List.pairwise_cons.1 h).2
    · rename_i hne
      refine List.pairwise_cons.2 ⟨fun x hx => ?_, asc_uniq (List.pairwise_cons.1 h).2⟩
      have hx := (mem_uniq _ _).1 hx
      have h1 := (List.pairwise_cons.1 h).1
      have hab : cmpI a b < 0 := cmp_flip b a (h1 b (by simp)) fun e => hne e.symm
      rcases List.mem_cons.1 hx with rfl | hx2
      · exact hab
      · have h2 := (List.pairwise_cons.1 (List.pairwise_cons.1 h).2).1 x hx2
        by_cases e : b = x
        · subst e; exact hab
        · exact cmp_trans a b x hab (cmp_flip x b h2 fun h => e h.symm)
theorem asc_ord {l : List Row} (h : Asc l) : Ord l := h.imp fun h => cmp_asym h
theorem asc_nodup {l : List Row} (h : Asc l) : l.Nodup := h.imp fun {a b} h e => by subst e; rw [cmp_self] at h; omega
theorem srt_of {l m : List Row} (h : Ord l) (hp : l.Perm m) : l = srt cmpI m := srt_eq swoL (fun a b _ _ h1 h2 => antiL a b h1 h2) hp h
theorem asc_ext {l m : List Row} (h1 : Asc l) (h2 : Asc m) (h : ∀ x, x ∈ l ↔ x ∈ m) : l = m := by
  rw [srt_of (asc_ord h1) ((List.perm_ext_iff_of_nodup (asc_nodup h1) (asc_nodup h2)).2 h)]
  exact (srt_of (asc_ord h2) (List.Perm.refl _)).symm
theorem asc_srtU (l : List Row) : Asc (srtU l) := asc_uniq (srt_sorted swoL)
theorem mem_srtU {l : List Row} {x : Row} : x ∈ srtU l ↔ x ∈ l := by rw [srtU, mem_uniq]; exact srt_perm.mem_iff
theorem srtU_of {l m : List Row} (h1 : Asc l) (h : ∀ x, x ∈ l ↔ x ∈ m) : l = srtU m := asc_ext h1 (asc_srtU m) fun x => (h x).trans mem_srtU.symm
/-- A row put at its place. -/
theorem ord_ins {out : List Row} {x : Row} {k : Nat} (h : Ord out) (hk : k ≤ out.length) (h1 : ∀ j (hj : j < out.length), j < k → ¬ cmpI x out[j] < 0) (h2 : ∀ j (hj : j < out.length), k ≤ j → cmpI x out[j] < 0) : Ord (out.take k ++ [x] ++ out.drop k) := by
  rw [List.append_assoc, List.singleton_append]
  refine List.pairwise_append.2 ⟨h.sublist (List.take_sublist _ _), ?_, fun a ha b hb => ?_⟩
  · refine List.pairwise_cons.2 ⟨fun b hb => ?_, h.sublist (List.drop_sublist _ _)⟩
    obtain ⟨j, hj, rfl⟩ := List.mem_iff_getElem.1 hb
    rw [List.getElem_drop]
    exact cmp_asym (h2 _ (by simp at hj; omega) (by omega))
  · obtain ⟨j, hj, rfl⟩ := List.mem_iff_getElem.1 ha
    have hj' : j < k ∧ j < out.length := by simp at hj; omega
    rw [List.getElem_take]
    rcases List.mem_cons.1 hb with rfl | hb
    · exact h1 _ hj'.2 hj'.1
    · obtain ⟨i, hi, rfl⟩ := List.mem_iff_getElem.1 hb
      rw [List.getElem_drop]
      exact List.pairwise_iff_getElem.1 h j (k + i) hj'.2 (by simp at hi; omega) (by omega)
theorem asc_ins {out : List Row} {x : Row} {k : Nat} (h : Asc out) (hk : k ≤ out.length) (h1 : ∀ j (hj : j < out.length), j < k → cmpI out[j] x < 0) (h2 : ∀ j (hj : j < out.length), k ≤ j → cmpI x out[j] < 0) : Asc (out.take k ++ [x] ++ out.drop k) := by
  rw [List.append_assoc, List.singleton_append]
  refine List.pairwise_append.2 ⟨h.sublist (List.take_sublist _ _), ?_, fun a ha b hb => ?_⟩
  · refine List.pairwise_cons.2 ⟨fun b hb => ?_, h.sublist (List.drop_sublist _ _)⟩
    obtain ⟨j, hj, rfl⟩ := List.mem_iff_getElem.1 hb
    rw [List.getElem_drop]
    exact h2 _ (by simp at hj; omega) (by omega)
  · obtain ⟨j, hj, rfl⟩ := List.mem_iff_getElem.1 ha
    have hj' : j < k ∧ j < out.length := by simp at hj; omega
    rw [List.getElem_take]
    rcases List.mem_cons.1 hb with rfl | hb
    · exact h1 _ hj'.2 hj'.1
    · obtain ⟨i, hi, rfl⟩ := List.mem_iff_getElem.1 hb
      rw [List.getElem_drop]
      exact List.pairwise_iff_getElem.1 h j (k + i) hj'.2 (by simp at hi; omega) (by omega)
theorem ins_perm {α : Type} (out : List α) (x : α) (k : Nat) : (out.take k ++ [x] ++ out.drop k).Perm (out ++ [x]) := by
  have h1 : (out.take k ++ [x] ++ out.drop k).Perm (out.take k ++ (out.drop k ++ [x])) := by
    rw [List.append_assoc]; exact (List.perm_append_comm).append_left _
  rwa [← List.append_assoc, List.take_append_drop] at h1
end Go.Proofs.Ytlehbgapjibeeaa.V

namespace Go.Proofs.Ytlehbgapjibeeaa.V
open Go Go.Proofs
set_option linter.unusedVariables false
/-- What each variable is bound to. -/
abbrev Bnd := List (Option Int)
def getB (b : Bnd) (t : Int) : Option Int := (b[t.toNat]?).join
def mtch : List Int → List Int → Bnd → Option Bnd
  | t :: ts, v :: vs, b => if t < 0 then (if -1 - t = v then mtch ts vs b else none) else
    match getB b t with
    | none => mtch ts vs (b.set t.toNat (some v))
    | some x => if x = v then mtch ts vs b else none
  | _, _, b => some b
def mtchA (a f : RA) (b : Bnd) : Option Bnd := if a.rel = f.rel ∧ a.args.length = f.args.length then mtch a.args f.args b else none
def binds (db : List RA) : List RA → Bnd → List Bnd
  | [], b => [b]
  | a :: body, b => db.flatMap fun f => match mtchA a f b with
    | some b' => binds db body b'
    | none => []
/-- b' binds what b binds, to the same. -/
def Ext (b b' : Bnd) : Prop := b.length = b'.length ∧ ∀ (t : Int) (v : Int), getB b t = some v → getB b' t = some v
theorem Ext.refl (b : Bnd) : Ext b b := ⟨rfl, fun _ _ h => h⟩
theorem Ext.trans {a b c : Bnd} (h : Ext a b) (k : Ext b c) : Ext a c := ⟨h.1.trans k.1, fun t v hv => k.2 t v (h.2 t v hv)⟩
def b0 : Bnd := List.replicate 20 none
end Go.Proofs.Ytlehbgapjibeeaa.V

namespace Go.Proofs.Ytlehbgapjibeeaa.V
open Go Go.Proofs
set_option linter.unusedVariables false
structure Sch where
  arity : List Int
  deriving DecidableEq
instance : Enc Sch := ⟨fun a => [.sl (rowsE a.arity)], 1, false, fun _ => rfl, fun h => by cases h⟩
@[simp] theorem cells_Sch (a : Sch) : Enc.cells a = [.sl (rowsE a.arity)] := rfl
@[simp] theorem n_Sch : Enc.n Sch = 1 := rfl
def inR (x lo hi : Int) : Bool := decide (lo ≤ x ∧ x ≤ hi)
def isVar (t : Int) : Bool := inR t 0 19
def isTerm (t : Int) : Bool := inR t (-80) 19
def constOf (t : Int) : Int := if isTerm t && !isVar t then -1 - t else -1
def isSch (s : Sch) : Bool := s.arity.all (fun n => inR n 1 3) && inR s.arity.length 1 4
def takes (s : Sch) (rel n : Int) : Bool := isSch s && inR rel 0 (s.arity.length - 1) && decide (s.arity[rel.toNat]?.getD 0 = n)
def isAtom (s : Sch) (a : RA) : Bool := takes s a.rel a.args.length && a.args.all isTerm
def occurs (q : Qry) (t : Int) : Bool := q.body.any fun a => decide (t ∈ a.args)
def isSafe (q : Qry) : Bool := q.head.all fun t => !isVar t || occurs q t
def isQry (s : Sch) (q : Qry) : Bool := isSch s && decide (q.head.length ≤ 3) && q.head.all isTerm && inR q.body.length 1 4 && q.body.all (isAtom s) && isSafe q
def isFact (s : Sch) (f : RA) : Bool := takes s f.rel f.args.length && f.args.all (fun x => inR x 0 99)
def ascF : List RA → Bool
  | a :: b :: l => decide (cmpF a b < 0) && ascF (b :: l)
  | _ => true
def isDb (s : Sch) (db : List RA) : Bool := db.all (isFact s) && ascF db && isSch s && decide (db.length ≤ 24)
theorem ascF_pair : ∀ {l : List RA}, ascF l = true → l.Pairwise fun a b => cmpF a b < 0
  | [], _ => List.Pairwise.nil
  | [_], _ => by simp
  | a :: b :: l, h => by
    simp only [ascF, Bool.and_eq_true, decide_eq_true_eq] at h
    have ih := ascF_pair h.2
    refine List.pairwise_cons.2 ⟨fun x hx => ?_, ih⟩
    rcases List.mem_cons.1 hx with rfl | hx
    · exact h.1
    · have h2 := (List.pairwise_cons.1 ih).1 x hx
      have := swoF.trans a b x (by rw [lt_dec, decide_eq_true_eq]; exact h.1) (by rw [lt_dec, decide_eq_true_eq]; exact h2)
      rwa [lt_dec, decide_eq_true_eq] at this
theorem isDb_nodup {s : Sch} {db : List RA} (h : isDb s db = true) : db.Nodup := by
  simp only [isDb, Bool.and_eq_true] at h
  refine (ascF_pair h.1.1.2).imp fun {a b} h e => ?_
  subst e
  have := swoF.irrefl a
  rw [lt_dec, decide_eq_false_iff_not] at this
  exact this h
end Go.Proofs.Ytlehbgapjibeeaa.V

namespace Go.Proofs.Ytlehbgapjibeeaa.V
open Go Go.Proofs
/-- The functions whose work is given: sorts. -/
def srtFs : List Nat := [
  93,
  900000]
/-- The functions that work over one box. -/
def Ps : List Nat := [119, 85, 86, 985802, 87, 960470, 983885, 954967, 951308, 916329, 135, 116, 948266, 956481, 938225, 989024, 975733, 120, 117, 88, 84, 931790, 969594, 977544, 909907, 979044, 916674, 950200, 934559, 987330, 933132, 964147, 952454, 901702, 956523, 954651, 985512, 987083, 42, 41, 928661, 908403, 911221, 922463, 904993, 962965]
/-- The functions that work over the caller's store. -/
def Ms : Nat → Bool := fun f => srtFs.contains f || [900604, 978746, 102, 955890, 965163, 927410, 911941, 954767, 926999, 931929, 972420, 984653, 904197, 919488, 961226, 926960, 935953, 953973, 917958, 909718, 970530, 909840, 914852, 980750, 931884, 912810, 973132, 976810, 989185, 931201, 981815, 922309].contains f || Ps.contains f || (decide (1000000 ≤ f) && Ps.contains (f - 1000000))
/-- Lengths that the machine can tell. -/
abbrev Sm {α : Type} (l : List α) : Prop := l.length < 1099511627775
noncomputable def srtL : List (Nat × (List AV → Sto → Option (AV × Sto))) := [
  (93, sortG RA cmpF (fun c => Sm c.args) 94),
  (900000, fun _ _ => none)]
def lookG : List (Nat × (List AV → Sto → Option (AV × Sto))) → Nat → Option (List AV → Sto → Option (AV × Sto))
  | [], _ => none
  | q :: l, f => if f = q.1 then some q.2 else lookG l f
noncomputable def Gs : Giv := lookG srtL
theorem lookG_no : ∀ {l : List (Nat × (List AV → Sto → Option (AV × Sto)))} {f : Nat}, (l.map (·.1)).contains f = false → lookG l f = none
  | [], _, _ => rfl
  | q :: l, f, h => by
    simp only [List.map_cons, List.contains_cons, Bool.or_eq_false_iff, beq_eq_false_iff_ne] at h
    rw [lookG, if_neg h.1, lookG_no h.2]
theorem lookG_mem : ∀ {l : List (Nat × (List AV → Sto → Option (AV × Sto)))} {f : Nat} {g : List AV → Sto → Option (AV × Sto)}, lookG l f = some g → (f, g) ∈ l
  | [], _, _, h => by cases h
  | q :: l, f, g, h => by
    rw [lookG] at h
    split at h
    · rename_i e; cases h; subst e; exact List.mem_cons_self
    · exact List.mem_cons_of_mem _ (lookG_mem h)
/-- Nothing else is given. -/
class NoG (G : Giv) : Prop where
  no : ∀ f, srtFs.contains f = false → G f = none
instance : NoG (fun _ => none) := ⟨fun _ _ => rfl⟩
theorem srt_names : srtL.map (·.1) = srtFs := rfl
instance : NoG Gs := ⟨fun f h => lookG_no (by rw [srt_names]; exact h)⟩
noncomputable abbrev XX : Ora := Rv Try.prog Ms Gs
theorem cvg {G : Giv} {f : Nat} {as_ : List AV} {x : XV} (H : Ret (Rv Try.prog Ms G) f as_ x) (hM : Ms f = false := by rfl) (σ : Sto) (args : List AV) (ha : args.mapM (reify σ) = some as_) :
    callV Ms (Rv Try.prog Ms G) σ f args = if x.sh then (freezeL σ (args.flatMap ids)).map fun σf => place σf x else some (place σ x) := callV_ret H hM ha
theorem cv {f : Nat} {as_ : List AV} {x : XV} (H : Ret XX f as_ x) (hM : Ms f = false := by rfl) (σ : Sto) (args : List AV) (ha : args.mapM (reify σ) = some as_) :
    callV Ms XX σ f args = if x.sh then (freezeL σ (args.flatMap ids)).map fun σf => place σf x else some (place σ x) := callV_ret H hM ha
/-- Names that lie apart. -/
class Apart (p : Prop) (q : outParam Prop) where
  of : p → q
instance {m n : Nat} : Apart (m ≤ n) ((∀ i, i < m → (i = n) = False) ∧ (∀ i, i < m → (n = i) = False) ∧ (∀ i j, i < m → (i = n + j) = False) ∧ ∀ i j, i < m → (n + j = i) = False) := ⟨fun h => ⟨fun i hi => eq_false (by omega), fun i hi => eq_false (by omega), fun i j hi => eq_false (by omega), fun i j hi => eq_false (by omega)⟩⟩
instance {m n : Nat} : Apart (m < n) ((m = n) = False ∧ (n = m) = False ∧ (∀ j, (m = n + j) = False) ∧ ∀ j, (n + j = m) = False) := ⟨fun h => ⟨eq_false (by omega), eq_false (by omega), fun j => eq_false (by omega), fun j => eq_false (by omega)⟩⟩
theorem apart {p q : Prop} [Apart p q] (h : p) : q := Apart.of h
end Go.Proofs.Ytlehbgapjibeeaa.V

namespace Go.Proofs.Ytlehbgapjibeeaa.V
open Go Go.Proofs
set_option linter.unusedVariables false
set_option linter.unusedSimpArgs false
section
variable {G : Giv} [NoG G]
theorem isNaN_r (a : Int) : Ret (Rv Try.prog Ms G) 155 [In a] (.t (.b false) false) := by
  refine ret_W (NoG.no _ rfl) Try.func155 rfl rfl (by simp [Try.f155]) ?_
  simp only [Try.f155]
  repeat' first|refine nx ?_|refine xb_miss (by decide) ?_|(apply W_reg;(simp;exact .r _))
  simp
theorem cmpInt_r (a b : Int) : Ret (Rv Try.prog Ms G) 146 [In a, In b] (.t (.i .i64 (if a < b then -1 else if b < a then 1 else 0)) false) := by
  refine ret_W (NoG.no _ rfl) Try.func146 rfl rfl (by simp [Try.f146]) ?_
  simp only [Try.f146]
  have h1 := cvg (isNaN_r (G := G) a)
  have h2 := cvg (isNaN_r (G := G) b)
  repeat' first|refine nx ?_|refine xb_miss (by decide) ?_|(apply W_reg;(simp [h1, h2];exact .r _))
  refine W_cond (by simp [h1, h2]; exact .r _) (fun hc => ?_) (fun hc => ?_)
  · cases hc
  repeat' first|refine nx ?_|refine xb_miss (by decide) ?_|(apply W_reg;(simp [h1, h2];exact .r _))
  refine W_cond (by simp [h1, h2]; exact .r _) (fun hc => ?_) (fun hc => ?_)
  · cases hc
  repeat' first|refine nx ?_|refine xb_miss (by decide) ?_|(apply W_reg;(simp [h1, h2];exact .r _))
  refine W_cond (by simp [h1, h2]; exact .r _) (fun hc => ?_) (fun hc => ?_)
  · repeat' first|refine nx ?_|refine xb_miss (by decide) ?_|(apply W_reg;(simp [h1, h2];exact .r _))
    have : a < b := by simpa using hc
    simp [this]
  repeat' first|refine nx ?_|refine xb_miss (by decide) ?_|(apply W_reg;(simp [h1, h2];exact .r _))
  have hab : ¬ a < b := by simpa using hc
  refine W_cond (by simp [h1, h2]; exact .r _) (fun hd => ?_) (fun hd => ?_)
  · repeat' first|refine nx ?_|refine xb_miss (by decide) ?_|(apply W_reg;(simp [h1, h2];exact .r _))
    have : b < a := by simpa using hd
    simp [this, hab]
  · repeat' first|refine nx ?_|refine xb_miss (by decide) ?_|(apply W_reg;(simp [h1, h2];exact .r _))
    have : ¬ b < a := by simpa using hd
    simp [this, hab]
theorem cmpI_step {a b : List Int} {i : Nat} (ha : i < a.length) (hb : i < b.length) : cmpI (a.drop i) (b.drop i) = if a[i] < b[i] then -1 else if b[i] < a[i] then 1 else cmpI (a.drop (i + 1)) (b.drop (i + 1)) := by
  rw [List.drop_eq_getElem_cons ha, List.drop_eq_getElem_cons hb]; rfl
theorem cmpRow_r (a b : List Int) (ha : Sm a) : Ret (Rv Try.prog Ms G) 124 [Ar a, Ar b] (.t (.i .i64 (cmpI a b)) false) := by
  refine ret_W (NoG.no _ rfl) Try.func124 rfl rfl (by simp [Try.f124]) ?_
  simp only [Try.f124]
  repeat' first|refine nx ?_|refine xb_miss (by decide) ?_|(apply W_reg;(simp;exact .r _))
  refine W_loop (n := a.length) (fun n s => ∃ i : Nat, n = a.length - i ∧ s.nt = 36 ∧ s.tm 0 = Ar a ∧ s.tm 1 = Ar b ∧ s.tm 9 = Ar a ∧ s.tm 10 = In a.length ∧ s.tm 11 = In i ∧ i ≤ a.length ∧ i ≤ b.length ∧ cmpI a b = cmpI (a.drop i) (b.drop i)) ⟨0, by simp⟩ ?_
  rintro n ⟨nt, tm, σ⟩ ⟨i, rfl, hnt, h0, h1, h9, h10, h11, hi, hib, heq⟩
  simp only at hnt h0 h1 h9 h10 h11
  subst hnt
  repeat' first|refine nx ?_|refine xb_miss (by decide) ?_|(apply W_reg;(simp [h0, h1, h9, h10, h11];exact .r _))
  refine W_cond (by simp [h0, h1, h9, h10, h11]; exact .r _) (fun hc => ?_) (fun hc => ?_)
  · have hia : i < a.length := by simpa using hc
    repeat' first|refine nx ?_|refine xb_miss (by decide) ?_|(apply W_reg;(simp [h0, h1, h9, h10, h11, hia];exact .r _))
    refine W_cond (by simp [h0, h1, h9, h10, h11]; exact .r _) (fun hd => ?_) (fun hd => ?_)
    · have : i = b.length := by simp at hd; omega
      subst this
      repeat' first|refine nx ?_|refine xb_miss (by decide) ?_|(apply W_reg;(simp [h0, h1, h9, h10, h11];exact .r _))
      rw [heq, List.drop_eq_getElem_cons hia, List.drop_length]
      simp [cmpI]
    have hib' : i < b.length := by simp at hd; omega
    have hcc := cvg (cmpInt_r (G := G) a[i] b[i])
    repeat' first|refine nx ?_|refine xb_miss (by decide) ?_|(apply W_reg;(simp [h0, h1, h9, h10, h11, hib', hcc];exact .r _))
    rw [cmpI_step hia hib'] at heq
    refine W_cond (by simp [h0, h1, h9, h10, h11]; exact .r _) (fun he => ?_) (fun he => ?_)
    · repeat' first|refine nx ?_|refine xb_miss (by decide) ?_|(apply W_reg;(simp [h0, h1, h9, h10, h11];exact .r _))
      have : cmpI a b = if a[i] < b[i] then -1 else if b[i] < a[i] then 1 else 0 := by
        rw [heq]
        by_cases h : a[i] < b[i]
        · simp [h]
        · by_cases h2 : b[i] < a[i]
          · simp [h2]
          · simp [h, h2] at he
      simp [this]
    · have hab : ¬ a[i] < b[i] := fun h => by simp [h] at he
      have hba : ¬ b[i] < a[i] := fun h => by simp [hab, h] at he
      repeat' first|refine nx ?_|refine xb_miss (by decide) ?_|(apply W_reg;(simp [h0, h1, h9, h10, h11];exact .r _))
      refine ⟨_, ?_, i + 1, rfl, rfl, ?_, ?_, ?_, ?_, ?_, by omega, by omega, by rw [heq, if_neg hab, if_neg hba]⟩
      all_goals first|assumption|(simp [h0, h1, h9, h10, h11];done)|(simp [h0, h1, h9, h10, h11];omega)|(simp [h0, h1, h9, h10, h11];exact wrap_succ (by omega))|omega
  · have hil : i = a.length := by simp at hc; omega
    subst hil
    repeat' first|refine nx ?_|refine xb_miss (by decide) ?_|(apply W_reg;(simp [h0, h1, h9, h10, h11];exact .r _))
    rw [List.drop_length] at heq
    refine W_cond (by simp [h0, h1, h9, h10, h11]; exact .r _) (fun he => ?_) (fun he => ?_)
    · repeat' first|refine nx ?_|refine xb_miss (by decide) ?_|(apply W_reg;(simp [h0, h1, h9, h10, h11];exact .r _))
      have hlt : a.length < b.length := by simpa using he
      rw [heq, List.drop_eq_getElem_cons hlt]
      simp [cmpI]
    · repeat' first|refine nx ?_|refine xb_miss (by decide) ?_|(apply W_reg;(simp [h0, h1, h9, h10, h11];exact .r _))
      have hge : b.length ≤ a.length := by simpa using he
      rw [heq, List.drop_eq_nil_of_le hge]
      simp [cmpI]
theorem cmpF_r (a b : RA) (ha : Sm a.args) : Ret (Rv Try.prog Ms G) 94 [Ag a, Ag b] (.t (.i .i64 (cmpF a b)) false) := by
  refine ret_W (NoG.no _ rfl) Try.func94 rfl rfl (by simp [Try.f94]) ?_
  simp only [Try.f94]
  have h1 := cvg (cmpRow_r (G := G) a.args b.args ha)
  repeat' first|refine nx ?_|refine xb_miss (by decide) ?_|(apply W_reg;(simp [Ag, h1];exact .r _))
  refine W_cond (by simp; exact .r _) (fun hc => ?_) (fun hc => ?_)
  · have h : a.rel < b.rel := by simpa using hc
    repeat' first|refine nx ?_|refine xb_miss (by decide) ?_|(apply W_reg;(simp;exact .r _))
    simp [cmpF, h]
  have h : ¬ a.rel < b.rel := by simpa using hc
  repeat' first|refine nx ?_|refine xb_miss (by decide) ?_|(apply W_reg;(simp [Ag, h1];exact .r _))
  refine W_cond (by simp; exact .r _) (fun hd => ?_) (fun hd => ?_)
  · have h2 : b.rel < a.rel := by simpa using hd
    repeat' first|refine nx ?_|refine xb_miss (by decide) ?_|(apply W_reg;(simp;exact .r _))
    simp [cmpF, h, h2]
  have h2 : ¬ b.rel < a.rel := by simpa using hd
  repeat' first|refine nx ?_|refine xb_miss (by decide) ?_|(apply W_reg;(simp [Ag, h1];exact .r _))
  simp [cmpF, h, h2]
theorem eqInts_g (a b : List Int) (ha : Sm a) : Ret (Rv Try.prog Ms G) 82 [Ar a, Ar b] (.t (.b (decide (a = b))) false) := by
  refine ret_W (NoG.no _ rfl) Try.func82 rfl rfl (by simp [Try.f82]) ?_
  simp only [Try.f82]
  repeat' first | refine W_seq ?_ | (apply W_reg; (simp; exact .r _)) | refine W_block ?_ | refine W_ret ?_
  refine W_cond (by simp; exact .r _) (fun hc => ?_) (fun hc => ?_)
  · repeat' first | refine W_seq ?_ | (apply W_reg; (simp; exact .r _)) | refine W_ret ?_
    have : a ≠ b := fun e => by subst e; simp at hc
    simp [this]
  refine W_skip ?_
  have hl : a.length = b.length := by simp at hc; omega
  repeat' first | refine W_seq ?_ | (apply W_reg; (simp; exact .r _)) | refine W_block ?_ | refine W_ret ?_
  refine W_loop (n := a.length) (fun n s => ∃ i, n = a.length - i ∧ i ≤ a.length ∧ s.nt = 26 ∧ s.tm 0 = Ar a ∧ s.tm 1 = Ar b ∧ s.tm 12 = In a.length ∧ s.tm 13 = In i ∧ a.take i = b.take i) ⟨0, by simp⟩ ?_
  rintro n ⟨nt, tm, σ⟩ ⟨i, rfl, hi, h1, h0, h1', h12, h13, heq⟩
  simp only at h1 h0 h1' h12 h13
  subst h1
  repeat' first | refine W_seq ?_ | (apply W_reg; (simp [h12, h13]; exact .r _))
  refine W_cond (by simp; exact .r _) (fun hc => ?_) (fun hc => ?_)
  · refine W_skip ?_
    have hia : i < a.length := by simpa using hc
    have hib : i < b.length := by omega
    repeat' first | refine W_seq ?_ | refine W_block ?_ | (apply W_reg; (simp [h12, h13]; exact .r _))
    apply W_draw [0, 0, 3, 7, 0, 0, 48, 112, 255] rfl rfl
    · simp; exact .r _
    · simp [h0, h1', hia, hib]; exact .r _
    · trivial
    refine W_cond (by simp; exact .r _) (fun hd => ?_) (fun hd => ?_)
    · repeat' first | refine W_seq ?_ | (apply W_reg; (simp; exact .r _)) | refine W_ret ?_
      have : a ≠ b := fun e => by subst e; simp at hd
      simp [this]
    · have hd : a[i] = b[i] := by simpa using hd
      repeat' first | refine W_skip ?_ | refine W_seq ?_ | (apply W_reg; (simp [h13]; exact .r _))
      refine ⟨a.length - (i + 1), by omega, i + 1, rfl, by omega, rfl, by simp [h0], by simp [h1'], by simp [h12], by simp; exact wrap_succ (by omega), ?_⟩
      rw [List.take_succ_eq_append_getElem hia, List.take_succ_eq_append_getElem hib, heq, hd]
  · have hil : i = a.length := by simp at hc; omega
    subst hil
    refine W_exit (xb_hit ?_)
    repeat' first | refine W_seq ?_ | (apply W_reg; (simp; exact .r _)) | refine W_ret ?_
    rw [List.take_length, hl, List.take_length] at heq
    have : a = b := heq
    simp [this]
end
end Go.Proofs.Ytlehbgapjibeeaa.V

namespace Go.Proofs.Ytlehbgapjibeeaa.V
open Go Go.Proofs
set_option linter.unusedVariables false
set_option linter.unusedSimpArgs false
theorem copyInts_r (l : List Int) (hl : Sm l) : Ret XX 68 [Ar l] (.own 1 (rowsE l)) := by
  refine ret_W rfl Try.func68 rfl rfl (by simp [Try.f68]) ?_
  simp only [Try.f68]
  have h0 : l.length < 1099511627776 := by omega
  repeat' first | refine W_seq ?_ | (apply W_reg; (simp [h0]; exact .r _)) | refine W_ret ?_
  simp
end Go.Proofs.Ytlehbgapjibeeaa.V

namespace Go.Proofs.Ytlehbgapjibeeaa.V
open Go Go.Proofs
set_option linter.unusedVariables false
set_option linter.unusedSimpArgs false
theorem eqInts_r (a b : List Int) (ha : Sm a) : Ret XX 82 [Ar a, Ar b] (.t (.b (decide (a = b))) false) := eqInts_g a b ha
end Go.Proofs.Ytlehbgapjibeeaa.V

namespace Go.Proofs.Ytlehbgapjibeeaa.Shl
open Go.Shelf Go.Proofs
def sortF_ren : Go.Shelf.Ren := ⟨fun | 6 => 93 | 15 => 123 | 14 => 122 | 28 => 144 | 29 => 145 | 20 => 136 | 21 => 137 | 22 => 138 | 23 => 139 | 24 => 140 | 25 => 141 | 26 => 142 | 27 => 143 | 46 => 150 | 47 => 151 | 48 => 152 | 49 => 153 | 50 => 154 | 57 => 158 | n => n, fun | 22 => 54 | 24 => 58 | 25 => 125 | 3 => 3 | 39 => 142 | 0 => 0 | 53 => 153 | 55 => 155 | 4 => 4 | 46 => 146 | 45 => 145 | 50 => 150 | 5 => 5 | 9 => 9 | 66 => 158 | 70 => 162 | 76 => 165 | 77 => 166 | n => n, fun | n => n⟩
theorem sortF : Go.Proofs.SlLaysF0.n6 Try.prog sortF_ren := {
  mixed := by kernel_rfl
  f6 := ⟨Try.f93.name, by decide, Try.func93.trans (congrArg some (by kernel_rfl))⟩
  f14 := ⟨Try.f122.name, by decide, Try.func122.trans (congrArg some (by kernel_rfl))⟩
  f15 := Try.func123.trans (congrArg some (by kernel_rfl))
  f20 := ⟨Try.f136.name, by decide, Try.func136.trans (congrArg some (by kernel_rfl))⟩
  f21 := ⟨Try.f137.name, by decide, Try.func137.trans (congrArg some (by kernel_rfl))⟩
  f22 := ⟨Try.f138.name, by decide, Try.func138.trans (congrArg some (by kernel_rfl))⟩
  f23 := ⟨Try.f139.name, by decide, Try.func139.trans (congrArg some (by kernel_rfl))⟩
  f24 := ⟨Try.f140.name, by decide, Try.func140.trans (congrArg some (by kernel_rfl))⟩
  f25 := ⟨Try.f141.name, by decide, Try.func141.trans (congrArg some (by kernel_rfl))⟩
  f26 := ⟨Try.f142.name, by decide, Try.func142.trans (congrArg some (by kernel_rfl))⟩
  f27 := ⟨Try.f143.name, by decide, Try.func143.trans (congrArg some (by kernel_rfl))⟩
  f28 := Try.func144.trans (congrArg some (by kernel_rfl))
  f29 := Try.func145.trans (congrArg some (by kernel_rfl))
  f46 := ⟨Try.f150.name, by decide, Try.func150.trans (congrArg some (by kernel_rfl))⟩
  f47 := Try.func151.trans (congrArg some (by kernel_rfl))
  f48 := Try.func152.trans (congrArg some (by kernel_rfl))
  f49 := ⟨Try.f153.name, by decide, Try.func153.trans (congrArg some (by kernel_rfl))⟩
  f50 := ⟨Try.f154.name, by decide, Try.func154.trans (congrArg some (by kernel_rfl))⟩
  f57 := ⟨Try.f158.name, by decide, Try.func158.trans (congrArg some (by kernel_rfl))⟩
  t0 := Try.underlying0
  a0 := Try.isAgg0
  z0 := Try.sizeOf0
  v0 := Try.zeroValue0
  t3 := Try.underlying3
  a3 := Try.isAgg3
  z3 := Try.sizeOf3
  v3 := Try.zeroValue3
  t4 := Try.underlying4
  a4 := Try.isAgg4
  z4 := Try.sizeOf4
  v4 := Try.zeroValue4
  t5 := Try.underlying5
  a5 := Try.isAgg5
  z5 := Try.sizeOf5
  v5 := Try.zeroValue5
  t9 := Try.underlying9
  a9 := Try.isAgg9
  z9 := Try.sizeOf9
  v9 := Try.zeroValue9
  t22 := Try.underlying54
  a22 := Try.isAgg54
  z22 := Try.sizeOf54
  v22 := Try.zeroValue54
  t25 := Try.underlying125
  a25 := Try.isAgg125
  z25 := Try.sizeOf125
  v25 := Try.zeroValue125
  t39 := Try.underlying142
  a39 := Try.isAgg142
  z39 := Try.sizeOf142
  v39 := Try.zeroValue142
  t45 := Try.underlying145
  a45 := Try.isAgg145
  z45 := Try.sizeOf145
  v45 := Try.zeroValue145
  t46 := Try.underlying146
  a46 := Try.isAgg146
  z46 := Try.sizeOf146
  v46 := Try.zeroValue146
  t50 := Try.underlying150
  a50 := Try.isAgg150
  z50 := Try.sizeOf150
  v50 := Try.zeroValue150
  t53 := Try.underlying153
  a53 := Try.isAgg153
  z53 := Try.sizeOf153
  v53 := Try.zeroValue153
  t55 := Try.underlying155
  a55 := Try.isAgg155
  z55 := Try.sizeOf155
  v55 := Try.zeroValue155
  t66 := Try.underlying158
  a66 := Try.isAgg158
  z66 := Try.sizeOf158
  v66 := Try.zeroValue158
  t70 := Try.underlying162
  a70 := Try.isAgg162
  z70 := Try.sizeOf162
  v70 := Try.zeroValue162
  t76 := Try.underlying165
  a76 := Try.isAgg165
  z76 := Try.sizeOf165
  v76 := Try.zeroValue165
  t77 := Try.underlying166
  a77 := Try.isAgg166
  z77 := Try.sizeOf166
  v77 := Try.zeroValue166 }
end Go.Proofs.Ytlehbgapjibeeaa.Shl

namespace Go.Proofs.Ytlehbgapjibeeaa.V
open Go Go.Proofs
theorem noGiv : GivOk Try.prog (fun _ => none) := fun f args σ r σ' H => by cases H
theorem mixed : Try.prog.follows .mixedOrders = true := by kernel_rfl
theorem givOk : GivOk Try.prog Gs := by
  intro f args σ r σ' H
  simp only [Option.bind_eq_some_iff] at H
  obtain ⟨g, hg, H⟩ := H
  have hm := lookG_mem hg
  simp only [srtL, List.mem_cons, List.not_mem_nil, or_false, Prod.mk.injEq] at hm
  rcases hm with ⟨rfl, rfl⟩ | ⟨rfl, rfl⟩
  · exact ⟨⟨_, Try.func93, rfl, rfl⟩, fun R hf hargs => sortG_ok (M := Ms) mixed noGiv (sortCon_K (ρ := Shl.sortF_ren) Shl.sortF 2 (fun w => by exact Try.isAgg58 w) (fun w => by exact Try.sizeOf58 w)) pk_agg ⟨fun x y hx hy => cmpF_r x y hx, swoF⟩ (by decide) H R hf hargs⟩
  · cases H
end Go.Proofs.Ytlehbgapjibeeaa.V

namespace Go.Proofs.Ytlehbgapjibeeaa.V
open Go Go.Proofs
set_option linter.unusedVariables false
theorem rowsE_set {α : Type} [Enc α] (l : List α) (i : Nat) (x : α) : rowsE (l.set i x) = (rowsE l).set i (Enc.cells x) := by simp [rowsE, List.map_set]
/-- A name for a slice in an array that owns. -/
def Nm (st : Nat) (rows : List (List T)) (v : Nat) (p : List (Nat × Nat)) (q : List (List T)) : Prop := (p = [] → rows.length = v) ∧ (p ≠ [] → v = st) ∧ rowsAt rows p = some q
theorem Nm.rows {st sz v : Nat} {rows q : List (List T)} {p : List (Nat × Nat)} (h : Nm st rows v p q) : (VO.arr (.own 0) st sz rows).rows v p = some q := by
  obtain ⟨h1, h2, h3⟩ := h
  cases p with
  | nil => simp only [rowsAt, Option.some.injEq] at h3; subst h3; simp [VO.rows, h1 rfl]
  | cons a p => obtain ⟨i, j⟩ := a; simp only [VO.rows]; rw [if_pos ⟨h2 (by simp), Nat.zero_le _⟩]; exact h3
theorem mod_get {α : Type} {l : List α} {i : Nat} {r : α} (f : α → α) (h : l[i]? = some r) : (l.modify i f)[i]? = some (f r) := by
  rw [List.getElem?_modify, h]; simp
theorem rowsAt_set : ∀ {rows : List (List T)} {p : List (Nat × Nat)} {q : List (List T)} (f : List (List T) → List (List T)), rowsAt rows p = some q → rowsAt (setAt rows p f) p = some (f q)
  | rows, [], q, f, h => by simp only [rowsAt, Option.some.injEq] at h; subst h; rfl
  | rows, (i, j) :: p, q, f, h => by
    simp only [rowsAt] at h
    split at h
    · rename_i q0 hq
      rw [Option.bind_eq_some_iff] at hq
      obtain ⟨r, h1, h2⟩ := hq
      simp only [rowsAt, setAt]
      rw [mod_get _ h1]
      simp only [Option.bind_some]
      rw [mod_get _ h2]
      exact rowsAt_set f h
    · cases h
/-- The name stays a name. -/
theorem Nm.set {st v : Nat} {rows q q' : List (List T)} {p : List (Nat × Nat)} (h : Nm st rows v p q) (hl : q'.length = q.length) : Nm st (setAt rows p fun _ => q') v p q' := by
  obtain ⟨h1, h2, h3⟩ := h
  refine ⟨fun e => ?_, h2, rowsAt_set _ h3⟩
  subst e
  simp only [rowsAt, Option.some.injEq] at h3
  subst h3
  simp only [setAt]
  rw [hl]; exact h1 rfl
class Mk (α : Type) where
  cnt : α → Nat
  mrk : Int → α → α
section
variable {α : Type} [Mk α]
def cntL (l : List α) : Nat := (l.map Mk.cnt).sum
def mkL : Int → List α → List α
  | _, [] => []
  | k, a :: l => Mk.mrk k a :: mkL (k + Mk.cnt a) l
end
instance : Mk Int := ⟨fun _ => 1, fun k _ => k⟩
@[simp] theorem cnt_int (x : Int) : Mk.cnt x = 1 := rfl
@[simp] theorem mrk_int (k x : Int) : Mk.mrk k x = k := rfl
instance {α : Type} [Mk α] : Mk (List α) := ⟨cntL, mkL⟩
@[simp] theorem cnt_list {α : Type} [Mk α] (x : List α) : Mk.cnt x = cntL x := rfl
@[simp] theorem mrk_list {α : Type} [Mk α] (k : Int) (x : List α) : Mk.mrk k x = mkL k x := rfl
instance : Mk Cnt := ⟨fun c => cntL c.tuple + 1, fun k c => ⟨mkL k c.tuple, k + cntL c.tuple⟩⟩
/-- Atoms and facts: the relation first. -/
instance : Mk RA := ⟨fun a => 1 + cntL a.args, fun k a => ⟨k, mkL (k + 1) a.args⟩⟩
instance : Mk Qry := ⟨fun q => cntL q.head + cntL q.body, fun k q => ⟨mkL k q.head, mkL (k + cntL q.head) q.body⟩⟩
end Go.Proofs.Ytlehbgapjibeeaa.V

namespace Go.Proofs.Ytlehbgapjibeeaa.V
open Go Go.Proofs
set_option linter.unusedVariables false
structure Src where
  facts : List RA
  version : Int
  deriving DecidableEq
instance : Enc Src := ⟨fun a => [.sl (rowsE a.facts), .i .i64 a.version], 2, false, fun _ => rfl, fun h => by cases h⟩
@[simp] theorem cells_Src (a : Src) : Enc.cells a = [.sl (rowsE a.facts), .i .i64 a.version] := rfl
@[simp] theorem n_Src : Enc.n Src = 2 := rfl
structure Chg where
  insert : Bool
  fact : RA
  deriving DecidableEq
instance : Enc Chg := ⟨fun a => [.b a.insert, .i .i64 a.fact.rel, .sl (rowsE a.fact.args)], 3, false, fun _ => rfl, fun h => by cases h⟩
@[simp] theorem cells_Chg (a : Chg) : Enc.cells a = [.b a.insert, .i .i64 a.fact.rel, .sl (rowsE a.fact.args)] := rfl
@[simp] theorem n_Chg : Enc.n Chg = 3 := rfl
structure Cch where
  views : List Qry
  tables : List (List (List Int))
  version : Int
  deriving DecidableEq
instance : Enc Cch := ⟨fun a => [.sl (rowsE a.views), .sl (rowsE a.tables), .i .i64 a.version], 3, false, fun _ => rfl, fun h => by cases h⟩
@[simp] theorem cells_Cch (a : Cch) : Enc.cells a = [.sl (rowsE a.views), .sl (rowsE a.tables), .i .i64 a.version] := rfl
@[simp] theorem n_Cch : Enc.n Cch = 3 := rfl
structure Wtd where
  query : Qry
  weight : Int
  deriving DecidableEq
instance : Enc Wtd := ⟨fun a => [.sl (rowsE a.query.head), .sl (rowsE a.query.body), .i .i64 a.weight], 3, false, fun _ => rfl, fun h => by cases h⟩
@[simp] theorem cells_Wtd (a : Wtd) : Enc.cells a = [.sl (rowsE a.query.head), .sl (rowsE a.query.body), .i .i64 a.weight] := rfl
@[simp] theorem n_Wtd : Enc.n Wtd = 3 := rfl
structure Crt where
  rw_ : Qry
  forth : List Int
  back : List Int
  deriving DecidableEq
instance : Enc Crt := ⟨fun a => [.sl (rowsE a.rw_.head), .sl (rowsE a.rw_.body), .sl (rowsE a.forth), .sl (rowsE a.back)], 4, false, fun _ => rfl, fun h => by cases h⟩
@[simp] theorem cells_Crt (a : Crt) : Enc.cells a = [.sl (rowsE a.rw_.head), .sl (rowsE a.rw_.body), .sl (rowsE a.forth), .sl (rowsE a.back)] := rfl
@[simp] theorem n_Crt : Enc.n Crt = 4 := rfl
structure Ses where
  seen : Int
  lag : Int
  deriving DecidableEq
instance : Enc Ses := ⟨fun a => [.i .i64 a.seen, .i .i64 a.lag], 2, true, fun _ => rfl, fun _ _ => rfl⟩
@[simp] theorem cells_Ses (a : Ses) : Enc.cells a = [.i .i64 a.seen, .i .i64 a.lag] := rfl
@[simp] theorem n_Ses : Enc.n Ses = 2 := rfl
instance : Mk Wtd := ⟨fun w => cntL w.query.head + cntL w.query.body + 1, fun k w => ⟨⟨mkL k w.query.head, mkL (k + cntL w.query.head) w.query.body⟩, k + cntL w.query.head + cntL w.query.body⟩⟩
/-- What a size function counts; bounds on what it counted. -/
class Lw (α : Type) where
  w : α → Nat
  bd : Nat → α → Prop
  bd_of : ∀ (N : Nat) (a : α), w a ≤ N → bd N a
instance : Lw Int := ⟨fun _ => 0, fun _ _ => True, fun _ _ _ => trivial⟩
def wL {α : Type} [Lw α] (l : List α) : Nat := l.length + (l.map Lw.w).sum
theorem wL_mem {α : Type} [Lw α] {l : List α} {x : α} (h : x ∈ l) : Lw.w x ≤ (l.map Lw.w).sum := by
  induction l with
  | nil => simp at h
  | cons a l ih =>
    simp only [List.map_cons, List.sum_cons]
    rcases List.mem_cons.1 h with rfl | h
    · omega
    · have := ih h; omega
instance {α : Type} [Lw α] : Lw (List α) := ⟨wL, fun N l => l.length ≤ N ∧ ∀ x ∈ l, Lw.bd N x, fun N l h => ⟨by unfold wL at h; omega, fun x hx => Lw.bd_of N x (by have := wL_mem hx; unfold wL at h; omega)⟩⟩
@[simp] theorem w_int (x : Int) : Lw.w x = 0 := rfl
theorem w_list {α : Type} [Lw α] (x : List α) : Lw.w x = wL x := rfl
instance : Lw RA := ⟨fun a => wL a.args, fun N a => Lw.bd N a.args, fun N a h => Lw.bd_of N a.args h⟩
instance : Lw Cnt := ⟨fun a => wL a.tuple, fun N a => Lw.bd N a.tuple, fun N a h => Lw.bd_of N a.tuple h⟩
instance : Lw Sch := ⟨fun a => wL a.arity, fun N a => Lw.bd N a.arity, fun N a h => Lw.bd_of N a.arity h⟩
instance : Lw Qry := ⟨fun a => wL a.head + wL a.body, fun N a => Lw.bd N a.head ∧ Lw.bd N a.body, fun N a h => ⟨Lw.bd_of N a.head (by rw [w_list]; omega), Lw.bd_of N a.body (by rw [w_list]; omega)⟩⟩
instance : Lw Src := ⟨fun a => wL a.facts, fun N a => Lw.bd N a.facts, fun N a h => Lw.bd_of N a.facts h⟩
instance : Lw Chg := ⟨fun a => wL a.fact.args, fun N a => Lw.bd N a.fact.args, fun N a h => Lw.bd_of N a.fact.args h⟩
instance : Lw Cch := ⟨fun a => wL a.views + wL a.tables, fun N a => Lw.bd N a.views ∧ Lw.bd N a.tables, fun N a h => ⟨Lw.bd_of N a.views (by rw [w_list]; omega), Lw.bd_of N a.tables (by rw [w_list]; omega)⟩⟩
instance : Lw Wtd := ⟨fun a => wL a.query.head + wL a.query.body, fun N a => Lw.bd N a.query, fun N a h => Lw.bd_of N a.query h⟩
instance : Lw Crt := ⟨fun a => wL a.rw_.head + wL a.rw_.body + wL a.forth + wL a.back, fun N a => Lw.bd N a.rw_ ∧ Lw.bd N a.forth ∧ Lw.bd N a.back,
  fun N a h => ⟨Lw.bd_of N a.rw_ (show wL a.rw_.head + wL a.rw_.body ≤ N by omega), Lw.bd_of N a.forth (by rw [w_list]; omega), Lw.bd_of N a.back (by rw [w_list]; omega)⟩⟩
/-- The maximal length of Go's slices: lengths can be told. -/
def Fit {α : Type} [Lw α] (a : α) : Prop := Lw.bd 9223372036854775807 a
end Go.Proofs.Ytlehbgapjibeeaa.V

namespace Go.Proofs.Ytlehbgapjibeeaa.V
open Go Go.Proofs
set_option linter.unusedVariables false
set_option linter.unusedSimpArgs false
theorem l2Ints_r (a b : List Int) (ha : Sm a) : Ret XX 61 [Ar a, Ar b] (.t (.b (decide (a = b))) false) := by
  refine ret_W rfl Try.func61 rfl rfl (by simp [Try.f61]) ?_
  simp only [Try.f61]
  repeat' first|refine nx ?_|refine xb_miss (by decide) ?_|(apply W_reg;(simp;exact .r _))
  refine W_cond (by simp; exact .r _) (fun hc => ?_) (fun hc => ?_)
  · repeat' first|refine nx ?_|refine xb_miss (by decide) ?_|(apply W_reg;(simp;exact .r _))
    have : a ≠ b := fun e => by subst e; simp at hc
    simp [this]
  have hl : a.length = b.length := by simp at hc; omega
  repeat' first|refine nx ?_|refine xb_miss (by decide) ?_|(apply W_reg;(simp;exact .r _))
  refine W_loop (n := a.length) (fun n s => ∃ i : Nat, n = a.length - i ∧ s.nt = 26 ∧ s.tm 0 = Ar a ∧ s.tm 1 = Ar b ∧ s.tm 5 = In i ∧ i ≤ a.length ∧ a.take i = b.take i) ⟨0, by simp⟩ ?_
  rintro n ⟨nt, tm, σ⟩ ⟨i, rfl, hnt, h0, h1, h5, hi, heq⟩
  simp only at hnt h0 h1 h5
  subst hnt
  repeat' first|refine nx ?_|refine xb_miss (by decide) ?_|(apply W_reg;(simp [h0, h1, h5];exact .r _))
  refine W_cond (by simp [h0, h1, h5]; exact .r _) (fun hc => ?_) (fun hc => ?_)
  · have hia : i < a.length := by simpa using hc
    have hib : i < b.length := by omega
    repeat' first|refine nx ?_|refine xb_miss (by decide) ?_|(apply W_reg;(simp [h0, h1, h5, hia, hib];exact .r _))|(apply W_draw (id := 6) [0,0,3,7,0,0,48,112,255] rfl rfl; (· simp; exact .r _); (· simp [h0, h1, h5, hia, hib]; exact .r _); (· first|trivial|simp))
    refine W_cond (by simp [h0, h1, h5]; exact .r _) (fun hd => ?_) (fun hd => ?_)
    · repeat' first|refine nx ?_|refine xb_miss (by decide) ?_|(apply W_reg;(simp [h0, h1, h5];exact .r _))
      have : a ≠ b := fun e => by subst e; simp at hd
      simp [this]
    · have hd : a[i] = b[i] := by simpa using hd
      repeat' first|refine nx ?_|refine xb_miss (by decide) ?_|(apply W_reg;(simp [h0, h1, h5];exact .r _))
      refine ⟨_, ?_, i + 1, rfl, rfl, ?_, ?_, ?_, by omega, by rw [List.take_succ_eq_append_getElem hia, List.take_succ_eq_append_getElem hib, heq, hd]⟩
      all_goals first|assumption|(simp [h0, h1, h5];done)|(simp [h0, h1, h5];omega)|(simp [h0, h1, h5];exact wrap_succ (by omega))|omega
  · have hil : i = a.length := by simp at hc; omega
    subst hil
    repeat' first|refine nx ?_|refine xb_miss (by decide) ?_|(apply W_reg;(simp [h0, h1, h5];exact .r _))
    rw [List.take_length, hl, List.take_length] at heq
    have : a = b := heq
    simp [this]
theorem l2Less_r (a b : List Int) (ha : Sm a) : Ret XX 125 [Ar a, Ar b] (.t (.b (decide (cmpI a b < 0))) false) := by
  refine ret_W rfl Try.func125 rfl rfl (by simp [Try.f125]) ?_
  simp only [Try.f125]
  repeat' first|refine nx ?_|refine xb_miss (by decide) ?_|(apply W_reg;(simp;exact .r _))
  refine W_loop (n := a.length) (fun n s => ∃ i : Nat, n = a.length - i ∧ s.nt = 41 ∧ s.tm 0 = Ar a ∧ s.tm 1 = Ar b ∧ s.tm 5 = In i ∧ i ≤ a.length ∧ i ≤ b.length ∧ cmpI a b = cmpI (a.drop i) (b.drop i)) ⟨0, by simp⟩ ?_
  rintro n ⟨nt, tm, σ⟩ ⟨i, rfl, hnt, h0, h1, h5, hi, hib, heq⟩
  simp only at hnt h0 h1 h5
  subst hnt
  by_cases hia : i < a.length
  · by_cases hib' : i < b.length
    · repeat' first|refine nx ?_|refine xb_miss (by decide) ?_|(apply W_reg;(simp [h0, h1, h5, hia, hib'];exact .r _))
      refine W_cond (by simp [h0, h1, h5]; exact .r _) (fun hc => ?_) (fun hc => ?_)
      · repeat' first|refine nx ?_|refine xb_miss (by decide) ?_|(apply W_reg;(simp [h0, h1, h5, hia, hib'];exact .r _))|(apply W_draw (id := 4) [0,0,3,7,0,0,48,112,255] rfl rfl; (· simp; exact .r _); (· simp [h0, h1, h5, hia, hib']; exact .r _); (· first|trivial|simp))
        rw [cmpI_step hia hib'] at heq
        refine W_cond (by simp [h0, h1, h5]; exact .r _) (fun hd => ?_) (fun hd => ?_)
        · repeat' first|refine nx ?_|refine xb_miss (by decide) ?_|(apply W_reg;(simp [h0, h1, h5, hia, hib'];exact .r _))|(apply W_draw (id := 5) [0,0,3,7,0,0,48,112,255,511] rfl rfl; (· simp; exact .r _); (· simp [h0, h1, h5, hia, hib']; exact .r _); (· first|trivial|simp))
          have hne : a[i] ≠ b[i] := by simpa using hd
          by_cases h : a[i] < b[i]
          · simp [heq, h]
          · have h2 : b[i] < a[i] := by omega
            simp [heq, h, h2]
        · have hd : a[i] = b[i] := by simpa using hd
          repeat' first|refine nx ?_|refine xb_miss (by decide) ?_|(apply W_reg;(simp [h0, h1, h5];exact .r _))
          refine ⟨_, ?_, i + 1, rfl, rfl, ?_, ?_, ?_, by omega, by omega, by rw [heq, if_neg (by omega), if_neg (by omega)]⟩
          all_goals first|assumption|(simp [h0, h1, h5];done)|(simp [h0, h1, h5];omega)|(simp [h0, h1, h5];exact wrap_succ (by omega))|omega
      · simp at hc
    · repeat' first|refine nx ?_|refine xb_miss (by decide) ?_|(apply W_reg;(simp [h0, h1, h5, hia, hib'];exact .r _))
      refine W_cond (by simp [h0, h1, h5]; exact .r _) (fun hc => ?_) (fun hc => ?_)
      · simp at hc
      · repeat' first|refine nx ?_|refine xb_miss (by decide) ?_|(apply W_reg;(simp [h0, h1, h5];exact .r _))
        have hbe : i = b.length := by omega
        subst hbe
        rw [List.drop_eq_getElem_cons hia, List.drop_length] at heq
        have : ¬ a.length < b.length := by omega
        simp [heq, cmpI, this]
  · repeat' first|refine nx ?_|refine xb_miss (by decide) ?_|(apply W_reg;(simp [h0, h1, h5, hia];exact .r _))
    refine W_cond (by simp [h0, h1, h5]; exact .r _) (fun hc => ?_) (fun hc => ?_)
    · simp at hc
    · repeat' first|refine nx ?_|refine xb_miss (by decide) ?_|(apply W_reg;(simp [h0, h1, h5];exact .r _))
      have hae : i = a.length := by omega
      subst hae
      rw [List.drop_length] at heq
      by_cases h : a.length < b.length
      · rw [List.drop_eq_getElem_cons h] at heq
        simp [heq, cmpI, h]
      · rw [List.drop_eq_nil_of_le (by omega)] at heq
        simp [heq, cmpI, h]
end Go.Proofs.Ytlehbgapjibeeaa.V

namespace Go.Proofs.Ytlehbgapjibeeaa.V
open Go Go.Proofs
set_option linter.unusedVariables false
set_option linter.unusedSimpArgs false
theorem within_r (x lo hi : Int) : Ret XX 51 [In x, In lo, In hi] (.t (.b (inR x lo hi)) false) := by
  refine ret_W rfl Try.func51 rfl rfl (by simp [Try.f51]) ?_
  simp only [Try.f51]
  by_cases h : lo ≤ x
  · repeat' first|refine nx ?_|refine xb_miss (by decide) ?_|(apply W_reg;(simp [h];exact .r _))
    simp [inR, h]
  · repeat' first|refine nx ?_|refine xb_miss (by decide) ?_|(apply W_reg;(simp [h];exact .r _))
    simp [inR, h]
theorem l1In_r (x lo hi : Int) : Ret XX 53 [In x, In lo, In hi] (.t (.b (inR x lo hi)) false) := by
  refine ret_W rfl Try.func53 rfl rfl (by simp [Try.f53]) ?_
  simp only [Try.f53]
  by_cases h : lo ≤ x
  · repeat' first|refine nx ?_|refine xb_miss (by decide) ?_|(apply W_reg;(simp [h];exact .r _))
    simp [inR, h]
  · repeat' first|refine nx ?_|refine xb_miss (by decide) ?_|(apply W_reg;(simp [h];exact .r _))
    simp [inR, h]
theorem areValues_r (l : List Int) (hl : Sm l) : Ret XX 121 [Ar l] (.t (.b (l.all fun x => inR x 0 99)) false) := by
  refine ret_W rfl Try.func121 rfl rfl (by simp [Try.f121]) ?_
  simp only [Try.f121]
  repeat' first|refine nx ?_|refine xb_miss (by decide) ?_|(apply W_reg;(simp;exact .r _))
  refine W_loop (n := l.length) (fun n s => ∃ i : Nat, n = l.length - i ∧ s.nt = 15 ∧ s.tm 5 = Ar l ∧ s.tm 6 = In l.length ∧ s.tm 7 = In i ∧ i ≤ l.length ∧ (l.all fun x => inR x 0 99) = ((l.drop i).all fun x => inR x 0 99)) ⟨0, by simp⟩ ?_
  rintro n ⟨nt, tm, σ⟩ ⟨i, rfl, hnt, h5, h6, h7, hi, heq⟩
  simp only at hnt h5 h6 h7
  subst hnt
  repeat' first|refine nx ?_|refine xb_miss (by decide) ?_|(apply W_reg;(simp [h5, h6, h7];exact .r _))
  refine W_cond (by simp [h5, h6, h7]; exact .r _) (fun hc => ?_) (fun hc => ?_)
  · have hil : i < l.length := by simpa using hc
    have hcc := cv (within_r l[i] 0 99)
    repeat' first|refine nx ?_|refine xb_miss (by decide) ?_|(apply W_reg;(simp [h5, h6, h7, hil, hcc];exact .r _))
    rw [List.drop_eq_getElem_cons hil, List.all_cons] at heq
    refine W_cond (by simp [h5, h6, h7]; exact .r _) (fun hd => ?_) (fun hd => ?_)
    · repeat' first|refine nx ?_|refine xb_miss (by decide) ?_|(apply W_reg;(simp [h5, h6, h7];exact .r _))
      have hd' : inR l[i] 0 99 = false := by simpa using hd
      rw [heq, hd']; simp
    · have hd' : inR l[i] 0 99 = true := by simpa using hd
      repeat' first|refine nx ?_|refine xb_miss (by decide) ?_|(apply W_reg;(simp [h5, h6, h7];exact .r _))
      refine ⟨_, ?_, i + 1, rfl, rfl, ?_, ?_, ?_, by omega, by (rw [heq]; simp [hd'])⟩
      all_goals first|assumption|(simp [h5, h6, h7];done)|(simp [h5, h6, h7];omega)|(simp [h5, h6, h7];exact wrap_succ (by omega))|omega
  · have hil : i = l.length := by simp at hc; omega
    subst hil
    repeat' first|refine nx ?_|refine xb_miss (by decide) ?_|(apply W_reg;(simp [h5, h6, h7];exact .r _))
    rw [heq, List.drop_length]; simp
theorem implIsSchema_r (c : Sch) (hl : Sm c.arity) : Ret XX 72 [Ag c] (.t (.b (isSch c)) false) := by
  refine ret_W rfl Try.func72 rfl rfl (by simp [Try.f72]) ?_
  simp only [Try.f72]
  repeat' first|refine nx ?_|refine xb_miss (by decide) ?_|(apply W_reg;(simp [Ag];exact .r _))
  refine W_loop (n := c.arity.length) (fun n s => ∃ i : Nat, n = c.arity.length - i ∧ s.nt = 20 ∧ s.tm 1 = .ptr 0 0 ∧ s.tm 6 = Ar c.arity ∧ s.tm 7 = In c.arity.length ∧ s.tm 8 = In i ∧ i ≤ c.arity.length ∧ c.arity.all (fun x => inR x 1 3) = (c.arity.drop i).all (fun x => inR x 1 3) ∧ s.σ.ob 0 = .box [Ar c.arity]) ⟨0, by simp⟩ ?_
  rintro n ⟨nt, tm, σ⟩ ⟨i, rfl, hnt, h1, h6, h7, h8, hi, heq, hb⟩
  simp only at hnt h1 h6 h7 h8 hb
  subst hnt
  repeat' first|refine nx ?_|refine xb_miss (by decide) ?_|(apply W_reg;(simp [h1, h6, h7, h8, hb];exact .r _))
  refine W_cond (by simp [h1, h6, h7, h8, hb]; exact .r _) (fun hc => ?_) (fun hc => ?_)
  · have hil : i < c.arity.length := by simpa using hc
    have hcc := cv (within_r c.arity[i] 1 3)
    repeat' first|refine nx ?_|refine xb_miss (by decide) ?_|(apply W_reg;(simp [h1, h6, h7, h8, hb, hil, hcc];exact .r _))
    rw [List.drop_eq_getElem_cons hil, List.all_cons] at heq
    refine W_cond (by simp [h1, h6, h7, h8, hb]; exact .r _) (fun hd => ?_) (fun hd => ?_)
    · repeat' first|refine nx ?_|refine xb_miss (by decide) ?_|(apply W_reg;(simp [h1, h6, h7, h8, hb];exact .r _))
      have hd' : (fun x => inR x 1 3) c.arity[i] = false := by simpa using hd
      simp [isSch, heq, hd']
    · have hd' : (fun x => inR x 1 3) c.arity[i] = true := by simpa using hd
      repeat' first|refine nx ?_|refine xb_miss (by decide) ?_|(apply W_reg;(simp [h1, h6, h7, h8, hb];exact .r _))
      refine ⟨_, ?_, i + 1, rfl, rfl, ?_, ?_, ?_, ?_, by omega, by (rw [heq]; simp [hd']), ?_⟩
      all_goals first|assumption|(simp [h1, h6, h7, h8, hb];done)|(simp [h1, h6, h7, h8, hb];omega)|(simp [h1, h6, h7, h8, hb];exact wrap_succ (by omega))|omega
  have hil : i = c.arity.length := by simp at hc; omega
  subst hil
  rw [List.drop_length, List.all_nil] at heq
  have h9 := cv (within_r c.arity.length 1 4)
  repeat' first|refine nx ?_|refine xb_miss (by decide) ?_|(apply W_reg;(simp [h1, h6, h7, h8, hb, h9];exact .r _))
  simp [isSch, heq]
theorem specIsSchema_r (c : Sch) (hl : Sm c.arity) : Ret XX 99 [Ag c] (.t (.b (isSch c)) false) := by
  refine ret_W rfl Try.func99 rfl rfl (by simp [Try.f99]) ?_
  simp only [Try.f99]
  repeat' first|refine nx ?_|refine xb_miss (by decide) ?_|(apply W_reg;(simp [Ag];exact .r _))
  refine W_loop (n := c.arity.length) (fun n s => ∃ i : Nat, n = c.arity.length - i ∧ s.nt = 22 ∧ s.tm 1 = .ptr 0 0 ∧ s.tm 3 = In i ∧ i ≤ c.arity.length ∧ c.arity.all (fun x => inR x 1 3) = (c.arity.drop i).all (fun x => inR x 1 3) ∧ s.σ.ob 0 = .box [Ar c.arity]) ⟨0, by simp⟩ ?_
  rintro n ⟨nt, tm, σ⟩ ⟨i, rfl, hnt, h1, h3, hi, heq, hb⟩
  simp only at hnt h1 h3 hb
  subst hnt
  repeat' first|refine nx ?_|refine xb_miss (by decide) ?_|(apply W_reg;(simp [h1, h3, hb];exact .r _))
  refine W_cond (by simp [h1, h3, hb]; exact .r _) (fun hc => ?_) (fun hc => ?_)
  · have hil : i < c.arity.length := by simpa using hc
    have hcc := cv (l1In_r c.arity[i] 1 3)
    repeat' first|refine nx ?_|refine xb_miss (by decide) ?_|(apply W_reg;(simp [h1, h3, hb, hil, hcc];exact .r _))
    rw [List.drop_eq_getElem_cons hil, List.all_cons] at heq
    refine W_cond (by simp [h1, h3, hb]; exact .r _) (fun hd => ?_) (fun hd => ?_)
    · repeat' first|refine nx ?_|refine xb_miss (by decide) ?_|(apply W_reg;(simp [h1, h3, hb];exact .r _))
      have hd' : (fun x => inR x 1 3) c.arity[i] = false := by simpa using hd
      simp [isSch, heq, hd']
    · have hd' : (fun x => inR x 1 3) c.arity[i] = true := by simpa using hd
      repeat' first|refine nx ?_|refine xb_miss (by decide) ?_|(apply W_reg;(simp [h1, h3, hb];exact .r _))
      refine ⟨_, ?_, i + 1, rfl, rfl, ?_, ?_, by omega, by (rw [heq]; simp [hd']), ?_⟩
      all_goals first|assumption|(simp [h1, h3, hb];done)|(simp [h1, h3, hb];omega)|(simp [h1, h3, hb];exact wrap_succ (by omega))|omega
  have hil : i = c.arity.length := by simp at hc; omega
  subst hil
  rw [List.drop_length, List.all_nil] at heq
  have h9 := cv (l1In_r c.arity.length 1 4)
  repeat' first|refine nx ?_|refine xb_miss (by decide) ?_|(apply W_reg;(simp [h1, h3, hb, h9];exact .r _))
  simp [isSch, heq]
theorem takes_r (c : Sch) (rel n : Int) (hl : Sm c.arity) : Ret XX 113 [Ag c, In rel, In n] (.t (.b (takes c rel n)) false) := by
  refine ret_W rfl Try.func113 rfl rfl (by simp [Try.f113]) ?_
  simp only [Try.f113]
  have h1 := cv (implIsSchema_r c hl)
  have h2 := cv (within_r rel 0 (c.arity.length - 1))
  have hw : IntKind.i64.wrap ((c.arity.length : Int) - 1) = (c.arity.length : Int) - 1 := wrap_ok (by omega) (by omega)
  simp only [Ag, cells_Sch, List.map_cons, List.map_nil] at h1
  cases e1 : isSch c
  · repeat' first|refine nx ?_|refine xb_miss (by decide) ?_|(apply W_reg;(simp [Ag, h1, e1];exact .r _))
    simp [takes, e1]
  · cases e2 : inR rel 0 (c.arity.length - 1)
    · repeat' first|refine nx ?_|refine xb_miss (by decide) ?_|(apply W_reg;(simp [Ag, h1, e1, h2, e2, hw];exact .r _))
      simp [takes, e2]
    · have hb : 0 ≤ rel ∧ rel ≤ c.arity.length - 1 := by simpa [inR] using e2
      have hr : rel.toNat < c.arity.length := by omega
      have hr0 : 0 ≤ rel := hb.1
      repeat' first|refine nx ?_|refine xb_miss (by decide) ?_|(apply W_reg;(simp [Ag, h1, e1, h2, e2, hw, hr, hr0];exact .r _))
      simp [takes, e1, e2, hr]
theorem implIsFact_r (c : Sch) (a : RA) (hl : Sm c.arity) (ha : Sm a.args) : Ret XX 92 [Ag c, Ag a] (.t (.b (isFact c a)) false) := by
  refine ret_W rfl Try.func92 rfl rfl (by simp [Try.f92]) ?_
  simp only [Try.f92]
  have h1 := cv (takes_r c a.rel a.args.length hl)
  have h2 := cv (areValues_r a.args ha)
  simp only [Ag, cells_Sch, List.map_cons, List.map_nil] at h1
  cases e1 : takes c a.rel a.args.length
  · repeat' first|refine nx ?_|refine xb_miss (by decide) ?_|(apply W_reg;(simp [Ag, h1, e1];exact .r _))
    simp [isFact, e1]
  · repeat' first|refine nx ?_|refine xb_miss (by decide) ?_|(apply W_reg;(simp [Ag, h1, e1, h2];exact .r _))
    simp [isFact, e1]
end Go.Proofs.Ytlehbgapjibeeaa.V

namespace Go.Proofs.Ytlehbgapjibeeaa.V
open Go Go.Proofs
set_option linter.unusedVariables false
set_option linter.unusedSimpArgs false
structure By where
  n : Int
  deriving DecidableEq
instance : Enc By := ⟨fun b => [.i .u8 b.n], 1, true, fun _ => rfl, fun _ _ => rfl⟩
@[simp] theorem cells_By (a : By) : Enc.cells a = [.i .u8 a.n] := rfl
@[simp] theorem n_By : Enc.n By = 1 := rfl
abbrev CU (b : List By) (i : Nat) (h : Int) : List T := [.sl (rowsE b), .i .i64 i, .i .i64 h]
def CQ (b : List By) (cs : List T) : Prop := ∃ (i : Nat) (h : Int), i ≤ b.length ∧ cs = CU b i h
theorem cvP {f : Nat} {cs cs' : List T} {as_ : List AV} {x : XV} (H : RetP XX f cs as_ x cs') (hM : Ms f = true := by rfl) (hP : Ms (f + 1000000) = true := by rfl) (σ : Sto) (o : Nat) (args : List AV) (ho : σ.ob o = .box (cs.map .t)) (ha : args.mapM (reify σ) = some as_) :
    callV Ms XX σ f (.ptr o 0 :: args) = (freezeL σ (args.flatMap ids)).map fun σf => place (σf.set o (.box (cs'.map .t))) x := callP_ret H hM hP ho ha
theorem cvP0 {f : Nat} {cs cs' : List T} {x : XV} (H : RetP XX f cs [] x cs') (hM : Ms f = true := by rfl) (hP : Ms (f + 1000000) = true := by rfl) (σ : Sto) (o : Nat) (ho : σ.ob o = .box (cs.map .t)) : callV Ms XX σ f [.ptr o 0] = some (place (σ.set o (.box (cs'.map .t))) x) := callP_ret H hM hP ho (args := []) rfl
theorem W_gv {P : Program} {M : Nat → Bool} {G : Giv} {c : Code} {s : VS} {N : VS → Prop} {X : Nat → VS → Prop} {K : VS → Prop} (Q : VS → Prop) (h : Q s) (hw : ∀ s2, Q s2 → W P M G c s2 N X K) : W P M G c s N X K := hw s h
theorem and255 (x : Nat) : 0 ≤ IntKind.i64.wrap ((x &&& 255 % 2 ^ IntKind.i64.bits : Nat) : Int) ∧ IntKind.i64.wrap ((x &&& 255 % 2 ^ IntKind.i64.bits : Nat) : Int) ≤ 255 := by
  have h : (x &&& 255 % 2 ^ IntKind.i64.bits : Nat) ≤ 255 := Nat.le_trans Nat.and_le_right (by decide)
  rw [wrap_ok (by omega) (by omega)]
  omega
theorem l1Byte_p (b : List By) (i : Nat) (h : Int) (hb : Sm b) (hi : i ≤ b.length) : ∃ x cs', ((∃ n : Int, (0 ≤ n ∧ n ≤ 255) ∧ x = .t (.i .i64 n) false) ∧ CQ b cs') ∧ RetP XX 119 (CU b i h) [] x cs' := by
  refine ret_PW rfl Try.func119 rfl rfl (by simp [Try.f119]) ?_
  simp only [Try.f119]
  have hbl : b.length < 1099511627775 := hb
  simp only [CU, List.map_cons, List.map_nil]
  refine W_seq ?_
  apply W_reg; (simp; exact .r _)
  refine W_seq ?_
  apply W_reg; (simp; exact .r _)
  obtain ⟨h1, e1⟩ : ∃ h1, IntKind.i64.wrap (IntKind.i64.wrap (h * 6364136223846793005) + 1442695040888963407) = h1 := ⟨_, rfl⟩
  rw [e1]
  refine W_seq ?_
  apply W_draw (id := 2) [0, 1, 3, 7, 15, 0, 32, 96, 224, 480, 1023, 2047, 4095] rfl rfl
  · simp; exact .r _
  · simp; exact .r _
  · first | trivial | simp
  refine W_gv (fun s2 => s2.nt = 58 ∧ s2.tm 0 = .ptr 0 0 ∧ (∃ n : Int, (0 ≤ n ∧ n ≤ 255) ∧ s2.tm 3 = In n) ∧ s2.σ.ob 0 = .box [Ar b, In i, In h1]) ⟨rfl, by simp, ⟨_, and255 _, by simp; rfl⟩, by simp⟩ ?_
  rintro ⟨nt, tm, σ⟩ ⟨q1, q2, ⟨n, q3, q4⟩, q5⟩
  simp only at q1 q2 q4 q5
  subst q1
  by_cases hl : i < b.length
  · repeat' first|refine nx ?_|refine xb_miss (by decide) ?_|(apply W_reg;(simp [q2, q4, q5, hl];exact .r _))|(apply W_draw (id := 3) [0,1,3,7,0,16,48,112,240,511] rfl rfl; (· simp; exact .r _); (· simp [q2, q4, q5, hl]; exact .r _); (· first|trivial|simp))
    refine W_cond (by simp [q2, q4, q5]; exact .r _) (fun hc => ?_) (fun hc => ?_)
    · refine W_seq ?_
      apply W_draw (id := 4) [0, 0, 2, 6, 14, 0, 32, 96, 224, 510, 1022, 2046, 4095, 8191, 16383] rfl rfl
      · simp; exact .r _
      · simp [q2, q4, q5, hl]; exact .r _
      · first | trivial | simp
      refine W_gv (fun s2 => s2.nt = 58 ∧ s2.tm 0 = .ptr 0 0 ∧ (∃ n : Int, (0 ≤ n ∧ n ≤ 255) ∧ s2.tm 3 = In n) ∧ s2.σ.ob 0 = .box [Ar b, In i, In h1]) ⟨rfl, by simp [q2], ⟨_, and255 _, by simp; rfl⟩, by simp [q5]⟩ ?_
      rintro ⟨nt, tm, σ⟩ ⟨q1, q2, ⟨n, q3, q4⟩, q5⟩
      simp only at q1 q2 q4 q5
      subst q1
      have wr1_ : IntKind.i64.wrap ((i : Int) + 1) = (i : Int) + 1 := wrap_ok (by omega) (by omega)
      repeat' first|refine nx ?_|refine xb_miss (by decide) ?_|(apply W_reg;(simp [q2, q4, q5, wr1_];exact .r _))
      exact EndsP.mk (cs' := CU b (i + 1) h1) (x := .t (.i .i64 n) false) (v := In n) (by simp [q2, q4, q5, wr1_]) (by simp [q2, q4, q5, wr1_]) (by simp) ⟨⟨n, q3, rfl⟩, i + 1, h1, by omega, rfl⟩
    · exact absurd hc (by simp [hl])
  · have hil : i = b.length := by omega
    subst hil
    repeat' first|refine nx ?_|refine xb_miss (by decide) ?_|(apply W_reg;(simp [q2, q4, q5];exact .r _))|(apply W_draw (id := 3) [0,1,3,7,0,16,48,112,240,511] rfl rfl; (· simp; exact .r _); (· simp [q2, q4, q5]; exact .r _); (· first|trivial|simp))
    refine W_cond (by simp [q2, q4, q5]; exact .r _) (fun hc => ?_) (fun hc => ?_)
    · simp at hc
    repeat' first|refine nx ?_|refine xb_miss (by decide) ?_|(apply W_reg;(simp [q2, q4, q5];exact .r _))
    exact EndsP.mk (cs' := CU b b.length h1) (x := .t (.i .i64 n) false) (v := In n) (by simp [q2, q4, q5]) (by simp [q2, q4, q5]) (by simp) ⟨⟨n, q3, rfl⟩, b.length, h1, by omega, rfl⟩
/-- What is asked of the end of a function whose answer is told by a property alone. -/
def EndsQ (P : Program) (rs : Array ResultVar) (Q : XV → Prop) (s : VS) : Prop := ∃ v x, resV P rs s.tm s.σ = some v ∧ expR s.σ v = some x ∧ Q x
theorem EndsQ.mk {P : Program} {rs : Array ResultVar} {Q : XV → Prop} {s : VS} {v : AV} {x : XV} (h1 : resV P rs s.tm s.σ = some v) (h3 : expR s.σ v = some x) (h4 : Q x) : EndsQ P rs Q s := ⟨v, x, h1, h3, h4⟩
theorem ret_QW {P : Program} {M : Nat → Bool} {G : Giv} {f : Nat} {fn : Func} {args : List AV} {Q : XV → Prop} (hg : G f = none) (hfn : P.funcs[f]? = some fn) {c : Code} (hb : fn.body = some c) (hname : (fn.name == "runtime.NumGoroutine") = false) (hle : args.length ≤ fn.ntmps)
    (H : W P M G c ⟨fn.ntmps, fun i => args.getD i .undef, Sto.e⟩ (EndsQ P fn.results Q) (fun _ _ => False) (EndsQ P fn.results Q)) : ∃ x, Q x ∧ Ret (Rv P M G) f args x := by
  obtain ⟨v, σ', h1, x, h2, h3⟩ := W_fn (Q := fun v σ => ∃ x, expR σ v = some x ∧ Q x) hg hfn hb hname hle (by
    refine W.mono H (fun s h => ?_) (fun _ _ h => h) (fun s h => ?_) <;> (obtain ⟨v, x, h1, h2, h3⟩ := h; exact ⟨v, h1, x, h2, h3⟩))
  exact ⟨x, h3, v, σ', h1, h2⟩
theorem tmod_bd {x n : Int} (hx : 0 ≤ x) (hn : 0 < n) : 0 ≤ x.tmod n ∧ x.tmod n < n := ⟨Int.tmod_nonneg n hx, Int.tmod_lt_of_pos x hn⟩
/-- A number below n, or 0. -/
theorem l1Below_p (b : List By) (i : Nat) (h n : Int) (hb : Sm b) (hi : i ≤ b.length) (hn : n ≤ 256) : ∃ x cs', ((∃ k : Int, (0 ≤ k ∧ (0 < n → k < n) ∧ (n ≤ 0 → k = 0)) ∧ x = .t (.i .i64 k) false) ∧ CQ b cs') ∧ RetP XX 85 (CU b i h) [In n] x cs' := by
  refine ret_PW rfl Try.func85 rfl rfl (by simp [Try.f85]) ?_
  simp only [Try.f85]
  simp only [CU, List.map_cons, List.map_nil]
  by_cases h0 : n ≤ 0
  · repeat' first|refine nx ?_|refine xb_miss (by decide) ?_|(apply W_reg;(simp [h0];exact .r _))
    refine W_cond (by simp; exact .r _) (fun hc => ?_) (fun hc => ?_)
    · repeat' first|refine nx ?_|refine xb_miss (by decide) ?_|(apply W_reg;(simp;exact .r _))
      exact EndsP.mk (cs' := CU b i h) (x := .t (.i .i64 0) false) (v := In 0) (by simp) (by simp) (by simp) ⟨⟨0, ⟨by omega, fun h => by omega, fun _ => rfl⟩, rfl⟩, i, h, hi, rfl⟩
    · cases hc
  obtain ⟨x, cs', ⟨⟨k, hk, rfl⟩, i1, h1, hi1, rfl⟩, hr⟩ := l1Byte_p b i h hb hi
  have c1 := cvP0 hr
  simp only [CU, List.map_cons, List.map_nil] at c1
  have hp : 0 < n := by omega
  have hm := tmod_bd hk.1 hp
  have hz : ¬ n = 0 := by omega
  repeat' first|refine nx ?_|refine xb_miss (by decide) ?_|(apply W_reg;(simp [h0];exact .r _))
  refine W_cond (by simp; exact .r _) (fun hc => ?_) (fun hc => ?_)
  · cases hc
  repeat' first|refine nx ?_|refine xb_miss (by decide) ?_|(apply W_reg;(simp [hn];exact .r _))
  refine W_cond (by simp; exact .r _) (fun hc => ?_) (fun hc => ?_)
  · repeat' first|refine nx ?_|refine xb_miss (by decide) ?_|(apply W_reg;(simp [c1, hz];exact .r _))
    exact EndsP.mk (cs' := CU b i1 h1) (x := .t (.i .i64 (k.tmod n)) false) (v := In (k.tmod n)) (by simp) (by simp) (by simp) ⟨⟨_, ⟨hm.1, fun _ => hm.2, fun h => by omega⟩, rfl⟩, i1, h1, hi1, rfl⟩
  · cases hc
theorem l1Once_p (b : List By) (i : Nat) (h n : Int) (hb : Sm b) (hi : i ≤ b.length) (hn : n ≤ 256) : ∃ x cs', ((∃ k : Bool, x = .t (.b k) false) ∧ CQ b cs') ∧ RetP XX 86 (CU b i h) [In n] x cs' := by
  refine ret_PW rfl Try.func86 rfl rfl (by simp [Try.f86]) ?_
  simp only [Try.f86]
  obtain ⟨x, cs', ⟨⟨k, hk, rfl⟩, i1, h1, hi1, rfl⟩, hr⟩ := l1Below_p b i h n hb hi hn
  have c1 := cvP hr
  simp only [CU, List.map_cons, List.map_nil] at c1 ⊢
  repeat' first|refine nx ?_|refine xb_miss (by decide) ?_|(apply W_reg;(simp [c1];exact .r _))
  exact EndsP.mk (cs' := CU b i1 h1) (x := .t (.b (decide (k = 0))) false) (v := Bo (decide (k = 0))) (by simp) (by simp) (by simp) ⟨⟨_, rfl⟩, i1, h1, hi1, rfl⟩
theorem l1PickInt_p (b : List By) (i : Nat) (h : Int) (l : List Int) (hb : Sm b) (hi : i ≤ b.length) (hl : 0 < l.length ∧ l.length ≤ 256) : ∃ x cs', ((∃ k : Int, k ∈ l ∧ x = .t (.i .i64 k) false) ∧ CQ b cs') ∧ RetP XX 87 (CU b i h) [Ar l] x cs' := by
  refine ret_PW rfl Try.func87 rfl rfl (by simp [Try.f87]) ?_
  simp only [Try.f87]
  obtain ⟨x, cs', ⟨⟨k, hk, rfl⟩, i1, h1, hi1, rfl⟩, hr⟩ := l1Below_p b i h l.length hb hi (by omega)
  have c1 := cvP hr
  simp only [CU, List.map_cons, List.map_nil] at c1 ⊢
  have hk0 := hk.1
  have hkl : k.toNat < l.length := by have := hk.2.1 (by omega); omega
  repeat' first|refine nx ?_|refine xb_miss (by decide) ?_|(apply W_reg;(simp [c1, hk0, hkl];exact .r _))
  exact EndsP.mk (cs' := CU b i1 h1) (x := .t (.i .i64 (l[k.toNat])) false) (v := In (l[k.toNat])) (by simp) (by simp) (by simp) ⟨⟨_, List.getElem_mem hkl, rfl⟩, i1, h1, hi1, rfl⟩
/-- The cursor is made. -/
theorem l1New_r (b : List By) (hb : b.length ≤ 1048576) : ∃ h : Int, Ret XX 40 [Ar b] (.bx (CU b 0 h)) := by
  suffices H : ∃ x, (∃ h : Int, x = XV.bx (CU b 0 h)) ∧ Ret XX 40 [Ar b] x by
    obtain ⟨x, ⟨h, rfl⟩, H⟩ := H; exact ⟨h, H⟩
  refine ret_QW rfl Try.func40 rfl rfl (by simp [Try.f40]) ?_
  simp only [Try.f40]
  repeat' first|refine nx ?_|refine xb_miss (by decide) ?_|(apply W_reg;(simp;exact .r _))
  refine W_loop (n := b.length) (fun n s => ∃ i : Nat, ∃ h : Int, n = b.length - i ∧ s.nt = 32 ∧ s.tm 0 = Ar b ∧ s.tm 3 = In h ∧ s.tm 4 = In i ∧ i ≤ b.length ∧ s.σ = ⟨0, fun _ => .dead⟩) ⟨0, IntKind.i64.wrap (10101 + b.length), by simp⟩ ?_
  rintro n ⟨nt, tm, σ⟩ ⟨i, h, rfl, hnt, h0, h3, h4, hi, hn⟩
  simp only at hnt h0 h3 h4 hn
  subst hnt
  by_cases g4 : i < b.length ∧ i < 4000
  · have ha : (i : Int) < b.length := by omega
    have hb4 : (i : Int) < 4000 := by omega
    have hil := g4.1
    have h4n := g4.2
    repeat' first|refine nx ?_|refine xb_miss (by decide) ?_|(apply W_reg;(simp [h0, h3, h4, hn, ha, hb4, hil, h4n];exact .r _))
    refine W_cond (by simp [h0, h3, h4, hn]; exact .r _) (fun hc => ?_) (fun hc => ?_)
    · repeat' first|refine nx ?_|refine xb_miss (by decide) ?_|(apply W_reg;(simp [h0, h3, h4, hn, ha, hb4, hil, h4n];exact .r _))
      refine ⟨b.length - (i + 1), by omega, i + 1, ?_⟩
      apply Exists.intro
      refine ⟨rfl, rfl, by simp [h0, h3, h4, hn], (by simp; rfl), (by simp [h0, h3, h4, hn]; exact wrap_succ (by omega)), by omega, by simp [hn]⟩
    · simp at hc
  · by_cases ha : (i : Int) < b.length
    · have hb4 : ¬ (i : Int) < 4000 := by omega
      have han : i < b.length := by omega
      have hbn : ¬ i < 4000 := by omega
      repeat' first|refine nx ?_|refine xb_miss (by decide) ?_|(apply W_reg;(simp [h0, h3, h4, hn, ha, hb4, han, hbn];exact .r _))
      refine W_cond (by simp [h0, h3, h4, hn]; exact .r _) (fun hc => ?_) (fun hc => ?_)
      · simp at hc
      repeat' first|refine nx ?_|refine xb_miss (by decide) ?_|(apply W_reg;(simp [h0, h3, h4, hn];exact .r _))
      exact EndsQ.mk (v := .ptr 0 0) (x := .bx (CU b 0 h)) (by simp) (by simp) ⟨h, rfl⟩
    · have han : ¬ i < b.length := by omega
      repeat' first|refine nx ?_|refine xb_miss (by decide) ?_|(apply W_reg;(simp [h0, h3, h4, hn, ha, han];exact .r _))
      refine W_cond (by simp [h0, h3, h4, hn]; exact .r _) (fun hc => ?_) (fun hc => ?_)
      · simp at hc
      repeat' first|refine nx ?_|refine xb_miss (by decide) ?_|(apply W_reg;(simp [h0, h3, h4, hn];exact .r _))
      exact EndsQ.mk (v := .ptr 0 0) (x := .bx (CU b 0 h)) (by simp) (by simp) ⟨h, rfl⟩
end Go.Proofs.Ytlehbgapjibeeaa.V

namespace Go.Proofs.Ytlehbgapjibeeaa.V
open Go Go.Proofs
set_option linter.unusedVariables false
set_option linter.unusedSimpArgs false
theorem specIsFact_r (c : Sch) (a : RA) (hl : Sm c.arity) (ha : Sm a.args) : Ret XX 95 [Ag c, Ag a] (.t (.b (isFact c a)) false) := by
  refine ret_W rfl Try.func95 rfl rfl (by simp [Try.f95]) ?_
  simp only [Try.f95]
  have c1 := cv (specIsSchema_r c hl)
  have c2 := cv (l1In_r a.rel 0 (c.arity.length - 1))
  have hw : IntKind.i64.wrap ((c.arity.length : Int) - 1) = (c.arity.length : Int) - 1 := wrap_ok (by omega) (by omega)
  simp only [Ag, cells_Sch, List.map_cons, List.map_nil] at c1
  cases e1 : isSch c
  · repeat' first|refine nx ?_|refine xb_miss (by decide) ?_|(apply W_reg;(simp [Ag, c1, e1];exact .r _))|(apply W_draw (id := 1) [0,1,3,7,15,31,15,79,207,463,1023,2047,4095,8191,16383,32767,65535,16383,147455,16383,540671,1982463,4079615,8388607,16777215] rfl rfl; (· simp; exact .r _); (· simp [Ag, c1, e1]; exact .r _); (· first|trivial|simp))
    refine W_cond (by simp; exact .r _) (fun hc => ?_) (fun hc => ?_)
    · repeat' first|refine nx ?_|refine xb_miss (by decide) ?_|(apply W_reg;(simp;exact .r _))
      simp [isFact, takes, e1]
    · cases hc
  cases e2 : inR a.rel 0 (c.arity.length - 1)
  · repeat' first|refine nx ?_|refine xb_miss (by decide) ?_|(apply W_reg;(simp [Ag, c1, e1, c2, e2, hw];exact .r _))|(apply W_draw (id := 1) [0,1,3,7,15,31,15,79,207,463,1023,2047,4095,8191,16383,32767,65535,16383,147455,16383,540671,1982463,4079615,8388607,16777215] rfl rfl; (· simp; exact .r _); (· simp [Ag, c1, e1, c2, e2, hw]; exact .r _); (· first|trivial|simp))
    refine W_cond (by simp; exact .r _) (fun hc => ?_) (fun hc => ?_)
    · repeat' first|refine nx ?_|refine xb_miss (by decide) ?_|(apply W_reg;(simp;exact .r _))
      simp [isFact, takes, e2]
    · cases hc
  have hb : 0 ≤ a.rel ∧ a.rel ≤ c.arity.length - 1 := by simpa [inR] using e2
  have hr : a.rel.toNat < c.arity.length := by omega
  have hr0 : 0 ≤ a.rel := hb.1
  by_cases e3 : (a.args.length : Int) = c.arity[a.rel.toNat]
  case neg =>
    have e3' : ¬ c.arity[a.rel.toNat] = (a.args.length : Int) := fun e => e3 e.symm
    repeat' first|refine nx ?_|refine xb_miss (by decide) ?_|(apply W_reg;(simp [Ag, c1, e1, c2, e2, hw, hr, hr0, e3];exact .r _))|(apply W_draw (id := 1) [0,1,3,7,15,31,15,79,207,463,1023,2047,4095,8191,16383,32767,65535,16383,147455,16383,540671,1982463,4079615,8388607,16777215] rfl rfl; (· simp; exact .r _); (· simp [Ag, c1, e1, c2, e2, hw, hr, hr0, e3]; exact .r _); (· first|trivial|simp))
    refine W_cond (by simp; exact .r _) (fun hc => ?_) (fun hc => ?_)
    · repeat' first|refine nx ?_|refine xb_miss (by decide) ?_|(apply W_reg;(simp;exact .r _))
      simp [isFact, takes, e1, e2, hr, e3']
    · cases hc
  have ht : takes c a.rel a.args.length = true := by simp [takes, e1, e2, hr, e3]
  repeat' first|refine nx ?_|refine xb_miss (by decide) ?_|(apply W_reg;(simp [Ag, c1, e1, c2, e2, hw, hr, hr0, e3];exact .r _))|(apply W_draw (id := 1) [0,1,3,7,15,31,15,79,207,463,1023,2047,4095,8191,16383,32767,65535,16383,147455,16383,540671,1982463,4079615,8388607,16777215] rfl rfl; (· simp; exact .r _); (· simp [Ag, c1, e1, c2, e2, hw, hr, hr0, e3]; exact .r _); (· first|trivial|simp))
  refine W_cond (by simp; exact .r _) (fun hc => ?_) (fun hc => ?_)
  · cases hc
  repeat' first|refine nx ?_|refine xb_miss (by decide) ?_|(apply W_reg;(simp;exact .r _))
  refine W_loop (n := a.args.length) (fun n s => ∃ i : Nat, n = a.args.length - i ∧ s.nt = 45 ∧ s.tm 3 = .ptr 1 0 ∧ s.tm 5 = In i ∧ i ≤ a.args.length ∧ s.σ.ob 1 = .box [In a.rel, Ar a.args] ∧ a.args.all (fun x => inR x 0 99) = (a.args.drop i).all (fun x => inR x 0 99)) ⟨0, by simp⟩ ?_
  rintro n ⟨nt, tm, σ⟩ ⟨i, rfl, hnt, h3, h5, hi, hb1, heq⟩
  simp only at hnt h3 h5 hb1
  subst hnt
  repeat' first|refine nx ?_|refine xb_miss (by decide) ?_|(apply W_reg;(simp [h3, h5, hb1];exact .r _))
  refine W_cond (by simp [h3, h5, hb1]; exact .r _) (fun hc => ?_) (fun hc => ?_)
  · have hil : i < a.args.length := by simpa using hc
    have hcc := cv (l1In_r a.args[i] 0 99)
    repeat' first|refine nx ?_|refine xb_miss (by decide) ?_|(apply W_reg;(simp [h3, h5, hb1, hil, hcc];exact .r _))
    rw [List.drop_eq_getElem_cons hil, List.all_cons] at heq
    refine W_cond (by simp [h3, h5, hb1]; exact .r _) (fun hd => ?_) (fun hd => ?_)
    · repeat' first|refine nx ?_|refine xb_miss (by decide) ?_|(apply W_reg;(simp [h3, h5, hb1];exact .r _))
      have hd' : inR a.args[i] 0 99 = false := by simpa using hd
      simp [isFact, heq, hd']
    · have hd' : inR a.args[i] 0 99 = true := by simpa using hd
      repeat' first|refine nx ?_|refine xb_miss (by decide) ?_|(apply W_reg;(simp [h3, h5, hb1];exact .r _))
      refine ⟨_, ?_, i + 1, rfl, rfl, ?_, ?_, by omega, ?_, by (rw [heq]; simp [hd'])⟩
      all_goals first|assumption|(simp [h3, h5, hb1];done)|(simp [h3, h5, hb1];omega)|(simp [h3, h5, hb1];exact wrap_succ (by omega))|omega
  have hil : i = a.args.length := by simp at hc; omega
  subst hil
  rw [List.drop_length, List.all_nil] at heq
  repeat' first|refine nx ?_|refine xb_miss (by decide) ?_|(apply W_reg;(simp [h3, h5, hb1];exact .r _))
  simp [isFact, ht, heq]
theorem equalFact_r (a b : RA) (ha : Sm a.args) : Ret XX 54 [Ag a, Ag b] (.t (.b (decide (a = b))) false) := by
  refine ret_W rfl Try.func54 rfl rfl (by simp [Try.f54]) ?_
  simp only [Try.f54]
  have c1 := cv (eqInts_r a.args b.args ha)
  by_cases h : a.rel = b.rel
  · repeat' first|refine nx ?_|refine xb_miss (by decide) ?_|(apply W_reg;(simp [Ag, c1, h];exact .r _))
    have : a = b ↔ a.args = b.args := ⟨fun e => by rw [e], fun e => by cases a; cases b; simp only at h e; rw [h, e]⟩
    simp [this]
  · repeat' first|refine nx ?_|refine xb_miss (by decide) ?_|(apply W_reg;(simp [Ag, c1, h];exact .r _))
    have : a ≠ b := fun e => h (by rw [e])
    simp [this]
theorem l5Same_r (a b : RA) (ha : Sm a.args) : Ret XX 49 [Ag a, Ag b] (.t (.b (decide (a = b))) false) := by
  refine ret_W rfl Try.func49 rfl rfl (by simp [Try.f49]) ?_
  simp only [Try.f49]
  have c1 := cv (l2Ints_r a.args b.args ha)
  by_cases h : a.rel = b.rel
  · repeat' first|refine nx ?_|refine xb_miss (by decide) ?_|(apply W_reg;(simp [Ag, c1, h];exact .r _))
    have : a = b ↔ a.args = b.args := ⟨fun e => by rw [e], fun e => by cases a; cases b; simp only at h e; rw [h, e]⟩
    simp [this]
  · repeat' first|refine nx ?_|refine xb_miss (by decide) ?_|(apply W_reg;(simp [Ag, c1, h];exact .r _))
    have : a ≠ b := fun e => h (by rw [e])
    simp [this]
theorem l5Less_r (a b : RA) (ha : Sm a.args) : Ret XX 98 [Ag a, Ag b] (.t (.b (decide (cmpF a b < 0))) false) := by
  refine ret_W rfl Try.func98 rfl rfl (by simp [Try.f98]) ?_
  simp only [Try.f98]
  have c1 := cv (l2Less_r a.args b.args ha)
  by_cases h : a.rel = b.rel
  · repeat' first|refine nx ?_|refine xb_miss (by decide) ?_|(apply W_reg;(simp [Ag, h];exact .r _))
    refine W_cond (by simp; exact .r _) (fun hc => ?_) (fun hc => ?_)
    · cases hc
    repeat' first|refine nx ?_|refine xb_miss (by decide) ?_|(apply W_reg;(simp [Ag, c1, h];exact .r _))
    have : cmpF a b = cmpI a.args b.args := by unfold cmpF; rw [if_neg (by omega), if_neg (by omega)]
    simp [this]
  · repeat' first|refine nx ?_|refine xb_miss (by decide) ?_|(apply W_reg;(simp [Ag, h];exact .r _))
    refine W_cond (by simp; exact .r _) (fun hc => ?_) (fun hc => ?_)
    · repeat' first|refine nx ?_|refine xb_miss (by decide) ?_|(apply W_reg;(simp;exact .r _))
      by_cases h2 : a.rel < b.rel
      · have : cmpF a b = -1 := by unfold cmpF; rw [if_pos h2]
        simp [this, h2]
      · have : cmpF a b = 1 := by unfold cmpF; rw [if_neg h2, if_pos (by omega)]
        simp [this, h2]
    · cases hc
theorem ascF_short : ∀ {l : List RA}, l.length ≤ 1 → ascF l = true
  | [], _ => rfl
  | [_], _ => rfl
/-- A database's facts, from the i-th on, seen from the one before. -/
def dbOk (c : Sch) (db : List RA) (i : Nat) : Bool := (db.drop i).all (isFact c) && ascF (db.drop (i - 1))
theorem dbOk_end {c : Sch} {db : List RA} : dbOk c db db.length = true := by
  unfold dbOk
  rw [List.drop_length, ascF_short (by simp; omega)]; rfl
theorem dbOk_step {c : Sch} {db : List RA} {i : Nat} (h : i < db.length) : dbOk c db i = (isFact c db[i] && (i == 0 || decide (cmpF db[i - 1] db[i] < 0)) && dbOk c db (i + 1)) := by
  unfold dbOk
  rw [List.drop_eq_getElem_cons h, List.all_cons]
  cases i with
  | zero =>
    simp only [Nat.zero_sub, List.drop_zero, Nat.zero_add, Nat.sub_self, beq_self_eq_true, Bool.true_or, Bool.and_true]
    rw [Bool.and_assoc]
  | succ i =>
    have e : (i + 1 - 1) = i := by omega
    simp only [e]
    have e2 : i + 1 + 1 - 1 = i + 1 := by omega
    rw [e2, show db.drop i = db[i] :: db[i + 1] :: db.drop (i + 2) by rw [List.drop_eq_getElem_cons (by omega), List.drop_eq_getElem_cons h], ascF, ← List.drop_eq_getElem_cons h]
    have e3 : (i + 1 == 0) = false := rfl
    rw [e3, Bool.false_or]
    cases isFact c db[i + 1] <;> cases decide (cmpF db[i] db[i + 1] < 0) <;> cases (List.drop (i + 1 + 1) db).all (isFact c) <;> rfl
theorem isDb_of (c : Sch) (db : List RA) : isDb c db = (dbOk c db 0 && isSch c && decide (db.length ≤ 24)) := by
  unfold isDb dbOk; simp
theorem implIsDb_r (c : Sch) (db : List RA) (hl : Sm c.arity) (hd : Sm db) (ha : ∀ a ∈ db, Sm a.args) : Ret XX 50 [Ag c, Ar db] (.t (.b (isDb c db)) false) := by
  refine ret_W rfl Try.func50 rfl rfl (by simp [Try.f50]) ?_
  simp only [Try.f50]
  have d1 := cv (implIsSchema_r c hl)
  simp only [Ag, cells_Sch, List.map_cons, List.map_nil] at d1
  repeat' first|refine nx ?_|refine xb_miss (by decide) ?_|(apply W_reg;(simp [Ag];exact .r _))
  refine W_loop (n := db.length) (fun n s => ∃ i : Nat, n = db.length - i ∧ s.nt = 40 ∧ s.tm 1 = Ar db ∧ s.tm 2 = .ptr 0 0 ∧ s.tm 7 = Ar db ∧ s.tm 8 = In db.length ∧ s.tm 9 = In i ∧ i ≤ db.length ∧ s.σ.ob 0 = .box [Ar c.arity] ∧ 1 ≤ s.σ.n ∧ dbOk c db 0 = dbOk c db i) ⟨0, by simp⟩ ?_
  rintro n ⟨nt, tm, σ⟩ ⟨i, rfl, hnt, h1, h2, h7, h8, h9, hi, hb0, hn, heq⟩
  simp only at hnt h1 h2 h7 h8 h9 hb0 hn
  subst hnt
  have n0 : ¬ (0 = σ.n) := by omega
  have n0' : ¬ (σ.n = 0) := by omega
  repeat' first|refine nx ?_|refine xb_miss (by decide) ?_|(apply W_reg;(simp [h1, h2, h7, h8, h9, hb0, hn];exact .r _))
  refine W_cond (by simp [h1, h2, h7, h8, h9, hb0, hn]; exact .r _) (fun hc => ?_) (fun hc => ?_)
  · have hil : i < db.length := by simpa using hc
    have d2 := cv (implIsFact_r c db[i] hl (ha _ (List.getElem_mem hil)))
    simp only [Ag, cells_Sch, cells_RA, List.map_cons, List.map_nil] at d2
    rw [dbOk_step hil] at heq
    cases e1 : isFact c db[i]
    · repeat' first|refine nx ?_|refine xb_miss (by decide) ?_|(apply W_reg;(simp [h1, h2, h7, h8, h9, hb0, hn, hil, d2, e1, n0, n0'];exact .r _))|(apply W_draw (id := 4) [0,0,3,7,15,31,63,127,255,255,767,2047,4095,255,16383,32767,65535,131071] rfl rfl; (· simp; exact .r _); (· simp [h1, h2, h7, h8, h9, hb0, hn, hil, d2, e1, n0, n0']; exact .r _); (· first|trivial|simp))
      refine W_cond (by simp [h1, h2, h7, h8, h9, hb0, hn]; exact .r _) (fun he => ?_) (fun he => ?_)
      · repeat' first|refine nx ?_|refine xb_miss (by decide) ?_|(apply W_reg;(simp [h1, h2, h7, h8, h9, hb0, hn];exact .r _))
        rw [isDb_of, heq, e1]; simp
      · cases he
    · cases i with
      | zero =>
        repeat' first|refine nx ?_|refine xb_miss (by decide) ?_|(apply W_reg;(simp [h1, h2, h7, h8, h9, hb0, hn, hil, d2, e1, n0, n0'];exact .r _))|(apply W_draw (id := 4) [0,0,3,7,15,31,63,127,255,255,767,2047,4095,255,16383,32767,65535,131071] rfl rfl; (· simp; exact .r _); (· simp [h1, h2, h7, h8, h9, hb0, hn, hil, d2, e1, n0, n0']; exact .r _); (· first|trivial|simp))
        refine W_cond (by simp [h1, h2, h7, h8, h9, hb0, hn]; exact .r _) (fun he => ?_) (fun he => ?_)
        · cases he
        · repeat' first|refine nx ?_|refine xb_miss (by decide) ?_|(apply W_reg;(simp [h1, h2, h7, h8, h9, hb0, hn];exact .r _))
          refine ⟨_, ?_, 1, rfl, rfl, ?_, ?_, ?_, ?_, ?_, by omega, ?_, ?_, by (rw [heq, e1]; simp)⟩
          all_goals first|assumption|(simp [h1, h2, h7, h8, h9, hb0, hn, n0, n0'];done)|(simp [h1, h2, h7, h8, h9, hb0, hn, n0, n0'];omega)|(simp [h1, h2, h7, h8, h9, hb0, hn, n0, n0'];exact wrap_succ (by omega))|omega
      | succ i =>
        have hi1 : i < db.length := by omega
        have d3 := cv (cmpF_r db[i] db[i + 1] (ha _ (List.getElem_mem hi1)))
        simp only [Ag, cells_RA, List.map_cons, List.map_nil] at d3
        have hw : IntKind.i64.wrap (i : Int) = (i : Int) := wrap_ok (by omega) (by omega)
        have hp : (0 : Int) < (i : Int) + 1 := by omega
        have h5 : (0 : Int) ≤ (i : Int) + 1 := by omega
        have h6 : ((i : Int) + 1).toNat = i + 1 := by omega
        repeat' first|refine nx ?_|refine xb_miss (by decide) ?_|(apply W_reg;(simp [h1, h2, h7, h8, h9, hb0, hn, hil, hi1, d2, e1, d3, hw, hp, h5, h6, n0, n0'];exact .r _))|(apply W_draw (id := 4) [0,0,3,7,15,31,63,127,255,255,767,2047,4095,255,16383,32767,65535,131071] rfl rfl; (· simp; exact .r _); (· simp [h1, h2, h7, h8, h9, hb0, hn, hil, hi1, d2, e1, d3, hw, hp, h5, h6, n0, n0']; exact .r _); (· first|trivial|simp))
        refine W_cond (by simp [h1, h2, h7, h8, h9, hb0, hn]; exact .r _) (fun he => ?_) (fun he => ?_)
        · repeat' first|refine nx ?_|refine xb_miss (by decide) ?_|(apply W_reg;(simp [h1, h2, h7, h8, h9, hb0, hn];exact .r _))
          have : ¬ cmpF db[i] db[i + 1] < 0 := by simp at he; omega
          rw [isDb_of, heq]; simp [this]
        · have : cmpF db[i] db[i + 1] < 0 := by simp at he; omega
          repeat' first|refine nx ?_|refine xb_miss (by decide) ?_|(apply W_reg;(simp [h1, h2, h7, h8, h9, hb0, hn];exact .r _))
          refine ⟨_, ?_, i + 1 + 1, rfl, rfl, ?_, ?_, ?_, ?_, by (simp [h9]; rw [wrap_ok (by omega) (by omega)]; omega), by omega, ?_, ?_, by (rw [heq, e1]; simp [this])⟩
          all_goals first|assumption|(simp [h1, h2, h7, h8, h9, hb0, hn, n0, n0'];done)|(simp [h1, h2, h7, h8, h9, hb0, hn, n0, n0'];omega)|(simp [h1, h2, h7, h8, h9, hb0, hn, n0, n0'];exact wrap_succ (by omega))|omega
  have hil : i = db.length := by simp at hc; omega
  subst hil
  rw [dbOk_end] at heq
  rw [isDb_of, heq]
  cases e : isSch c
  · repeat' first|refine nx ?_|refine xb_miss (by decide) ?_|(apply W_reg;(simp [h1, h2, h7, h8, h9, hb0, hn, d1, e];exact .r _))
    simp
  · repeat' first|refine nx ?_|refine xb_miss (by decide) ?_|(apply W_reg;(simp [h1, h2, h7, h8, h9, hb0, hn, d1, e];exact .r _))
    simp; omega
theorem specIsDb_r (c : Sch) (db : List RA) (hl : Sm c.arity) (hd : Sm db) (ha : ∀ a ∈ db, Sm a.args) : Ret XX 52 [Ag c, Ar db] (.t (.b (isDb c db)) false) := by
  refine ret_W rfl Try.func52 rfl rfl (by simp [Try.f52]) ?_
  simp only [Try.f52]
  have d1 := cv (specIsSchema_r c hl)
  simp only [Ag, cells_Sch, List.map_cons, List.map_nil] at d1
  repeat' first|refine nx ?_|refine xb_miss (by decide) ?_|(apply W_reg;(simp [Ag];exact .r _))
  refine W_loop (n := db.length) (fun n s => ∃ i : Nat, n = db.length - i ∧ s.nt = 43 ∧ s.tm 1 = Ar db ∧ s.tm 2 = .ptr 0 0 ∧ s.tm 5 = In i ∧ i ≤ db.length ∧ s.σ.ob 0 = .box [Ar c.arity] ∧ 1 ≤ s.σ.n ∧ dbOk c db 0 = dbOk c db i) ⟨0, by simp⟩ ?_
  rintro n ⟨nt, tm, σ⟩ ⟨i, rfl, hnt, h1, h2, h5, hi, hb0, hn, heq⟩
  simp only at hnt h1 h2 h5 hb0 hn
  subst hnt
  have n0 : ¬ (0 = σ.n) := by omega
  have n0' : ¬ (σ.n = 0) := by omega
  repeat' first|refine nx ?_|refine xb_miss (by decide) ?_|(apply W_reg;(simp [h1, h2, h5, hb0, hn];exact .r _))
  refine W_cond (by simp [h1, h2, h5, hb0, hn]; exact .r _) (fun hc => ?_) (fun hc => ?_)
  · have hil : i < db.length := by simpa using hc
    have d2 := cv (specIsFact_r c db[i] hl (ha _ (List.getElem_mem hil)))
    simp only [Ag, cells_Sch, cells_RA, List.map_cons, List.map_nil] at d2
    rw [dbOk_step hil] at heq
    cases e1 : isFact c db[i]
    · repeat' first|refine nx ?_|refine xb_miss (by decide) ?_|(apply W_reg;(simp [h1, h2, h5, hb0, hn, hil, d2, e1, n0, n0'];exact .r _))|(apply W_draw (id := 4) [0,0,0,6,14,31,63,127,255,511,1023,2047,2047,6143,16383,32767,2047,2047,198655,460799,1048575,2097151,4194303,8388607] rfl rfl; (· simp; exact .r _); (· simp [h1, h2, h5, hb0, hn, hil, d2, e1, n0, n0']; exact .r _); (· first|trivial|simp))
      refine W_cond (by simp [h1, h2, h5, hb0, hn]; exact .r _) (fun he => ?_) (fun he => ?_)
      · repeat' first|refine nx ?_|refine xb_miss (by decide) ?_|(apply W_reg;(simp [h1, h2, h5, hb0, hn];exact .r _))
        rw [isDb_of, heq, e1]; simp
      · cases he
    · cases i with
      | zero =>
        repeat' first|refine nx ?_|refine xb_miss (by decide) ?_|(apply W_reg;(simp [h1, h2, h5, hb0, hn, hil, d2, e1, n0, n0'];exact .r _))|(apply W_draw (id := 4) [0,0,0,6,14,31,63,127,255,511,1023,2047,2047,6143,16383,32767,2047,2047,198655,460799,1048575,2097151,4194303,8388607] rfl rfl; (· simp; exact .r _); (· simp [h1, h2, h5, hb0, hn, hil, d2, e1, n0, n0']; exact .r _); (· first|trivial|simp))
        refine W_cond (by simp [h1, h2, h5, hb0, hn]; exact .r _) (fun he => ?_) (fun he => ?_)
        · cases he
        · repeat' first|refine nx ?_|refine xb_miss (by decide) ?_|(apply W_reg;(simp [h1, h2, h5, hb0, hn];exact .r _))
          refine ⟨_, ?_, 1, rfl, rfl, ?_, ?_, ?_, by omega, ?_, ?_, by (rw [heq, e1]; simp)⟩
          all_goals first|assumption|(simp [h1, h2, h5, hb0, hn, n0, n0'];done)|(simp [h1, h2, h5, hb0, hn, n0, n0'];omega)|(simp [h1, h2, h5, hb0, hn, n0, n0'];exact wrap_succ (by omega))|omega
      | succ i =>
        have hi1 : i < db.length := by omega
        have d3 := cv (l5Less_r db[i] db[i + 1] (ha _ (List.getElem_mem hi1)))
        simp only [Ag, cells_RA, List.map_cons, List.map_nil] at d3
        have hw : IntKind.i64.wrap (i : Int) = (i : Int) := wrap_ok (by omega) (by omega)
        have hp : (0 : Int) < (i : Int) + 1 := by omega
        have h5' : (0 : Int) ≤ (i : Int) + 1 := by omega
        have h6 : ((i : Int) + 1).toNat = i + 1 := by omega
        repeat' first|refine nx ?_|refine xb_miss (by decide) ?_|(apply W_reg;(simp [h1, h2, h5, hb0, hn, hil, hi1, d2, e1, d3, hw, hp, h5', h6, n0, n0'];exact .r _))|(apply W_draw (id := 4) [0,0,0,6,14,31,63,127,255,511,1023,2047,2047,6143,16383,32767,2047,2047,198655,460799,1048575,2097151,4194303,8388607] rfl rfl; (· simp; exact .r _); (· simp [h1, h2, h5, hb0, hn, hil, hi1, d2, e1, d3, hw, hp, h5', h6, n0, n0']; exact .r _); (· first|trivial|simp))
        refine W_cond (by simp [h1, h2, h5, hb0, hn]; exact .r _) (fun he => ?_) (fun he => ?_)
        · repeat' first|refine nx ?_|refine xb_miss (by decide) ?_|(apply W_reg;(simp [h1, h2, h5, hb0, hn];exact .r _))
          have : ¬ cmpF db[i] db[i + 1] < 0 := by simp at he; omega
          rw [isDb_of, heq]; simp [this]
        · have : cmpF db[i] db[i + 1] < 0 := by simp at he; omega
          repeat' first|refine nx ?_|refine xb_miss (by decide) ?_|(apply W_reg;(simp [h1, h2, h5, hb0, hn];exact .r _))
          refine ⟨_, ?_, i + 1 + 1, rfl, rfl, ?_, ?_, by (simp [h5]; rw [wrap_ok (by omega) (by omega)]; omega), by omega, ?_, ?_, by (rw [heq, e1]; simp [this])⟩
          all_goals first|assumption|(simp [h1, h2, h5, hb0, hn, n0, n0'];done)|(simp [h1, h2, h5, hb0, hn, n0, n0'];omega)|(simp [h1, h2, h5, hb0, hn, n0, n0'];exact wrap_succ (by omega))|omega
  have hil : i = db.length := by simp at hc; omega
  subst hil
  rw [dbOk_end] at heq
  rw [isDb_of, heq]
  cases e : isSch c
  · repeat' first|refine nx ?_|refine xb_miss (by decide) ?_|(apply W_reg;(simp [h1, h2, h5, hb0, hn, d1, e];exact .r _))
    simp
  · repeat' first|refine nx ?_|refine xb_miss (by decide) ?_|(apply W_reg;(simp [h1, h2, h5, hb0, hn, d1, e];exact .r _))
    simp; omega
end Go.Proofs.Ytlehbgapjibeeaa.V

namespace Go.Proofs.Ytlehbgapjibeeaa.V
open Go Go.Proofs
set_option linter.unusedVariables false
set_option linter.unusedSimpArgs false
theorem W_gen {P : Program} {M : Nat → Bool} {G : Giv} {c : Code} {nt : Nat} {tm : Nat → AV} {σ : Sto} {N : VS → Prop} {X : Nat → VS → Prop} {K : VS → Prop} (Q : Sto → Prop) (h : Q σ) (hw : ∀ σ2, Q σ2 → W P M G c ⟨nt, tm, σ2⟩ N X K) : W P M G c ⟨nt, tm, σ⟩ N X K := hw σ h
theorem clean1_mono {n m : Nat} (h : n ≤ m) : ∀ {a : AV}, clean1 n a = true → clean1 m a = true := by
  intro a ha
  cases a with
  | ref o v p => simp only [clean1, decide_eq_true_eq] at ha ⊢; omega
  | ptr o v => simp only [clean1, decide_eq_true_eq] at ha ⊢; omega
  | eptr o v p i j => simp only [clean1, decide_eq_true_eq] at ha ⊢; omega
  | clo f c => cases ha
  | agg c => cases ha
  | tup c => cases ha
  | _ => rfl
theorem cleanA_mono {n m : Nat} (h : n ≤ m) {a : AV} (ha : cleanA n a = true) : cleanA m a = true := by
  cases a with
  | clo f l => simp only [cleanA, List.all_eq_true] at ha ⊢; exact fun x hx => clean1_mono h (ha x hx)
  | agg l => simp only [cleanA, List.all_eq_true] at ha ⊢; exact fun x hx => clean1_mono h (ha x hx)
  | tup l => cases ha
  | t x => rfl
  | ref o v p => exact clean1_mono h (a := .ref o v p) ha
  | ptr o v => exact clean1_mono h (a := .ptr o v) ha
  | eptr o v p i j => exact clean1_mono h (a := .eptr o v p i j) ha
  | _ => rfl
theorem clean_mono {n m : Nat} (h : n ≤ m) {x : VO} (hx : x.clean n = true) : x.clean m = true := by
  cases x with
  | box cs => simp only [VO.clean, List.all_eq_true] at hx ⊢; exact fun a ha => cleanA_mono h (hx a ha)
  | _ => rfl
/-- The store: a box p that names rows in o; ks: what else is there and stays. -/
structure Ok (p o : Nat) (ks : List (Nat × VO)) (σ : Sto) (acc : List Row) : Prop where
  hp : σ.ob p = .box [.ref o acc.length []]
  ho : σ.ob o = .arr (.own 0) 0 1 (rowsE acc)
  pn : p < σ.n
  on : o < σ.n
  po : p ≠ o
  ks : ∀ q ∈ ks, σ.ob q.1 = q.2 ∧ q.1 ≠ p ∧ q.1 ≠ o ∧ q.1 < σ.n
  cl : ∀ x, x < σ.n → (σ.ob x).clean σ.n = true
  dd : ∀ x, σ.n ≤ x → σ.ob x = .dead
def St (p o : Nat) (σ : Sto) (acc : List Row) : Sto := ⟨σ.n, upd (upd σ.ob p (.box [.ref o acc.length []])) o (.arr (.own 0) 0 1 (rowsE acc))⟩
variable {p o : Nat} {ks : List (Nat × VO)} {σ σ2 : Sto} {acc acc2 : List Row}
theorem St_ob {x : Nat} : (St p o σ acc).ob x = if x = o then .arr (.own 0) 0 1 (rowsE acc) else if x = p then .box [.ref o acc.length []] else σ.ob x := rfl
theorem Ok.st (h : Ok p o ks σ acc) (acc2 : List Row) : Ok p o ks (St p o σ acc2) acc2 := by
  refine ⟨?_, ?_, h.pn, h.on, h.po, fun q hq => ?_, fun x hx => ?_, fun x hx => ?_⟩
  · rw [St_ob, if_neg h.po, if_pos rfl]
  · rw [St_ob, if_pos rfl]
  · obtain ⟨h1, h2, h3, h4⟩ := h.ks q hq
    exact ⟨by rw [St_ob, if_neg h3, if_neg h2]; exact h1, h2, h3, h4⟩
  · rw [St_ob]
    split
    · rfl
    · split
      · have := h.on
        simp [VO.clean, cleanA, clean1, St, this]
      · exact h.cl x hx
  · have hx : σ.n ≤ x := hx
    have h1 := h.on
    have h2 := h.pn
    rw [St_ob, if_neg (by omega), if_neg (by omega)]; exact h.dd x hx
theorem Ok.grow (h : Ok p o ks σ acc) (hn : σ.n ≤ σ2.n) (h1 : ∀ x, x < σ.n → σ2.ob x = σ.ob x) (h2 : ∀ x, σ.n ≤ x → x < σ2.n → (σ2.ob x).clean σ2.n = true) (h3 : ∀ x, σ2.n ≤ x → σ2.ob x = .dead) : Ok p o ks σ2 acc := by
  refine ⟨by rw [h1 p h.pn]; exact h.hp, by rw [h1 o h.on]; exact h.ho, Nat.lt_of_lt_of_le h.pn hn, Nat.lt_of_lt_of_le h.on hn, h.po, fun q hq => ?_, fun x hx => ?_, h3⟩
  · obtain ⟨g1, g2, g3, g4⟩ := h.ks q hq
    exact ⟨by rw [h1 _ g4]; exact g1, g2, g3, Nat.lt_of_lt_of_le g4 hn⟩
  · rcases Nat.lt_or_ge x σ.n with g | g
    · rw [h1 x g]; exact clean_mono hn (h.cl x g)
    · exact h2 x g hx
section
end
end Go.Proofs.Ytlehbgapjibeeaa.V

namespace Go.Proofs.Ytlehbgapjibeeaa.V
open Go Go.Proofs
set_option linter.unusedVariables false
set_option linter.unusedSimpArgs false
theorem Ok.put {p o w : Nat} {ks : List (Nat × VO)} {σ : Sto} {acc : List Row} {y : VO} (h : Ok p o ks σ acc) (h1 : w ≠ p) (h2 : w ≠ o) (h3 : ∀ q ∈ ks, q.1 ≠ w) (h4 : y.clean σ.n = true) (h5 : w < σ.n) : Ok p o ks ⟨σ.n, upd σ.ob w y⟩ acc := by
  refine ⟨?_, ?_, h.pn, h.on, h.po, fun q hq => ?_, fun x hx => ?_, fun x hx => ?_⟩
  · simp only [upd_app]; rw [if_neg (fun e => h1 e.symm)]; exact h.hp
  · simp only [upd_app]; rw [if_neg (fun e => h2 e.symm)]; exact h.ho
  · obtain ⟨g1, g2, g3, g4⟩ := h.ks q hq
    exact ⟨by simp only [upd_app]; rw [if_neg (h3 q hq)]; exact g1, g2, g3, g4⟩
  · simp only [upd_app]
    split
    · exact h4
    · exact h.cl x hx
  · have hx : σ.n ≤ x := hx
    simp only [upd_app]; rw [if_neg (by omega)]; exact h.dd x hx
end Go.Proofs.Ytlehbgapjibeeaa.V

namespace Go.Proofs.Ytlehbgapjibeeaa.V
open Go Go.Proofs
set_option linter.unusedVariables false
set_option linter.unusedSimpArgs false
/-- What l6Sort keeps: sorted; each row once, or each as often as it comes. -/
def SortI (once : Bool) (acc m : List Row) : Prop := if once = true then Asc acc ∧ ∀ x, x ∈ acc ↔ x ∈ m else Ord acc ∧ acc.Perm m
theorem SortI.ord {once : Bool} {acc m : List Row} (h : SortI once acc m) : Ord acc := by
  unfold SortI at h
  split at h
  · exact asc_ord h.1
  · exact h.1
theorem SortI.ins {once : Bool} {acc m : List Row} {x : Row} {k : Nat} (h : SortI once acc m) (hk : k ≤ acc.length) (h2 : ∀ j (hj : j < acc.length), k ≤ j → cmpI x acc[j] < 0)
    (hk1 : ∀ (hj : k - 1 < acc.length), 0 < k → ¬ cmpI x acc[k - 1] < 0) (hone : once = true → ∀ (hj : k - 1 < acc.length), 0 < k → acc[k - 1] ≠ x) : SortI once (acc.take k ++ [x] ++ acc.drop k) (m ++ [x]) := by
  have ho := h.ord
  have h1 : ∀ j (hj : j < acc.length), j < k → ¬ cmpI x acc[j] < 0 := by
    intro j hj hjk hlt
    have hkl : k - 1 < acc.length := by omega
    by_cases e : j = k - 1
    · subst e; exact hk1 hkl (by omega) hlt
    · have hp := List.pairwise_iff_getElem.1 ho j (k - 1) hj hkl (by omega)
      by_cases e2 : acc[k - 1] = acc[j]
      · exact hk1 hkl (by omega) (by rw [e2]; exact hlt)
      · exact hk1 hkl (by omega) (cmp_trans _ _ _ hlt (cmp_flip _ _ hp e2))
  unfold SortI at h ⊢
  split at h
  · rename_i e
    obtain ⟨ha, hm⟩ := h
    rw [if_pos e]
    refine ⟨asc_ins ha hk (fun j hj hjk => ?_) h2, fun y => ?_⟩
    · refine cmp_flip _ _ (h1 j hj hjk) (fun e3 => ?_)
      have hkl : k - 1 < acc.length := by omega
      by_cases e2 : j = k - 1
      · subst e2; exact hone e hkl (by omega) e3.symm
      · have hp := List.pairwise_iff_getElem.1 ha j (k - 1) hj hkl (by omega)
        rw [← e3] at hp
        exact hk1 hkl (by omega) hp
    · rw [(ins_perm acc x k).mem_iff, List.mem_append, List.mem_append, hm y]
  · rename_i e
    rw [if_neg e]
    exact ⟨ord_ins h.1 hk h1 h2, (ins_perm acc x k).trans (h.2.append_right [x])⟩
theorem SortI.eq {once : Bool} {acc m : List Row} (h : SortI once acc m) : acc = if once = true then srtU m else srt cmpI m := by
  unfold SortI at h
  split at h
  · rename_i e; rw [if_pos e]; exact srtU_of h.1 h.2
  · rename_i e; rw [if_neg e]; exact srt_of h.1 h.2
theorem uniq_len : ∀ l : List Row, (uniq l).length ≤ l.length
  | [] => by simp [uniq]
  | [a] => by simp [uniq]
  | a :: b :: l => by
    have h := uniq_len (b :: l)
    unfold uniq
    split
    · simp only [List.length_cons] at h ⊢; omega
    · simp only [List.length_cons] at h ⊢; omega
theorem SortI.len {once : Bool} {acc m : List Row} (h : SortI once acc m) : acc.length ≤ m.length := by
  rw [h.eq]
  split
  · exact Nat.le_trans (uniq_len _) (by rw [srt_perm.length_eq]; exact Nat.le_refl _)
  · rw [srt_perm.length_eq]; exact Nat.le_refl _
theorem SortI.mem {once : Bool} {acc m : List Row} (h : SortI once acc m) {x : Row} (hx : x ∈ acc) : x ∈ m := by
  unfold SortI at h
  split at h
  · exact (h.2 x).1 hx
  · exact h.2.mem_iff.1 hx
end Go.Proofs.Ytlehbgapjibeeaa.V

namespace Go.Proofs.Ytlehbgapjibeeaa.V
open Go Go.Proofs
set_option linter.unusedVariables false
set_option linter.unusedSimpArgs false
/-- Nothing points beyond the store's end, and nothing lies there. -/
structure Cl (σ : Sto) : Prop where
  cl : ∀ x, x < σ.n → (σ.ob x).clean σ.n = true
  dd : ∀ x, σ.n ≤ x → σ.ob x = .dead
theorem Cl.e : Cl Sto.e := ⟨fun x hx => absurd hx (Nat.not_lt_zero _), fun x _ => rfl⟩
theorem Cl.new {n : Nat} {ob : Nat → VO} {X : VO} (h : Cl ⟨n, ob⟩) (hx : X.clean (n + 1) = true) : Cl ⟨n + 1, upd ob n X⟩ := by
  refine ⟨fun x hxn => ?_, fun x hxn => ?_⟩
  · simp only [upd_app]
    split
    · exact hx
    · have hxn' : x < n + 1 := hxn
      exact clean_mono (Nat.le_succ n) (h.cl x (by show x < n; omega))
  · have hxn' : n + 1 ≤ x := hxn
    simp only [upd_app]
    rw [if_neg (by omega)]
    exact h.dd x (by show n ≤ x; omega)
theorem Cl.set {n o : Nat} {ob : Nat → VO} {X : VO} (h : Cl ⟨n, ob⟩) (ho : o < n) (hx : X.clean n = true) : Cl ⟨n, upd ob o X⟩ := by
  refine ⟨fun x hxn => ?_, fun x hxn => ?_⟩
  · simp only [upd_app]
    split
    · exact hx
    · exact h.cl x hxn
  · have hxn' : n ≤ x := hxn
    simp only [upd_app]
    rw [if_neg (by omega)]
    exact h.dd x hxn
theorem Cl.e3 {n : Nat} {ob : Nat → VO} (h : Cl ⟨n, ob⟩) {X Y Z : VO} (h1 : X.clean (n + 1) = true) (h2 : Y.clean (n + 2) = true) (h3 : Z.clean (n + 3) = true) : Cl ⟨n + 3, upd (upd (upd ob n X) (n + 1) Y) (n + 2) Z⟩ := Cl.new (n := n + 2) (Cl.new (n := n + 1) (Cl.new h h1) h2) h3
end Go.Proofs.Ytlehbgapjibeeaa.V

namespace Go.Proofs.Ytlehbgapjibeeaa.V
open Go Go.Proofs
set_option linter.unusedVariables false
def mapA (f : Int → Int) (a : RA) : RA := ⟨a.rel, a.args.map f⟩
def chg (f : Int → Int) (q : Qry) : Qry := ⟨q.head.map f, q.body.map (mapA f)⟩
/-- The variables of a query, ascending. -/
def iota (n : Nat) : List Int := (List.range n).map Int.ofNat
def varsQ (q : Qry) : List Int := (iota 20).filter fun v => occurs q v || decide (v ∈ q.head)
/-- Names that are not in use. -/
def lst (us : List Int) : Nat := ((List.range (us.length + 1)).find? fun (v : Nat) => !decide ((v : Int) ∈ us)).getD 0
def frF (s : List (Int × Int) × List Int) (x : Int) : List (Int × Int) × List Int := (s.1 ++ [(x, (lst s.2 : Int))], s.2 ++ [(lst s.2 : Int)])
def fr (l us : List Int) : List (Int × Int) × List Int := l.foldl frF ([], us)
def frOk (ps : List (Int × Int)) : Bool := ps.all fun p => decide (p.2 < 20)
def asn (ps : List (Int × Int)) (t : Int) : Int := ((ps.find? fun p => decide (p.1 = t)).map (·.2)).getD t
/-- The views' bodies under fresh names; the arguments; the views' heads. -/
def unfS (views : List Qry) : List RA → List Int → Option (List RA × List Int × List Int)
  | [], _ => some ([], [], [])
  | a :: as_, us => match views[a.rel.toNat]? with
    | none => none
    | some v => if frOk (fr (varsQ v) us).1 then (unfS views as_ (fr (varsQ v) us).2).map fun s => (v.body.map (mapA (asn (fr (varsQ v) us).1)) ++ s.1, a.args ++ s.2.1, v.head.map (asn (fr (varsQ v) us).1) ++ s.2.2) else none
/-- What is put for what, so that two terms become equal. -/
def eqt (t u : Int) : Option (Int × Int) := if t = u then some (t, t) else if t < 0 then (if u < 0 then none else some (u, t)) else if u < 0 then some (t, u) else some (max t u, min t u)
def sb (p : Int × Int) (t : Int) : Int := if t = p.1 then p.2 else t
/-- Head, body, arguments and heads while the pairs from the i-th on are made equal. -/
structure Ust where
  h : List Int
  b : List RA
  l : List Int
  r : List Int
  deriving DecidableEq
def Ust.sub (p : Int × Int) (s : Ust) : Ust := ⟨s.h.map (sb p), s.b.map (mapA (sb p)), s.l.map (sb p), s.r.map (sb p)⟩
def eqS : List Nat → Ust → Option Ust
  | [], s => some s
  | i :: is, s => (eqt ((s.l[i]?).getD 0) ((s.r[i]?).getD 0)).bind fun p => eqS is (s.sub p)
/-- Each atom once, where it comes first. -/
def ddF (out : List RA) (a : RA) : List RA := if a ∈ out then out else out ++ [a]
def ddp (l : List RA) : List RA := l.foldl ddF []
def vSch (views : List Qry) : Sch := ⟨views.map fun v => (v.head.length : Int)⟩
def vOk (c : Sch) (v : Qry) : Bool := isQry c v && !decide (v.head.length = 0)
def allVs (c : Sch) (views : List Qry) : Bool := views.all (vOk c)
def areVs (c : Sch) (views : List Qry) : Bool := allVs c views && isSch c && inR views.length 1 4
def unfQ (views : List Qry) (q : Qry) : Option Qry := (unfS views q.body (varsQ q)).bind fun s => (eqS (List.range s.2.1.length) ⟨q.head, s.1, s.2.1, s.2.2⟩).map fun u => ⟨u.h, ddp u.b⟩
def unfold (c : Sch) (views : List Qry) (q : Qry) : Option Qry := if areVs c views && isQry (vSch views) q then unfQ views q else none
end Go.Proofs.Ytlehbgapjibeeaa.V

namespace Go.Proofs.Ytlehbgapjibeeaa.V
open Go Go.Proofs
set_option linter.unusedVariables false
set_option linter.unusedSimpArgs false
/-- Lengths of a query. -/
def SmQ (q : Qry) : Prop := Sm q.head ∧ Sm q.body ∧ ∀ a ∈ q.body, Sm a.args
theorem SmQ.of {N : Nat} (hN : N < 1099511627775) {q : Qry} (h : Lw.bd N q) : SmQ q := ⟨Nat.lt_of_le_of_lt h.1.1 hN, Nat.lt_of_le_of_lt h.2.1 hN, fun a ha => Nat.lt_of_le_of_lt (h.2.2 a ha).1 hN⟩
/-- A slice in a struct that grows from nil. -/
def gc (o n : Nat) : AV := if n = 0 then .t .nl else .ref o n []
@[simp] theorem gc_zero (o : Nat) : gc o 0 = .t .nl := rfl
@[simp] theorem gc_succ (o n : Nat) : gc o (n + 1) = .ref o (n + 1) [] := rfl
theorem gc_pos {o n : Nat} (h : n ≠ 0) : gc o n = .ref o n [] := by unfold gc; rw [if_neg h]
end Go.Proofs.Ytlehbgapjibeeaa.V

namespace Go.Proofs.Ytlehbgapjibeeaa.V
open Go Go.Proofs
set_option linter.unusedVariables false
set_option linter.unusedSimpArgs false
def vals (r : Row) : Bool := r.all fun x => inR x 0 99
/-- Lengths of a cache. -/
def SmC (x : Cch) : Prop := Sm x.views ∧ (∀ q ∈ x.views, SmQ q) ∧ Sm x.tables ∧ ∀ t ∈ x.tables, Sm t ∧ ∀ r ∈ t, Sm r
theorem SmC.of {N : Nat} (hN : N < 1099511627775) {x : Cch} (h : Lw.bd N x) : SmC x := ⟨Nat.lt_of_le_of_lt h.1.1 hN, fun q hq => SmQ.of hN (h.1.2 q hq), Nat.lt_of_le_of_lt h.2.1 hN, fun t ht => ⟨Nat.lt_of_le_of_lt (h.2.2 t ht).1 hN, fun r hr => Nat.lt_of_le_of_lt ((h.2.2 t ht).2 r hr).1 hN⟩⟩
end Go.Proofs.Ytlehbgapjibeeaa.V

namespace Go.Proofs.Ytlehbgapjibeeaa.V
open Go Go.Proofs
set_option linter.unusedVariables false
set_option linter.unusedSimpArgs false
abbrev xvF (a : RA) : XV := .agg [.t (.i .i64 a.rel) false, .own 1 (rowsE a.args)]
/-- Lengths of facts. -/
def SmF (l : List RA) : Prop := Sm l ∧ ∀ a ∈ l, Sm a.args
theorem copyFact_r (a : RA) (h : Sm a.args) : Ret XX 91 [Ag a] (xvF a) := by
  refine ret_W rfl Try.func91 rfl rfl (by simp [Try.f91]) ?_
  simp only [Try.f91]
  have c1 := cv (copyInts_r a.args h)
  repeat' first|refine nx ?_|refine xb_miss (by decide) ?_|(apply W_reg;(simp [Ag, c1];exact .r _))|(apply W_draw (id := 1) [0,1,0,4,12,31,63] rfl rfl; (· simp; exact .r _); (· simp [Ag, c1]; exact .r _); (· first|trivial|simp))
  simp
theorem l5Copy_r (a : RA) (h : Sm a.args) : Ret XX 89 [Ag a] (xvF a) := by
  refine ret_W rfl Try.func89 rfl rfl (by simp [Try.f89]) ?_
  simp only [Try.f89]
  repeat' first|refine nx ?_|refine xb_miss (by decide) ?_|(apply W_reg;(simp [Ag, show a.args.length < 1099511627776 by unfold Sm at h; omega];exact .r _))|(apply W_draw (id := 1) [0,1,0,0,8,28,63,127] rfl rfl; (· simp; exact .r _); (· simp [Ag, show a.args.length < 1099511627776 by unfold Sm at h; omega]; exact .r _); (· first|trivial|simp))
  simp
theorem copyFacts_r (l : List RA) (h : SmF l) : Ret XX 90 [Ar l] (.own 2 (rowsE l)) := by
  refine ret_W rfl Try.func90 rfl rfl (by simp [Try.f90]) ?_
  simp only [Try.f90]
  have hs : l.length < 1099511627775 := h.1
  repeat' first|refine nx ?_|refine xb_miss (by decide) ?_|(apply W_reg;(simp;exact .r _))
  refine W_loop (n := l.length) (fun n s => ∃ i : Nat, n = l.length - i ∧ s.nt = 20 ∧ s.tm 3 = .ref 0 i [] ∧ s.tm 7 = Ar l ∧ s.tm 8 = In l.length ∧ s.tm 9 = In i ∧ i ≤ l.length ∧ s.σ.ob 0 = .arr (.own 0) 0 2 (rowsE (l.take i)) ∧ 1 ≤ s.σ.n) ⟨0, by simp⟩ ?_
  rintro n ⟨nt, tm, σ⟩ ⟨i, rfl, hnt, h3, h7, h8, h9, hi, ho, hn⟩
  simp only at hnt h3 h7 h8 h9 ho hn
  subst hnt
  have ap1_ := apart hn
  repeat' first|refine nx ?_|refine xb_miss (by decide) ?_|(apply W_reg;(simp [h3, h7, h8, h9, ho, hn, ap1_];exact .r _))
  refine W_cond (by simp [h3, h7, h8, h9, ho, hn, ap1_]; exact .r _) (fun hc => ?_) (fun hc => ?_)
  · have hil : i < l.length := by simpa using hc
    have c1 := cv (copyFact_r l[i] (h.2 _ (List.getElem_mem hil)))
    simp only [Ag, cells_RA, List.map_cons, List.map_nil] at c1
    repeat' first|refine nx ?_|refine xb_miss (by decide) ?_|(apply W_reg;(simp [h3, h7, h8, h9, ho, hn, ap1_, hil, c1, show min i l.length = i by omega, show i + 1 < 1099511627776 by omega];exact .r _))
    refine ⟨_, ?_, i + 1, rfl, rfl, ?_, ?_, ?_, ?_, by omega, (by simp [h3, h7, h8, h9, ho, hn, ap1_]; rw [rowsE_take l i hil]; simp), ?_⟩
    all_goals first|assumption|(simp [h3, h7, h8, h9, ho, hn, ap1_];done)|(simp [h3, h7, h8, h9, ho, hn, ap1_];omega)|(simp [h3, h7, h8, h9, ho, hn, ap1_];exact wrap_succ (by omega))|omega
  · have hil : i = l.length := by simp at hc; omega
    subst hil
    rw [List.take_length] at ho
    repeat' first|refine nx ?_|refine xb_miss (by decide) ?_|(apply W_reg;(simp [h3, h7, h8, h9, ho, hn, ap1_];exact .r _))
    simp [ho]
theorem l5All_r (l : List RA) (h : SmF l) : Ret XX 46 [Ar l] (.own 2 (rowsE l)) := by
  refine ret_W rfl Try.func46 rfl rfl (by simp [Try.f46]) ?_
  simp only [Try.f46]
  have hs : l.length < 1099511627775 := h.1
  repeat' first|refine nx ?_|refine xb_miss (by decide) ?_|(apply W_reg;(simp;exact .r _))
  refine W_loop (n := l.length) (fun n s => ∃ i : Nat, n = l.length - i ∧ s.nt = 23 ∧ s.tm 0 = Ar l ∧ s.tm 3 = .ref 0 i [] ∧ s.tm 4 = In i ∧ i ≤ l.length ∧ s.σ.ob 0 = .arr (.own 0) 0 2 (rowsE (l.take i)) ∧ 1 ≤ s.σ.n) ⟨0, by simp⟩ ?_
  rintro n ⟨nt, tm, σ⟩ ⟨i, rfl, hnt, h0, h3, h4, hi, ho, hn⟩
  simp only at hnt h0 h3 h4 ho hn
  subst hnt
  have ap2_ := apart hn
  repeat' first|refine nx ?_|refine xb_miss (by decide) ?_|(apply W_reg;(simp [h0, h3, h4, ho, hn, ap2_];exact .r _))
  refine W_cond (by simp [h0, h3, h4, ho, hn, ap2_]; exact .r _) (fun hc => ?_) (fun hc => ?_)
  · have hil : i < l.length := by simpa using hc
    have c1 := cv (l5Copy_r l[i] (h.2 _ (List.getElem_mem hil)))
    simp only [Ag, cells_RA, List.map_cons, List.map_nil] at c1
    repeat' first|refine nx ?_|refine xb_miss (by decide) ?_|(apply W_reg;(simp [h0, h3, h4, ho, hn, ap2_, hil, c1, show min i l.length = i by omega, show i + 1 < 1099511627776 by omega];exact .r _))
    refine ⟨_, ?_, i + 1, rfl, rfl, ?_, ?_, ?_, by omega, (by simp [h0, h3, h4, ho, hn, ap2_]; rw [rowsE_take l i hil]; simp), ?_⟩
    all_goals first|assumption|(simp [h0, h3, h4, ho, hn, ap2_];done)|(simp [h0, h3, h4, ho, hn, ap2_];omega)|(simp [h0, h3, h4, ho, hn, ap2_];exact wrap_succ (by omega))|omega
  · have hil : i = l.length := by simp at hc; omega
    subst hil
    rw [List.take_length] at ho
    repeat' first|refine nx ?_|refine xb_miss (by decide) ?_|(apply W_reg;(simp [h0, h3, h4, ho, hn, ap2_];exact .r _))
    simp [ho]
theorem implHas_r (l : List RA) (f : RA) (h : SmF l) : Ret XX 26 [Ar l, Ag f] (.t (.b (decide (f ∈ l))) false) := by
  refine ret_W rfl Try.func26 rfl rfl (by simp [Try.f26]) ?_
  simp only [Try.f26]
  have hs : l.length < 1099511627775 := h.1
  repeat' first|refine nx ?_|refine xb_miss (by decide) ?_|(apply W_reg;(simp [Ag];exact .r _))
  refine W_loop (n := l.length) (fun n s => ∃ i : Nat, n = l.length - i ∧ s.nt = 17 ∧ s.tm 3 = .ptr 0 0 ∧ s.tm 7 = Ar l ∧ s.tm 8 = In l.length ∧ s.tm 9 = In i ∧ i ≤ l.length ∧ s.σ.ob 0 = .box [In f.rel, Ar f.args] ∧ 1 ≤ s.σ.n ∧ (f ∈ l ↔ f ∈ l.drop i)) ⟨0, by simp⟩ ?_
  rintro n ⟨nt, tm, σ⟩ ⟨i, rfl, hnt, h3, h7, h8, h9, hi, hb0, hn, heq⟩
  simp only at hnt h3 h7 h8 h9 hb0 hn
  subst hnt
  have ap3_ := apart hn
  repeat' first|refine nx ?_|refine xb_miss (by decide) ?_|(apply W_reg;(simp [h3, h7, h8, h9, hb0, hn, ap3_];exact .r _))
  refine W_cond (by simp [h3, h7, h8, h9, hb0, hn, ap3_]; exact .r _) (fun hc => ?_) (fun hc => ?_)
  · have hil : i < l.length := by simpa using hc
    have c1 := cv (equalFact_r l[i] f (h.2 _ (List.getElem_mem hil)))
    simp only [Ag, cells_RA, List.map_cons, List.map_nil] at c1
    rw [List.drop_eq_getElem_cons hil, List.mem_cons] at heq
    repeat' first|refine nx ?_|refine xb_miss (by decide) ?_|(apply W_reg;(simp [h3, h7, h8, h9, hb0, hn, ap3_, hil, c1];exact .r _))
    refine W_cond (by simp [h3, h7, h8, h9, hb0, hn, ap3_]; exact .r _) (fun hd => ?_) (fun hd => ?_)
    · have hd' : l[i] = f := by simpa using hd
      have : f ∈ l := heq.2 (.inl hd'.symm)
      repeat' first|refine nx ?_|refine xb_miss (by decide) ?_|(apply W_reg;(simp [h3, h7, h8, h9, hb0, hn, ap3_];exact .r _))
      simp [this]
    · have hd' : ¬ l[i] = f := by simpa using hd
      repeat' first|refine nx ?_|refine xb_miss (by decide) ?_|(apply W_reg;(simp [h3, h7, h8, h9, hb0, hn, ap3_];exact .r _))
      refine ⟨_, ?_, i + 1, rfl, rfl, ?_, ?_, ?_, ?_, by omega, ?_, ?_, (by rw [heq]; exact ⟨fun h => h.elim (fun e => absurd e.symm hd') id, .inr⟩)⟩
      all_goals first|assumption|(simp [h3, h7, h8, h9, hb0, hn, ap3_];done)|(simp [h3, h7, h8, h9, hb0, hn, ap3_];omega)|(simp [h3, h7, h8, h9, hb0, hn, ap3_];exact wrap_succ (by omega))|omega
  · have hil : i = l.length := by simp at hc; omega
    subst hil
    rw [List.drop_length] at heq
    have : f ∉ l := fun h => by cases heq.1 h
    repeat' first|refine nx ?_|refine xb_miss (by decide) ?_|(apply W_reg;(simp [h3, h7, h8, h9, hb0, hn, ap3_];exact .r _))
    simp [this]
theorem specHas_r (l : List RA) (f : RA) (h : SmF l) : Ret XX 96 [Ar l, Ag f] (.t (.b (decide (f ∈ l))) false) := by
  refine ret_W rfl Try.func96 rfl rfl (by simp [Try.f96]) ?_
  simp only [Try.f96]
  have hs : l.length < 1099511627775 := h.1
  repeat' first|refine nx ?_|refine xb_miss (by decide) ?_|(apply W_reg;(simp [Ag];exact .r _))
  refine W_loop (n := l.length) (fun n s => ∃ i : Nat, n = l.length - i ∧ s.nt = 18 ∧ s.tm 0 = Ar l ∧ s.tm 3 = .ptr 0 0 ∧ s.tm 5 = In i ∧ i ≤ l.length ∧ s.σ.ob 0 = .box [In f.rel, Ar f.args] ∧ 1 ≤ s.σ.n ∧ (f ∈ l ↔ f ∈ l.drop i)) ⟨0, by simp⟩ ?_
  rintro n ⟨nt, tm, σ⟩ ⟨i, rfl, hnt, h0, h3, h5, hi, hb0, hn, heq⟩
  simp only at hnt h0 h3 h5 hb0 hn
  subst hnt
  have ap4_ := apart hn
  repeat' first|refine nx ?_|refine xb_miss (by decide) ?_|(apply W_reg;(simp [h0, h3, h5, hb0, hn, ap4_];exact .r _))
  refine W_cond (by simp [h0, h3, h5, hb0, hn, ap4_]; exact .r _) (fun hc => ?_) (fun hc => ?_)
  · have hil : i < l.length := by simpa using hc
    have c1 := cv (l5Same_r l[i] f (h.2 _ (List.getElem_mem hil)))
    simp only [Ag, cells_RA, List.map_cons, List.map_nil] at c1
    rw [List.drop_eq_getElem_cons hil, List.mem_cons] at heq
    repeat' first|refine nx ?_|refine xb_miss (by decide) ?_|(apply W_reg;(simp [h0, h3, h5, hb0, hn, ap4_, hil, c1];exact .r _))|(apply W_draw (id := 4) [0,0,3,7,0,31] rfl rfl; (· simp; exact .r _); (· simp [h0, h3, h5, hb0, hn, ap4_, hil, c1]; exact .r _); (· first|trivial|simp))
    refine W_cond (by simp [h0, h3, h5, hb0, hn, ap4_]; exact .r _) (fun hd => ?_) (fun hd => ?_)
    · have hd' : l[i] = f := by simpa using hd
      have : f ∈ l := heq.2 (.inl hd'.symm)
      repeat' first|refine nx ?_|refine xb_miss (by decide) ?_|(apply W_reg;(simp [h0, h3, h5, hb0, hn, ap4_];exact .r _))
      simp [this]
    · have hd' : ¬ l[i] = f := by simpa using hd
      repeat' first|refine nx ?_|refine xb_miss (by decide) ?_|(apply W_reg;(simp [h0, h3, h5, hb0, hn, ap4_];exact .r _))
      refine ⟨_, ?_, i + 1, rfl, rfl, ?_, ?_, ?_, by omega, ?_, ?_, (by rw [heq]; exact ⟨fun h => h.elim (fun e => absurd e.symm hd') id, .inr⟩)⟩
      all_goals first|assumption|(simp [h0, h3, h5, hb0, hn, ap4_];done)|(simp [h0, h3, h5, hb0, hn, ap4_];omega)|(simp [h0, h3, h5, hb0, hn, ap4_];exact wrap_succ (by omega))|omega
  · have hil : i = l.length := by simp at hc; omega
    subst hil
    rw [List.drop_length] at heq
    have : f ∉ l := fun h => by cases heq.1 h
    repeat' first|refine nx ?_|refine xb_miss (by decide) ?_|(apply W_reg;(simp [h0, h3, h5, hb0, hn, ap4_];exact .r _))
    simp [this]
/-- Without a fact. -/
def remF (l : List RA) (f : RA) : List RA := l.filter fun x => !decide (x = f)
def xRem (c : Sch) (l : List RA) (f : RA) : XV := if isDb c l && decide (f ∈ l) then .tup [.own 2 (rowsE (remF l f)), .t (.b true) false] else .tup [.own 2 (rowsE l), .t (.b false) false]
theorem remF_take (l : List RA) (f : RA) (i : Nat) (h : i < l.length) : remF (l.take (i + 1)) f = remF (l.take i) f ++ (if l[i] = f then [] else [l[i]]) := by
  rw [List.take_succ_eq_append_getElem h, remF, remF, List.filter_append]
  congr 1
  by_cases e : l[i] = f <;> simp [e]
theorem remF_len (l : List RA) (f : RA) : (remF l f).length ≤ l.length := List.length_filter_le _ _
theorem implRem_r (c : Sch) (l : List RA) (f : RA) (sc : Sm c.arity) (h : SmF l) (hf : Sm f.args) : Ret XX 44 [Ag c, Ar l, Ag f] (xRem c l f) := by
  refine ret_W rfl Try.func44 rfl rfl (by simp [Try.f44]) ?_
  simp only [Try.f44]
  have c1 := cv (implIsDb_r c l sc h.1 h.2)
  have c2 := cv (implHas_r l f h)
  have c3 := cv (copyFacts_r l h)
  have hs : l.length < 1099511627775 := h.1
  simp only [Ag, cells_Sch, cells_RA, List.map_cons, List.map_nil] at c1 c2
  cases e1 : isDb c l
  · repeat' first|refine nx ?_|refine xb_miss (by decide) ?_|(apply W_reg;(simp [Ag, c1, e1];exact .r _))
    refine W_cond (by simp; exact .r _) (fun hc => ?_) (fun hc => ?_)
    · repeat' first|refine nx ?_|refine xb_miss (by decide) ?_|(apply W_reg;(simp [c3];exact .r _))
      simp [xRem, e1]
    · cases hc
  by_cases e2 : f ∈ l
  case neg =>
    repeat' first|refine nx ?_|refine xb_miss (by decide) ?_|(apply W_reg;(simp [Ag, c1, e1, c2, e2];exact .r _))
    refine W_cond (by simp; exact .r _) (fun hc => ?_) (fun hc => ?_)
    · repeat' first|refine nx ?_|refine xb_miss (by decide) ?_|(apply W_reg;(simp [c3];exact .r _))
      simp [xRem, e2]
    · cases hc
  repeat' first|refine nx ?_|refine xb_miss (by decide) ?_|(apply W_reg;(simp [Ag, c1, e1, c2, e2];exact .r _))
  refine W_cond (by simp; exact .r _) (fun hc => ?_) (fun hc => ?_)
  · cases hc
  repeat' first|refine nx ?_|refine xb_miss (by decide) ?_|(apply W_reg;(simp;exact .r _))
  refine W_loop (n := l.length) (fun n s => ∃ i : Nat, ∃ R : List RA, n = l.length - i ∧ s.nt = 41 ∧ s.tm 5 = .ptr 1 0 ∧ s.tm 8 = .ref 2 R.length [] ∧ s.tm 24 = Ar l ∧ s.tm 25 = In l.length ∧ s.tm 26 = In i ∧ i ≤ l.length ∧ s.σ.ob 1 = .box [In f.rel, Ar f.args] ∧ s.σ.ob 2 = .arr (.own 0) 0 2 (rowsE R) ∧ 3 ≤ s.σ.n ∧ R = remF (l.take i) f) ⟨0, [], by simp [remF]⟩ ?_
  rintro n ⟨nt, tm, σ⟩ ⟨i, R, rfl, hnt, h5, h8, h24, h25, h26, hi, hb1, ho, hn, hR⟩
  simp only at hnt h5 h8 h24 h25 h26 hb1 ho hn
  subst hnt
  have ap5_ := apart hn
  have hRl : R.length ≤ i := by rw [hR]; have := remF_len (l.take i) f; rw [List.length_take] at this; omega
  repeat' first|refine nx ?_|refine xb_miss (by decide) ?_|(apply W_reg;(simp [h5, h8, h24, h25, h26, hb1, ho, hn, ap5_];exact .r _))
  refine W_cond (by simp [h5, h8, h24, h25, h26, hb1, ho, hn, ap5_]; exact .r _) (fun hc => ?_) (fun hc => ?_)
  · have hil : i < l.length := by simpa using hc
    have hsm := h.2 _ (List.getElem_mem hil)
    have c4 := cv (equalFact_r l[i] f hsm)
    have c5 := cv (copyFact_r l[i] hsm)
    simp only [Ag, cells_RA, List.map_cons, List.map_nil] at c4 c5
    have ht := remF_take l f i hil
    rw [← hR] at ht
    by_cases e : l[i] = f
    · rw [if_pos e, List.append_nil] at ht
      repeat' first|refine nx ?_|refine xb_miss (by decide) ?_|(apply W_reg;(simp [h5, h8, h24, h25, h26, hb1, ho, hn, ap5_, hil, c4, e];exact .r _))
      refine W_cond (by simp [h5, h8, h24, h25, h26, hb1, ho, hn, ap5_]; exact .r _) (fun hd => ?_) (fun hd => ?_)
      · cases hd
      repeat' first|refine nx ?_|refine xb_miss (by decide) ?_|(apply W_reg;(simp [h5, h8, h24, h25, h26, hb1, ho, hn, ap5_];exact .r _))
      refine ⟨_, ?_, i + 1, R, rfl, rfl, ?_, ?_, ?_, ?_, ?_, by omega, ?_, ?_, ?_, ht.symm⟩
      all_goals first|assumption|(simp [h5, h8, h24, h25, h26, hb1, ho, hn, ap5_];done)|(simp [h5, h8, h24, h25, h26, hb1, ho, hn, ap5_];omega)|(simp [h5, h8, h24, h25, h26, hb1, ho, hn, ap5_];exact wrap_succ (by omega))|omega
    · rw [if_neg e] at ht
      repeat' first|refine nx ?_|refine xb_miss (by decide) ?_|(apply W_reg;(simp [h5, h8, h24, h25, h26, hb1, ho, hn, ap5_, hil, c4, e];exact .r _))
      refine W_cond (by simp [h5, h8, h24, h25, h26, hb1, ho, hn, ap5_]; exact .r _) (fun hd => ?_) (fun hd => ?_)
      · repeat' first|refine nx ?_|refine xb_miss (by decide) ?_|(apply W_reg;(simp [h5, h8, h24, h25, h26, hb1, ho, hn, ap5_, hil, c5, show R.length + 1 < 1099511627776 by omega];exact .r _))
        refine ⟨_, ?_, i + 1, R ++ [l[i]], rfl, rfl, ?_, ?_, ?_, ?_, ?_, by omega, ?_, (by simp [h5, h8, h24, h25, h26, hb1, ho, hn, ap5_, rowsE]), ?_, ht.symm⟩
        all_goals first|assumption|(simp [h5, h8, h24, h25, h26, hb1, ho, hn, ap5_];done)|(simp [h5, h8, h24, h25, h26, hb1, ho, hn, ap5_];omega)|(simp [h5, h8, h24, h25, h26, hb1, ho, hn, ap5_];exact wrap_succ (by omega))|omega
      · cases hd
  · have hil : i = l.length := by simp at hc; omega
    subst hil
    rw [List.take_length] at hR
    subst hR
    repeat' first|refine nx ?_|refine xb_miss (by decide) ?_|(apply W_reg;(simp [h5, h8, h24, h25, h26, hb1, ho, hn, ap5_];exact .r _))
    simp [xRem, e1, e2, ho]
theorem specRem_r (c : Sch) (l : List RA) (f : RA) (sc : Sm c.arity) (h : SmF l) (hf : Sm f.args) : Ret XX 48 [Ag c, Ar l, Ag f] (xRem c l f) := by
  refine ret_W rfl Try.func48 rfl rfl (by simp [Try.f48]) ?_
  simp only [Try.f48]
  have c1 := cv (specIsDb_r c l sc h.1 h.2)
  have c2 := cv (specHas_r l f h)
  have c3 := cv (l5All_r l h)
  have hs : l.length < 1099511627775 := h.1
  simp only [Ag, cells_Sch, cells_RA, List.map_cons, List.map_nil] at c1 c2
  cases e1 : isDb c l
  · repeat' first|refine nx ?_|refine xb_miss (by decide) ?_|(apply W_reg;(simp [Ag, c1, e1];exact .r _))
    refine W_cond (by simp; exact .r _) (fun hc => ?_) (fun hc => ?_)
    · repeat' first|refine nx ?_|refine xb_miss (by decide) ?_|(apply W_reg;(simp [c3];exact .r _))
      simp [xRem, e1]
    · cases hc
  by_cases e2 : f ∈ l
  case neg =>
    repeat' first|refine nx ?_|refine xb_miss (by decide) ?_|(apply W_reg;(simp [Ag, c1, e1, c2, e2];exact .r _))
    refine W_cond (by simp; exact .r _) (fun hc => ?_) (fun hc => ?_)
    · repeat' first|refine nx ?_|refine xb_miss (by decide) ?_|(apply W_reg;(simp [c3];exact .r _))
      simp [xRem, e2]
    · cases hc
  repeat' first|refine nx ?_|refine xb_miss (by decide) ?_|(apply W_reg;(simp [Ag, c1, e1, c2, e2];exact .r _))
  refine W_cond (by simp; exact .r _) (fun hc => ?_) (fun hc => ?_)
  · cases hc
  repeat' first|refine nx ?_|refine xb_miss (by decide) ?_|(apply W_reg;(simp;exact .r _))
  refine W_loop (n := l.length) (fun n s => ∃ i : Nat, ∃ R : List RA, n = l.length - i ∧ s.nt = 45 ∧ s.tm 1 = Ar l ∧ s.tm 5 = .ptr 1 0 ∧ s.tm 8 = .ref 2 R.length [] ∧ s.tm 9 = In i ∧ i ≤ l.length ∧ s.σ.ob 1 = .box [In f.rel, Ar f.args] ∧ s.σ.ob 2 = .arr (.own 0) 0 2 (rowsE R) ∧ 3 ≤ s.σ.n ∧ R = remF (l.take i) f) ⟨0, [], by simp [remF]⟩ ?_
  rintro n ⟨nt, tm, σ⟩ ⟨i, R, rfl, hnt, h1, h5, h8, h9, hi, hb1, ho, hn, hR⟩
  simp only at hnt h1 h5 h8 h9 hb1 ho hn
  subst hnt
  have ap6_ := apart hn
  have hRl : R.length ≤ i := by rw [hR]; have := remF_len (l.take i) f; rw [List.length_take] at this; omega
  repeat' first|refine nx ?_|refine xb_miss (by decide) ?_|(apply W_reg;(simp [h1, h5, h8, h9, hb1, ho, hn, ap6_];exact .r _))
  refine W_cond (by simp [h1, h5, h8, h9, hb1, ho, hn, ap6_]; exact .r _) (fun hc => ?_) (fun hc => ?_)
  · have hil : i < l.length := by simpa using hc
    have hsm := h.2 _ (List.getElem_mem hil)
    have c4 := cv (l5Same_r l[i] f hsm)
    have c5 := cv (l5Copy_r l[i] hsm)
    simp only [Ag, cells_RA, List.map_cons, List.map_nil] at c4 c5
    have ht := remF_take l f i hil
    rw [← hR] at ht
    by_cases e : l[i] = f
    · rw [if_pos e, List.append_nil] at ht
      repeat' first|refine nx ?_|refine xb_miss (by decide) ?_|(apply W_reg;(simp [h1, h5, h8, h9, hb1, ho, hn, ap6_, hil, c4, e];exact .r _))|(apply W_draw (id := 7) [0,0,3,7,0,31,63] rfl rfl; (· simp; exact .r _); (· simp [h1, h5, h8, h9, hb1, ho, hn, ap6_, hil, c4, e]; exact .r _); (· first|trivial|simp))
      refine W_cond (by simp [h1, h5, h8, h9, hb1, ho, hn, ap6_]; exact .r _) (fun hd => ?_) (fun hd => ?_)
      · cases hd
      repeat' first|refine nx ?_|refine xb_miss (by decide) ?_|(apply W_reg;(simp [h1, h5, h8, h9, hb1, ho, hn, ap6_];exact .r _))
      refine ⟨_, ?_, i + 1, R, rfl, rfl, ?_, ?_, ?_, ?_, by omega, ?_, ?_, ?_, ht.symm⟩
      all_goals first|assumption|(simp [h1, h5, h8, h9, hb1, ho, hn, ap6_];done)|(simp [h1, h5, h8, h9, hb1, ho, hn, ap6_];omega)|(simp [h1, h5, h8, h9, hb1, ho, hn, ap6_];exact wrap_succ (by omega))|omega
    · rw [if_neg e] at ht
      repeat' first|refine nx ?_|refine xb_miss (by decide) ?_|(apply W_reg;(simp [h1, h5, h8, h9, hb1, ho, hn, ap6_, hil, c4, e];exact .r _))|(apply W_draw (id := 7) [0,0,3,7,0,31,63] rfl rfl; (· simp; exact .r _); (· simp [h1, h5, h8, h9, hb1, ho, hn, ap6_, hil, c4, e]; exact .r _); (· first|trivial|simp))
      refine W_cond (by simp [h1, h5, h8, h9, hb1, ho, hn, ap6_]; exact .r _) (fun hd => ?_) (fun hd => ?_)
      · repeat' first|refine nx ?_|refine xb_miss (by decide) ?_|(apply W_reg;(simp [h1, h5, h8, h9, hb1, ho, hn, ap6_, hil, c5, show R.length + 1 < 1099511627776 by omega];exact .r _))
        refine ⟨_, ?_, i + 1, R ++ [l[i]], rfl, rfl, ?_, ?_, ?_, ?_, by omega, ?_, (by simp [h1, h5, h8, h9, hb1, ho, hn, ap6_, rowsE]), ?_, ht.symm⟩
        all_goals first|assumption|(simp [h1, h5, h8, h9, hb1, ho, hn, ap6_];done)|(simp [h1, h5, h8, h9, hb1, ho, hn, ap6_];omega)|(simp [h1, h5, h8, h9, hb1, ho, hn, ap6_];exact wrap_succ (by omega))|omega
      · cases hd
  · have hil : i = l.length := by simp at hc; omega
    subst hil
    rw [List.take_length] at hR
    subst hR
    repeat' first|refine nx ?_|refine xb_miss (by decide) ?_|(apply W_reg;(simp [h1, h5, h8, h9, hb1, ho, hn, ap6_];exact .r _))
    simp [xRem, e1, e2, ho]
end Go.Proofs.Ytlehbgapjibeeaa.V

namespace Go.Proofs.Ytlehbgapjibeeaa.V
open Go Go.Proofs
set_option linter.unusedVariables false
set_option linter.unusedSimpArgs false
theorem cv_sortF {σ : Sto} {o st v : Nat} {xs : List RA} (hob : σ.ob o = .arr (.own 0) st 2 (rowsE xs)) (hv : v = xs.length) (hlen : xs.length < 4611686018427387904) (h : ∀ x ∈ xs, Sm x.args) :
    callV Ms XX σ 93 [.ref o v [], .clo 94 []] = some (.tup [], σ.set o (.arr (.own 0) (st + 1) 2 (rowsE (srt cmpF xs)))) :=
  callV_d (by rfl) (by rfl) ((R_giv (drawV_go) (by rfl) _ _).trans (sortG_eq hob hv hlen ⟨h, fun a b _ _ h1 h2 => antiF a b h1 h2⟩)) rfl
def addF (l : List RA) (f : RA) : List RA := srt cmpF (l ++ [f])
def xAdd (c : Sch) (l : List RA) (f : RA) : XV := if isDb c l && isFact c f && !decide (f ∈ l) && !decide (l.length = 24) then .tup [.own 2 (rowsE (addF l f)), .t (.b true) false] else .tup [.own 2 (rowsE l), .t (.b false) false]
def putF (f : RA) : Bool → List RA → List RA
  | d, [] => if d then [] else [f]
  | true, x :: l => x :: putF f true l
  | false, x :: l => if cmpF x f < 0 then x :: putF f false l else if x = f then x :: putF f true l else f :: x :: putF f true l
theorem putF_t (f : RA) : ∀ l, putF f true l = l
  | [] => rfl
  | x :: l => by rw [putF, putF_t f l]
theorem putF_f {f : RA} : ∀ {l : List RA}, (l.Pairwise fun a b => cmpF a b < 0) → f ∉ l → (putF f false l).Perm (l ++ [f]) ∧ (putF f false l).Pairwise fun a b => ¬ cmpF b a < 0
  | [], _, _ => ⟨.refl _, List.pairwise_singleton _ _⟩
  | x :: l, h, hn => by
    rw [List.pairwise_cons] at h
    have asy : ∀ a b : RA, cmpF a b < 0 → ¬ cmpF b a < 0 := fun a b h1 h2 => by
      have := swoF.trans a b a (by rw [lt_dec]; exact decide_eq_true h1) (by rw [lt_dec]; exact decide_eq_true h2)
      rw [swoF.irrefl] at this; cases this
    have tr : ∀ a b c : RA, cmpF a b < 0 → cmpF b c < 0 → cmpF a c < 0 := fun a b c h1 h2 => by
      have := swoF.trans a b c (by rw [lt_dec]; exact decide_eq_true h1) (by rw [lt_dec]; exact decide_eq_true h2)
      rw [lt_dec, decide_eq_true_eq] at this; exact this
    rw [List.mem_cons, not_or] at hn
    by_cases c : cmpF x f < 0
    · obtain ⟨h1, h2⟩ := putF_f h.2 hn.2
      rw [putF, if_pos c]
      refine ⟨.cons _ h1, List.pairwise_cons.2 ⟨fun y hy => ?_, h2⟩⟩
      rcases List.mem_append.1 (h1.mem_iff.1 hy) with hy | hy
      · exact asy _ _ (h.1 y hy)
      · rw [List.mem_singleton] at hy; subst hy; exact asy _ _ c
    · have e : ¬ x = f := fun e => hn.1 e.symm
      have lt : cmpF f x < 0 := Classical.byContradiction fun hh => e (antiF x f hh c)
      rw [putF, if_neg c, if_neg e, putF_t]
      refine ⟨(List.perm_append_comm (l₁ := [f]) (l₂ := x :: l)), List.pairwise_cons.2 ⟨fun y hy => ?_, List.pairwise_cons.2 ⟨fun y hy => asy _ _ (h.1 y hy), h.2.imp (asy _ _)⟩⟩⟩
      rcases List.mem_cons.1 hy with rfl | hy
      · exact asy _ _ lt
      · exact asy _ _ (tr _ _ _ lt (h.1 y hy))
theorem putF_add {l : List RA} {f : RA} (h : ascF l = true) (hn : f ∉ l) : putF f false l = addF l f :=
  have := putF_f (ascF_pair h) hn
  srt_eq swoF (fun a b _ _ h1 h2 => antiF a b h1 h2) this.1 this.2
theorem implAdd_r (c : Sch) (l : List RA) (f : RA) (sc : Sm c.arity) (h : SmF l) (hf : Sm f.args) : Ret XX 45 [Ag c, Ar l, Ag f] (xAdd c l f) := by
  refine ret_W rfl Try.func45 rfl rfl (by simp [Try.f45]) ?_
  simp only [Try.f45]
  have c1 := cv (implIsDb_r c l sc h.1 h.2)
  have c2 := cv (implHas_r l f h)
  have c3 := cv (copyFacts_r l h)
  have c4 := cv (implIsFact_r c f sc hf)
  have c5 := cv (copyFact_r f hf)
  have hs : l.length < 1099511627775 := h.1
  simp only [Ag, cells_Sch, cells_RA, List.map_cons, List.map_nil] at c1 c2 c4 c5
  cases e1 : isDb c l
  · repeat' first|refine nx ?_|refine xb_miss (by decide) ?_|(apply W_reg;(simp [Ag, c1, c3, e1];exact .r _))
    refine W_cond (by simp; exact .r _) (fun hc => ?_) (fun hc => ?_)
    · repeat' first|refine nx ?_|refine xb_miss (by decide) ?_|(apply W_reg;(simp;exact .r _))
      simp [xAdd, e1]
    · cases hc
  cases e2 : isFact c f
  · repeat' first|refine nx ?_|refine xb_miss (by decide) ?_|(apply W_reg;(simp [Ag, c1, c3, e1, c4, e2];exact .r _))
    refine W_cond (by simp; exact .r _) (fun hc => ?_) (fun hc => ?_)
    · repeat' first|refine nx ?_|refine xb_miss (by decide) ?_|(apply W_reg;(simp;exact .r _))
      simp [xAdd, e2]
    · cases hc
  by_cases e3 : f ∈ l
  · repeat' first|refine nx ?_|refine xb_miss (by decide) ?_|(apply W_reg;(simp [Ag, c1, c3, e1, c4, e2, c2, e3];exact .r _))
    refine W_cond (by simp; exact .r _) (fun hc => ?_) (fun hc => ?_)
    · repeat' first|refine nx ?_|refine xb_miss (by decide) ?_|(apply W_reg;(simp;exact .r _))
      simp [xAdd, e3]
    · cases hc
  by_cases e4 : l.length = 24
  · repeat' first|refine nx ?_|refine xb_miss (by decide) ?_|(apply W_reg;(simp [Ag, c1, c3, e1, c4, e2, c2, e3, e4];exact .r _))
    refine W_cond (by simp; exact .r _) (fun hc => ?_) (fun hc => ?_)
    · repeat' first|refine nx ?_|refine xb_miss (by decide) ?_|(apply W_reg;(simp;exact .r _))
      simp [xAdd, e4]
    · simp at hc
  have e4' : ¬ (l.length : Int) = 24 := by omega
  repeat' first|refine nx ?_|refine xb_miss (by decide) ?_|(apply W_reg;(simp [Ag, c1, c3, e1, c4, e2, c2, e3, e4, e4'];exact .r _))
  refine W_cond (by simp; exact .r _) (fun hc => ?_) (fun hc => ?_)
  · simp at hc
  have hsm : ∀ x ∈ l ++ [f], Sm x.args := fun x hx => by
    rcases List.mem_append.1 hx with hx | hx
    · exact h.2 x hx
    · rw [List.mem_singleton] at hx; rw [hx]; exact hf
  have hll : (l ++ [f]).length < 4611686018427387904 := by simp; omega
  repeat' first|refine nx ?_|refine xb_miss (by decide) ?_|(apply W_reg;(simp [c5, show l.length + 1 < 1099511627776 by omega];exact .r _))
  refine W_gen (fun s2 => ∃ st, s2.ob 2 = .arr (.own 0) st 2 (rowsE (l ++ [f]))) ?_ (fun s2 hq2 => ?_)
  · exact ⟨_, by simp [upd_app, rowsE]; rfl⟩
  obtain ⟨st, hq2⟩ := hq2
  have hso := cv_sortF (σ := s2) (o := 2) (st := st) (v := l.length + 1) (xs := l ++ [f]) hq2 (by simp) hll hsm
  have hsl : (srt cmpF (l ++ [f])).length = l.length + 1 := by rw [srt_perm.length_eq]; simp
  repeat' first|refine nx ?_|refine xb_miss (by decide) ?_|(apply W_reg;(simp [hso];exact .r _))
  simp [xAdd, e1, e2, e3, e4, addF, hsl]
theorem l5Put_r (l : List RA) (f : RA) (h : SmF l) (hf : Sm f.args) : Ret XX 97 [Ar l, Ag f] (.own 2 (rowsE (putF f false l))) := by
  refine ret_W rfl Try.func97 rfl rfl (by simp [Try.f97]) ?_
  simp only [Try.f97]
  have hs : l.length < 1099511627775 := h.1
  have c5 := cv (l5Copy_r f hf)
  simp only [Ag, cells_RA, List.map_cons, List.map_nil] at c5
  repeat' first|refine nx ?_|refine xb_miss (by decide) ?_|(apply W_reg;(simp [Ag];exact .r _))|(apply W_draw (id := 6) [0,1,3,7,7,31,63,7,255,511,1023] rfl rfl; (· simp; exact .r _); (· simp [Ag]; exact .r _); (· first|trivial|simp))|(apply W_draw (id := 8) [0,0,3,7,0,31,63] rfl rfl; (· simp; exact .r _); (· simp [Ag]; exact .r _); (· first|trivial|simp))
  refine W_loop (n := l.length) (fun n s => ∃ i : Nat, ∃ d : Bool, ∃ R : List RA, n = l.length - i ∧ s.nt = 54 ∧ s.tm 0 = Ar l ∧ s.tm 3 = .ptr 0 0 ∧ s.tm 5 = .ref 1 R.length [] ∧ s.tm 6 = Bo d ∧ s.tm 7 = In i ∧ i ≤ l.length ∧ s.σ.ob 0 = .box [In f.rel, Ar f.args] ∧ s.σ.ob 1 = .arr (.own 0) 0 2 (rowsE R) ∧ 2 ≤ s.σ.n ∧ putF f false l = R ++ putF f d (l.drop i) ∧ R.length ≤ i + 1 ∧ (d = false → R.length ≤ i)) ⟨0, false, [], by simp⟩ ?_
  rintro n ⟨nt, tm, σ⟩ ⟨i, d, R, rfl, hnt, h0, h3, h5, h6, h7, hi, hb0, ho, hn, hR, hRl, hRd⟩
  simp only at hnt h0 h3 h5 h6 h7 hb0 ho hn
  subst hnt
  have ap1_ := apart hn
  repeat' first|refine nx ?_|refine xb_miss (by decide) ?_|(apply W_reg;(simp [h0, h3, h5, h6, h7, hb0, ho, hn, ap1_];exact .r _))|(apply W_draw (id := 6) [0,1,3,7,7,31,63,7,255,511,1023] rfl rfl; (· simp; exact .r _); (· simp [h0, h3, h5, h6, h7, hb0, ho, hn, ap1_]; exact .r _); (· first|trivial|simp))|(apply W_draw (id := 8) [0,0,3,7,0,31,63] rfl rfl; (· simp; exact .r _); (· simp [h0, h3, h5, h6, h7, hb0, ho, hn, ap1_]; exact .r _); (· first|trivial|simp))
  refine W_cond (by simp [h0, h3, h5, h6, h7, hb0, ho, hn, ap1_]; exact .r _) (fun hc => ?_) (fun hc => ?_)
  · have hil : i < l.length := by simpa using hc
    have hsm := h.2 _ (List.getElem_mem hil)
    have c1 := cv (l5Less_r l[i] f hsm)
    have c2 := cv (l5Same_r l[i] f hsm)
    have c3 := cv (l5Copy_r l[i] hsm)
    simp only [Ag, cells_RA, List.map_cons, List.map_nil] at c1 c2 c3
    rw [List.drop_eq_getElem_cons hil] at hR
    cases d
    case true =>
      rw [putF] at hR
      repeat' first|refine nx ?_|refine xb_miss (by decide) ?_|(apply W_reg;(simp [h0, h3, h5, h6, h7, hb0, ho, hn, ap1_, hil];exact .r _))|(apply W_draw (id := 6) [0,1,3,7,7,31,63,7,255,511,1023] rfl rfl; (· simp; exact .r _); (· simp [h0, h3, h5, h6, h7, hb0, ho, hn, ap1_, hil]; exact .r _); (· first|trivial|simp))|(apply W_draw (id := 8) [0,0,3,7,0,31,63] rfl rfl; (· simp; exact .r _); (· simp [h0, h3, h5, h6, h7, hb0, ho, hn, ap1_, hil]; exact .r _); (· first|trivial|simp))
      refine W_cond (by simp [h0, h3, h5, h6, h7, hb0, ho, hn, ap1_]; exact .r _) (fun hd => ?_) (fun hd => ?_)
      · cases hd
      repeat' first|refine nx ?_|refine xb_miss (by decide) ?_|(apply W_reg;(simp [h0, h3, h5, h6, h7, hb0, ho, hn, ap1_, hil, c3, show R.length + 1 < 1099511627776 by omega];exact .r _))|(apply W_draw (id := 6) [0,1,3,7,7,31,63,7,255,511,1023] rfl rfl; (· simp; exact .r _); (· simp [h0, h3, h5, h6, h7, hb0, ho, hn, ap1_, hil, c3, show R.length + 1 < 1099511627776 by omega]; exact .r _); (· first|trivial|simp))|(apply W_draw (id := 8) [0,0,3,7,0,31,63] rfl rfl; (· simp; exact .r _); (· simp [h0, h3, h5, h6, h7, hb0, ho, hn, ap1_, hil, c3, show R.length + 1 < 1099511627776 by omega]; exact .r _); (· first|trivial|simp))
      refine ⟨_, ?_, i + 1, true, R ++ [l[i]], rfl, rfl, ?_, ?_, ?_, ?_, ?_, by omega, ?_, (by simp [h0, h3, h5, h6, h7, hb0, ho, hn, ap1_, rowsE]), ?_, (by rw [hR]; simp), (by simp; omega), (fun h => by cases h)⟩
      all_goals first|assumption|(simp [h0, h3, h5, h6, h7, hb0, ho, hn, ap1_];done)|(simp [h0, h3, h5, h6, h7, hb0, ho, hn, ap1_];omega)|(simp [h0, h3, h5, h6, h7, hb0, ho, hn, ap1_];exact wrap_succ (by omega))|omega
    have hRd' := hRd rfl
    by_cases e1 : cmpF l[i] f < 0
    · rw [putF, if_pos e1] at hR
      repeat' first|refine nx ?_|refine xb_miss (by decide) ?_|(apply W_reg;(simp [h0, h3, h5, h6, h7, hb0, ho, hn, ap1_, hil, c1, e1];exact .r _))|(apply W_draw (id := 6) [0,1,3,7,7,31,63,7,255,511,1023] rfl rfl; (· simp; exact .r _); (· simp [h0, h3, h5, h6, h7, hb0, ho, hn, ap1_, hil, c1, e1]; exact .r _); (· first|trivial|simp))|(apply W_draw (id := 8) [0,0,3,7,0,31,63] rfl rfl; (· simp; exact .r _); (· simp [h0, h3, h5, h6, h7, hb0, ho, hn, ap1_, hil, c1, e1]; exact .r _); (· first|trivial|simp))
      refine W_cond (by simp [h0, h3, h5, h6, h7, hb0, ho, hn, ap1_]; exact .r _) (fun hd => ?_) (fun hd => ?_)
      · cases hd
      repeat' first|refine nx ?_|refine xb_miss (by decide) ?_|(apply W_reg;(simp [h0, h3, h5, h6, h7, hb0, ho, hn, ap1_, hil, c3, show R.length + 1 < 1099511627776 by omega];exact .r _))|(apply W_draw (id := 6) [0,1,3,7,7,31,63,7,255,511,1023] rfl rfl; (· simp; exact .r _); (· simp [h0, h3, h5, h6, h7, hb0, ho, hn, ap1_, hil, c3, show R.length + 1 < 1099511627776 by omega]; exact .r _); (· first|trivial|simp))|(apply W_draw (id := 8) [0,0,3,7,0,31,63] rfl rfl; (· simp; exact .r _); (· simp [h0, h3, h5, h6, h7, hb0, ho, hn, ap1_, hil, c3, show R.length + 1 < 1099511627776 by omega]; exact .r _); (· first|trivial|simp))
      refine ⟨_, ?_, i + 1, false, R ++ [l[i]], rfl, rfl, ?_, ?_, ?_, ?_, ?_, by omega, ?_, (by simp [h0, h3, h5, h6, h7, hb0, ho, hn, ap1_, rowsE]), ?_, (by rw [hR]; simp), (by simp; omega), (fun h => by simp; omega)⟩
      all_goals first|assumption|(simp [h0, h3, h5, h6, h7, hb0, ho, hn, ap1_];done)|(simp [h0, h3, h5, h6, h7, hb0, ho, hn, ap1_];omega)|(simp [h0, h3, h5, h6, h7, hb0, ho, hn, ap1_];exact wrap_succ (by omega))|omega
    by_cases e2 : l[i] = f
    · rw [putF, if_neg e1, if_pos e2] at hR
      repeat' first|refine nx ?_|refine xb_miss (by decide) ?_|(apply W_reg;(simp [h0, h3, h5, h6, h7, hb0, ho, hn, ap1_, hil, c1, e1];exact .r _))|(apply W_draw (id := 6) [0,1,3,7,7,31,63,7,255,511,1023] rfl rfl; (· simp; exact .r _); (· simp [h0, h3, h5, h6, h7, hb0, ho, hn, ap1_, hil, c1, e1]; exact .r _); (· first|trivial|simp))|(apply W_draw (id := 8) [0,0,3,7,0,31,63] rfl rfl; (· simp; exact .r _); (· simp [h0, h3, h5, h6, h7, hb0, ho, hn, ap1_, hil, c1, e1]; exact .r _); (· first|trivial|simp))
      refine W_cond (by simp [h0, h3, h5, h6, h7, hb0, ho, hn, ap1_]; exact .r _) (fun hd => ?_) (fun hd => ?_)
      · repeat' first|refine nx ?_|refine xb_miss (by decide) ?_|(apply W_reg;(simp [h0, h3, h5, h6, h7, hb0, ho, hn, ap1_, hil, c2, e2];exact .r _))|(apply W_draw (id := 6) [0,1,3,7,7,31,63,7,255,511,1023] rfl rfl; (· simp; exact .r _); (· simp [h0, h3, h5, h6, h7, hb0, ho, hn, ap1_, hil, c2, e2]; exact .r _); (· first|trivial|simp))|(apply W_draw (id := 8) [0,0,3,7,0,31,63] rfl rfl; (· simp; exact .r _); (· simp [h0, h3, h5, h6, h7, hb0, ho, hn, ap1_, hil, c2, e2]; exact .r _); (· first|trivial|simp))
        refine W_cond (by simp [h0, h3, h5, h6, h7, hb0, ho, hn, ap1_]; exact .r _) (fun hd2 => ?_) (fun hd2 => ?_)
        · cases hd2
        rw [← e2] at c5
        repeat' first|refine nx ?_|refine xb_miss (by decide) ?_|(apply W_reg;(simp [h0, h3, h5, h6, h7, hb0, ho, hn, ap1_, hil, c3, show R.length + 1 < 1099511627776 by omega];exact .r _))|(apply W_draw (id := 6) [0,1,3,7,7,31,63,7,255,511,1023] rfl rfl; (· simp; exact .r _); (· simp [h0, h3, h5, h6, h7, hb0, ho, hn, ap1_, hil, c3, show R.length + 1 < 1099511627776 by omega]; exact .r _); (· first|trivial|simp))|(apply W_draw (id := 8) [0,0,3,7,0,31,63] rfl rfl; (· simp; exact .r _); (· simp [h0, h3, h5, h6, h7, hb0, ho, hn, ap1_, hil, c3, show R.length + 1 < 1099511627776 by omega]; exact .r _); (· first|trivial|simp))
        refine ⟨_, ?_, i + 1, true, R ++ [l[i]], rfl, rfl, ?_, ?_, ?_, ?_, ?_, by omega, ?_, (by simp [h0, h3, h5, h6, h7, hb0, ho, hn, ap1_, rowsE]), ?_, (by rw [hR]; simp), (by simp; omega), (fun h => by cases h)⟩
        all_goals first|assumption|(simp [h0, h3, h5, h6, h7, hb0, ho, hn, ap1_];done)|(simp [h0, h3, h5, h6, h7, hb0, ho, hn, ap1_];omega)|(simp [h0, h3, h5, h6, h7, hb0, ho, hn, ap1_];exact wrap_succ (by omega))|omega
      · cases hd
    · rw [putF, if_neg e1, if_neg e2] at hR
      repeat' first|refine nx ?_|refine xb_miss (by decide) ?_|(apply W_reg;(simp [h0, h3, h5, h6, h7, hb0, ho, hn, ap1_, hil, c1, e1];exact .r _))|(apply W_draw (id := 6) [0,1,3,7,7,31,63,7,255,511,1023] rfl rfl; (· simp; exact .r _); (· simp [h0, h3, h5, h6, h7, hb0, ho, hn, ap1_, hil, c1, e1]; exact .r _); (· first|trivial|simp))|(apply W_draw (id := 8) [0,0,3,7,0,31,63] rfl rfl; (· simp; exact .r _); (· simp [h0, h3, h5, h6, h7, hb0, ho, hn, ap1_, hil, c1, e1]; exact .r _); (· first|trivial|simp))
      refine W_cond (by simp [h0, h3, h5, h6, h7, hb0, ho, hn, ap1_]; exact .r _) (fun hd => ?_) (fun hd => ?_)
      · repeat' first|refine nx ?_|refine xb_miss (by decide) ?_|(apply W_reg;(simp [h0, h3, h5, h6, h7, hb0, ho, hn, ap1_, hil, c2, e2];exact .r _))|(apply W_draw (id := 6) [0,1,3,7,7,31,63,7,255,511,1023] rfl rfl; (· simp; exact .r _); (· simp [h0, h3, h5, h6, h7, hb0, ho, hn, ap1_, hil, c2, e2]; exact .r _); (· first|trivial|simp))|(apply W_draw (id := 8) [0,0,3,7,0,31,63] rfl rfl; (· simp; exact .r _); (· simp [h0, h3, h5, h6, h7, hb0, ho, hn, ap1_, hil, c2, e2]; exact .r _); (· first|trivial|simp))
        refine W_cond (by simp [h0, h3, h5, h6, h7, hb0, ho, hn, ap1_]; exact .r _) (fun hd2 => ?_) (fun hd2 => ?_)
        · repeat' first|refine nx ?_|refine xb_miss (by decide) ?_|(apply W_reg;(simp [h0, h3, h5, h6, h7, hb0, ho, hn, ap1_, hil, c5, c3, show R.length + 1 < 1099511627776 by omega, show R.length + 1 + 1 < 1099511627776 by omega];exact .r _))|(apply W_draw (id := 6) [0,1,3,7,7,31,63,7,255,511,1023] rfl rfl; (· simp; exact .r _); (· simp [h0, h3, h5, h6, h7, hb0, ho, hn, ap1_, hil, c5, c3, show R.length + 1 < 1099511627776 by omega, show R.length + 1 + 1 < 1099511627776 by omega]; exact .r _); (· first|trivial|simp))|(apply W_draw (id := 8) [0,0,3,7,0,31,63] rfl rfl; (· simp; exact .r _); (· simp [h0, h3, h5, h6, h7, hb0, ho, hn, ap1_, hil, c5, c3, show R.length + 1 < 1099511627776 by omega, show R.length + 1 + 1 < 1099511627776 by omega]; exact .r _); (· first|trivial|simp))
          refine ⟨_, ?_, i + 1, true, R ++ [f, l[i]], rfl, rfl, ?_, ?_, ?_, ?_, ?_, by omega, ?_, (by simp [h0, h3, h5, h6, h7, hb0, ho, hn, ap1_, rowsE]), ?_, (by rw [hR]; simp), (by simp; omega), (fun h => by cases h)⟩
          all_goals first|assumption|(simp [h0, h3, h5, h6, h7, hb0, ho, hn, ap1_];done)|(simp [h0, h3, h5, h6, h7, hb0, ho, hn, ap1_];omega)|(simp [h0, h3, h5, h6, h7, hb0, ho, hn, ap1_];exact wrap_succ (by omega))|omega
        · cases hd2
      · cases hd
  · have hil : i = l.length := by simp at hc; omega
    subst hil
    rw [List.drop_length] at hR
    cases d
    · have hRd' := hRd rfl
      repeat' first|refine nx ?_|refine xb_miss (by decide) ?_|(apply W_reg;(simp [h0, h3, h5, h6, h7, hb0, ho, hn, ap1_];exact .r _))|(apply W_draw (id := 6) [0,1,3,7,7,31,63,7,255,511,1023] rfl rfl; (· simp; exact .r _); (· simp [h0, h3, h5, h6, h7, hb0, ho, hn, ap1_]; exact .r _); (· first|trivial|simp))|(apply W_draw (id := 8) [0,0,3,7,0,31,63] rfl rfl; (· simp; exact .r _); (· simp [h0, h3, h5, h6, h7, hb0, ho, hn, ap1_]; exact .r _); (· first|trivial|simp))
      refine W_cond (by simp [h0, h3, h5, h6, h7, hb0, ho, hn, ap1_]; exact .r _) (fun hd => ?_) (fun hd => ?_)
      · repeat' first|refine nx ?_|refine xb_miss (by decide) ?_|(apply W_reg;(simp [h0, h3, h5, h6, h7, hb0, ho, hn, ap1_, c5, show R.length + 1 < 1099511627776 by omega];exact .r _))|(apply W_draw (id := 6) [0,1,3,7,7,31,63,7,255,511,1023] rfl rfl; (· simp; exact .r _); (· simp [h0, h3, h5, h6, h7, hb0, ho, hn, ap1_, c5, show R.length + 1 < 1099511627776 by omega]; exact .r _); (· first|trivial|simp))|(apply W_draw (id := 8) [0,0,3,7,0,31,63] rfl rfl; (· simp; exact .r _); (· simp [h0, h3, h5, h6, h7, hb0, ho, hn, ap1_, c5, show R.length + 1 < 1099511627776 by omega]; exact .r _); (· first|trivial|simp))
        rw [hR]
        simp [ho, putF, rowsE]
      · cases hd
    · repeat' first|refine nx ?_|refine xb_miss (by decide) ?_|(apply W_reg;(simp [h0, h3, h5, h6, h7, hb0, ho, hn, ap1_];exact .r _))|(apply W_draw (id := 6) [0,1,3,7,7,31,63,7,255,511,1023] rfl rfl; (· simp; exact .r _); (· simp [h0, h3, h5, h6, h7, hb0, ho, hn, ap1_]; exact .r _); (· first|trivial|simp))|(apply W_draw (id := 8) [0,0,3,7,0,31,63] rfl rfl; (· simp; exact .r _); (· simp [h0, h3, h5, h6, h7, hb0, ho, hn, ap1_]; exact .r _); (· first|trivial|simp))
      refine W_cond (by simp [h0, h3, h5, h6, h7, hb0, ho, hn, ap1_]; exact .r _) (fun hd => ?_) (fun hd => ?_)
      · cases hd
      repeat' first|refine nx ?_|refine xb_miss (by decide) ?_|(apply W_reg;(simp [h0, h3, h5, h6, h7, hb0, ho, hn, ap1_];exact .r _))|(apply W_draw (id := 6) [0,1,3,7,7,31,63,7,255,511,1023] rfl rfl; (· simp; exact .r _); (· simp [h0, h3, h5, h6, h7, hb0, ho, hn, ap1_]; exact .r _); (· first|trivial|simp))|(apply W_draw (id := 8) [0,0,3,7,0,31,63] rfl rfl; (· simp; exact .r _); (· simp [h0, h3, h5, h6, h7, hb0, ho, hn, ap1_]; exact .r _); (· first|trivial|simp))
      rw [hR]
      simp [ho, putF]
theorem specAdd_r (c : Sch) (l : List RA) (f : RA) (sc : Sm c.arity) (h : SmF l) (hf : Sm f.args) : Ret XX 47 [Ag c, Ar l, Ag f] (xAdd c l f) := by
  refine ret_W rfl Try.func47 rfl rfl (by simp [Try.f47]) ?_
  simp only [Try.f47]
  have c1 := cv (specIsDb_r c l sc h.1 h.2)
  have c2 := cv (specHas_r l f h)
  have c3 := cv (l5All_r l h)
  have c4 := cv (specIsFact_r c f sc hf)
  have c5 := cv (l5Put_r l f h hf)
  have hs : l.length < 1099511627775 := h.1
  simp only [Ag, cells_Sch, cells_RA, List.map_cons, List.map_nil] at c1 c2 c4 c5
  cases e1 : isDb c l
  · repeat' first|refine nx ?_|refine xb_miss (by decide) ?_|(apply W_reg;(simp [Ag, c1, c3, e1];exact .r _))
    refine W_cond (by simp; exact .r _) (fun hc => ?_) (fun hc => ?_)
    · repeat' first|refine nx ?_|refine xb_miss (by decide) ?_|(apply W_reg;(simp [c3];exact .r _))
      simp [xAdd, e1]
    · cases hc
  cases e2 : isFact c f
  · repeat' first|refine nx ?_|refine xb_miss (by decide) ?_|(apply W_reg;(simp [Ag, c1, c3, e1, c4, e2];exact .r _))
    refine W_cond (by simp; exact .r _) (fun hc => ?_) (fun hc => ?_)
    · repeat' first|refine nx ?_|refine xb_miss (by decide) ?_|(apply W_reg;(simp [c3];exact .r _))
      simp [xAdd, e2]
    · cases hc
  by_cases e3 : f ∈ l
  · repeat' first|refine nx ?_|refine xb_miss (by decide) ?_|(apply W_reg;(simp [Ag, c1, c3, e1, c4, e2, c2, e3];exact .r _))
    refine W_cond (by simp; exact .r _) (fun hc => ?_) (fun hc => ?_)
    · repeat' first|refine nx ?_|refine xb_miss (by decide) ?_|(apply W_reg;(simp [c3];exact .r _))
      simp [xAdd, e3]
    · cases hc
  have hle : l.length ≤ 24 := by simp only [isDb, Bool.and_eq_true, decide_eq_true_eq] at e1; exact e1.2
  by_cases e4 : l.length = 24
  · repeat' first|refine nx ?_|refine xb_miss (by decide) ?_|(apply W_reg;(simp [Ag, c1, c3, e1, c4, e2, c2, e3, e4];exact .r _))
    refine W_cond (by simp; exact .r _) (fun hc => ?_) (fun hc => ?_)
    · repeat' first|refine nx ?_|refine xb_miss (by decide) ?_|(apply W_reg;(simp [c3];exact .r _))
      simp [xAdd, e4]
    · simp at hc
  have e4' : ¬ 24 ≤ l.length := by omega
  have e5 : putF f false l = addF l f := putF_add (by simp only [isDb, Bool.and_eq_true] at e1; exact e1.1.1.2) e3
  rw [e5] at c5
  repeat' first|refine nx ?_|refine xb_miss (by decide) ?_|(apply W_reg;(simp [Ag, c1, c3, e1, c4, e2, c2, e3, e4, e4'];exact .r _))
  refine W_cond (by simp; exact .r _) (fun hc => ?_) (fun hc => ?_)
  · simp at hc; omega
  repeat' first|refine nx ?_|refine xb_miss (by decide) ?_|(apply W_reg;(simp [c5];exact .r _))
  simp [xAdd, e1, e2, e3, e4]
end Go.Proofs.Ytlehbgapjibeeaa.V

