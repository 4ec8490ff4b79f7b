/- Several texts in one: what the claim needs of them. Conditions: each declaration's own. -/
import Derived.Test.YtmfifjbbjjdacaaGreatProg
import Derived.Test.YtmfifjbbjjdacaaGreatZFrsM4
import Derived.Orders
import Derived.Shelf.SlSortCmp.Kit1
import Derived.Shelf.SlSortCmp.KitK
import Derived.Shelf.SlSortCmp.QuietGrown
import Derived.Shelf.SlicesE.Kit
import Derived.Shelf.RegionOpenPlain
import Derived.WalkKit
import Derived.Deep.LoopGhost
import Derived.Deep.Draws
import Derived.Lib.Walk
import Derived.Sort.WalkB12
import Derived.Lib.SliceRun
import Derived.Lib.SlKept
import Derived.IntWalk
import Derived.Deep.Slices
import Derived.Deep.Strs
import Derived.Lib.SmallJoins
import Derived.WideShapes
import Derived.ChangeSame
import Derived.DataElems
import Derived.Below
import Derived.Shelf.SlSortCmp.NoneTotal
import Derived.Shelf.SlSortCmp.Insertion
namespace Go.Proofs.YtmfifjbbjjdacaaGreat.V
open Go Go.Proofs
theorem info_of {P : Program} {t : Nat} {i : TypeInfo} (h : ∀ w, (Go.typeInfo t).run P w = .ok i w) : P.info? t = some i := by
  have := h default
  simp only [Go.typeInfo] at this
  cases hi : P.info? t with
  | none => simp [hi] at this
  | some j => simp [hi] at this; rw [this]
theorem sz_of {P : Program} {t : Nat} {i : TypeInfo} (h : ∀ w, (Go.typeInfo t).run P w = .ok i w) : szOf P t = some i.size := by rw [szOf, info_of h]; rfl
theorem by_of {P : Program} {t : Nat} {i : TypeInfo} (h : ∀ w, (Go.typeInfo t).run P w = .ok i w) : (P.info? t).map (·.bytes) = some i.bytes := by rw [info_of h]; rfl
theorem zr_of {P : Program} {t : Nat} {i : TypeInfo} (h : ∀ w, (Go.typeInfo t).run P w = .ok i w) : zeroC P t = i.zero.bind constV := by rw [zeroC, info_of h]; rfl
@[simp] theorem sz1 : szOf Tryz.prog 1 = some 1 := sz_of Tryz.typeInfo1
@[simp] theorem ag1 : aggT Tryz.prog 1 = some false := by rw [aggT, Tryz.underlying1]
attribute [simp] Tryz.underlying1
@[simp] theorem sz2 : szOf Tryz.prog 2 = some 1 := sz_of Tryz.typeInfo2
@[simp] theorem ag2 : aggT Tryz.prog 2 = some false := by rw [aggT, Tryz.underlying2]
@[simp] theorem zr2 : zeroC Tryz.prog 2 = some (.t (.i .i64 0)) := (zr_of Tryz.typeInfo2).trans rfl
@[simp] theorem by2 : (Tryz.prog.info? 2).map (·.bytes) = some 8 := by_of Tryz.typeInfo2
attribute [simp] Tryz.underlying2
@[simp] theorem sz3 : szOf Tryz.prog 3 = some 1 := sz_of Tryz.typeInfo3
@[simp] theorem ag3 : aggT Tryz.prog 3 = some false := by rw [aggT, Tryz.underlying3]
@[simp] theorem zr3 : zeroC Tryz.prog 3 = some (.t (.i .i64 0)) := (zr_of Tryz.typeInfo3).trans rfl
@[simp] theorem by3 : (Tryz.prog.info? 3).map (·.bytes) = some 8 := by_of Tryz.typeInfo3
attribute [simp] Tryz.underlying3
@[simp] theorem sz4 : szOf Tryz.prog 4 = some 1 := sz_of Tryz.typeInfo4
@[simp] theorem ag4 : aggT Tryz.prog 4 = some false := by rw [aggT, Tryz.underlying4]
@[simp] theorem zr4 : zeroC Tryz.prog 4 = some (.t (.b false)) := (zr_of Tryz.typeInfo4).trans rfl
@[simp] theorem by4 : (Tryz.prog.info? 4).map (·.bytes) = some 1 := by_of Tryz.typeInfo4
attribute [simp] Tryz.underlying4
@[simp] theorem sz5 : szOf Tryz.prog 5 = some 1 := sz_of Tryz.typeInfo5
@[simp] theorem ag5 : aggT Tryz.prog 5 = some false := by rw [aggT, Tryz.underlying5]
@[simp] theorem zr5 : zeroC Tryz.prog 5 = some (.t (.i .u8 0)) := (zr_of Tryz.typeInfo5).trans rfl
@[simp] theorem by5 : (Tryz.prog.info? 5).map (·.bytes) = some 1 := by_of Tryz.typeInfo5
attribute [simp] Tryz.underlying5
@[simp] theorem sz6 : szOf Tryz.prog 6 = some 1 := sz_of Tryz.typeInfo6
@[simp] theorem ag6 : aggT Tryz.prog 6 = some false := by rw [aggT, Tryz.underlying6]
@[simp] theorem zr6 : zeroC Tryz.prog 6 = some (.t (.i .u8 0)) := (zr_of Tryz.typeInfo6).trans rfl
@[simp] theorem by6 : (Tryz.prog.info? 6).map (·.bytes) = some 1 := by_of Tryz.typeInfo6
attribute [simp] Tryz.underlying6
@[simp] theorem sz7 : szOf Tryz.prog 7 = some 4 := sz_of Tryz.typeInfo7
@[simp] theorem ag7 : aggT Tryz.prog 7 = some true := by rw [aggT, Tryz.underlying7]
@[simp] theorem zr7 : zeroC Tryz.prog 7 = some (.agg [.t (.i .i64 0), .t (.i .i64 0), .t (.b false), .t (.i .u8 0)]) := (zr_of Tryz.typeInfo7).trans rfl
@[simp] theorem by7 : (Tryz.prog.info? 7).map (·.bytes) = some 24 := by_of Tryz.typeInfo7
attribute [simp] Tryz.underlying7
@[simp] theorem sz8 : szOf Tryz.prog 8 = some 4 := sz_of Tryz.typeInfo8
@[simp] theorem ag8 : aggT Tryz.prog 8 = some true := by rw [aggT, Tryz.underlying8]
@[simp] theorem zr8 : zeroC Tryz.prog 8 = some (.agg [.t (.i .i64 0), .t (.i .i64 0), .t (.b false), .t (.i .u8 0)]) := (zr_of Tryz.typeInfo8).trans rfl
@[simp] theorem by8 : (Tryz.prog.info? 8).map (·.bytes) = some 24 := by_of Tryz.typeInfo8
attribute [simp] Tryz.underlying8
@[simp] theorem sz9 : szOf Tryz.prog 9 = some 1 := sz_of Tryz.typeInfo9
@[simp] theorem ag9 : aggT Tryz.prog 9 = some false := by rw [aggT, Tryz.underlying9]
@[simp] theorem zr9 : zeroC Tryz.prog 9 = some (.t (.s ⟨#[]⟩)) := (zr_of Tryz.typeInfo9).trans rfl
@[simp] theorem by9 : (Tryz.prog.info? 9).map (·.bytes) = some 16 := by_of Tryz.typeInfo9
attribute [simp] Tryz.underlying9
@[simp] theorem sz10 : szOf Tryz.prog 10 = some 1 := sz_of Tryz.typeInfo10
@[simp] theorem ag10 : aggT Tryz.prog 10 = some false := by rw [aggT, Tryz.underlying10]
@[simp] theorem zr10 : zeroC Tryz.prog 10 = some (.t (.s ⟨#[]⟩)) := (zr_of Tryz.typeInfo10).trans rfl
@[simp] theorem by10 : (Tryz.prog.info? 10).map (·.bytes) = some 16 := by_of Tryz.typeInfo10
attribute [simp] Tryz.underlying10
@[simp] theorem sz11 : szOf Tryz.prog 11 = some 1 := sz_of Tryz.typeInfo11
@[simp] theorem ag11 : aggT Tryz.prog 11 = some false := by rw [aggT, Tryz.underlying11]
@[simp] theorem zr11 : zeroC Tryz.prog 11 = some (.t (.s ⟨#[]⟩)) := (zr_of Tryz.typeInfo11).trans rfl
@[simp] theorem by11 : (Tryz.prog.info? 11).map (·.bytes) = some 16 := by_of Tryz.typeInfo11
attribute [simp] Tryz.underlying11
@[simp] theorem sz12 : szOf Tryz.prog 12 = some 1 := sz_of Tryz.typeInfo12
@[simp] theorem ag12 : aggT Tryz.prog 12 = some false := by rw [aggT, Tryz.underlying12]
@[simp] theorem zr12 : zeroC Tryz.prog 12 = some (.t (.i .u64 0)) := (zr_of Tryz.typeInfo12).trans rfl
@[simp] theorem by12 : (Tryz.prog.info? 12).map (·.bytes) = some 8 := by_of Tryz.typeInfo12
attribute [simp] Tryz.underlying12
@[simp] theorem sz13 : szOf Tryz.prog 13 = some 2 := sz_of Tryz.typeInfo13
@[simp] theorem ag13 : aggT Tryz.prog 13 = some true := by rw [aggT, Tryz.underlying13]
@[simp] theorem zr13 : zeroC Tryz.prog 13 = some (.agg [.t (.s ⟨#[]⟩), .t (.i .u64 0)]) := (zr_of Tryz.typeInfo13).trans rfl
@[simp] theorem by13 : (Tryz.prog.info? 13).map (·.bytes) = some 24 := by_of Tryz.typeInfo13
attribute [simp] Tryz.underlying13
@[simp] theorem sz14 : szOf Tryz.prog 14 = some 2 := sz_of Tryz.typeInfo14
@[simp] theorem ag14 : aggT Tryz.prog 14 = some true := by rw [aggT, Tryz.underlying14]
@[simp] theorem zr14 : zeroC Tryz.prog 14 = some (.agg [.t (.s ⟨#[]⟩), .t (.i .u64 0)]) := (zr_of Tryz.typeInfo14).trans rfl
@[simp] theorem by14 : (Tryz.prog.info? 14).map (·.bytes) = some 24 := by_of Tryz.typeInfo14
attribute [simp] Tryz.underlying14
@[simp] theorem sz15 : szOf Tryz.prog 15 = some 1 := sz_of Tryz.typeInfo15
@[simp] theorem ag15 : aggT Tryz.prog 15 = some false := by rw [aggT, Tryz.underlying15]
@[simp] theorem zr15 : zeroC Tryz.prog 15 = some (.np) := (zr_of Tryz.typeInfo15).trans rfl
@[simp] theorem by15 : (Tryz.prog.info? 15).map (·.bytes) = some 8 := by_of Tryz.typeInfo15
attribute [simp] Tryz.underlying15
@[simp] theorem sz16 : szOf Tryz.prog 16 = some 1 := sz_of Tryz.typeInfo16
@[simp] theorem ag16 : aggT Tryz.prog 16 = some false := by rw [aggT, Tryz.underlying16]
@[simp] theorem zr16 : zeroC Tryz.prog 16 = some (.np) := (zr_of Tryz.typeInfo16).trans rfl
@[simp] theorem by16 : (Tryz.prog.info? 16).map (·.bytes) = some 8 := by_of Tryz.typeInfo16
attribute [simp] Tryz.underlying16
@[simp] theorem sz17 : szOf Tryz.prog 17 = some 1 := sz_of Tryz.typeInfo17
@[simp] theorem ag17 : aggT Tryz.prog 17 = some false := by rw [aggT, Tryz.underlying17]
@[simp] theorem zr17 : zeroC Tryz.prog 17 = some (.np) := (zr_of Tryz.typeInfo17).trans rfl
@[simp] theorem by17 : (Tryz.prog.info? 17).map (·.bytes) = some 8 := by_of Tryz.typeInfo17
attribute [simp] Tryz.underlying17
@[simp] theorem sz18 : szOf Tryz.prog 18 = some 1 := sz_of Tryz.typeInfo18
@[simp] theorem ag18 : aggT Tryz.prog 18 = some true := by rw [aggT, Tryz.underlying18]
attribute [simp] Tryz.underlying18
@[simp] theorem sz19 : szOf Tryz.prog 19 = some 1 := sz_of Tryz.typeInfo19
@[simp] theorem ag19 : aggT Tryz.prog 19 = some true := by rw [aggT, Tryz.underlying19]
attribute [simp] Tryz.underlying19
@[simp] theorem sz21 : szOf Tryz.prog 21 = some 1 := sz_of Tryz.typeInfo21
@[simp] theorem ag21 : aggT Tryz.prog 21 = some false := by rw [aggT, Tryz.underlying21]
@[simp] theorem zr21 : zeroC Tryz.prog 21 = some (.t (.i .i32 0)) := (zr_of Tryz.typeInfo21).trans rfl
@[simp] theorem by21 : (Tryz.prog.info? 21).map (·.bytes) = some 4 := by_of Tryz.typeInfo21
attribute [simp] Tryz.underlying21
@[simp] theorem sz22 : szOf Tryz.prog 22 = some 1 := sz_of Tryz.typeInfo22
@[simp] theorem ag22 : aggT Tryz.prog 22 = some false := by rw [aggT, Tryz.underlying22]
@[simp] theorem zr22 : zeroC Tryz.prog 22 = some (.t .nl) := (zr_of Tryz.typeInfo22).trans rfl
@[simp] theorem by22 : (Tryz.prog.info? 22).map (·.bytes) = some 24 := by_of Tryz.typeInfo22
attribute [simp] Tryz.underlying22
@[simp] theorem sz23 : szOf Tryz.prog 23 = some 1 := sz_of Tryz.typeInfo23
@[simp] theorem ag23 : aggT Tryz.prog 23 = some false := by rw [aggT, Tryz.underlying23]
attribute [simp] Tryz.underlying23
@[simp] theorem sz24 : szOf Tryz.prog 24 = some 1 := sz_of Tryz.typeInfo24
@[simp] theorem ag24 : aggT Tryz.prog 24 = some false := by rw [aggT, Tryz.underlying24]
attribute [simp] Tryz.underlying24
@[simp] theorem sz26 : szOf Tryz.prog 26 = some 1 := sz_of Tryz.typeInfo26
@[simp] theorem ag26 : aggT Tryz.prog 26 = some false := by rw [aggT, Tryz.underlying26]
attribute [simp] Tryz.underlying26
@[simp] theorem sz27 : szOf Tryz.prog 27 = some 1 := sz_of Tryz.typeInfo27
@[simp] theorem ag27 : aggT Tryz.prog 27 = some false := by rw [aggT, Tryz.underlying27]
attribute [simp] Tryz.underlying27
@[simp] theorem sz28 : szOf Tryz.prog 28 = some 1 := sz_of Tryz.typeInfo28
@[simp] theorem ag28 : aggT Tryz.prog 28 = some false := by rw [aggT, Tryz.underlying28]
@[simp] theorem zr28 : zeroC Tryz.prog 28 = some (.t .nl) := (zr_of Tryz.typeInfo28).trans rfl
@[simp] theorem by28 : (Tryz.prog.info? 28).map (·.bytes) = some 24 := by_of Tryz.typeInfo28
attribute [simp] Tryz.underlying28
@[simp] theorem sz29 : szOf Tryz.prog 29 = some 2 := sz_of Tryz.typeInfo29
@[simp] theorem ag29 : aggT Tryz.prog 29 = some true := by rw [aggT, Tryz.underlying29]
@[simp] theorem zr29 : zeroC Tryz.prog 29 = some (.agg [.t (.i .i64 0), .t .nl]) := (zr_of Tryz.typeInfo29).trans rfl
@[simp] theorem by29 : (Tryz.prog.info? 29).map (·.bytes) = some 32 := by_of Tryz.typeInfo29
attribute [simp] Tryz.underlying29
@[simp] theorem sz30 : szOf Tryz.prog 30 = some 2 := sz_of Tryz.typeInfo30
@[simp] theorem ag30 : aggT Tryz.prog 30 = some true := by rw [aggT, Tryz.underlying30]
@[simp] theorem zr30 : zeroC Tryz.prog 30 = some (.agg [.t (.i .i64 0), .t .nl]) := (zr_of Tryz.typeInfo30).trans rfl
@[simp] theorem by30 : (Tryz.prog.info? 30).map (·.bytes) = some 32 := by_of Tryz.typeInfo30
attribute [simp] Tryz.underlying30
@[simp] theorem sz31 : szOf Tryz.prog 31 = some 1 := sz_of Tryz.typeInfo31
@[simp] theorem ag31 : aggT Tryz.prog 31 = some false := by rw [aggT, Tryz.underlying31]
attribute [simp] Tryz.underlying31
@[simp] theorem sz33 : szOf Tryz.prog 33 = some 1 := sz_of Tryz.typeInfo33
@[simp] theorem ag33 : aggT Tryz.prog 33 = some false := by rw [aggT, Tryz.underlying33]
attribute [simp] Tryz.underlying33
@[simp] theorem sz34 : szOf Tryz.prog 34 = some 1 := sz_of Tryz.typeInfo34
@[simp] theorem ag34 : aggT Tryz.prog 34 = some false := by rw [aggT, Tryz.underlying34]
attribute [simp] Tryz.underlying34
@[simp] theorem sz35 : szOf Tryz.prog 35 = some 1 := sz_of Tryz.typeInfo35
@[simp] theorem ag35 : aggT Tryz.prog 35 = some false := by rw [aggT, Tryz.underlying35]
attribute [simp] Tryz.underlying35
@[simp] theorem sz36 : szOf Tryz.prog 36 = some 1 := sz_of Tryz.typeInfo36
@[simp] theorem ag36 : aggT Tryz.prog 36 = some false := by rw [aggT, Tryz.underlying36]
attribute [simp] Tryz.underlying36
@[simp] theorem sz37 : szOf Tryz.prog 37 = some 1 := sz_of Tryz.typeInfo37
@[simp] theorem ag37 : aggT Tryz.prog 37 = some true := by rw [aggT, Tryz.underlying37]
@[simp] theorem zr37 : zeroC Tryz.prog 37 = some (.agg [.t .nl]) := (zr_of Tryz.typeInfo37).trans rfl
@[simp] theorem by37 : (Tryz.prog.info? 37).map (·.bytes) = some 24 := by_of Tryz.typeInfo37
attribute [simp] Tryz.underlying37
@[simp] theorem sz38 : szOf Tryz.prog 38 = some 1 := sz_of Tryz.typeInfo38
@[simp] theorem ag38 : aggT Tryz.prog 38 = some true := by rw [aggT, Tryz.underlying38]
@[simp] theorem zr38 : zeroC Tryz.prog 38 = some (.agg [.t .nl]) := (zr_of Tryz.typeInfo38).trans rfl
@[simp] theorem by38 : (Tryz.prog.info? 38).map (·.bytes) = some 24 := by_of Tryz.typeInfo38
attribute [simp] Tryz.underlying38
@[simp] theorem sz39 : szOf Tryz.prog 39 = some 1 := sz_of Tryz.typeInfo39
@[simp] theorem ag39 : aggT Tryz.prog 39 = some false := by rw [aggT, Tryz.underlying39]
@[simp] theorem zr39 : zeroC Tryz.prog 39 = some (.t .nl) := (zr_of Tryz.typeInfo39).trans rfl
@[simp] theorem by39 : (Tryz.prog.info? 39).map (·.bytes) = some 24 := by_of Tryz.typeInfo39
attribute [simp] Tryz.underlying39
@[simp] theorem sz40 : szOf Tryz.prog 40 = some 2 := sz_of Tryz.typeInfo40
@[simp] theorem ag40 : aggT Tryz.prog 40 = some true := by rw [aggT, Tryz.underlying40]
@[simp] theorem zr40 : zeroC Tryz.prog 40 = some (.agg [.t .nl, .t .nl]) := (zr_of Tryz.typeInfo40).trans rfl
@[simp] theorem by40 : (Tryz.prog.info? 40).map (·.bytes) = some 48 := by_of Tryz.typeInfo40
attribute [simp] Tryz.underlying40
@[simp] theorem sz41 : szOf Tryz.prog 41 = some 2 := sz_of Tryz.typeInfo41
@[simp] theorem ag41 : aggT Tryz.prog 41 = some true := by rw [aggT, Tryz.underlying41]
@[simp] theorem zr41 : zeroC Tryz.prog 41 = some (.agg [.t .nl, .t .nl]) := (zr_of Tryz.typeInfo41).trans rfl
@[simp] theorem by41 : (Tryz.prog.info? 41).map (·.bytes) = some 48 := by_of Tryz.typeInfo41
attribute [simp] Tryz.underlying41
@[simp] theorem sz43 : szOf Tryz.prog 43 = some 1 := sz_of Tryz.typeInfo43
@[simp] theorem ag43 : aggT Tryz.prog 43 = some false := by rw [aggT, Tryz.underlying43]
attribute [simp] Tryz.underlying43
@[simp] theorem sz45 : szOf Tryz.prog 45 = some 1 := sz_of Tryz.typeInfo45
@[simp] theorem ag45 : aggT Tryz.prog 45 = some false := by rw [aggT, Tryz.underlying45]
attribute [simp] Tryz.underlying45
@[simp] theorem sz46 : szOf Tryz.prog 46 = some 1 := sz_of Tryz.typeInfo46
@[simp] theorem ag46 : aggT Tryz.prog 46 = some false := by rw [aggT, Tryz.underlying46]
attribute [simp] Tryz.underlying46
@[simp] theorem sz47 : szOf Tryz.prog 47 = some 1 := sz_of Tryz.typeInfo47
@[simp] theorem ag47 : aggT Tryz.prog 47 = some false := by rw [aggT, Tryz.underlying47]
attribute [simp] Tryz.underlying47
@[simp] theorem sz48 : szOf Tryz.prog 48 = some 1 := sz_of Tryz.typeInfo48
@[simp] theorem ag48 : aggT Tryz.prog 48 = some false := by rw [aggT, Tryz.underlying48]
attribute [simp] Tryz.underlying48
@[simp] theorem sz49 : szOf Tryz.prog 49 = some 2 := sz_of Tryz.typeInfo49
@[simp] theorem ag49 : aggT Tryz.prog 49 = some true := by rw [aggT, Tryz.underlying49]
@[simp] theorem zr49 : zeroC Tryz.prog 49 = some (.agg [.t (.i .i64 0), .t .nl]) := (zr_of Tryz.typeInfo49).trans rfl
@[simp] theorem by49 : (Tryz.prog.info? 49).map (·.bytes) = some 32 := by_of Tryz.typeInfo49
attribute [simp] Tryz.underlying49
@[simp] theorem sz51 : szOf Tryz.prog 51 = some 1 := sz_of Tryz.typeInfo51
@[simp] theorem ag51 : aggT Tryz.prog 51 = some false := by rw [aggT, Tryz.underlying51]
attribute [simp] Tryz.underlying51
@[simp] theorem sz53 : szOf Tryz.prog 53 = some 1 := sz_of Tryz.typeInfo53
@[simp] theorem ag53 : aggT Tryz.prog 53 = some false := by rw [aggT, Tryz.underlying53]
attribute [simp] Tryz.underlying53
@[simp] theorem sz54 : szOf Tryz.prog 54 = some 1 := sz_of Tryz.typeInfo54
@[simp] theorem ag54 : aggT Tryz.prog 54 = some false := by rw [aggT, Tryz.underlying54]
attribute [simp] Tryz.underlying54
@[simp] theorem sz55 : szOf Tryz.prog 55 = some 2 := sz_of Tryz.typeInfo55
@[simp] theorem ag55 : aggT Tryz.prog 55 = some true := by rw [aggT, Tryz.underlying55]
@[simp] theorem zr55 : zeroC Tryz.prog 55 = some (.agg [.t (.i .i64 0), .t .nl]) := (zr_of Tryz.typeInfo55).trans rfl
@[simp] theorem by55 : (Tryz.prog.info? 55).map (·.bytes) = some 32 := by_of Tryz.typeInfo55
attribute [simp] Tryz.underlying55
@[simp] theorem sz56 : szOf Tryz.prog 56 = some 2 := sz_of Tryz.typeInfo56
@[simp] theorem ag56 : aggT Tryz.prog 56 = some true := by rw [aggT, Tryz.underlying56]
@[simp] theorem zr56 : zeroC Tryz.prog 56 = some (.agg [.t (.i .i64 0), .t .nl]) := (zr_of Tryz.typeInfo56).trans rfl
@[simp] theorem by56 : (Tryz.prog.info? 56).map (·.bytes) = some 32 := by_of Tryz.typeInfo56
attribute [simp] Tryz.underlying56
@[simp] theorem sz58 : szOf Tryz.prog 58 = some 1 := sz_of Tryz.typeInfo58
@[simp] theorem ag58 : aggT Tryz.prog 58 = some false := by rw [aggT, Tryz.underlying58]
attribute [simp] Tryz.underlying58
@[simp] theorem sz60 : szOf Tryz.prog 60 = some 1 := sz_of Tryz.typeInfo60
@[simp] theorem ag60 : aggT Tryz.prog 60 = some false := by rw [aggT, Tryz.underlying60]
attribute [simp] Tryz.underlying60
@[simp] theorem sz61 : szOf Tryz.prog 61 = some 1 := sz_of Tryz.typeInfo61
@[simp] theorem ag61 : aggT Tryz.prog 61 = some false := by rw [aggT, Tryz.underlying61]
attribute [simp] Tryz.underlying61
@[simp] theorem sz62 : szOf Tryz.prog 62 = some 1 := sz_of Tryz.typeInfo62
@[simp] theorem ag62 : aggT Tryz.prog 62 = some false := by rw [aggT, Tryz.underlying62]
@[simp] theorem zr62 : zeroC Tryz.prog 62 = some (.t .nl) := (zr_of Tryz.typeInfo62).trans rfl
@[simp] theorem by62 : (Tryz.prog.info? 62).map (·.bytes) = some 24 := by_of Tryz.typeInfo62
attribute [simp] Tryz.underlying62
@[simp] theorem sz63 : szOf Tryz.prog 63 = some 2 := sz_of Tryz.typeInfo63
@[simp] theorem ag63 : aggT Tryz.prog 63 = some true := by rw [aggT, Tryz.underlying63]
@[simp] theorem zr63 : zeroC Tryz.prog 63 = some (.agg [.t .nl, .t (.i .i64 0)]) := (zr_of Tryz.typeInfo63).trans rfl
@[simp] theorem by63 : (Tryz.prog.info? 63).map (·.bytes) = some 32 := by_of Tryz.typeInfo63
attribute [simp] Tryz.underlying63
@[simp] theorem sz64 : szOf Tryz.prog 64 = some 2 := sz_of Tryz.typeInfo64
@[simp] theorem ag64 : aggT Tryz.prog 64 = some true := by rw [aggT, Tryz.underlying64]
@[simp] theorem zr64 : zeroC Tryz.prog 64 = some (.agg [.t .nl, .t (.i .i64 0)]) := (zr_of Tryz.typeInfo64).trans rfl
@[simp] theorem by64 : (Tryz.prog.info? 64).map (·.bytes) = some 32 := by_of Tryz.typeInfo64
attribute [simp] Tryz.underlying64
@[simp] theorem sz65 : szOf Tryz.prog 65 = some 3 := sz_of Tryz.typeInfo65
@[simp] theorem ag65 : aggT Tryz.prog 65 = some true := by rw [aggT, Tryz.underlying65]
@[simp] theorem zr65 : zeroC Tryz.prog 65 = some (.agg [.t (.b false), .t (.i .i64 0), .t .nl]) := (zr_of Tryz.typeInfo65).trans rfl
@[simp] theorem by65 : (Tryz.prog.info? 65).map (·.bytes) = some 40 := by_of Tryz.typeInfo65
attribute [simp] Tryz.underlying65
@[simp] theorem sz66 : szOf Tryz.prog 66 = some 3 := sz_of Tryz.typeInfo66
@[simp] theorem ag66 : aggT Tryz.prog 66 = some true := by rw [aggT, Tryz.underlying66]
@[simp] theorem zr66 : zeroC Tryz.prog 66 = some (.agg [.t (.b false), .t (.i .i64 0), .t .nl]) := (zr_of Tryz.typeInfo66).trans rfl
@[simp] theorem by66 : (Tryz.prog.info? 66).map (·.bytes) = some 40 := by_of Tryz.typeInfo66
attribute [simp] Tryz.underlying66
@[simp] theorem sz68 : szOf Tryz.prog 68 = some 1 := sz_of Tryz.typeInfo68
@[simp] theorem ag68 : aggT Tryz.prog 68 = some false := by rw [aggT, Tryz.underlying68]
attribute [simp] Tryz.underlying68
@[simp] theorem sz70 : szOf Tryz.prog 70 = some 1 := sz_of Tryz.typeInfo70
@[simp] theorem ag70 : aggT Tryz.prog 70 = some false := by rw [aggT, Tryz.underlying70]
attribute [simp] Tryz.underlying70
@[simp] theorem sz71 : szOf Tryz.prog 71 = some 1 := sz_of Tryz.typeInfo71
@[simp] theorem ag71 : aggT Tryz.prog 71 = some false := by rw [aggT, Tryz.underlying71]
attribute [simp] Tryz.underlying71
@[simp] theorem sz72 : szOf Tryz.prog 72 = some 4 := sz_of Tryz.typeInfo72
@[simp] theorem ag72 : aggT Tryz.prog 72 = some true := by rw [aggT, Tryz.underlying72]
@[simp] theorem zr72 : zeroC Tryz.prog 72 = some (.agg [.t (.i .i64 0), .t .nl, .t (.i .i64 0), .t .nl]) := (zr_of Tryz.typeInfo72).trans rfl
@[simp] theorem by72 : (Tryz.prog.info? 72).map (·.bytes) = some 64 := by_of Tryz.typeInfo72
attribute [simp] Tryz.underlying72
@[simp] theorem sz73 : szOf Tryz.prog 73 = some 4 := sz_of Tryz.typeInfo73
@[simp] theorem ag73 : aggT Tryz.prog 73 = some true := by rw [aggT, Tryz.underlying73]
@[simp] theorem zr73 : zeroC Tryz.prog 73 = some (.agg [.t (.i .i64 0), .t .nl, .t (.i .i64 0), .t .nl]) := (zr_of Tryz.typeInfo73).trans rfl
@[simp] theorem by73 : (Tryz.prog.info? 73).map (·.bytes) = some 64 := by_of Tryz.typeInfo73
attribute [simp] Tryz.underlying73
@[simp] theorem sz74 : szOf Tryz.prog 74 = some 1 := sz_of Tryz.typeInfo74
@[simp] theorem ag74 : aggT Tryz.prog 74 = some false := by rw [aggT, Tryz.underlying74]
attribute [simp] Tryz.underlying74
@[simp] theorem sz75 : szOf Tryz.prog 75 = some 1 := sz_of Tryz.typeInfo75
@[simp] theorem ag75 : aggT Tryz.prog 75 = some false := by rw [aggT, Tryz.underlying75]
attribute [simp] Tryz.underlying75
@[simp] theorem sz76 : szOf Tryz.prog 76 = some 1 := sz_of Tryz.typeInfo76
@[simp] theorem ag76 : aggT Tryz.prog 76 = some false := by rw [aggT, Tryz.underlying76]
attribute [simp] Tryz.underlying76
@[simp] theorem sz77 : szOf Tryz.prog 77 = some 1 := sz_of Tryz.typeInfo77
@[simp] theorem ag77 : aggT Tryz.prog 77 = some false := by rw [aggT, Tryz.underlying77]
attribute [simp] Tryz.underlying77
@[simp] theorem sz78 : szOf Tryz.prog 78 = some 1 := sz_of Tryz.typeInfo78
@[simp] theorem ag78 : aggT Tryz.prog 78 = some false := by rw [aggT, Tryz.underlying78]
attribute [simp] Tryz.underlying78
@[simp] theorem sz80 : szOf Tryz.prog 80 = some 1 := sz_of Tryz.typeInfo80
@[simp] theorem ag80 : aggT Tryz.prog 80 = some false := by rw [aggT, Tryz.underlying80]
attribute [simp] Tryz.underlying80
@[simp] theorem sz81 : szOf Tryz.prog 81 = some 1 := sz_of Tryz.typeInfo81
@[simp] theorem ag81 : aggT Tryz.prog 81 = some false := by rw [aggT, Tryz.underlying81]
attribute [simp] Tryz.underlying81
@[simp] theorem sz83 : szOf Tryz.prog 83 = some 1 := sz_of Tryz.typeInfo83
@[simp] theorem ag83 : aggT Tryz.prog 83 = some false := by rw [aggT, Tryz.underlying83]
attribute [simp] Tryz.underlying83
@[simp] theorem sz85 : szOf Tryz.prog 85 = some 1 := sz_of Tryz.typeInfo85
@[simp] theorem ag85 : aggT Tryz.prog 85 = some false := by rw [aggT, Tryz.underlying85]
attribute [simp] Tryz.underlying85
@[simp] theorem sz86 : szOf Tryz.prog 86 = some 1 := sz_of Tryz.typeInfo86
@[simp] theorem ag86 : aggT Tryz.prog 86 = some false := by rw [aggT, Tryz.underlying86]
attribute [simp] Tryz.underlying86
@[simp] theorem sz87 : szOf Tryz.prog 87 = some 1 := sz_of Tryz.typeInfo87
@[simp] theorem ag87 : aggT Tryz.prog 87 = some false := by rw [aggT, Tryz.underlying87]
@[simp] theorem zr87 : zeroC Tryz.prog 87 = some (.t .nl) := (zr_of Tryz.typeInfo87).trans rfl
@[simp] theorem by87 : (Tryz.prog.info? 87).map (·.bytes) = some 24 := by_of Tryz.typeInfo87
attribute [simp] Tryz.underlying87
@[simp] theorem sz88 : szOf Tryz.prog 88 = some 1 := sz_of Tryz.typeInfo88
@[simp] theorem ag88 : aggT Tryz.prog 88 = some false := by rw [aggT, Tryz.underlying88]
attribute [simp] Tryz.underlying88
@[simp] theorem sz89 : szOf Tryz.prog 89 = some 1 := sz_of Tryz.typeInfo89
@[simp] theorem ag89 : aggT Tryz.prog 89 = some false := by rw [aggT, Tryz.underlying89]
attribute [simp] Tryz.underlying89
@[simp] theorem sz90 : szOf Tryz.prog 90 = some 1 := sz_of Tryz.typeInfo90
@[simp] theorem ag90 : aggT Tryz.prog 90 = some true := by rw [aggT, Tryz.underlying90]
@[simp] theorem zr90 : zeroC Tryz.prog 90 = some (.agg [.t .nl]) := (zr_of Tryz.typeInfo90).trans rfl
@[simp] theorem by90 : (Tryz.prog.info? 90).map (·.bytes) = some 24 := by_of Tryz.typeInfo90
attribute [simp] Tryz.underlying90
@[simp] theorem sz91 : szOf Tryz.prog 91 = some 1 := sz_of Tryz.typeInfo91
@[simp] theorem ag91 : aggT Tryz.prog 91 = some false := by rw [aggT, Tryz.underlying91]
@[simp] theorem zr91 : zeroC Tryz.prog 91 = some (.t .nl) := (zr_of Tryz.typeInfo91).trans rfl
@[simp] theorem by91 : (Tryz.prog.info? 91).map (·.bytes) = some 24 := by_of Tryz.typeInfo91
attribute [simp] Tryz.underlying91
@[simp] theorem sz92 : szOf Tryz.prog 92 = some 2 := sz_of Tryz.typeInfo92
@[simp] theorem ag92 : aggT Tryz.prog 92 = some true := by rw [aggT, Tryz.underlying92]
@[simp] theorem zr92 : zeroC Tryz.prog 92 = some (.agg [.t .nl, .t .nl]) := (zr_of Tryz.typeInfo92).trans rfl
@[simp] theorem by92 : (Tryz.prog.info? 92).map (·.bytes) = some 48 := by_of Tryz.typeInfo92
attribute [simp] Tryz.underlying92
@[simp] theorem sz93 : szOf Tryz.prog 93 = some 2 := sz_of Tryz.typeInfo93
@[simp] theorem ag93 : aggT Tryz.prog 93 = some true := by rw [aggT, Tryz.underlying93]
@[simp] theorem zr93 : zeroC Tryz.prog 93 = some (.agg [.t .nl, .t .nl]) := (zr_of Tryz.typeInfo93).trans rfl
@[simp] theorem by93 : (Tryz.prog.info? 93).map (·.bytes) = some 48 := by_of Tryz.typeInfo93
attribute [simp] Tryz.underlying93
@[simp] theorem sz94 : szOf Tryz.prog 94 = some 1 := sz_of Tryz.typeInfo94
@[simp] theorem ag94 : aggT Tryz.prog 94 = some false := by rw [aggT, Tryz.underlying94]
@[simp] theorem zr94 : zeroC Tryz.prog 94 = some (.t .nl) := (zr_of Tryz.typeInfo94).trans rfl
@[simp] theorem by94 : (Tryz.prog.info? 94).map (·.bytes) = some 24 := by_of Tryz.typeInfo94
attribute [simp] Tryz.underlying94
@[simp] theorem sz95 : szOf Tryz.prog 95 = some 2 := sz_of Tryz.typeInfo95
@[simp] theorem ag95 : aggT Tryz.prog 95 = some true := by rw [aggT, Tryz.underlying95]
@[simp] theorem zr95 : zeroC Tryz.prog 95 = some (.agg [.t (.i .i64 0), .t .nl]) := (zr_of Tryz.typeInfo95).trans rfl
@[simp] theorem by95 : (Tryz.prog.info? 95).map (·.bytes) = some 32 := by_of Tryz.typeInfo95
attribute [simp] Tryz.underlying95
@[simp] theorem sz96 : szOf Tryz.prog 96 = some 1 := sz_of Tryz.typeInfo96
@[simp] theorem ag96 : aggT Tryz.prog 96 = some false := by rw [aggT, Tryz.underlying96]
attribute [simp] Tryz.underlying96
@[simp] theorem sz97 : szOf Tryz.prog 97 = some 1 := sz_of Tryz.typeInfo97
@[simp] theorem ag97 : aggT Tryz.prog 97 = some false := by rw [aggT, Tryz.underlying97]
attribute [simp] Tryz.underlying97
@[simp] theorem sz98 : szOf Tryz.prog 98 = some 1 := sz_of Tryz.typeInfo98
@[simp] theorem ag98 : aggT Tryz.prog 98 = some false := by rw [aggT, Tryz.underlying98]
attribute [simp] Tryz.underlying98
@[simp] theorem sz99 : szOf Tryz.prog 99 = some 1 := sz_of Tryz.typeInfo99
@[simp] theorem ag99 : aggT Tryz.prog 99 = some false := by rw [aggT, Tryz.underlying99]
attribute [simp] Tryz.underlying99
@[simp] theorem sz100 : szOf Tryz.prog 100 = some 1 := sz_of Tryz.typeInfo100
@[simp] theorem ag100 : aggT Tryz.prog 100 = some false := by rw [aggT, Tryz.underlying100]
attribute [simp] Tryz.underlying100
@[simp] theorem sz101 : szOf Tryz.prog 101 = some 1 := sz_of Tryz.typeInfo101
@[simp] theorem ag101 : aggT Tryz.prog 101 = some false := by rw [aggT, Tryz.underlying101]
attribute [simp] Tryz.underlying101
@[simp] theorem sz102 : szOf Tryz.prog 102 = some 1 := sz_of Tryz.typeInfo102
@[simp] theorem ag102 : aggT Tryz.prog 102 = some false := by rw [aggT, Tryz.underlying102]
attribute [simp] Tryz.underlying102
@[simp] theorem sz103 : szOf Tryz.prog 103 = some 1 := sz_of Tryz.typeInfo103
@[simp] theorem ag103 : aggT Tryz.prog 103 = some false := by rw [aggT, Tryz.underlying103]
attribute [simp] Tryz.underlying103
@[simp] theorem sz104 : szOf Tryz.prog 104 = some 1 := sz_of Tryz.typeInfo104
@[simp] theorem ag104 : aggT Tryz.prog 104 = some false := by rw [aggT, Tryz.underlying104]
attribute [simp] Tryz.underlying104
@[simp] theorem sz105 : szOf Tryz.prog 105 = some 1 := sz_of Tryz.typeInfo105
@[simp] theorem ag105 : aggT Tryz.prog 105 = some false := by rw [aggT, Tryz.underlying105]
attribute [simp] Tryz.underlying105
@[simp] theorem sz106 : szOf Tryz.prog 106 = some 1 := sz_of Tryz.typeInfo106
@[simp] theorem ag106 : aggT Tryz.prog 106 = some false := by rw [aggT, Tryz.underlying106]
attribute [simp] Tryz.underlying106
@[simp] theorem sz107 : szOf Tryz.prog 107 = some 1 := sz_of Tryz.typeInfo107
@[simp] theorem ag107 : aggT Tryz.prog 107 = some false := by rw [aggT, Tryz.underlying107]
attribute [simp] Tryz.underlying107
@[simp] theorem sz108 : szOf Tryz.prog 108 = some 1 := sz_of Tryz.typeInfo108
@[simp] theorem ag108 : aggT Tryz.prog 108 = some false := by rw [aggT, Tryz.underlying108]
attribute [simp] Tryz.underlying108
@[simp] theorem sz109 : szOf Tryz.prog 109 = some 1 := sz_of Tryz.typeInfo109
@[simp] theorem ag109 : aggT Tryz.prog 109 = some false := by rw [aggT, Tryz.underlying109]
attribute [simp] Tryz.underlying109
@[simp] theorem sz110 : szOf Tryz.prog 110 = some 1 := sz_of Tryz.typeInfo110
@[simp] theorem ag110 : aggT Tryz.prog 110 = some false := by rw [aggT, Tryz.underlying110]
attribute [simp] Tryz.underlying110
@[simp] theorem sz111 : szOf Tryz.prog 111 = some 1 := sz_of Tryz.typeInfo111
@[simp] theorem ag111 : aggT Tryz.prog 111 = some false := by rw [aggT, Tryz.underlying111]
attribute [simp] Tryz.underlying111
@[simp] theorem sz113 : szOf Tryz.prog 113 = some 1 := sz_of Tryz.typeInfo113
@[simp] theorem ag113 : aggT Tryz.prog 113 = some false := by rw [aggT, Tryz.underlying113]
attribute [simp] Tryz.underlying113
@[simp] theorem sz114 : szOf Tryz.prog 114 = some 1 := sz_of Tryz.typeInfo114
@[simp] theorem ag114 : aggT Tryz.prog 114 = some false := by rw [aggT, Tryz.underlying114]
attribute [simp] Tryz.underlying114
@[simp] theorem sz116 : szOf Tryz.prog 116 = some 1 := sz_of Tryz.typeInfo116
@[simp] theorem ag116 : aggT Tryz.prog 116 = some false := by rw [aggT, Tryz.underlying116]
attribute [simp] Tryz.underlying116
@[simp] theorem sz117 : szOf Tryz.prog 117 = some 1 := sz_of Tryz.typeInfo117
@[simp] theorem ag117 : aggT Tryz.prog 117 = some false := by rw [aggT, Tryz.underlying117]
attribute [simp] Tryz.underlying117
@[simp] theorem sz118 : szOf Tryz.prog 118 = some 2 := sz_of Tryz.typeInfo118
@[simp] theorem ag118 : aggT Tryz.prog 118 = some true := by rw [aggT, Tryz.underlying118]
@[simp] theorem zr118 : zeroC Tryz.prog 118 = some (.agg [.t .nl, .t (.i .i64 0)]) := (zr_of Tryz.typeInfo118).trans rfl
@[simp] theorem by118 : (Tryz.prog.info? 118).map (·.bytes) = some 32 := by_of Tryz.typeInfo118
attribute [simp] Tryz.underlying118
@[simp] theorem sz119 : szOf Tryz.prog 119 = some 2 := sz_of Tryz.typeInfo119
@[simp] theorem ag119 : aggT Tryz.prog 119 = some true := by rw [aggT, Tryz.underlying119]
@[simp] theorem zr119 : zeroC Tryz.prog 119 = some (.agg [.t .nl, .t (.i .i64 0)]) := (zr_of Tryz.typeInfo119).trans rfl
@[simp] theorem by119 : (Tryz.prog.info? 119).map (·.bytes) = some 32 := by_of Tryz.typeInfo119
attribute [simp] Tryz.underlying119
@[simp] theorem sz120 : szOf Tryz.prog 120 = some 1 := sz_of Tryz.typeInfo120
@[simp] theorem ag120 : aggT Tryz.prog 120 = some false := by rw [aggT, Tryz.underlying120]
attribute [simp] Tryz.underlying120
@[simp] theorem sz121 : szOf Tryz.prog 121 = some 1 := sz_of Tryz.typeInfo121
@[simp] theorem ag121 : aggT Tryz.prog 121 = some false := by rw [aggT, Tryz.underlying121]
@[simp] theorem zr121 : zeroC Tryz.prog 121 = some (.t .nl) := (zr_of Tryz.typeInfo121).trans rfl
@[simp] theorem by121 : (Tryz.prog.info? 121).map (·.bytes) = some 24 := by_of Tryz.typeInfo121
attribute [simp] Tryz.underlying121
@[simp] theorem sz122 : szOf Tryz.prog 122 = some 1 := sz_of Tryz.typeInfo122
@[simp] theorem ag122 : aggT Tryz.prog 122 = some false := by rw [aggT, Tryz.underlying122]
attribute [simp] Tryz.underlying122
@[simp] theorem sz123 : szOf Tryz.prog 123 = some 1 := sz_of Tryz.typeInfo123
@[simp] theorem ag123 : aggT Tryz.prog 123 = some false := by rw [aggT, Tryz.underlying123]
@[simp] theorem zr123 : zeroC Tryz.prog 123 = some (.t .nl) := (zr_of Tryz.typeInfo123).trans rfl
@[simp] theorem by123 : (Tryz.prog.info? 123).map (·.bytes) = some 24 := by_of Tryz.typeInfo123
attribute [simp] Tryz.underlying123
@[simp] theorem sz124 : szOf Tryz.prog 124 = some 1 := sz_of Tryz.typeInfo124
@[simp] theorem ag124 : aggT Tryz.prog 124 = some false := by rw [aggT, Tryz.underlying124]
@[simp] theorem zr124 : zeroC Tryz.prog 124 = some (.t .nl) := (zr_of Tryz.typeInfo124).trans rfl
@[simp] theorem by124 : (Tryz.prog.info? 124).map (·.bytes) = some 24 := by_of Tryz.typeInfo124
attribute [simp] Tryz.underlying124
@[simp] theorem sz125 : szOf Tryz.prog 125 = some 3 := sz_of Tryz.typeInfo125
@[simp] theorem ag125 : aggT Tryz.prog 125 = some true := by rw [aggT, Tryz.underlying125]
@[simp] theorem zr125 : zeroC Tryz.prog 125 = some (.agg [.t .nl, .t .nl, .t (.i .i64 0)]) := (zr_of Tryz.typeInfo125).trans rfl
@[simp] theorem by125 : (Tryz.prog.info? 125).map (·.bytes) = some 56 := by_of Tryz.typeInfo125
attribute [simp] Tryz.underlying125
@[simp] theorem sz126 : szOf Tryz.prog 126 = some 3 := sz_of Tryz.typeInfo126
@[simp] theorem ag126 : aggT Tryz.prog 126 = some true := by rw [aggT, Tryz.underlying126]
@[simp] theorem zr126 : zeroC Tryz.prog 126 = some (.agg [.t .nl, .t .nl, .t (.i .i64 0)]) := (zr_of Tryz.typeInfo126).trans rfl
@[simp] theorem by126 : (Tryz.prog.info? 126).map (·.bytes) = some 56 := by_of Tryz.typeInfo126
attribute [simp] Tryz.underlying126
@[simp] theorem sz128 : szOf Tryz.prog 128 = some 1 := sz_of Tryz.typeInfo128
@[simp] theorem ag128 : aggT Tryz.prog 128 = some false := by rw [aggT, Tryz.underlying128]
attribute [simp] Tryz.underlying128
@[simp] theorem sz129 : szOf Tryz.prog 129 = some 1 := sz_of Tryz.typeInfo129
@[simp] theorem ag129 : aggT Tryz.prog 129 = some false := by rw [aggT, Tryz.underlying129]
attribute [simp] Tryz.underlying129
@[simp] theorem sz130 : szOf Tryz.prog 130 = some 1 := sz_of Tryz.typeInfo130
@[simp] theorem ag130 : aggT Tryz.prog 130 = some false := by rw [aggT, Tryz.underlying130]
attribute [simp] Tryz.underlying130
@[simp] theorem sz131 : szOf Tryz.prog 131 = some 1 := sz_of Tryz.typeInfo131
@[simp] theorem ag131 : aggT Tryz.prog 131 = some false := by rw [aggT, Tryz.underlying131]
attribute [simp] Tryz.underlying131
@[simp] theorem sz132 : szOf Tryz.prog 132 = some 1 := sz_of Tryz.typeInfo132
@[simp] theorem ag132 : aggT Tryz.prog 132 = some false := by rw [aggT, Tryz.underlying132]
attribute [simp] Tryz.underlying132
@[simp] theorem sz133 : szOf Tryz.prog 133 = some 1 := sz_of Tryz.typeInfo133
@[simp] theorem ag133 : aggT Tryz.prog 133 = some false := by rw [aggT, Tryz.underlying133]
attribute [simp] Tryz.underlying133
@[simp] theorem sz134 : szOf Tryz.prog 134 = some 1 := sz_of Tryz.typeInfo134
@[simp] theorem ag134 : aggT Tryz.prog 134 = some false := by rw [aggT, Tryz.underlying134]
attribute [simp] Tryz.underlying134
@[simp] theorem sz135 : szOf Tryz.prog 135 = some 3 := sz_of Tryz.typeInfo135
@[simp] theorem ag135 : aggT Tryz.prog 135 = some true := by rw [aggT, Tryz.underlying135]
@[simp] theorem zr135 : zeroC Tryz.prog 135 = some (.agg [.t .nl, .t .nl, .t (.i .i64 0)]) := (zr_of Tryz.typeInfo135).trans rfl
@[simp] theorem by135 : (Tryz.prog.info? 135).map (·.bytes) = some 56 := by_of Tryz.typeInfo135
attribute [simp] Tryz.underlying135
@[simp] theorem sz136 : szOf Tryz.prog 136 = some 3 := sz_of Tryz.typeInfo136
@[simp] theorem ag136 : aggT Tryz.prog 136 = some true := by rw [aggT, Tryz.underlying136]
@[simp] theorem zr136 : zeroC Tryz.prog 136 = some (.agg [.t .nl, .t .nl, .t (.i .i64 0)]) := (zr_of Tryz.typeInfo136).trans rfl
@[simp] theorem by136 : (Tryz.prog.info? 136).map (·.bytes) = some 56 := by_of Tryz.typeInfo136
attribute [simp] Tryz.underlying136
@[simp] theorem sz137 : szOf Tryz.prog 137 = some 2 := sz_of Tryz.typeInfo137
@[simp] theorem ag137 : aggT Tryz.prog 137 = some true := by rw [aggT, Tryz.underlying137]
@[simp] theorem zr137 : zeroC Tryz.prog 137 = some (.agg [.t .nl, .t (.i .i64 0)]) := (zr_of Tryz.typeInfo137).trans rfl
@[simp] theorem by137 : (Tryz.prog.info? 137).map (·.bytes) = some 32 := by_of Tryz.typeInfo137
attribute [simp] Tryz.underlying137
@[simp] theorem sz138 : szOf Tryz.prog 138 = some 2 := sz_of Tryz.typeInfo138
@[simp] theorem ag138 : aggT Tryz.prog 138 = some true := by rw [aggT, Tryz.underlying138]
@[simp] theorem zr138 : zeroC Tryz.prog 138 = some (.agg [.t .nl, .t (.i .i64 0)]) := (zr_of Tryz.typeInfo138).trans rfl
@[simp] theorem by138 : (Tryz.prog.info? 138).map (·.bytes) = some 32 := by_of Tryz.typeInfo138
attribute [simp] Tryz.underlying138
@[simp] theorem sz139 : szOf Tryz.prog 139 = some 1 := sz_of Tryz.typeInfo139
@[simp] theorem ag139 : aggT Tryz.prog 139 = some false := by rw [aggT, Tryz.underlying139]
attribute [simp] Tryz.underlying139
@[simp] theorem sz140 : szOf Tryz.prog 140 = some 1 := sz_of Tryz.typeInfo140
@[simp] theorem ag140 : aggT Tryz.prog 140 = some false := by rw [aggT, Tryz.underlying140]
attribute [simp] Tryz.underlying140
@[simp] theorem sz141 : szOf Tryz.prog 141 = some 1 := sz_of Tryz.typeInfo141
@[simp] theorem ag141 : aggT Tryz.prog 141 = some false := by rw [aggT, Tryz.underlying141]
attribute [simp] Tryz.underlying141
@[simp] theorem sz142 : szOf Tryz.prog 142 = some 1 := sz_of Tryz.typeInfo142
@[simp] theorem ag142 : aggT Tryz.prog 142 = some false := by rw [aggT, Tryz.underlying142]
attribute [simp] Tryz.underlying142
@[simp] theorem sz143 : szOf Tryz.prog 143 = some 1 := sz_of Tryz.typeInfo143
@[simp] theorem ag143 : aggT Tryz.prog 143 = some false := by rw [aggT, Tryz.underlying143]
attribute [simp] Tryz.underlying143
@[simp] theorem sz144 : szOf Tryz.prog 144 = some 1 := sz_of Tryz.typeInfo144
@[simp] theorem ag144 : aggT Tryz.prog 144 = some false := by rw [aggT, Tryz.underlying144]
attribute [simp] Tryz.underlying144
@[simp] theorem sz145 : szOf Tryz.prog 145 = some 1 := sz_of Tryz.typeInfo145
@[simp] theorem ag145 : aggT Tryz.prog 145 = some false := by rw [aggT, Tryz.underlying145]
attribute [simp] Tryz.underlying145
@[simp] theorem sz147 : szOf Tryz.prog 147 = some 1 := sz_of Tryz.typeInfo147
@[simp] theorem ag147 : aggT Tryz.prog 147 = some false := by rw [aggT, Tryz.underlying147]
attribute [simp] Tryz.underlying147
@[simp] theorem sz149 : szOf Tryz.prog 149 = some 1 := sz_of Tryz.typeInfo149
@[simp] theorem ag149 : aggT Tryz.prog 149 = some false := by rw [aggT, Tryz.underlying149]
attribute [simp] Tryz.underlying149
@[simp] theorem sz150 : szOf Tryz.prog 150 = some 1 := sz_of Tryz.typeInfo150
@[simp] theorem ag150 : aggT Tryz.prog 150 = some false := by rw [aggT, Tryz.underlying150]
attribute [simp] Tryz.underlying150
@[simp] theorem sz151 : szOf Tryz.prog 151 = some 1 := sz_of Tryz.typeInfo151
@[simp] theorem ag151 : aggT Tryz.prog 151 = some false := by rw [aggT, Tryz.underlying151]
attribute [simp] Tryz.underlying151
@[simp] theorem sz152 : szOf Tryz.prog 152 = some 1 := sz_of Tryz.typeInfo152
@[simp] theorem ag152 : aggT Tryz.prog 152 = some false := by rw [aggT, Tryz.underlying152]
attribute [simp] Tryz.underlying152
@[simp] theorem sz153 : szOf Tryz.prog 153 = some 1 := sz_of Tryz.typeInfo153
@[simp] theorem ag153 : aggT Tryz.prog 153 = some false := by rw [aggT, Tryz.underlying153]
@[simp] theorem zr153 : zeroC Tryz.prog 153 = some (.t .nl) := (zr_of Tryz.typeInfo153).trans rfl
@[simp] theorem by153 : (Tryz.prog.info? 153).map (·.bytes) = some 24 := by_of Tryz.typeInfo153
attribute [simp] Tryz.underlying153
@[simp] theorem sz154 : szOf Tryz.prog 154 = some 3 := sz_of Tryz.typeInfo154
@[simp] theorem ag154 : aggT Tryz.prog 154 = some true := by rw [aggT, Tryz.underlying154]
@[simp] theorem zr154 : zeroC Tryz.prog 154 = some (.agg [.t (.b false), .t (.i .i64 0), .t .nl]) := (zr_of Tryz.typeInfo154).trans rfl
@[simp] theorem by154 : (Tryz.prog.info? 154).map (·.bytes) = some 40 := by_of Tryz.typeInfo154
attribute [simp] Tryz.underlying154
@[simp] theorem sz155 : szOf Tryz.prog 155 = some 3 := sz_of Tryz.typeInfo155
@[simp] theorem ag155 : aggT Tryz.prog 155 = some true := by rw [aggT, Tryz.underlying155]
@[simp] theorem zr155 : zeroC Tryz.prog 155 = some (.agg [.t (.b false), .t (.i .i64 0), .t .nl]) := (zr_of Tryz.typeInfo155).trans rfl
@[simp] theorem by155 : (Tryz.prog.info? 155).map (·.bytes) = some 40 := by_of Tryz.typeInfo155
attribute [simp] Tryz.underlying155
@[simp] theorem sz156 : szOf Tryz.prog 156 = some 1 := sz_of Tryz.typeInfo156
@[simp] theorem ag156 : aggT Tryz.prog 156 = some false := by rw [aggT, Tryz.underlying156]
attribute [simp] Tryz.underlying156
@[simp] theorem sz157 : szOf Tryz.prog 157 = some 1 := sz_of Tryz.typeInfo157
@[simp] theorem ag157 : aggT Tryz.prog 157 = some false := by rw [aggT, Tryz.underlying157]
attribute [simp] Tryz.underlying157
@[simp] theorem sz158 : szOf Tryz.prog 158 = some 1 := sz_of Tryz.typeInfo158
@[simp] theorem ag158 : aggT Tryz.prog 158 = some false := by rw [aggT, Tryz.underlying158]
attribute [simp] Tryz.underlying158
@[simp] theorem sz159 : szOf Tryz.prog 159 = some 1 := sz_of Tryz.typeInfo159
@[simp] theorem ag159 : aggT Tryz.prog 159 = some false := by rw [aggT, Tryz.underlying159]
attribute [simp] Tryz.underlying159
@[simp] theorem sz160 : szOf Tryz.prog 160 = some 1 := sz_of Tryz.typeInfo160
@[simp] theorem ag160 : aggT Tryz.prog 160 = some false := by rw [aggT, Tryz.underlying160]
attribute [simp] Tryz.underlying160
@[simp] theorem sz161 : szOf Tryz.prog 161 = some 1 := sz_of Tryz.typeInfo161
@[simp] theorem ag161 : aggT Tryz.prog 161 = some false := by rw [aggT, Tryz.underlying161]
attribute [simp] Tryz.underlying161
@[simp] theorem sz162 : szOf Tryz.prog 162 = some 1 := sz_of Tryz.typeInfo162
@[simp] theorem ag162 : aggT Tryz.prog 162 = some false := by rw [aggT, Tryz.underlying162]
attribute [simp] Tryz.underlying162
@[simp] theorem sz163 : szOf Tryz.prog 163 = some 1 := sz_of Tryz.typeInfo163
@[simp] theorem ag163 : aggT Tryz.prog 163 = some false := by rw [aggT, Tryz.underlying163]
attribute [simp] Tryz.underlying163
@[simp] theorem sz164 : szOf Tryz.prog 164 = some 1 := sz_of Tryz.typeInfo164
@[simp] theorem ag164 : aggT Tryz.prog 164 = some false := by rw [aggT, Tryz.underlying164]
attribute [simp] Tryz.underlying164
@[simp] theorem sz165 : szOf Tryz.prog 165 = some 1 := sz_of Tryz.typeInfo165
@[simp] theorem ag165 : aggT Tryz.prog 165 = some false := by rw [aggT, Tryz.underlying165]
attribute [simp] Tryz.underlying165
@[simp] theorem sz166 : szOf Tryz.prog 166 = some 1 := sz_of Tryz.typeInfo166
@[simp] theorem ag166 : aggT Tryz.prog 166 = some false := by rw [aggT, Tryz.underlying166]
@[simp] theorem zr166 : zeroC Tryz.prog 166 = some (.np) := (zr_of Tryz.typeInfo166).trans rfl
@[simp] theorem by166 : (Tryz.prog.info? 166).map (·.bytes) = some 8 := by_of Tryz.typeInfo166
attribute [simp] Tryz.underlying166
@[simp] theorem sz167 : szOf Tryz.prog 167 = some 1 := sz_of Tryz.typeInfo167
@[simp] theorem ag167 : aggT Tryz.prog 167 = some false := by rw [aggT, Tryz.underlying167]
attribute [simp] Tryz.underlying167
@[simp] theorem sz168 : szOf Tryz.prog 168 = some 1 := sz_of Tryz.typeInfo168
@[simp] theorem ag168 : aggT Tryz.prog 168 = some false := by rw [aggT, Tryz.underlying168]
attribute [simp] Tryz.underlying168
@[simp] theorem sz169 : szOf Tryz.prog 169 = some 1 := sz_of Tryz.typeInfo169
@[simp] theorem ag169 : aggT Tryz.prog 169 = some false := by rw [aggT, Tryz.underlying169]
attribute [simp] Tryz.underlying169
@[simp] theorem sz170 : szOf Tryz.prog 170 = some 1 := sz_of Tryz.typeInfo170
@[simp] theorem ag170 : aggT Tryz.prog 170 = some false := by rw [aggT, Tryz.underlying170]
@[simp] theorem zr170 : zeroC Tryz.prog 170 = some (.t .nl) := (zr_of Tryz.typeInfo170).trans rfl
@[simp] theorem by170 : (Tryz.prog.info? 170).map (·.bytes) = some 24 := by_of Tryz.typeInfo170
attribute [simp] Tryz.underlying170
@[simp] theorem sz172 : szOf Tryz.prog 172 = some 1 := sz_of Tryz.typeInfo172
@[simp] theorem ag172 : aggT Tryz.prog 172 = some false := by rw [aggT, Tryz.underlying172]
attribute [simp] Tryz.underlying172
@[simp] theorem sz173 : szOf Tryz.prog 173 = some 1 := sz_of Tryz.typeInfo173
@[simp] theorem ag173 : aggT Tryz.prog 173 = some false := by rw [aggT, Tryz.underlying173]
attribute [simp] Tryz.underlying173
@[simp] theorem sz174 : szOf Tryz.prog 174 = some 1 := sz_of Tryz.typeInfo174
@[simp] theorem ag174 : aggT Tryz.prog 174 = some false := by rw [aggT, Tryz.underlying174]
attribute [simp] Tryz.underlying174
@[simp] theorem sz175 : szOf Tryz.prog 175 = some 1 := sz_of Tryz.typeInfo175
@[simp] theorem ag175 : aggT Tryz.prog 175 = some false := by rw [aggT, Tryz.underlying175]
attribute [simp] Tryz.underlying175
@[simp] theorem sz176 : szOf Tryz.prog 176 = some 1 := sz_of Tryz.typeInfo176
@[simp] theorem ag176 : aggT Tryz.prog 176 = some false := by rw [aggT, Tryz.underlying176]
attribute [simp] Tryz.underlying176
@[simp] theorem sz177 : szOf Tryz.prog 177 = some 1 := sz_of Tryz.typeInfo177
@[simp] theorem ag177 : aggT Tryz.prog 177 = some false := by rw [aggT, Tryz.underlying177]
attribute [simp] Tryz.underlying177
@[simp] theorem sz178 : szOf Tryz.prog 178 = some 1 := sz_of Tryz.typeInfo178
@[simp] theorem ag178 : aggT Tryz.prog 178 = some false := by rw [aggT, Tryz.underlying178]
attribute [simp] Tryz.underlying178
@[simp] theorem sz179 : szOf Tryz.prog 179 = some 1 := sz_of Tryz.typeInfo179
@[simp] theorem ag179 : aggT Tryz.prog 179 = some false := by rw [aggT, Tryz.underlying179]
attribute [simp] Tryz.underlying179
@[simp] theorem sz180 : szOf Tryz.prog 180 = some 1 := sz_of Tryz.typeInfo180
@[simp] theorem ag180 : aggT Tryz.prog 180 = some false := by rw [aggT, Tryz.underlying180]
attribute [simp] Tryz.underlying180
@[simp] theorem sz181 : szOf Tryz.prog 181 = some 1 := sz_of Tryz.typeInfo181
@[simp] theorem ag181 : aggT Tryz.prog 181 = some false := by rw [aggT, Tryz.underlying181]
attribute [simp] Tryz.underlying181
@[simp] theorem sz182 : szOf Tryz.prog 182 = some 1 := sz_of Tryz.typeInfo182
@[simp] theorem ag182 : aggT Tryz.prog 182 = some false := by rw [aggT, Tryz.underlying182]
attribute [simp] Tryz.underlying182
@[simp] theorem sz183 : szOf Tryz.prog 183 = some 1 := sz_of Tryz.typeInfo183
@[simp] theorem ag183 : aggT Tryz.prog 183 = some false := by rw [aggT, Tryz.underlying183]
attribute [simp] Tryz.underlying183
@[simp] theorem sz184 : szOf Tryz.prog 184 = some 1 := sz_of Tryz.typeInfo184
@[simp] theorem ag184 : aggT Tryz.prog 184 = some false := by rw [aggT, Tryz.underlying184]
attribute [simp] Tryz.underlying184
@[simp] theorem sz185 : szOf Tryz.prog 185 = some 1 := sz_of Tryz.typeInfo185
@[simp] theorem ag185 : aggT Tryz.prog 185 = some false := by rw [aggT, Tryz.underlying185]
attribute [simp] Tryz.underlying185
@[simp] theorem sz186 : szOf Tryz.prog 186 = some 1 := sz_of Tryz.typeInfo186
@[simp] theorem ag186 : aggT Tryz.prog 186 = some false := by rw [aggT, Tryz.underlying186]
attribute [simp] Tryz.underlying186
@[simp] theorem sz188 : szOf Tryz.prog 188 = some 1 := sz_of Tryz.typeInfo188
@[simp] theorem ag188 : aggT Tryz.prog 188 = some false := by rw [aggT, Tryz.underlying188]
attribute [simp] Tryz.underlying188
@[simp] theorem sz189 : szOf Tryz.prog 189 = some 1 := sz_of Tryz.typeInfo189
@[simp] theorem ag189 : aggT Tryz.prog 189 = some false := by rw [aggT, Tryz.underlying189]
attribute [simp] Tryz.underlying189
@[simp] theorem sz190 : szOf Tryz.prog 190 = some 1 := sz_of Tryz.typeInfo190
@[simp] theorem ag190 : aggT Tryz.prog 190 = some false := by rw [aggT, Tryz.underlying190]
attribute [simp] Tryz.underlying190
@[simp] theorem sz191 : szOf Tryz.prog 191 = some 1 := sz_of Tryz.typeInfo191
@[simp] theorem ag191 : aggT Tryz.prog 191 = some false := by rw [aggT, Tryz.underlying191]
attribute [simp] Tryz.underlying191
@[simp] theorem sz192 : szOf Tryz.prog 192 = some 1 := sz_of Tryz.typeInfo192
@[simp] theorem ag192 : aggT Tryz.prog 192 = some false := by rw [aggT, Tryz.underlying192]
attribute [simp] Tryz.underlying192
@[simp] theorem sz193 : szOf Tryz.prog 193 = some 1 := sz_of Tryz.typeInfo193
@[simp] theorem ag193 : aggT Tryz.prog 193 = some false := by rw [aggT, Tryz.underlying193]
attribute [simp] Tryz.underlying193
@[simp] theorem sz195 : szOf Tryz.prog 195 = some 1 := sz_of Tryz.typeInfo195
@[simp] theorem ag195 : aggT Tryz.prog 195 = some false := by rw [aggT, Tryz.underlying195]
attribute [simp] Tryz.underlying195
@[simp] theorem sz196 : szOf Tryz.prog 196 = some 1 := sz_of Tryz.typeInfo196
@[simp] theorem ag196 : aggT Tryz.prog 196 = some false := by rw [aggT, Tryz.underlying196]
attribute [simp] Tryz.underlying196
@[simp] theorem sz197 : szOf Tryz.prog 197 = some 1 := sz_of Tryz.typeInfo197
@[simp] theorem ag197 : aggT Tryz.prog 197 = some false := by rw [aggT, Tryz.underlying197]
attribute [simp] Tryz.underlying197
@[simp] theorem sz198 : szOf Tryz.prog 198 = some 1 := sz_of Tryz.typeInfo198
@[simp] theorem ag198 : aggT Tryz.prog 198 = some false := by rw [aggT, Tryz.underlying198]
attribute [simp] Tryz.underlying198
@[simp] theorem sz199 : szOf Tryz.prog 199 = some 1 := sz_of Tryz.typeInfo199
@[simp] theorem ag199 : aggT Tryz.prog 199 = some false := by rw [aggT, Tryz.underlying199]
attribute [simp] Tryz.underlying199
@[simp] theorem sz200 : szOf Tryz.prog 200 = some 1 := sz_of Tryz.typeInfo200
@[simp] theorem ag200 : aggT Tryz.prog 200 = some false := by rw [aggT, Tryz.underlying200]
attribute [simp] Tryz.underlying200
@[simp] theorem sz201 : szOf Tryz.prog 201 = some 1 := sz_of Tryz.typeInfo201
@[simp] theorem ag201 : aggT Tryz.prog 201 = some false := by rw [aggT, Tryz.underlying201]
attribute [simp] Tryz.underlying201
@[simp] theorem sz202 : szOf Tryz.prog 202 = some 1 := sz_of Tryz.typeInfo202
@[simp] theorem ag202 : aggT Tryz.prog 202 = some false := by rw [aggT, Tryz.underlying202]
attribute [simp] Tryz.underlying202
@[simp] theorem sz203 : szOf Tryz.prog 203 = some 1 := sz_of Tryz.typeInfo203
@[simp] theorem ag203 : aggT Tryz.prog 203 = some false := by rw [aggT, Tryz.underlying203]
attribute [simp] Tryz.underlying203
@[simp] theorem sz204 : szOf Tryz.prog 204 = some 1 := sz_of Tryz.typeInfo204
@[simp] theorem ag204 : aggT Tryz.prog 204 = some false := by rw [aggT, Tryz.underlying204]
attribute [simp] Tryz.underlying204
@[simp] theorem sz205 : szOf Tryz.prog 205 = some 1 := sz_of Tryz.typeInfo205
@[simp] theorem ag205 : aggT Tryz.prog 205 = some false := by rw [aggT, Tryz.underlying205]
attribute [simp] Tryz.underlying205
@[simp] theorem sz206 : szOf Tryz.prog 206 = some 1 := sz_of Tryz.typeInfo206
@[simp] theorem ag206 : aggT Tryz.prog 206 = some false := by rw [aggT, Tryz.underlying206]
attribute [simp] Tryz.underlying206
@[simp] theorem sz207 : szOf Tryz.prog 207 = some 1 := sz_of Tryz.typeInfo207
@[simp] theorem ag207 : aggT Tryz.prog 207 = some false := by rw [aggT, Tryz.underlying207]
attribute [simp] Tryz.underlying207
@[simp] theorem sz208 : szOf Tryz.prog 208 = some 20 := sz_of Tryz.typeInfo208
@[simp] theorem ag208 : aggT Tryz.prog 208 = some true := by rw [aggT, Tryz.underlying208]
@[simp] theorem zr208 : zeroC Tryz.prog 208 = some (.agg [.t (.i .i64 0), .t (.i .i64 0), .t (.i .i64 0), .t (.i .i64 0), .t (.i .i64 0), .t (.i .i64 0), .t (.i .i64 0), .t (.i .i64 0), .t (.i .i64 0), .t (.i .i64 0), .t (.i .i64 0), .t (.i .i64 0), .t (.i .i64 0), .t (.i .i64 0), .t (.i .i64 0), .t (.i .i64 0), .t (.i .i64 0), .t (.i .i64 0), .t (.i .i64 0), .t (.i .i64 0)]) := (zr_of Tryz.typeInfo208).trans rfl
@[simp] theorem by208 : (Tryz.prog.info? 208).map (·.bytes) = some 160 := by_of Tryz.typeInfo208
attribute [simp] Tryz.underlying208
@[simp] theorem sz209 : szOf Tryz.prog 209 = some 20 := sz_of Tryz.typeInfo209
@[simp] theorem ag209 : aggT Tryz.prog 209 = some true := by rw [aggT, Tryz.underlying209]
@[simp] theorem zr209 : zeroC Tryz.prog 209 = some (.agg [.t (.b false), .t (.b false), .t (.b false), .t (.b false), .t (.b false), .t (.b false), .t (.b false), .t (.b false), .t (.b false), .t (.b false), .t (.b false), .t (.b false), .t (.b false), .t (.b false), .t (.b false), .t (.b false), .t (.b false), .t (.b false), .t (.b false), .t (.b false)]) := (zr_of Tryz.typeInfo209).trans rfl
@[simp] theorem by209 : (Tryz.prog.info? 209).map (·.bytes) = some 20 := by_of Tryz.typeInfo209
attribute [simp] Tryz.underlying209
@[simp] theorem sz210 : szOf Tryz.prog 210 = some 40 := sz_of Tryz.typeInfo210
@[simp] theorem ag210 : aggT Tryz.prog 210 = some true := by rw [aggT, Tryz.underlying210]
@[simp] theorem zr210 : zeroC Tryz.prog 210 = some (.agg [.t (.i .i64 0), .t (.i .i64 0), .t (.i .i64 0), .t (.i .i64 0), .t (.i .i64 0), .t (.i .i64 0), .t (.i .i64 0), .t (.i .i64 0), .t (.i .i64 0), .t (.i .i64 0), .t (.i .i64 0), .t (.i .i64 0), .t (.i .i64 0), .t (.i .i64 0), .t (.i .i64 0), .t (.i .i64 0), .t (.i .i64 0), .t (.i .i64 0), .t (.i .i64 0), .t (.i .i64 0), .t (.b false), .t (.b false), .t (.b false), .t (.b false), .t (.b false), .t (.b false), .t (.b false), .t (.b false), .t (.b false), .t (.b false), .t (.b false), .t (.b false), .t (.b false), .t (.b false), .t (.b false), .t (.b false), .t (.b false), .t (.b false), .t (.b false), .t (.b false)]) := (zr_of Tryz.typeInfo210).trans rfl
@[simp] theorem by210 : (Tryz.prog.info? 210).map (·.bytes) = some 184 := by_of Tryz.typeInfo210
attribute [simp] Tryz.underlying210
@[simp] theorem sz211 : szOf Tryz.prog 211 = some 40 := sz_of Tryz.typeInfo211
@[simp] theorem ag211 : aggT Tryz.prog 211 = some true := by rw [aggT, Tryz.underlying211]
@[simp] theorem zr211 : zeroC Tryz.prog 211 = some (.agg [.t (.i .i64 0), .t (.i .i64 0), .t (.i .i64 0), .t (.i .i64 0), .t (.i .i64 0), .t (.i .i64 0), .t (.i .i64 0), .t (.i .i64 0), .t (.i .i64 0), .t (.i .i64 0), .t (.i .i64 0), .t (.i .i64 0), .t (.i .i64 0), .t (.i .i64 0), .t (.i .i64 0), .t (.i .i64 0), .t (.i .i64 0), .t (.i .i64 0), .t (.i .i64 0), .t (.i .i64 0), .t (.b false), .t (.b false), .t (.b false), .t (.b false), .t (.b false), .t (.b false), .t (.b false), .t (.b false), .t (.b false), .t (.b false), .t (.b false), .t (.b false), .t (.b false), .t (.b false), .t (.b false), .t (.b false), .t (.b false), .t (.b false), .t (.b false), .t (.b false)]) := (zr_of Tryz.typeInfo211).trans rfl
@[simp] theorem by211 : (Tryz.prog.info? 211).map (·.bytes) = some 184 := by_of Tryz.typeInfo211
attribute [simp] Tryz.underlying211
@[simp] theorem sz212 : szOf Tryz.prog 212 = some 1 := sz_of Tryz.typeInfo212
@[simp] theorem ag212 : aggT Tryz.prog 212 = some false := by rw [aggT, Tryz.underlying212]
attribute [simp] Tryz.underlying212
@[simp] theorem sz213 : szOf Tryz.prog 213 = some 1 := sz_of Tryz.typeInfo213
@[simp] theorem ag213 : aggT Tryz.prog 213 = some false := by rw [aggT, Tryz.underlying213]
attribute [simp] Tryz.underlying213
@[simp] theorem sz214 : szOf Tryz.prog 214 = some 1 := sz_of Tryz.typeInfo214
@[simp] theorem ag214 : aggT Tryz.prog 214 = some false := by rw [aggT, Tryz.underlying214]
attribute [simp] Tryz.underlying214
@[simp] theorem sz215 : szOf Tryz.prog 215 = some 1 := sz_of Tryz.typeInfo215
@[simp] theorem ag215 : aggT Tryz.prog 215 = some false := by rw [aggT, Tryz.underlying215]
attribute [simp] Tryz.underlying215
@[simp] theorem sz216 : szOf Tryz.prog 216 = some 1 := sz_of Tryz.typeInfo216
@[simp] theorem ag216 : aggT Tryz.prog 216 = some false := by rw [aggT, Tryz.underlying216]
attribute [simp] Tryz.underlying216
@[simp] theorem sz217 : szOf Tryz.prog 217 = some 1 := sz_of Tryz.typeInfo217
@[simp] theorem ag217 : aggT Tryz.prog 217 = some false := by rw [aggT, Tryz.underlying217]
attribute [simp] Tryz.underlying217
@[simp] theorem sz218 : szOf Tryz.prog 218 = some 1 := sz_of Tryz.typeInfo218
@[simp] theorem ag218 : aggT Tryz.prog 218 = some false := by rw [aggT, Tryz.underlying218]
attribute [simp] Tryz.underlying218
@[simp] theorem sz219 : szOf Tryz.prog 219 = some 1 := sz_of Tryz.typeInfo219
@[simp] theorem ag219 : aggT Tryz.prog 219 = some false := by rw [aggT, Tryz.underlying219]
attribute [simp] Tryz.underlying219
@[simp] theorem sz220 : szOf Tryz.prog 220 = some 1 := sz_of Tryz.typeInfo220
@[simp] theorem ag220 : aggT Tryz.prog 220 = some false := by rw [aggT, Tryz.underlying220]
attribute [simp] Tryz.underlying220
@[simp] theorem sz221 : szOf Tryz.prog 221 = some 1 := sz_of Tryz.typeInfo221
@[simp] theorem ag221 : aggT Tryz.prog 221 = some false := by rw [aggT, Tryz.underlying221]
attribute [simp] Tryz.underlying221
@[simp] theorem sz222 : szOf Tryz.prog 222 = some 1 := sz_of Tryz.typeInfo222
@[simp] theorem ag222 : aggT Tryz.prog 222 = some false := by rw [aggT, Tryz.underlying222]
attribute [simp] Tryz.underlying222
@[simp] theorem sz223 : szOf Tryz.prog 223 = some 1 := sz_of Tryz.typeInfo223
@[simp] theorem ag223 : aggT Tryz.prog 223 = some false := by rw [aggT, Tryz.underlying223]
attribute [simp] Tryz.underlying223
@[simp] theorem sz224 : szOf Tryz.prog 224 = some 1 := sz_of Tryz.typeInfo224
@[simp] theorem ag224 : aggT Tryz.prog 224 = some false := by rw [aggT, Tryz.underlying224]
attribute [simp] Tryz.underlying224
@[simp] theorem sz225 : szOf Tryz.prog 225 = some 1 := sz_of Tryz.typeInfo225
@[simp] theorem ag225 : aggT Tryz.prog 225 = some false := by rw [aggT, Tryz.underlying225]
attribute [simp] Tryz.underlying225
@[simp] theorem sz226 : szOf Tryz.prog 226 = some 1 := sz_of Tryz.typeInfo226
@[simp] theorem ag226 : aggT Tryz.prog 226 = some false := by rw [aggT, Tryz.underlying226]
attribute [simp] Tryz.underlying226
@[simp] theorem sz227 : szOf Tryz.prog 227 = some 1 := sz_of Tryz.typeInfo227
@[simp] theorem ag227 : aggT Tryz.prog 227 = some false := by rw [aggT, Tryz.underlying227]
attribute [simp] Tryz.underlying227
@[simp] theorem sz228 : szOf Tryz.prog 228 = some 1 := sz_of Tryz.typeInfo228
@[simp] theorem ag228 : aggT Tryz.prog 228 = some false := by rw [aggT, Tryz.underlying228]
attribute [simp] Tryz.underlying228
@[simp] theorem sz229 : szOf Tryz.prog 229 = some 1 := sz_of Tryz.typeInfo229
@[simp] theorem ag229 : aggT Tryz.prog 229 = some false := by rw [aggT, Tryz.underlying229]
attribute [simp] Tryz.underlying229
@[simp] theorem sz230 : szOf Tryz.prog 230 = some 1 := sz_of Tryz.typeInfo230
@[simp] theorem ag230 : aggT Tryz.prog 230 = some false := by rw [aggT, Tryz.underlying230]
attribute [simp] Tryz.underlying230
@[simp] theorem sz231 : szOf Tryz.prog 231 = some 1 := sz_of Tryz.typeInfo231
@[simp] theorem ag231 : aggT Tryz.prog 231 = some false := by rw [aggT, Tryz.underlying231]
attribute [simp] Tryz.underlying231
@[simp] theorem sz232 : szOf Tryz.prog 232 = some 1 := sz_of Tryz.typeInfo232
@[simp] theorem ag232 : aggT Tryz.prog 232 = some false := by rw [aggT, Tryz.underlying232]
attribute [simp] Tryz.underlying232
@[simp] theorem sz233 : szOf Tryz.prog 233 = some 1 := sz_of Tryz.typeInfo233
@[simp] theorem ag233 : aggT Tryz.prog 233 = some false := by rw [aggT, Tryz.underlying233]
attribute [simp] Tryz.underlying233
@[simp] theorem sz234 : szOf Tryz.prog 234 = some 1 := sz_of Tryz.typeInfo234
@[simp] theorem ag234 : aggT Tryz.prog 234 = some false := by rw [aggT, Tryz.underlying234]
attribute [simp] Tryz.underlying234
@[simp] theorem sz235 : szOf Tryz.prog 235 = some 1 := sz_of Tryz.typeInfo235
@[simp] theorem ag235 : aggT Tryz.prog 235 = some false := by rw [aggT, Tryz.underlying235]
attribute [simp] Tryz.underlying235
@[simp] theorem sz236 : szOf Tryz.prog 236 = some 1 := sz_of Tryz.typeInfo236
@[simp] theorem ag236 : aggT Tryz.prog 236 = some false := by rw [aggT, Tryz.underlying236]
attribute [simp] Tryz.underlying236
@[simp] theorem sz238 : szOf Tryz.prog 238 = some 1 := sz_of Tryz.typeInfo238
@[simp] theorem ag238 : aggT Tryz.prog 238 = some false := by rw [aggT, Tryz.underlying238]
attribute [simp] Tryz.underlying238
@[simp] theorem sz239 : szOf Tryz.prog 239 = some 1 := sz_of Tryz.typeInfo239
@[simp] theorem ag239 : aggT Tryz.prog 239 = some false := by rw [aggT, Tryz.underlying239]
attribute [simp] Tryz.underlying239
@[simp] theorem sz240 : szOf Tryz.prog 240 = some 1 := sz_of Tryz.typeInfo240
@[simp] theorem ag240 : aggT Tryz.prog 240 = some false := by rw [aggT, Tryz.underlying240]
attribute [simp] Tryz.underlying240
@[simp] theorem sz241 : szOf Tryz.prog 241 = some 1 := sz_of Tryz.typeInfo241
@[simp] theorem ag241 : aggT Tryz.prog 241 = some false := by rw [aggT, Tryz.underlying241]
attribute [simp] Tryz.underlying241
@[simp] theorem sz242 : szOf Tryz.prog 242 = some 1 := sz_of Tryz.typeInfo242
@[simp] theorem ag242 : aggT Tryz.prog 242 = some false := by rw [aggT, Tryz.underlying242]
attribute [simp] Tryz.underlying242
@[simp] theorem sz243 : szOf Tryz.prog 243 = some 1 := sz_of Tryz.typeInfo243
@[simp] theorem ag243 : aggT Tryz.prog 243 = some false := by rw [aggT, Tryz.underlying243]
attribute [simp] Tryz.underlying243
@[simp] theorem sz244 : szOf Tryz.prog 244 = some 1 := sz_of Tryz.typeInfo244
@[simp] theorem ag244 : aggT Tryz.prog 244 = some false := by rw [aggT, Tryz.underlying244]
attribute [simp] Tryz.underlying244
@[simp] theorem sz245 : szOf Tryz.prog 245 = some 1 := sz_of Tryz.typeInfo245
@[simp] theorem ag245 : aggT Tryz.prog 245 = some false := by rw [aggT, Tryz.underlying245]
attribute [simp] Tryz.underlying245
@[simp] theorem sz247 : szOf Tryz.prog 247 = some 1 := sz_of Tryz.typeInfo247
@[simp] theorem ag247 : aggT Tryz.prog 247 = some false := by rw [aggT, Tryz.underlying247]
attribute [simp] Tryz.underlying247
@[simp] theorem sz249 : szOf Tryz.prog 249 = some 1 := sz_of Tryz.typeInfo249
@[simp] theorem ag249 : aggT Tryz.prog 249 = some false := by rw [aggT, Tryz.underlying249]
attribute [simp] Tryz.underlying249
@[simp] theorem sz250 : szOf Tryz.prog 250 = some 1 := sz_of Tryz.typeInfo250
@[simp] theorem ag250 : aggT Tryz.prog 250 = some false := by rw [aggT, Tryz.underlying250]
attribute [simp] Tryz.underlying250
@[simp] theorem sz251 : szOf Tryz.prog 251 = some 1 := sz_of Tryz.typeInfo251
@[simp] theorem ag251 : aggT Tryz.prog 251 = some false := by rw [aggT, Tryz.underlying251]
attribute [simp] Tryz.underlying251
@[simp] theorem sz252 : szOf Tryz.prog 252 = some 3 := sz_of Tryz.typeInfo252
@[simp] theorem ag252 : aggT Tryz.prog 252 = some true := by rw [aggT, Tryz.underlying252]
@[simp] theorem zr252 : zeroC Tryz.prog 252 = some (.agg [.t .nl, .t (.i .i64 0), .t (.i .i64 0)]) := (zr_of Tryz.typeInfo252).trans rfl
@[simp] theorem by252 : (Tryz.prog.info? 252).map (·.bytes) = some 40 := by_of Tryz.typeInfo252
attribute [simp] Tryz.underlying252
@[simp] theorem sz253 : szOf Tryz.prog 253 = some 3 := sz_of Tryz.typeInfo253
@[simp] theorem ag253 : aggT Tryz.prog 253 = some true := by rw [aggT, Tryz.underlying253]
@[simp] theorem zr253 : zeroC Tryz.prog 253 = some (.agg [.t .nl, .t (.i .i64 0), .t (.i .i64 0)]) := (zr_of Tryz.typeInfo253).trans rfl
@[simp] theorem by253 : (Tryz.prog.info? 253).map (·.bytes) = some 40 := by_of Tryz.typeInfo253
attribute [simp] Tryz.underlying253
@[simp] theorem sz254 : szOf Tryz.prog 254 = some 1 := sz_of Tryz.typeInfo254
@[simp] theorem ag254 : aggT Tryz.prog 254 = some false := by rw [aggT, Tryz.underlying254]
attribute [simp] Tryz.underlying254
@[simp] theorem sz255 : szOf Tryz.prog 255 = some 1 := sz_of Tryz.typeInfo255
@[simp] theorem ag255 : aggT Tryz.prog 255 = some false := by rw [aggT, Tryz.underlying255]
attribute [simp] Tryz.underlying255
@[simp] theorem sz256 : szOf Tryz.prog 256 = some 1 := sz_of Tryz.typeInfo256
@[simp] theorem ag256 : aggT Tryz.prog 256 = some false := by rw [aggT, Tryz.underlying256]
attribute [simp] Tryz.underlying256
@[simp] theorem sz257 : szOf Tryz.prog 257 = some 1 := sz_of Tryz.typeInfo257
@[simp] theorem ag257 : aggT Tryz.prog 257 = some false := by rw [aggT, Tryz.underlying257]
attribute [simp] Tryz.underlying257
@[simp] theorem sz259 : szOf Tryz.prog 259 = some 1 := sz_of Tryz.typeInfo259
@[simp] theorem ag259 : aggT Tryz.prog 259 = some false := by rw [aggT, Tryz.underlying259]
attribute [simp] Tryz.underlying259
@[simp] theorem sz260 : szOf Tryz.prog 260 = some 1 := sz_of Tryz.typeInfo260
@[simp] theorem ag260 : aggT Tryz.prog 260 = some false := by rw [aggT, Tryz.underlying260]
attribute [simp] Tryz.underlying260
@[simp] theorem sz261 : szOf Tryz.prog 261 = some 1 := sz_of Tryz.typeInfo261
@[simp] theorem ag261 : aggT Tryz.prog 261 = some false := by rw [aggT, Tryz.underlying261]
attribute [simp] Tryz.underlying261
@[simp] theorem sz262 : szOf Tryz.prog 262 = some 1 := sz_of Tryz.typeInfo262
@[simp] theorem ag262 : aggT Tryz.prog 262 = some false := by rw [aggT, Tryz.underlying262]
attribute [simp] Tryz.underlying262
@[simp] theorem sz264 : szOf Tryz.prog 264 = some 1 := sz_of Tryz.typeInfo264
@[simp] theorem ag264 : aggT Tryz.prog 264 = some false := by rw [aggT, Tryz.underlying264]
attribute [simp] Tryz.underlying264
@[simp] theorem sz265 : szOf Tryz.prog 265 = some 1 := sz_of Tryz.typeInfo265
@[simp] theorem ag265 : aggT Tryz.prog 265 = some false := by rw [aggT, Tryz.underlying265]
@[simp] theorem zr265 : zeroC Tryz.prog 265 = some (.np) := (zr_of Tryz.typeInfo265).trans rfl
@[simp] theorem by265 : (Tryz.prog.info? 265).map (·.bytes) = some 8 := by_of Tryz.typeInfo265
attribute [simp] Tryz.underlying265
@[simp] theorem sz266 : szOf Tryz.prog 266 = some 1 := sz_of Tryz.typeInfo266
@[simp] theorem ag266 : aggT Tryz.prog 266 = some false := by rw [aggT, Tryz.underlying266]
attribute [simp] Tryz.underlying266
@[simp] theorem sz267 : szOf Tryz.prog 267 = some 1 := sz_of Tryz.typeInfo267
@[simp] theorem ag267 : aggT Tryz.prog 267 = some false := by rw [aggT, Tryz.underlying267]
attribute [simp] Tryz.underlying267
@[simp] theorem sz268 : szOf Tryz.prog 268 = some 2 := sz_of Tryz.typeInfo268
@[simp] theorem ag268 : aggT Tryz.prog 268 = some true := by rw [aggT, Tryz.underlying268]
@[simp] theorem zr268 : zeroC Tryz.prog 268 = some (.agg [.t (.i .i64 0), .t .nl]) := (zr_of Tryz.typeInfo268).trans rfl
@[simp] theorem by268 : (Tryz.prog.info? 268).map (·.bytes) = some 32 := by_of Tryz.typeInfo268
attribute [simp] Tryz.underlying268
@[simp] theorem sz269 : szOf Tryz.prog 269 = some 1 := sz_of Tryz.typeInfo269
@[simp] theorem ag269 : aggT Tryz.prog 269 = some false := by rw [aggT, Tryz.underlying269]
attribute [simp] Tryz.underlying269
@[simp] theorem sz270 : szOf Tryz.prog 270 = some 1 := sz_of Tryz.typeInfo270
@[simp] theorem ag270 : aggT Tryz.prog 270 = some false := by rw [aggT, Tryz.underlying270]
attribute [simp] Tryz.underlying270
@[simp] theorem sz271 : szOf Tryz.prog 271 = some 1 := sz_of Tryz.typeInfo271
@[simp] theorem ag271 : aggT Tryz.prog 271 = some false := by rw [aggT, Tryz.underlying271]
attribute [simp] Tryz.underlying271
@[simp] theorem sz272 : szOf Tryz.prog 272 = some 1 := sz_of Tryz.typeInfo272
@[simp] theorem ag272 : aggT Tryz.prog 272 = some false := by rw [aggT, Tryz.underlying272]
attribute [simp] Tryz.underlying272
@[simp] theorem sz273 : szOf Tryz.prog 273 = some 1 := sz_of Tryz.typeInfo273
@[simp] theorem ag273 : aggT Tryz.prog 273 = some false := by rw [aggT, Tryz.underlying273]
attribute [simp] Tryz.underlying273
@[simp] theorem sz274 : szOf Tryz.prog 274 = some 1 := sz_of Tryz.typeInfo274
@[simp] theorem ag274 : aggT Tryz.prog 274 = some false := by rw [aggT, Tryz.underlying274]
@[simp] theorem zr274 : zeroC Tryz.prog 274 = some (.t (.i .u64 0)) := (zr_of Tryz.typeInfo274).trans rfl
@[simp] theorem by274 : (Tryz.prog.info? 274).map (·.bytes) = some 8 := by_of Tryz.typeInfo274
attribute [simp] Tryz.underlying274
@[simp] theorem sz275 : szOf Tryz.prog 275 = some 1 := sz_of Tryz.typeInfo275
@[simp] theorem ag275 : aggT Tryz.prog 275 = some false := by rw [aggT, Tryz.underlying275]
attribute [simp] Tryz.underlying275
@[simp] theorem sz276 : szOf Tryz.prog 276 = some 1 := sz_of Tryz.typeInfo276
@[simp] theorem ag276 : aggT Tryz.prog 276 = some false := by rw [aggT, Tryz.underlying276]
attribute [simp] Tryz.underlying276
@[simp] theorem sz277 : szOf Tryz.prog 277 = some 1 := sz_of Tryz.typeInfo277
@[simp] theorem ag277 : aggT Tryz.prog 277 = some false := by rw [aggT, Tryz.underlying277]
attribute [simp] Tryz.underlying277
@[simp] theorem sz278 : szOf Tryz.prog 278 = some 1 := sz_of Tryz.typeInfo278
@[simp] theorem ag278 : aggT Tryz.prog 278 = some false := by rw [aggT, Tryz.underlying278]
attribute [simp] Tryz.underlying278
@[simp] theorem sz279 : szOf Tryz.prog 279 = some 1 := sz_of Tryz.typeInfo279
@[simp] theorem ag279 : aggT Tryz.prog 279 = some false := by rw [aggT, Tryz.underlying279]
attribute [simp] Tryz.underlying279
@[simp] theorem sz280 : szOf Tryz.prog 280 = some 1 := sz_of Tryz.typeInfo280
@[simp] theorem ag280 : aggT Tryz.prog 280 = some false := by rw [aggT, Tryz.underlying280]
attribute [simp] Tryz.underlying280
@[simp] theorem sz281 : szOf Tryz.prog 281 = some 1 := sz_of Tryz.typeInfo281
@[simp] theorem ag281 : aggT Tryz.prog 281 = some false := by rw [aggT, Tryz.underlying281]
attribute [simp] Tryz.underlying281
@[simp] theorem sz283 : szOf Tryz.prog 283 = some 1 := sz_of Tryz.typeInfo283
@[simp] theorem ag283 : aggT Tryz.prog 283 = some false := by rw [aggT, Tryz.underlying283]
attribute [simp] Tryz.underlying283
@[simp] theorem sz285 : szOf Tryz.prog 285 = some 1 := sz_of Tryz.typeInfo285
@[simp] theorem ag285 : aggT Tryz.prog 285 = some false := by rw [aggT, Tryz.underlying285]
attribute [simp] Tryz.underlying285
@[simp] theorem sz286 : szOf Tryz.prog 286 = some 1 := sz_of Tryz.typeInfo286
@[simp] theorem ag286 : aggT Tryz.prog 286 = some false := by rw [aggT, Tryz.underlying286]
attribute [simp] Tryz.underlying286
@[simp] theorem sz287 : szOf Tryz.prog 287 = some 1 := sz_of Tryz.typeInfo287
@[simp] theorem ag287 : aggT Tryz.prog 287 = some false := by rw [aggT, Tryz.underlying287]
attribute [simp] Tryz.underlying287
@[simp] theorem sz288 : szOf Tryz.prog 288 = some 1 := sz_of Tryz.typeInfo288
@[simp] theorem ag288 : aggT Tryz.prog 288 = some false := by rw [aggT, Tryz.underlying288]
attribute [simp] Tryz.underlying288
@[simp] theorem sz289 : szOf Tryz.prog 289 = some 1 := sz_of Tryz.typeInfo289
@[simp] theorem ag289 : aggT Tryz.prog 289 = some false := by rw [aggT, Tryz.underlying289]
attribute [simp] Tryz.underlying289
@[simp] theorem sz290 : szOf Tryz.prog 290 = some 1 := sz_of Tryz.typeInfo290
@[simp] theorem ag290 : aggT Tryz.prog 290 = some false := by rw [aggT, Tryz.underlying290]
attribute [simp] Tryz.underlying290
@[simp] theorem sz291 : szOf Tryz.prog 291 = some 1 := sz_of Tryz.typeInfo291
@[simp] theorem ag291 : aggT Tryz.prog 291 = some false := by rw [aggT, Tryz.underlying291]
attribute [simp] Tryz.underlying291
@[simp] theorem sz292 : szOf Tryz.prog 292 = some 1 := sz_of Tryz.typeInfo292
@[simp] theorem ag292 : aggT Tryz.prog 292 = some false := by rw [aggT, Tryz.underlying292]
attribute [simp] Tryz.underlying292
@[simp] theorem sz293 : szOf Tryz.prog 293 = some 1 := sz_of Tryz.typeInfo293
@[simp] theorem ag293 : aggT Tryz.prog 293 = some false := by rw [aggT, Tryz.underlying293]
attribute [simp] Tryz.underlying293
@[simp] theorem sz294 : szOf Tryz.prog 294 = some 1 := sz_of Tryz.typeInfo294
@[simp] theorem ag294 : aggT Tryz.prog 294 = some false := by rw [aggT, Tryz.underlying294]
@[simp] theorem zr294 : zeroC Tryz.prog 294 = some (.np) := (zr_of Tryz.typeInfo294).trans rfl
@[simp] theorem by294 : (Tryz.prog.info? 294).map (·.bytes) = some 8 := by_of Tryz.typeInfo294
attribute [simp] Tryz.underlying294
@[simp] theorem sz295 : szOf Tryz.prog 295 = some 1 := sz_of Tryz.typeInfo295
@[simp] theorem ag295 : aggT Tryz.prog 295 = some false := by rw [aggT, Tryz.underlying295]
attribute [simp] Tryz.underlying295
@[simp] theorem sz296 : szOf Tryz.prog 296 = some 1 := sz_of Tryz.typeInfo296
@[simp] theorem ag296 : aggT Tryz.prog 296 = some false := by rw [aggT, Tryz.underlying296]
attribute [simp] Tryz.underlying296
@[simp] theorem sz297 : szOf Tryz.prog 297 = some 1 := sz_of Tryz.typeInfo297
@[simp] theorem ag297 : aggT Tryz.prog 297 = some false := by rw [aggT, Tryz.underlying297]
@[simp] theorem zr297 : zeroC Tryz.prog 297 = some (.t (.i .i64 0)) := (zr_of Tryz.typeInfo297).trans rfl
@[simp] theorem by297 : (Tryz.prog.info? 297).map (·.bytes) = some 8 := by_of Tryz.typeInfo297
attribute [simp] Tryz.underlying297
@[simp] theorem sz299 : szOf Tryz.prog 299 = some 1 := sz_of Tryz.typeInfo299
@[simp] theorem ag299 : aggT Tryz.prog 299 = some false := by rw [aggT, Tryz.underlying299]
attribute [simp] Tryz.underlying299
@[simp] theorem sz300 : szOf Tryz.prog 300 = some 1 := sz_of Tryz.typeInfo300
@[simp] theorem ag300 : aggT Tryz.prog 300 = some false := by rw [aggT, Tryz.underlying300]
attribute [simp] Tryz.underlying300
@[simp] theorem sz301 : szOf Tryz.prog 301 = some 1 := sz_of Tryz.typeInfo301
@[simp] theorem ag301 : aggT Tryz.prog 301 = some false := by rw [aggT, Tryz.underlying301]
attribute [simp] Tryz.underlying301
@[simp] theorem sz302 : szOf Tryz.prog 302 = some 1 := sz_of Tryz.typeInfo302
@[simp] theorem ag302 : aggT Tryz.prog 302 = some false := by rw [aggT, Tryz.underlying302]
attribute [simp] Tryz.underlying302
@[simp] theorem sz303 : szOf Tryz.prog 303 = some 1 := sz_of Tryz.typeInfo303
@[simp] theorem ag303 : aggT Tryz.prog 303 = some false := by rw [aggT, Tryz.underlying303]
attribute [simp] Tryz.underlying303
@[simp] theorem sz304 : szOf Tryz.prog 304 = some 1 := sz_of Tryz.typeInfo304
@[simp] theorem ag304 : aggT Tryz.prog 304 = some false := by rw [aggT, Tryz.underlying304]
@[simp] theorem zr304 : zeroC Tryz.prog 304 = some (.t (.i .u32 0)) := (zr_of Tryz.typeInfo304).trans rfl
@[simp] theorem by304 : (Tryz.prog.info? 304).map (·.bytes) = some 4 := by_of Tryz.typeInfo304
attribute [simp] Tryz.underlying304
@[simp] theorem sz305 : szOf Tryz.prog 305 = some 1 := sz_of Tryz.typeInfo305
@[simp] theorem ag305 : aggT Tryz.prog 305 = some false := by rw [aggT, Tryz.underlying305]
attribute [simp] Tryz.underlying305
@[simp] theorem sz306 : szOf Tryz.prog 306 = some 1 := sz_of Tryz.typeInfo306
@[simp] theorem ag306 : aggT Tryz.prog 306 = some false := by rw [aggT, Tryz.underlying306]
@[simp] theorem zr306 : zeroC Tryz.prog 306 = some (.t (.i .u64 0)) := (zr_of Tryz.typeInfo306).trans rfl
@[simp] theorem by306 : (Tryz.prog.info? 306).map (·.bytes) = some 8 := by_of Tryz.typeInfo306
attribute [simp] Tryz.underlying306
@[simp] theorem sz307 : szOf Tryz.prog 307 = some 1 := sz_of Tryz.typeInfo307
@[simp] theorem ag307 : aggT Tryz.prog 307 = some false := by rw [aggT, Tryz.underlying307]
attribute [simp] Tryz.underlying307
@[simp] theorem sz309 : szOf Tryz.prog 309 = some 1 := sz_of Tryz.typeInfo309
@[simp] theorem ag309 : aggT Tryz.prog 309 = some false := by rw [aggT, Tryz.underlying309]
attribute [simp] Tryz.underlying309
@[simp] theorem sz310 : szOf Tryz.prog 310 = some 1 := sz_of Tryz.typeInfo310
@[simp] theorem ag310 : aggT Tryz.prog 310 = some false := by rw [aggT, Tryz.underlying310]
attribute [simp] Tryz.underlying310
@[simp] theorem sz311 : szOf Tryz.prog 311 = some 1 := sz_of Tryz.typeInfo311
@[simp] theorem ag311 : aggT Tryz.prog 311 = some false := by rw [aggT, Tryz.underlying311]
attribute [simp] Tryz.underlying311
@[simp] theorem sz313 : szOf Tryz.prog 313 = some 1 := sz_of Tryz.typeInfo313
@[simp] theorem ag313 : aggT Tryz.prog 313 = some false := by rw [aggT, Tryz.underlying313]
attribute [simp] Tryz.underlying313
@[simp] theorem sz314 : szOf Tryz.prog 314 = some 1 := sz_of Tryz.typeInfo314
@[simp] theorem ag314 : aggT Tryz.prog 314 = some false := by rw [aggT, Tryz.underlying314]
attribute [simp] Tryz.underlying314
@[simp] theorem sz315 : szOf Tryz.prog 315 = some 1 := sz_of Tryz.typeInfo315
@[simp] theorem ag315 : aggT Tryz.prog 315 = some false := by rw [aggT, Tryz.underlying315]
attribute [simp] Tryz.underlying315
@[simp] theorem sz316 : szOf Tryz.prog 316 = some 1 := sz_of Tryz.typeInfo316
@[simp] theorem ag316 : aggT Tryz.prog 316 = some false := by rw [aggT, Tryz.underlying316]
attribute [simp] Tryz.underlying316
@[simp] theorem sz317 : szOf Tryz.prog 317 = some 1 := sz_of Tryz.typeInfo317
@[simp] theorem ag317 : aggT Tryz.prog 317 = some false := by rw [aggT, Tryz.underlying317]
attribute [simp] Tryz.underlying317
@[simp] theorem sz318 : szOf Tryz.prog 318 = some 1 := sz_of Tryz.typeInfo318
@[simp] theorem ag318 : aggT Tryz.prog 318 = some false := by rw [aggT, Tryz.underlying318]
@[simp] theorem zr318 : zeroC Tryz.prog 318 = some (.t .nl) := (zr_of Tryz.typeInfo318).trans rfl
@[simp] theorem by318 : (Tryz.prog.info? 318).map (·.bytes) = some 24 := by_of Tryz.typeInfo318
attribute [simp] Tryz.underlying318
@[simp] theorem sz319 : szOf Tryz.prog 319 = some 1 := sz_of Tryz.typeInfo319
@[simp] theorem ag319 : aggT Tryz.prog 319 = some false := by rw [aggT, Tryz.underlying319]
attribute [simp] Tryz.underlying319
@[simp] theorem sz320 : szOf Tryz.prog 320 = some 1 := sz_of Tryz.typeInfo320
@[simp] theorem ag320 : aggT Tryz.prog 320 = some false := by rw [aggT, Tryz.underlying320]
attribute [simp] Tryz.underlying320
@[simp] theorem sz321 : szOf Tryz.prog 321 = some 1 := sz_of Tryz.typeInfo321
@[simp] theorem ag321 : aggT Tryz.prog 321 = some false := by rw [aggT, Tryz.underlying321]
attribute [simp] Tryz.underlying321
@[simp] theorem sz322 : szOf Tryz.prog 322 = some 1 := sz_of Tryz.typeInfo322
@[simp] theorem ag322 : aggT Tryz.prog 322 = some false := by rw [aggT, Tryz.underlying322]
attribute [simp] Tryz.underlying322
@[simp] theorem sz323 : szOf Tryz.prog 323 = some 1 := sz_of Tryz.typeInfo323
@[simp] theorem ag323 : aggT Tryz.prog 323 = some false := by rw [aggT, Tryz.underlying323]
attribute [simp] Tryz.underlying323
@[simp] theorem sz324 : szOf Tryz.prog 324 = some 1 := sz_of Tryz.typeInfo324
@[simp] theorem ag324 : aggT Tryz.prog 324 = some false := by rw [aggT, Tryz.underlying324]
attribute [simp] Tryz.underlying324
@[simp] theorem sz325 : szOf Tryz.prog 325 = some 1 := sz_of Tryz.typeInfo325
@[simp] theorem ag325 : aggT Tryz.prog 325 = some false := by rw [aggT, Tryz.underlying325]
attribute [simp] Tryz.underlying325
@[simp] theorem sz326 : szOf Tryz.prog 326 = some 1 := sz_of Tryz.typeInfo326
@[simp] theorem ag326 : aggT Tryz.prog 326 = some false := by rw [aggT, Tryz.underlying326]
@[simp] theorem zr326 : zeroC Tryz.prog 326 = some (.t (.i .u64 0)) := (zr_of Tryz.typeInfo326).trans rfl
@[simp] theorem by326 : (Tryz.prog.info? 326).map (·.bytes) = some 8 := by_of Tryz.typeInfo326
attribute [simp] Tryz.underlying326
@[simp] theorem sz327 : szOf Tryz.prog 327 = some 1 := sz_of Tryz.typeInfo327
@[simp] theorem ag327 : aggT Tryz.prog 327 = some false := by rw [aggT, Tryz.underlying327]
attribute [simp] Tryz.underlying327
@[simp] theorem sz328 : szOf Tryz.prog 328 = some 1 := sz_of Tryz.typeInfo328
@[simp] theorem ag328 : aggT Tryz.prog 328 = some false := by rw [aggT, Tryz.underlying328]
attribute [simp] Tryz.underlying328
@[simp] theorem sz329 : szOf Tryz.prog 329 = some 1 := sz_of Tryz.typeInfo329
@[simp] theorem ag329 : aggT Tryz.prog 329 = some false := by rw [aggT, Tryz.underlying329]
attribute [simp] Tryz.underlying329
@[simp] theorem sz330 : szOf Tryz.prog 330 = some 1 := sz_of Tryz.typeInfo330
@[simp] theorem ag330 : aggT Tryz.prog 330 = some false := by rw [aggT, Tryz.underlying330]
@[simp] theorem zr330 : zeroC Tryz.prog 330 = some (.np) := (zr_of Tryz.typeInfo330).trans rfl
@[simp] theorem by330 : (Tryz.prog.info? 330).map (·.bytes) = some 8 := by_of Tryz.typeInfo330
attribute [simp] Tryz.underlying330
@[simp] theorem sz331 : szOf Tryz.prog 331 = some 1 := sz_of Tryz.typeInfo331
@[simp] theorem ag331 : aggT Tryz.prog 331 = some false := by rw [aggT, Tryz.underlying331]
attribute [simp] Tryz.underlying331
@[simp] theorem sz332 : szOf Tryz.prog 332 = some 1 := sz_of Tryz.typeInfo332
@[simp] theorem ag332 : aggT Tryz.prog 332 = some false := by rw [aggT, Tryz.underlying332]
attribute [simp] Tryz.underlying332
@[simp] theorem sz333 : szOf Tryz.prog 333 = some 1 := sz_of Tryz.typeInfo333
@[simp] theorem ag333 : aggT Tryz.prog 333 = some false := by rw [aggT, Tryz.underlying333]
attribute [simp] Tryz.underlying333
@[simp] theorem sz334 : szOf Tryz.prog 334 = some 1 := sz_of Tryz.typeInfo334
@[simp] theorem ag334 : aggT Tryz.prog 334 = some false := by rw [aggT, Tryz.underlying334]
attribute [simp] Tryz.underlying334
@[simp] theorem sz335 : szOf Tryz.prog 335 = some 1 := sz_of Tryz.typeInfo335
@[simp] theorem ag335 : aggT Tryz.prog 335 = some false := by rw [aggT, Tryz.underlying335]
attribute [simp] Tryz.underlying335
@[simp] theorem sz336 : szOf Tryz.prog 336 = some 1 := sz_of Tryz.typeInfo336
@[simp] theorem ag336 : aggT Tryz.prog 336 = some false := by rw [aggT, Tryz.underlying336]
attribute [simp] Tryz.underlying336
@[simp] theorem sz337 : szOf Tryz.prog 337 = some 1 := sz_of Tryz.typeInfo337
@[simp] theorem ag337 : aggT Tryz.prog 337 = some false := by rw [aggT, Tryz.underlying337]
attribute [simp] Tryz.underlying337
@[simp] theorem sz338 : szOf Tryz.prog 338 = some 1 := sz_of Tryz.typeInfo338
@[simp] theorem ag338 : aggT Tryz.prog 338 = some false := by rw [aggT, Tryz.underlying338]
attribute [simp] Tryz.underlying338
@[simp] theorem sz339 : szOf Tryz.prog 339 = some 1 := sz_of Tryz.typeInfo339
@[simp] theorem ag339 : aggT Tryz.prog 339 = some false := by rw [aggT, Tryz.underlying339]
@[simp] theorem zr339 : zeroC Tryz.prog 339 = some (.np) := (zr_of Tryz.typeInfo339).trans rfl
@[simp] theorem by339 : (Tryz.prog.info? 339).map (·.bytes) = some 8 := by_of Tryz.typeInfo339
attribute [simp] Tryz.underlying339
@[simp] theorem sz341 : szOf Tryz.prog 341 = some 1 := sz_of Tryz.typeInfo341
@[simp] theorem ag341 : aggT Tryz.prog 341 = some false := by rw [aggT, Tryz.underlying341]
attribute [simp] Tryz.underlying341
@[simp] theorem sz342 : szOf Tryz.prog 342 = some 1 := sz_of Tryz.typeInfo342
@[simp] theorem ag342 : aggT Tryz.prog 342 = some false := by rw [aggT, Tryz.underlying342]
attribute [simp] Tryz.underlying342
@[simp] theorem sz343 : szOf Tryz.prog 343 = some 1 := sz_of Tryz.typeInfo343
@[simp] theorem ag343 : aggT Tryz.prog 343 = some false := by rw [aggT, Tryz.underlying343]
attribute [simp] Tryz.underlying343
@[simp] theorem sz344 : szOf Tryz.prog 344 = some 1 := sz_of Tryz.typeInfo344
@[simp] theorem ag344 : aggT Tryz.prog 344 = some false := by rw [aggT, Tryz.underlying344]
attribute [simp] Tryz.underlying344
@[simp] theorem sz345 : szOf Tryz.prog 345 = some 1 := sz_of Tryz.typeInfo345
@[simp] theorem ag345 : aggT Tryz.prog 345 = some false := by rw [aggT, Tryz.underlying345]
attribute [simp] Tryz.underlying345
@[simp] theorem sz346 : szOf Tryz.prog 346 = some 1 := sz_of Tryz.typeInfo346
@[simp] theorem ag346 : aggT Tryz.prog 346 = some false := by rw [aggT, Tryz.underlying346]
attribute [simp] Tryz.underlying346
@[simp] theorem sz347 : szOf Tryz.prog 347 = some 1 := sz_of Tryz.typeInfo347
@[simp] theorem ag347 : aggT Tryz.prog 347 = some false := by rw [aggT, Tryz.underlying347]
attribute [simp] Tryz.underlying347
@[simp] theorem sz348 : szOf Tryz.prog 348 = some 1 := sz_of Tryz.typeInfo348
@[simp] theorem ag348 : aggT Tryz.prog 348 = some false := by rw [aggT, Tryz.underlying348]
attribute [simp] Tryz.underlying348
@[simp] theorem sz349 : szOf Tryz.prog 349 = some 1 := sz_of Tryz.typeInfo349
@[simp] theorem ag349 : aggT Tryz.prog 349 = some false := by rw [aggT, Tryz.underlying349]
attribute [simp] Tryz.underlying349
@[simp] theorem sz350 : szOf Tryz.prog 350 = some 1 := sz_of Tryz.typeInfo350
@[simp] theorem ag350 : aggT Tryz.prog 350 = some false := by rw [aggT, Tryz.underlying350]
attribute [simp] Tryz.underlying350
@[simp] theorem sz351 : szOf Tryz.prog 351 = some 1 := sz_of Tryz.typeInfo351
@[simp] theorem ag351 : aggT Tryz.prog 351 = some false := by rw [aggT, Tryz.underlying351]
attribute [simp] Tryz.underlying351
@[simp] theorem sz352 : szOf Tryz.prog 352 = some 1 := sz_of Tryz.typeInfo352
@[simp] theorem ag352 : aggT Tryz.prog 352 = some false := by rw [aggT, Tryz.underlying352]
attribute [simp] Tryz.underlying352
@[simp] theorem sz353 : szOf Tryz.prog 353 = some 1 := sz_of Tryz.typeInfo353
@[simp] theorem ag353 : aggT Tryz.prog 353 = some false := by rw [aggT, Tryz.underlying353]
attribute [simp] Tryz.underlying353
@[simp] theorem sz354 : szOf Tryz.prog 354 = some 4 := sz_of Tryz.typeInfo354
@[simp] theorem ag354 : aggT Tryz.prog 354 = some true := by rw [aggT, Tryz.underlying354]
attribute [simp] Tryz.underlying354
@[simp] theorem sz355 : szOf Tryz.prog 355 = some 4 := sz_of Tryz.typeInfo355
@[simp] theorem ag355 : aggT Tryz.prog 355 = some true := by rw [aggT, Tryz.underlying355]
attribute [simp] Tryz.underlying355
@[simp] theorem sz356 : szOf Tryz.prog 356 = some 0 := sz_of Tryz.typeInfo356
@[simp] theorem ag356 : aggT Tryz.prog 356 = some true := by rw [aggT, Tryz.underlying356]
@[simp] theorem zr356 : zeroC Tryz.prog 356 = some (.agg []) := (zr_of Tryz.typeInfo356).trans rfl
@[simp] theorem by356 : (Tryz.prog.info? 356).map (·.bytes) = some 0 := by_of Tryz.typeInfo356
attribute [simp] Tryz.underlying356
@[simp] theorem sz357 : szOf Tryz.prog 357 = some 0 := sz_of Tryz.typeInfo357
@[simp] theorem ag357 : aggT Tryz.prog 357 = some true := by rw [aggT, Tryz.underlying357]
@[simp] theorem zr357 : zeroC Tryz.prog 357 = some (.agg []) := (zr_of Tryz.typeInfo357).trans rfl
@[simp] theorem by357 : (Tryz.prog.info? 357).map (·.bytes) = some 0 := by_of Tryz.typeInfo357
attribute [simp] Tryz.underlying357
@[simp] theorem sz358 : szOf Tryz.prog 358 = some 0 := sz_of Tryz.typeInfo358
@[simp] theorem ag358 : aggT Tryz.prog 358 = some true := by rw [aggT, Tryz.underlying358]
@[simp] theorem zr358 : zeroC Tryz.prog 358 = some (.agg []) := (zr_of Tryz.typeInfo358).trans rfl
@[simp] theorem by358 : (Tryz.prog.info? 358).map (·.bytes) = some 0 := by_of Tryz.typeInfo358
attribute [simp] Tryz.underlying358
@[simp] theorem sz359 : szOf Tryz.prog 359 = some 1 := sz_of Tryz.typeInfo359
@[simp] theorem ag359 : aggT Tryz.prog 359 = some false := by rw [aggT, Tryz.underlying359]
attribute [simp] Tryz.underlying359
@[simp] theorem sz360 : szOf Tryz.prog 360 = some 1 := sz_of Tryz.typeInfo360
@[simp] theorem ag360 : aggT Tryz.prog 360 = some false := by rw [aggT, Tryz.underlying360]
@[simp] theorem zr360 : zeroC Tryz.prog 360 = some (.t (.i .u8 0)) := (zr_of Tryz.typeInfo360).trans rfl
@[simp] theorem by360 : (Tryz.prog.info? 360).map (·.bytes) = some 1 := by_of Tryz.typeInfo360
attribute [simp] Tryz.underlying360
@[simp] theorem sz361 : szOf Tryz.prog 361 = some 1 := sz_of Tryz.typeInfo361
@[simp] theorem ag361 : aggT Tryz.prog 361 = some false := by rw [aggT, Tryz.underlying361]
@[simp] theorem zr361 : zeroC Tryz.prog 361 = some (.t (.i .u8 0)) := (zr_of Tryz.typeInfo361).trans rfl
@[simp] theorem by361 : (Tryz.prog.info? 361).map (·.bytes) = some 1 := by_of Tryz.typeInfo361
attribute [simp] Tryz.underlying361
@[simp] theorem sz362 : szOf Tryz.prog 362 = some 1 := sz_of Tryz.typeInfo362
@[simp] theorem ag362 : aggT Tryz.prog 362 = some false := by rw [aggT, Tryz.underlying362]
attribute [simp] Tryz.underlying362
@[simp] theorem sz363 : szOf Tryz.prog 363 = some 1 := sz_of Tryz.typeInfo363
@[simp] theorem ag363 : aggT Tryz.prog 363 = some false := by rw [aggT, Tryz.underlying363]
@[simp] theorem zr363 : zeroC Tryz.prog 363 = some (.np) := (zr_of Tryz.typeInfo363).trans rfl
@[simp] theorem by363 : (Tryz.prog.info? 363).map (·.bytes) = some 8 := by_of Tryz.typeInfo363
attribute [simp] Tryz.underlying363
@[simp] theorem sz364 : szOf Tryz.prog 364 = some 1 := sz_of Tryz.typeInfo364
@[simp] theorem ag364 : aggT Tryz.prog 364 = some false := by rw [aggT, Tryz.underlying364]
@[simp] theorem zr364 : zeroC Tryz.prog 364 = some (.t (.i .i32 0)) := (zr_of Tryz.typeInfo364).trans rfl
@[simp] theorem by364 : (Tryz.prog.info? 364).map (·.bytes) = some 4 := by_of Tryz.typeInfo364
attribute [simp] Tryz.underlying364
@[simp] theorem sz365 : szOf Tryz.prog 365 = some 1 := sz_of Tryz.typeInfo365
@[simp] theorem ag365 : aggT Tryz.prog 365 = some false := by rw [aggT, Tryz.underlying365]
@[simp] theorem zr365 : zeroC Tryz.prog 365 = some (.t (.i .i32 0)) := (zr_of Tryz.typeInfo365).trans rfl
@[simp] theorem by365 : (Tryz.prog.info? 365).map (·.bytes) = some 4 := by_of Tryz.typeInfo365
attribute [simp] Tryz.underlying365
@[simp] theorem sz366 : szOf Tryz.prog 366 = some 11 := sz_of Tryz.typeInfo366
@[simp] theorem ag366 : aggT Tryz.prog 366 = some true := by rw [aggT, Tryz.underlying366]
attribute [simp] Tryz.underlying366
@[simp] theorem sz367 : szOf Tryz.prog 367 = some 11 := sz_of Tryz.typeInfo367
@[simp] theorem ag367 : aggT Tryz.prog 367 = some true := by rw [aggT, Tryz.underlying367]
attribute [simp] Tryz.underlying367
@[simp] theorem sz368 : szOf Tryz.prog 368 = some 1 := sz_of Tryz.typeInfo368
@[simp] theorem ag368 : aggT Tryz.prog 368 = some false := by rw [aggT, Tryz.underlying368]
attribute [simp] Tryz.underlying368
@[simp] theorem sz369 : szOf Tryz.prog 369 = some 1 := sz_of Tryz.typeInfo369
@[simp] theorem ag369 : aggT Tryz.prog 369 = some false := by rw [aggT, Tryz.underlying369]
attribute [simp] Tryz.underlying369
end Go.Proofs.YtmfifjbbjjdacaaGreat.V

namespace Go.Proofs.YtmfifjbbjjdacaaGreat.V
open Go
/-- What is kept: the first, and what differs from the one before. -/
def kpf (eqf : Nat → Nat → Bool) (j : Nat) : Bool := j == 0 || !eqf j (j - 1)
end Go.Proofs.YtmfifjbbjjdacaaGreat.V

namespace Go.Proofs.YtmfifjbbjjdacaaGreat.V
open Go Go.Proofs Go.Shelf Go.RowKit Go.Lib Go.Sort
set_option linter.unusedVariables false
set_option linter.unusedSimpArgs false
theorem SW.put {α : Type} [Inhabited α] {enc : α → Value} {w0 W : World} {blk off : Nat} {dk : Array α} (h : SW enc w0 blk off dk W) (hblk : blk < w0.heap.size) (i : Nat) (x : α) (hi : i < dk.size) : SW enc w0 blk off (dk.setIfInBounds i x) (W.setCell ⟨blk, off + i, none⟩ (enc x)) := by
  obtain ⟨n, os, rfl⟩ := h
  refine ⟨n, os, ?_⟩
  unfold sortWorld
  rw [← putRow_grow enc (Sort.ahead w0 n) os blk off dk hblk, putRow_set _ _ _ _ _ _ _ hi, putRow_grow enc (Sort.ahead w0 n) os blk off _ hblk]
theorem SW.puts {α : Type} [Inhabited α] {enc : α → Value} {w0 W : World} {blk off : Nat} {dk : Array α} (h : SW enc w0 blk off dk W) (hblk : blk < w0.heap.size) (i : Nat) (xs : List α) (hi : i + xs.length ≤ dk.size) : SW enc w0 blk off (lay dk i xs) (W.setCells blk (off + i) (xs.map enc)) := by
  obtain ⟨n, os, rfl⟩ := h
  refine ⟨n, os, ?_⟩
  unfold sortWorld
  rw [setCells_grow os blk _ _ _ (by rw [size_putRow]; exact hblk), putRow_setCells _ _ _ _ _ _ _ hi]
set_option maxHeartbeats 4000000 in
set_option maxRecDepth 1000000 in
theorem compI_walk {α : Type} [Inhabited α] (enc : α → Value) (zr : α) (hz : enc zr = .slice none 0 0) (eqf : Nat → Nat → Bool) (g : Nat) (eg : ∀ args w, (callFunc g args).run Tryz.prog w = .ok (.enter g args) w) (blk off cap : Nat) (d : Array α) (w : World) (R : Row1 enc w blk off d) (hsz : d.size ≤ 4611686018427387904) (hcap : d.size ≤ cap)
    (hcmp : ∀ (W : World) (dk : Array α), SW enc w blk off dk W → dk.size = d.size → ∀ i j, i < d.size → j < d.size → ∀ (n : Nat) (os : Array Obj), Calls Tryz.prog g #[enc d[i]!, enc d[j]!] (grow (W.drewN n) os) fun e w' => e = .returned (.bool (eqf i j)) ∧ ∃ q os', w' = grow ((grow (W.drewN n) os).drewN q) os') :
    Calls Tryz.prog 328 #[.slice (some ⟨blk, off, none⟩) d.size cap, .func (.func g) #[] #[]] w fun e w' => e = .returned (.slice (some ⟨blk, off, none⟩) (keptUpTo (kpf eqf) d d.size).length cap) ∧ SW enc w blk off (keptUpTo (kpf eqf) d d.size ++ List.replicate (d.size - (keptUpTo (kpf eqf) d d.size).length) zr).toArray w' := by
  have mixed : Tryz.prog.follows .mixedOrders = true := by kernel_rfl
  have hcl0 := R.hO.cells
  simp only [Value.cells] at hcl0
  have hst := R.hO.store Tryz.prog
  have HC : Aside _ := hcmp
  clear hcmp
  have S0 : Aside (SW enc w blk off d w) := SW.start R.hH
  have hblk := R.hblk
  have same : (∀ j, j < d.size → kpf eqf j = true) → (keptUpTo (kpf eqf) d d.size).length = d.size ∧ (keptUpTo (kpf eqf) d d.size ++ List.replicate (d.size - (keptUpTo (kpf eqf) d d.size).length) zr).toArray = d := by
    intro hall
    have e : keptUpTo (kpf eqf) d d.size = d.toList := by rw [keptUpTo_all _ d _ hall, range_map_get]
    rw [e]
    refine ⟨by simp, ?_⟩
    simp only [Array.length_toList, Nat.sub_self, List.replicate_zero, List.append_nil, Array.toArray_toList]
  have HS : Aside _ := same
  clear same
  have RR : Aside (Row1 enc w blk off d) := R
  clear R
  by_cases h2 : d.size < 2
  · go_enter Tryz.func328, Tryz.ntmps328
    go_wp2
    go_ret
    obtain ⟨e1, e2⟩ := HS.out (fun j hj => by
      have : j = 0 ∨ j = 1 := by omega
      have : j = 0 := by omega
      subst this; rfl)
    exact ⟨by rw [e1]; rfl, by rw [e2]; exact S0.out⟩
  · go_enter Tryz.func328, Tryz.ntmps328
    go_wp2
    go_loopg [5] d.size (fun gg s5 wr => ∃ k : Nat, 1 ≤ k ∧ k ≤ d.size ∧ d.size - k ≤ gg ∧ s5 = .int .i64 k ∧ Aside (SW enc w blk off d wr) ∧ Aside (∀ j, j < k → kpf eqf j = true))
    case atStart => exact ⟨1, Nat.le_refl _, by omega, by omega, rfl, S0, (show Aside _ from fun j hj => by
      have : j = 0 := by omega
      subst this; rfl)⟩
    case round =>
      clear S0
      obtain ⟨k, hk1, hk, hg, rfl, S1, A⟩ := hrel
      by_cases hlt : k < d.size
      · obtain ⟨kp, rfl⟩ : ∃ q, k = q + 1 := ⟨k - 1, by omega⟩
        have hwp : IntKind.i64.wrap (kp : Int) = (kp : Int) := by rw [IntKind.wrap_i64]; omega
        have jz : (kp : Int) + 1 < (d.size : Int) := by omega
        have jz1 : (kp : Int) < (d.size : Int) := by omega
        have p0 : (0 : Int) ≤ (kp : Int) + 1 := by omega
        have e0 : ((kp : Int) + 1).toNat = kp + 1 := by omega
        have l1 := S1.out.cl RR.out rfl (kp + 1) hlt
        have l0 := S1.out.cl RR.out rfl kp (by omega)
        have hc := HC.out wr d S1.out rfl (kp + 1) kp hlt (by omega)
        generalize hx : d[kp + 1]! = x at l1 hc
        generalize hy : d[kp]! = y at l0 hc
        have B : Aside (d[kp + 1]! = x ∧ d[kp]! = y) := ⟨hx, hy⟩
        clear hx hy
        cases hv : eqf (kp + 1) kp with
        | true =>
          rw [hv] at hc
          go_wp2_with fail
          go_quiet_grown (first | (go_at_fn g; refine Calls.grown_of (hc _ _)))
          have S2 : Aside (SW enc w blk off d (grow (wr.drewN nq) osq)) := S1.out.grown nq osq
          clear l1 l0 hc S1
          generalize grow (wr.drewN nq) osq = w2 at S2 ⊢
          clear nq osq
          go_wp2
          have KI : Aside (KeptInv (kpf eqf) d (kp + 1 + 1) (kp + 1) d) := KeptInv.start A.out (by simp [kpf, hv])
          clear A
          go_loopg [5, 7] d.size (fun gg s5 s7 wr => ∃ (kk k2 : Nat) (dk : Array α), s5 = .int .i64 kk ∧ s7 = .int .i64 k2 ∧ 1 ≤ k2 ∧ kp + 1 + k2 ≤ d.size ∧ d.size - (kp + 1 + k2) ≤ gg ∧ Aside (SW enc w blk off dk wr) ∧ Aside (KeptInv (kpf eqf) d (kp + 1 + k2) kk dk))
          case atStart => exact ⟨kp + 1, 1, d, by go_num, rfl, Nat.le_refl _, by omega, by omega, S2, KI⟩
          case round =>
            clear S2 KI B
            obtain ⟨kk, k2, dk, rfl, rfl, h1, hle, hg2, S3, I2⟩ := hrel
            have hkk := I2.out.lt
            have hds := I2.out.size
            by_cases hlt2 : kp + 1 + k2 < d.size
            · obtain ⟨m, rfl⟩ : ∃ q, k2 = q + 1 := ⟨k2 - 1, by omega⟩
              have iwp : IntKind.i64.wrap (m : Int) = (m : Int) := by rw [IntKind.wrap_i64]; omega
              have iz : (m : Int) + 1 < ((d.size - (kp + 1) : Nat) : Int) := by omega
              have iz1 : (m : Int) < ((d.size - (kp + 1) : Nat) : Int) := by omega
              have i0 : (0 : Int) ≤ (m : Int) + 1 := by omega
              have ie0 : ((m : Int) + 1).toNat = m + 1 := by omega
              have l1 := S3.out.cl RR.out hds (kp + 1 + (m + 1)) (by omega)
              have l0 := S3.out.cl RR.out hds (kp + 1 + m) (by omega)
              rw [I2.out.high _ (by omega)] at l1 l0
              have hc := HC.out wr dk S3.out hds (kp + 1 + (m + 1)) (kp + 1 + m) (by omega) (by omega)
              generalize hx : d[kp + 1 + (m + 1)]! = x at l1 hc
              generalize hy : d[kp + 1 + m]! = y at l0 hc
              have B : Aside (d[kp + 1 + (m + 1)]! = x) := hx
              clear hx hy
              rw [show off + (kp + 1 + (m + 1)) = off + (kp + 1) + (m + 1) by omega] at l1
              rw [show off + (kp + 1 + m) = off + (kp + 1) + m by omega] at l0
              cases hv2 : eqf (kp + 1 + (m + 1)) (kp + 1 + m) with
              | true =>
                rw [hv2] at hc
                go_wp2_with fail
                go_quiet_grown (first | (go_at_fn g; refine Calls.grown_of (hc _ _)))
                have S4 : Aside (SW enc w blk off dk (grow (wr.drewN nq) osq)) := S3.out.grown nq osq
                clear l1 l0 hc S3
                generalize grow (wr.drewN nq) osq = w4 at S4 ⊢
                clear nq osq
                go_wp2
                go_roundg (d.size - (kp + 1 + (m + 1 + 1)))
                case measure => omega
                case rel => exact ⟨kk, m + 1 + 1, dk, rfl, by go_num, by omega, by omega, Nat.le_refl _, S4, I2.out.skip (by simp [kpf]; exact hv2)⟩
              | false =>
                rw [hv2] at hc
                go_wp2_with fail
                go_quiet_grown (first | (go_at_fn g; refine Calls.grown_of (hc _ _)))
                have S4 : Aside (SW enc w blk off dk (grow (wr.drewN nq) osq)) := S3.out.grown nq osq
                clear l1 l0 hc S3
                generalize grow (wr.drewN nq) osq = w4 at S4 ⊢
                clear nq osq
                have cm := S4.out.c1 RR.out hds (kp + 1 + (m + 1)) (by omega)
                rw [I2.out.high _ (by omega), B.out, show off + (kp + 1 + (m + 1)) = off + (kp + 1) + (m + 1) by omega] at cm
                have ck := S4.out.c1 RR.out hds kk (by omega)
                have fk := S4.out.f1 RR.out hds kk (by omega)
                generalize dk[kk]! = old at ck
                have kz : (kk : Int) < (d.size : Int) := by omega
                go_wp2
                go_roundg (d.size - (kp + 1 + (m + 1 + 1)))
                case measure => omega
                case rel => exact ⟨kk + 1, m + 1 + 1, dk.setIfInBounds kk x, by go_num, by go_num, by omega, by omega, Nat.le_refl _, (show Aside _ from V.SW.put S4.out hblk kk x (by omega)), (by
                  have := I2.out.keep hlt2 (by simp [kpf]; exact hv2)
                  rwa [B.out] at this)⟩
            · have hend : kp + 1 + k2 = d.size := by omega
              have iz : ¬ (k2 : Int) < ((d.size - (kp + 1) : Nat) : Int) := by omega
              have kz : (kk : Int) ≤ (d.size : Int) := by omega
              have hI := I2.out
              rw [hend] at hI
              have hcl : ∀ ty, (Builtin.clear_ #[153] ty #[.slice (some ⟨blk, off + kk, none⟩) (d.size - kk) (cap - kk)]).run Tryz.prog wr = .ok (.tuple #[]) (wr.setCells blk (off + kk) (List.replicate (d.size - kk) (enc zr))) :=
                fun ty => Lib.run_clear_slice wr _ _ ty _ Tryz.underlying153 (fun w => by rw [hz]; exact Tryz.zeroValue28 w) (RR.out.hO.cells zr) (RR.out.hO zr) blk (off + kk) _ _ (by omega) (fun j hj => by rw [show off + kk + j = off + (kk + j) by omega, S3.out.c1 RR.out hds (kk + j) (by omega)]; rfl) (fun j hj => by rw [show off + kk + j = off + (kk + j) by omega]; exact S3.out.f1 RR.out hds (kk + j) (by omega))
              have SF : Aside (SW enc w blk off (keptUpTo (kpf eqf) d d.size ++ List.replicate (d.size - kk) zr).toArray (wr.setCells blk (off + kk) (List.replicate (d.size - kk) (enc zr)))) := by
                have := V.SW.puts S3.out hblk kk (List.replicate (d.size - kk) zr) (by simp; omega)
                rw [hI.done zr, List.map_replicate] at this
                exact this
              have LE : Aside ((keptUpTo (kpf eqf) d d.size).length = kk) := hI.len
              clear hI I2 S3
              go_wp2
              go_ret
              refine ⟨by rw [LE.out]; rfl, by rw [LE.out, ← hz]; exact SF.out⟩
        | false =>
          go_wp2_with fail
          rw [hv] at hc
          go_quiet_grown (first | (go_at_fn g; refine Calls.grown_of (hc _ _)))
          have S2 : Aside (SW enc w blk off d (grow (wr.drewN nq) osq)) := S1.out.grown nq osq
          clear l1 l0 hc S1
          generalize grow (wr.drewN nq) osq = w2 at S2 ⊢
          clear nq osq
          go_wp2
          go_roundg (d.size - (kp + 1 + 1))
          case measure => omega
          case rel =>
            refine ⟨kp + 1 + 1, by omega, by omega, Nat.le_refl _, by go_num, S2, (show Aside _ from fun j hj => ?_)⟩
            by_cases e : j = kp + 1
            · subst e; simp [kpf, hv]
            · exact A.out j (by omega)
      · have : k = d.size := by omega
        subst this
        go_wp2
        go_ret
        obtain ⟨e1, e2⟩ := HS.out A.out
        exact ⟨by rw [e1]; rfl, by rw [e2]; exact S1.out⟩
end Go.Proofs.YtmfifjbbjjdacaaGreat.V

namespace Go.Proofs.YtmfifjbbjjdacaaGreat.V
open Go
set_option linter.unusedVariables false
theorem upd_app {α : Type} (f : Nat → α) (i : Nat) (x : α) (j : Nat) : upd f i x j = if j = i then x else f j := rfl
attribute [simp] opsV stepV wantV opV evalO constV constT putV upd_app absorbR absorbL absorb Sto.new Sto.set Sto.e md AV.cells asT T.flat T.nz appendV rowsV resV resV1 Ends expR expA expL expAs exp1 loadV storeV storeN storeW rowsAt setAt natOf fillV reify reifyP reify1 VO.rows
  binV intV boundO slRows sliceT place placeA placeL placeAs place1 XV.sh XV.shA XV.sh1 ids ids1 AV.one chkP chkR chkH dk bfm freezeL freeze1 isBox Nat.testBit_eq_decide_div_mod_eq VS.on resL resO rv putL putT Nat.add_assoc
@[simp] theorem DrunF_nil (st : VS → Oper → Option VS) (bf : Nat → Nat → Bool) (rs : List (Nat × Nat × VO)) (i k : Nat) (s : VS) (pd : List (Nat × Oper × VS × VS)) (hs : List (Nat × Sto)) (p : Prop) : DrunF st bf rs [] i k s pd hs p = some (p, s) := by
  unfold DrunF; exact rfl
@[simp] theorem DrunF_cons (st : VS → Oper → Option VS) (bf : Nat → Nat → Bool) (rs : List (Nat × Nat × VO)) (o : Oper) (l : List Oper) (i k : Nat) (s : VS) (pd : List (Nat × Oper × VS × VS)) (hs : List (Nat × Sto)) (p : Prop) : DrunF st bf rs (o :: l) i k s pd hs p =
    (if dk o = 3 then match putV s o.dst (rv o k) s.σ with
      | some s1 => DrunF st bf rs l (i + 1) (k + 1) s1 pd hs p
      | none => none
    else match st s o with
      | some s1 => if dk o = 2 then DrunF st bf rs l (i + 1) k s1 pd ((i, s.σ) :: hs) (chkR bf i s1.σ rs (chkP st bf i s1.σ pd p))
        else if dk o = 1 then DrunF st bf rs l (i + 1) k s1 ((i, o, s, s1) :: pd) hs (chkH st bf i o s s1 hs p)
        else DrunF st bf rs l (i + 1) k s1 pd hs p
      | none => none) := by
  conv => lhs; unfold DrunF
  try (cases st s o <;> rfl)
theorem wrap_ok {n : Int} (h1 : -9223372036854775808 ≤ n) (h2 : n < 9223372036854775808) : IntKind.i64.wrap n = n := by
  rw [IntKind.wrap_i64]; omega
theorem wrap_succ {n : Nat} (h : n < 4611686018427387904) : IntKind.i64.wrap ((n : Int) + 1) = (n : Int) + 1 := wrap_ok (by omega) (by omega)
theorem map_take_snoc {α β : Type} (f : α → β) (l : List α) (i : Nat) (h : i < l.length) : (l.take (i + 1)).map f = (l.take i).map f ++ [f l[i]] := by
  rw [List.take_succ_eq_append_getElem h, List.map_append]; rfl
/-- Lean's values in cells. -/
class Enc (α : Type) where
  cells : α → List T
  n : Nat
  flat : Bool
  len : ∀ a, (cells a).length = n
  flt : flat = true → ∀ a, (cells a).all T.flat = true
def rowsE {α : Type} [Enc α] (l : List α) : List (List T) := l.map Enc.cells
section
variable {α : Type} [Enc α]
@[simp] theorem rowsE_len (l : List α) : (rowsE l).length = l.length := by simp [rowsE]
@[simp] theorem rowsE_nil : rowsE ([] : List α) = [] := rfl
@[simp] theorem rowsE_all (l : List α) (k : Nat) (h : Enc.n α = k) : (rowsE l).all (fun r => r.length == k) = true := by
  subst h; simp [rowsE, Enc.len]
@[simp] theorem rowsE_all2 (l : List α) (k : Nat) (h : Enc.n α = k) : (∀ x ∈ rowsE l, x.length = k) = True := by
  subst h; simp [rowsE, Enc.len]
@[simp] theorem rowsE_flat (l : List α) (h : Enc.flat α = true) : flatR (rowsE l) = true := by
  simp only [flatR, rowsE, List.all_map, List.all_eq_true]
  intro x _; have := Enc.flt h x; simpa using this
@[simp] theorem rowsE_get (l : List α) (i : Nat) (h : i < (rowsE l).length) : (rowsE l)[i] = Enc.cells (l[i]'(by rw [rowsE_len] at h; exact h)) := by simp [rowsE]
theorem rowsE_take (l : List α) (i : Nat) (h : i < l.length) : rowsE (l.take (i + 1)) = rowsE (l.take i) ++ [Enc.cells l[i]] := map_take_snoc _ l i h
theorem rowsE_append (l m : List α) : rowsE (l ++ m) = rowsE l ++ rowsE m := by simp [rowsE]
end
instance : Enc Int := ⟨fun n => [.i .i64 n], 1, true, fun _ => rfl, fun _ _ => rfl⟩
instance : Enc Bool := ⟨fun n => [.b n], 1, true, fun _ => rfl, fun _ _ => rfl⟩
instance : Enc ByteArray := ⟨fun n => [.s n], 1, true, fun _ => rfl, fun _ _ => rfl⟩
instance {α : Type} [Enc α] : Enc (List α) := ⟨fun l => [.sl (rowsE l)], 1, false, fun _ => rfl, fun h => by cases h⟩
@[simp] theorem cells_int (n : Int) : Enc.cells n = [.i .i64 n] := rfl
@[simp] theorem cells_bool (n : Bool) : Enc.cells n = [.b n] := rfl
@[simp] theorem cells_str (n : ByteArray) : Enc.cells n = [.s n] := rfl
@[simp] theorem cells_list {α : Type} [Enc α] (l : List α) : Enc.cells l = [.sl (rowsE l)] := rfl
@[simp] theorem n_int : Enc.n Int = 1 := rfl
@[simp] theorem n_bool : Enc.n Bool = 1 := rfl
@[simp] theorem n_str : Enc.n ByteArray = 1 := rfl
@[simp] theorem n_list {α : Type} [Enc α] : Enc.n (List α) = 1 := rfl
@[simp] theorem f_int : Enc.flat Int = true := rfl
@[simp] theorem f_bool : Enc.flat Bool = true := rfl
@[simp] theorem f_str : Enc.flat ByteArray = true := rfl
/-- A relation's name and its arguments: an atom, a fact. -/
structure RA where
  rel : Int
  args : List Int
  deriving DecidableEq
instance : Enc RA := ⟨fun a => [.i .i64 a.rel, .sl (rowsE a.args)], 2, false, fun _ => rfl, fun h => by cases h⟩
@[simp] theorem cells_RA (a : RA) : Enc.cells a = [.i .i64 a.rel, .sl (rowsE a.args)] := rfl
@[simp] theorem n_RA : Enc.n RA = 2 := rfl
structure Qry where
  head : List Int
  body : List RA
  deriving DecidableEq
instance : Enc Qry := ⟨fun a => [.sl (rowsE a.head), .sl (rowsE a.body)], 2, false, fun _ => rfl, fun h => by cases h⟩
@[simp] theorem cells_Q (a : Qry) : Enc.cells a = [.sl (rowsE a.head), .sl (rowsE a.body)] := rfl
@[simp] theorem n_Q : Enc.n Qry = 2 := rfl
structure Cnt where
  tuple : List Int
  count : Int
  deriving DecidableEq
instance : Enc Cnt := ⟨fun a => [.sl (rowsE a.tuple), .i .i64 a.count], 2, false, fun _ => rfl, fun h => by cases h⟩
@[simp] theorem cells_Cnt (a : Cnt) : Enc.cells a = [.sl (rowsE a.tuple), .i .i64 a.count] := rfl
@[simp] theorem n_Cnt : Enc.n Cnt = 2 := rfl
/-- An argument that is only read. -/
abbrev Ar {α : Type} [Enc α] (l : List α) : AV := .t (.sl (rowsE l))
/-- A struct that is only read. -/
def Ag {α : Type} [Enc α] (a : α) : AV := .agg ((Enc.cells a).map .t)
abbrev In (n : Int) : AV := .t (.i .i64 n)
abbrev Bo (x : Bool) : AV := .t (.b x)
end Go.Proofs.YtmfifjbbjjdacaaGreat.V

namespace Go.Proofs.YtmfifjbbjjdacaaGreat.V
open Go Go.RowKit Go.Deep Go.ChangeShapes Go.WideShapes
set_option linter.unusedVariables false
/-- Old blocks. -/
def Old (w : World) : Nat → Prop := fun b => b < w.heap.size
def RepL (h : Heap) (Z : Nat → Prop) (cs : List Value) (ts : List T) : Prop := cs.length = ts.length ∧ ∀ (k : Nat) (u : Value) (x : T), cs[k]? = some u → ts[k]? = some x → Rep h Z u x
theorem RepL.one {h : Heap} {Z : Nat → Prop} {u : Value} {x : T} (H : Rep h Z u x) : RepL h Z [u] [x] := ⟨rfl, fun k v y hv hy => by
  cases k with
  | zero => cases hv; cases hy; exact H
  | succ k => simp at hv⟩
theorem RepL.append {h : Heap} {Z : Nat → Prop} {a b : List Value} {c d : List T} (H : RepL h Z a c) (K : RepL h Z b d) : RepL h Z (a ++ b) (c ++ d) := by
  refine ⟨by simp [H.1, K.1], fun k u x hu hx => ?_⟩
  rw [List.getElem?_append] at hu hx
  by_cases hk : k < a.length
  · rw [if_pos hk] at hu; rw [if_pos (by rw [← H.1]; exact hk)] at hx; exact H.2 k u x hu hx
  · rw [if_neg hk] at hu; rw [if_neg (by rw [← H.1]; exact hk), ← H.1] at hx; exact K.2 _ u x hu hx
/-- Whatever reads as data of type t is a value a, and Q holds of it. -/
def Rdv {α : Type} [Enc α] (P : Program) (w : World) (t : TypeId) (Q : α → Prop) : Prop :=
  ∀ (H : Type) (enc : TypeId × Value → H) (fuel : Nat) (cs : List Value) (x : DataW H × List MemPlace),
    DataW.trod enc P w 0 (fun _ => true) true fuel t cs = some x → ∃ a : α, RepL w.heap (Old w) cs (Enc.cells a) ∧ Q a
variable {α β : Type} [Enc α] [Enc β] {P : Program} {w : World} {t e : TypeId}
theorem rd_int (ht : P.underlying t = some (.int .i64)) : Rdv P w t (fun n : Int => (Lit.int .i64 n).wf = true) := by
  intro H enc fuel cs x h
  obtain ⟨n, rfl, _, hw⟩ := DataW.trod_int ht h
  exact ⟨n, .one (.i _ _), hw⟩
theorem cell_old {a : Addr} {v : Value} (h : w.cell? a = some v) : a.spot = none ∧ ∃ cells e fz, w.heap[a.block]? = some (.cells cells e fz) ∧ cells[a.off]? = some v := by
  unfold World.cell? at h
  split at h
  · rename_i c e fz hb
    split at h
    · cases h
    · rename_i hs
      exact ⟨by simpa using hs, c, e, fz, hb, h⟩
  · cases h
theorem rd_slice {Q : α → Prop} (ht : P.underlying t = some (.slice e)) (hc : P.cellsOf e = Enc.n α) (hn : 0 < Enc.n α) (hd : Rdv P w e Q) :
    Rdv P w t (fun xs : List α => xs.length ≤ maxLen ∧ ∀ x ∈ xs, Q x) := by
  classical
  intro H enc fuel cs x h
  rcases open_slice ht h with ⟨rfl, _⟩ | ⟨a, len, cap, m, n, D, Pl, rfl, _, hl, hm, hmm, _, hx⟩
  · exact ⟨[], .one .sl0, by simp, by simp⟩
  · have hm' : m = cap := by simpa using hmm
    have hX : ∀ i, i < cap → ∃ x : α, ∃ cs', w.cells? 0 (a.add (i * Enc.n α)) (Enc.n α) = some cs' ∧ RepL w.heap (Old w) cs' (Enc.cells x) ∧ Q x := by
      intro i hi
      obtain ⟨cs', h1, h2⟩ := hx i (by omega)
      obtain ⟨y, hk, hq⟩ := hd H enc n cs' _ h2
      rw [hc] at h1
      exact ⟨y, cs', h1, hk, hq⟩
    rcases Nat.eq_zero_or_pos cap with h0 | h0
    · have : len = 0 := by omega
      subst h0; subst this
      exact ⟨[], .one (.sl1 a), by simp, by simp⟩
    · have hc0 : ∀ i j, i < cap → j < Enc.n α → ∃ v, w.cell? (a.add (i * Enc.n α + j)) = some v := fun i j hi hj => by
        obtain ⟨_, cs', h1, _⟩ := hX i hi
        obtain ⟨_, _, hcell⟩ := World.cells?_some h1
        have hj' := hcell j hj
        rw [Addr.add_add] at hj'
        obtain ⟨_, hlen, _⟩ := World.cells?_some h1
        exact ⟨_, hj'.trans (List.getElem?_eq_getElem (by omega))⟩
      obtain ⟨v0, hv0⟩ := hc0 0 0 h0 hn
      rw [Nat.zero_mul, Nat.add_zero, show a.add 0 = a from rfl] at hv0
      obtain ⟨hsp, cells, el, fz, hb, _⟩ := cell_old hv0
      obtain ⟨bl, off, sp⟩ := a
      have hsp' : sp = none := hsp
      subst hsp'
      have hb' : w.heap[bl]? = some (.cells cells el fz) := hb
      have hold : Old w bl := (Array.getElem?_eq_some_iff.1 hb').1
      obtain ⟨x0, _⟩ := hX 0 h0
      haveI : Inhabited α := ⟨x0⟩
      let X : Nat → α := fun i => if hi : i < cap then (hX i hi).choose else x0
      have hX' : ∀ i, i < cap → ∃ cs', w.cells? 0 (Addr.add ⟨bl, off, none⟩ (i * Enc.n α)) (Enc.n α) = some cs' ∧ RepL w.heap (Old w) cs' (Enc.cells (X i)) ∧ Q (X i) := fun i hi => by
        simp only [X, dif_pos hi]; exact (hX i hi).choose_spec
      have hlen : ((List.range len).map X).length = len := by simp
      have hval : ∀ i j, i < cap → j < Enc.n α → ∃ v, cells[off + (i * Enc.n α + j)]? = some v ∧ ∀ t, (Enc.cells (X i))[j]? = some t → Rep w.heap (Old w) v t := fun i j hi hj => by
        obtain ⟨cs', h1, h2, _⟩ := hX' i hi
        obtain ⟨_, hl', hcell⟩ := World.cells?_some h1
        have hj' := hcell j hj
        rw [Addr.add_add, add_lit] at hj'
        have hlt : j < cs'.length := by omega
        rw [List.getElem?_eq_getElem hlt] at hj'
        obtain ⟨_, c2, e2, f2, hb2, hv2⟩ := cell_old hj'
        have hb2' : w.heap[bl]? = some (.cells c2 e2 f2) := hb2
        rw [hb'] at hb2'
        cases hb2'
        exact ⟨_, hv2, fun t ht => h2.2 j _ t (List.getElem?_eq_getElem hlt) ht⟩
      refine ⟨(List.range len).map X, .one ?_, by rw [hlen]; omega, fun x hx => ?_⟩
      · have hrl : (rowsE ((List.range len).map X)).length = len := by simp
        have hrow : ∀ (i : Nat) (r : List T), (rowsE ((List.range len).map X))[i]? = some r → i < len ∧ r = Enc.cells (X i) := fun i r hr => by
          have hi : i < len := by have := (List.getElem?_eq_some_iff.1 hr).1; omega
          refine ⟨hi, ?_⟩
          simp [rowsE, hi] at hr
          exact hr.symm
        have := Rep.sl (h := w.heap) (Z := Old w) bl off cap (Enc.n α) cells el fz (fun i j => (cells[off + (i * Enc.n α + j)]?).getD default) (rowsE ((List.range len).map X)) hold hb' (by omega)
          (fun r hr => by
            obtain ⟨i, hi, rfl⟩ := List.mem_iff_getElem.1 hr
            rw [(hrow i _ (List.getElem?_eq_getElem hi)).2]; exact Enc.len _)
          (fun i r j t hi hj => by
            obtain ⟨h1, rfl⟩ := hrow i r hi
            have hj' : j < Enc.n α := by have := (List.getElem?_eq_some_iff.1 hj).1; rwa [Enc.len] at this
            obtain ⟨v, h3, _⟩ := hval i j (by omega) hj'
            rw [h3]; rfl)
          (fun i r j t hi hj => by
            obtain ⟨h1, rfl⟩ := hrow i r hi
            have hj' : j < Enc.n α := by have := (List.getElem?_eq_some_iff.1 hj).1; rwa [Enc.len] at this
            obtain ⟨v, h3, h4⟩ := hval i j (by omega) hj'
            rw [h3]; exact h4 t hj)
        rw [hrl] at this
        exact this
      · obtain ⟨i, hi, rfl⟩ := List.mem_map.1 hx
        exact (hX' i (by have := List.mem_range.1 hi; omega)).choose_spec.2.2
theorem rd_struct1 {γ : Type} [Enc γ] {f0 : Field} {Q0 : α → Prop} (mk : α → γ) (hmk : ∀ a, Enc.cells (mk a) = Enc.cells a) (ht : P.underlying t = some (.struct #[f0])) (h0 : f0.offset = 0) (z : P.cellsOf t = Enc.n α) (z0 : P.cellsOf f0.type = Enc.n α)
    (o0 : Rdv P w f0.type Q0) : Rdv P w t (fun c : γ => ∃ a, c = mk a ∧ Q0 a) := by
  intro H enc fuel cs x hx
  obtain ⟨y0, n, rfl, hl, h1⟩ := trod_struct1 ht hx
  obtain ⟨a, hk, hq⟩ := o0 H enc n _ y0 h1
  rw [h0, List.drop_zero, List.take_of_length_le (by omega)] at hk
  exact ⟨mk a, by rw [hmk]; exact hk, a, rfl, hq⟩
theorem rd_struct2 {γ : Type} [Enc γ] {f0 f1 : Field} {Q0 : α → Prop} {Q1 : β → Prop} (mk : α → β → γ) (hmk : ∀ a b, Enc.cells (mk a b) = Enc.cells a ++ Enc.cells b) (ht : P.underlying t = some (.struct #[f0, f1])) (h0 : f0.offset = 0) (h1 : f1.offset = Enc.n α)
    (z : P.cellsOf t = Enc.n α + Enc.n β) (z0 : P.cellsOf f0.type = Enc.n α) (z1 : P.cellsOf f1.type = Enc.n β)
    (o0 : Rdv P w f0.type Q0) (o1 : Rdv P w f1.type Q1) : Rdv P w t (fun c : γ => ∃ a b, c = mk a b ∧ Q0 a ∧ Q1 b) := by
  intro H enc fuel cs x hx
  obtain ⟨y0, y1, n, rfl, hl, g0, g1⟩ := trod_struct2 ht hx
  obtain ⟨a, hk, hq⟩ := o0 H enc n _ y0 g0
  obtain ⟨b, hk1, hq1⟩ := o1 H enc n _ y1 g1
  rw [h0, List.drop_zero, z0] at hk
  rw [h1, z1, List.take_of_length_le (by simp; omega)] at hk1
  refine ⟨mk a b, ?_, a, b, rfl, hq, hq1⟩
  rw [hmk, ← List.take_append_drop (Enc.n α) cs]
  exact hk.append hk1
theorem rd_of {Q : α → Prop} {H : Type} {enc : TypeId × Value → H} {v : Value} {dd : DataW H} {ps : List MemPlace} (h : Rdv P w t Q) (hx : DataW.Trod enc P w 0 (fun _ => true) true t v dd ps) :
    ∃ a, RepL w.heap (Old w) v.cells.toList (Enc.cells a) ∧ Q a := by
  obtain ⟨fuel, hf⟩ := hx
  exact h H enc fuel _ _ hf
theorem av_agg {ob : Nat → VO} {bt : Nat → BI} {C : Nat → Prop} {h : Heap} {Z : Nat → Prop} {cs : Array Value} {ts : List T} (H : RepL h Z cs.toList ts) : AVRel ob bt C h Z (.agg cs) (.agg (ts.map .t)) := by
  refine .agg _ _ (by simpa using H.1) fun i v a hv ha => ?_
  rw [List.getElem?_map, Option.map_eq_some_iff] at ha
  obtain ⟨x, hx, rfl⟩ := ha
  exact .t _ _ (H.2 i v x (by simpa using hv) hx)
theorem RelL.nil {ob : Nat → VO} {bt : Nat → BI} {C : Nat → Prop} {h : Heap} {Z : Nat → Prop} : RelL ob bt C h Z [] [] := ⟨rfl, fun k u x hu => by simp at hu⟩
theorem RelL.cons {ob : Nat → VO} {bt : Nat → BI} {C : Nat → Prop} {h : Heap} {Z : Nat → Prop} {v : Value} {a : AV} {vs : List Value} {as_ : List AV} (H : AVRel ob bt C h Z v a) (K : RelL ob bt C h Z vs as_) : RelL ob bt C h Z (v :: vs) (a :: as_) :=
  ⟨by simp [K.1], fun k u x hu hx => by
    cases k with
    | zero => simp at hu hx; subst hu; subst hx; exact H
    | succ k => exact K.2 k u x (by simpa using hu) (by simpa using hx)⟩
/-- The law, at last: it says true, and what was there stays. -/
theorem law_done {M : Nat → Bool} {G : Giv} (hm : P.follows .mixedOrders = true) (hG : GivOk P G) {f : Nat} {as_ : List AV} {vals : Array Value} (H : Ret (Rv P M G) f as_ (.t (.b true) false))
    (hv : RelL Sto.e.ob (fun _ => ⟨0, 0, 0, false⟩) (fun _ => False) w.heap (Old w) vals.toList as_) : Calls P f vals w (fun e w' => e = .returned (.bool true) ∧ Below w.heap.size w w') := by
  obtain ⟨r, σ1, h1, h2⟩ := H
  have hr : r = .t (.b true) := by
    cases r with
    | t x =>
      simp only [expR, expA, exp1, Option.map_some, Option.some.injEq, XV.t.injEq] at h2
      cases x with
      | b y => simp only [T.nz, T.b.injEq] at h2; rw [h2.1]
      | _ => simp [T.nz] at h2
    | tup l => simp only [expR, Option.map_eq_some_iff] at h2; obtain ⟨_, _, h⟩ := h2; cases h
    | agg l => simp only [expR, expA, Option.map_map, Option.map_eq_some_iff] at h2; obtain ⟨_, _, h⟩ := h2; cases h
    | ref o v p =>
      exfalso
      simp only [expR, expA, exp1] at h2
      revert h2
      (repeat' split) <;> simp
    | _ => simp [expR, expA, exp1] at h2
  subst hr
  have hO : OraOk P (Rv P M G) := R_ok drawV_go hG fun X hX => drawV_ok hm hX
  obtain ⟨_, hc⟩ := hO f as_ Sto.e _ σ1 h1
  have hR := Rel.empty w.heap (Old w) (fun b hb => hb) (fun _ => ⟨0, 0, 0, false⟩)
  refine (hc hR (fun _ _ h => h) hv).mono ?_
  rintro e w' ⟨val, rfl, ⟨β', C', Z', own', A, _, _, hval⟩, hw⟩
  have h3 := hval.tInv
  cases h3
  exact ⟨rfl, hw.1, hw.2.1, hw.2.2.1, A.good.sz, fun k hk => A.good.keep k hk rfl⟩
end Go.Proofs.YtmfifjbbjjdacaaGreat.V

namespace Go.Proofs.YtmfifjbbjjdacaaGreat.V
open Go Go.Proofs Go.RowKit Go.Shelf Go.Sort
set_option linter.unusedVariables false
/-- The sort's contract, at elements of k cells. -/
def SortCon (P : Program) (fs k : Nat) (pv : List Value → Value) : Prop :=
  (∀ (p : Option Addr) (cap : Nat) (fv : Value) (w : World), Calls P fs #[.slice p 0 cap, fv] w fun e w' => e = .returned (.tuple #[]) ∧ w' = w) ∧
  ∀ (n : Nat) [Inhabited (Fin n)] (enc : Fin n → List Value) (hk : ∀ x, (enc x).length = k) (h1 : ∀ x, ∀ v ∈ enc x, v.oneCell' = true) (cf : Fin n → Fin n → Int) (hO : SWO (ltOf cf)) (g : Nat) (blk off cap : Nat) (w : World)
    (eg : ∀ args w, (callFunc g args).run P w = .ok (.enter g args) w)
    (hcmp : ∀ (m : Nat) (os : Array Obj) (dk : Array (Fin n)), dk.size = n → ∀ x y : Fin n, Calls P g #[pv (enc x), pv (enc y)] (sortWorldK enc k w blk off m dk os) fun e w' => e = .returned (.int .i64 (cf x y)) ∧ ∃ q os', w' = grow ((sortWorldK enc k w blk off m dk os).drewN q) os')
    (hH : HoldsK enc k w blk off (Array.ofFn fun i : Fin n => i)) (hblk : blk < w.heap.size) (hsz : n < 4611686018427387904),
    Calls P fs #[.slice (some ⟨blk, off, none⟩) n cap, .func (.func g) #[] #[]] w fun e w' =>
      e = .returned (.tuple #[]) ∧ ∃ (d' : Array (Fin n)) (m : Nat) (os : Array Obj), PermIn 0 n (Array.ofFn fun i : Fin n => i) d' ∧ SortedIn (ltOf cf) 0 n d' ∧ w' = sortWorldK enc k w blk off m d' os
section
variable {P : Program} {ρ : Ren}
theorem sortCon_K (L : SlLaysF0.n6 P ρ) (k : Nat) (aE : ∀ w, (isAgg (ρ.t 24)).run P w = .ok true w) (zE : ∀ w, (Go.sizeOf (ρ.t 24)).run P w = .ok k w) : SortCon P (ρ.f 6) k (fun us => .agg us.toArray) := by
  refine ⟨fun p cap fv w => AnyF.slices_SortFunc_none L p cap fv w, fun n _ enc hk h1 cf hO g blk off cap w eg hcmp hH hblk hsz => ?_⟩
  have hs : (Array.ofFn fun i : Fin n => i).size = n := by simp
  have h := AnyQ.slices_SortFunc L k aE zE enc hk h1 cf hO g #[] blk off cap (Array.ofFn fun i : Fin n => i) w eg (fun m os dk hdk x y => by rw [hs] at hdk; exact hcmp m os dk hdk x y) hH hblk (by rw [hs]; exact hsz)
  rw [hs] at h
  exact h
theorem putCells_map' {n : Nat} [Inhabited (Fin n)] (enc : Fin n → Value) (off : Nat) (dk : Array (Fin n)) : Sort.putCells enc off dk = Sort.putCells id off (dk.map enc) := by
  funext c
  unfold Sort.putCells
  apply Array.ext_getElem?
  intro t
  rw [Array.getElem?_mapIdx, Array.getElem?_mapIdx]
  cases c[t]? with
  | none => rfl
  | some y =>
    simp only [Option.map_some, Array.size_map, id]
    by_cases ht : off ≤ t ∧ t < off + dk.size
    · have h1 : t - off < dk.size := by omega
      have h2 : t - off < (dk.map enc).size := by simpa using h1
      rw [if_pos ht, if_pos ht, getElem!_pos dk _ h1, getElem!_pos (dk.map enc) _ h2, Array.getElem_map]
    · rw [if_neg ht, if_neg ht]
theorem flatK_one {n : Nat} [Inhabited (Fin n)] (enc : Fin n → List Value) (enc' : Fin n → Value) (he : ∀ x, enc x = [enc' x]) (dk : Array (Fin n)) : flatK enc 1 dk = dk.map enc' := by
  apply Array.ext_getElem?
  intro t
  by_cases ht : t < dk.size
  · have hlt : t < (flatK enc 1 dk).size := by rw [size_flatK, Nat.mul_one]; exact ht
    have e1 := getElem!_pos (flatK enc 1 dk) t hlt
    rw [Array.getElem?_eq_getElem hlt, ← e1, get_flatK _ _ _ _ (by rw [Nat.mul_one]; exact ht), Nat.div_one, Nat.mod_one, he]
    have e2 := getElem!_pos dk t ht
    rw [Array.getElem?_map, Array.getElem?_eq_getElem ht, e2]; rfl
  · rw [Array.getElem?_eq_none (by rw [size_flatK]; omega), Array.getElem?_eq_none (by simp; omega)]
theorem sortCon_1 (L : SlLaysF.n6 P ρ) : SortCon P (ρ.f 6) 1 (fun us => us.headD (.bool true)) := by
  refine ⟨fun p cap fv w => AnyF.slices_SortFunc_none { L with } p cap fv w, fun n _ enc hk h1 cf hO g blk off cap w eg hcmp hH hblk hsz => ?_⟩
  have hs : (Array.ofFn fun i : Fin n => i).size = n := by simp
  have he : ∀ x, enc x = [(enc x).headD (.bool true)] := fun x => by
    have := hk x
    match hh : enc x with
    | [] => rw [hh] at this; cases this
    | [u] => rfl
    | _ :: _ :: _ => rw [hh] at this; cases this
  have hw : ∀ m (dk : Array (Fin n)) os, sortWorldK enc 1 w blk off m dk os = sortWorld (fun x => (enc x).headD (.bool true)) w blk off m dk os := fun m dk os => by
    unfold sortWorldK sortWorld putRowK putRow
    rw [flatK_one enc _ he, ← putCells_map']
  have h := Any.slices_SortFunc L (fun x => (enc x).headD (.bool true)) (fun x => h1 x _ (by have := he x; rw [this]; simp)) cf hO g #[] blk off cap (Array.ofFn fun i : Fin n => i) w eg
    (fun m os dk hdk x y => by rw [hs] at hdk; have := hcmp m os dk hdk x y; rw [hw] at this; exact this)
    (fun t ht => by
      have := hH t (by rw [size_flatK, Nat.mul_one]; exact ht)
      rw [flatK_one enc _ he] at this
      rw [getElem!_pos _ t ht]
      rw [getElem!_pos _ t (by simpa using ht)] at this
      simpa using this) hblk (by rw [hs]; exact hsz)
  rw [hs] at h
  refine h.mono ?_
  rintro e w' ⟨rfl, d', m, os, h1, h2, h3⟩
  exact ⟨rfl, d', m, os, h1, h2, by rw [hw]; exact h3⟩
end
class EncI (α : Type) extends Enc α where
  inj : ∀ a b : α, Enc.cells a = Enc.cells b → a = b
theorem rowsE_inj {α : Type} [EncI α] : ∀ {l m : List α}, rowsE l = rowsE m → l = m
  | [], [], _ => rfl
  | [], _ :: _, h => by simp [rowsE] at h
  | _ :: _, [], h => by simp [rowsE] at h
  | a :: l, b :: m, h => by
    simp only [rowsE, List.map_cons, List.cons.injEq] at h
    rw [EncI.inj a b h.1, rowsE_inj (l := l) (m := m) h.2]
instance : EncI Int := { (inferInstance : Enc Int) with inj := fun a b h => by simpa [Enc.cells] using h }
instance {α : Type} [EncI α] : EncI (List α) := { (inferInstance : Enc (List α)) with inj := fun a b h => rowsE_inj (by simpa [Enc.cells] using h) }
theorem inj_RA (a b : RA) (h : Enc.cells a = Enc.cells b) : a = b := by
  cases a; cases b; simp [Enc.cells] at h; rw [h.1, rowsE_inj h.2]
theorem inj_Cnt (a b : Cnt) (h : Enc.cells a = Enc.cells b) : a = b := by
  cases a; cases b; simp [Enc.cells] at h; rw [h.2, rowsE_inj h.1]
instance : EncI RA := { (inferInstance : Enc RA) with inj := inj_RA }
instance : EncI Cnt := { (inferInstance : Enc Cnt) with inj := inj_Cnt }
section
variable {P : Program} {M : Nat → Bool} {G0 : Giv}
theorem expR_int {σ1 : Sto} {r : AV} {k : IntKind} {n : Int} (h2 : expR σ1 r = some (.t (.i k n) false)) : r = .t (.i k n) := by
  cases r with
  | t x =>
    simp only [expR, expA, exp1, Option.map_some, Option.some.injEq, XV.t.injEq] at h2
    cases x with
    | i k' n' => simp only [T.nz] at h2; rw [h2.1]
    | _ => simp [T.nz] at h2
  | tup l => simp only [expR, Option.map_eq_some_iff] at h2; obtain ⟨_, _, h⟩ := h2; cases h
  | agg l => simp only [expR, expA, Option.map_map, Option.map_eq_some_iff] at h2; obtain ⟨_, _, h⟩ := h2; cases h
  | ref o v p =>
    exfalso
    simp only [expR, expA, exp1] at h2
    revert h2
    (repeat' split) <;> simp
  | _ => simp [expR, expA, exp1] at h2
/-- A function that reads, called in Go: its answer, and the world only grew. -/
theorem calls_grow (hm : P.follows .mixedOrders = true) (hG : GivOk P G0) {f : Nat} {as_ : List AV} {k : IntKind} {n : Int} (H : Ret (Rv P M G0) f as_ (.t (.i k n) false)) {W : World} {Z : Nat → Prop} (hz : ∀ b, Z b → b < W.heap.size) {vals : Array Value}
    (hv : RelL Sto.e.ob (fun _ => ⟨0, 0, 0, false⟩) (fun _ => False) W.heap Z vals.toList as_) :
    (∃ fn, P.funcs[f]? = some fn ∧ fn.body.isSome = true ∧ (fn.name == "runtime.NumGoroutine") = false) ∧ Calls P f vals W (fun e w' => e = .returned (.int k n) ∧ ∃ q os', w' = grow (W.drewN q) os') := by
  obtain ⟨r, σ1, h1, h2⟩ := H
  have hr := expR_int h2
  subst hr
  have hO : OraOk P (Rv P M G0) := R_ok drawV_go hG fun X hX => drawV_ok hm hX
  obtain ⟨h0, hc⟩ := hO f as_ Sto.e _ σ1 h1
  refine ⟨h0, ?_⟩
  have hR := Rel.empty W.heap Z hz (fun _ => ⟨0, 0, 0, false⟩)
  refine (hc hR (fun _ _ h => h) hv).mono ?_
  rintro e w' ⟨val, rfl, ⟨β', C', Z', own', A, _, _, hval⟩, hw⟩
  have h3 := hval.tInv
  cases h3
  refine ⟨rfl, w'.drawn - W.drawn, w'.heap.extract W.heap.size w'.heap.size, ?_⟩
  have hh : w'.heap = W.heap ++ w'.heap.extract W.heap.size w'.heap.size := by
    apply Array.ext_getElem?
    intro i
    rcases Nat.lt_or_ge i W.heap.size with hi | hi
    · rw [Array.getElem?_append_left hi, A.good.keep i hi rfl]
    · rw [Array.getElem?_append_right hi, Array.getElem?_extract]
      have := A.good.sz
      split
      · congr 1; omega
      · rw [Array.getElem?_eq_none (by omega)]
  obtain ⟨hp, tp, dr, os, out⟩ := w'
  obtain ⟨hw1, hw2, hw3, hw4⟩ := hw
  simp only at hw1 hw2 hw3 hw4 hh
  subst hw1; subst hw2; subst hw3
  simp only [grow, World.drewN]
  rw [← hh]
  congr 1
  omega
theorem heap_sortWorldK {n : Nat} [Inhabited (Fin n)] {enc : Fin n → List Value} {k : Nat} {w : World} {blk off m : Nat} {dk : Array (Fin n)} {os : Array Obj} {cur : Array Value} {e : TypeId} (hb : w.heap[blk]? = some (.cells cur e (0, 0))) :
    w.heap.size ≤ (sortWorldK enc k w blk off m dk os).heap.size ∧ (∀ b, b < w.heap.size → b ≠ blk → (sortWorldK enc k w blk off m dk os).heap[b]? = w.heap[b]?) ∧ (sortWorldK enc k w blk off m dk os).heap[blk]? = some (.cells (putCells id off (flatK enc k dk) cur) e (0, 0)) := by
  have hlt : blk < w.heap.size := (Array.getElem?_eq_some_iff.1 hb).1
  have hh : (sortWorldK enc k w blk off m dk os).heap = w.heap.modify blk (Sort.onCells (putCells id off (flatK enc k dk))) ++ os := rfl
  refine ⟨by rw [hh]; simp, fun b hbl hne => ?_, ?_⟩
  · rw [hh, Array.getElem?_append_left (by simpa using hbl), Array.getElem?_modify, if_neg (fun h => hne h.symm)]
  · rw [hh, Array.getElem?_append_left (by simpa using hlt), Array.getElem?_modify, if_pos rfl, hb]
    rfl
theorem inj_of_nodup' {β : Type} {l : List β} (h : l.Nodup) {i j : Nat} (hi : i < l.length) (hj : j < l.length) (e : l[i] = l[j]) : i = j := by
  rcases Nat.lt_trichotomy i j with h1 | h1 | h1
  · exact absurd e (List.pairwise_iff_getElem.1 h i j hi hj h1)
  · exact h1
  · exact absurd e.symm (List.pairwise_iff_getElem.1 h j i hj hi h1)
theorem ofFn_nodup' (n : Nat) : (List.ofFn (fun i : Fin n => i)).Nodup := by
  refine List.pairwise_iff_getElem.2 fun i j hi hj hij e => ?_
  simp only [List.getElem_ofFn] at e
  have := congrArg Fin.val e
  simp at this
  omega
theorem ofFn_map' {β : Type} (xs : List β) : (List.ofFn (fun i : Fin xs.length => i)).map (fun i => xs[i.val]) = xs := by
  apply List.ext_getElem
  · simp
  · intro i h1 h2
    simp
theorem one_cell {v : Value} (h : oneV v = true) : v.oneCell' = true := by cases v <;> first | rfl | cases h
end
end Go.Proofs.YtmfifjbbjjdacaaGreat.V

namespace Go.Proofs.YtmfifjbbjjdacaaGreat.V
open Go Go.Proofs
set_option linter.unusedVariables false
set_option linter.unusedSectionVars false
/-- -1, 0 or 1: by the first number that differs; a list comes before longer ones that begin with it. -/
def cmpI : List Int → List Int → Int
  | [], [] => 0
  | [], _ :: _ => -1
  | _ :: _, [] => 1
  | a :: l, b :: m => if a < b then -1 else if b < a then 1 else cmpI l m
theorem cmp_self : ∀ a : List Int, cmpI a a = 0
  | [] => rfl
  | x :: a => by rw [cmpI, if_neg (by omega), if_neg (by omega)]; exact cmp_self a
theorem cmp_trans : ∀ a b c : List Int, cmpI a b < 0 → cmpI b c < 0 → cmpI a c < 0
  | [], [], _, h, _ => by simp [cmpI] at h
  | _, _ :: _, [], _, h => by simp [cmpI] at h
  | [], _ :: _, _ :: _, _, _ => by simp [cmpI]
  | _ :: _, [], _, h, _ => by simp [cmpI] at h
  | x :: a, y :: b, z :: c, h1, h2 => by
    rw [cmpI] at h1 h2 ⊢
    split at h1
    · split at h2
      · rw [if_pos (by omega)]; omega
      · split at h2
        · omega
        · rw [if_pos (by omega)]; omega
    · split at h1
      · omega
      · split at h2
        · rw [if_pos (by omega)]; omega
        · split at h2
          · omega
          · rw [if_neg (by omega), if_neg (by omega)]; exact cmp_trans a b c h1 h2
theorem cmp_flip : ∀ a b : List Int, ¬ cmpI a b < 0 → a ≠ b → cmpI b a < 0
  | [], [], _, h => absurd rfl h
  | [], _ :: _, h, _ => by simp [cmpI] at h
  | _ :: _, [], _, _ => by simp [cmpI]
  | x :: a, y :: b, h, hne => by
    rw [cmpI] at h ⊢
    split at h
    · omega
    · split at h
      · rw [if_pos (by omega)]; omega
      · have e : x = y := by omega
        rw [if_neg (by omega), if_neg (by omega)]
        exact cmp_flip a b h (fun h' => hne (by rw [e, h']))
/-- In strictly ascending order. -/
theorem lt_dec {α : Type} (cmp : α → α → Int) (x y : α) : ltOf cmp x y = decide (cmp x y < 0) := rfl
theorem swoL : Sort.SWO (ltOf cmpI) where
  irrefl x := by rw [lt_dec, cmp_self]; rfl
  trans x y z h1 h2 := by
    rw [lt_dec, decide_eq_true_eq] at *
    exact cmp_trans x y z h1 h2
  ntrans x y z h1 h2 := by
    rw [lt_dec, decide_eq_false_iff_not] at *
    intro h3
    by_cases e : x = y
    · subst e; exact h2 h3
    · have h4 := cmp_flip x y h1 e
      exact h2 (cmp_trans y x z h4 h3)
theorem antiL (a b : List Int) (h1 : ¬ cmpI b a < 0) (h2 : ¬ cmpI a b < 0) : a = b := by
  by_cases e : a = b
  · exact e
  · exact absurd (cmp_flip a b h2 e) h1
def cmpF (a b : RA) : Int := if a.rel < b.rel then -1 else if a.rel > b.rel then 1 else cmpI a.args b.args
theorem ltF (a b : RA) : cmpF a b < 0 ↔ a.rel < b.rel ∨ a.rel = b.rel ∧ cmpI a.args b.args < 0 := by
  unfold cmpF
  by_cases h1 : a.rel < b.rel
  · rw [if_pos h1]; exact ⟨fun _ => .inl h1, fun _ => by omega⟩
  · rw [if_neg h1]
    by_cases h2 : a.rel > b.rel
    · rw [if_pos h2]; exact ⟨fun h => by omega, fun h => by omega⟩
    · rw [if_neg h2]; exact ⟨fun h => .inr ⟨by omega, h⟩, fun h => by rcases h with h | h; omega; exact h.2⟩
theorem swoF : Sort.SWO (ltOf cmpF) where
  irrefl x := by
    rw [lt_dec, decide_eq_false_iff_not, ltF]
    rintro (h | h)
    · omega
    · rw [cmp_self] at h; omega
  trans x y z h1 h2 := by
    rw [lt_dec, decide_eq_true_eq, ltF] at *
    rcases h1 with h1 | h1 <;> rcases h2 with h2 | h2
    · exact .inl (by omega)
    · exact .inl (by omega)
    · exact .inl (by omega)
    · exact .inr ⟨by omega, cmp_trans _ _ _ h1.2 h2.2⟩
  ntrans x y z h1 h2 := by
    rw [lt_dec, decide_eq_false_iff_not, ltF] at *
    rintro (h3 | h3)
    · by_cases e : x.rel = y.rel
      · exact h2 (.inl (by omega))
      · exact h1 (.inl (by have : ¬ y.rel < z.rel := fun h => h2 (.inl h); omega))
    · have a1 : ¬ x.rel < y.rel := fun h => h1 (.inl h)
      have a2 : ¬ y.rel < z.rel := fun h => h2 (.inl h)
      have e1 : x.rel = y.rel := by omega
      have e2 : y.rel = z.rel := by omega
      have b1 : ¬ cmpI x.args y.args < 0 := fun h => h1 (.inr ⟨e1, h⟩)
      have b2 : ¬ cmpI y.args z.args < 0 := fun h => h2 (.inr ⟨e2, h⟩)
      have := swoL.ntrans x.args y.args z.args (by rw [lt_dec]; exact decide_eq_false b1) (by rw [lt_dec]; exact decide_eq_false b2)
      rw [lt_dec, decide_eq_false_iff_not] at this
      exact this h3.2
/-- In order. -/
def srt {α : Type} (cmp : α → α → Int) (xs : List α) : List α := xs.mergeSort fun x y => !decide (cmp y x < 0)
section
variable {α : Type} {cmp : α → α → Int} {xs ys : List α}
theorem srt_perm : (srt cmp xs).Perm xs := List.mergeSort_perm _ _
theorem srt_sorted (hO : Sort.SWO (ltOf cmp)) : (srt cmp xs).Pairwise fun a b => ¬ cmp b a < 0 := by
  have h := List.pairwise_mergeSort (le := fun x y => !decide (cmp y x < 0)) (fun a b c h1 h2 => by
    simp only [Bool.not_eq_true', decide_eq_false_iff_not] at *
    have := hO.ntrans c b a (by rw [lt_dec]; exact decide_eq_false h2) (by rw [lt_dec]; exact decide_eq_false h1)
    rw [lt_dec, decide_eq_false_iff_not] at this
    exact this) (fun a b => by
    by_cases h1 : cmp b a < 0
    · have h2 : ¬ cmp a b < 0 := fun h2 => by
        have := hO.trans a b a (by rw [lt_dec]; exact decide_eq_true h2) (by rw [lt_dec]; exact decide_eq_true h1)
        rw [hO.irrefl] at this; cases this
      simp [h2]
    · simp [h1]) xs
  exact h.imp (fun {a b} h => by simpa using h)
theorem srt_eq (hO : Sort.SWO (ltOf cmp)) (ha : ∀ a b, a ∈ xs → b ∈ xs → ¬ cmp b a < 0 → ¬ cmp a b < 0 → a = b) (hp : ys.Perm xs) (hs : ys.Pairwise fun a b => ¬ cmp b a < 0) : ys = srt cmp xs :=
  List.Perm.eq_of_pairwise (le := fun a b => ¬ cmp b a < 0) (fun a b h1 h2 h3 h4 => ha a b (hp.mem_iff.1 h1) (srt_perm.mem_iff.1 h2) h3 h4) hs (srt_sorted hO) (hp.trans srt_perm.symm)
end
namespace AddM
variable {α β : Type} [DecidableEq β] (key : α → β) (add : α → α → α) (lt : β → β → Bool)
def ins : List α → α → List α
  | [], y => [y]
  | x :: l, y => if key x = key y then add x y :: l else x :: ins l y
variable {key add lt}
abbrev ND (key : α → β) (l : List α) : Prop := (l.map key).Nodup
theorem ins_perm {l l' : List α} (h : l.Perm l') (y : α) : ND key l → (ins key add l y).Perm (ins key add l' y) := by
  induction h with
  | nil => intro _; exact List.Perm.refl _
  | cons x hp ih =>
    intro hn
    have h' := (List.nodup_cons.mp (show (key x :: List.map key _).Nodup from hn)).2
    rw [ins, ins]; split
    · exact hp.cons _
    · exact (ih h').cons _
  | swap x x' l =>
    intro hn
    have hne : key x' ≠ key x := by
      intro e
      have := (List.nodup_cons.mp (by simpa only [ND, List.map_cons] using hn : (key x' :: key x :: l.map key).Nodup)).1
      exact this (by simp [e])
    simp only [ins]
    split
    · rename_i e
      rw [if_neg (fun e' => hne (e.trans e'.symm))]
      exact List.Perm.swap _ _ _
    · split
      · exact List.Perm.swap _ _ _
      · exact List.Perm.swap _ _ _
  | trans h1 h2 i1 i2 =>
    intro hn
    exact (i1 hn).trans (i2 ((h1.map key).nodup_iff.mp hn))
set_option linter.unusedSectionVars false
/-- Strictly ascending keys. -/
abbrev Asc (key : α → β) (lt : β → β → Bool) (l : List α) : Prop := l.Pairwise fun x y => lt (key x) (key y) = true
end AddM
end Go.Proofs.YtmfifjbbjjdacaaGreat.V

