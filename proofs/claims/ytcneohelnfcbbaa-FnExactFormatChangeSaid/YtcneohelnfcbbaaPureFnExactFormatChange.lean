/- FnExactFormatChange, in plain Lean: for every change the law's function comes to true. Conditions: what can be read as data. -/
import Derived.Test.YtcneohelnfcbbaaPx7
import Derived.Test.YtcneohelnfcbbaaPx8
import Derived.Test.YtcneohelnfcbbaaPx9
import Derived.Test.YtcneohelnfcbbaaPFact
import Derived.Test.YtcneohelnfcbbaaPLawChange
namespace Go.Proofs.Ytcneohelnfcbbaa.Pure
open Go.RowKit Go.Proofs.Ytcneohelnfcbbaa.P Go.Proofs.YtcneohelnfcbbaaW.PrintWords Go.Proofs.YtcneohelnfcbbaaW.PrintLast Go.Proofs.Ytcneohelnfcbbaa.PB Go.Proofs.Ytcneohelnfcbbaa.PFact Go.Proofs.Ytcneohelnfcbbaa.PLaw
def changeB (b : Bool) (rel : Int) (args : List Int) : ByteArray := if (factB rel args).toList = ([] : List UInt8) then ⟨#[]⟩ else if b = true then (⟨#[43]⟩ : ByteArray) ++ factB rel args else (⟨#[45]⟩ : ByteArray) ++ factB rel args
theorem spec_change {b : Bool} {rel : Int} {args : List Int} (hr : (Lit.int .i64 rel).wf = true) (hw : ∀ x ∈ args, (Lit.int .i64 x).wf = true) : Ev (fun k => spec_FormatChange.f k b rel args) (changeB b rel args) := by
  have hs := fact_size rel args
  unfold spec_FormatChange.f changeB
  refine Ev.bind (spec_fact hr hw) ?_
  by_cases h : (factB rel args).toList = ([] : List UInt8)
  · simp only [if_pos h]; exact Ev.const rfl
  · simp only [if_neg h]
    cases b with
    | true => exact Ev.pos rfl (Ev.pos (by omega) (Ev.const rfl))
    | false => exact Ev.neg (by simp) (Ev.pos (by omega) (Ev.const rfl))
theorem impl_change {b : Bool} {rel : Int} {args : List Int} (hr : (Lit.int .i64 rel).wf = true) (hw : ∀ x ∈ args, (Lit.int .i64 x).wf = true) : Ev (fun k => impl_FormatChange.f k b rel args) (changeB b rel args) := by
  have hs := fact_size rel args
  unfold impl_FormatChange.f changeB
  refine Ev.bind (impl_fact hr hw) ?_
  by_cases h : (factB rel args).toList = ([] : List UInt8)
  · simp only [if_pos h]; exact Ev.const rfl
  · simp only [if_neg h]
    cases b with
    | true => exact Ev.pos rfl (Ev.pos (by omega) (Ev.const rfl))
    | false => exact Ev.neg (by simp) (Ev.pos (by omega) (Ev.const rfl))
theorem FnExactFormatChange : ∀ (z0_0 : Bool) (z0_1 : Int) (z0_2 : List Int), ((Lit.int .i64 z0_1).wf = true) → (qIntS z0_2) → ∃ k, laws_FnExactFormatChange.f k z0_0 z0_1 z0_2 = some true := by
  intro b r l hr hq
  apply Ev.rounds
  have hz := szChange b r l 1048576 (by omega) (by omega) trivial hr hq
  unfold laws_FnExactFormatChange.f
  by_cases h : (1048576 : Int) < ((nIntS l : Nat) : Int)
  · rw [if_pos h] at hz
    exact Ev.bind hz (Ev.pos (by omega) (Ev.const rfl))
  · rw [if_neg h] at hz
    have ht := toChange b r l (by omega)
    have he := eqChange b r (cIntS l) (mcIntS (by omega))
    exact Ev.bind hz (Ev.neg (by omega) (Ev.bind ht (Ev.bind (spec_change hr hq.2) (Ev.bind ht (Ev.bind (impl_change hr hq.2) (Ev.pos rfl (Ev.bind ht (Ev.bind he (Ev.pos rfl (Ev.const rfl))))))))))
end Go.Proofs.Ytcneohelnfcbbaa.Pure
