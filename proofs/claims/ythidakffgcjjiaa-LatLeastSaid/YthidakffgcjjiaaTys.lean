/- Facts on the program's types and functions, looked up: written by a program. -/
import Derived.Test.YthidakffgcjjiaaCons
namespace Go.Proofs.Ythidakffgcjjiaa
open Go.RowKit Go.Sort
theorem eg112 : ∀ args w, (callFunc 112 args).run Try.prog w = .ok (.enter 112 args) w := enters_of Try.func112 (by kernel_rfl) rfl
theorem eg14 : ∀ args w, (callFunc 14 args).run Try.prog w = .ok (.enter 14 args) w := enters_of Try.func14 (by kernel_rfl) rfl
theorem eg15 : ∀ args w, (callFunc 15 args).run Try.prog w = .ok (.enter 15 args) w := enters_of Try.func15 (by kernel_rfl) rfl
theorem eg16 : ∀ args w, (callFunc 16 args).run Try.prog w = .ok (.enter 16 args) w := enters_of Try.func16 (by kernel_rfl) rfl
theorem eg18 : ∀ args w, (callFunc 18 args).run Try.prog w = .ok (.enter 18 args) w := enters_of Try.func18 (by kernel_rfl) rfl
theorem eg20 : ∀ args w, (callFunc 20 args).run Try.prog w = .ok (.enter 20 args) w := enters_of Try.func20 (by kernel_rfl) rfl
theorem eg22 : ∀ args w, (callFunc 22 args).run Try.prog w = .ok (.enter 22 args) w := enters_of Try.func22 (by kernel_rfl) rfl
theorem eg24 : ∀ args w, (callFunc 24 args).run Try.prog w = .ok (.enter 24 args) w := enters_of Try.func24 (by kernel_rfl) rfl
theorem eg25 : ∀ args w, (callFunc 25 args).run Try.prog w = .ok (.enter 25 args) w := enters_of Try.func25 (by kernel_rfl) rfl
theorem eg36 : ∀ args w, (callFunc 36 args).run Try.prog w = .ok (.enter 36 args) w := enters_of Try.func36 (by kernel_rfl) rfl
theorem eg72 : ∀ args w, (callFunc 72 args).run Try.prog w = .ok (.enter 72 args) w := enters_of Try.func72 (by kernel_rfl) rfl
theorem eg73 : ∀ args w, (callFunc 73 args).run Try.prog w = .ok (.enter 73 args) w := enters_of Try.func73 (by kernel_rfl) rfl
theorem eg74 : ∀ args w, (callFunc 74 args).run Try.prog w = .ok (.enter 74 args) w := enters_of Try.func74 (by kernel_rfl) rfl
theorem eg75 : ∀ args w, (callFunc 75 args).run Try.prog w = .ok (.enter 75 args) w := enters_of Try.func75 (by kernel_rfl) rfl
theorem eg78 : ∀ args w, (callFunc 78 args).run Try.prog w = .ok (.enter 78 args) w := enters_of Try.func78 (by kernel_rfl) rfl
theorem eg79 : ∀ args w, (callFunc 79 args).run Try.prog w = .ok (.enter 79 args) w := enters_of Try.func79 (by kernel_rfl) rfl
theorem eg90 : ∀ args w, (callFunc 90 args).run Try.prog w = .ok (.enter 90 args) w := enters_of Try.func90 (by kernel_rfl) rfl
theorem eqlB4 (a b : Bool) (x y : Operand) (W : World) : (do eqGuard .eql 4 x y (.bool a) (.bool b); binOp .eql 4 (.bool a) (.bool b) : Sem Value).run Try.prog W = .ok (.bool (a == b)) W := by
  cases a <;> cases b <;> kernel_rfl
theorem neqB4 (a b : Bool) (x y : Operand) (W : World) : (do eqGuard .neq 4 x y (.bool a) (.bool b); binOp .neq 4 (.bool a) (.bool b) : Sem Value).run Try.prog W = .ok (.bool (a != b)) W := by
  cases a <;> cases b <;> kernel_rfl
theorem fieldAt71_0 : FieldAt 71 0 0 := fun _ _ _ => by kernel_rfl
theorem fieldAt71_1 : FieldAt 71 1 12 := fun _ _ _ => by kernel_rfl
theorem undM82 : Try.prog.underlying 82 = some (.map 61 67) := by kernel_rfl
theorem under42 : Try.prog.underlying 42 = some (.slice 22) := by kernel_rfl
theorem under22 : Try.prog.underlying 22 = some (.slice 71) := by kernel_rfl
theorem tyAgg71 : TyAgg 71 21 := ⟨fun _ => by kernel_rfl, fun _ => by kernel_rfl⟩
theorem tyAgg61 : TyAgg 61 12 := ⟨fun _ => by kernel_rfl, fun _ => by kernel_rfl⟩
theorem tyAgg67 : TyAgg 67 9 := ⟨fun _ => by kernel_rfl, fun _ => by kernel_rfl⟩
theorem tyOne22 : TyOne 22 := ⟨fun _ => by kernel_rfl, fun _ => by kernel_rfl⟩
theorem tyOne4 : TyOne 4 := ⟨fun _ => by kernel_rfl, fun _ => by kernel_rfl⟩
theorem tyOne82 : TyOne 82 := ⟨fun _ => by kernel_rfl, fun _ => by kernel_rfl⟩
theorem tySz22 : ∀ W, (Go.sizeOf 22).run Try.prog W = .ok 1 W := fun _ => by kernel_rfl
theorem tySz71 : ∀ W, (Go.sizeOf 71).run Try.prog W = .ok 21 W := fun _ => by kernel_rfl
theorem tySz61 : ∀ W, (Go.sizeOf 61).run Try.prog W = .ok 12 W := fun _ => by kernel_rfl
theorem tySz67 : ∀ W, (Go.sizeOf 67).run Try.prog W = .ok 9 W := fun _ => by kernel_rfl
theorem tySz4 : ∀ W, (Go.sizeOf 4).run Try.prog W = .ok 1 W := fun _ => by kernel_rfl
theorem tySz82 : ∀ W, (Go.sizeOf 82).run Try.prog W = .ok 1 W := fun _ => by kernel_rfl
theorem zv71 : ∀ W, (zeroValue 71).run Try.prog W = .ok (.agg At.zero.enc) W := fun _ => by kernel_rfl
theorem zv61 : ∀ W, (zeroValue 61).run Try.prog W = .ok (.agg Ky.zero.enc) W := fun _ => by kernel_rfl
theorem zv67 : ∀ W, (zeroValue 67).run Try.prog W = .ok (.agg Vl.zero.enc) W := fun _ => by kernel_rfl
theorem zv4 : ∀ W, (zeroValue 4).run Try.prog W = .ok (.bool false) W := fun _ => by kernel_rfl
theorem zv82 : ∀ W, (zeroValue 82).run Try.prog W = .ok (.map none) W := fun _ => by kernel_rfl
end Go.Proofs.Ythidakffgcjjiaa
