/- Facts on the program's types and functions, looked up: written by a program. -/
import Derived.Test.YthidakffgcjjiaaStr
namespace Go.Proofs.Ythidakffgcjjiaa
open Go.RowKit Go.Sort
theorem eg105 : ∀ args w, (callFunc 105 args).run Try.prog w = .ok (.enter 105 args) w := enters_of Try.func105 (by kernel_rfl) rfl
theorem eg106 : ∀ args w, (callFunc 106 args).run Try.prog w = .ok (.enter 106 args) w := enters_of Try.func106 (by kernel_rfl) rfl
theorem eg107 : ∀ args w, (callFunc 107 args).run Try.prog w = .ok (.enter 107 args) w := enters_of Try.func107 (by kernel_rfl) rfl
theorem eg111 : ∀ args w, (callFunc 111 args).run Try.prog w = .ok (.enter 111 args) w := enters_of Try.func111 (by kernel_rfl) rfl
theorem eg112 : ∀ args w, (callFunc 112 args).run Try.prog w = .ok (.enter 112 args) w := enters_of Try.func112 (by kernel_rfl) rfl
theorem eg115 : ∀ args w, (callFunc 115 args).run Try.prog w = .ok (.enter 115 args) w := enters_of Try.func115 (by kernel_rfl) rfl
theorem eg126 : ∀ args w, (callFunc 126 args).run Try.prog w = .ok (.enter 126 args) w := enters_of Try.func126 (by kernel_rfl) rfl
theorem eg127 : ∀ args w, (callFunc 127 args).run Try.prog w = .ok (.enter 127 args) w := enters_of Try.func127 (by kernel_rfl) rfl
theorem eg130 : ∀ args w, (callFunc 130 args).run Try.prog w = .ok (.enter 130 args) w := enters_of Try.func130 (by kernel_rfl) rfl
theorem eg14 : ∀ args w, (callFunc 14 args).run Try.prog w = .ok (.enter 14 args) w := enters_of Try.func14 (by kernel_rfl) rfl
theorem eg15 : ∀ args w, (callFunc 15 args).run Try.prog w = .ok (.enter 15 args) w := enters_of Try.func15 (by kernel_rfl) rfl
theorem eg16 : ∀ args w, (callFunc 16 args).run Try.prog w = .ok (.enter 16 args) w := enters_of Try.func16 (by kernel_rfl) rfl
theorem eg17 : ∀ args w, (callFunc 17 args).run Try.prog w = .ok (.enter 17 args) w := enters_of Try.func17 (by kernel_rfl) rfl
theorem eg18 : ∀ args w, (callFunc 18 args).run Try.prog w = .ok (.enter 18 args) w := enters_of Try.func18 (by kernel_rfl) rfl
theorem eg19 : ∀ args w, (callFunc 19 args).run Try.prog w = .ok (.enter 19 args) w := enters_of Try.func19 (by kernel_rfl) rfl
theorem eg20 : ∀ args w, (callFunc 20 args).run Try.prog w = .ok (.enter 20 args) w := enters_of Try.func20 (by kernel_rfl) rfl
theorem eg21 : ∀ args w, (callFunc 21 args).run Try.prog w = .ok (.enter 21 args) w := enters_of Try.func21 (by kernel_rfl) rfl
theorem eg22 : ∀ args w, (callFunc 22 args).run Try.prog w = .ok (.enter 22 args) w := enters_of Try.func22 (by kernel_rfl) rfl
theorem eg23 : ∀ args w, (callFunc 23 args).run Try.prog w = .ok (.enter 23 args) w := enters_of Try.func23 (by kernel_rfl) rfl
theorem eg24 : ∀ args w, (callFunc 24 args).run Try.prog w = .ok (.enter 24 args) w := enters_of Try.func24 (by kernel_rfl) rfl
theorem eg25 : ∀ args w, (callFunc 25 args).run Try.prog w = .ok (.enter 25 args) w := enters_of Try.func25 (by kernel_rfl) rfl
theorem eg33 : ∀ args w, (callFunc 33 args).run Try.prog w = .ok (.enter 33 args) w := enters_of Try.func33 (by kernel_rfl) rfl
theorem eg34 : ∀ args w, (callFunc 34 args).run Try.prog w = .ok (.enter 34 args) w := enters_of Try.func34 (by kernel_rfl) rfl
theorem eg35 : ∀ args w, (callFunc 35 args).run Try.prog w = .ok (.enter 35 args) w := enters_of Try.func35 (by kernel_rfl) rfl
theorem eg36 : ∀ args w, (callFunc 36 args).run Try.prog w = .ok (.enter 36 args) w := enters_of Try.func36 (by kernel_rfl) rfl
theorem eg37 : ∀ args w, (callFunc 37 args).run Try.prog w = .ok (.enter 37 args) w := enters_of Try.func37 (by kernel_rfl) rfl
theorem eg38 : ∀ args w, (callFunc 38 args).run Try.prog w = .ok (.enter 38 args) w := enters_of Try.func38 (by kernel_rfl) rfl
theorem eg39 : ∀ args w, (callFunc 39 args).run Try.prog w = .ok (.enter 39 args) w := enters_of Try.func39 (by kernel_rfl) rfl
theorem eg40 : ∀ args w, (callFunc 40 args).run Try.prog w = .ok (.enter 40 args) w := enters_of Try.func40 (by kernel_rfl) rfl
theorem eg41 : ∀ args w, (callFunc 41 args).run Try.prog w = .ok (.enter 41 args) w := enters_of Try.func41 (by kernel_rfl) rfl
theorem eg48 : ∀ args w, (callFunc 48 args).run Try.prog w = .ok (.enter 48 args) w := enters_of Try.func48 (by kernel_rfl) rfl
theorem eg50 : ∀ args w, (callFunc 50 args).run Try.prog w = .ok (.enter 50 args) w := enters_of Try.func50 (by kernel_rfl) rfl
theorem eg51 : ∀ args w, (callFunc 51 args).run Try.prog w = .ok (.enter 51 args) w := enters_of Try.func51 (by kernel_rfl) rfl
theorem eg66 : ∀ args w, (callFunc 66 args).run Try.prog w = .ok (.enter 66 args) w := enters_of Try.func66 (by kernel_rfl) rfl
theorem eg70 : ∀ args w, (callFunc 70 args).run Try.prog w = .ok (.enter 70 args) w := enters_of Try.func70 (by kernel_rfl) rfl
theorem eg71 : ∀ args w, (callFunc 71 args).run Try.prog w = .ok (.enter 71 args) w := enters_of Try.func71 (by kernel_rfl) rfl
theorem eg72 : ∀ args w, (callFunc 72 args).run Try.prog w = .ok (.enter 72 args) w := enters_of Try.func72 (by kernel_rfl) rfl
theorem eg73 : ∀ args w, (callFunc 73 args).run Try.prog w = .ok (.enter 73 args) w := enters_of Try.func73 (by kernel_rfl) rfl
theorem eg74 : ∀ args w, (callFunc 74 args).run Try.prog w = .ok (.enter 74 args) w := enters_of Try.func74 (by kernel_rfl) rfl
theorem eg75 : ∀ args w, (callFunc 75 args).run Try.prog w = .ok (.enter 75 args) w := enters_of Try.func75 (by kernel_rfl) rfl
theorem eg76 : ∀ args w, (callFunc 76 args).run Try.prog w = .ok (.enter 76 args) w := enters_of Try.func76 (by kernel_rfl) rfl
theorem eg77 : ∀ args w, (callFunc 77 args).run Try.prog w = .ok (.enter 77 args) w := enters_of Try.func77 (by kernel_rfl) rfl
theorem eg78 : ∀ args w, (callFunc 78 args).run Try.prog w = .ok (.enter 78 args) w := enters_of Try.func78 (by kernel_rfl) rfl
theorem eg79 : ∀ args w, (callFunc 79 args).run Try.prog w = .ok (.enter 79 args) w := enters_of Try.func79 (by kernel_rfl) rfl
theorem eg80 : ∀ args w, (callFunc 80 args).run Try.prog w = .ok (.enter 80 args) w := enters_of Try.func80 (by kernel_rfl) rfl
theorem eg86 : ∀ args w, (callFunc 86 args).run Try.prog w = .ok (.enter 86 args) w := enters_of Try.func86 (by kernel_rfl) rfl
theorem eg87 : ∀ args w, (callFunc 87 args).run Try.prog w = .ok (.enter 87 args) w := enters_of Try.func87 (by kernel_rfl) rfl
theorem eg88 : ∀ args w, (callFunc 88 args).run Try.prog w = .ok (.enter 88 args) w := enters_of Try.func88 (by kernel_rfl) rfl
theorem eg89 : ∀ args w, (callFunc 89 args).run Try.prog w = .ok (.enter 89 args) w := enters_of Try.func89 (by kernel_rfl) rfl
theorem eg90 : ∀ args w, (callFunc 90 args).run Try.prog w = .ok (.enter 90 args) w := enters_of Try.func90 (by kernel_rfl) rfl
theorem eg91 : ∀ args w, (callFunc 91 args).run Try.prog w = .ok (.enter 91 args) w := enters_of Try.func91 (by kernel_rfl) rfl
theorem eg94 : ∀ args w, (callFunc 94 args).run Try.prog w = .ok (.enter 94 args) w := enters_of Try.func94 (by kernel_rfl) rfl
theorem eg95 : ∀ args w, (callFunc 95 args).run Try.prog w = .ok (.enter 95 args) w := enters_of Try.func95 (by kernel_rfl) rfl
theorem eg96 : ∀ args w, (callFunc 96 args).run Try.prog w = .ok (.enter 96 args) w := enters_of Try.func96 (by kernel_rfl) rfl
theorem eqlB4 (a b : Bool) (x y : Operand) (W : World) : (do eqGuard .eql 4 x y (.bool a) (.bool b); binOp .eql 4 (.bool a) (.bool b) : Sem Value).run Try.prog W = .ok (.bool (a == b)) W := by
  cases a <;> cases b <;> kernel_rfl
theorem neqB4 (a b : Bool) (x y : Operand) (W : World) : (do eqGuard .neq 4 x y (.bool a) (.bool b); binOp .neq 4 (.bool a) (.bool b) : Sem Value).run Try.prog W = .ok (.bool (a != b)) W := by
  cases a <;> cases b <;> kernel_rfl
theorem eqlS71 (a b : At) (x y : Operand) (W : World) : (do eqGuard .eql 71 x y (.agg a.enc) (.agg b.enc); binOp .eql 71 (.agg a.enc) (.agg b.enc) : Sem Value).run Try.prog W = .ok (.bool (decide (a = b))) W := by
  have h1 : (eqGuard .eql 71 x y (.agg a.enc) (.agg b.enc)).run Try.prog W = .ok () W := by kernel_rfl
  rw [Sem.run_bind, h1]
  simp [binOp, Op.equal, Op.maxDepth, eq71]
theorem neqlS71 (a b : At) (x y : Operand) (W : World) : (do eqGuard .neq 71 x y (.agg a.enc) (.agg b.enc); binOp .neq 71 (.agg a.enc) (.agg b.enc) : Sem Value).run Try.prog W = .ok (.bool (!decide (a = b))) W := by
  have h1 : (eqGuard .neq 71 x y (.agg a.enc) (.agg b.enc)).run Try.prog W = .ok () W := by kernel_rfl
  rw [Sem.run_bind, h1]
  simp [binOp, Op.equal, Op.maxDepth, eq71]
theorem eqlS61 (a b : Ky) (x y : Operand) (W : World) : (do eqGuard .eql 61 x y (.agg a.enc) (.agg b.enc); binOp .eql 61 (.agg a.enc) (.agg b.enc) : Sem Value).run Try.prog W = .ok (.bool (decide (a = b))) W := by
  have h1 : (eqGuard .eql 61 x y (.agg a.enc) (.agg b.enc)).run Try.prog W = .ok () W := by kernel_rfl
  rw [Sem.run_bind, h1]
  simp [binOp, Op.equal, Op.maxDepth, eq61]
theorem neqlS61 (a b : Ky) (x y : Operand) (W : World) : (do eqGuard .neq 61 x y (.agg a.enc) (.agg b.enc); binOp .neq 61 (.agg a.enc) (.agg b.enc) : Sem Value).run Try.prog W = .ok (.bool (!decide (a = b))) W := by
  have h1 : (eqGuard .neq 61 x y (.agg a.enc) (.agg b.enc)).run Try.prog W = .ok () W := by kernel_rfl
  rw [Sem.run_bind, h1]
  simp [binOp, Op.equal, Op.maxDepth, eq61]
theorem eqlS31 (a b : Nm) (x y : Operand) (W : World) : (do eqGuard .eql 31 x y (.agg a.enc) (.agg b.enc); binOp .eql 31 (.agg a.enc) (.agg b.enc) : Sem Value).run Try.prog W = .ok (.bool (decide (a = b))) W := by
  have h1 : (eqGuard .eql 31 x y (.agg a.enc) (.agg b.enc)).run Try.prog W = .ok () W := by kernel_rfl
  rw [Sem.run_bind, h1]
  simp [binOp, Op.equal, Op.maxDepth, eq31]
theorem neqlS31 (a b : Nm) (x y : Operand) (W : World) : (do eqGuard .neq 31 x y (.agg a.enc) (.agg b.enc); binOp .neq 31 (.agg a.enc) (.agg b.enc) : Sem Value).run Try.prog W = .ok (.bool (!decide (a = b))) W := by
  have h1 : (eqGuard .neq 31 x y (.agg a.enc) (.agg b.enc)).run Try.prog W = .ok () W := by kernel_rfl
  rw [Sem.run_bind, h1]
  simp [binOp, Op.equal, Op.maxDepth, eq31]
theorem fieldAt71_0 : FieldAt 71 0 0 := fun _ _ _ => by kernel_rfl
theorem fieldAt71_1 : FieldAt 71 1 12 := fun _ _ _ => by kernel_rfl
theorem fieldAt61_0 : FieldAt 61 0 0 := fun _ _ _ => by kernel_rfl
theorem fieldAt61_1 : FieldAt 61 1 1 := fun _ _ _ => by kernel_rfl
theorem fieldAt61_2 : FieldAt 61 2 2 := fun _ _ _ => by kernel_rfl
theorem fieldAt61_3 : FieldAt 61 3 10 := fun _ _ _ => by kernel_rfl
theorem fieldAt61_4 : FieldAt 61 4 11 := fun _ _ _ => by kernel_rfl
theorem fieldAt67_0 : FieldAt 67 0 0 := fun _ _ _ => by kernel_rfl
theorem fieldAt67_1 : FieldAt 67 1 1 := fun _ _ _ => by kernel_rfl
theorem infT22 : (Try.prog.info? 22).map (fun i => (i.zero, i.size, i.bytes)) = some (some (.slice none 0 0), 1, 24) := by kernel_rfl
theorem infT71 : (Try.prog.info? 71).map (fun i => (i.zero, i.size, i.bytes)) = some (some (.agg At.zero.enc), 21, 40) := by kernel_rfl
theorem infT3 : (Try.prog.info? 3).map (fun i => (i.zero, i.size, i.bytes)) = some (some (.int .i64 0), 1, 8) := by kernel_rfl
theorem undM82 : Try.prog.underlying 82 = some (.map 61 67) := by kernel_rfl
theorem under42 : Try.prog.underlying 42 = some (.slice 22) := by kernel_rfl
theorem under22 : Try.prog.underlying 22 = some (.slice 71) := by kernel_rfl
theorem under43 : Try.prog.underlying 43 = some (.slice 3) := by kernel_rfl
theorem tyAgg118 : TyAgg 118 3 := ⟨fun _ => by kernel_rfl, fun _ => by kernel_rfl⟩
theorem tyAgg71 : TyAgg 71 21 := ⟨fun _ => by kernel_rfl, fun _ => by kernel_rfl⟩
theorem tyAgg61 : TyAgg 61 12 := ⟨fun _ => by kernel_rfl, fun _ => by kernel_rfl⟩
theorem tyAgg31 : TyAgg 31 8 := ⟨fun _ => by kernel_rfl, fun _ => by kernel_rfl⟩
theorem tyAgg67 : TyAgg 67 9 := ⟨fun _ => by kernel_rfl, fun _ => by kernel_rfl⟩
theorem tyOne42 : TyOne 42 := ⟨fun _ => by kernel_rfl, fun _ => by kernel_rfl⟩
theorem tyOne22 : TyOne 22 := ⟨fun _ => by kernel_rfl, fun _ => by kernel_rfl⟩
theorem tyOne4 : TyOne 4 := ⟨fun _ => by kernel_rfl, fun _ => by kernel_rfl⟩
theorem tyOne89 : TyOne 89 := ⟨fun _ => by kernel_rfl, fun _ => by kernel_rfl⟩
theorem tyOne3 : TyOne 3 := ⟨fun _ => by kernel_rfl, fun _ => by kernel_rfl⟩
theorem tyOne82 : TyOne 82 := ⟨fun _ => by kernel_rfl, fun _ => by kernel_rfl⟩
theorem tyOne29 : TyOne 29 := ⟨fun _ => by kernel_rfl, fun _ => by kernel_rfl⟩
theorem tyOne34 : TyOne 34 := ⟨fun _ => by kernel_rfl, fun _ => by kernel_rfl⟩
theorem tyOne65 : TyOne 65 := ⟨fun _ => by kernel_rfl, fun _ => by kernel_rfl⟩
theorem tyOne5 : TyOne 5 := ⟨fun _ => by kernel_rfl, fun _ => by kernel_rfl⟩
theorem tySz118 : ∀ W, (Go.sizeOf 118).run Try.prog W = .ok 3 W := fun _ => by kernel_rfl
theorem tySz42 : ∀ W, (Go.sizeOf 42).run Try.prog W = .ok 1 W := fun _ => by kernel_rfl
theorem tySz22 : ∀ W, (Go.sizeOf 22).run Try.prog W = .ok 1 W := fun _ => by kernel_rfl
theorem tySz71 : ∀ W, (Go.sizeOf 71).run Try.prog W = .ok 21 W := fun _ => by kernel_rfl
theorem tySz61 : ∀ W, (Go.sizeOf 61).run Try.prog W = .ok 12 W := fun _ => by kernel_rfl
theorem tySz31 : ∀ W, (Go.sizeOf 31).run Try.prog W = .ok 8 W := fun _ => by kernel_rfl
theorem tySz67 : ∀ W, (Go.sizeOf 67).run Try.prog W = .ok 9 W := fun _ => by kernel_rfl
theorem tySz4 : ∀ W, (Go.sizeOf 4).run Try.prog W = .ok 1 W := fun _ => by kernel_rfl
theorem tySz3 : ∀ W, (Go.sizeOf 3).run Try.prog W = .ok 1 W := fun _ => by kernel_rfl
theorem tySz82 : ∀ W, (Go.sizeOf 82).run Try.prog W = .ok 1 W := fun _ => by kernel_rfl
theorem tySz65 : ∀ W, (Go.sizeOf 65).run Try.prog W = .ok 1 W := fun _ => by kernel_rfl
theorem tySz5 : ∀ W, (Go.sizeOf 5).run Try.prog W = .ok 1 W := fun _ => by kernel_rfl
theorem undr118 : Try.prog.underlying 118 = some (.array 3 65) := by kernel_rfl
theorem undr74 : Try.prog.underlying 74 = some (.slice 5) := by kernel_rfl
theorem undr31 : Try.prog.underlying 31 = some (.array 8 5) := by kernel_rfl
theorem undr9 : Try.prog.underlying 9 = some (.string) := by kernel_rfl
theorem undr29 : Try.prog.underlying 29 = some (.int .u16) := by kernel_rfl
theorem undr34 : Try.prog.underlying 34 = some (.int .u32) := by kernel_rfl
theorem undr65 : Try.prog.underlying 65 = some (.int .u64) := by kernel_rfl
theorem undr5 : Try.prog.underlying 5 = some (.int .u8) := by kernel_rfl
theorem zv118 : ∀ W, (zeroValue 118).run Try.prog W = .ok (.agg Tri.zero.enc) W := fun _ => by kernel_rfl
theorem zv42 : ∀ W, (zeroValue 42).run Try.prog W = .ok (.slice none 0 0) W := fun _ => by kernel_rfl
theorem zv22 : ∀ W, (zeroValue 22).run Try.prog W = .ok (.slice none 0 0) W := fun _ => by kernel_rfl
theorem zv71 : ∀ W, (zeroValue 71).run Try.prog W = .ok (.agg At.zero.enc) W := fun _ => by kernel_rfl
theorem zv61 : ∀ W, (zeroValue 61).run Try.prog W = .ok (.agg Ky.zero.enc) W := fun _ => by kernel_rfl
theorem zv31 : ∀ W, (zeroValue 31).run Try.prog W = .ok (.agg Nm.zero.enc) W := fun _ => by kernel_rfl
theorem zv67 : ∀ W, (zeroValue 67).run Try.prog W = .ok (.agg Vl.zero.enc) W := fun _ => by kernel_rfl
theorem zv4 : ∀ W, (zeroValue 4).run Try.prog W = .ok (.bool false) W := fun _ => by kernel_rfl
theorem zv82 : ∀ W, (zeroValue 82).run Try.prog W = .ok (.map none) W := fun _ => by kernel_rfl
end Go.Proofs.Ythidakffgcjjiaa
