/- The encodings of the program's structs as values of the model, and small lemmas on worlds that have grown by new blocks and draws alone. -/
import Derived.Test.YthidakffgcjjiaaSpec
import Derived.Test.YthidakffgcjjiaaRows
import Derived.Shelf.Abstract
import Derived.WalkKit
import Derived.WalkSpells
import Derived.WalkLawsBesides
import Derived.Sort.Grow
import Derived.Shelf.SlSortCmp.QuietGrown
import Derived.BigQuiet
import Derived.Lib.Hide
namespace Go.Proofs.Ythidakffgcjjiaa
open Go.RowKit Go.Sort

abbrev U8 (b : UInt8) : Value := .int .u8 (b.toNat : Int)
abbrev U16 (b : UInt16) : Value := .int .u16 (b.toNat : Int)
abbrev U32 (b : UInt32) : Value := .int .u32 (b.toNat : Int)
abbrev U64 (b : UInt64) : Value := .int .u64 (b.toNat : Int)

def Nm.enc (n : Nm) : Array Value := #[U8 n.b0, U8 n.b1, U8 n.b2, U8 n.b3, U8 n.b4, U8 n.b5, U8 n.b6, U8 n.b7]
def Ky.enc (k : Ky) : Array Value := #[U8 k.sort, U16 k.cart, U8 k.item.b0, U8 k.item.b1, U8 k.item.b2, U8 k.item.b3, U8 k.item.b4, U8 k.item.b5, U8 k.item.b6, U8 k.item.b7, U8 k.rep, U32 k.seq]
def Vl.enc (v : Vl) : Array Value := #[U64 v.n, U8 v.text.b0, U8 v.text.b1, U8 v.text.b2, U8 v.text.b3, U8 v.text.b4, U8 v.text.b5, U8 v.text.b6, U8 v.text.b7]
def At.enc (a : At) : Array Value := #[U8 a.k.sort, U16 a.k.cart, U8 a.k.item.b0, U8 a.k.item.b1, U8 a.k.item.b2, U8 a.k.item.b3, U8 a.k.item.b4, U8 a.k.item.b5, U8 a.k.item.b6, U8 a.k.item.b7, U8 a.k.rep, U32 a.k.seq,
  U64 a.v.n, U8 a.v.text.b0, U8 a.v.text.b1, U8 a.v.text.b2, U8 a.v.text.b3, U8 a.v.text.b4, U8 a.v.text.b5, U8 a.v.text.b6, U8 a.v.text.b7]


/-- w' is w after some draws, with some blocks laid behind it. -/
def Ext (w w' : World) : Prop := ∃ (n : Nat) (os : Array Obj), w' = grow (w.drewN n) os

theorem Ext.refl (w : World) : Ext w w := ⟨0, #[], by rw [grow_empty]; rfl⟩
theorem Ext.grow {w w' : World} (h : Ext w w') (os : Array Obj) : Ext w (grow w' os) := by
  obtain ⟨n, os', rfl⟩ := h
  exact ⟨n, os' ++ os, by rw [grow_grow]⟩
theorem Ext.alloc {w w' : World} (h : Ext w w') (o : Obj) : Ext w (w'.alloc o) := by
  rw [alloc_eq_grow]; exact h.grow _
theorem Ext.drewN {w w' : World} (h : Ext w w') (n : Nat) : Ext w (w'.drewN n) := by
  obtain ⟨m, os', rfl⟩ := h
  exact ⟨m + n, os', by show Go.Sort.grow ((w.drewN m).drewN n) os' = _; rw [World.drewN_drewN]⟩
theorem Ext.drew {w w' : World} (h : Ext w w') : Ext w w'.drew := h.drewN 1
theorem Ext.trans {w w' w'' : World} (h : Ext w w') (h' : Ext w' w'') : Ext w w'' := by
  obtain ⟨m, os', rfl⟩ := h'
  exact (h.drewN m).grow os'
theorem Ext.size {w w' : World} (h : Ext w w') : w.heap.size ≤ w'.heap.size := by
  obtain ⟨m, os', rfl⟩ := h
  simp
theorem Ext.heap {w w' : World} (h : Ext w w') {k : Nat} (hk : k < w.heap.size) : w'.heap[k]? = w.heap[k]? := by
  obtain ⟨m, os', rfl⟩ := h
  rw [heap_grow_old _ _ (by exact hk)]; rfl
theorem Ext.cell {w w' : World} (h : Ext w w') {a : Addr} (hk : a.block < w.heap.size) : w'.cell? a = w.cell? a := by
  simp only [World.cell?, h.heap hk]
theorem Ext.frozen {w w' : World} (h : Ext w w') {a : Addr} (hk : a.block < w.heap.size) : w'.frozen? a = w.frozen? a := by
  simp only [World.frozen?, h.heap hk]
theorem Ext.bcell {w w' : World} (h : Ext w w') : ∀ b o, b < w.heap.size → w'.cell? ⟨b, o, none⟩ = w.cell? ⟨b, o, none⟩ := fun b o hb => h.cell (a := ⟨b, o, none⟩) hb
theorem Ext.bfrozen {w w' : World} (h : Ext w w') : ∀ b o, b < w.heap.size → w'.frozen? ⟨b, o, none⟩ = w.frozen? ⟨b, o, none⟩ := fun b o hb => h.frozen (a := ⟨b, o, none⟩) hb
theorem Ext.below {w w' : World} (h : Ext w w') : RowKit.Below w.heap.size w w' := by
  have hs := h.size
  have hh := @Ext.heap _ _ h
  obtain ⟨m, os', rfl⟩ := h
  exact ⟨rfl, rfl, rfl, hs, fun k hk => hh hk⟩
/-- What turns a block that was not there leaves w's. -/
theorem Ext.mapBlock {w w' : World} (h : Ext w w') {b : Nat} (hb : w.heap.size ≤ b) (f : Obj → Obj) : Ext w { w' with heap := w'.heap.modify b f } := by
  obtain ⟨m, os', rfl⟩ := h
  refine ⟨m, os'.modify (b - w.heap.size) f, ?_⟩
  show ({ w with heap := (w.heap ++ os').modify b f, drawn := w.drawn + m } : World) = { w with heap := w.heap ++ os'.modify (b - w.heap.size) f, drawn := w.drawn + m }
  rw [modify_append_right _ _ _ _ hb]
theorem Ext.setCell {w w' : World} (h : Ext w w') {a : Addr} (hb : w.heap.size ≤ a.block) (v : Value) : Ext w (w'.setCell a v) := h.mapBlock hb _

theorem cell?_grow' (w : World) (os : Array Obj) (b o : Nat) (h : b < w.heap.size) : (grow w os).cell? ⟨b, o, none⟩ = w.cell? ⟨b, o, none⟩ := cell?_grow w os _ h
theorem frozen?_grow' (w : World) (os : Array Obj) (b o : Nat) (h : b < w.heap.size) : (grow w os).frozen? ⟨b, o, none⟩ = w.frozen? ⟨b, o, none⟩ := frozen?_grow w os _ h

attribute [go_sem] cell?_grow' frozen?_grow'

theorem retb {a b : Bool} (h : a = b) : Ending.returned (Value.bool a) = .returned (.bool b) := by rw [h]
theorem reti {k : IntKind} {a b : Int} (h : a = b) : Ending.returned (Value.int k a) = .returned (.int k b) := by rw [h]

theorem Nm.enc_size (n : Nm) : n.enc.size = 8 := rfl
theorem Nm.enc_list (n : Nm) : n.enc.toList = [U8 n.b0, U8 n.b1, U8 n.b2, U8 n.b3, U8 n.b4, U8 n.b5, U8 n.b6, U8 n.b7] := rfl
theorem Nm.enc_fold (n : Nm) : (#[U8 n.b0, U8 n.b1, U8 n.b2, U8 n.b3, U8 n.b4, U8 n.b5, U8 n.b6, U8 n.b7] : Array Value) = n.enc := rfl
theorem Nm.enc_0 (n : Nm) : n.enc[0]? = some (U8 n.b0) := rfl
theorem Nm.enc_1 (n : Nm) : n.enc[1]? = some (U8 n.b1) := rfl
theorem Nm.enc_2 (n : Nm) : n.enc[2]? = some (U8 n.b2) := rfl
theorem Nm.enc_3 (n : Nm) : n.enc[3]? = some (U8 n.b3) := rfl
theorem Nm.enc_4 (n : Nm) : n.enc[4]? = some (U8 n.b4) := rfl
theorem Nm.enc_5 (n : Nm) : n.enc[5]? = some (U8 n.b5) := rfl
theorem Nm.enc_6 (n : Nm) : n.enc[6]? = some (U8 n.b6) := rfl
theorem Nm.enc_7 (n : Nm) : n.enc[7]? = some (U8 n.b7) := rfl
attribute [simp] Nm.enc_size Nm.enc_list Nm.enc_fold Nm.enc_0 Nm.enc_1 Nm.enc_2 Nm.enc_3 Nm.enc_4 Nm.enc_5 Nm.enc_6 Nm.enc_7
theorem Ky.enc_size (k : Ky) : k.enc.size = 12 := rfl
theorem Ky.enc_list (k : Ky) : k.enc.toList = [U8 k.sort, U16 k.cart, U8 k.item.b0, U8 k.item.b1, U8 k.item.b2, U8 k.item.b3, U8 k.item.b4, U8 k.item.b5, U8 k.item.b6, U8 k.item.b7, U8 k.rep, U32 k.seq] := rfl
theorem Ky.enc_fold (k : Ky) : (#[U8 k.sort, U16 k.cart, U8 k.item.b0, U8 k.item.b1, U8 k.item.b2, U8 k.item.b3, U8 k.item.b4, U8 k.item.b5, U8 k.item.b6, U8 k.item.b7, U8 k.rep, U32 k.seq] : Array Value) = k.enc := rfl
theorem Ky.enc_0 (k : Ky) : k.enc[0]? = some (U8 k.sort) := rfl
theorem Ky.enc_1 (k : Ky) : k.enc[1]? = some (U16 k.cart) := rfl
theorem Ky.enc_2 (k : Ky) : k.enc[2]? = some (U8 k.item.b0) := rfl
theorem Ky.enc_3 (k : Ky) : k.enc[3]? = some (U8 k.item.b1) := rfl
theorem Ky.enc_4 (k : Ky) : k.enc[4]? = some (U8 k.item.b2) := rfl
theorem Ky.enc_5 (k : Ky) : k.enc[5]? = some (U8 k.item.b3) := rfl
theorem Ky.enc_6 (k : Ky) : k.enc[6]? = some (U8 k.item.b4) := rfl
theorem Ky.enc_7 (k : Ky) : k.enc[7]? = some (U8 k.item.b5) := rfl
theorem Ky.enc_8 (k : Ky) : k.enc[8]? = some (U8 k.item.b6) := rfl
theorem Ky.enc_9 (k : Ky) : k.enc[9]? = some (U8 k.item.b7) := rfl
theorem Ky.enc_10 (k : Ky) : k.enc[10]? = some (U8 k.rep) := rfl
theorem Ky.enc_11 (k : Ky) : k.enc[11]? = some (U32 k.seq) := rfl
attribute [simp] Ky.enc_size Ky.enc_list Ky.enc_fold Ky.enc_0 Ky.enc_1 Ky.enc_2 Ky.enc_3 Ky.enc_4 Ky.enc_5 Ky.enc_6 Ky.enc_7 Ky.enc_8 Ky.enc_9 Ky.enc_10 Ky.enc_11
theorem Vl.enc_size (v : Vl) : v.enc.size = 9 := rfl
theorem Vl.enc_list (v : Vl) : v.enc.toList = [U64 v.n, U8 v.text.b0, U8 v.text.b1, U8 v.text.b2, U8 v.text.b3, U8 v.text.b4, U8 v.text.b5, U8 v.text.b6, U8 v.text.b7] := rfl
theorem Vl.enc_fold (v : Vl) : (#[U64 v.n, U8 v.text.b0, U8 v.text.b1, U8 v.text.b2, U8 v.text.b3, U8 v.text.b4, U8 v.text.b5, U8 v.text.b6, U8 v.text.b7] : Array Value) = v.enc := rfl
theorem Vl.enc_0 (v : Vl) : v.enc[0]? = some (U64 v.n) := rfl
theorem Vl.enc_1 (v : Vl) : v.enc[1]? = some (U8 v.text.b0) := rfl
theorem Vl.enc_2 (v : Vl) : v.enc[2]? = some (U8 v.text.b1) := rfl
theorem Vl.enc_3 (v : Vl) : v.enc[3]? = some (U8 v.text.b2) := rfl
theorem Vl.enc_4 (v : Vl) : v.enc[4]? = some (U8 v.text.b3) := rfl
theorem Vl.enc_5 (v : Vl) : v.enc[5]? = some (U8 v.text.b4) := rfl
theorem Vl.enc_6 (v : Vl) : v.enc[6]? = some (U8 v.text.b5) := rfl
theorem Vl.enc_7 (v : Vl) : v.enc[7]? = some (U8 v.text.b6) := rfl
theorem Vl.enc_8 (v : Vl) : v.enc[8]? = some (U8 v.text.b7) := rfl
attribute [simp] Vl.enc_size Vl.enc_list Vl.enc_fold Vl.enc_0 Vl.enc_1 Vl.enc_2 Vl.enc_3 Vl.enc_4 Vl.enc_5 Vl.enc_6 Vl.enc_7 Vl.enc_8
theorem At.enc_size (a : At) : a.enc.size = 21 := rfl
theorem At.enc_list (a : At) : a.enc.toList = [U8 a.k.sort, U16 a.k.cart, U8 a.k.item.b0, U8 a.k.item.b1, U8 a.k.item.b2, U8 a.k.item.b3, U8 a.k.item.b4, U8 a.k.item.b5, U8 a.k.item.b6, U8 a.k.item.b7, U8 a.k.rep, U32 a.k.seq, U64 a.v.n, U8 a.v.text.b0, U8 a.v.text.b1, U8 a.v.text.b2, U8 a.v.text.b3, U8 a.v.text.b4, U8 a.v.text.b5, U8 a.v.text.b6, U8 a.v.text.b7] := rfl
theorem At.enc_fold (a : At) : (#[U8 a.k.sort, U16 a.k.cart, U8 a.k.item.b0, U8 a.k.item.b1, U8 a.k.item.b2, U8 a.k.item.b3, U8 a.k.item.b4, U8 a.k.item.b5, U8 a.k.item.b6, U8 a.k.item.b7, U8 a.k.rep, U32 a.k.seq, U64 a.v.n, U8 a.v.text.b0, U8 a.v.text.b1, U8 a.v.text.b2, U8 a.v.text.b3, U8 a.v.text.b4, U8 a.v.text.b5, U8 a.v.text.b6, U8 a.v.text.b7] : Array Value) = a.enc := rfl
theorem At.enc_0 (a : At) : a.enc[0]? = some (U8 a.k.sort) := rfl
theorem At.enc_1 (a : At) : a.enc[1]? = some (U16 a.k.cart) := rfl
theorem At.enc_2 (a : At) : a.enc[2]? = some (U8 a.k.item.b0) := rfl
theorem At.enc_3 (a : At) : a.enc[3]? = some (U8 a.k.item.b1) := rfl
theorem At.enc_4 (a : At) : a.enc[4]? = some (U8 a.k.item.b2) := rfl
theorem At.enc_5 (a : At) : a.enc[5]? = some (U8 a.k.item.b3) := rfl
theorem At.enc_6 (a : At) : a.enc[6]? = some (U8 a.k.item.b4) := rfl
theorem At.enc_7 (a : At) : a.enc[7]? = some (U8 a.k.item.b5) := rfl
theorem At.enc_8 (a : At) : a.enc[8]? = some (U8 a.k.item.b6) := rfl
theorem At.enc_9 (a : At) : a.enc[9]? = some (U8 a.k.item.b7) := rfl
theorem At.enc_10 (a : At) : a.enc[10]? = some (U8 a.k.rep) := rfl
theorem At.enc_11 (a : At) : a.enc[11]? = some (U32 a.k.seq) := rfl
theorem At.enc_12 (a : At) : a.enc[12]? = some (U64 a.v.n) := rfl
theorem At.enc_13 (a : At) : a.enc[13]? = some (U8 a.v.text.b0) := rfl
theorem At.enc_14 (a : At) : a.enc[14]? = some (U8 a.v.text.b1) := rfl
theorem At.enc_15 (a : At) : a.enc[15]? = some (U8 a.v.text.b2) := rfl
theorem At.enc_16 (a : At) : a.enc[16]? = some (U8 a.v.text.b3) := rfl
theorem At.enc_17 (a : At) : a.enc[17]? = some (U8 a.v.text.b4) := rfl
theorem At.enc_18 (a : At) : a.enc[18]? = some (U8 a.v.text.b5) := rfl
theorem At.enc_19 (a : At) : a.enc[19]? = some (U8 a.v.text.b6) := rfl
theorem At.enc_20 (a : At) : a.enc[20]? = some (U8 a.v.text.b7) := rfl
attribute [simp] At.enc_size At.enc_list At.enc_fold At.enc_0 At.enc_1 At.enc_2 At.enc_3 At.enc_4 At.enc_5 At.enc_6 At.enc_7 At.enc_8 At.enc_9 At.enc_10 At.enc_11 At.enc_12 At.enc_13 At.enc_14 At.enc_15 At.enc_16 At.enc_17 At.enc_18 At.enc_19 At.enc_20

theorem Nm.zero_fold : (#[.int .u8 0, .int .u8 0, .int .u8 0, .int .u8 0, .int .u8 0, .int .u8 0, .int .u8 0, .int .u8 0] : Array Value) = Nm.zero.enc := rfl
theorem Ky.bare_fold (s : UInt8) (c : UInt16) : (#[U8 s, U16 c, .int .u8 0, .int .u8 0, .int .u8 0, .int .u8 0, .int .u8 0, .int .u8 0, .int .u8 0, .int .u8 0, .int .u8 0, .int .u32 0] : Array Value) = (⟨s, c, Nm.zero, 0, 0⟩ : Ky).enc := rfl
theorem Ky.note_fold (c : UInt16) : (#[.int .u8 4, U16 c, .int .u8 0, .int .u8 0, .int .u8 0, .int .u8 0, .int .u8 0, .int .u8 0, .int .u8 0, .int .u8 0, .int .u8 0, .int .u32 0] : Array Value) = (⟨4, c, Nm.zero, 0, 0⟩ : Ky).enc := rfl
theorem Nm.zero_b0 : Nm.zero.b0 = 0 := rfl
theorem Nm.zero_b1 : Nm.zero.b1 = 0 := rfl
theorem Nm.zero_b2 : Nm.zero.b2 = 0 := rfl
theorem Nm.zero_b3 : Nm.zero.b3 = 0 := rfl
theorem Nm.zero_b4 : Nm.zero.b4 = 0 := rfl
theorem Nm.zero_b5 : Nm.zero.b5 = 0 := rfl
theorem Nm.zero_b6 : Nm.zero.b6 = 0 := rfl
theorem Nm.zero_b7 : Nm.zero.b7 = 0 := rfl
attribute [simp] Nm.zero_b0 Nm.zero_b1 Nm.zero_b2 Nm.zero_b3 Nm.zero_b4 Nm.zero_b5 Nm.zero_b6 Nm.zero_b7
theorem Nm.zero_fold2 : (#[U8 0, U8 0, U8 0, U8 0, U8 0, U8 0, U8 0, U8 0] : Array Value) = Nm.zero.enc := rfl
theorem Ky.bare_fold2 (s : UInt8) (c : UInt16) : (#[U8 s, U16 c, U8 0, U8 0, U8 0, U8 0, U8 0, U8 0, U8 0, U8 0, U8 0, U32 0] : Array Value) = (⟨s, c, Nm.zero, 0, 0⟩ : Ky).enc := rfl
attribute [simp] Nm.zero_fold Ky.bare_fold Ky.note_fold Nm.zero_fold2 Ky.bare_fold2

theorem grown_of {f : FuncId} {args : Array Value} {w : World} {n : Nat} {os : Array Obj} {v : Value}
    (h : Calls Try.prog f args (grow (w.drewN n) os) fun e w' => e = .returned v ∧ Ext (grow (w.drewN n) os) w') : Calls Try.prog f args (grow (w.drewN n) os) fun e w'' => e = .returned v ∧ ∃ p : GrownBy, w'' = grow (w.drewN p.n) p.os :=
  Calls.grown_of (h.mono fun _ _ ⟨he, q, os', hq⟩ => ⟨he, q, os', hq⟩)
theorem Try.mixed : Try.prog.follows .mixedOrders = true := by kernel_rfl

theorem or_shift (i x y : Nat) (hy : y < 2 ^ i) (hx : x * 2 ^ i + y < 18446744073709551616) : bits .or .u64 (IntKind.u64.wrap ((x * 2 ^ i : Nat) : Int)) (IntKind.u64.wrap (y : Int)) = ((x * 2 ^ i + y : Nat) : Int) := by
  have h1 : IntKind.u64.wrap ((x * 2 ^ i : Nat) : Int) = ((x * 2 ^ i : Nat) : Int) := by rw [IntKind.wrap_u64]; omega
  have h2 : IntKind.u64.wrap (y : Int) = (y : Int) := by rw [IntKind.wrap_u64]; omega
  rw [h1, h2, bits_or_u64_nat _ _ (by omega) (by omega)]
  rw [Nat.mul_comm x, Nat.two_pow_add_eq_or_of_lt hy]
theorem or_shift8 (x y : Nat) (hy : y < 256) (hx : x * 256 + y < 18446744073709551616) : bits .or .u64 (IntKind.u64.wrap ((x : Int) * 256)) (IntKind.u64.wrap (y : Int)) = ((x * 256 + y : Nat) : Int) := by
  have := or_shift 8 x y hy hx
  simpa using this

theorem wrap8 (x : UInt8) : IntKind.u64.wrap (x.toNat : Int) = (x.toNat : Int) := by
  have := x.toNat_lt; rw [IntKind.wrap_u64]; omega
theorem wrap16 (x : UInt16) : IntKind.u64.wrap (x.toNat : Int) = (x.toNat : Int) := by
  have := x.toNat_lt; rw [IntKind.wrap_u64]; omega
theorem wrap32 (x : UInt32) : IntKind.u64.wrap (x.toNat : Int) = (x.toNat : Int) := by
  have := x.toNat_lt; rw [IntKind.wrap_u64]; omega
theorem Ky.dot_bits (k : Ky) : bits .or .u64 (IntKind.u64.wrap (IntKind.u64.wrap (k.rep.toNat : Int) * 4294967296)) (IntKind.u64.wrap (k.seq.toNat : Int)) = (k.dot : Int) := by
  have h1 := k.rep.toNat_lt
  have h2 := k.seq.toNat_lt
  have := or_shift 32 k.rep.toNat k.seq.toNat h2 (by omega)
  rw [wrap8]
  simpa [Ky.dot] using this
theorem Ky.w0_bits (k : Ky) : bits .or .u64 (IntKind.u64.wrap (IntKind.u64.wrap (k.sort.toNat : Int) * 65536)) (IntKind.u64.wrap (k.cart.toNat : Int)) = (k.w0 : Int) := by
  have h1 := k.sort.toNat_lt
  have h2 := k.cart.toNat_lt
  have := or_shift 16 k.sort.toNat k.cart.toNat h2 (by omega)
  rw [wrap8]
  simpa [Ky.w0] using this

/-- Three words. -/
def W3 (x y z : Nat) : Array Value := #[.int .u64 (x : Int), .int .u64 (y : Int), .int .u64 (z : Int)]
theorem W3_size (x y z : Nat) : (W3 x y z).size = 3 := rfl
theorem W3_list (x y z : Nat) : (W3 x y z).toList = [.int .u64 (x : Int), .int .u64 (y : Int), .int .u64 (z : Int)] := rfl
theorem W3_0 (x y z : Nat) : (W3 x y z)[0]? = some (.int .u64 (x : Int)) := rfl
theorem W3_1 (x y z : Nat) : (W3 x y z)[1]? = some (.int .u64 (y : Int)) := rfl
theorem W3_2 (x y z : Nat) : (W3 x y z)[2]? = some (.int .u64 (z : Int)) := rfl
theorem W3_fold (x y z : Nat) : (#[.int .u64 (x : Int), .int .u64 (y : Int), .int .u64 (z : Int)] : Array Value) = W3 x y z := rfl
attribute [simp] W3_size W3_list W3_0 W3_1 W3_2 W3_fold
theorem Nm.enc_set0 (n : Nm) (x : Value) : n.enc.setIfInBounds 0 x = #[x, U8 n.b1, U8 n.b2, U8 n.b3, U8 n.b4, U8 n.b5, U8 n.b6, U8 n.b7] := rfl
theorem Nm.enc_set1 (n : Nm) (x : Value) : n.enc.setIfInBounds 1 x = #[U8 n.b0, x, U8 n.b2, U8 n.b3, U8 n.b4, U8 n.b5, U8 n.b6, U8 n.b7] := rfl
theorem Nm.enc_set2 (n : Nm) (x : Value) : n.enc.setIfInBounds 2 x = #[U8 n.b0, U8 n.b1, x, U8 n.b3, U8 n.b4, U8 n.b5, U8 n.b6, U8 n.b7] := rfl
theorem Nm.enc_set3 (n : Nm) (x : Value) : n.enc.setIfInBounds 3 x = #[U8 n.b0, U8 n.b1, U8 n.b2, x, U8 n.b4, U8 n.b5, U8 n.b6, U8 n.b7] := rfl
theorem Nm.enc_set4 (n : Nm) (x : Value) : n.enc.setIfInBounds 4 x = #[U8 n.b0, U8 n.b1, U8 n.b2, U8 n.b3, x, U8 n.b5, U8 n.b6, U8 n.b7] := rfl
theorem Nm.enc_set5 (n : Nm) (x : Value) : n.enc.setIfInBounds 5 x = #[U8 n.b0, U8 n.b1, U8 n.b2, U8 n.b3, U8 n.b4, x, U8 n.b6, U8 n.b7] := rfl
theorem Nm.enc_set6 (n : Nm) (x : Value) : n.enc.setIfInBounds 6 x = #[U8 n.b0, U8 n.b1, U8 n.b2, U8 n.b3, U8 n.b4, U8 n.b5, x, U8 n.b7] := rfl
theorem Nm.enc_set7 (n : Nm) (x : Value) : n.enc.setIfInBounds 7 x = #[U8 n.b0, U8 n.b1, U8 n.b2, U8 n.b3, U8 n.b4, U8 n.b5, U8 n.b6, x] := rfl
attribute [simp] Nm.enc_set0 Nm.enc_set1 Nm.enc_set2 Nm.enc_set3 Nm.enc_set4 Nm.enc_set5 Nm.enc_set6 Nm.enc_set7
theorem Ky.enc_set0 (k : Ky) (x : Value) : k.enc.setIfInBounds 0 x = #[x, U16 k.cart, U8 k.item.b0, U8 k.item.b1, U8 k.item.b2, U8 k.item.b3, U8 k.item.b4, U8 k.item.b5, U8 k.item.b6, U8 k.item.b7, U8 k.rep, U32 k.seq] := rfl
theorem Ky.enc_set1 (k : Ky) (x : Value) : k.enc.setIfInBounds 1 x = #[U8 k.sort, x, U8 k.item.b0, U8 k.item.b1, U8 k.item.b2, U8 k.item.b3, U8 k.item.b4, U8 k.item.b5, U8 k.item.b6, U8 k.item.b7, U8 k.rep, U32 k.seq] := rfl
theorem Ky.enc_set2 (k : Ky) (x : Value) : k.enc.setIfInBounds 2 x = #[U8 k.sort, U16 k.cart, x, U8 k.item.b1, U8 k.item.b2, U8 k.item.b3, U8 k.item.b4, U8 k.item.b5, U8 k.item.b6, U8 k.item.b7, U8 k.rep, U32 k.seq] := rfl
theorem Ky.enc_set3 (k : Ky) (x : Value) : k.enc.setIfInBounds 3 x = #[U8 k.sort, U16 k.cart, U8 k.item.b0, x, U8 k.item.b2, U8 k.item.b3, U8 k.item.b4, U8 k.item.b5, U8 k.item.b6, U8 k.item.b7, U8 k.rep, U32 k.seq] := rfl
theorem Ky.enc_set4 (k : Ky) (x : Value) : k.enc.setIfInBounds 4 x = #[U8 k.sort, U16 k.cart, U8 k.item.b0, U8 k.item.b1, x, U8 k.item.b3, U8 k.item.b4, U8 k.item.b5, U8 k.item.b6, U8 k.item.b7, U8 k.rep, U32 k.seq] := rfl
theorem Ky.enc_set5 (k : Ky) (x : Value) : k.enc.setIfInBounds 5 x = #[U8 k.sort, U16 k.cart, U8 k.item.b0, U8 k.item.b1, U8 k.item.b2, x, U8 k.item.b4, U8 k.item.b5, U8 k.item.b6, U8 k.item.b7, U8 k.rep, U32 k.seq] := rfl
theorem Ky.enc_set6 (k : Ky) (x : Value) : k.enc.setIfInBounds 6 x = #[U8 k.sort, U16 k.cart, U8 k.item.b0, U8 k.item.b1, U8 k.item.b2, U8 k.item.b3, x, U8 k.item.b5, U8 k.item.b6, U8 k.item.b7, U8 k.rep, U32 k.seq] := rfl
theorem Ky.enc_set7 (k : Ky) (x : Value) : k.enc.setIfInBounds 7 x = #[U8 k.sort, U16 k.cart, U8 k.item.b0, U8 k.item.b1, U8 k.item.b2, U8 k.item.b3, U8 k.item.b4, x, U8 k.item.b6, U8 k.item.b7, U8 k.rep, U32 k.seq] := rfl
theorem Ky.enc_set8 (k : Ky) (x : Value) : k.enc.setIfInBounds 8 x = #[U8 k.sort, U16 k.cart, U8 k.item.b0, U8 k.item.b1, U8 k.item.b2, U8 k.item.b3, U8 k.item.b4, U8 k.item.b5, x, U8 k.item.b7, U8 k.rep, U32 k.seq] := rfl
theorem Ky.enc_set9 (k : Ky) (x : Value) : k.enc.setIfInBounds 9 x = #[U8 k.sort, U16 k.cart, U8 k.item.b0, U8 k.item.b1, U8 k.item.b2, U8 k.item.b3, U8 k.item.b4, U8 k.item.b5, U8 k.item.b6, x, U8 k.rep, U32 k.seq] := rfl
theorem Ky.enc_set10 (k : Ky) (x : Value) : k.enc.setIfInBounds 10 x = #[U8 k.sort, U16 k.cart, U8 k.item.b0, U8 k.item.b1, U8 k.item.b2, U8 k.item.b3, U8 k.item.b4, U8 k.item.b5, U8 k.item.b6, U8 k.item.b7, x, U32 k.seq] := rfl
theorem Ky.enc_set11 (k : Ky) (x : Value) : k.enc.setIfInBounds 11 x = #[U8 k.sort, U16 k.cart, U8 k.item.b0, U8 k.item.b1, U8 k.item.b2, U8 k.item.b3, U8 k.item.b4, U8 k.item.b5, U8 k.item.b6, U8 k.item.b7, U8 k.rep, x] := rfl
attribute [simp] Ky.enc_set0 Ky.enc_set1 Ky.enc_set2 Ky.enc_set3 Ky.enc_set4 Ky.enc_set5 Ky.enc_set6 Ky.enc_set7 Ky.enc_set8 Ky.enc_set9 Ky.enc_set10 Ky.enc_set11
theorem Vl.enc_set0 (v : Vl) (x : Value) : v.enc.setIfInBounds 0 x = #[x, U8 v.text.b0, U8 v.text.b1, U8 v.text.b2, U8 v.text.b3, U8 v.text.b4, U8 v.text.b5, U8 v.text.b6, U8 v.text.b7] := rfl
theorem Vl.enc_set1 (v : Vl) (x : Value) : v.enc.setIfInBounds 1 x = #[U64 v.n, x, U8 v.text.b1, U8 v.text.b2, U8 v.text.b3, U8 v.text.b4, U8 v.text.b5, U8 v.text.b6, U8 v.text.b7] := rfl
theorem Vl.enc_set2 (v : Vl) (x : Value) : v.enc.setIfInBounds 2 x = #[U64 v.n, U8 v.text.b0, x, U8 v.text.b2, U8 v.text.b3, U8 v.text.b4, U8 v.text.b5, U8 v.text.b6, U8 v.text.b7] := rfl
theorem Vl.enc_set3 (v : Vl) (x : Value) : v.enc.setIfInBounds 3 x = #[U64 v.n, U8 v.text.b0, U8 v.text.b1, x, U8 v.text.b3, U8 v.text.b4, U8 v.text.b5, U8 v.text.b6, U8 v.text.b7] := rfl
theorem Vl.enc_set4 (v : Vl) (x : Value) : v.enc.setIfInBounds 4 x = #[U64 v.n, U8 v.text.b0, U8 v.text.b1, U8 v.text.b2, x, U8 v.text.b4, U8 v.text.b5, U8 v.text.b6, U8 v.text.b7] := rfl
theorem Vl.enc_set5 (v : Vl) (x : Value) : v.enc.setIfInBounds 5 x = #[U64 v.n, U8 v.text.b0, U8 v.text.b1, U8 v.text.b2, U8 v.text.b3, x, U8 v.text.b5, U8 v.text.b6, U8 v.text.b7] := rfl
theorem Vl.enc_set6 (v : Vl) (x : Value) : v.enc.setIfInBounds 6 x = #[U64 v.n, U8 v.text.b0, U8 v.text.b1, U8 v.text.b2, U8 v.text.b3, U8 v.text.b4, x, U8 v.text.b6, U8 v.text.b7] := rfl
theorem Vl.enc_set7 (v : Vl) (x : Value) : v.enc.setIfInBounds 7 x = #[U64 v.n, U8 v.text.b0, U8 v.text.b1, U8 v.text.b2, U8 v.text.b3, U8 v.text.b4, U8 v.text.b5, x, U8 v.text.b7] := rfl
theorem Vl.enc_set8 (v : Vl) (x : Value) : v.enc.setIfInBounds 8 x = #[U64 v.n, U8 v.text.b0, U8 v.text.b1, U8 v.text.b2, U8 v.text.b3, U8 v.text.b4, U8 v.text.b5, U8 v.text.b6, x] := rfl
attribute [simp] Vl.enc_set0 Vl.enc_set1 Vl.enc_set2 Vl.enc_set3 Vl.enc_set4 Vl.enc_set5 Vl.enc_set6 Vl.enc_set7 Vl.enc_set8
theorem At.enc_set0 (a : At) (x : Value) : a.enc.setIfInBounds 0 x = #[x, U16 a.k.cart, U8 a.k.item.b0, U8 a.k.item.b1, U8 a.k.item.b2, U8 a.k.item.b3, U8 a.k.item.b4, U8 a.k.item.b5, U8 a.k.item.b6, U8 a.k.item.b7, U8 a.k.rep, U32 a.k.seq, U64 a.v.n, U8 a.v.text.b0, U8 a.v.text.b1, U8 a.v.text.b2, U8 a.v.text.b3, U8 a.v.text.b4, U8 a.v.text.b5, U8 a.v.text.b6, U8 a.v.text.b7] := rfl
theorem At.enc_set1 (a : At) (x : Value) : a.enc.setIfInBounds 1 x = #[U8 a.k.sort, x, U8 a.k.item.b0, U8 a.k.item.b1, U8 a.k.item.b2, U8 a.k.item.b3, U8 a.k.item.b4, U8 a.k.item.b5, U8 a.k.item.b6, U8 a.k.item.b7, U8 a.k.rep, U32 a.k.seq, U64 a.v.n, U8 a.v.text.b0, U8 a.v.text.b1, U8 a.v.text.b2, U8 a.v.text.b3, U8 a.v.text.b4, U8 a.v.text.b5, U8 a.v.text.b6, U8 a.v.text.b7] := rfl
theorem At.enc_set2 (a : At) (x : Value) : a.enc.setIfInBounds 2 x = #[U8 a.k.sort, U16 a.k.cart, x, U8 a.k.item.b1, U8 a.k.item.b2, U8 a.k.item.b3, U8 a.k.item.b4, U8 a.k.item.b5, U8 a.k.item.b6, U8 a.k.item.b7, U8 a.k.rep, U32 a.k.seq, U64 a.v.n, U8 a.v.text.b0, U8 a.v.text.b1, U8 a.v.text.b2, U8 a.v.text.b3, U8 a.v.text.b4, U8 a.v.text.b5, U8 a.v.text.b6, U8 a.v.text.b7] := rfl
theorem At.enc_set3 (a : At) (x : Value) : a.enc.setIfInBounds 3 x = #[U8 a.k.sort, U16 a.k.cart, U8 a.k.item.b0, x, U8 a.k.item.b2, U8 a.k.item.b3, U8 a.k.item.b4, U8 a.k.item.b5, U8 a.k.item.b6, U8 a.k.item.b7, U8 a.k.rep, U32 a.k.seq, U64 a.v.n, U8 a.v.text.b0, U8 a.v.text.b1, U8 a.v.text.b2, U8 a.v.text.b3, U8 a.v.text.b4, U8 a.v.text.b5, U8 a.v.text.b6, U8 a.v.text.b7] := rfl
theorem At.enc_set4 (a : At) (x : Value) : a.enc.setIfInBounds 4 x = #[U8 a.k.sort, U16 a.k.cart, U8 a.k.item.b0, U8 a.k.item.b1, x, U8 a.k.item.b3, U8 a.k.item.b4, U8 a.k.item.b5, U8 a.k.item.b6, U8 a.k.item.b7, U8 a.k.rep, U32 a.k.seq, U64 a.v.n, U8 a.v.text.b0, U8 a.v.text.b1, U8 a.v.text.b2, U8 a.v.text.b3, U8 a.v.text.b4, U8 a.v.text.b5, U8 a.v.text.b6, U8 a.v.text.b7] := rfl
theorem At.enc_set5 (a : At) (x : Value) : a.enc.setIfInBounds 5 x = #[U8 a.k.sort, U16 a.k.cart, U8 a.k.item.b0, U8 a.k.item.b1, U8 a.k.item.b2, x, U8 a.k.item.b4, U8 a.k.item.b5, U8 a.k.item.b6, U8 a.k.item.b7, U8 a.k.rep, U32 a.k.seq, U64 a.v.n, U8 a.v.text.b0, U8 a.v.text.b1, U8 a.v.text.b2, U8 a.v.text.b3, U8 a.v.text.b4, U8 a.v.text.b5, U8 a.v.text.b6, U8 a.v.text.b7] := rfl
theorem At.enc_set6 (a : At) (x : Value) : a.enc.setIfInBounds 6 x = #[U8 a.k.sort, U16 a.k.cart, U8 a.k.item.b0, U8 a.k.item.b1, U8 a.k.item.b2, U8 a.k.item.b3, x, U8 a.k.item.b5, U8 a.k.item.b6, U8 a.k.item.b7, U8 a.k.rep, U32 a.k.seq, U64 a.v.n, U8 a.v.text.b0, U8 a.v.text.b1, U8 a.v.text.b2, U8 a.v.text.b3, U8 a.v.text.b4, U8 a.v.text.b5, U8 a.v.text.b6, U8 a.v.text.b7] := rfl
theorem At.enc_set7 (a : At) (x : Value) : a.enc.setIfInBounds 7 x = #[U8 a.k.sort, U16 a.k.cart, U8 a.k.item.b0, U8 a.k.item.b1, U8 a.k.item.b2, U8 a.k.item.b3, U8 a.k.item.b4, x, U8 a.k.item.b6, U8 a.k.item.b7, U8 a.k.rep, U32 a.k.seq, U64 a.v.n, U8 a.v.text.b0, U8 a.v.text.b1, U8 a.v.text.b2, U8 a.v.text.b3, U8 a.v.text.b4, U8 a.v.text.b5, U8 a.v.text.b6, U8 a.v.text.b7] := rfl
theorem At.enc_set8 (a : At) (x : Value) : a.enc.setIfInBounds 8 x = #[U8 a.k.sort, U16 a.k.cart, U8 a.k.item.b0, U8 a.k.item.b1, U8 a.k.item.b2, U8 a.k.item.b3, U8 a.k.item.b4, U8 a.k.item.b5, x, U8 a.k.item.b7, U8 a.k.rep, U32 a.k.seq, U64 a.v.n, U8 a.v.text.b0, U8 a.v.text.b1, U8 a.v.text.b2, U8 a.v.text.b3, U8 a.v.text.b4, U8 a.v.text.b5, U8 a.v.text.b6, U8 a.v.text.b7] := rfl
theorem At.enc_set9 (a : At) (x : Value) : a.enc.setIfInBounds 9 x = #[U8 a.k.sort, U16 a.k.cart, U8 a.k.item.b0, U8 a.k.item.b1, U8 a.k.item.b2, U8 a.k.item.b3, U8 a.k.item.b4, U8 a.k.item.b5, U8 a.k.item.b6, x, U8 a.k.rep, U32 a.k.seq, U64 a.v.n, U8 a.v.text.b0, U8 a.v.text.b1, U8 a.v.text.b2, U8 a.v.text.b3, U8 a.v.text.b4, U8 a.v.text.b5, U8 a.v.text.b6, U8 a.v.text.b7] := rfl
theorem At.enc_set10 (a : At) (x : Value) : a.enc.setIfInBounds 10 x = #[U8 a.k.sort, U16 a.k.cart, U8 a.k.item.b0, U8 a.k.item.b1, U8 a.k.item.b2, U8 a.k.item.b3, U8 a.k.item.b4, U8 a.k.item.b5, U8 a.k.item.b6, U8 a.k.item.b7, x, U32 a.k.seq, U64 a.v.n, U8 a.v.text.b0, U8 a.v.text.b1, U8 a.v.text.b2, U8 a.v.text.b3, U8 a.v.text.b4, U8 a.v.text.b5, U8 a.v.text.b6, U8 a.v.text.b7] := rfl
theorem At.enc_set11 (a : At) (x : Value) : a.enc.setIfInBounds 11 x = #[U8 a.k.sort, U16 a.k.cart, U8 a.k.item.b0, U8 a.k.item.b1, U8 a.k.item.b2, U8 a.k.item.b3, U8 a.k.item.b4, U8 a.k.item.b5, U8 a.k.item.b6, U8 a.k.item.b7, U8 a.k.rep, x, U64 a.v.n, U8 a.v.text.b0, U8 a.v.text.b1, U8 a.v.text.b2, U8 a.v.text.b3, U8 a.v.text.b4, U8 a.v.text.b5, U8 a.v.text.b6, U8 a.v.text.b7] := rfl
theorem At.enc_set12 (a : At) (x : Value) : a.enc.setIfInBounds 12 x = #[U8 a.k.sort, U16 a.k.cart, U8 a.k.item.b0, U8 a.k.item.b1, U8 a.k.item.b2, U8 a.k.item.b3, U8 a.k.item.b4, U8 a.k.item.b5, U8 a.k.item.b6, U8 a.k.item.b7, U8 a.k.rep, U32 a.k.seq, x, U8 a.v.text.b0, U8 a.v.text.b1, U8 a.v.text.b2, U8 a.v.text.b3, U8 a.v.text.b4, U8 a.v.text.b5, U8 a.v.text.b6, U8 a.v.text.b7] := rfl
theorem At.enc_set13 (a : At) (x : Value) : a.enc.setIfInBounds 13 x = #[U8 a.k.sort, U16 a.k.cart, U8 a.k.item.b0, U8 a.k.item.b1, U8 a.k.item.b2, U8 a.k.item.b3, U8 a.k.item.b4, U8 a.k.item.b5, U8 a.k.item.b6, U8 a.k.item.b7, U8 a.k.rep, U32 a.k.seq, U64 a.v.n, x, U8 a.v.text.b1, U8 a.v.text.b2, U8 a.v.text.b3, U8 a.v.text.b4, U8 a.v.text.b5, U8 a.v.text.b6, U8 a.v.text.b7] := rfl
theorem At.enc_set14 (a : At) (x : Value) : a.enc.setIfInBounds 14 x = #[U8 a.k.sort, U16 a.k.cart, U8 a.k.item.b0, U8 a.k.item.b1, U8 a.k.item.b2, U8 a.k.item.b3, U8 a.k.item.b4, U8 a.k.item.b5, U8 a.k.item.b6, U8 a.k.item.b7, U8 a.k.rep, U32 a.k.seq, U64 a.v.n, U8 a.v.text.b0, x, U8 a.v.text.b2, U8 a.v.text.b3, U8 a.v.text.b4, U8 a.v.text.b5, U8 a.v.text.b6, U8 a.v.text.b7] := rfl
theorem At.enc_set15 (a : At) (x : Value) : a.enc.setIfInBounds 15 x = #[U8 a.k.sort, U16 a.k.cart, U8 a.k.item.b0, U8 a.k.item.b1, U8 a.k.item.b2, U8 a.k.item.b3, U8 a.k.item.b4, U8 a.k.item.b5, U8 a.k.item.b6, U8 a.k.item.b7, U8 a.k.rep, U32 a.k.seq, U64 a.v.n, U8 a.v.text.b0, U8 a.v.text.b1, x, U8 a.v.text.b3, U8 a.v.text.b4, U8 a.v.text.b5, U8 a.v.text.b6, U8 a.v.text.b7] := rfl
theorem At.enc_set16 (a : At) (x : Value) : a.enc.setIfInBounds 16 x = #[U8 a.k.sort, U16 a.k.cart, U8 a.k.item.b0, U8 a.k.item.b1, U8 a.k.item.b2, U8 a.k.item.b3, U8 a.k.item.b4, U8 a.k.item.b5, U8 a.k.item.b6, U8 a.k.item.b7, U8 a.k.rep, U32 a.k.seq, U64 a.v.n, U8 a.v.text.b0, U8 a.v.text.b1, U8 a.v.text.b2, x, U8 a.v.text.b4, U8 a.v.text.b5, U8 a.v.text.b6, U8 a.v.text.b7] := rfl
theorem At.enc_set17 (a : At) (x : Value) : a.enc.setIfInBounds 17 x = #[U8 a.k.sort, U16 a.k.cart, U8 a.k.item.b0, U8 a.k.item.b1, U8 a.k.item.b2, U8 a.k.item.b3, U8 a.k.item.b4, U8 a.k.item.b5, U8 a.k.item.b6, U8 a.k.item.b7, U8 a.k.rep, U32 a.k.seq, U64 a.v.n, U8 a.v.text.b0, U8 a.v.text.b1, U8 a.v.text.b2, U8 a.v.text.b3, x, U8 a.v.text.b5, U8 a.v.text.b6, U8 a.v.text.b7] := rfl
theorem At.enc_set18 (a : At) (x : Value) : a.enc.setIfInBounds 18 x = #[U8 a.k.sort, U16 a.k.cart, U8 a.k.item.b0, U8 a.k.item.b1, U8 a.k.item.b2, U8 a.k.item.b3, U8 a.k.item.b4, U8 a.k.item.b5, U8 a.k.item.b6, U8 a.k.item.b7, U8 a.k.rep, U32 a.k.seq, U64 a.v.n, U8 a.v.text.b0, U8 a.v.text.b1, U8 a.v.text.b2, U8 a.v.text.b3, U8 a.v.text.b4, x, U8 a.v.text.b6, U8 a.v.text.b7] := rfl
theorem At.enc_set19 (a : At) (x : Value) : a.enc.setIfInBounds 19 x = #[U8 a.k.sort, U16 a.k.cart, U8 a.k.item.b0, U8 a.k.item.b1, U8 a.k.item.b2, U8 a.k.item.b3, U8 a.k.item.b4, U8 a.k.item.b5, U8 a.k.item.b6, U8 a.k.item.b7, U8 a.k.rep, U32 a.k.seq, U64 a.v.n, U8 a.v.text.b0, U8 a.v.text.b1, U8 a.v.text.b2, U8 a.v.text.b3, U8 a.v.text.b4, U8 a.v.text.b5, x, U8 a.v.text.b7] := rfl
theorem At.enc_set20 (a : At) (x : Value) : a.enc.setIfInBounds 20 x = #[U8 a.k.sort, U16 a.k.cart, U8 a.k.item.b0, U8 a.k.item.b1, U8 a.k.item.b2, U8 a.k.item.b3, U8 a.k.item.b4, U8 a.k.item.b5, U8 a.k.item.b6, U8 a.k.item.b7, U8 a.k.rep, U32 a.k.seq, U64 a.v.n, U8 a.v.text.b0, U8 a.v.text.b1, U8 a.v.text.b2, U8 a.v.text.b3, U8 a.v.text.b4, U8 a.v.text.b5, U8 a.v.text.b6, x] := rfl
attribute [simp] At.enc_set0 At.enc_set1 At.enc_set2 At.enc_set3 At.enc_set4 At.enc_set5 At.enc_set6 At.enc_set7 At.enc_set8 At.enc_set9 At.enc_set10 At.enc_set11 At.enc_set12 At.enc_set13 At.enc_set14 At.enc_set15 At.enc_set16 At.enc_set17 At.enc_set18 At.enc_set19 At.enc_set20
theorem W3_set0 (x y z : Nat) (v : Value) : (W3 x y z).setIfInBounds 0 v = #[v, .int .u64 (y : Int), .int .u64 (z : Int)] := rfl
theorem W3_set1 (x y z : Nat) (v : Value) : (W3 x y z).setIfInBounds 1 v = #[.int .u64 (x : Int), v, .int .u64 (z : Int)] := rfl
theorem W3_set2 (x y z : Nat) (v : Value) : (W3 x y z).setIfInBounds 2 v = #[.int .u64 (x : Int), .int .u64 (y : Int), v] := rfl
attribute [simp] W3_set0 W3_set1 W3_set2
theorem W3_zero : (#[.int .u64 0, .int .u64 0, .int .u64 0] : Array Value) = W3 0 0 0 := rfl

theorem idx31_0 (b0 b1 b2 b3 b4 b5 b6 b7 : Value) (w : World) : (Instr.index 31 (.agg #[b0, b1, b2, b3, b4, b5, b6, b7]) (.int .i64 0)).run Try.prog w = .ok b0 w := by kernel_rfl
theorem idx31_1 (b0 b1 b2 b3 b4 b5 b6 b7 : Value) (w : World) : (Instr.index 31 (.agg #[b0, b1, b2, b3, b4, b5, b6, b7]) (.int .i64 1)).run Try.prog w = .ok b1 w := by kernel_rfl
theorem idx31_2 (b0 b1 b2 b3 b4 b5 b6 b7 : Value) (w : World) : (Instr.index 31 (.agg #[b0, b1, b2, b3, b4, b5, b6, b7]) (.int .i64 2)).run Try.prog w = .ok b2 w := by kernel_rfl
theorem idx31_3 (b0 b1 b2 b3 b4 b5 b6 b7 : Value) (w : World) : (Instr.index 31 (.agg #[b0, b1, b2, b3, b4, b5, b6, b7]) (.int .i64 3)).run Try.prog w = .ok b3 w := by kernel_rfl
theorem idx31_4 (b0 b1 b2 b3 b4 b5 b6 b7 : Value) (w : World) : (Instr.index 31 (.agg #[b0, b1, b2, b3, b4, b5, b6, b7]) (.int .i64 4)).run Try.prog w = .ok b4 w := by kernel_rfl
theorem idx31_5 (b0 b1 b2 b3 b4 b5 b6 b7 : Value) (w : World) : (Instr.index 31 (.agg #[b0, b1, b2, b3, b4, b5, b6, b7]) (.int .i64 5)).run Try.prog w = .ok b5 w := by kernel_rfl
theorem idx31_6 (b0 b1 b2 b3 b4 b5 b6 b7 : Value) (w : World) : (Instr.index 31 (.agg #[b0, b1, b2, b3, b4, b5, b6, b7]) (.int .i64 6)).run Try.prog w = .ok b6 w := by kernel_rfl
theorem idx31_7 (b0 b1 b2 b3 b4 b5 b6 b7 : Value) (w : World) : (Instr.index 31 (.agg #[b0, b1, b2, b3, b4, b5, b6, b7]) (.int .i64 7)).run Try.prog w = .ok b7 w := by kernel_rfl
theorem idx31 (n : Nm) (k : Nat) (c : UInt8) (hk : k < 8) (hc : n.list.getD k 0 = c) (w : World) : (Instr.index 31 (.agg n.enc) (.int .i64 (k : Int))).run Try.prog w = .ok (U8 c) w := by
  subst hc
  have hk8 : k = 0 ∨ k = 1 ∨ k = 2 ∨ k = 3 ∨ k = 4 ∨ k = 5 ∨ k = 6 ∨ k = 7 := by omega
  rcases hk8 with rfl | rfl | rfl | rfl | rfl | rfl | rfl | rfl
  · exact idx31_0 ..
  · exact idx31_1 ..
  · exact idx31_2 ..
  · exact idx31_3 ..
  · exact idx31_4 ..
  · exact idx31_5 ..
  · exact idx31_6 ..
  · exact idx31_7 ..
theorem getD_of_lt {α : Type} (l : List α) (k : Nat) (d : α) (h : k < l.length) : l.getD k d = l[k] := by simp [List.getD, h]

end Go.Proofs.Ythidakffgcjjiaa
