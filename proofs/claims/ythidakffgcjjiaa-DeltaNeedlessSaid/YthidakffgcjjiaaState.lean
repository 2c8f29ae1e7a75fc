/- The walk of lat.state: a map's entries as a row that rises. -/
import Derived.Test.YthidakffgcjjiaaArms
namespace Go.Proofs.Ythidakffgcjjiaa
open Go.RowKit Go.Sort Go.Lib Go.Shelf
open Go.ChangeMaps (setBlock)

def atOf (p : Ky × Vl) : At := ⟨p.1, p.2⟩
def lenOfS : Value → Nat
  | .slice _ n _ => n
  | _ => 0

theorem keys_nodup {done l : List (Ky × Vl)} (hp : done.Perm l) (h : (l.map Prod.fst).Nodup) : ((done.map atOf).map (·.k)).Nodup := by
  have e : (done.map atOf).map (·.k) = done.map Prod.fst := by rw [List.map_map]; rfl
  rw [e]
  exact (hp.map Prod.fst).nodup_iff.2 h
theorem sortAt_perm_eq {l m : List At} (h : l.Perm m) (hn : (l.map (·.k)).Nodup) : sortAt l = sortAt m := sortAt_eq (sortAt_rising hn) ((sortAt_perm l).trans h)
theorem sortAt_length (l : List At) : (sortAt l).length = l.length := (sortAt_perm l).length_eq
theorem state_sort {g cap b : Nat} {done l : List (Ky × Vl)} {w : World} (hp : done.Perm l) (hO : OutAt w g cap (done.map atOf)) (hM : (l.map Prod.fst).Nodup) (hl : l.length ≤ 1048576) :
    Calls Try.prog 114 #[.slice (some ⟨g, 0, none⟩) done.length cap, .func (.func 80) #[] #[]] w fun e w' =>
      e = .returned (.tuple #[]) ∧ RowsAt w' g 0 (sortAt (l.map atOf)) ∧ (∀ w0, Ext w0 w → w0.heap.size ≤ g → Ext w0 w') ∧ w.heap.size ≤ w'.heap.size := by
  have hlen : done.length = l.length := hp.length_eq
  have hnd := keys_nodup hp hM
  have hS := sort_any g cap (done.map atOf) w hO.holds hO.lt (by rw [List.length_map]; omega) hnd
  rw [List.length_map, sortAt_perm_eq (hp.map atOf) hnd] at hS
  exact hS

section
variable {ops : Array Oper} {rest : List Oper} {o : Oper} {a : Act} {w : World} {Q : Exit → Act → World → Prop}
theorem wpList_st61b {ob : Obj} {c : Array Value} {p x : Operand} {k : Ky} (hg : o.guard = none) (ho : o.op = Op.store 61 p x) (hd : o.dst = none) (hp : a.eval p = .pointer (some ⟨w.heap.size, 0, none⟩)) (hx : a.eval x = .agg k.enc) (hc : c.size = 12)
    (hK : wpList Try.prog ops Q rest a ((w.alloc (.cells k.enc 61)).alloc ob)) : wpList Try.prog ops Q (o :: rest) a ((w.alloc (.cells c 61)).alloc ob) :=
  wpList_storeNew2 hg ho hd hp hx info61 hc k.one hK
theorem wpList_st61 {c : Array Value} {p x : Operand} {k : Ky} (hg : o.guard = none) (ho : o.op = Op.store 61 p x) (hd : o.dst = none) (hp : a.eval p = .pointer (some ⟨w.heap.size, 0, none⟩)) (hx : a.eval x = .agg k.enc) (hc : c.size = 12)
    (hK : wpList Try.prog ops Q rest a (w.alloc (.cells k.enc 61))) : wpList Try.prog ops Q (o :: rest) a (w.alloc (.cells c 61)) :=
  wpList_storeNew hg ho hd hp hx info61 hc k.one hK
theorem wpList_st67 {c : Array Value} {p x : Operand} {v : Vl} (hg : o.guard = none) (ho : o.op = Op.store 67 p x) (hd : o.dst = none) (hp : a.eval p = .pointer (some ⟨w.heap.size, 0, none⟩)) (hx : a.eval x = .agg v.enc) (hc : c.size = 9)
    (hK : wpList Try.prog ops Q rest a (w.alloc (.cells v.enc 67))) : wpList Try.prog ops Q (o :: rest) a (w.alloc (.cells c 67)) :=
  wpList_storeNew hg ho hd hp hx info67 hc v.one hK
theorem build71 (k : Ky) (v : Vl) (w : World) : (Instr.build 71 #[(0, .agg k.enc), (1, .agg v.enc)]).run Try.prog w = .ok (.agg (At.mk k v).enc) w := by kernel_rfl
theorem wpList_build71 {x y : Operand} {k : Ky} {v : Vl} (hg : o.guard = none) (ho : o.op = Op.build 71 #[(0, x), (1, y)]) (hx : a.eval x = .agg k.enc) (hy : a.eval y = .agg v.enc)
    (hK : wpList Try.prog ops Q rest (a.put o.dst (.agg (At.mk k v).enc)) w) : wpList Try.prog ops Q (o :: rest) a w := by
  refine wpList_plain hg fun K' hK' => ?_
  have : (execOp a.eval o).run Try.prog w = .ok (.value (.agg (At.mk k v).enc)) w := by
    simp only [execOp, ho, List.map_toArray, List.map_cons, List.map_nil, hx, hy, Sem.run_bind, build71, Result.andThen_ok, Sem.run_pure]
  unfold Oper.wp
  rw [this]
  exact hK' _ _ hK
theorem buildSlice71 (v : At) (w : World) : (Instr.buildSlice 22 1 #[(0, .agg v.enc)]).run Try.prog w = .ok (.slice (some ⟨w.heap.size, 0, none⟩) 1 1) (w.alloc (.cells v.enc 71)) := by kernel_rfl
theorem wpList_slice71 {x : Operand} {v : At} (hg : o.guard = none) (ho : o.op = Op.buildSlice 22 1 #[(0, x)]) (hx : a.eval x = .agg v.enc)
    (hK : wpList Try.prog ops Q rest (a.put o.dst (.slice (some ⟨w.heap.size, 0, none⟩) 1 1)) (w.alloc (.cells v.enc 71))) : wpList Try.prog ops Q (o :: rest) a w := by
  refine wpList_plain hg fun K' hK' => ?_
  have : (execOp a.eval o).run Try.prog w = .ok (.value (.slice (some ⟨w.heap.size, 0, none⟩) 1 1)) (w.alloc (.cells v.enc 71)) := by
    simp only [execOp, ho, List.map_toArray, List.map_cons, List.map_nil, hx, Sem.run_bind, buildSlice71, Result.andThen_ok, Sem.run_pure]
  unfold Oper.wp
  rw [this]
  exact hK' _ _ hK
end

set_option maxRecDepth 100000 in
set_option maxHeartbeats 1000000 in
theorem state_any (b : Nat) (l : List (Ky × Vl)) (w : World) (hM : MapAt w b l) (hl : l.length ≤ 1048576) :
    Calls Try.prog 75 #[.map (some b)] w fun e w' => ∃ v, e = .returned v ∧ Rows w' v (sortAt (l.map atOf)) ∧ Ext w w' ∧ ∃ n cap, v = .slice (some ⟨w.heap.size, 0, none⟩) n cap := by
  have hb := hM.lt
  have HM := Lib.hid hM; clear hM
  go_enter Try.func75, Try.ntmps75
  go_wp2_with (first | (refine wpList_len82 rfl rfl rfl HM.out ?_) | (refine wpList_make71 rfl rfl rfl rfl hl ?_; intro cs hO; have HO := Lib.hid hO; clear hO) | (at_range; refine wpList_range82 rfl rfl rfl (HM.out.ext (by repeat (first | (with_reducible exact Ext.refl _) | (with_reducible refine Ext.alloc ?_ _) | (with_reducible refine Ext.grow ?_ _) | (with_reducible refine Ext.drewN ?_ _) | (with_reducible refine Ext.drew ?_)))) ?_; intro ob hI; have HI := Lib.hid hI; clear hI; obtain ⟨r, hr⟩ : ∃ r, (w.alloc (.cells cs 71)).heap.size = r := ⟨_, rfl⟩; rw [hr] at HI ⊢; have hr2 : w.heap.size + 1 = r := by rw [← hr]; simp; done))
  go_frame
  go_loopw [3] (fun s wr => ∃ done, s = .slice (some ⟨w.heap.size, 0, none⟩) done.length l.length ∧ IterAt wr r b l done ∧ OutAt wr w.heap.size l.length (done.map atOf) ∧ Ext w wr) (fun s _ => l.length - lenOfS s)
  case atStart =>
    exact ⟨[], rfl, by simpa using HI.out, (HO.out.ext (by repeat (first | (with_reducible exact Ext.refl _) | (with_reducible refine Ext.alloc ?_ _) | (with_reducible refine Ext.grow ?_ _) | (with_reducible refine Ext.drewN ?_ _) | (with_reducible refine Ext.drew ?_)))), (by repeat (first | (with_reducible exact Ext.refl _) | (with_reducible refine Ext.alloc ?_ _) | (with_reducible refine Ext.grow ?_ _) | (with_reducible refine Ext.drewN ?_ _) | (with_reducible refine Ext.drew ?_)))⟩
  case round =>
    obtain ⟨done, rfl, hI, hO, hE⟩ := hrel
    have HI2 := Lib.hid hI
    have HO2 := Lib.hid hO
    have HE := Lib.hid hE
    have hcnt := hI.count
    clear hI hO
    go_wp2_with (at_next; refine wpList_next82 rfl rfl rfl HI2.out ?_ ?_)
    · intro hp
      have HL := Lib.hid hp.length_eq
      have HP := Lib.hid hp; clear hp
      have hS := state_sort (b := b) HP.out HO2.out HM.out.nodup hl
      have HS := Lib.hid hS; clear hS
      go_wp2_with (go_at_call 114; refine HS.out.mono ?_; rintro e w' ⟨rfl, hrr, hx, hsz⟩; have HR := Lib.hid hrr; clear hrr; have HX := Lib.hid (hx w HE.out (Nat.le_refl _)); clear hx)
      go_ret
      refine ⟨.slice (some ⟨w.heap.size, 0, none⟩) done.length l.length, rfl, .inr ⟨w.heap.size, 0, l.length, ?_, ?_, ?_, HR.out⟩, HX.out, _, _, rfl⟩
      · rw [sortAt_length, List.length_map, HL.out]
      · exact Nat.lt_of_lt_of_le HO2.out.lt hsz
      · rw [sortAt_length, List.length_map]; omega
    · intro k v w' hI' hE' hk hsz hen
      have HI3 := Lib.hid hI'; clear hI'
      have HE3 := Lib.hid (hE' w HE.out (by omega)); clear hE'
      have HO3 := Lib.hid (HO2.out.kept (hk w.heap.size (by omega))); clear hk
      have hroom : (done.map atOf).length + 1 ≤ l.length := by
        have := HI3.out.count
        simp only [List.length_append, List.length_cons, List.length_nil, List.length_map] at this ⊢
        omega
      have HO5 := Lib.hid (((HO3.out.ext ((Ext.refl w').alloc (.cells k.enc 61))).ext ((Ext.refl _).alloc (.cells v.enc 67))).ext ((Ext.refl _).alloc (.cells (At.mk k v).enc 71)))
      have hC5 := C21.new (At.mk k v) ((w'.alloc (.cells k.enc 61)).alloc (.cells v.enc 67))
      simp only [World.size_alloc, hsz] at hC5
      have HC5 := Lib.hid hC5; clear hC5
      go_wp2_with (first | (refine wpList_build71 (k := k) (v := v) rfl rfl rfl rfl ?_) | (refine wpList_slice71 (v := At.mk k v) rfl rfl rfl ?_) | (refine wpList_append71 (g := w.heap.size) (cap := l.length) (b := wr.heap.size + 1 + 1) (n := done.length) (d := done.map atOf) (v := At.mk k v) rfl rfl ?_ ?_ ?_ ?_ ?_ ?_ ?_))
      · exact HO5.out
      · rw [List.length_map]
      · exact HC5.out
      · exact hroom
      · intro cs2 hO6
        have HO6 := Lib.hid hO6; clear hO6
        go_wp2
        go_round
        case rel =>
          refine ⟨done ++ [(k, v)], ?_, ?_, ?_, ?_⟩
          · simp
          · have h1 := ((HI3.out.ext ((Ext.refl w').alloc (.cells k.enc 61))).ext ((Ext.refl _).alloc (.cells v.enc 67))).ext ((Ext.refl _).alloc (.cells (At.mk k v).enc 71))
            exact h1.kept (setRow_other _ _ _ _ (by omega)) (setRow_other _ _ _ _ (by omega))
          · have := HO6.out
            simpa [atOf] using this
          · exact (((HE3.out.alloc _).alloc _).alloc _).setRow (Nat.le_refl _) _
        case measure =>
          have := HI3.out.count
          simp only [List.length_append, List.length_cons, List.length_nil, List.length_map] at this
          simp [lenOfS]
          omega
end Go.Proofs.Ythidakffgcjjiaa
