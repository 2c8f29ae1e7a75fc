/- The walks of slices.Equal at rows of atoms and of lat.Right: what they return. -/
import Derived.Test.YthidakffgcjjiaaLines
import Derived.Deep.WholeRow
namespace Go.Proofs.Ythidakffgcjjiaa
open Go.RowKit Go.Sort

set_option maxRecDepth 100000 in
set_option maxHeartbeats 1000000 in
theorem equal_any (va vb : Value) (la lb : List At) (w : World) (ha : Rows w va la) (hb : Rows w vb lb) :
    Calls Try.prog 78 #[va, vb] w fun e w' => e = .returned (.bool (decide (la = lb))) ∧ Ext w w' := by
  have hm := Try.mixed
  by_cases hlen : la.length = lb.length
  · rcases ha with ⟨rfl, rfl⟩ | ⟨ba, oa, ca, rfl, hba, hsa, hra⟩
    · obtain rfl : lb = [] := List.length_eq_zero_iff.1 hlen.symm
      obtain ⟨pb, cb, rfl⟩ := hb.len
      clear hb hlen
      go_enter Try.func78, Try.ntmps78
      go_wp2
      go_loopw [13] (fun i wr => i = .int .i64 0 ∧ wr = w) (fun _ _ => 0)
      case atStart => exact ⟨rfl, rfl⟩
      case round =>
        obtain ⟨rfl, rfl⟩ := hrel
        go_wp2
        go_ret
        exact ⟨rfl, Ext.refl _⟩
    · rcases hb with ⟨rfl, rfl⟩ | ⟨bb, ob, cb, rfl, hbb, hsb, hrb⟩
      · obtain rfl : la = [] := List.length_eq_zero_iff.1 hlen
        clear hra hlen
        go_enter Try.func78, Try.ntmps78
        go_wp2
        go_loopw [13] (fun i wr => i = .int .i64 0 ∧ wr = w) (fun _ _ => 0)
        case atStart => exact ⟨rfl, rfl⟩
        case round =>
          obtain ⟨rfl, rfl⟩ := hrel
          go_wp2
          go_ret
          exact ⟨rfl, Ext.refl _⟩
      · have HA := Lib.hid hra; clear hra
        have HB := Lib.hid hrb; clear hrb
        go_enter Try.func78, Try.ntmps78
        go_wp2
        go_loopw [13] (fun i wr => ∃ k : Nat, k ≤ la.length ∧ i = .int .i64 k ∧ la.take k = lb.take k ∧ Ext w wr) (fun i _ => la.length - (intOf i).toNat)
        case atStart => exact ⟨0, Nat.zero_le _, rfl, rfl, Ext.refl w⟩
        case round =>
          obtain ⟨k, hk, rfl, ht, hE⟩ := hrel
          have HT := Lib.hid ht; clear ht
          have HE := Lib.hid hE
          by_cases hlt : k < la.length
          · have hl1 := (HA.out.ext hba hE).c21 k hlt
            have hl2 := (HB.out.ext hbb hE).c21 k (by omega)
            have hkb : (k : Int) < lb.length := by omega
            have hka : (k : Int) < la.length := by omega
            obtain ⟨x, hx⟩ : ∃ x, la[k] = x := ⟨_, rfl⟩
            obtain ⟨y, hy⟩ : ∃ y, lb[k]'(by omega) = y := ⟨_, rfl⟩
            rw [hx] at hl1
            rw [hy] at hl2
            have HX := Lib.hid hx; have HY := Lib.hid hy; clear hx hy
            obtain ⟨o1, ho1⟩ : ∃ o, oa + k * 21 = o := ⟨_, rfl⟩
            obtain ⟨o2, ho2⟩ : ∃ o, ob + k * 21 = o := ⟨_, rfl⟩
            rw [ho1] at hl1
            rw [ho2] at hl2
            have HL1 := Lib.hid hl1; have HL2 := Lib.hid hl2; clear hl1 hl2
            have hwa : ba < wr.heap.size := Nat.lt_of_lt_of_le hba hE.size
            have hwb : bb < wr.heap.size := Nat.lt_of_lt_of_le hbb hE.size
            by_cases hxy : x = y
            · have hd : decide (x = y) = true := by simp [hxy]
              have HXY := Lib.hid hxy; clear hxy
              go_wp2
              refine wp_region_drawn 9 (fun i v W => match i with
                  | 0 => v = .slice (some ⟨ba, oa, none⟩) la.length ca
                  | 1 => v = .int .i64 k
                  | 2 => v = .pointer (some ⟨ba, o1, none⟩)
                  | 3 => v = .agg x.enc
                  | 4 => v = .slice (some ⟨bb, ob, none⟩) lb.length cb
                  | 5 => v = .int .i64 k
                  | 6 => v = .pointer (some ⟨bb, o2, none⟩)
                  | 7 => v = .agg y.enc
                  | 8 => v = .bool false
                  | _ => True) (fun vs => ⟨#[.slice (some ⟨ba, oa, none⟩) la.length ca, .slice (some ⟨bb, ob, none⟩) lb.length cb, undef, undef, u4, .int .i64 k, .slice (some ⟨ba, oa, none⟩) la.length ca, .int .i64 lb.length, .slice (some ⟨bb, ob, none⟩) lb.length cb, .int .i64 lb.length, .bool false, .slice (some ⟨ba, oa, none⟩) la.length ca, .int .i64 lb.length, .int .i64 k, .bool true, .int .i64 k, vs 0, vs 1, vs 2, vs 3, vs 4, vs 5, vs 6, vs 7, vs 8, u25], []⟩) Try.mixed (by kernel_rfl) (fun vs => by kernel_rfl) (fun i hi v w1 w2 h1 h2 h => ?_) ?_ ?_
              · split at h <;> first | exact h | trivial
              · simp only [List.take_succ_cons, List.take_zero]
                refine ⟨?_, ?_, ?_, ?_, ?_, ?_, ?_, ?_, ?_, trivial⟩
                · intro vs w' hE hp
                  refine soft_plain rfl (soft_val rfl ?_)
                  go_simp
                · intro vs w' hE hp
                  refine soft_plain rfl (soft_val rfl ?_)
                  go_simp
                · intro vs w' hE hp
                  have p0 : vs 0 = _ := hp 0 (by kernel_rfl)
                  have p1 : vs 1 = _ := hp 1 (by kernel_rfl)
                  refine soft_plain rfl (soft_val rfl ?_)
                  go_simp
                · intro vs w' hE hp
                  have p2 : vs 2 = _ := hp 2 (by kernel_rfl)
                  have hc := hE.bcell
                  refine soft_plain rfl (soft_val rfl (C21.exec (HL1.out.ext hwa hE) rfl p2))
                · intro vs w' hE hp
                  refine soft_plain rfl (soft_val rfl ?_)
                  go_simp
                · intro vs w' hE hp
                  refine soft_plain rfl (soft_val rfl ?_)
                  go_simp
                · intro vs w' hE hp
                  have p4 : vs 4 = _ := hp 4 (by kernel_rfl)
                  have p5 : vs 5 = _ := hp 5 (by kernel_rfl)
                  refine soft_plain rfl (soft_val rfl ?_)
                  go_simp
                · intro vs w' hE hp
                  have p6 : vs 6 = _ := hp 6 (by kernel_rfl)
                  have hc := hE.bcell
                  refine soft_plain rfl (soft_val rfl (C21.exec (HL2.out.ext hwb hE) rfl p6))
                · intro vs w' hE hp
                  have p3 : vs 3 = _ := hp 3 (by kernel_rfl)
                  have p7 : vs 7 = _ := hp 7 (by kernel_rfl)
                  refine soft_plain rfl (soft_val rfl ?_)
                  go_simp
              · rintro vs w' hE hv
                have p0 : vs 0 = _ := hv 0 (by decide)
                have p1 : vs 1 = _ := hv 1 (by decide)
                have p2 : vs 2 = _ := hv 2 (by decide)
                have p3 : vs 3 = _ := hv 3 (by decide)
                have p4 : vs 4 = _ := hv 4 (by decide)
                have p5 : vs 5 = _ := hv 5 (by decide)
                have p6 : vs 6 = _ := hv 6 (by decide)
                have p7 : vs 7 = _ := hv 7 (by decide)
                have p8 : vs 8 = _ := hv 8 (by decide)
                simp only [List.drop_succ_cons, List.drop_zero, p0, p1, p2, p3, p4, p5, p6, p7, p8]
                clear hv p0 p1 p2 p3 p4 p5 p6 p7 p8
                have hE' := HE.out.trans hE
                go_wp2
                go_round
                case rel =>
                  refine ⟨k + 1, by omega, by go_num, ?_, hE'⟩
                  rw [List.take_succ_eq_append_getElem hlt, List.take_succ_eq_append_getElem (by omega), HX.out, HY.out, HT.out, HXY.out]
                case measure => simp [intOf]; omega
            · have hd : decide (x = y) = false := by simp [hxy]
              have HXY := Lib.hid hxy; clear hxy
              go_wp2
              refine wp_region_drawn 9 (fun i v W => match i with
                  | 0 => v = .slice (some ⟨ba, oa, none⟩) la.length ca
                  | 1 => v = .int .i64 k
                  | 2 => v = .pointer (some ⟨ba, o1, none⟩)
                  | 3 => v = .agg x.enc
                  | 4 => v = .slice (some ⟨bb, ob, none⟩) lb.length cb
                  | 5 => v = .int .i64 k
                  | 6 => v = .pointer (some ⟨bb, o2, none⟩)
                  | 7 => v = .agg y.enc
                  | 8 => v = .bool true
                  | _ => True) (fun vs => ⟨#[.slice (some ⟨ba, oa, none⟩) la.length ca, .slice (some ⟨bb, ob, none⟩) lb.length cb, undef, undef, u4, .int .i64 k, .slice (some ⟨ba, oa, none⟩) la.length ca, .int .i64 lb.length, .slice (some ⟨bb, ob, none⟩) lb.length cb, .int .i64 lb.length, .bool false, .slice (some ⟨ba, oa, none⟩) la.length ca, .int .i64 lb.length, .int .i64 k, .bool true, .int .i64 k, vs 0, vs 1, vs 2, vs 3, vs 4, vs 5, vs 6, vs 7, vs 8, u25], []⟩) Try.mixed (by kernel_rfl) (fun vs => by kernel_rfl) (fun i hi v w1 w2 h1 h2 h => ?_) ?_ ?_
              · split at h <;> first | exact h | trivial
              · simp only [List.take_succ_cons, List.take_zero]
                refine ⟨?_, ?_, ?_, ?_, ?_, ?_, ?_, ?_, ?_, trivial⟩
                · intro vs w' hE hp
                  refine soft_plain rfl (soft_val rfl ?_)
                  go_simp
                · intro vs w' hE hp
                  refine soft_plain rfl (soft_val rfl ?_)
                  go_simp
                · intro vs w' hE hp
                  have p0 : vs 0 = _ := hp 0 (by kernel_rfl)
                  have p1 : vs 1 = _ := hp 1 (by kernel_rfl)
                  refine soft_plain rfl (soft_val rfl ?_)
                  go_simp
                · intro vs w' hE hp
                  have p2 : vs 2 = _ := hp 2 (by kernel_rfl)
                  have hc := hE.bcell
                  refine soft_plain rfl (soft_val rfl (C21.exec (HL1.out.ext hwa hE) rfl p2))
                · intro vs w' hE hp
                  refine soft_plain rfl (soft_val rfl ?_)
                  go_simp
                · intro vs w' hE hp
                  refine soft_plain rfl (soft_val rfl ?_)
                  go_simp
                · intro vs w' hE hp
                  have p4 : vs 4 = _ := hp 4 (by kernel_rfl)
                  have p5 : vs 5 = _ := hp 5 (by kernel_rfl)
                  refine soft_plain rfl (soft_val rfl ?_)
                  go_simp
                · intro vs w' hE hp
                  have p6 : vs 6 = _ := hp 6 (by kernel_rfl)
                  have hc := hE.bcell
                  refine soft_plain rfl (soft_val rfl (C21.exec (HL2.out.ext hwb hE) rfl p6))
                · intro vs w' hE hp
                  have p3 : vs 3 = _ := hp 3 (by kernel_rfl)
                  have p7 : vs 7 = _ := hp 7 (by kernel_rfl)
                  refine soft_plain rfl (soft_val rfl ?_)
                  go_simp
              · rintro vs w' hE hv
                have p0 : vs 0 = _ := hv 0 (by decide)
                have p1 : vs 1 = _ := hv 1 (by decide)
                have p2 : vs 2 = _ := hv 2 (by decide)
                have p3 : vs 3 = _ := hv 3 (by decide)
                have p4 : vs 4 = _ := hv 4 (by decide)
                have p5 : vs 5 = _ := hv 5 (by decide)
                have p6 : vs 6 = _ := hv 6 (by decide)
                have p7 : vs 7 = _ := hv 7 (by decide)
                have p8 : vs 8 = _ := hv 8 (by decide)
                simp only [List.drop_succ_cons, List.drop_zero, p0, p1, p2, p3, p4, p5, p6, p7, p8]
                clear hv p0 p1 p2 p3 p4 p5 p6 p7 p8
                have hE' := HE.out.trans hE
                go_wp2
                go_ret
                refine ⟨retb ?_, hE'⟩
                refine (decide_eq_false (fun e => HXY.out ?_)).symm
                rw [← HX.out, ← HY.out]
                subst e
                rfl
          · obtain rfl : k = la.length := by omega
            go_wp2
            go_ret
            refine ⟨retb ?_, hE⟩
            have h := HT.out
            rw [List.take_length, hlen, List.take_length] at h
            simp [h]
  · have hne : la ≠ lb := fun e => hlen (by rw [e])
    obtain ⟨pa, ca, rfl⟩ := ha.len
    obtain ⟨pb, cb, rfl⟩ := hb.len
    clear ha hb
    have hl : ¬ ((la.length : Int) = lb.length) := by omega
    go_enter Try.func78, Try.ntmps78
    go_wp2
    go_ret
    exact ⟨retb (by simp [hne]), Ext.refl _⟩
/-- Atom i of l is right, and its key stands behind the one ahead of it. -/
def goodAt (l : List At) (i : Nat) : Bool := (l.getD i default).right && (i == 0 || decide ((l.getD (i - 1) default).k.ord (l.getD i default).k < 0))
/-- What lat.Right says. -/
def latRight (l : List At) : Bool := (List.range l.length).all (goodAt l)

theorem latRight_no {l : List At} {k : Nat} (hk : k < l.length) (h : goodAt l k = false) : latRight l = false := by
  unfold latRight
  rw [List.all_eq_false]
  exact ⟨k, by simpa using hk, by simp [h]⟩
theorem good_succ {l : List At} {k : Nat} (h : (List.range k).all (goodAt l) = true) (hk : goodAt l k = true) : (List.range (k + 1)).all (goodAt l) = true := by
  rw [List.range_succ, List.all_append, h]
  simp [hk]

theorem wpList_load21 {ops : Array Oper} {rest : List Oper} {o : Oper} {a : Act} {w : World} {Q : Exit → Act → World → Prop} {b p : Nat} {x : Operand} {v : At} (hg : o.guard = none) (ho : o.op = Op.load 71 x) (hx : a.eval x = .pointer (some ⟨b, p, none⟩)) (hC : C21 w b p v)
    (hK : wpList Try.prog ops Q rest (a.put o.dst (.agg v.enc)) w) : wpList Try.prog ops Q (o :: rest) a w := by
  refine wpList_plain hg fun K' hK' => ?_
  unfold Oper.wp
  rw [C21.exec hC ho hx]
  exact hK' _ _ hK

theorem C21.new (a : At) (w : World) : C21 (w.alloc (.cells a.enc 71)) w.heap.size 0 a := by
  unfold C21
  simp only [cell_boxed, Nat.zero_add]
  refine ⟨?_, ?_, ?_, ?_, ?_, ?_, ?_, ?_, ?_, ?_, ?_, ?_, ?_, ?_, ?_, ?_, ?_, ?_, ?_, ?_, ?_⟩ <;> rfl
theorem At.one (a : At) : a.enc.all (·.oneCell') = true := by
  simp only [At.enc, List.all_toArray]; rfl
theorem info71 : (Try.prog.info? 71).map (·.size) = some 21 := by kernel_rfl
theorem wpList_store21 {ops : Array Oper} {rest : List Oper} {o : Oper} {a : Act} {w : World} {Q : Exit → Act → World → Prop} {c : Array Value} {p x : Operand} {v : At} (hg : o.guard = none) (ho : o.op = Op.store 71 p x) (hd : o.dst = none) (hp : a.eval p = .pointer (some ⟨w.heap.size, 0, none⟩)) (hx : a.eval x = .agg v.enc) (hc : c.size = 21)
    (hK : wpList Try.prog ops Q rest a (w.alloc (.cells v.enc 71))) : wpList Try.prog ops Q (o :: rest) a (w.alloc (.cells c 71)) := by
  refine wpList_plain hg fun K' hK' => ?_
  have := run_storeAt_new (P := Try.prog) w 71 c v.enc info71 hc v.one
  unfold Oper.wp
  simp only [execOp, ho, hp, hx, Sem.run_bind, this, Result.andThen_ok, Sem.run_pure]
  exact hK' _ _ (by rw [hd]; exact hK)

set_option maxRecDepth 100000 in
set_option maxHeartbeats 1000000 in
theorem latRight_any (va : Value) (la : List At) (w : World) (ha : Rows w va la) :
    Calls Try.prog 24 #[va] w fun e w' => e = .returned (.bool (latRight la)) ∧ Ext w w' := by
  have hm := Try.mixed
  rcases ha with ⟨rfl, rfl⟩ | ⟨ba, oa, ca, rfl, hba, hsa, hra⟩
  · go_enter Try.func24, Try.ntmps24
    go_wp2
    go_loopw [7] (fun i wr => i = .int .i64 0 ∧ wr = w) (fun _ _ => 0)
    case atStart => exact ⟨rfl, rfl⟩
    case round =>
      obtain ⟨rfl, rfl⟩ := hrel
      go_wp2
      go_ret
      exact ⟨rfl, Ext.refl _⟩
  · have HA := Lib.hid hra; clear hra
    go_enter Try.func24, Try.ntmps24
    go_wp2
    go_loopw [7] (fun i wr => ∃ k : Nat, k ≤ la.length ∧ i = .int .i64 k ∧ (List.range k).all (goodAt la) = true ∧ Ext w wr) (fun i _ => la.length - (intOf i).toNat)
    case atStart => exact ⟨0, Nat.zero_le _, rfl, rfl, Ext.refl w⟩
    case round =>
      obtain ⟨k, hk, rfl, ht, hE⟩ := hrel
      have HT := Lib.hid ht; clear ht
      have HE := Lib.hid hE
      by_cases hlt : k < la.length
      · have hl1 := (HA.out.ext hba hE).c21 k hlt
        have hka : (k : Int) < la.length := by omega
        obtain ⟨x, hx⟩ : ∃ x, la[k] = x := ⟨_, rfl⟩
        rw [hx] at hl1
        obtain ⟨o1, ho1⟩ : ∃ o, oa + k * 21 = o := ⟨_, rfl⟩
        rw [ho1] at hl1
        have HX := Lib.hid hx; clear hx
        have HL1 := Lib.hid hl1; clear hl1
        have HC := Lib.hid (C21.new x wr)
        cases hr : x.right
        · have HR := Lib.hid hr; clear hr
          go_wp2_with (first | refine wpList_load21 rfl rfl rfl HL1.out ?_ | refine wpList_store21 rfl rfl rfl rfl rfl rfl ?_)
          refine wp_region_drawn 17 (fun i v W => match i with
              | 0 => v = .agg x.enc
              | 1 => v = .bool false
              | 2 => v = .bool true
              | 3 => v = .bool true
              | 4 => v = undef
              | 5 => v = undef
              | 6 => v = undef
              | 7 => v = undef
              | 8 => v = undef
              | 9 => v = undef
              | 10 => v = undef
              | 11 => v = undef
              | 12 => v = undef
              | 13 => v = undef
              | 14 => v = undef
              | 15 => v = undef
              | 16 => v = .bool true
              | _ => True) (fun vs => ⟨#[.slice (some ⟨ba, oa, none⟩) la.length ca, undef, u2, .int .i64 k, .pointer (some ⟨wr.heap.size, 0, none⟩), .slice (some ⟨ba, oa, none⟩) la.length ca, .int .i64 la.length, .int .i64 k, .bool true, .int .i64 k, .pointer (some ⟨ba, o1, none⟩), .agg x.enc, vs 0, vs 1, vs 2, vs 3, vs 4, vs 5, vs 6, vs 7, vs 8, vs 9, vs 10, vs 11, vs 12, vs 13, vs 14, vs 15, vs 16, u29], []⟩) Try.mixed (by kernel_rfl) (fun vs => by kernel_rfl) (fun i hi v w1 w2 h1 h2 h => ?_) ?_ ?_
          · split at h <;> first | exact h | trivial
          · simp only [List.take_succ_cons, List.take_zero]
            refine ⟨?_, ?_, ?_, ?_, ?_, ?_, ?_, ?_, ?_, ?_, ?_, ?_, ?_, ?_, ?_, ?_, ?_, trivial⟩
            · intro vs w' hE hp
              have hc := hE.bcell
              have hcx := HC.out.ext (by simp) hE
              refine soft_plain rfl (soft_val rfl (C21.exec hcx rfl rfl))
            · intro vs w' hE hp
              have p0 : vs 0 = _ := hp 0 (by kernel_rfl)
              refine soft_plain rfl (soft_call ?_ ((HR.out ▸ atright_any x _).mono fun e w'' ⟨he, hx⟩ => ⟨_, he, hx, rfl⟩))
              go_simp
            · intro vs w' hE hp
              have p1 : vs 1 = _ := hp 1 (by kernel_rfl)
              refine soft_plain rfl (soft_val rfl ?_)
              go_simp
            · intro vs w' hE hp
              have p2 : vs 2 = _ := hp 2 (by kernel_rfl)
              refine soft_plain rfl (soft_val rfl ?_)
              go_simp
            · intro vs w' hE hp
              have p3 : vs 3 = _ := hp 3 (by kernel_rfl)
              refine soft_skip (by simp [Region.wanted, yielded, p3, undef]) rfl
            · intro vs w' hE hp
              have p3 : vs 3 = _ := hp 3 (by kernel_rfl)
              have p4 : vs 4 = _ := hp 4 (by kernel_rfl)
              refine soft_skip (by simp [Region.wanted, yielded, p3, undef]) rfl
            · intro vs w' hE hp
              have p3 : vs 3 = _ := hp 3 (by kernel_rfl)
              have p5 : vs 5 = _ := hp 5 (by kernel_rfl)
              refine soft_skip (by simp [Region.wanted, yielded, p3, undef]) rfl
            · intro vs w' hE hp
              have p6 : vs 6 = _ := hp 6 (by kernel_rfl)
              refine soft_skip (by simp [Region.wanted, yielded, p6, undef]) rfl
            · intro vs w' hE hp
              have p6 : vs 6 = _ := hp 6 (by kernel_rfl)
              refine soft_skip (by simp [Region.wanted, yielded, p6, undef]) rfl
            · intro vs w' hE hp
              have p6 : vs 6 = _ := hp 6 (by kernel_rfl)
              have p8 : vs 8 = _ := hp 8 (by kernel_rfl)
              refine soft_skip (by simp [Region.wanted, yielded, p6, undef]) rfl
            · intro vs w' hE hp
              have p6 : vs 6 = _ := hp 6 (by kernel_rfl)
              have p7 : vs 7 = _ := hp 7 (by kernel_rfl)
              have p9 : vs 9 = _ := hp 9 (by kernel_rfl)
              refine soft_skip (by simp [Region.wanted, yielded, p6, undef]) rfl
            · intro vs w' hE hp
              have p6 : vs 6 = _ := hp 6 (by kernel_rfl)
              have p10 : vs 10 = _ := hp 10 (by kernel_rfl)
              have hc := hE.bcell
              refine soft_skip (by simp [Region.wanted, yielded, p6, undef]) rfl
            · intro vs w' hE hp
              have p6 : vs 6 = _ := hp 6 (by kernel_rfl)
              have hc := hE.bcell
              refine soft_skip (by simp [Region.wanted, yielded, p6, undef]) rfl
            · intro vs w' hE hp
              have p6 : vs 6 = _ := hp 6 (by kernel_rfl)
              have p11 : vs 11 = _ := hp 11 (by kernel_rfl)
              have p12 : vs 12 = _ := hp 12 (by kernel_rfl)
              refine soft_skip (by simp [Region.wanted, yielded, p6, undef]) rfl
            · intro vs w' hE hp
              have p6 : vs 6 = _ := hp 6 (by kernel_rfl)
              have p13 : vs 13 = _ := hp 13 (by kernel_rfl)
              refine soft_skip (by simp [Region.wanted, yielded, p6, undef]) rfl
            · intro vs w' hE hp
              have p3 : vs 3 = _ := hp 3 (by kernel_rfl)
              have p6 : vs 6 = _ := hp 6 (by kernel_rfl)
              have p14 : vs 14 = _ := hp 14 (by kernel_rfl)
              refine soft_skip (by simp [Region.wanted, yielded, p3, undef]) rfl
            · intro vs w' hE hp
              have p3 : vs 3 = _ := hp 3 (by kernel_rfl)
              have p15 : vs 15 = _ := hp 15 (by kernel_rfl)
              refine soft_plain rfl (soft_val rfl ?_)
              go_simp
          · rintro vs w' hE hv
            have p0 : vs 0 = _ := hv 0 (by decide)
            have p1 : vs 1 = _ := hv 1 (by decide)
            have p2 : vs 2 = _ := hv 2 (by decide)
            have p3 : vs 3 = _ := hv 3 (by decide)
            have p4 : vs 4 = _ := hv 4 (by decide)
            have p5 : vs 5 = _ := hv 5 (by decide)
            have p6 : vs 6 = _ := hv 6 (by decide)
            have p7 : vs 7 = _ := hv 7 (by decide)
            have p8 : vs 8 = _ := hv 8 (by decide)
            have p9 : vs 9 = _ := hv 9 (by decide)
            have p10 : vs 10 = _ := hv 10 (by decide)
            have p11 : vs 11 = _ := hv 11 (by decide)
            have p12 : vs 12 = _ := hv 12 (by decide)
            have p13 : vs 13 = _ := hv 13 (by decide)
            have p14 : vs 14 = _ := hv 14 (by decide)
            have p15 : vs 15 = _ := hv 15 (by decide)
            have p16 : vs 16 = _ := hv 16 (by decide)
            simp only [List.drop_succ_cons, List.drop_zero, p0, p1, p2, p3, p4, p5, p6, p7, p8, p9, p10, p11, p12, p13, p14, p15, p16]
            clear hv p0 p1 p2 p3 p4 p5 p6 p7 p8 p9 p10 p11 p12 p13 p14 p15 p16
            have hE2 := (HE.out.alloc _).trans hE
            go_wp2
            go_ret
            exact ⟨retb (latRight_no hlt (by simp [goodAt, List.getD, List.getElem?_eq_getElem hlt, HX.out, HR.out])).symm, hE2⟩
        · have HR := Lib.hid hr; clear hr
          by_cases hz : k = 0
          · have hkp : ¬ 0 < k := by omega
            have HZ := Lib.hid hz; clear hz
            go_wp2_with (first | refine wpList_load21 rfl rfl rfl HL1.out ?_ | refine wpList_store21 rfl rfl rfl rfl rfl rfl ?_)
            refine wp_region_drawn 17 (fun i v W => match i with
                | 0 => v = .agg x.enc
                | 1 => v = .bool true
                | 2 => v = .bool false
                | 3 => v = .bool false
                | 4 => v = .int .i64 (k : Int)
                | 5 => v = .bool false
                | 6 => v = .bool false
                | 7 => v = undef
                | 8 => v = undef
                | 9 => v = undef
                | 10 => v = undef
                | 11 => v = undef
                | 12 => v = undef
                | 13 => v = undef
                | 14 => v = undef
                | 15 => v = .bool false
                | 16 => v = .bool false
                | _ => True) (fun vs => ⟨#[.slice (some ⟨ba, oa, none⟩) la.length ca, undef, u2, .int .i64 k, .pointer (some ⟨wr.heap.size, 0, none⟩), .slice (some ⟨ba, oa, none⟩) la.length ca, .int .i64 la.length, .int .i64 k, .bool true, .int .i64 k, .pointer (some ⟨ba, o1, none⟩), .agg x.enc, vs 0, vs 1, vs 2, vs 3, vs 4, vs 5, vs 6, vs 7, vs 8, vs 9, vs 10, vs 11, vs 12, vs 13, vs 14, vs 15, vs 16, u29], []⟩) Try.mixed (by kernel_rfl) (fun vs => by kernel_rfl) (fun i hi v w1 w2 h1 h2 h => ?_) ?_ ?_
            · split at h <;> first | exact h | trivial
            · simp only [List.take_succ_cons, List.take_zero]
              refine ⟨?_, ?_, ?_, ?_, ?_, ?_, ?_, ?_, ?_, ?_, ?_, ?_, ?_, ?_, ?_, ?_, ?_, trivial⟩
              · intro vs w' hE hp
                have hc := hE.bcell
                have hcx := HC.out.ext (by simp) hE
                refine soft_plain rfl (soft_val rfl (C21.exec hcx rfl rfl))
              · intro vs w' hE hp
                have p0 : vs 0 = _ := hp 0 (by kernel_rfl)
                refine soft_plain rfl (soft_call ?_ ((HR.out ▸ atright_any x _).mono fun e w'' ⟨he, hx⟩ => ⟨_, he, hx, rfl⟩))
                go_simp
              · intro vs w' hE hp
                have p1 : vs 1 = _ := hp 1 (by kernel_rfl)
                refine soft_plain rfl (soft_val rfl ?_)
                go_simp
              · intro vs w' hE hp
                have p2 : vs 2 = _ := hp 2 (by kernel_rfl)
                refine soft_plain rfl (soft_val rfl ?_)
                go_simp
              · intro vs w' hE hp
                have p3 : vs 3 = _ := hp 3 (by kernel_rfl)
                refine soft_want (by simp [Region.wanted, yielded, p3]) (soft_val rfl ?_)
                go_simp
              · intro vs w' hE hp
                have p3 : vs 3 = _ := hp 3 (by kernel_rfl)
                have p4 : vs 4 = _ := hp 4 (by kernel_rfl)
                refine soft_want (by simp [Region.wanted, yielded, p3]) (soft_val rfl ?_)
                go_simp
              · intro vs w' hE hp
                have p3 : vs 3 = _ := hp 3 (by kernel_rfl)
                have p5 : vs 5 = _ := hp 5 (by kernel_rfl)
                refine soft_want (by simp [Region.wanted, yielded, p3]) (soft_val rfl ?_)
                go_simp
              · intro vs w' hE hp
                have p6 : vs 6 = _ := hp 6 (by kernel_rfl)
                refine soft_skip (by simp [Region.wanted, yielded, p6, undef]) rfl
              · intro vs w' hE hp
                have p6 : vs 6 = _ := hp 6 (by kernel_rfl)
                refine soft_skip (by simp [Region.wanted, yielded, p6, undef]) rfl
              · intro vs w' hE hp
                have p6 : vs 6 = _ := hp 6 (by kernel_rfl)
                have p8 : vs 8 = _ := hp 8 (by kernel_rfl)
                refine soft_skip (by simp [Region.wanted, yielded, p6, undef]) rfl
              · intro vs w' hE hp
                have p6 : vs 6 = _ := hp 6 (by kernel_rfl)
                have p7 : vs 7 = _ := hp 7 (by kernel_rfl)
                have p9 : vs 9 = _ := hp 9 (by kernel_rfl)
                refine soft_skip (by simp [Region.wanted, yielded, p6, undef]) rfl
              · intro vs w' hE hp
                have p6 : vs 6 = _ := hp 6 (by kernel_rfl)
                have p10 : vs 10 = _ := hp 10 (by kernel_rfl)
                have hc := hE.bcell
                refine soft_skip (by simp [Region.wanted, yielded, p6, undef]) rfl
              · intro vs w' hE hp
                have p6 : vs 6 = _ := hp 6 (by kernel_rfl)
                have hc := hE.bcell
                refine soft_skip (by simp [Region.wanted, yielded, p6, undef]) rfl
              · intro vs w' hE hp
                have p6 : vs 6 = _ := hp 6 (by kernel_rfl)
                have p11 : vs 11 = _ := hp 11 (by kernel_rfl)
                have p12 : vs 12 = _ := hp 12 (by kernel_rfl)
                refine soft_skip (by simp [Region.wanted, yielded, p6, undef]) rfl
              · intro vs w' hE hp
                have p6 : vs 6 = _ := hp 6 (by kernel_rfl)
                have p13 : vs 13 = _ := hp 13 (by kernel_rfl)
                refine soft_skip (by simp [Region.wanted, yielded, p6, undef]) rfl
              · intro vs w' hE hp
                have p3 : vs 3 = _ := hp 3 (by kernel_rfl)
                have p6 : vs 6 = _ := hp 6 (by kernel_rfl)
                have p14 : vs 14 = _ := hp 14 (by kernel_rfl)
                refine soft_want (by simp [Region.wanted, yielded, p3]) (soft_val rfl ?_)
                go_simp
              · intro vs w' hE hp
                have p3 : vs 3 = _ := hp 3 (by kernel_rfl)
                have p15 : vs 15 = _ := hp 15 (by kernel_rfl)
                refine soft_plain rfl (soft_val rfl ?_)
                go_simp
            · rintro vs w' hE hv
              have p0 : vs 0 = _ := hv 0 (by decide)
              have p1 : vs 1 = _ := hv 1 (by decide)
              have p2 : vs 2 = _ := hv 2 (by decide)
              have p3 : vs 3 = _ := hv 3 (by decide)
              have p4 : vs 4 = _ := hv 4 (by decide)
              have p5 : vs 5 = _ := hv 5 (by decide)
              have p6 : vs 6 = _ := hv 6 (by decide)
              have p7 : vs 7 = _ := hv 7 (by decide)
              have p8 : vs 8 = _ := hv 8 (by decide)
              have p9 : vs 9 = _ := hv 9 (by decide)
              have p10 : vs 10 = _ := hv 10 (by decide)
              have p11 : vs 11 = _ := hv 11 (by decide)
              have p12 : vs 12 = _ := hv 12 (by decide)
              have p13 : vs 13 = _ := hv 13 (by decide)
              have p14 : vs 14 = _ := hv 14 (by decide)
              have p15 : vs 15 = _ := hv 15 (by decide)
              have p16 : vs 16 = _ := hv 16 (by decide)
              simp only [List.drop_succ_cons, List.drop_zero, p0, p1, p2, p3, p4, p5, p6, p7, p8, p9, p10, p11, p12, p13, p14, p15, p16]
              clear hv p0 p1 p2 p3 p4 p5 p6 p7 p8 p9 p10 p11 p12 p13 p14 p15 p16
              have hE2 := (HE.out.alloc _).trans hE
              go_wp2
              go_round
              case rel => exact ⟨k + 1, by omega, by go_num, good_succ HT.out (by have hz := HZ.out; have hx := HX.out; have hr := HR.out; simp only [goodAt, List.getD, List.getElem?_eq_getElem hlt, Option.getD_some, hx, hr]; simp [hz]), hE2⟩
              case measure => simp [intOf]; omega
          · obtain ⟨k0, hk0⟩ : ∃ k0, k0 + 1 = k := ⟨k - 1, by omega⟩
            have hl0 := (HA.out.ext hba hE).c21 k0 (by omega)
            have hkl : (k0 : Int) < la.length := by omega
            have hkp : 0 < k := by omega
            have hkk : (k : Int) - 1 = k0 := by omega
            have hw : IntKind.i64.wrap (k0 : Int) = k0 := by rw [IntKind.wrap_i64]; omega
            obtain ⟨y, hy⟩ : ∃ y, la[k0]'(by omega) = y := ⟨_, rfl⟩
            rw [hy] at hl0
            obtain ⟨o0, ho0⟩ : ∃ o, oa + k0 * 21 = o := ⟨_, rfl⟩
            rw [ho0] at hl0
            have hwa : ba < (wr.alloc (.cells x.enc 71)).heap.size := by have := hE.size; simp; omega
            have HY := Lib.hid hy; clear hy
            have HL0 := Lib.hid (hl0.ext (Nat.lt_of_lt_of_le hba hE.size) ((Ext.refl _).alloc (.cells x.enc 71))); clear hl0
            have hg : goodAt la k = decide (y.k.ord x.k < 0) := by
              have hx := HX.out; have hy := HY.out; have hr := HR.out
              subst hk0
              simp [goodAt, List.getD, List.getElem?_eq_getElem hlt, List.getElem?_eq_getElem (show k0 < la.length by omega), hx, hy, hr]
            have HG := Lib.hid hg; clear hg
            by_cases ho : 0 ≤ y.k.ord x.k
            · have hod : decide (0 ≤ y.k.ord x.k) = true := by simp [ho]
              have HO := Lib.hid ho; clear ho
              go_wp2_with (first | refine wpList_load21 rfl rfl rfl HL1.out ?_ | refine wpList_store21 rfl rfl rfl rfl rfl rfl ?_)
              refine wp_region_drawn 17 (fun i v W => match i with
                  | 0 => v = .agg x.enc
                  | 1 => v = .bool true
                  | 2 => v = .bool false
                  | 3 => v = .bool false
                  | 4 => v = .int .i64 (k : Int)
                  | 5 => v = .bool true
                  | 6 => v = .bool true
                  | 7 => v = .slice (some ⟨ba, oa, none⟩) la.length ca
                  | 8 => v = .int .i64 (k : Int)
                  | 9 => v = .int .i64 (k0 : Int)
                  | 10 => v = .pointer (some ⟨ba, o0, none⟩)
                  | 11 => v = .agg y.enc
                  | 12 => v = .agg x.enc
                  | 13 => v = .int .i64 (y.k.ord x.k)
                  | 14 => v = .bool true
                  | 15 => v = .bool true
                  | 16 => v = .bool true
                  | _ => True) (fun vs => ⟨#[.slice (some ⟨ba, oa, none⟩) la.length ca, undef, u2, .int .i64 k, .pointer (some ⟨wr.heap.size, 0, none⟩), .slice (some ⟨ba, oa, none⟩) la.length ca, .int .i64 la.length, .int .i64 k, .bool true, .int .i64 k, .pointer (some ⟨ba, o1, none⟩), .agg x.enc, vs 0, vs 1, vs 2, vs 3, vs 4, vs 5, vs 6, vs 7, vs 8, vs 9, vs 10, vs 11, vs 12, vs 13, vs 14, vs 15, vs 16, u29], []⟩) Try.mixed (by kernel_rfl) (fun vs => by kernel_rfl) (fun i hi v w1 w2 h1 h2 h => ?_) ?_ ?_
              · split at h <;> first | exact h | trivial
              · simp only [List.take_succ_cons, List.take_zero]
                refine ⟨?_, ?_, ?_, ?_, ?_, ?_, ?_, ?_, ?_, ?_, ?_, ?_, ?_, ?_, ?_, ?_, ?_, trivial⟩
                · intro vs w' hE hp
                  have hc := hE.bcell
                  have hcx := HC.out.ext (by simp) hE
                  refine soft_plain rfl (soft_val rfl (C21.exec hcx rfl rfl))
                · intro vs w' hE hp
                  have p0 : vs 0 = _ := hp 0 (by kernel_rfl)
                  refine soft_plain rfl (soft_call ?_ ((HR.out ▸ atright_any x _).mono fun e w'' ⟨he, hx⟩ => ⟨_, he, hx, rfl⟩))
                  go_simp
                · intro vs w' hE hp
                  have p1 : vs 1 = _ := hp 1 (by kernel_rfl)
                  refine soft_plain rfl (soft_val rfl ?_)
                  go_simp
                · intro vs w' hE hp
                  have p2 : vs 2 = _ := hp 2 (by kernel_rfl)
                  refine soft_plain rfl (soft_val rfl ?_)
                  go_simp
                · intro vs w' hE hp
                  have p3 : vs 3 = _ := hp 3 (by kernel_rfl)
                  refine soft_want (by simp [Region.wanted, yielded, p3]) (soft_val rfl ?_)
                  go_simp
                · intro vs w' hE hp
                  have p3 : vs 3 = _ := hp 3 (by kernel_rfl)
                  have p4 : vs 4 = _ := hp 4 (by kernel_rfl)
                  refine soft_want (by simp [Region.wanted, yielded, p3]) (soft_val rfl ?_)
                  go_simp
                · intro vs w' hE hp
                  have p3 : vs 3 = _ := hp 3 (by kernel_rfl)
                  have p5 : vs 5 = _ := hp 5 (by kernel_rfl)
                  refine soft_want (by simp [Region.wanted, yielded, p3]) (soft_val rfl ?_)
                  go_simp
                · intro vs w' hE hp
                  have p6 : vs 6 = _ := hp 6 (by kernel_rfl)
                  refine soft_want (by simp [Region.wanted, yielded, p6]) (soft_val rfl ?_)
                  go_simp
                · intro vs w' hE hp
                  have p6 : vs 6 = _ := hp 6 (by kernel_rfl)
                  refine soft_want (by simp [Region.wanted, yielded, p6]) (soft_val rfl ?_)
                  go_simp
                · intro vs w' hE hp
                  have p6 : vs 6 = _ := hp 6 (by kernel_rfl)
                  have p8 : vs 8 = _ := hp 8 (by kernel_rfl)
                  refine soft_want (by simp [Region.wanted, yielded, p6]) (soft_val rfl ?_)
                  go_simp
                · intro vs w' hE hp
                  have p6 : vs 6 = _ := hp 6 (by kernel_rfl)
                  have p7 : vs 7 = _ := hp 7 (by kernel_rfl)
                  have p9 : vs 9 = _ := hp 9 (by kernel_rfl)
                  refine soft_want (by simp [Region.wanted, yielded, p6]) (soft_val rfl ?_)
                  go_simp
                · intro vs w' hE hp
                  have p6 : vs 6 = _ := hp 6 (by kernel_rfl)
                  have p10 : vs 10 = _ := hp 10 (by kernel_rfl)
                  have hc := hE.bcell
                  refine soft_want (by simp [Region.wanted, yielded, p6]) (soft_val rfl (C21.exec (HL0.out.ext hwa hE) rfl p10))
                · intro vs w' hE hp
                  have p6 : vs 6 = _ := hp 6 (by kernel_rfl)
                  have hc := hE.bcell
                  have hcx := HC.out.ext (by simp) hE
                  refine soft_want (by simp [Region.wanted, yielded, p6]) (soft_val rfl (C21.exec hcx rfl rfl))
                · intro vs w' hE hp
                  have p6 : vs 6 = _ := hp 6 (by kernel_rfl)
                  have p11 : vs 11 = _ := hp 11 (by kernel_rfl)
                  have p12 : vs 12 = _ := hp 12 (by kernel_rfl)
                  refine soft_want (by simp [Region.wanted, yielded, p6]) (soft_call ?_ ((order_any y x _).mono fun e w'' ⟨he, hx⟩ => ⟨_, he, hx, rfl⟩))
                  go_simp
                · intro vs w' hE hp
                  have p6 : vs 6 = _ := hp 6 (by kernel_rfl)
                  have p13 : vs 13 = _ := hp 13 (by kernel_rfl)
                  refine soft_want (by simp [Region.wanted, yielded, p6]) (soft_val rfl ?_)
                  go_simp
                · intro vs w' hE hp
                  have p3 : vs 3 = _ := hp 3 (by kernel_rfl)
                  have p6 : vs 6 = _ := hp 6 (by kernel_rfl)
                  have p14 : vs 14 = _ := hp 14 (by kernel_rfl)
                  refine soft_want (by simp [Region.wanted, yielded, p3]) (soft_val rfl ?_)
                  go_simp
                · intro vs w' hE hp
                  have p3 : vs 3 = _ := hp 3 (by kernel_rfl)
                  have p15 : vs 15 = _ := hp 15 (by kernel_rfl)
                  refine soft_plain rfl (soft_val rfl ?_)
                  go_simp
              · rintro vs w' hE hv
                have p0 : vs 0 = _ := hv 0 (by decide)
                have p1 : vs 1 = _ := hv 1 (by decide)
                have p2 : vs 2 = _ := hv 2 (by decide)
                have p3 : vs 3 = _ := hv 3 (by decide)
                have p4 : vs 4 = _ := hv 4 (by decide)
                have p5 : vs 5 = _ := hv 5 (by decide)
                have p6 : vs 6 = _ := hv 6 (by decide)
                have p7 : vs 7 = _ := hv 7 (by decide)
                have p8 : vs 8 = _ := hv 8 (by decide)
                have p9 : vs 9 = _ := hv 9 (by decide)
                have p10 : vs 10 = _ := hv 10 (by decide)
                have p11 : vs 11 = _ := hv 11 (by decide)
                have p12 : vs 12 = _ := hv 12 (by decide)
                have p13 : vs 13 = _ := hv 13 (by decide)
                have p14 : vs 14 = _ := hv 14 (by decide)
                have p15 : vs 15 = _ := hv 15 (by decide)
                have p16 : vs 16 = _ := hv 16 (by decide)
                simp only [List.drop_succ_cons, List.drop_zero, p0, p1, p2, p3, p4, p5, p6, p7, p8, p9, p10, p11, p12, p13, p14, p15, p16]
                clear hv p0 p1 p2 p3 p4 p5 p6 p7 p8 p9 p10 p11 p12 p13 p14 p15 p16
                have hE2 := (HE.out.alloc _).trans hE
                go_wp2
                go_ret
                exact ⟨retb (latRight_no hlt (by rw [HG.out]; have hoo := HO.out; simp only [decide_eq_true_eq, decide_eq_false_iff_not]; omega)).symm, hE2⟩
            · have hod : decide (0 ≤ y.k.ord x.k) = false := by simp [ho]
              have HO := Lib.hid ho; clear ho
              go_wp2_with (first | refine wpList_load21 rfl rfl rfl HL1.out ?_ | refine wpList_store21 rfl rfl rfl rfl rfl rfl ?_)
              refine wp_region_drawn 17 (fun i v W => match i with
                  | 0 => v = .agg x.enc
                  | 1 => v = .bool true
                  | 2 => v = .bool false
                  | 3 => v = .bool false
                  | 4 => v = .int .i64 (k : Int)
                  | 5 => v = .bool true
                  | 6 => v = .bool true
                  | 7 => v = .slice (some ⟨ba, oa, none⟩) la.length ca
                  | 8 => v = .int .i64 (k : Int)
                  | 9 => v = .int .i64 (k0 : Int)
                  | 10 => v = .pointer (some ⟨ba, o0, none⟩)
                  | 11 => v = .agg y.enc
                  | 12 => v = .agg x.enc
                  | 13 => v = .int .i64 (y.k.ord x.k)
                  | 14 => v = .bool false
                  | 15 => v = .bool false
                  | 16 => v = .bool false
                  | _ => True) (fun vs => ⟨#[.slice (some ⟨ba, oa, none⟩) la.length ca, undef, u2, .int .i64 k, .pointer (some ⟨wr.heap.size, 0, none⟩), .slice (some ⟨ba, oa, none⟩) la.length ca, .int .i64 la.length, .int .i64 k, .bool true, .int .i64 k, .pointer (some ⟨ba, o1, none⟩), .agg x.enc, vs 0, vs 1, vs 2, vs 3, vs 4, vs 5, vs 6, vs 7, vs 8, vs 9, vs 10, vs 11, vs 12, vs 13, vs 14, vs 15, vs 16, u29], []⟩) Try.mixed (by kernel_rfl) (fun vs => by kernel_rfl) (fun i hi v w1 w2 h1 h2 h => ?_) ?_ ?_
              · split at h <;> first | exact h | trivial
              · simp only [List.take_succ_cons, List.take_zero]
                refine ⟨?_, ?_, ?_, ?_, ?_, ?_, ?_, ?_, ?_, ?_, ?_, ?_, ?_, ?_, ?_, ?_, ?_, trivial⟩
                · intro vs w' hE hp
                  have hc := hE.bcell
                  have hcx := HC.out.ext (by simp) hE
                  refine soft_plain rfl (soft_val rfl (C21.exec hcx rfl rfl))
                · intro vs w' hE hp
                  have p0 : vs 0 = _ := hp 0 (by kernel_rfl)
                  refine soft_plain rfl (soft_call ?_ ((HR.out ▸ atright_any x _).mono fun e w'' ⟨he, hx⟩ => ⟨_, he, hx, rfl⟩))
                  go_simp
                · intro vs w' hE hp
                  have p1 : vs 1 = _ := hp 1 (by kernel_rfl)
                  refine soft_plain rfl (soft_val rfl ?_)
                  go_simp
                · intro vs w' hE hp
                  have p2 : vs 2 = _ := hp 2 (by kernel_rfl)
                  refine soft_plain rfl (soft_val rfl ?_)
                  go_simp
                · intro vs w' hE hp
                  have p3 : vs 3 = _ := hp 3 (by kernel_rfl)
                  refine soft_want (by simp [Region.wanted, yielded, p3]) (soft_val rfl ?_)
                  go_simp
                · intro vs w' hE hp
                  have p3 : vs 3 = _ := hp 3 (by kernel_rfl)
                  have p4 : vs 4 = _ := hp 4 (by kernel_rfl)
                  refine soft_want (by simp [Region.wanted, yielded, p3]) (soft_val rfl ?_)
                  go_simp
                · intro vs w' hE hp
                  have p3 : vs 3 = _ := hp 3 (by kernel_rfl)
                  have p5 : vs 5 = _ := hp 5 (by kernel_rfl)
                  refine soft_want (by simp [Region.wanted, yielded, p3]) (soft_val rfl ?_)
                  go_simp
                · intro vs w' hE hp
                  have p6 : vs 6 = _ := hp 6 (by kernel_rfl)
                  refine soft_want (by simp [Region.wanted, yielded, p6]) (soft_val rfl ?_)
                  go_simp
                · intro vs w' hE hp
                  have p6 : vs 6 = _ := hp 6 (by kernel_rfl)
                  refine soft_want (by simp [Region.wanted, yielded, p6]) (soft_val rfl ?_)
                  go_simp
                · intro vs w' hE hp
                  have p6 : vs 6 = _ := hp 6 (by kernel_rfl)
                  have p8 : vs 8 = _ := hp 8 (by kernel_rfl)
                  refine soft_want (by simp [Region.wanted, yielded, p6]) (soft_val rfl ?_)
                  go_simp
                · intro vs w' hE hp
                  have p6 : vs 6 = _ := hp 6 (by kernel_rfl)
                  have p7 : vs 7 = _ := hp 7 (by kernel_rfl)
                  have p9 : vs 9 = _ := hp 9 (by kernel_rfl)
                  refine soft_want (by simp [Region.wanted, yielded, p6]) (soft_val rfl ?_)
                  go_simp
                · intro vs w' hE hp
                  have p6 : vs 6 = _ := hp 6 (by kernel_rfl)
                  have p10 : vs 10 = _ := hp 10 (by kernel_rfl)
                  have hc := hE.bcell
                  refine soft_want (by simp [Region.wanted, yielded, p6]) (soft_val rfl (C21.exec (HL0.out.ext hwa hE) rfl p10))
                · intro vs w' hE hp
                  have p6 : vs 6 = _ := hp 6 (by kernel_rfl)
                  have hc := hE.bcell
                  have hcx := HC.out.ext (by simp) hE
                  refine soft_want (by simp [Region.wanted, yielded, p6]) (soft_val rfl (C21.exec hcx rfl rfl))
                · intro vs w' hE hp
                  have p6 : vs 6 = _ := hp 6 (by kernel_rfl)
                  have p11 : vs 11 = _ := hp 11 (by kernel_rfl)
                  have p12 : vs 12 = _ := hp 12 (by kernel_rfl)
                  refine soft_want (by simp [Region.wanted, yielded, p6]) (soft_call ?_ ((order_any y x _).mono fun e w'' ⟨he, hx⟩ => ⟨_, he, hx, rfl⟩))
                  go_simp
                · intro vs w' hE hp
                  have p6 : vs 6 = _ := hp 6 (by kernel_rfl)
                  have p13 : vs 13 = _ := hp 13 (by kernel_rfl)
                  refine soft_want (by simp [Region.wanted, yielded, p6]) (soft_val rfl ?_)
                  go_simp
                · intro vs w' hE hp
                  have p3 : vs 3 = _ := hp 3 (by kernel_rfl)
                  have p6 : vs 6 = _ := hp 6 (by kernel_rfl)
                  have p14 : vs 14 = _ := hp 14 (by kernel_rfl)
                  refine soft_want (by simp [Region.wanted, yielded, p3]) (soft_val rfl ?_)
                  go_simp
                · intro vs w' hE hp
                  have p3 : vs 3 = _ := hp 3 (by kernel_rfl)
                  have p15 : vs 15 = _ := hp 15 (by kernel_rfl)
                  refine soft_plain rfl (soft_val rfl ?_)
                  go_simp
              · rintro vs w' hE hv
                have p0 : vs 0 = _ := hv 0 (by decide)
                have p1 : vs 1 = _ := hv 1 (by decide)
                have p2 : vs 2 = _ := hv 2 (by decide)
                have p3 : vs 3 = _ := hv 3 (by decide)
                have p4 : vs 4 = _ := hv 4 (by decide)
                have p5 : vs 5 = _ := hv 5 (by decide)
                have p6 : vs 6 = _ := hv 6 (by decide)
                have p7 : vs 7 = _ := hv 7 (by decide)
                have p8 : vs 8 = _ := hv 8 (by decide)
                have p9 : vs 9 = _ := hv 9 (by decide)
                have p10 : vs 10 = _ := hv 10 (by decide)
                have p11 : vs 11 = _ := hv 11 (by decide)
                have p12 : vs 12 = _ := hv 12 (by decide)
                have p13 : vs 13 = _ := hv 13 (by decide)
                have p14 : vs 14 = _ := hv 14 (by decide)
                have p15 : vs 15 = _ := hv 15 (by decide)
                have p16 : vs 16 = _ := hv 16 (by decide)
                simp only [List.drop_succ_cons, List.drop_zero, p0, p1, p2, p3, p4, p5, p6, p7, p8, p9, p10, p11, p12, p13, p14, p15, p16]
                clear hv p0 p1 p2 p3 p4 p5 p6 p7 p8 p9 p10 p11 p12 p13 p14 p15 p16
                have hE2 := (HE.out.alloc _).trans hE
                go_wp2
                go_round
                case rel => exact ⟨k + 1, by omega, by go_num, good_succ HT.out (by rw [HG.out]; have hoo := HO.out; simp only [decide_eq_true_eq, decide_eq_false_iff_not]; omega), hE2⟩
                case measure => simp [intOf]; omega
      · obtain rfl : k = la.length := by omega
        go_wp2
        go_ret
        exact ⟨retb HT.out.symm, hE⟩
end Go.Proofs.Ythidakffgcjjiaa
