/- The walks of delta: Diff, Split, Parts, Irreducible, but, spare, Needless, Irredundant. -/
import Derived.Test.YthidakffgcjjiaaLat2
import Derived.Test.YthidakffgcjjiaaRag
import Derived.Test.YthidakffgcjjiaaDeltaLaws
namespace Go.Proofs.Ythidakffgcjjiaa
open Go.RowKit Go.Sort

set_option maxRecDepth 100000 in
set_option maxHeartbeats 1000000 in
theorem c_diff1 (x : At) (b5 bm : Nat) (ob : Obj) (m : List (Ky × Vl)) (w : World) (hb : w.heap[b5]? = some (.cells #[.map (some bm)] 82 (0, 0))) (ho : w.heap[bm]? = some ob) (hm : MapObj ob m) :
    Calls Try.prog 87 #[.agg x.enc, .pointer (some ⟨b5, 0, none⟩)] w fun e w' => e = .returned (.bool (diffP m x)) ∧ Bw w w' := by
  have hS := St.begin (w := w) (pins := pinReads b5 0 [.map (some bm)] :: pinObj bm ob :: []) ⟨Reads.of_block hb 0 _ rfl, ho, trivial⟩
  refine enter (n := 26) Try.func87 rfl rfl (Nat.le_of_ble_eq_true rfl) (l := [(0, .agg x.enc), (1, .pointer (some ⟨b5, 0, none⟩))]) rfl ?_
  refine WP.seq ?_
  refine WP.region ?_
  refine WL.box (v := .agg x.enc) hS rfl rfl rfl rfl rfl (fun b614 W615 hS => ?_)
  refine WL.op (v := .bool false) rfl rfl rfl (Ex.assign rfl rfl) ?_
  refine WL.nil ?_
  refine then_normal ?_
  refine WP.seq ?_
  refine WP.region ?_
  refine WL.op (v := .map (some bm)) rfl rfl rfl (Ex.load1 tyOne82 rfl rfl (Reads.sub (cs := [.map (some bm)]) (hS.get 0 rfl) 0 (ds := [.map (some bm)]) rfl)) ?_
  refine WL.op (v := .pointer (some ⟨b614, 0, none⟩)) rfl rfl rfl (Ex.fieldAddr' fieldAt71_0 rfl rfl) ?_
  refine WL.op (v := .agg x.k.enc) rfl rfl rfl (Ex.loadA tyAgg61 rfl rfl (Reads.of_block (hS.at 0 rfl) 0 x.k.enc.toList rfl) rfl) ?_
  refine WL.op (v := .tuple #[.agg ((look m x.k).getD Vl.zero).enc, .bool ((look m x.k).isSome)]) rfl rfl rfl (Ex.lookupM (hS.get (p := pinObj bm ob) 1 rfl) hm rfl rfl rfl) ?_
  refine WL.op (v := .tuple #[.agg ((look m x.k).getD Vl.zero).enc, .bool ((look m x.k).isSome)]) rfl rfl rfl (Ex.move rfl rfl) ?_
  refine WL.op (v := .agg ((look m x.k).getD Vl.zero).enc) rfl rfl rfl (Ex.extract rfl rfl rfl) ?_
  refine WL.op (v := .bool ((look m x.k).isSome)) rfl rfl rfl (Ex.extract rfl rfl rfl) ?_
  refine WL.alloc zv67 hS rfl rfl rfl rfl (fun b616 W617 hS => ?_)
  refine WL.store tySz67 hS 0 rfl rfl rfl rfl rfl rfl rfl rfl rfl (C' := ((look m x.k).getD Vl.zero).enc) rfl ((b616, .cells ((look m x.k).getD Vl.zero).enc 67) :: (b614, .cells x.enc 71) :: []) rfl (fun W618 hS => ?_)
  refine WL.op (v := .bool ((look m x.k).isSome)) rfl rfl rfl (Ex.assign rfl rfl) ?_
  refine WL.nil ?_
  refine then_normal ?_
  refine WP.seq ?_
  refine WP.region ?_
  refine WL.op (v := .bool ((look m x.k).isSome)) rfl rfl rfl (Ex.move rfl rfl) ?_
  refine WL.op (v := .bool (!((look m x.k).isSome))) rfl rfl rfl (Ex.not rfl rfl) ?_
  refine WL.op (v := .bool (!((look m x.k).isSome))) rfl rfl rfl (Ex.move rfl rfl) ?_
  rcases Bool.eq_false_or_eq_true (!((look m x.k).isSome)) with hg619 | hg619
  ·
    have hc620 : ((look m x.k).isSome) = false := by simpa using hg619
    refine WL.off (b' := true) rfl rfl rfl rfl rfl rfl (congrArg Value.bool hg619) rfl ?_
    refine WL.off (b' := true) rfl rfl rfl rfl rfl rfl (congrArg Value.bool hg619) rfl ?_
    refine WL.off (b' := true) rfl rfl rfl rfl rfl rfl (congrArg Value.bool hg619) rfl ?_
    refine WL.off (b' := true) rfl rfl rfl rfl rfl rfl (congrArg Value.bool hg619) rfl ?_
    refine WL.off (b' := true) rfl rfl rfl rfl rfl rfl (congrArg Value.bool hg619) rfl ?_
    refine WL.off (b' := true) rfl rfl rfl rfl rfl rfl (congrArg Value.bool hg619) rfl ?_
    refine WL.off (b' := true) rfl rfl rfl rfl rfl rfl (congrArg Value.bool hg619) rfl ?_
    refine WL.off (b' := true) rfl rfl rfl rfl rfl rfl (congrArg Value.bool hg619) rfl ?_
    refine WL.off (b' := true) rfl rfl rfl rfl rfl rfl (congrArg Value.bool hg619) rfl ?_
    refine WL.op (v := .bool true) rfl rfl rfl (Ex.pickT rfl (congrArg Value.bool hg619) rfl) ?_
    refine WL.op (v := .bool true) rfl rfl rfl (Ex.assign rfl rfl) ?_
    refine WL.nil ?_
    refine then_normal ?_
    refine WP.ret ?_
    refine ?_
    refine rt1 (v := .bool true) rfl rfl ?_
    exact ⟨retb (by first | exact dp_none (by assumption) | exact dp_some (by assumption)), hS.bw⟩
  ·
    have hc621 : ((look m x.k).isSome) = true := by simpa using hg619
    refine WL.on rfl rfl rfl (congrArg Value.bool hg619) ?_
    refine WL.op (v := .agg x.enc) rfl rfl rfl (Ex.loadA tyAgg71 rfl rfl (Reads.of_block (hS.at 1 rfl) 0 x.enc.toList rfl) rfl) ?_
    refine WL.on rfl rfl rfl (congrArg Value.bool hg619) ?_
    refine WL.buildSlice (ps := [(0, .agg x.enc)]) (C := x.enc) (E := 71) rfl (fun _ => by kernel_rfl) hS rfl rfl rfl rfl (fun b622 W623 hS => ?_)
    have hNb622 : w.heap.size ≤ b622 := hS.ge 0 rfl
    replace hS := hS.slice (α := At) (xs := [x]) (cap := 1) rfl (by simp)
    refine WL.on rfl rfl rfl (congrArg Value.bool hg619) ?_
    refine WL.op (v := .pointer (some ⟨b614, 0, none⟩)) rfl rfl rfl (Ex.fieldAddr' fieldAt71_0 rfl rfl) ?_
    refine WL.on rfl rfl rfl (congrArg Value.bool hg619) ?_
    refine WL.op (v := .agg x.k.enc) rfl rfl rfl (Ex.loadA tyAgg61 rfl rfl (Reads.of_block (hS.at 1 rfl) 0 x.k.enc.toList rfl) rfl) ?_
    refine WL.on rfl rfl rfl (congrArg Value.bool hg619) ?_
    refine WL.op (v := .agg ((look m x.k).getD Vl.zero).enc) rfl rfl rfl (Ex.loadA tyAgg67 rfl rfl (Reads.of_block (hS.at 0 rfl) 0 ((look m x.k).getD Vl.zero).enc.toList rfl) rfl) ?_
    refine WL.on rfl rfl rfl (congrArg Value.bool hg619) ?_
    refine WL.op (v := .agg (At.mk x.k ((look m x.k).getD Vl.zero)).enc) rfl rfl rfl (Ex.build (ps := [(0, .agg x.k.enc), (1, .agg ((look m x.k).getD Vl.zero).enc)]) rfl rfl (by kernel_rfl)) ?_
    refine WL.on rfl rfl rfl (congrArg Value.bool hg619) ?_
    refine WL.buildSlice (ps := [(0, .agg (At.mk x.k ((look m x.k).getD Vl.zero)).enc)]) (C := (At.mk x.k ((look m x.k).getD Vl.zero)).enc) (E := 71) rfl (fun _ => by kernel_rfl) hS rfl rfl rfl rfl (fun b624 W625 hS => ?_)
    have hNb624 : w.heap.size ≤ b624 := hS.ge 0 rfl
    replace hS := hS.slice (α := At) (xs := [At.mk x.k ((look m x.k).getD Vl.zero)]) (cap := 1) rfl (by simp)
    refine WL.on rfl rfl rfl (congrArg Value.bool hg619) ?_
    refine WL.call rfl rfl rfl (enterS eg20 (args := [.slice (some ⟨b622, 0, none⟩) 1 1, .slice (some ⟨b624, 0, none⟩) 1 1]) rfl rfl rfl rfl) (c_leq _ _ ([x]) ([At.mk x.k ((look m x.k).getD Vl.zero)]) _ (hS.mem (.tail _ (.head _))) (hS.mem (.head _)) (by first | omega | (simp; done) | (simp; omega)) (by first | omega | (simp; done) | (simp; omega))) ?_
    rintro e W626 ⟨rfl, hB⟩
    replace hS := hS.ext hB
    refine ⟨_, rfl, ?_⟩
    refine WL.on rfl rfl rfl (congrArg Value.bool hg619) ?_
    refine WL.op (v := .bool (!(leqAt ([x]) ([At.mk x.k ((look m x.k).getD Vl.zero)])))) rfl rfl rfl (Ex.not rfl rfl) ?_
    refine WL.op (v := .bool (!(leqAt ([x]) ([At.mk x.k ((look m x.k).getD Vl.zero)])))) rfl rfl rfl (Ex.pickF rfl (congrArg Value.bool hg619) rfl) ?_
    refine WL.op (v := .bool (!(leqAt ([x]) ([At.mk x.k ((look m x.k).getD Vl.zero)])))) rfl rfl rfl (Ex.assign rfl rfl) ?_
    refine WL.nil ?_
    refine then_normal ?_
    refine WP.ret ?_
    refine ?_
    refine rt1 (v := .bool (!(leqAt ([x]) ([At.mk x.k ((look m x.k).getD Vl.zero)])))) rfl rfl ?_
    exact ⟨retb (by first | exact dp_none (by assumption) | exact dp_some (by assumption)), hS.bw⟩
set_option maxRecDepth 100000 in
set_option maxHeartbeats 1000000 in
theorem c_split (s : Sv) (l : List At) (b5 : Nat) (p : At → Bool) (w : World) (hv : Sl w s.v l) (hl : l.length ≤ 1048576) (hf : ∀ x W, Bw w W → Calls Try.prog 87 #[.agg x.enc, .pointer (some ⟨b5, 0, none⟩)] W (fun e W' => e = .returned (.bool (p x)) ∧ Bw W W')) :
    Calls Try.prog 86 #[s.v, .func (.func 87) #[] #[.pointer (some ⟨b5, 0, none⟩)]] w fun e w' => ∃ v1 v2, e = .returned (.tuple #[v1, v2]) ∧ Bw w w' ∧ Sl w' v1 ((normAt l).filter p) ∧ Sl w' v2 ((normAt l).filter (fun x => !p x)) ∧ New w v1 ∧ New w v2 := by
  have hS := St.begin (w := w) (pins := pinSl s.v l :: []) ⟨hv, trivial⟩
  refine enterM (n := 29) Try.func86 rfl rfl (Nat.le_of_ble_eq_true rfl) (l := [(0, s.v), (1, .func (.func 87) #[] #[.pointer (some ⟨b5, 0, none⟩)])]) rfl ?_
  refine WP.seq ?_
  refine WP.region ?_
  refine WL.box (v := .func (.func 87) #[] #[.pointer (some ⟨b5, 0, none⟩)]) hS rfl rfl rfl rfl rfl (fun b627 W628 hS => ?_)
  refine WL.alloc zv22 hS rfl rfl rfl rfl (fun b629 W630 hS => ?_)
  refine WL.alloc zv22 hS rfl rfl rfl rfl (fun b631 W632 hS => ?_)
  refine WL.nil ?_
  refine then_normal ?_
  refine WP.seq ?_
  refine WP.seq ?_
  refine WP.region ?_
  refine WL.op (v := s.v) rfl rfl rfl (Ex.move rfl rfl) ?_
  refine WL.call rfl rfl rfl (enterS eg73 (args := [s.v]) rfl rfl rfl rfl) (c_each0 s _) ?_
  rintro e W634 ⟨bx633, rfl, hB, hb, hn⟩
  replace hS := hS.adopt hB hb hn
  refine ⟨_, rfl, ?_⟩
  refine WL.nil ?_
  refine then_normal ?_
  refine WP.block ?_
  refine WP.range (it_each bx633 s.v l (by omega)) rfl eg112 (fun _ => rfl) rfl hS (fun k co cp => ∃ (vo1 : Value), ∃ (eo1 : Option (Nat × Obj)), ∃ (d1 : List At), ∃ (vo2 : Value), ∃ (eo2 : Option (Nat × Obj)), ∃ (d2 : List At), co = ([(bx633, .cells #[s.v] 22), (b631, .cells #[vo2] 22), (b629, .cells #[vo1] 22), (b627, .cells #[.func (.func 87) #[] #[.pointer (some ⟨b5, 0, none⟩)]] 89)] ++ (eo1.toList ++ eo2.toList)) ∧ cp = pinSl s.v l :: [] ∧ (OutG vo1 eo1 71 d1) ∧ (d1 = ((normAt l).take k).filter p) ∧ (OutG vo2 eo2 71 d2) ∧ (d2 = ((normAt l).take k).filter (fun x => !p x)) ∧ (d1.length + d2.length ≤ k)) (fun _ _ _ => False) ⟨.slice none 0 0, none, [], .slice none 0 0, none, [], rfl, rfl, OutG.nil, rfl, OutG.nil, rfl, Nat.le_refl _⟩ (fun L D rl rd => ⟨List.mem_append_left _ (.head _), (.head _)⟩) ?_ ?_ ?_
  ·
    rintro k x L it ip _ _ W635 K hx636 ⟨vo1, eo1, d1, vo2, eo2, d2, rfl, rfl, hO1, hd1, hO2, hd2, hdl⟩ hS hK
    have hkx := (List.getElem?_eq_some_iff.1 hx636).1
    replace hS : St w ((bx633, .cells #[s.v] 22) :: (b631, .cells #[vo2] 22) :: (b629, .cells #[vo1] 22) :: (b627, .cells #[.func (.func 87) #[] #[.pointer (some ⟨b5, 0, none⟩)]] 89) :: (eo1.toList ++ (eo2.toList ++ it))) (pinSl s.v l :: ip) W635 := hS.perm (perm_of_count (fun f => by simp only [List.countP_append, List.countP_cons, List.countP_nil, Option.toList_none, Option.toList_some] <;> omega))
    refine WP.seq ?_
    refine WP.region ?_
    refine WL.alloc zv61 hS rfl rfl rfl rfl (fun b637 W638 hS => ?_)
    refine WL.store tySz61 hS 0 rfl rfl rfl rfl rfl rfl rfl rfl rfl (C' := x.k.enc) rfl ((b637, .cells x.k.enc 61) :: (bx633, .cells #[s.v] 22) :: (b631, .cells #[vo2] 22) :: (b629, .cells #[vo1] 22) :: (b627, .cells #[.func (.func 87) #[] #[.pointer (some ⟨b5, 0, none⟩)]] 89) :: (eo1.toList ++ (eo2.toList ++ it))) rfl (fun W639 hS => ?_)
    refine WL.nil ?_
    refine then_normal ?_
    refine WP.region ?_
    refine WL.alloc zv67 hS rfl rfl rfl rfl (fun b640 W641 hS => ?_)
    refine WL.store tySz67 hS 0 rfl rfl rfl rfl rfl rfl rfl rfl rfl (C' := x.v.enc) rfl ((b640, .cells x.v.enc 67) :: (b637, .cells x.k.enc 61) :: (bx633, .cells #[s.v] 22) :: (b631, .cells #[vo2] 22) :: (b629, .cells #[vo1] 22) :: (b627, .cells #[.func (.func 87) #[] #[.pointer (some ⟨b5, 0, none⟩)]] 89) :: (eo1.toList ++ (eo2.toList ++ it))) rfl (fun W642 hS => ?_)
    refine WL.nil ?_
    refine then_normal ?_
    replace hS : St w (([(b640, .cells x.v.enc 67), (b637, .cells x.k.enc 61), (bx633, .cells #[s.v] 22), (b631, .cells #[vo2] 22), (b629, .cells #[vo1] 22), (b627, .cells #[.func (.func 87) #[] #[.pointer (some ⟨b5, 0, none⟩)]] 89)] ++ (eo1.toList ++ eo2.toList)) ++ it) (pinSl s.v l :: ip) W642 := hS.perm (perm_of_count (fun f => by simp only [List.countP_append, List.countP_cons, List.countP_nil, Option.toList_none, Option.toList_some] <;> omega))
    refine hK _ _ ([(b640, .cells x.v.enc 67), (b637, .cells x.k.enc 61), (bx633, .cells #[s.v] 22), (b631, .cells #[vo2] 22), (b629, .cells #[vo1] 22), (b627, .cells #[.func (.func 87) #[] #[.pointer (some ⟨b5, 0, none⟩)]] 89)] ++ (eo1.toList ++ eo2.toList)) [pinSl s.v l] hS (fun it W643 hS => ?_)
    replace hS : St w ((b640, .cells x.v.enc 67) :: (b637, .cells x.k.enc 61) :: (bx633, .cells #[s.v] 22) :: (b631, .cells #[vo2] 22) :: (b629, .cells #[vo1] 22) :: (b627, .cells #[.func (.func 87) #[] #[.pointer (some ⟨b5, 0, none⟩)]] 89) :: (eo1.toList ++ (eo2.toList ++ it))) (pinSl s.v l :: ip) W643 := hS.perm (perm_of_count (fun f => by simp only [List.countP_append, List.countP_cons, List.countP_nil, Option.toList_none, Option.toList_some] <;> omega))
    refine WP.block ?_
    refine WP.seq ?_
    refine WP.region ?_
    refine WL.op (v := .agg x.k.enc) rfl rfl rfl (Ex.loadA tyAgg61 rfl rfl (Reads.of_block (hS.at 1 rfl) 0 x.k.enc.toList rfl) rfl) ?_
    refine WL.op (v := .agg x.v.enc) rfl rfl rfl (Ex.loadA tyAgg67 rfl rfl (Reads.of_block (hS.at 0 rfl) 0 x.v.enc.toList rfl) rfl) ?_
    refine WL.op (v := .agg (At.mk x.k x.v).enc) rfl rfl rfl (Ex.build (ps := [(0, .agg x.k.enc), (1, .agg x.v.enc)]) rfl rfl (by kernel_rfl)) ?_
    refine WL.alloc zv71 hS rfl rfl rfl rfl (fun b644 W645 hS => ?_)
    refine WL.store tySz71 hS 0 rfl rfl rfl rfl rfl rfl rfl rfl rfl (C' := (At.mk x.k x.v).enc) rfl ((b644, .cells (At.mk x.k x.v).enc 71) :: (b640, .cells x.v.enc 67) :: (b637, .cells x.k.enc 61) :: (bx633, .cells #[s.v] 22) :: (b631, .cells #[vo2] 22) :: (b629, .cells #[vo1] 22) :: (b627, .cells #[.func (.func 87) #[] #[.pointer (some ⟨b5, 0, none⟩)]] 89) :: (eo1.toList ++ (eo2.toList ++ it))) rfl (fun W646 hS => ?_)
    refine WL.nil ?_
    refine then_normal ?_
    refine WP.seq ?_
    refine WP.region ?_
    refine WL.op (v := .func (.func 87) #[] #[.pointer (some ⟨b5, 0, none⟩)]) rfl rfl rfl (Ex.load1 tyOne89 rfl rfl (Reads.of_block (hS.at 6 rfl) 0 [.func (.func 87) #[] #[.pointer (some ⟨b5, 0, none⟩)]] rfl)) ?_
    refine WL.op (v := .agg (At.mk x.k x.v).enc) rfl rfl rfl (Ex.loadA tyAgg71 rfl rfl (Reads.of_block (hS.at 0 rfl) 0 (At.mk x.k x.v).enc.toList rfl) rfl) ?_
    refine WL.call rfl rfl rfl (enterV eg87 (caps := [.pointer (some ⟨b5, 0, none⟩)]) (args := [.agg (At.mk x.k x.v).enc]) rfl rfl rfl rfl) (hf (At.mk x.k x.v) _ hS.bw) ?_
    rintro e W647 ⟨rfl, hB⟩
    replace hS := hS.ext hB
    refine ⟨_, rfl, ?_⟩
    refine WL.nil ?_
    refine then_normal ?_
    refine WP.cond (b := p (At.mk x.k x.v)) rfl (fun hc648 => ?_) (fun hc648 => ?_)
    ·
      refine WP.region ?_
      refine WL.op (v := vo1) rfl rfl rfl (Ex.load1 tyOne22 rfl rfl (Reads.of_block (hS.at 5 rfl) 0 [vo1] rfl)) ?_
      refine WL.op (v := .agg (At.mk x.k x.v).enc) rfl rfl rfl (Ex.loadA tyAgg71 rfl rfl (Reads.of_block (hS.at 0 rfl) 0 (At.mk x.k x.v).enc.toList rfl) rfl) ?_
      refine WL.buildSlice (ps := [(0, .agg (At.mk x.k x.v).enc)]) (C := (At.mk x.k x.v).enc) (E := 71) rfl (fun _ => by kernel_rfl) hS rfl rfl rfl rfl (fun b649 W650 hS => ?_)
      have hNb649 : w.heap.size ≤ b649 := hS.ge 0 rfl
      replace hS := hS.slice (α := At) (xs := [At.mk x.k x.v]) (cap := 1) rfl (by simp)
      replace hS : St w (([(b644, .cells (At.mk x.k x.v).enc 71), (b640, .cells x.v.enc 67), (b637, .cells x.k.enc 61), (bx633, .cells #[s.v] 22), (b631, .cells #[vo2] 22), (b629, .cells #[vo1] 22), (b627, .cells #[.func (.func 87) #[] #[.pointer (some ⟨b5, 0, none⟩)]] 89)] ++ (eo2.toList ++ it)) ++ eo1.toList) (pinSl (.slice (some ⟨b649, 0, none⟩) 1 1) [At.mk x.k x.v] :: pinSl s.v l :: ip) W650 := hS.perm (perm_of_count (fun f => by simp only [List.countP_append, List.countP_cons, List.countP_nil, Option.toList_none, Option.toList_some] <;> omega))
      refine WL.append (α := At) (a := At.mk x.k x.v) under22 infT71 rfl (by decide) (by decide) ([(b644, .cells (At.mk x.k x.v).enc 71), (b640, .cells x.v.enc 67), (b637, .cells x.k.enc 61), (bx633, .cells #[s.v] 22), (b631, .cells #[vo2] 22), (b629, .cells #[vo1] 22), (b627, .cells #[.func (.func 87) #[] #[.pointer (some ⟨b5, 0, none⟩)]] 89)] ++ (eo2.toList ++ it)) hO1 hS (hS.mem (.head _)) (by have := normAt_length l; omega) rfl rfl rfl rfl rfl rfl (fun vo651 eo652 W653 hO654 hS => ?_)
      replace hS : St w ((b644, .cells (At.mk x.k x.v).enc 71) :: (b640, .cells x.v.enc 67) :: (b637, .cells x.k.enc 61) :: (bx633, .cells #[s.v] 22) :: (b631, .cells #[vo2] 22) :: (b629, .cells #[vo1] 22) :: (b627, .cells #[.func (.func 87) #[] #[.pointer (some ⟨b5, 0, none⟩)]] 89) :: (eo2.toList ++ (it ++ eo652.toList))) (pinSl (.slice (some ⟨b649, 0, none⟩) 1 1) [At.mk x.k x.v] :: pinSl s.v l :: ip) W653 := hS.perm (perm_of_count (fun f => by simp only [List.countP_append, List.countP_cons, List.countP_nil, Option.toList_none, Option.toList_some] <;> omega))
      refine WL.store1 hO654.isSl tySz22 hS 5 rfl rfl rfl rfl rfl rfl ((b644, .cells (At.mk x.k x.v).enc 71) :: (b640, .cells x.v.enc 67) :: (b637, .cells x.k.enc 61) :: (bx633, .cells #[s.v] 22) :: (b631, .cells #[vo2] 22) :: (b629, .cells #[vo651] 22) :: (b627, .cells #[.func (.func 87) #[] #[.pointer (some ⟨b5, 0, none⟩)]] 89) :: (eo2.toList ++ (it ++ eo652.toList))) rfl (fun W655 hS => ?_)
      refine WL.nil ?_
      refine inBlock_normal ?_
      replace hS : St w ((b644, .cells (At.mk x.k x.v).enc 71) :: (b640, .cells x.v.enc 67) :: (b637, .cells x.k.enc 61) :: (([(bx633, .cells #[s.v] 22), (b631, .cells #[vo2] 22), (b629, .cells #[vo651] 22), (b627, .cells #[.func (.func 87) #[] #[.pointer (some ⟨b5, 0, none⟩)]] 89)] ++ (eo652.toList ++ eo2.toList)) ++ it)) (pinSl (.slice (some ⟨b649, 0, none⟩) 1 1) [At.mk x.k x.v] :: pinSl s.v l :: ip) W655 := hS.perm (perm_of_count (fun f => by simp only [List.countP_append, List.countP_cons, List.countP_nil, Option.toList_none, Option.toList_some] <;> omega))
      exact ⟨_, _, ⟨vo651, eo652, d1 ++ [At.mk x.k x.v], vo2, eo2, d2, rfl, rfl, hO654, (by rw [filter_next hx636 hc648, hd1]), hO2, (by rw [filter_skip hx636 (by rw [hc648]; rfl), hd2]), (by simp only [List.length_append, List.length_cons, List.length_nil] at *; omega)⟩, hS.drop 3 1⟩
    ·
      refine WP.region ?_
      refine WL.op (v := vo2) rfl rfl rfl (Ex.load1 tyOne22 rfl rfl (Reads.of_block (hS.at 4 rfl) 0 [vo2] rfl)) ?_
      refine WL.op (v := .agg (At.mk x.k x.v).enc) rfl rfl rfl (Ex.loadA tyAgg71 rfl rfl (Reads.of_block (hS.at 0 rfl) 0 (At.mk x.k x.v).enc.toList rfl) rfl) ?_
      refine WL.buildSlice (ps := [(0, .agg (At.mk x.k x.v).enc)]) (C := (At.mk x.k x.v).enc) (E := 71) rfl (fun _ => by kernel_rfl) hS rfl rfl rfl rfl (fun b656 W657 hS => ?_)
      have hNb656 : w.heap.size ≤ b656 := hS.ge 0 rfl
      replace hS := hS.slice (α := At) (xs := [At.mk x.k x.v]) (cap := 1) rfl (by simp)
      replace hS : St w (([(b644, .cells (At.mk x.k x.v).enc 71), (b640, .cells x.v.enc 67), (b637, .cells x.k.enc 61), (bx633, .cells #[s.v] 22), (b631, .cells #[vo2] 22), (b629, .cells #[vo1] 22), (b627, .cells #[.func (.func 87) #[] #[.pointer (some ⟨b5, 0, none⟩)]] 89)] ++ (eo1.toList ++ it)) ++ eo2.toList) (pinSl (.slice (some ⟨b656, 0, none⟩) 1 1) [At.mk x.k x.v] :: pinSl s.v l :: ip) W657 := hS.perm (perm_of_count (fun f => by simp only [List.countP_append, List.countP_cons, List.countP_nil, Option.toList_none, Option.toList_some] <;> omega))
      refine WL.append (α := At) (a := At.mk x.k x.v) under22 infT71 rfl (by decide) (by decide) ([(b644, .cells (At.mk x.k x.v).enc 71), (b640, .cells x.v.enc 67), (b637, .cells x.k.enc 61), (bx633, .cells #[s.v] 22), (b631, .cells #[vo2] 22), (b629, .cells #[vo1] 22), (b627, .cells #[.func (.func 87) #[] #[.pointer (some ⟨b5, 0, none⟩)]] 89)] ++ (eo1.toList ++ it)) hO2 hS (hS.mem (.head _)) (by have := normAt_length l; omega) rfl rfl rfl rfl rfl rfl (fun vo658 eo659 W660 hO661 hS => ?_)
      replace hS : St w ((b644, .cells (At.mk x.k x.v).enc 71) :: (b640, .cells x.v.enc 67) :: (b637, .cells x.k.enc 61) :: (bx633, .cells #[s.v] 22) :: (b631, .cells #[vo2] 22) :: (b629, .cells #[vo1] 22) :: (b627, .cells #[.func (.func 87) #[] #[.pointer (some ⟨b5, 0, none⟩)]] 89) :: (eo1.toList ++ (it ++ eo659.toList))) (pinSl (.slice (some ⟨b656, 0, none⟩) 1 1) [At.mk x.k x.v] :: pinSl s.v l :: ip) W660 := hS.perm (perm_of_count (fun f => by simp only [List.countP_append, List.countP_cons, List.countP_nil, Option.toList_none, Option.toList_some] <;> omega))
      refine WL.store1 hO661.isSl tySz22 hS 4 rfl rfl rfl rfl rfl rfl ((b644, .cells (At.mk x.k x.v).enc 71) :: (b640, .cells x.v.enc 67) :: (b637, .cells x.k.enc 61) :: (bx633, .cells #[s.v] 22) :: (b631, .cells #[vo658] 22) :: (b629, .cells #[vo1] 22) :: (b627, .cells #[.func (.func 87) #[] #[.pointer (some ⟨b5, 0, none⟩)]] 89) :: (eo1.toList ++ (it ++ eo659.toList))) rfl (fun W662 hS => ?_)
      refine WL.nil ?_
      refine inBlock_normal ?_
      replace hS : St w ((b644, .cells (At.mk x.k x.v).enc 71) :: (b640, .cells x.v.enc 67) :: (b637, .cells x.k.enc 61) :: (([(bx633, .cells #[s.v] 22), (b631, .cells #[vo658] 22), (b629, .cells #[vo1] 22), (b627, .cells #[.func (.func 87) #[] #[.pointer (some ⟨b5, 0, none⟩)]] 89)] ++ (eo1.toList ++ eo659.toList)) ++ it)) (pinSl (.slice (some ⟨b656, 0, none⟩) 1 1) [At.mk x.k x.v] :: pinSl s.v l :: ip) W662 := hS.perm (perm_of_count (fun f => by simp only [List.countP_append, List.countP_cons, List.countP_nil, Option.toList_none, Option.toList_some] <;> omega))
      exact ⟨_, _, ⟨vo1, eo1, d1, vo658, eo659, d2 ++ [At.mk x.k x.v], rfl, rfl, hO1, (by rw [filter_skip hx636 hc648, hd1]), hO661, (by rw [filter_next hx636 (by rw [hc648]; rfl), hd2]), (by simp only [List.length_append, List.length_cons, List.length_nil] at *; omega)⟩, hS.drop 3 1⟩
  ·
    rintro D W663 _ _ ⟨vo1, eo1, d1, vo2, eo2, d2, rfl, rfl, hO1, hd1, hO2, hd2, hdl⟩ hS
    replace hS : St w ((bx633, .cells #[s.v] 22) :: (b631, .cells #[vo2] 22) :: (b629, .cells #[vo1] 22) :: (b627, .cells #[.func (.func 87) #[] #[.pointer (some ⟨b5, 0, none⟩)]] 89) :: (D, .deferred (some [])) :: (eo1.toList ++ eo2.toList)) (pinSl s.v l :: []) W663 := hS.perm (perm_of_count (fun f => by simp only [List.countP_append, List.countP_cons, List.countP_nil, Option.toList_none, Option.toList_some] <;> omega))
    rw [List.take_length] at hd1 hd2
    refine inBlock_normal ?_
    refine then_normal ?_
    refine WP.seq ?_
    refine WP.drawL 4 [(fun u_ _ => u_ = vo1), (fun u_ _ => u_ = vo2), (fun _ _ => True), (fun _ _ => True)] (fun vs => (28, vs 1) :: (27, vs 0) :: _) ⟨fun _ _ _ _ h => h, fun _ _ _ _ h => h, fun _ _ _ _ h => h, fun _ _ _ _ h => h, trivial⟩ (by kernel_rfl) (fun _ => rfl) ⟨?_, ?_, ?_, ?_, trivial⟩ ?_
    ·
      intro vs W hE hp
      exact dr_plain rfl (dr_ex (v := vo1) (Ex.load1 tyOne22 rfl rfl (Reads.of_block ((hS.ext hE).at 2 rfl) 0 [vo1] rfl)) (Bw.refl _) rfl)
    ·
      intro vs W hE hp
      exact dr_plain rfl (dr_ex (v := vo2) (Ex.load1 tyOne22 rfl rfl (Reads.of_block ((hS.ext hE).at 1 rfl) 0 [vo2] rfl)) (Bw.refl _) rfl)
    ·
      intro vs W hE hp
      have p0 := hp 0 (by kernel_rfl)
      simp only [List.getD_cons_zero, List.getD_cons_succ] at p0
      exact dr_plain rfl (dr_same (i := 2) hO1.isSl tySz22 (hS.ext hE) rfl rfl rfl p0)
    ·
      intro vs W hE hp
      have p1 := hp 1 (by kernel_rfl)
      simp only [List.getD_cons_zero, List.getD_cons_succ] at p1
      exact dr_plain rfl (dr_same (i := 1) hO2.isSl tySz22 (hS.ext hE) rfl rfl rfl p1)
    intro vs W664 hE hv
    have hS0 := hS; replace hS := hS.ext hE
    have p0 : vs 0 = vo1 := hv 0 (by decide)
    have p1 : vs 1 = vo2 := hv 1 (by decide)
    refine WL.keep (k := [(27, vo1), (28, vo2)]) ⟨p0, p1, trivial⟩ ?_
    refine WL.nil ?_
    refine then_normal ?_
    refine WP.ret ?_
    refine ?_
    refine leaveM (v := .tuple #[vo1, vo2]) hS (i := 4) rfl (fun W665 hS => ?_)
    refine ⟨runsC2 (v := vo1) (v' := vo2) rfl tyOne22 tyOne22 rfl (Reads.of_block (hS.at 2 rfl) 0 _ rfl) rfl (Reads.of_block (hS.at 1 rfl) 0 _ rfl), ?_⟩
    have hz1 := OutG.slM hO1 hS (fun p hp => by rw [hp]; simp) (by have := normAt_length l; omega)
    have hz2 := OutG.slM hO2 hS (fun p hp => by rw [hp]; simp) (by have := normAt_length l; omega)
    exact ⟨_, _, rfl, hS.bw, (by rw [← hd1]; exact hz1.1), (by rw [← hd2]; exact hz2.1), hz1.2, hz2.2⟩
  ·
    exact fun _ _ _ _ _ h _ => h.elim
set_option maxRecDepth 100000 in
set_option maxHeartbeats 1000000 in
theorem c_diff0 (s t : Sv) (la lb : List At) (w : World) (ha : Sl w s.v la) (hb : Sl w t.v lb) (hl : la.length ≤ 1048576) (hl2 : lb.length ≤ 1048576) :
    Calls Try.prog 34 #[s.v, t.v] w fun e w' => ∃ v', e = .returned v' ∧ Bw w w' ∧ Sl w' v' (diffAt la lb) ∧ New w v' := by
  have hS := St.begin (w := w) (pins := pinSl s.v la :: pinSl t.v lb :: []) ⟨ha, hb, trivial⟩
  refine enterM (n := 25) Try.func34 rfl rfl (Nat.le_of_ble_eq_true rfl) (l := [(0, s.v), (1, t.v)]) rfl ?_
  refine WP.seq ?_
  refine WP.region ?_
  refine WL.op (v := .slice none 0 0) rfl rfl rfl (Ex.assign rfl rfl) ?_
  refine WL.nil ?_
  refine then_normal ?_
  refine WP.seq ?_
  refine WP.region ?_
  refine WL.makeMap hS rfl rfl rfl rfl rfl (fun bm667 W668 hS => ?_)
  refine WL.alloc zv82 hS rfl rfl rfl rfl (fun b669 W670 hS => ?_)
  refine WL.store tySz82 hS 0 rfl rfl rfl rfl rfl rfl rfl rfl rfl (C' := #[.map (some bm667)]) rfl ((b669, .cells #[.map (some bm667)] 82) :: (bm667, .map #[] 0) :: []) rfl (fun W671 hS => ?_)
  refine WL.nil ?_
  refine then_normal ?_
  refine WP.seq ?_
  refine WP.seq ?_
  refine WP.region ?_
  refine WL.op (v := t.v) rfl rfl rfl (Ex.move rfl rfl) ?_
  refine WL.call rfl rfl rfl (enterS eg73 (args := [t.v]) rfl rfl rfl rfl) (c_each0 t _) ?_
  rintro e W673 ⟨bx672, rfl, hB, hb, hn⟩
  replace hS := hS.adopt hB hb hn
  refine ⟨_, rfl, ?_⟩
  refine WL.nil ?_
  refine then_normal ?_
  refine WP.block ?_
  refine WP.range (it_each bx672 t.v lb (by omega)) rfl eg112 (fun _ => rfl) rfl hS (fun k co cp => ∃ (ob : Obj), co = [(bx672, .cells #[t.v] 22), (b669, .cells #[.map (some bm667)] 82), (bm667, ob)] ∧ cp = pinSl s.v la :: pinSl t.v lb :: [] ∧ (MapObj ob (((normAt lb).take k).map kvp))) (fun _ _ _ => False) ⟨_, rfl, rfl, MapObj.new⟩ (fun L D rl rd => ⟨List.mem_append_left _ (.head _), (.tail _ (.head _))⟩) ?_ ?_ ?_
  ·
    rintro k x L it ip _ _ W674 K hx675 ⟨ob, rfl, rfl, hm⟩ hS hK
    have hkx := (List.getElem?_eq_some_iff.1 hx675).1
    refine WP.seq ?_
    refine WP.region ?_
    refine WL.alloc zv61 hS rfl rfl rfl rfl (fun b676 W677 hS => ?_)
    refine WL.store tySz61 hS 0 rfl rfl rfl rfl rfl rfl rfl rfl rfl (C' := x.k.enc) rfl ((b676, .cells x.k.enc 61) :: (bx672, .cells #[t.v] 22) :: (b669, .cells #[.map (some bm667)] 82) :: (bm667, ob) :: it) rfl (fun W678 hS => ?_)
    refine WL.nil ?_
    refine then_normal ?_
    refine WP.region ?_
    refine WL.alloc zv67 hS rfl rfl rfl rfl (fun b679 W680 hS => ?_)
    refine WL.store tySz67 hS 0 rfl rfl rfl rfl rfl rfl rfl rfl rfl (C' := x.v.enc) rfl ((b679, .cells x.v.enc 67) :: (b676, .cells x.k.enc 61) :: (bx672, .cells #[t.v] 22) :: (b669, .cells #[.map (some bm667)] 82) :: (bm667, ob) :: it) rfl (fun W681 hS => ?_)
    refine WL.nil ?_
    refine then_normal ?_
    refine hK _ _ [(b679, .cells x.v.enc 67), (b676, .cells x.k.enc 61), (bx672, .cells #[t.v] 22), (b669, .cells #[.map (some bm667)] 82), (bm667, ob)] [pinSl s.v la, pinSl t.v lb] hS (fun it W682 hS => ?_)
    refine WP.block ?_
    refine WP.region ?_
    refine WL.op (v := .map (some bm667)) rfl rfl rfl (Ex.load1 tyOne82 rfl rfl (Reads.of_block (hS.at 3 rfl) 0 [.map (some bm667)] rfl)) ?_
    refine WL.op (v := .agg x.k.enc) rfl rfl rfl (Ex.loadA tyAgg61 rfl rfl (Reads.of_block (hS.at 1 rfl) 0 x.k.enc.toList rfl) rfl) ?_
    refine WL.op (v := .agg x.v.enc) rfl rfl rfl (Ex.loadA tyAgg67 rfl rfl (Reads.of_block (hS.at 0 rfl) 0 x.v.enc.toList rfl) rfl) ?_
    refine WL.update (k := x.k) (v := x.v) hS 4 rfl hm rfl rfl rfl rfl rfl rfl (fun ob683 W684 hm685 hS => ?_)
    refine WL.nil ?_
    refine inBlock_normal ?_
    exact ⟨_, _, ⟨ob683, rfl, rfl, by rw [← facts_next (normAt_rising lb) hx675]; exact hm685⟩, hS.drop 2 0⟩
  ·
    rintro D W686 _ _ ⟨ob, rfl, rfl, hm⟩ hS
    rw [List.take_length] at hm
    refine inBlock_normal ?_
    refine then_normal ?_
    refine WP.seq ?_
    refine WP.region ?_
    refine WL.op (v := s.v) rfl rfl rfl (Ex.move rfl rfl) ?_
    refine WL.op (v := .func (.func 87) #[] #[.pointer (some ⟨b669, 0, none⟩)]) rfl rfl rfl (Ex.makeFunc (c' := [.pointer (some ⟨b669, 0, none⟩)]) rfl rfl rfl) ?_
    refine WL.call rfl rfl rfl (enterS eg86 (args := [s.v, .func (.func 87) #[] #[.pointer (some ⟨b669, 0, none⟩)]]) rfl rfl rfl rfl) (c_split s la b669 (diffP ((normAt lb).map kvp)) _ (hS.mem (.head _)) (by first | omega | (simp; done) | (simp; omega)) (fun x W' hB => c_diff1 x b669 bm667 ob _ W' ((hB.heap (hS.at_lt 1 rfl)).trans (hS.at 1 rfl)) ((hB.heap (hS.at_lt 2 rfl)).trans (hS.at 2 rfl)) hm)) ?_
    rintro e W687 ⟨v1, v2, rfl, hB, h1, h2, n1, n2⟩
    have hS0 := hS; replace hS := hS.ext hB; have hn1 : New w v1 := n1.of hS0.bw
    replace hS := hS0.pinNew hS (pinSl v1 ((normAt la).filter (diffP ((normAt lb).map kvp)))) h1 n1
    replace hS := hS0.pinNew hS (pinSl v2 ((normAt la).filter (fun x => !(diffP ((normAt lb).map kvp)) x))) h2 n2
    refine ⟨_, rfl, ?_⟩
    refine WL.op (v := .tuple #[v1, v2]) rfl rfl rfl (Ex.move rfl rfl) ?_
    refine WL.op (v := v1) rfl rfl rfl (Ex.extract rfl rfl rfl) ?_
    refine WL.op (v := v2) rfl rfl rfl (Ex.extract rfl rfl rfl) ?_
    refine WL.op (v := v1) rfl rfl rfl (Ex.assign rfl rfl) ?_
    refine WL.op (v := v2) rfl rfl rfl (Ex.assign rfl rfl) ?_
    refine WL.nil ?_
    refine then_normal ?_
    refine WP.seq ?_
    refine WP.region ?_
    refine WL.op (v := v1) rfl rfl rfl (Ex.move rfl rfl) ?_
    refine WL.op (v := v1) rfl rfl rfl (Ex.assign rfl rfl) ?_
    refine WL.nil ?_
    refine then_normal ?_
    refine WP.ret ?_
    refine ?_
    refine leaveM (v := v1) hS (i := 3) rfl (fun W688 hS => ?_)
    refine ⟨runs1 rfl rfl, ?_⟩
    exact ⟨_, rfl, hS.bw, hS.mem (.tail _ (.head _)), hn1⟩
  ·
    exact fun _ _ _ _ _ h _ => h.elim
theorem c_diff (v v2 : Value) (la lb : List At) (w : World) (ha : Sl w v la) (hb : Sl w v2 lb) (hl : la.length ≤ 1048576) (hl2 : lb.length ≤ 1048576) : Calls Try.prog 34 #[v, v2] w fun e w' => ∃ v', e = .returned v' ∧ Bw w w' ∧ Sl w' v' (diffAt la lb) ∧ New w v' := by
  obtain ⟨p, cap, rfl⟩ := ha.len
  obtain ⟨p2, cap2, rfl⟩ := hb.len
  exact c_diff0 ⟨p, la.length, cap⟩ ⟨p2, lb.length, cap2⟩ la lb w ha hb hl hl2
set_option maxRecDepth 100000 in
set_option maxHeartbeats 1000000 in
theorem c_irreducible (v : Value) (l : List At) (w : World) (hv : Sl w v l) (hl : l.length ≤ 1048576) :
    Calls Try.prog 51 #[v] w fun e w' => e = .returned (.bool (decide (((normAt l).length : Int) = 1))) ∧ Bw w w' := by
  have hS := St.begin (w := w) (pins := pinSl v l :: []) ⟨hv, trivial⟩
  refine enter (n := 7) Try.func51 rfl rfl (Nat.le_of_ble_eq_true rfl) (l := [(0, v)]) rfl ?_
  refine WP.seq ?_
  refine WP.region ?_
  refine WL.op (v := .bool false) rfl rfl rfl (Ex.assign rfl rfl) ?_
  refine WL.nil ?_
  refine then_normal ?_
  refine WP.seq ?_
  refine WP.region ?_
  refine WL.op (v := v) rfl rfl rfl (Ex.move rfl rfl) ?_
  refine WL.call rfl rfl rfl (enterS eg25 (args := [v]) rfl rfl rfl rfl) (c_norm _ l _ (hS.mem (.head _)) (by first | omega | (simp; done) | (simp; omega))) ?_
  rintro e W692 ⟨v690, rfl, hB, hv', hn'⟩
  have hN691 : New w v690 := fun b hb => Nat.le_trans hS.bw.size (hn' b hb)
  replace hS := hS.newPin hB (pinSl v690 (normAt l)) hv' hn'
  refine ⟨_, rfl, ?_⟩
  have hq693 := normAt_length l
  have hl694 : (normAt l).length < 4611686018427387904 := (hS.mem (.head _) : Sl _ _ _).lt
  refine WL.op (v := .int .i64 ((normAt l).length : Int)) rfl rfl rfl (Ex.lenSl (l := normAt l) ⟨_, under22⟩ rfl rfl (hS.mem (.head _))) ?_
  refine WL.op (v := .bool (decide (((normAt l).length : Int) = 1))) rfl rfl rfl (Ex.eq rfl rfl rfl) ?_
  refine WL.op (v := .bool (decide (((normAt l).length : Int) = 1))) rfl rfl rfl (Ex.assign rfl rfl) ?_
  refine WL.nil ?_
  refine then_normal ?_
  refine WP.ret ?_
  refine ?_
  refine rt1 (v := .bool (decide (((normAt l).length : Int) = 1))) rfl rfl ?_
  exact ⟨rfl, hS.bw⟩
set_option maxRecDepth 100000 in
set_option maxHeartbeats 1000000 in
theorem c_parts0 (s : Sv) (l : List At) (w : World) (hv : Sl w s.v l) (hl : l.length ≤ 1048576) :
    Calls Try.prog 50 #[s.v] w fun e w' => ∃ v' vs, e = .returned v' ∧ Bw w w' ∧ RowsNew w w' v' ((normAt l).map (fun a => [a])) vs := by
  have hS := St.begin (w := w) (pins := pinSl s.v l :: []) ⟨hv, trivial⟩
  refine enterM (n := 17) Try.func50 rfl rfl (Nat.le_of_ble_eq_true rfl) (l := [(0, s.v)]) rfl ?_
  refine WP.seq ?_
  refine WP.region ?_
  refine WL.alloc zv42 hS rfl rfl rfl rfl (fun b695 W696 hS => ?_)
  refine WL.nil ?_
  refine then_normal ?_
  refine WP.seq ?_
  refine WP.seq ?_
  refine WP.region ?_
  refine WL.op (v := s.v) rfl rfl rfl (Ex.move rfl rfl) ?_
  refine WL.call rfl rfl rfl (enterS eg73 (args := [s.v]) rfl rfl rfl rfl) (c_each0 s _) ?_
  rintro e W698 ⟨bx697, rfl, hB, hb, hn⟩
  replace hS := hS.adopt hB hb hn
  refine ⟨_, rfl, ?_⟩
  refine WL.nil ?_
  refine then_normal ?_
  refine WP.block ?_
  replace hS := hS.pinSSnil
  refine WP.range (it_each bx697 s.v l (by omega)) rfl eg112 (fun _ => rfl) rfl hS (fun k co cp => ∃ (vo : Value), ∃ (eo : Option (Nat × Obj)), ∃ (d : List Sv), ∃ (lss : List (List At)), co = ([(bx697, .cells #[s.v] 22), (b695, .cells #[vo] 42)] ++ eo.toList) ∧ cp = pinSS d lss :: pinSl s.v l :: [] ∧ (OutG vo eo 22 d) ∧ (lss = ((normAt l).take k).map (fun a => [a])) ∧ (d.length = lss.length) ∧ (d.length ≤ k) ∧ (∀ s ∈ d, New w s.v)) (fun _ _ _ => False) ⟨.slice none 0 0, none, [], [], rfl, rfl, OutG.nil, rfl, rfl, Nat.le_refl _, (fun s hs => by cases hs)⟩ (fun L D rl rd => ⟨List.mem_append_left _ (.head _), (.tail _ (.head _))⟩) ?_ ?_ ?_
  ·
    rintro k x L it ip _ _ W699 K hx700 ⟨vo, eo, d, lss, rfl, rfl, hO, hlss, hlen, hdl, hnews⟩ hS hK
    have hkx := (List.getElem?_eq_some_iff.1 hx700).1
    refine WP.seq ?_
    refine WP.region ?_
    refine WL.alloc zv61 hS rfl rfl rfl rfl (fun b701 W702 hS => ?_)
    refine WL.store tySz61 hS 0 rfl rfl rfl rfl rfl rfl rfl rfl rfl (C' := x.k.enc) rfl ((b701, .cells x.k.enc 61) :: (bx697, .cells #[s.v] 22) :: (b695, .cells #[vo] 42) :: (eo.toList ++ it)) rfl (fun W703 hS => ?_)
    refine WL.nil ?_
    refine then_normal ?_
    refine WP.region ?_
    refine WL.alloc zv67 hS rfl rfl rfl rfl (fun b704 W705 hS => ?_)
    refine WL.store tySz67 hS 0 rfl rfl rfl rfl rfl rfl rfl rfl rfl (C' := x.v.enc) rfl ((b704, .cells x.v.enc 67) :: (b701, .cells x.k.enc 61) :: (bx697, .cells #[s.v] 22) :: (b695, .cells #[vo] 42) :: (eo.toList ++ it)) rfl (fun W706 hS => ?_)
    refine WL.nil ?_
    refine then_normal ?_
    refine hK _ _ ([(b704, .cells x.v.enc 67), (b701, .cells x.k.enc 61), (bx697, .cells #[s.v] 22), (b695, .cells #[vo] 42)] ++ eo.toList) [pinSS d lss, pinSl s.v l] hS (fun it W707 hS => ?_)
    refine WP.block ?_
    refine WP.region ?_
    refine WL.op (v := vo) rfl rfl rfl (Ex.load1 tyOne42 rfl rfl (Reads.of_block (hS.at 3 rfl) 0 [vo] rfl)) ?_
    refine WL.op (v := .agg x.k.enc) rfl rfl rfl (Ex.loadA tyAgg61 rfl rfl (Reads.of_block (hS.at 1 rfl) 0 x.k.enc.toList rfl) rfl) ?_
    refine WL.op (v := .agg x.v.enc) rfl rfl rfl (Ex.loadA tyAgg67 rfl rfl (Reads.of_block (hS.at 0 rfl) 0 x.v.enc.toList rfl) rfl) ?_
    refine WL.op (v := .agg (At.mk x.k x.v).enc) rfl rfl rfl (Ex.build (ps := [(0, .agg x.k.enc), (1, .agg x.v.enc)]) rfl rfl (by kernel_rfl)) ?_
    refine WL.buildSlice (ps := [(0, .agg (At.mk x.k x.v).enc)]) (C := (At.mk x.k x.v).enc) (E := 71) rfl (fun _ => by kernel_rfl) hS rfl rfl rfl rfl (fun b708 W709 hS => ?_)
    have hNb708 : w.heap.size ≤ b708 := hS.ge 0 rfl
    replace hS := hS.slice (α := At) (xs := [At.mk x.k x.v]) (cap := 1) rfl (by simp)
    refine WL.buildSlice (ps := [(0, .slice (some ⟨b708, 0, none⟩) 1 1)]) (C := #[.slice (some ⟨b708, 0, none⟩) 1 1]) (E := 22) rfl (fun _ => by kernel_rfl) hS rfl rfl rfl rfl (fun b710 W711 hS => ?_)
    replace hS := hS.slice (xs := [Sv.mk (some ⟨b708, 0, none⟩) 1 1]) (cap := 1) rfl (by simp)
    replace hS : St w (([(b704, .cells x.v.enc 67), (b701, .cells x.k.enc 61), (bx697, .cells #[s.v] 22), (b695, .cells #[vo] 42)] ++ it) ++ eo.toList) (pinSl (.slice (some ⟨b710, 0, none⟩) 1 1) [Sv.mk (some ⟨b708, 0, none⟩) 1 1] :: pinSl (.slice (some ⟨b708, 0, none⟩) 1 1) [At.mk x.k x.v] :: pinSS d lss :: pinSl s.v l :: ip) W711 := hS.perm (perm_of_count (fun f => by simp only [List.countP_append, List.countP_cons, List.countP_nil, Option.toList_none, Option.toList_some] <;> omega))
    refine WL.append (α := Sv) (a := Sv.mk (some ⟨b708, 0, none⟩) 1 1) under42 infT22 rfl (by decide) (by decide) ([(b704, .cells x.v.enc 67), (b701, .cells x.k.enc 61), (bx697, .cells #[s.v] 22), (b695, .cells #[vo] 42)] ++ it) hO hS (hS.mem (.head _)) (by have := normAt_length l; omega) rfl rfl rfl rfl rfl rfl (fun vo712 eo713 W714 hO715 hS => ?_)
    refine WL.store1 hO715.isSl tySz42 hS 3 rfl rfl rfl rfl rfl rfl ((b704, .cells x.v.enc 67) :: (b701, .cells x.k.enc 61) :: (bx697, .cells #[s.v] 22) :: (b695, .cells #[vo712] 42) :: (it ++ eo713.toList)) rfl (fun W716 hS => ?_)
    refine WL.nil ?_
    refine inBlock_normal ?_
    replace hS := hS.ssSnoc (s := Sv.mk (some ⟨b708, 0, none⟩) 1 1) (li := [At.mk x.k x.v]) (.tail _ (.tail _ (.head _))) (.tail _ (.head _)) hlen
    replace hS := St.repin0 (ps := [pinSS (d ++ [Sv.mk (some ⟨b708, 0, none⟩) 1 1]) (lss ++ [[At.mk x.k x.v]]), pinSl s.v l]) (qs := [pinSS (d ++ [Sv.mk (some ⟨b708, 0, none⟩) 1 1]) (lss ++ [[At.mk x.k x.v]]), pinSl (.slice (some ⟨b710, 0, none⟩) 1 1) [Sv.mk (some ⟨b708, 0, none⟩) 1 1], pinSl (.slice (some ⟨b708, 0, none⟩) 1 1) [At.mk x.k x.v], pinSS d lss, pinSl s.v l]) hS ⟨(.head _), (.tail _ (.tail _ (.tail _ (.tail _ (.head _))))), trivial⟩
    replace hS : St w ((b704, .cells x.v.enc 67) :: (b701, .cells x.k.enc 61) :: (([(bx697, .cells #[s.v] 22), (b695, .cells #[vo712] 42)] ++ eo713.toList) ++ it)) (pinSS (d ++ [Sv.mk (some ⟨b708, 0, none⟩) 1 1]) (lss ++ [[At.mk x.k x.v]]) :: pinSl s.v l :: ip) W716 := hS.perm (perm_of_count (fun f => by simp only [List.countP_append, List.countP_cons, List.countP_nil, Option.toList_none, Option.toList_some] <;> omega))
    exact ⟨_, _, ⟨vo712, eo713, d ++ [Sv.mk (some ⟨b708, 0, none⟩) 1 1], _, rfl, rfl, hO715, (by rw [hlss, take_snoc? hx700, List.map_append]; rfl), (by simp [hlen]), (by simp only [List.length_append, List.length_cons, List.length_nil]; omega), (fun t ht => by rcases List.mem_append.1 ht with ht | ht; exact hnews t ht; simp only [List.mem_singleton] at ht; subst ht; exact (fun b hb => by cases hb; exact hNb708))⟩, hS.drop 2 0⟩
  ·
    rintro D W717 _ _ ⟨vo, eo, d, lss, rfl, rfl, hO, hlss, hlen, hdl, hnews⟩ hS
    replace hS : St w ((bx697, .cells #[s.v] 22) :: (b695, .cells #[vo] 42) :: (D, .deferred (some [])) :: eo.toList) (pinSS d lss :: pinSl s.v l :: []) W717 := hS.perm (perm_of_count (fun f => by simp only [List.countP_append, List.countP_cons, List.countP_nil, Option.toList_none, Option.toList_some] <;> omega))
    rw [List.take_length] at hlss
    refine inBlock_normal ?_
    refine then_normal ?_
    refine WP.seq ?_
    refine WP.region ?_
    refine WL.op (v := vo) rfl rfl rfl (Ex.load1 tyOne42 rfl rfl (Reads.of_block (hS.at 1 rfl) 0 [vo] rfl)) ?_
    refine WL.store1 hO.isSl tySz42 hS 1 rfl rfl rfl rfl rfl rfl ((bx697, .cells #[s.v] 22) :: (b695, .cells #[vo] 42) :: (D, .deferred (some [])) :: eo.toList) rfl (fun W718 hS => ?_)
    refine WL.nil ?_
    refine then_normal ?_
    refine WP.ret ?_
    refine ?_
    refine leaveM (v := vo) hS (i := 2) rfl (fun W719 hS => ?_)
    refine ⟨runsC (v := vo) rfl tyOne42 rfl (Reads.of_block (hS.at 1 rfl) 0 _ rfl), ?_⟩
    have hz := OutG.slM hO hS (fun p hp => by rw [hp]; simp) (by have := normAt_length l; omega)
    exact ⟨_, _, rfl, hS.bw, ⟨hz.1, (by rw [← hlss]; exact hS.mem (.head _)), (by rw [← hlss]; exact hlen), hz.2, hnews, hO.capd⟩⟩
  ·
    exact fun _ _ _ _ _ h _ => h.elim
set_option maxRecDepth 100000 in
set_option maxHeartbeats 1000000 in
theorem c_but0 (b off cap i : Nat) (rs : List Sv) (w : World) (hv : Sl w (.slice (some ⟨b, off, none⟩) rs.length cap) rs) (hc : rs.length ≤ cap) (hi : i < rs.length) (hl : rs.length ≤ 1048576) :
    Calls Try.prog 89 #[.slice (some ⟨b, off, none⟩) rs.length cap, .int .i64 (i : Int)] w fun e w' => ∃ v', e = .returned v' ∧ Bw w w' ∧ Sl w' v' (rs.eraseIdx i) ∧ (New w v' ∨ vblk v' = some b) := by
  have hS := St.begin (w := w) (pins := pinSl (.slice (some ⟨b, off, none⟩) rs.length cap) rs :: []) ⟨hv, trivial⟩
  refine enter (n := 14) Try.func89 rfl rfl (Nat.le_of_ble_eq_true rfl) (l := [(0, .slice (some ⟨b, off, none⟩) rs.length cap), (1, .int .i64 (i : Int))]) rfl ?_
  refine WP.seq ?_
  refine WP.region ?_
  refine WL.op (v := .slice none 0 0) rfl rfl rfl (Ex.assign rfl rfl) ?_
  refine WL.nil ?_
  refine then_normal ?_
  refine WP.seq ?_
  refine WP.drawL 8 [(fun u_ _ => u_ = .slice (some ⟨b, off, none⟩) rs.length cap), (fun u_ _ => u_ = .int .i64 (i : Int)), (fun u_ _ => u_ = .int .i64 (i : Int)), (fun u_ _ => u_ = .slice (some ⟨b, off, none⟩) i i), (fun u_ _ => u_ = .slice (some ⟨b, off, none⟩) rs.length cap), (fun u_ _ => u_ = .int .i64 (i : Int)), (fun u_ _ => u_ = .int .i64 ((i + 1 : Nat) : Int)), (fun u_ _ => u_ = .slice (some ⟨b, if cap = (i + 1) then off else off + (i + 1) * 1, none⟩) (rs.length - (i + 1)) (cap - (i + 1)))] (fun vs => (12, vs 7) :: (11, vs 6) :: (10, vs 5) :: (9, vs 4) :: (8, vs 3) :: (7, vs 2) :: (6, vs 1) :: (5, vs 0) :: _) ⟨fun _ _ _ _ h => h, fun _ _ _ _ h => h, fun _ _ _ _ h => h, fun _ _ _ _ h => h, fun _ _ _ _ h => h, fun _ _ _ _ h => h, fun _ _ _ _ h => h, fun _ _ _ _ h => h, trivial⟩ (by kernel_rfl) (fun _ => rfl) ⟨?_, ?_, ?_, ?_, ?_, ?_, ?_, ?_, trivial⟩ ?_
  ·
    intro vs W hE hp
    exact dr_plain rfl (dr_ex (v := .slice (some ⟨b, off, none⟩) rs.length cap) (Ex.move rfl rfl) (Bw.refl _) rfl)
  ·
    intro vs W hE hp
    exact dr_plain rfl (dr_ex (v := .int .i64 (i : Int)) (Ex.move rfl rfl) (Bw.refl _) rfl)
  ·
    intro vs W hE hp
    exact dr_plain rfl (dr_ex (v := .int .i64 (i : Int)) (Ex.move rfl rfl) (Bw.refl _) rfl)
  ·
    intro vs W hE hp
    have p0 := hp 0 (by kernel_rfl)
    simp only [List.getD_cons_zero, List.getD_cons_succ] at p0
    have p1 := hp 1 (by kernel_rfl)
    simp only [List.getD_cons_zero, List.getD_cons_succ] at p1
    have p2 := hp 2 (by kernel_rfl)
    simp only [List.getD_cons_zero, List.getD_cons_succ] at p2
    exact dr_plain rfl (dr_ex (v := .slice (some ⟨b, off, none⟩) i i) (Ex.sliceTo under42 tySz22 (by omega) (by omega) rfl p0 p1 p2) (Bw.refl _) rfl)
  ·
    intro vs W hE hp
    exact dr_plain rfl (dr_ex (v := .slice (some ⟨b, off, none⟩) rs.length cap) (Ex.move rfl rfl) (Bw.refl _) rfl)
  ·
    intro vs W hE hp
    exact dr_plain rfl (dr_ex (v := .int .i64 (i : Int)) (Ex.move rfl rfl) (Bw.refl _) rfl)
  ·
    intro vs W hE hp
    have p5 := hp 5 (by kernel_rfl)
    simp only [List.getD_cons_zero, List.getD_cons_succ] at p5
    exact dr_plain rfl (dr_ex (v := .int .i64 ((i + 1 : Nat) : Int)) (Ex.add rfl p5 rfl (wrap_succ (by omega))) (Bw.refl _) rfl)
  ·
    intro vs W hE hp
    have p4 := hp 4 (by kernel_rfl)
    simp only [List.getD_cons_zero, List.getD_cons_succ] at p4
    have p6 := hp 6 (by kernel_rfl)
    simp only [List.getD_cons_zero, List.getD_cons_succ] at p6
    exact dr_plain rfl (dr_ex (v := .slice (some ⟨b, if cap = (i + 1) then off else off + (i + 1) * 1, none⟩) (rs.length - (i + 1)) (cap - (i + 1))) (Ex.sliceFrom under42 tySz22 (by omega) rfl p4 p6) (Bw.refl _) rfl)
  intro vs W721 hE hv
  have hS0 := hS; replace hS := hS.ext hE
  have p0 : vs 0 = .slice (some ⟨b, off, none⟩) rs.length cap := hv 0 (by decide)
  have p1 : vs 1 = .int .i64 (i : Int) := hv 1 (by decide)
  have p2 : vs 2 = .int .i64 (i : Int) := hv 2 (by decide)
  have p3 : vs 3 = .slice (some ⟨b, off, none⟩) i i := hv 3 (by decide)
  have p4 : vs 4 = .slice (some ⟨b, off, none⟩) rs.length cap := hv 4 (by decide)
  have p5 : vs 5 = .int .i64 (i : Int) := hv 5 (by decide)
  have p6 : vs 6 = .int .i64 ((i + 1 : Nat) : Int) := hv 6 (by decide)
  have p7 : vs 7 = .slice (some ⟨b, if cap = (i + 1) then off else off + (i + 1) * 1, none⟩) (rs.length - (i + 1)) (cap - (i + 1)) := hv 7 (by decide)
  refine WL.keep (k := [(5, .slice (some ⟨b, off, none⟩) rs.length cap), (6, .int .i64 (i : Int)), (7, .int .i64 (i : Int)), (8, .slice (some ⟨b, off, none⟩) i i), (9, .slice (some ⟨b, off, none⟩) rs.length cap), (10, .int .i64 (i : Int)), (11, .int .i64 ((i + 1 : Nat) : Int)), (12, .slice (some ⟨b, if cap = (i + 1) then off else off + (i + 1) * 1, none⟩) (rs.length - (i + 1)) (cap - (i + 1)))]) ⟨p0, p1, p2, p3, p4, p5, p6, p7, trivial⟩ ?_
  have hx := Sl.to (i := i) (c := i) (hS.mem (.head _) : Sl _ _ _) (by omega)
  have hy := Sl.from (i := i + 1) (c := cap - (i + 1)) (hS.mem (.head _) : Sl _ _ _) (by omega) hc
  refine WL.appendCat (α := Sv) under42 infT22 rfl (by decide) (by decide) hx hy (by simp; omega) rfl rfl rfl rfl rfl rfl (fun v' W' hB hv' hn' => ?_)
  have hn1 : New w v' ∨ vblk v' = some b := hn'.imp (fun h => h.of hS.bw) id
  replace hS := hS.pinOrB (hS.ext hB) (.head _) hv' hn'
  refine WL.op (v := v') rfl rfl rfl (Ex.assign rfl rfl) ?_
  refine WL.nil ?_
  refine then_normal ?_
  refine WP.ret ?_
  refine ?_
  refine rt1 (v := v') rfl rfl ?_
  exact ⟨_, rfl, hS.bw, (by rw [List.eraseIdx_eq_take_drop_succ]; exact hS.mem (.head _)), hn1⟩
theorem c_but (v : Value) (i : Nat) (rs : List Sv) (w : World) (hv : Sl w v rs) (hc : Capd v) (hi : i < rs.length) (hl : rs.length ≤ 1048576) : Calls Try.prog 89 #[v, .int .i64 (i : Int)] w fun e w' => ∃ v', e = .returned v' ∧ Bw w w' ∧ Sl w' v' (rs.eraseIdx i) ∧ (New w v' ∨ vblk v' = vblk v) := by
  obtain ⟨b, off, cap, rfl⟩ := hv.open (by omega)
  exact c_but0 b off cap i rs w hv (hc _ _ _ rfl) hi hl
set_option maxRecDepth 100000 in
set_option maxHeartbeats 1000000 in
theorem c_spare (v v2 : Value) (l : List At) (rs : List Sv) (ls : List (List At)) (w : World) (hv : Sl w v l) (hv2 : Sl w v2 rs) (hs : SS w rs ls) (hlen : rs.length = ls.length) (hl : l.length ≤ 1048576) (hl2 : ls.flatten.length ≤ 1048576) :
    Calls Try.prog 88 #[v, v2] w fun e w' => e = .returned (.bool (leqAt l ls.flatten)) ∧ Bw w w' := by
  have hS := St.begin (w := w) (pins := pinSl v l :: pinSl v2 rs :: pinSS rs ls :: []) ⟨hv, hv2, hs, trivial⟩
  refine enter (n := 9) Try.func88 rfl rfl (Nat.le_of_ble_eq_true rfl) (l := [(0, v), (1, v2)]) rfl ?_
  refine WP.seq ?_
  refine WP.region ?_
  refine WL.op (v := .bool false) rfl rfl rfl (Ex.assign rfl rfl) ?_
  refine WL.nil ?_
  refine then_normal ?_
  refine WP.seq ?_
  refine WP.region ?_
  refine WL.op (v := v) rfl rfl rfl (Ex.move rfl rfl) ?_
  refine WL.op (v := v2) rfl rfl rfl (Ex.move rfl rfl) ?_
  refine WL.call rfl rfl rfl (enterS eg36 (args := [v2]) rfl rfl rfl rfl) (c_all _ rs ls _ (hS.mem (.tail _ (.head _))) (hS.mem (.tail _ (.tail _ (.head _)))) hlen hl2) ?_
  rintro e W724 ⟨v722, rfl, hB, hv', hn'⟩
  have hN723 : New w v722 := fun b hb => Nat.le_trans hS.bw.size (hn' b hb)
  replace hS := hS.newPin hB (pinSl v722 (normAt ls.flatten)) hv' hn'
  refine ⟨_, rfl, ?_⟩
  have hq725 := Nat.le_trans (normAt_length ls.flatten) (hl2)
  refine WL.call rfl rfl rfl (enterS eg20 (args := [v, v722]) rfl rfl rfl rfl) (c_leq _ _ l (normAt ls.flatten) _ (hS.mem (.tail _ (.head _))) (hS.mem (.head _)) (by first | omega | (simp; done) | (simp; omega)) (by first | omega | (simp; done) | (simp; omega))) ?_
  rintro e W726 ⟨rfl, hB⟩
  replace hS := hS.ext hB
  refine ⟨_, rfl, ?_⟩
  refine WL.op (v := .bool (leqAt l (normAt ls.flatten))) rfl rfl rfl (Ex.assign rfl rfl) ?_
  refine WL.nil ?_
  refine then_normal ?_
  refine WP.ret ?_
  refine ?_
  refine rt1 (v := .bool (leqAt l (normAt ls.flatten))) rfl rfl ?_
  exact ⟨retb (leq_norm_r _ _), hS.bw⟩
set_option maxRecDepth 100000 in
set_option maxHeartbeats 1000000 in
theorem c_irredundant (v : Value) (rs : List Sv) (ls : List (List At)) (w : World) (hv : Sl w v rs) (hs : SS w rs ls) (hlen : rs.length = ls.length) (hc : Capd v) (hl : rs.length ≤ 1048576) (hl2 : ls.flatten.length ≤ 1048576) :
    Calls Try.prog 38 #[v] w fun e w' => e = .returned (.bool (irredAt ls)) ∧ Bw w w' := by
  have hS := St.begin (w := w) (pins := pinSl v rs :: pinSS rs ls :: []) ⟨hv, hs, trivial⟩
  refine enter (n := 18) Try.func38 rfl rfl (Nat.le_of_ble_eq_true rfl) (l := [(0, v)]) rfl ?_
  refine WP.seq ?_
  refine WP.region ?_
  refine WL.op (v := .bool false) rfl rfl rfl (Ex.assign rfl rfl) ?_
  refine WL.nil ?_
  refine then_normal ?_
  refine WP.seq ?_
  refine WP.seq ?_
  refine WP.region ?_
  refine WL.op (v := v) rfl rfl rfl (Ex.move rfl rfl) ?_
  have hl727 : rs.length < 4611686018427387904 := (hS.mem (.head _) : Sl _ _ _).lt
  refine WL.op (v := .int .i64 (rs.length : Int)) rfl rfl rfl (Ex.lenSl (l := rs) ⟨_, under42⟩ rfl rfl (hS.mem (.head _))) ?_
  refine WL.op (v := .int .i64 0) rfl rfl rfl (Ex.move rfl rfl) ?_
  refine WL.nil ?_
  refine then_normal ?_
  refine WP.block ?_
  refine WP.loop (fun (μ : Nat) a W => ∃ (k : Nat), ∃ (l0 : Fr), a = fr 18 [] ([(0, v), (5, v), (6, .int .i64 (rs.length : Int)), (7, .int .i64 (k : Int))] ++ l0) ∧ μ = rs.length - k ∧ k ≤ rs.length ∧ St w ([]) (pinSl v rs :: pinSS rs ls :: []) W ∧ ((List.range k).all (fun i => !spareAt ls ls i) = true)) id _ ⟨0, _, fr_keep ⟨rfl, rfl, rfl, rfl, trivial⟩, rfl, by omega, hS, rfl⟩ ?_
  rintro μ a W728 ⟨k, l0, rfl, rfl, hk, hS, hall⟩
  refine WP.seq ?_
  refine WP.region ?_
  refine WL.op (v := .bool (decide ((k : Int) < (rs.length : Int)))) rfl rfl rfl (Ex.lt rfl rfl rfl) ?_
  refine WL.nil ?_
  refine then_normal ?_
  refine WP.seq ?_
  refine WP.cond (b := decide ((k : Int) < (rs.length : Int))) rfl (fun hc729 => ?_) (fun hc729 => ?_)
  ·
    have hc729' : (k : Int) < (rs.length : Int) := by simpa using hc729
    refine WP.skip ?_
    refine then_normal ?_
    refine WP.seq ?_
    refine WP.block ?_
    refine WP.seq ?_
    refine WP.region ?_
    refine WL.op (v := .int .i64 (k : Int)) rfl rfl rfl (Ex.move rfl rfl) ?_
    obtain ⟨b730, p731, x732, hx733, hi734, hS⟩ := hS.elem (α := Sv) (k := k) (.head _) under42 tySz22 (by omega)
    refine WL.op (v := .pointer (some ⟨b730, p731, none⟩)) rfl rfl rfl (Ex.indexC hi734 rfl rfl rfl) ?_
    obtain ⟨li735, hli736⟩ : ∃ li, ls[k]? = some li := ⟨ls[k]'(by omega), by simp⟩
    replace hS := hS.inner (.tail _ (.tail _ (.head _))) hx733 hli736
    have hll737 : li735.length ≤ 1048576 := Nat.le_trans (get_flatten_le hli736) (hl2)
    refine WL.op (v := x732.v) rfl rfl rfl (Ex.load1 tyOne22 rfl rfl (Reads.sub (cs := [x732.v]) (hS.get 1 rfl) 0 (ds := [x732.v]) rfl)) ?_
    refine WL.op (v := .int .i64 (k : Int)) rfl rfl rfl (Ex.assign rfl rfl) ?_
    refine WL.op (v := x732.v) rfl rfl rfl (Ex.assign rfl rfl) ?_
    refine WL.nil ?_
    refine then_normal ?_
    refine WP.seq ?_
    refine WP.region ?_
    refine WL.op (v := x732.v) rfl rfl rfl (Ex.move rfl rfl) ?_
    refine WL.op (v := v) rfl rfl rfl (Ex.move rfl rfl) ?_
    refine WL.op (v := .int .i64 (k : Int)) rfl rfl rfl (Ex.move rfl rfl) ?_
    refine WL.call rfl rfl rfl (enterS eg89 (args := [v, .int .i64 (k : Int)]) rfl rfl rfl rfl) (c_but _ k rs _ (hS.mem (.tail _ (.tail _ (.head _)))) (hc) (by omega) (by omega)) ?_
    rintro e W740 ⟨v738, rfl, hB, hb739, hn'⟩
    replace hS := hS.pinOrB (hS.ext hB) (.tail _ (.tail _ (.head _))) hb739 hn'
    replace hS := hS.ssErase (.tail _ (.tail _ (.tail _ (.tail _ (.head _))))) k
    refine ⟨_, rfl, ?_⟩
    refine WL.call rfl rfl rfl (enterS eg88 (args := [x732.v, v738]) rfl rfl rfl rfl) (c_spare _ _ li735 (rs.eraseIdx k) (ls.eraseIdx k) _ (hS.mem (.tail _ (.tail _ (.head _)))) (hS.mem (.tail _ (.head _))) (hS.mem (.head _)) (by rw [List.length_eraseIdx, List.length_eraseIdx, hlen]) (Nat.le_trans (get_flatten_le (by assumption)) hl2) ((Nat.le_trans (flatten_erase_le _ _) (hl2)))) ?_
    rintro e W741 ⟨rfl, hB⟩
    replace hS := hS.ext hB
    refine ⟨_, rfl, ?_⟩
    refine WL.nil ?_
    refine then_normal ?_
    refine WP.cond (b := leqAt li735 (ls.eraseIdx k).flatten) rfl (fun hc742 => ?_) (fun hc742 => ?_)
    ·
      refine WP.seq ?_
      refine WP.region ?_
      refine WL.op (v := .bool false) rfl rfl rfl (Ex.assign rfl rfl) ?_
      refine WL.nil ?_
      refine then_normal ?_
      refine WP.ret ?_
      refine inBlock_ret (then_ret (then_ret (inBlock_ret (then_ret (?_)))))
      refine rt1 (v := .bool false) rfl rfl ?_
      exact ⟨retb (range_not (k := k) (by omega) ((spare_eq hli736 hc742).trans rfl)).symm, hS.bw⟩
    ·
      refine WP.skip ?_
      refine inBlock_normal ?_
      refine then_normal ?_
      refine WP.region ?_
      refine WL.op (v := .int .i64 ((k + 1 : Nat) : Int)) rfl rfl rfl (Ex.add rfl rfl rfl (wrap_succ (by omega))) ?_
      refine WL.op (v := .int .i64 ((k + 1 : Nat) : Int)) rfl rfl rfl (Ex.move rfl rfl) ?_
      refine WL.nil ?_
      refine then_normal ?_
      exact ⟨_, ⟨k + 1, _, fr_keep ⟨rfl, rfl, rfl, rfl, trivial⟩, rfl, by omega, hS.drop 0 4, range_next hall ((spare_eq hli736 hc742).trans rfl)⟩, by simp only [id]; omega⟩
  ·
    have hc729' : ¬ ((k : Int) < (rs.length : Int)) := by simpa using hc729
    refine WP.exit ?_
    refine then_exit (then_exit (inBlock_same (?_)))
    refine then_normal ?_
    refine WP.seq ?_
    refine WP.region ?_
    refine WL.op (v := .bool true) rfl rfl rfl (Ex.assign rfl rfl) ?_
    refine WL.nil ?_
    refine then_normal ?_
    refine WP.ret ?_
    refine ?_
    refine rt1 (v := .bool true) rfl rfl ?_
    exact ⟨retb (by rw [show k = ls.length by omega] at hall; exact hall.symm), hS.bw⟩
set_option maxRecDepth 100000 in
set_option maxHeartbeats 4000000 in
theorem c_needless (v : Value) (rs : List Sv) (ls : List (List At)) (w : World) (hv : Sl w v rs) (hs : SS w rs ls) (hlen : rs.length = ls.length) (hc : Capd v) (hl : rs.length ≤ 1048576) (hl2 : ls.flatten.length ≤ 1048576) :
    Calls Try.prog 35 #[v] w fun e w' => ∃ v', e = .returned v' ∧ Bw w w' ∧ Sl w' v' (needF ls ls.length).1 ∧ New w v' := by
  have hS := St.begin (w := w) (pins := pinSl v rs :: pinSS rs ls :: []) ⟨hv, hs, trivial⟩
  refine enter (n := 31) Try.func35 rfl rfl (Nat.le_of_ble_eq_true rfl) (l := [(0, v)]) rfl ?_
  refine WP.seq ?_
  refine WP.region ?_
  refine WL.op (v := .slice none 0 0) rfl rfl rfl (Ex.assign rfl rfl) ?_
  refine WL.nil ?_
  refine then_normal ?_
  refine WP.scope ?_
  refine WP.seq ?_
  refine WP.region ?_
  refine WL.buildSlice (ps := []) (C := #[]) (E := 22) rfl (fun _ => by kernel_rfl) hS rfl rfl rfl rfl (fun b743 W744 hS => ?_)
  have hO745 : OutG (α := Sv) (.slice (some ⟨b743, 0, none⟩) 0 0) (some (b743, .cells #[] 22)) 22 [] := .inr ⟨b743, 0, #[], rfl, rfl, Nat.le_refl _, by decide, rfl, rfl⟩
  refine WL.op (v := v) rfl rfl rfl (Ex.move rfl rfl) ?_
  refine WL.appendAll (α := Sv) (xs := rs) under42 infT22 rfl (by decide) (by decide) [] hO745 hS (hS.mem (.head _)) (by simp; omega) rfl rfl rfl rfl rfl rfl (fun vo746 eo747 W748 hO749 hS => ?_)
  replace hO749 : OutG vo746 eo747 22 rs := hO749
  refine WL.op (v := vo746) rfl rfl rfl (Ex.assign rfl rfl) ?_
  refine WL.nil ?_
  refine then_normal ?_
  refine WP.seq ?_
  refine WP.label ?_
  refine then_normal ?_
  refine WP.seq ?_
  refine WP.seq ?_
  refine WP.region ?_
  refine WL.op (v := v) rfl rfl rfl (Ex.move rfl rfl) ?_
  have hl750 : rs.length < 4611686018427387904 := (hS.mem (.head _) : Sl _ _ _).lt
  refine WL.op (v := .int .i64 (rs.length : Int)) rfl rfl rfl (Ex.lenSl (l := rs) ⟨_, under42⟩ rfl rfl (hS.mem (.head _))) ?_
  refine WL.op (v := .int .i64 0) rfl rfl rfl (Ex.move rfl rfl) ?_
  refine WL.nil ?_
  refine then_normal ?_
  refine WP.block ?_
  replace hS := hS.again (.tail _ (.head _))
  refine WP.loop (fun (μ : Nat) a W => ∃ (k : Nat), ∃ (vi : Value), ∃ (ei : Option (Nat × Obj)), ∃ (di : List Int), ∃ (el : Option (Nat × Obj)), ∃ (dl : List Sv), ∃ (lss : List (List At)), ∃ (l0 : Fr), a = fr 31 [] ([(3, vo746), (9, v), (10, .int .i64 (rs.length : Int)), (11, .int .i64 (k : Int)), (2, vi)] ++ l0) ∧ μ = rs.length - k ∧ k ≤ rs.length ∧ St w ((ei.toList ++ el.toList)) (pinSS dl lss :: pinSl v rs :: pinSS rs ls :: []) W ∧ (OutG vi ei 3 di) ∧ (OutG vo746 el 22 dl) ∧ ((di, lss) = needF ls k) ∧ (dl.length = lss.length) ∧ (dl.length = rs.length) ∧ (lss.flatten.length ≤ 1048576) ∧ (di.length ≤ k)) id _ ⟨0, .slice none 0 0, none, [], eo747, rs, ls, _, fr_keep ⟨rfl, rfl, rfl, rfl, rfl, trivial⟩, rfl, by omega, (hS.perm (perm_of_count (fun f => by simp only [List.countP_append, List.countP_cons, List.countP_nil, Option.toList_none, Option.toList_some] <;> omega))), OutG.nil, hO749, rfl, hlen, rfl, hl2, Nat.le_refl _⟩ ?_
  rintro μ a W751 ⟨k, vi, ei, di, el, dl, lss, l0, rfl, rfl, hk, hS, hOi, hOl, hst, hlen2, hdl, hl3, hdi⟩
  refine WP.seq ?_
  refine WP.region ?_
  refine WL.op (v := .bool (decide ((k : Int) < (rs.length : Int)))) rfl rfl rfl (Ex.lt rfl rfl rfl) ?_
  refine WL.nil ?_
  refine then_normal ?_
  refine WP.seq ?_
  refine WP.cond (b := decide ((k : Int) < (rs.length : Int))) rfl (fun hc752 => ?_) (fun hc752 => ?_)
  ·
    have hc752' : (k : Int) < (rs.length : Int) := by simpa using hc752
    refine WP.skip ?_
    refine then_normal ?_
    refine WP.seq ?_
    refine WP.block ?_
    refine WP.seq ?_
    refine WP.region ?_
    refine WL.op (v := .int .i64 (k : Int)) rfl rfl rfl (Ex.move rfl rfl) ?_
    obtain ⟨b753, p754, x755, hx756, hi757, hS⟩ := hS.elem (α := Sv) (k := k) (.tail _ (.head _)) under42 tySz22 (by omega)
    refine WL.op (v := .pointer (some ⟨b753, p754, none⟩)) rfl rfl rfl (Ex.indexC hi757 rfl rfl rfl) ?_
    obtain ⟨li758, hli759⟩ : ∃ li, ls[k]? = some li := ⟨ls[k]'(by omega), by simp⟩
    replace hS := hS.inner (.tail _ (.tail _ (.tail _ (.head _)))) hx756 hli759
    have hll760 : li758.length ≤ 1048576 := Nat.le_trans (get_flatten_le hli759) (hl2)
    refine WL.op (v := x755.v) rfl rfl rfl (Ex.load1 tyOne22 rfl rfl (Reads.sub (cs := [x755.v]) (hS.get 1 rfl) 0 (ds := [x755.v]) rfl)) ?_
    refine WL.op (v := .int .i64 (k : Int)) rfl rfl rfl (Ex.assign rfl rfl) ?_
    refine WL.op (v := x755.v) rfl rfl rfl (Ex.assign rfl rfl) ?_
    refine WL.nil ?_
    refine then_normal ?_
    refine WP.seq ?_
    refine WP.seq ?_
    refine WP.region ?_
    refine WL.op (v := x755.v) rfl rfl rfl (Ex.move rfl rfl) ?_
    refine WL.op (v := vo746) rfl rfl rfl (Ex.move rfl rfl) ?_
    refine WL.op (v := .int .i64 (k : Int)) rfl rfl rfl (Ex.move rfl rfl) ?_
    have hsl761 : Sl W751 vo746 dl := (OutG.slM hOl hS (fun p hp => by first | (rw [hp]; simp; done) | (cases hp; simp)) (by first | omega | (simp; done) | (simp; omega))).1
    refine WL.call rfl rfl rfl (enterS eg89 (args := [vo746, .int .i64 (k : Int)]) rfl rfl rfl rfl) (c_but _ k dl _ hsl761 (hOl.capd) (by omega) (by omega)) ?_
    rintro e W764 ⟨v762, rfl, hB, hb763, hn'⟩
    replace hsl761 := hsl761.bw hB
    replace hS := hS.ext hB
    replace hS := hS.ssErase (.tail _ (.tail _ (.head _))) k
    refine ⟨_, rfl, ?_⟩
    refine WL.call rfl rfl rfl (enterS eg88 (args := [x755.v, v762]) rfl rfl rfl rfl) (c_spare _ _ li758 (dl.eraseIdx k) (lss.eraseIdx k) _ (hS.mem (.tail _ (.head _))) hb763 (hS.mem (.head _)) (by rw [List.length_eraseIdx, List.length_eraseIdx, hlen2]) (Nat.le_trans (get_flatten_le (by assumption)) hl2) ((Nat.le_trans (flatten_erase_le _ _) (hl3)))) ?_
    rintro e W765 ⟨rfl, hB⟩
    replace hsl761 := hsl761.bw hB
    replace hb763 := hb763.bw hB
    replace hS := hS.ext hB
    refine ⟨_, rfl, ?_⟩
    refine WL.op (v := .bool (!(leqAt li758 (lss.eraseIdx k).flatten))) rfl rfl rfl (Ex.not rfl rfl) ?_
    refine WL.nil ?_
    refine then_normal ?_
    refine WP.cond (b := !(leqAt li758 (lss.eraseIdx k).flatten)) rfl (fun hc766 => ?_) (fun hc766 => ?_)
    ·
      have hc767 : (leqAt li758 (lss.eraseIdx k).flatten) = false := by simpa using hc766
      refine WP.exit ?_
      refine then_exit (inBlock_same (?_))
      refine then_normal ?_
      refine WP.region ?_
      refine WL.op (v := .int .i64 ((k + 1 : Nat) : Int)) rfl rfl rfl (Ex.add rfl rfl rfl (wrap_succ (by omega))) ?_
      refine WL.op (v := .int .i64 ((k + 1 : Nat) : Int)) rfl rfl rfl (Ex.move rfl rfl) ?_
      refine WL.nil ?_
      refine then_normal ?_
      exact ⟨_, ⟨k + 1, vi, ei, di, el, dl, lss, _, fr_keep ⟨rfl, rfl, rfl, rfl, rfl, trivial⟩, rfl, by omega, (hS.repin 0 ⟨(.tail _ (.tail _ (.tail _ (.head _)))), (.tail _ (.tail _ (.tail _ (.tail _ (.head _))))), (.tail _ (.tail _ (.tail _ (.tail _ (.tail _ (.head _)))))), trivial⟩), hOi, hOl, need_no hst hli759 hc767, hlen2, hdl, hl3, (by omega)⟩, by simp only [id]; omega⟩
    ·
      have hc768 : (leqAt li758 (lss.eraseIdx k).flatten) = true := by simpa using hc766
      refine WP.skip ?_
      refine then_normal ?_
      refine WP.region ?_
      refine WL.op (v := vo746) rfl rfl rfl (Ex.move rfl rfl) ?_
      refine WL.op (v := .int .i64 (k : Int)) rfl rfl rfl (Ex.move rfl rfl) ?_
      refine WL.op (v := vi) rfl rfl rfl (Ex.move rfl rfl) ?_
      refine WL.op (v := .int .i64 (k : Int)) rfl rfl rfl (Ex.move rfl rfl) ?_
      refine WL.buildSlice (ps := [(0, .int .i64 (k : Int))]) (C := #[.int .i64 (k : Int)]) (E := 3) rfl (fun _ => by kernel_rfl) hS rfl rfl rfl rfl (fun b769 W770 hS => ?_)
      replace hS := hS.slice (α := Int) (xs := [(k : Int)]) (cap := 1) rfl (by simp)
      replace hS : St w (([] ++ el.toList) ++ ei.toList) (pinSl (.slice (some ⟨b769, 0, none⟩) 1 1) [(k : Int)] :: pinSS (dl.eraseIdx k) (lss.eraseIdx k) :: pinSl x755.v li758 :: pinReads b753 p754 (Enc.val x755).cells.toList :: pinSS dl lss :: pinSl v rs :: pinSS rs ls :: []) W770 := hS.perm (perm_of_count (fun f => by simp only [List.countP_append, List.countP_cons, List.countP_nil, Option.toList_none, Option.toList_some] <;> omega))
      refine WL.append (α := Int) (a := (k : Int)) under43 infT3 rfl (by decide) (by decide) ([] ++ el.toList) hOi hS (hS.mem (.head _)) (by omega) rfl rfl rfl rfl rfl rfl (fun vo771 eo772 W773 hO774 hS => ?_)
      refine WL.op (v := vo771) rfl rfl rfl (Ex.assign rfl rfl) ?_
      obtain ⟨g775, og776, rfl, hi777⟩ := OutG.spot (i := k) hOl under42 tySz22 (by omega)
      refine WL.op (v := .pointer (some ⟨g775, k * Enc.sz Sv, none⟩)) rfl rfl rfl (Ex.indexC hi777 rfl rfl rfl) ?_
      replace hS : St w (([] ++ eo772.toList) ++ (some (g775, og776)).toList) (pinSl (.slice (some ⟨b769, 0, none⟩) 1 1) [(k : Int)] :: pinSS (dl.eraseIdx k) (lss.eraseIdx k) :: pinSl x755.v li758 :: pinReads b753 p754 (Enc.val x755).cells.toList :: pinSS dl lss :: pinSl v rs :: pinSS rs ls :: []) W773 := hS.perm (perm_of_count (fun f => by simp only [List.countP_append, List.countP_cons, List.countP_nil, Option.toList_none, Option.toList_some] <;> omega))
      refine WL.storeOut (α := Sv) (a := (Sv.mk none 0 0)) (i := k) hOl tySz22 (by omega) ([] ++ eo772.toList) hS rfl rfl rfl rfl rfl (fun og780 W779 hO781 hS => ?_)
      refine WL.nil ?_
      refine inBlock_normal ?_
      refine then_normal ?_
      refine WP.region ?_
      refine WL.op (v := .int .i64 ((k + 1 : Nat) : Int)) rfl rfl rfl (Ex.add rfl rfl rfl (wrap_succ (by omega))) ?_
      refine WL.op (v := .int .i64 ((k + 1 : Nat) : Int)) rfl rfl rfl (Ex.move rfl rfl) ?_
      refine WL.nil ?_
      refine then_normal ?_
      replace hS := hS.ssSet (.tail _ (.tail _ (.tail _ (.tail _ (.head _))))) k
      exact ⟨_, ⟨k + 1, vo771, eo772, di ++ [(k : Int)], (some (g775, og780)), dl.set k (Sv.mk none 0 0), lss.set k [], _, fr_keep ⟨rfl, rfl, rfl, rfl, rfl, trivial⟩, rfl, by omega, (hS.repin 0 ⟨(.head _), (.tail _ (.tail _ (.tail _ (.tail _ (.tail _ (.tail _ (.head _))))))), (.tail _ (.tail _ (.tail _ (.tail _ (.tail _ (.tail _ (.tail _ (.head _)))))))), trivial⟩), hO774, hO781, need_yes hst hli759 hc768, (by simp [hlen2]), (by simp [hdl]), (Nat.le_trans (flatten_set_le _ _) hl3), (by simp only [List.length_append, List.length_cons, List.length_nil]; omega)⟩, by simp only [id]; omega⟩
  ·
    have hc752' : ¬ ((k : Int) < (rs.length : Int)) := by simpa using hc752
    refine WP.exit ?_
    refine then_exit (then_exit (inBlock_same (?_)))
    refine then_normal ?_
    refine WP.seq ?_
    refine WP.region ?_
    refine WL.op (v := vi) rfl rfl rfl (Ex.move rfl rfl) ?_
    refine WL.op (v := vi) rfl rfl rfl (Ex.assign rfl rfl) ?_
    refine WL.nil ?_
    refine then_normal ?_
    refine WP.ret ?_
    refine ng_ret (?_)
    refine rt1 (v := vi) rfl rfl ?_
    rw [show k = ls.length by omega] at hst
    have hz := OutG.slM hOi hS (fun p hp => by rw [hp]; simp) (by omega)
    exact ⟨_, rfl, hS.bw, (by rw [← hst]; exact hz.1), hz.2⟩
end Go.Proofs.Ythidakffgcjjiaa
