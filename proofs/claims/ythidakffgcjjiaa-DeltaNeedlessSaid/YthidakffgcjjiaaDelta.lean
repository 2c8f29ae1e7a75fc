/- The walks of delta: Diff, Split, Parts, Irreducible, but, spare, Needless, Irredundant. -/
import Derived.Test.YthidakffgcjjiaaLat2
import Derived.Test.YthidakffgcjjiaaRag
import Derived.Test.YthidakffgcjjiaaDeltaLaws
namespace Go.Proofs.Ythidakffgcjjiaa
open Go.RowKit Go.Sort

set_option maxRecDepth 100000 in
set_option maxHeartbeats 1000000 in
theorem c_diff1 (x : At) (b5 bm : Nat) (ob : Obj) (m : List (Ky × Vl)) (w : World) (hb : w.heap[b5]? = some (.cells #[.map (some bm)] 82 (0, 0))) (ho : w.heap[bm]? = some ob) (hm : MapObj ob m) :
    Calls Try.prog 87 #[.agg x.enc, .pointer (some ⟨b5, 0, none⟩)] w fun e w' => e = .returned (.bool (diffP m x)) ∧ Bw w w' := by
  have hS := St.begin (w := w) (pins := pinReads b5 0 [.map (some bm)] :: pinObj bm ob :: []) ⟨Reads.of_block hb 0 _ rfl, ho, trivial⟩
  refine enter (n := 26) Try.func87 rfl rfl (Nat.le_of_ble_eq_true rfl) (l := [(0, .agg x.enc), (1, .pointer (some ⟨b5, 0, none⟩))]) rfl ?_
  refine WP.seq ?_
  refine WP.region ?_
  refine WL.box (v := .agg x.enc) hS rfl rfl rfl rfl rfl (fun b672 W673 hS => ?_)
  refine WL.op (v := .bool false) rfl rfl rfl (Ex.assign rfl rfl) ?_
  refine WL.nil ?_
  refine then_normal ?_
  refine WP.seq ?_
  refine WP.region ?_
  refine WL.op (v := .map (some bm)) rfl rfl rfl (Ex.load1 tyOne82 rfl rfl (Reads.sub (cs := [.map (some bm)]) (hS.get 0 rfl) 0 (ds := [.map (some bm)]) rfl)) ?_
  refine WL.op (v := .pointer (some ⟨b672, 0, none⟩)) rfl rfl rfl (Ex.fieldAddr' fieldAt71_0 rfl rfl) ?_
  refine WL.op (v := .agg x.k.enc) rfl rfl rfl (Ex.loadA tyAgg61 rfl rfl (Reads.of_block (hS.at 0 rfl) 0 x.k.enc.toList rfl) rfl) ?_
  refine WL.op (v := .tuple #[.agg ((look m x.k).getD Vl.zero).enc, .bool ((look m x.k).isSome)]) rfl rfl rfl (Ex.lookupM (hS.get (p := pinObj bm ob) 1 rfl) hm rfl rfl rfl) ?_
  refine WL.op (v := .tuple #[.agg ((look m x.k).getD Vl.zero).enc, .bool ((look m x.k).isSome)]) rfl rfl rfl (Ex.move rfl rfl) ?_
  refine WL.op (v := .agg ((look m x.k).getD Vl.zero).enc) rfl rfl rfl (Ex.extract rfl rfl rfl) ?_
  refine WL.op (v := .bool ((look m x.k).isSome)) rfl rfl rfl (Ex.extract rfl rfl rfl) ?_
  refine WL.alloc zv67 hS rfl rfl rfl rfl (fun b674 W675 hS => ?_)
  refine WL.store tySz67 hS 0 rfl rfl rfl rfl rfl rfl rfl rfl rfl (C' := ((look m x.k).getD Vl.zero).enc) rfl ((b674, .cells ((look m x.k).getD Vl.zero).enc 67) :: (b672, .cells x.enc 71) :: []) rfl (fun W676 hS => ?_)
  refine WL.op (v := .bool ((look m x.k).isSome)) rfl rfl rfl (Ex.assign rfl rfl) ?_
  refine WL.nil ?_
  refine then_normal ?_
  refine WP.seq ?_
  refine WP.region ?_
  refine WL.op (v := .bool ((look m x.k).isSome)) rfl rfl rfl (Ex.move rfl rfl) ?_
  refine WL.op (v := .bool (!((look m x.k).isSome))) rfl rfl rfl (Ex.not rfl rfl) ?_
  refine WL.op (v := .bool (!((look m x.k).isSome))) rfl rfl rfl (Ex.move rfl rfl) ?_
  rcases Bool.eq_false_or_eq_true (!((look m x.k).isSome)) with hg677 | hg677
  ·
    have hc678 : ((look m x.k).isSome) = false := by simpa using hg677
    refine WL.off (b' := true) rfl rfl rfl rfl rfl rfl (congrArg Value.bool hg677) rfl ?_
    refine WL.off (b' := true) rfl rfl rfl rfl rfl rfl (congrArg Value.bool hg677) rfl ?_
    refine WL.off (b' := true) rfl rfl rfl rfl rfl rfl (congrArg Value.bool hg677) rfl ?_
    refine WL.off (b' := true) rfl rfl rfl rfl rfl rfl (congrArg Value.bool hg677) rfl ?_
    refine WL.off (b' := true) rfl rfl rfl rfl rfl rfl (congrArg Value.bool hg677) rfl ?_
    refine WL.off (b' := true) rfl rfl rfl rfl rfl rfl (congrArg Value.bool hg677) rfl ?_
    refine WL.off (b' := true) rfl rfl rfl rfl rfl rfl (congrArg Value.bool hg677) rfl ?_
    refine WL.off (b' := true) rfl rfl rfl rfl rfl rfl (congrArg Value.bool hg677) rfl ?_
    refine WL.off (b' := true) rfl rfl rfl rfl rfl rfl (congrArg Value.bool hg677) rfl ?_
    refine WL.op (v := .bool true) rfl rfl rfl (Ex.pickT rfl (congrArg Value.bool hg677) rfl) ?_
    refine WL.op (v := .bool true) rfl rfl rfl (Ex.assign rfl rfl) ?_
    refine WL.nil ?_
    refine then_normal ?_
    refine WP.ret ?_
    refine ?_
    refine rt1 (v := .bool true) rfl rfl ?_
    exact ⟨retb (by first | exact dp_none (by assumption) | exact dp_some (by assumption)), hS.bw⟩
  ·
    have hc679 : ((look m x.k).isSome) = true := by simpa using hg677
    refine WL.on rfl rfl rfl (congrArg Value.bool hg677) ?_
    refine WL.op (v := .agg x.enc) rfl rfl rfl (Ex.loadA tyAgg71 rfl rfl (Reads.of_block (hS.at 1 rfl) 0 x.enc.toList rfl) rfl) ?_
    refine WL.on rfl rfl rfl (congrArg Value.bool hg677) ?_
    refine WL.buildSlice (ps := [(0, .agg x.enc)]) (C := x.enc) (E := 71) rfl (fun _ => by kernel_rfl) hS rfl rfl rfl rfl (fun b680 W681 hS => ?_)
    have hNb680 : w.heap.size ≤ b680 := hS.ge 0 rfl
    replace hS := hS.slice (α := At) (xs := [x]) (cap := 1) rfl (by simp)
    refine WL.on rfl rfl rfl (congrArg Value.bool hg677) ?_
    refine WL.op (v := .pointer (some ⟨b672, 0, none⟩)) rfl rfl rfl (Ex.fieldAddr' fieldAt71_0 rfl rfl) ?_
    refine WL.on rfl rfl rfl (congrArg Value.bool hg677) ?_
    refine WL.op (v := .agg x.k.enc) rfl rfl rfl (Ex.loadA tyAgg61 rfl rfl (Reads.of_block (hS.at 1 rfl) 0 x.k.enc.toList rfl) rfl) ?_
    refine WL.on rfl rfl rfl (congrArg Value.bool hg677) ?_
    refine WL.op (v := .agg ((look m x.k).getD Vl.zero).enc) rfl rfl rfl (Ex.loadA tyAgg67 rfl rfl (Reads.of_block (hS.at 0 rfl) 0 ((look m x.k).getD Vl.zero).enc.toList rfl) rfl) ?_
    refine WL.on rfl rfl rfl (congrArg Value.bool hg677) ?_
    refine WL.op (v := .agg (At.mk x.k ((look m x.k).getD Vl.zero)).enc) rfl rfl rfl (Ex.build (ps := [(0, .agg x.k.enc), (1, .agg ((look m x.k).getD Vl.zero).enc)]) rfl rfl (by kernel_rfl)) ?_
    refine WL.on rfl rfl rfl (congrArg Value.bool hg677) ?_
    refine WL.buildSlice (ps := [(0, .agg (At.mk x.k ((look m x.k).getD Vl.zero)).enc)]) (C := (At.mk x.k ((look m x.k).getD Vl.zero)).enc) (E := 71) rfl (fun _ => by kernel_rfl) hS rfl rfl rfl rfl (fun b682 W683 hS => ?_)
    have hNb682 : w.heap.size ≤ b682 := hS.ge 0 rfl
    replace hS := hS.slice (α := At) (xs := [At.mk x.k ((look m x.k).getD Vl.zero)]) (cap := 1) rfl (by simp)
    refine WL.on rfl rfl rfl (congrArg Value.bool hg677) ?_
    refine WL.call rfl rfl rfl (enterS eg20 (args := [.slice (some ⟨b680, 0, none⟩) 1 1, .slice (some ⟨b682, 0, none⟩) 1 1]) rfl rfl rfl rfl) (c_leq _ _ ([x]) ([At.mk x.k ((look m x.k).getD Vl.zero)]) _ (hS.mem (.tail _ (.head _))) (hS.mem (.head _)) (by first | omega | (simp; done) | (simp; omega)) (by first | omega | (simp; done) | (simp; omega))) ?_
    rintro e W684 ⟨rfl, hB⟩
    replace hS := hS.ext hB
    refine ⟨_, rfl, ?_⟩
    refine WL.on rfl rfl rfl (congrArg Value.bool hg677) ?_
    refine WL.op (v := .bool (!(leqAt ([x]) ([At.mk x.k ((look m x.k).getD Vl.zero)])))) rfl rfl rfl (Ex.not rfl rfl) ?_
    refine WL.op (v := .bool (!(leqAt ([x]) ([At.mk x.k ((look m x.k).getD Vl.zero)])))) rfl rfl rfl (Ex.pickF rfl (congrArg Value.bool hg677) rfl) ?_
    refine WL.op (v := .bool (!(leqAt ([x]) ([At.mk x.k ((look m x.k).getD Vl.zero)])))) rfl rfl rfl (Ex.assign rfl rfl) ?_
    refine WL.nil ?_
    refine then_normal ?_
    refine WP.ret ?_
    refine ?_
    refine rt1 (v := .bool (!(leqAt ([x]) ([At.mk x.k ((look m x.k).getD Vl.zero)])))) rfl rfl ?_
    exact ⟨retb (by first | exact dp_none (by assumption) | exact dp_some (by assumption)), hS.bw⟩
set_option maxRecDepth 100000 in
set_option maxHeartbeats 1000000 in
theorem c_split (s : Sv) (l : List At) (b5 : Nat) (p : At → Bool) (w : World) (hv : Sl w s.v l) (hl : l.length ≤ 1048576) (hf : ∀ x W, Bw w W → Calls Try.prog 87 #[.agg x.enc, .pointer (some ⟨b5, 0, none⟩)] W (fun e W' => e = .returned (.bool (p x)) ∧ Bw W W')) :
    Calls Try.prog 86 #[s.v, .func (.func 87) #[] #[.pointer (some ⟨b5, 0, none⟩)]] w fun e w' => ∃ v1 v2, e = .returned (.tuple #[v1, v2]) ∧ Bw w w' ∧ Sl w' v1 ((normAt l).filter p) ∧ Sl w' v2 ((normAt l).filter (fun x => !p x)) ∧ New w v1 ∧ New w v2 := by
  have hS := St.begin (w := w) (pins := pinSl s.v l :: []) ⟨hv, trivial⟩
  refine enterM (n := 29) Try.func86 rfl rfl (Nat.le_of_ble_eq_true rfl) (l := [(0, s.v), (1, .func (.func 87) #[] #[.pointer (some ⟨b5, 0, none⟩)])]) rfl ?_
  refine WP.seq ?_
  refine WP.region ?_
  refine WL.box (v := .func (.func 87) #[] #[.pointer (some ⟨b5, 0, none⟩)]) hS rfl rfl rfl rfl rfl (fun b685 W686 hS => ?_)
  refine WL.alloc zv22 hS rfl rfl rfl rfl (fun b687 W688 hS => ?_)
  refine WL.alloc zv22 hS rfl rfl rfl rfl (fun b689 W690 hS => ?_)
  refine WL.nil ?_
  refine then_normal ?_
  refine WP.seq ?_
  refine WP.seq ?_
  refine WP.region ?_
  refine WL.op (v := s.v) rfl rfl rfl (Ex.move rfl rfl) ?_
  refine WL.call rfl rfl rfl (enterS eg73 (args := [s.v]) rfl rfl rfl rfl) (c_each0 s _) ?_
  rintro e W692 ⟨bx691, rfl, hB, hb, hn⟩
  replace hS := hS.adopt hB hb hn
  refine ⟨_, rfl, ?_⟩
  refine WL.nil ?_
  refine then_normal ?_
  refine WP.block ?_
  refine WP.range (it_each bx691 s.v l (by omega)) rfl eg112 (fun _ => rfl) rfl hS (fun k co cp => ∃ (vo1 : Value), ∃ (eo1 : Option (Nat × Obj)), ∃ (d1 : List At), ∃ (vo2 : Value), ∃ (eo2 : Option (Nat × Obj)), ∃ (d2 : List At), co = ([(bx691, .cells #[s.v] 22), (b689, .cells #[vo2] 22), (b687, .cells #[vo1] 22), (b685, .cells #[.func (.func 87) #[] #[.pointer (some ⟨b5, 0, none⟩)]] 89)] ++ (eo1.toList ++ eo2.toList)) ∧ cp = pinSl s.v l :: [] ∧ (OutG vo1 eo1 71 d1) ∧ (d1 = ((normAt l).take k).filter p) ∧ (OutG vo2 eo2 71 d2) ∧ (d2 = ((normAt l).take k).filter (fun x => !p x)) ∧ (d1.length + d2.length ≤ k)) (fun _ _ _ => False) ⟨.slice none 0 0, none, [], .slice none 0 0, none, [], rfl, rfl, OutG.nil, rfl, OutG.nil, rfl, Nat.le_refl _⟩ (fun L D rl rd => ⟨List.mem_append_left _ (.head _), (.head _)⟩) ?_ ?_ ?_
  ·
    rintro k x L it ip _ _ W693 K hx694 ⟨vo1, eo1, d1, vo2, eo2, d2, rfl, rfl, hO1, hd1, hO2, hd2, hdl⟩ hS hK
    have hkx := (List.getElem?_eq_some_iff.1 hx694).1
    replace hS : St w ((bx691, .cells #[s.v] 22) :: (b689, .cells #[vo2] 22) :: (b687, .cells #[vo1] 22) :: (b685, .cells #[.func (.func 87) #[] #[.pointer (some ⟨b5, 0, none⟩)]] 89) :: (eo1.toList ++ (eo2.toList ++ it))) (pinSl s.v l :: ip) W693 := hS.perm (perm_of_count (fun f => by simp only [List.countP_append, List.countP_cons, List.countP_nil, Option.toList_none, Option.toList_some] <;> omega))
    refine WP.seq ?_
    refine WP.region ?_
    refine WL.alloc zv61 hS rfl rfl rfl rfl (fun b695 W696 hS => ?_)
    refine WL.store tySz61 hS 0 rfl rfl rfl rfl rfl rfl rfl rfl rfl (C' := x.k.enc) rfl ((b695, .cells x.k.enc 61) :: (bx691, .cells #[s.v] 22) :: (b689, .cells #[vo2] 22) :: (b687, .cells #[vo1] 22) :: (b685, .cells #[.func (.func 87) #[] #[.pointer (some ⟨b5, 0, none⟩)]] 89) :: (eo1.toList ++ (eo2.toList ++ it))) rfl (fun W697 hS => ?_)
    refine WL.nil ?_
    refine then_normal ?_
    refine WP.region ?_
    refine WL.alloc zv67 hS rfl rfl rfl rfl (fun b698 W699 hS => ?_)
    refine WL.store tySz67 hS 0 rfl rfl rfl rfl rfl rfl rfl rfl rfl (C' := x.v.enc) rfl ((b698, .cells x.v.enc 67) :: (b695, .cells x.k.enc 61) :: (bx691, .cells #[s.v] 22) :: (b689, .cells #[vo2] 22) :: (b687, .cells #[vo1] 22) :: (b685, .cells #[.func (.func 87) #[] #[.pointer (some ⟨b5, 0, none⟩)]] 89) :: (eo1.toList ++ (eo2.toList ++ it))) rfl (fun W700 hS => ?_)
    refine WL.nil ?_
    refine then_normal ?_
    replace hS : St w (([(b698, .cells x.v.enc 67), (b695, .cells x.k.enc 61), (bx691, .cells #[s.v] 22), (b689, .cells #[vo2] 22), (b687, .cells #[vo1] 22), (b685, .cells #[.func (.func 87) #[] #[.pointer (some ⟨b5, 0, none⟩)]] 89)] ++ (eo1.toList ++ eo2.toList)) ++ it) (pinSl s.v l :: ip) W700 := hS.perm (perm_of_count (fun f => by simp only [List.countP_append, List.countP_cons, List.countP_nil, Option.toList_none, Option.toList_some] <;> omega))
    refine hK _ _ ([(b698, .cells x.v.enc 67), (b695, .cells x.k.enc 61), (bx691, .cells #[s.v] 22), (b689, .cells #[vo2] 22), (b687, .cells #[vo1] 22), (b685, .cells #[.func (.func 87) #[] #[.pointer (some ⟨b5, 0, none⟩)]] 89)] ++ (eo1.toList ++ eo2.toList)) [pinSl s.v l] hS (fun it W701 hS => ?_)
    replace hS : St w ((b698, .cells x.v.enc 67) :: (b695, .cells x.k.enc 61) :: (bx691, .cells #[s.v] 22) :: (b689, .cells #[vo2] 22) :: (b687, .cells #[vo1] 22) :: (b685, .cells #[.func (.func 87) #[] #[.pointer (some ⟨b5, 0, none⟩)]] 89) :: (eo1.toList ++ (eo2.toList ++ it))) (pinSl s.v l :: ip) W701 := hS.perm (perm_of_count (fun f => by simp only [List.countP_append, List.countP_cons, List.countP_nil, Option.toList_none, Option.toList_some] <;> omega))
    refine WP.block ?_
    refine WP.seq ?_
    refine WP.region ?_
    refine WL.op (v := .agg x.k.enc) rfl rfl rfl (Ex.loadA tyAgg61 rfl rfl (Reads.of_block (hS.at 1 rfl) 0 x.k.enc.toList rfl) rfl) ?_
    refine WL.op (v := .agg x.v.enc) rfl rfl rfl (Ex.loadA tyAgg67 rfl rfl (Reads.of_block (hS.at 0 rfl) 0 x.v.enc.toList rfl) rfl) ?_
    refine WL.op (v := .agg (At.mk x.k x.v).enc) rfl rfl rfl (Ex.build (ps := [(0, .agg x.k.enc), (1, .agg x.v.enc)]) rfl rfl (by kernel_rfl)) ?_
    refine WL.alloc zv71 hS rfl rfl rfl rfl (fun b702 W703 hS => ?_)
    refine WL.store tySz71 hS 0 rfl rfl rfl rfl rfl rfl rfl rfl rfl (C' := (At.mk x.k x.v).enc) rfl ((b702, .cells (At.mk x.k x.v).enc 71) :: (b698, .cells x.v.enc 67) :: (b695, .cells x.k.enc 61) :: (bx691, .cells #[s.v] 22) :: (b689, .cells #[vo2] 22) :: (b687, .cells #[vo1] 22) :: (b685, .cells #[.func (.func 87) #[] #[.pointer (some ⟨b5, 0, none⟩)]] 89) :: (eo1.toList ++ (eo2.toList ++ it))) rfl (fun W704 hS => ?_)
    refine WL.nil ?_
    refine then_normal ?_
    refine WP.seq ?_
    refine WP.region ?_
    refine WL.op (v := .func (.func 87) #[] #[.pointer (some ⟨b5, 0, none⟩)]) rfl rfl rfl (Ex.load1 tyOne89 rfl rfl (Reads.of_block (hS.at 6 rfl) 0 [.func (.func 87) #[] #[.pointer (some ⟨b5, 0, none⟩)]] rfl)) ?_
    refine WL.op (v := .agg (At.mk x.k x.v).enc) rfl rfl rfl (Ex.loadA tyAgg71 rfl rfl (Reads.of_block (hS.at 0 rfl) 0 (At.mk x.k x.v).enc.toList rfl) rfl) ?_
    refine WL.call rfl rfl rfl (enterV eg87 (caps := [.pointer (some ⟨b5, 0, none⟩)]) (args := [.agg (At.mk x.k x.v).enc]) rfl rfl rfl rfl) (hf (At.mk x.k x.v) _ hS.bw) ?_
    rintro e W705 ⟨rfl, hB⟩
    replace hS := hS.ext hB
    refine ⟨_, rfl, ?_⟩
    refine WL.nil ?_
    refine then_normal ?_
    refine WP.cond (b := p (At.mk x.k x.v)) rfl (fun hc706 => ?_) (fun hc706 => ?_)
    ·
      refine WP.region ?_
      refine WL.op (v := vo1) rfl rfl rfl (Ex.load1 tyOne22 rfl rfl (Reads.of_block (hS.at 5 rfl) 0 [vo1] rfl)) ?_
      refine WL.op (v := .agg (At.mk x.k x.v).enc) rfl rfl rfl (Ex.loadA tyAgg71 rfl rfl (Reads.of_block (hS.at 0 rfl) 0 (At.mk x.k x.v).enc.toList rfl) rfl) ?_
      refine WL.buildSlice (ps := [(0, .agg (At.mk x.k x.v).enc)]) (C := (At.mk x.k x.v).enc) (E := 71) rfl (fun _ => by kernel_rfl) hS rfl rfl rfl rfl (fun b707 W708 hS => ?_)
      have hNb707 : w.heap.size ≤ b707 := hS.ge 0 rfl
      replace hS := hS.slice (α := At) (xs := [At.mk x.k x.v]) (cap := 1) rfl (by simp)
      replace hS : St w (([(b702, .cells (At.mk x.k x.v).enc 71), (b698, .cells x.v.enc 67), (b695, .cells x.k.enc 61), (bx691, .cells #[s.v] 22), (b689, .cells #[vo2] 22), (b687, .cells #[vo1] 22), (b685, .cells #[.func (.func 87) #[] #[.pointer (some ⟨b5, 0, none⟩)]] 89)] ++ (eo2.toList ++ it)) ++ eo1.toList) (pinSl (.slice (some ⟨b707, 0, none⟩) 1 1) [At.mk x.k x.v] :: pinSl s.v l :: ip) W708 := hS.perm (perm_of_count (fun f => by simp only [List.countP_append, List.countP_cons, List.countP_nil, Option.toList_none, Option.toList_some] <;> omega))
      refine WL.append (α := At) (a := At.mk x.k x.v) under22 infT71 rfl (by decide) (by decide) ([(b702, .cells (At.mk x.k x.v).enc 71), (b698, .cells x.v.enc 67), (b695, .cells x.k.enc 61), (bx691, .cells #[s.v] 22), (b689, .cells #[vo2] 22), (b687, .cells #[vo1] 22), (b685, .cells #[.func (.func 87) #[] #[.pointer (some ⟨b5, 0, none⟩)]] 89)] ++ (eo2.toList ++ it)) hO1 hS (hS.mem (.head _)) (by have := normAt_length l; omega) rfl rfl rfl rfl rfl rfl (fun vo709 eo710 W711 hO712 hS => ?_)
      replace hS : St w ((b702, .cells (At.mk x.k x.v).enc 71) :: (b698, .cells x.v.enc 67) :: (b695, .cells x.k.enc 61) :: (bx691, .cells #[s.v] 22) :: (b689, .cells #[vo2] 22) :: (b687, .cells #[vo1] 22) :: (b685, .cells #[.func (.func 87) #[] #[.pointer (some ⟨b5, 0, none⟩)]] 89) :: (eo2.toList ++ (it ++ eo710.toList))) (pinSl (.slice (some ⟨b707, 0, none⟩) 1 1) [At.mk x.k x.v] :: pinSl s.v l :: ip) W711 := hS.perm (perm_of_count (fun f => by simp only [List.countP_append, List.countP_cons, List.countP_nil, Option.toList_none, Option.toList_some] <;> omega))
      refine WL.store1 hO712.isSl tySz22 hS 5 rfl rfl rfl rfl rfl rfl ((b702, .cells (At.mk x.k x.v).enc 71) :: (b698, .cells x.v.enc 67) :: (b695, .cells x.k.enc 61) :: (bx691, .cells #[s.v] 22) :: (b689, .cells #[vo2] 22) :: (b687, .cells #[vo709] 22) :: (b685, .cells #[.func (.func 87) #[] #[.pointer (some ⟨b5, 0, none⟩)]] 89) :: (eo2.toList ++ (it ++ eo710.toList))) rfl (fun W713 hS => ?_)
      refine WL.nil ?_
      refine inBlock_normal ?_
      replace hS : St w ((b702, .cells (At.mk x.k x.v).enc 71) :: (b698, .cells x.v.enc 67) :: (b695, .cells x.k.enc 61) :: (([(bx691, .cells #[s.v] 22), (b689, .cells #[vo2] 22), (b687, .cells #[vo709] 22), (b685, .cells #[.func (.func 87) #[] #[.pointer (some ⟨b5, 0, none⟩)]] 89)] ++ (eo710.toList ++ eo2.toList)) ++ it)) (pinSl (.slice (some ⟨b707, 0, none⟩) 1 1) [At.mk x.k x.v] :: pinSl s.v l :: ip) W713 := hS.perm (perm_of_count (fun f => by simp only [List.countP_append, List.countP_cons, List.countP_nil, Option.toList_none, Option.toList_some] <;> omega))
      exact ⟨_, _, ⟨vo709, eo710, d1 ++ [At.mk x.k x.v], vo2, eo2, d2, rfl, rfl, hO712, (by rw [filter_next hx694 hc706, hd1]), hO2, (by rw [filter_skip hx694 (by rw [hc706]; rfl), hd2]), (by simp only [List.length_append, List.length_cons, List.length_nil] at *; omega)⟩, hS.drop 3 1⟩
    ·
      refine WP.region ?_
      refine WL.op (v := vo2) rfl rfl rfl (Ex.load1 tyOne22 rfl rfl (Reads.of_block (hS.at 4 rfl) 0 [vo2] rfl)) ?_
      refine WL.op (v := .agg (At.mk x.k x.v).enc) rfl rfl rfl (Ex.loadA tyAgg71 rfl rfl (Reads.of_block (hS.at 0 rfl) 0 (At.mk x.k x.v).enc.toList rfl) rfl) ?_
      refine WL.buildSlice (ps := [(0, .agg (At.mk x.k x.v).enc)]) (C := (At.mk x.k x.v).enc) (E := 71) rfl (fun _ => by kernel_rfl) hS rfl rfl rfl rfl (fun b714 W715 hS => ?_)
      have hNb714 : w.heap.size ≤ b714 := hS.ge 0 rfl
      replace hS := hS.slice (α := At) (xs := [At.mk x.k x.v]) (cap := 1) rfl (by simp)
      replace hS : St w (([(b702, .cells (At.mk x.k x.v).enc 71), (b698, .cells x.v.enc 67), (b695, .cells x.k.enc 61), (bx691, .cells #[s.v] 22), (b689, .cells #[vo2] 22), (b687, .cells #[vo1] 22), (b685, .cells #[.func (.func 87) #[] #[.pointer (some ⟨b5, 0, none⟩)]] 89)] ++ (eo1.toList ++ it)) ++ eo2.toList) (pinSl (.slice (some ⟨b714, 0, none⟩) 1 1) [At.mk x.k x.v] :: pinSl s.v l :: ip) W715 := hS.perm (perm_of_count (fun f => by simp only [List.countP_append, List.countP_cons, List.countP_nil, Option.toList_none, Option.toList_some] <;> omega))
      refine WL.append (α := At) (a := At.mk x.k x.v) under22 infT71 rfl (by decide) (by decide) ([(b702, .cells (At.mk x.k x.v).enc 71), (b698, .cells x.v.enc 67), (b695, .cells x.k.enc 61), (bx691, .cells #[s.v] 22), (b689, .cells #[vo2] 22), (b687, .cells #[vo1] 22), (b685, .cells #[.func (.func 87) #[] #[.pointer (some ⟨b5, 0, none⟩)]] 89)] ++ (eo1.toList ++ it)) hO2 hS (hS.mem (.head _)) (by have := normAt_length l; omega) rfl rfl rfl rfl rfl rfl (fun vo716 eo717 W718 hO719 hS => ?_)
      replace hS : St w ((b702, .cells (At.mk x.k x.v).enc 71) :: (b698, .cells x.v.enc 67) :: (b695, .cells x.k.enc 61) :: (bx691, .cells #[s.v] 22) :: (b689, .cells #[vo2] 22) :: (b687, .cells #[vo1] 22) :: (b685, .cells #[.func (.func 87) #[] #[.pointer (some ⟨b5, 0, none⟩)]] 89) :: (eo1.toList ++ (it ++ eo717.toList))) (pinSl (.slice (some ⟨b714, 0, none⟩) 1 1) [At.mk x.k x.v] :: pinSl s.v l :: ip) W718 := hS.perm (perm_of_count (fun f => by simp only [List.countP_append, List.countP_cons, List.countP_nil, Option.toList_none, Option.toList_some] <;> omega))
      refine WL.store1 hO719.isSl tySz22 hS 4 rfl rfl rfl rfl rfl rfl ((b702, .cells (At.mk x.k x.v).enc 71) :: (b698, .cells x.v.enc 67) :: (b695, .cells x.k.enc 61) :: (bx691, .cells #[s.v] 22) :: (b689, .cells #[vo716] 22) :: (b687, .cells #[vo1] 22) :: (b685, .cells #[.func (.func 87) #[] #[.pointer (some ⟨b5, 0, none⟩)]] 89) :: (eo1.toList ++ (it ++ eo717.toList))) rfl (fun W720 hS => ?_)
      refine WL.nil ?_
      refine inBlock_normal ?_
      replace hS : St w ((b702, .cells (At.mk x.k x.v).enc 71) :: (b698, .cells x.v.enc 67) :: (b695, .cells x.k.enc 61) :: (([(bx691, .cells #[s.v] 22), (b689, .cells #[vo716] 22), (b687, .cells #[vo1] 22), (b685, .cells #[.func (.func 87) #[] #[.pointer (some ⟨b5, 0, none⟩)]] 89)] ++ (eo1.toList ++ eo717.toList)) ++ it)) (pinSl (.slice (some ⟨b714, 0, none⟩) 1 1) [At.mk x.k x.v] :: pinSl s.v l :: ip) W720 := hS.perm (perm_of_count (fun f => by simp only [List.countP_append, List.countP_cons, List.countP_nil, Option.toList_none, Option.toList_some] <;> omega))
      exact ⟨_, _, ⟨vo1, eo1, d1, vo716, eo717, d2 ++ [At.mk x.k x.v], rfl, rfl, hO1, (by rw [filter_skip hx694 hc706, hd1]), hO719, (by rw [filter_next hx694 (by rw [hc706]; rfl), hd2]), (by simp only [List.length_append, List.length_cons, List.length_nil] at *; omega)⟩, hS.drop 3 1⟩
  ·
    rintro D W721 _ _ ⟨vo1, eo1, d1, vo2, eo2, d2, rfl, rfl, hO1, hd1, hO2, hd2, hdl⟩ hS
    replace hS : St w ((bx691, .cells #[s.v] 22) :: (b689, .cells #[vo2] 22) :: (b687, .cells #[vo1] 22) :: (b685, .cells #[.func (.func 87) #[] #[.pointer (some ⟨b5, 0, none⟩)]] 89) :: (D, .deferred (some [])) :: (eo1.toList ++ eo2.toList)) (pinSl s.v l :: []) W721 := hS.perm (perm_of_count (fun f => by simp only [List.countP_append, List.countP_cons, List.countP_nil, Option.toList_none, Option.toList_some] <;> omega))
    rw [List.take_length] at hd1 hd2
    refine inBlock_normal ?_
    refine then_normal ?_
    refine WP.seq ?_
    refine WP.drawL 4 [(fun u_ _ => u_ = vo1), (fun u_ _ => u_ = vo2), (fun _ _ => True), (fun _ _ => True)] (fun vs => (28, vs 1) :: (27, vs 0) :: _) ⟨fun _ _ _ _ h => h, fun _ _ _ _ h => h, fun _ _ _ _ h => h, fun _ _ _ _ h => h, trivial⟩ (by kernel_rfl) (fun _ => rfl) ⟨?_, ?_, ?_, ?_, trivial⟩ ?_
    ·
      intro vs W hE hp
      exact dr_plain rfl (dr_ex (v := vo1) (Ex.load1 tyOne22 rfl rfl (Reads.of_block ((hS.ext hE).at 2 rfl) 0 [vo1] rfl)) (Bw.refl _) rfl)
    ·
      intro vs W hE hp
      exact dr_plain rfl (dr_ex (v := vo2) (Ex.load1 tyOne22 rfl rfl (Reads.of_block ((hS.ext hE).at 1 rfl) 0 [vo2] rfl)) (Bw.refl _) rfl)
    ·
      intro vs W hE hp
      have p0 := hp 0 (by kernel_rfl)
      simp only [List.getD_cons_zero, List.getD_cons_succ] at p0
      exact dr_plain rfl (dr_same (i := 2) hO1.isSl tySz22 (hS.ext hE) rfl rfl rfl p0)
    ·
      intro vs W hE hp
      have p1 := hp 1 (by kernel_rfl)
      simp only [List.getD_cons_zero, List.getD_cons_succ] at p1
      exact dr_plain rfl (dr_same (i := 1) hO2.isSl tySz22 (hS.ext hE) rfl rfl rfl p1)
    intro vs W722 hE hv
    have hS0 := hS; replace hS := hS.ext hE
    have p0 : vs 0 = vo1 := hv 0 (by decide)
    have p1 : vs 1 = vo2 := hv 1 (by decide)
    refine WL.keep (k := [(27, vo1), (28, vo2)]) ⟨p0, p1, trivial⟩ ?_
    refine WL.nil ?_
    refine then_normal ?_
    refine WP.ret ?_
    refine ?_
    refine leaveM (v := .tuple #[vo1, vo2]) hS (i := 4) rfl (fun W723 hS => ?_)
    refine ⟨runsC2 (v := vo1) (v' := vo2) rfl tyOne22 tyOne22 rfl (Reads.of_block (hS.at 2 rfl) 0 _ rfl) rfl (Reads.of_block (hS.at 1 rfl) 0 _ rfl), ?_⟩
    have hz1 := OutG.slM hO1 hS (fun p hp => by rw [hp]; simp) (by have := normAt_length l; omega)
    have hz2 := OutG.slM hO2 hS (fun p hp => by rw [hp]; simp) (by have := normAt_length l; omega)
    exact ⟨_, _, rfl, hS.bw, (by rw [← hd1]; exact hz1.1), (by rw [← hd2]; exact hz2.1), hz1.2, hz2.2⟩
  ·
    exact fun _ _ _ _ _ h _ => h.elim
set_option maxRecDepth 100000 in
set_option maxHeartbeats 1000000 in
theorem c_diff0 (s t : Sv) (la lb : List At) (w : World) (ha : Sl w s.v la) (hb : Sl w t.v lb) (hl : la.length ≤ 1048576) (hl2 : lb.length ≤ 1048576) :
    Calls Try.prog 34 #[s.v, t.v] w fun e w' => ∃ v', e = .returned v' ∧ Bw w w' ∧ Sl w' v' (diffAt la lb) ∧ New w v' := by
  have hS := St.begin (w := w) (pins := pinSl s.v la :: pinSl t.v lb :: []) ⟨ha, hb, trivial⟩
  refine enterM (n := 25) Try.func34 rfl rfl (Nat.le_of_ble_eq_true rfl) (l := [(0, s.v), (1, t.v)]) rfl ?_
  refine WP.seq ?_
  refine WP.region ?_
  refine WL.op (v := .slice none 0 0) rfl rfl rfl (Ex.assign rfl rfl) ?_
  refine WL.nil ?_
  refine then_normal ?_
  refine WP.seq ?_
  refine WP.region ?_
  refine WL.makeMap hS rfl rfl rfl rfl rfl (fun bm725 W726 hS => ?_)
  refine WL.alloc zv82 hS rfl rfl rfl rfl (fun b727 W728 hS => ?_)
  refine WL.store tySz82 hS 0 rfl rfl rfl rfl rfl rfl rfl rfl rfl (C' := #[.map (some bm725)]) rfl ((b727, .cells #[.map (some bm725)] 82) :: (bm725, .map #[] 0) :: []) rfl (fun W729 hS => ?_)
  refine WL.nil ?_
  refine then_normal ?_
  refine WP.seq ?_
  refine WP.seq ?_
  refine WP.region ?_
  refine WL.op (v := t.v) rfl rfl rfl (Ex.move rfl rfl) ?_
  refine WL.call rfl rfl rfl (enterS eg73 (args := [t.v]) rfl rfl rfl rfl) (c_each0 t _) ?_
  rintro e W731 ⟨bx730, rfl, hB, hb, hn⟩
  replace hS := hS.adopt hB hb hn
  refine ⟨_, rfl, ?_⟩
  refine WL.nil ?_
  refine then_normal ?_
  refine WP.block ?_
  refine WP.range (it_each bx730 t.v lb (by omega)) rfl eg112 (fun _ => rfl) rfl hS (fun k co cp => ∃ (ob : Obj), co = [(bx730, .cells #[t.v] 22), (b727, .cells #[.map (some bm725)] 82), (bm725, ob)] ∧ cp = pinSl s.v la :: pinSl t.v lb :: [] ∧ (MapObj ob (((normAt lb).take k).map kvp))) (fun _ _ _ => False) ⟨_, rfl, rfl, MapObj.new⟩ (fun L D rl rd => ⟨List.mem_append_left _ (.head _), (.tail _ (.head _))⟩) ?_ ?_ ?_
  ·
    rintro k x L it ip _ _ W732 K hx733 ⟨ob, rfl, rfl, hm⟩ hS hK
    have hkx := (List.getElem?_eq_some_iff.1 hx733).1
    refine WP.seq ?_
    refine WP.region ?_
    refine WL.alloc zv61 hS rfl rfl rfl rfl (fun b734 W735 hS => ?_)
    refine WL.store tySz61 hS 0 rfl rfl rfl rfl rfl rfl rfl rfl rfl (C' := x.k.enc) rfl ((b734, .cells x.k.enc 61) :: (bx730, .cells #[t.v] 22) :: (b727, .cells #[.map (some bm725)] 82) :: (bm725, ob) :: it) rfl (fun W736 hS => ?_)
    refine WL.nil ?_
    refine then_normal ?_
    refine WP.region ?_
    refine WL.alloc zv67 hS rfl rfl rfl rfl (fun b737 W738 hS => ?_)
    refine WL.store tySz67 hS 0 rfl rfl rfl rfl rfl rfl rfl rfl rfl (C' := x.v.enc) rfl ((b737, .cells x.v.enc 67) :: (b734, .cells x.k.enc 61) :: (bx730, .cells #[t.v] 22) :: (b727, .cells #[.map (some bm725)] 82) :: (bm725, ob) :: it) rfl (fun W739 hS => ?_)
    refine WL.nil ?_
    refine then_normal ?_
    refine hK _ _ [(b737, .cells x.v.enc 67), (b734, .cells x.k.enc 61), (bx730, .cells #[t.v] 22), (b727, .cells #[.map (some bm725)] 82), (bm725, ob)] [pinSl s.v la, pinSl t.v lb] hS (fun it W740 hS => ?_)
    refine WP.block ?_
    refine WP.region ?_
    refine WL.op (v := .map (some bm725)) rfl rfl rfl (Ex.load1 tyOne82 rfl rfl (Reads.of_block (hS.at 3 rfl) 0 [.map (some bm725)] rfl)) ?_
    refine WL.op (v := .agg x.k.enc) rfl rfl rfl (Ex.loadA tyAgg61 rfl rfl (Reads.of_block (hS.at 1 rfl) 0 x.k.enc.toList rfl) rfl) ?_
    refine WL.op (v := .agg x.v.enc) rfl rfl rfl (Ex.loadA tyAgg67 rfl rfl (Reads.of_block (hS.at 0 rfl) 0 x.v.enc.toList rfl) rfl) ?_
    refine WL.update (k := x.k) (v := x.v) hS 4 rfl hm rfl rfl rfl rfl rfl rfl (fun ob741 W742 hm743 hS => ?_)
    refine WL.nil ?_
    refine inBlock_normal ?_
    exact ⟨_, _, ⟨ob741, rfl, rfl, by rw [← facts_next (normAt_rising lb) hx733]; exact hm743⟩, hS.drop 2 0⟩
  ·
    rintro D W744 _ _ ⟨ob, rfl, rfl, hm⟩ hS
    rw [List.take_length] at hm
    refine inBlock_normal ?_
    refine then_normal ?_
    refine WP.seq ?_
    refine WP.region ?_
    refine WL.op (v := s.v) rfl rfl rfl (Ex.move rfl rfl) ?_
    refine WL.op (v := .func (.func 87) #[] #[.pointer (some ⟨b727, 0, none⟩)]) rfl rfl rfl (Ex.makeFunc (c' := [.pointer (some ⟨b727, 0, none⟩)]) rfl rfl rfl) ?_
    refine WL.call rfl rfl rfl (enterS eg86 (args := [s.v, .func (.func 87) #[] #[.pointer (some ⟨b727, 0, none⟩)]]) rfl rfl rfl rfl) (c_split s la b727 (diffP ((normAt lb).map kvp)) _ (hS.mem (.head _)) (by first | omega | (simp; done) | (simp; omega)) (fun x W' hB => c_diff1 x b727 bm725 ob _ W' ((hB.heap (hS.at_lt 1 rfl)).trans (hS.at 1 rfl)) ((hB.heap (hS.at_lt 2 rfl)).trans (hS.at 2 rfl)) hm)) ?_
    rintro e W745 ⟨v1, v2, rfl, hB, h1, h2, n1, n2⟩
    have hS0 := hS; replace hS := hS.ext hB; have hn1 : New w v1 := n1.of hS0.bw
    replace hS := hS0.pinNew hS (pinSl v1 ((normAt la).filter (diffP ((normAt lb).map kvp)))) h1 n1
    replace hS := hS0.pinNew hS (pinSl v2 ((normAt la).filter (fun x => !(diffP ((normAt lb).map kvp)) x))) h2 n2
    refine ⟨_, rfl, ?_⟩
    refine WL.op (v := .tuple #[v1, v2]) rfl rfl rfl (Ex.move rfl rfl) ?_
    refine WL.op (v := v1) rfl rfl rfl (Ex.extract rfl rfl rfl) ?_
    refine WL.op (v := v2) rfl rfl rfl (Ex.extract rfl rfl rfl) ?_
    refine WL.op (v := v1) rfl rfl rfl (Ex.assign rfl rfl) ?_
    refine WL.op (v := v2) rfl rfl rfl (Ex.assign rfl rfl) ?_
    refine WL.nil ?_
    refine then_normal ?_
    refine WP.seq ?_
    refine WP.region ?_
    refine WL.op (v := v1) rfl rfl rfl (Ex.move rfl rfl) ?_
    refine WL.op (v := v1) rfl rfl rfl (Ex.assign rfl rfl) ?_
    refine WL.nil ?_
    refine then_normal ?_
    refine WP.ret ?_
    refine ?_
    refine leaveM (v := v1) hS (i := 3) rfl (fun W746 hS => ?_)
    refine ⟨runs1 rfl rfl, ?_⟩
    exact ⟨_, rfl, hS.bw, hS.mem (.tail _ (.head _)), hn1⟩
  ·
    exact fun _ _ _ _ _ h _ => h.elim
theorem c_diff (v v2 : Value) (la lb : List At) (w : World) (ha : Sl w v la) (hb : Sl w v2 lb) (hl : la.length ≤ 1048576) (hl2 : lb.length ≤ 1048576) : Calls Try.prog 34 #[v, v2] w fun e w' => ∃ v', e = .returned v' ∧ Bw w w' ∧ Sl w' v' (diffAt la lb) ∧ New w v' := by
  obtain ⟨p, cap, rfl⟩ := ha.len
  obtain ⟨p2, cap2, rfl⟩ := hb.len
  exact c_diff0 ⟨p, la.length, cap⟩ ⟨p2, lb.length, cap2⟩ la lb w ha hb hl hl2
set_option maxRecDepth 100000 in
set_option maxHeartbeats 1000000 in
theorem c_irreducible (v : Value) (l : List At) (w : World) (hv : Sl w v l) (hl : l.length ≤ 1048576) :
    Calls Try.prog 51 #[v] w fun e w' => e = .returned (.bool (decide (((normAt l).length : Int) = 1))) ∧ Bw w w' := by
  have hS := St.begin (w := w) (pins := pinSl v l :: []) ⟨hv, trivial⟩
  refine enter (n := 7) Try.func51 rfl rfl (Nat.le_of_ble_eq_true rfl) (l := [(0, v)]) rfl ?_
  refine WP.seq ?_
  refine WP.region ?_
  refine WL.op (v := .bool false) rfl rfl rfl (Ex.assign rfl rfl) ?_
  refine WL.nil ?_
  refine then_normal ?_
  refine WP.seq ?_
  refine WP.region ?_
  refine WL.op (v := v) rfl rfl rfl (Ex.move rfl rfl) ?_
  refine WL.call rfl rfl rfl (enterS eg25 (args := [v]) rfl rfl rfl rfl) (c_norm _ l _ (hS.mem (.head _)) (by first | omega | (simp; done) | (simp; omega))) ?_
  rintro e W750 ⟨v748, rfl, hB, hv', hn'⟩
  have hN749 : New w v748 := fun b hb => Nat.le_trans hS.bw.size (hn' b hb)
  replace hS := hS.newPin hB (pinSl v748 (normAt l)) hv' hn'
  refine ⟨_, rfl, ?_⟩
  have hq751 := normAt_length l
  have hl752 : (normAt l).length < 4611686018427387904 := (hS.mem (.head _) : Sl _ _ _).lt
  refine WL.op (v := .int .i64 ((normAt l).length : Int)) rfl rfl rfl (Ex.lenSl (l := normAt l) ⟨_, under22⟩ rfl rfl (hS.mem (.head _))) ?_
  refine WL.op (v := .bool (decide (((normAt l).length : Int) = 1))) rfl rfl rfl (Ex.eq rfl rfl rfl) ?_
  refine WL.op (v := .bool (decide (((normAt l).length : Int) = 1))) rfl rfl rfl (Ex.assign rfl rfl) ?_
  refine WL.nil ?_
  refine then_normal ?_
  refine WP.ret ?_
  refine ?_
  refine rt1 (v := .bool (decide (((normAt l).length : Int) = 1))) rfl rfl ?_
  exact ⟨rfl, hS.bw⟩
set_option maxRecDepth 100000 in
set_option maxHeartbeats 1000000 in
theorem c_parts0 (s : Sv) (l : List At) (w : World) (hv : Sl w s.v l) (hl : l.length ≤ 1048576) :
    Calls Try.prog 50 #[s.v] w fun e w' => ∃ v' vs, e = .returned v' ∧ Bw w w' ∧ RowsNew w w' v' ((normAt l).map (fun a => [a])) vs := by
  have hS := St.begin (w := w) (pins := pinSl s.v l :: []) ⟨hv, trivial⟩
  refine enterM (n := 17) Try.func50 rfl rfl (Nat.le_of_ble_eq_true rfl) (l := [(0, s.v)]) rfl ?_
  refine WP.seq ?_
  refine WP.region ?_
  refine WL.alloc zv42 hS rfl rfl rfl rfl (fun b753 W754 hS => ?_)
  refine WL.nil ?_
  refine then_normal ?_
  refine WP.seq ?_
  refine WP.seq ?_
  refine WP.region ?_
  refine WL.op (v := s.v) rfl rfl rfl (Ex.move rfl rfl) ?_
  refine WL.call rfl rfl rfl (enterS eg73 (args := [s.v]) rfl rfl rfl rfl) (c_each0 s _) ?_
  rintro e W756 ⟨bx755, rfl, hB, hb, hn⟩
  replace hS := hS.adopt hB hb hn
  refine ⟨_, rfl, ?_⟩
  refine WL.nil ?_
  refine then_normal ?_
  refine WP.block ?_
  replace hS := hS.pinSSnil
  refine WP.range (it_each bx755 s.v l (by omega)) rfl eg112 (fun _ => rfl) rfl hS (fun k co cp => ∃ (vo : Value), ∃ (eo : Option (Nat × Obj)), ∃ (d : List Sv), ∃ (lss : List (List At)), co = ([(bx755, .cells #[s.v] 22), (b753, .cells #[vo] 42)] ++ eo.toList) ∧ cp = pinSS d lss :: pinSl s.v l :: [] ∧ (OutG vo eo 22 d) ∧ (lss = ((normAt l).take k).map (fun a => [a])) ∧ (d.length = lss.length) ∧ (d.length ≤ k) ∧ (∀ s ∈ d, New w s.v)) (fun _ _ _ => False) ⟨.slice none 0 0, none, [], [], rfl, rfl, OutG.nil, rfl, rfl, Nat.le_refl _, (fun s hs => by cases hs)⟩ (fun L D rl rd => ⟨List.mem_append_left _ (.head _), (.tail _ (.head _))⟩) ?_ ?_ ?_
  ·
    rintro k x L it ip _ _ W757 K hx758 ⟨vo, eo, d, lss, rfl, rfl, hO, hlss, hlen, hdl, hnews⟩ hS hK
    have hkx := (List.getElem?_eq_some_iff.1 hx758).1
    refine WP.seq ?_
    refine WP.region ?_
    refine WL.alloc zv61 hS rfl rfl rfl rfl (fun b759 W760 hS => ?_)
    refine WL.store tySz61 hS 0 rfl rfl rfl rfl rfl rfl rfl rfl rfl (C' := x.k.enc) rfl ((b759, .cells x.k.enc 61) :: (bx755, .cells #[s.v] 22) :: (b753, .cells #[vo] 42) :: (eo.toList ++ it)) rfl (fun W761 hS => ?_)
    refine WL.nil ?_
    refine then_normal ?_
    refine WP.region ?_
    refine WL.alloc zv67 hS rfl rfl rfl rfl (fun b762 W763 hS => ?_)
    refine WL.store tySz67 hS 0 rfl rfl rfl rfl rfl rfl rfl rfl rfl (C' := x.v.enc) rfl ((b762, .cells x.v.enc 67) :: (b759, .cells x.k.enc 61) :: (bx755, .cells #[s.v] 22) :: (b753, .cells #[vo] 42) :: (eo.toList ++ it)) rfl (fun W764 hS => ?_)
    refine WL.nil ?_
    refine then_normal ?_
    refine hK _ _ ([(b762, .cells x.v.enc 67), (b759, .cells x.k.enc 61), (bx755, .cells #[s.v] 22), (b753, .cells #[vo] 42)] ++ eo.toList) [pinSS d lss, pinSl s.v l] hS (fun it W765 hS => ?_)
    refine WP.block ?_
    refine WP.region ?_
    refine WL.op (v := vo) rfl rfl rfl (Ex.load1 tyOne42 rfl rfl (Reads.of_block (hS.at 3 rfl) 0 [vo] rfl)) ?_
    refine WL.op (v := .agg x.k.enc) rfl rfl rfl (Ex.loadA tyAgg61 rfl rfl (Reads.of_block (hS.at 1 rfl) 0 x.k.enc.toList rfl) rfl) ?_
    refine WL.op (v := .agg x.v.enc) rfl rfl rfl (Ex.loadA tyAgg67 rfl rfl (Reads.of_block (hS.at 0 rfl) 0 x.v.enc.toList rfl) rfl) ?_
    refine WL.op (v := .agg (At.mk x.k x.v).enc) rfl rfl rfl (Ex.build (ps := [(0, .agg x.k.enc), (1, .agg x.v.enc)]) rfl rfl (by kernel_rfl)) ?_
    refine WL.buildSlice (ps := [(0, .agg (At.mk x.k x.v).enc)]) (C := (At.mk x.k x.v).enc) (E := 71) rfl (fun _ => by kernel_rfl) hS rfl rfl rfl rfl (fun b766 W767 hS => ?_)
    have hNb766 : w.heap.size ≤ b766 := hS.ge 0 rfl
    replace hS := hS.slice (α := At) (xs := [At.mk x.k x.v]) (cap := 1) rfl (by simp)
    refine WL.buildSlice (ps := [(0, .slice (some ⟨b766, 0, none⟩) 1 1)]) (C := #[.slice (some ⟨b766, 0, none⟩) 1 1]) (E := 22) rfl (fun _ => by kernel_rfl) hS rfl rfl rfl rfl (fun b768 W769 hS => ?_)
    replace hS := hS.slice (xs := [Sv.mk (some ⟨b766, 0, none⟩) 1 1]) (cap := 1) rfl (by simp)
    replace hS : St w (([(b762, .cells x.v.enc 67), (b759, .cells x.k.enc 61), (bx755, .cells #[s.v] 22), (b753, .cells #[vo] 42)] ++ it) ++ eo.toList) (pinSl (.slice (some ⟨b768, 0, none⟩) 1 1) [Sv.mk (some ⟨b766, 0, none⟩) 1 1] :: pinSl (.slice (some ⟨b766, 0, none⟩) 1 1) [At.mk x.k x.v] :: pinSS d lss :: pinSl s.v l :: ip) W769 := hS.perm (perm_of_count (fun f => by simp only [List.countP_append, List.countP_cons, List.countP_nil, Option.toList_none, Option.toList_some] <;> omega))
    refine WL.append (α := Sv) (a := Sv.mk (some ⟨b766, 0, none⟩) 1 1) under42 infT22 rfl (by decide) (by decide) ([(b762, .cells x.v.enc 67), (b759, .cells x.k.enc 61), (bx755, .cells #[s.v] 22), (b753, .cells #[vo] 42)] ++ it) hO hS (hS.mem (.head _)) (by have := normAt_length l; omega) rfl rfl rfl rfl rfl rfl (fun vo770 eo771 W772 hO773 hS => ?_)
    refine WL.store1 hO773.isSl tySz42 hS 3 rfl rfl rfl rfl rfl rfl ((b762, .cells x.v.enc 67) :: (b759, .cells x.k.enc 61) :: (bx755, .cells #[s.v] 22) :: (b753, .cells #[vo770] 42) :: (it ++ eo771.toList)) rfl (fun W774 hS => ?_)
    refine WL.nil ?_
    refine inBlock_normal ?_
    replace hS := hS.ssSnoc (s := Sv.mk (some ⟨b766, 0, none⟩) 1 1) (li := [At.mk x.k x.v]) (.tail _ (.tail _ (.head _))) (.tail _ (.head _)) hlen
    replace hS := St.repin0 (ps := [pinSS (d ++ [Sv.mk (some ⟨b766, 0, none⟩) 1 1]) (lss ++ [[At.mk x.k x.v]]), pinSl s.v l]) (qs := [pinSS (d ++ [Sv.mk (some ⟨b766, 0, none⟩) 1 1]) (lss ++ [[At.mk x.k x.v]]), pinSl (.slice (some ⟨b768, 0, none⟩) 1 1) [Sv.mk (some ⟨b766, 0, none⟩) 1 1], pinSl (.slice (some ⟨b766, 0, none⟩) 1 1) [At.mk x.k x.v], pinSS d lss, pinSl s.v l]) hS ⟨(.head _), (.tail _ (.tail _ (.tail _ (.tail _ (.head _))))), trivial⟩
    replace hS : St w ((b762, .cells x.v.enc 67) :: (b759, .cells x.k.enc 61) :: (([(bx755, .cells #[s.v] 22), (b753, .cells #[vo770] 42)] ++ eo771.toList) ++ it)) (pinSS (d ++ [Sv.mk (some ⟨b766, 0, none⟩) 1 1]) (lss ++ [[At.mk x.k x.v]]) :: pinSl s.v l :: ip) W774 := hS.perm (perm_of_count (fun f => by simp only [List.countP_append, List.countP_cons, List.countP_nil, Option.toList_none, Option.toList_some] <;> omega))
    exact ⟨_, _, ⟨vo770, eo771, d ++ [Sv.mk (some ⟨b766, 0, none⟩) 1 1], _, rfl, rfl, hO773, (by rw [hlss, take_snoc? hx758, List.map_append]; rfl), (by simp [hlen]), (by simp only [List.length_append, List.length_cons, List.length_nil]; omega), (fun t ht => by rcases List.mem_append.1 ht with ht | ht; exact hnews t ht; simp only [List.mem_singleton] at ht; subst ht; exact (fun b hb => by rw [vblk_eq hb]; exact hNb766))⟩, hS.drop 2 0⟩
  ·
    rintro D W775 _ _ ⟨vo, eo, d, lss, rfl, rfl, hO, hlss, hlen, hdl, hnews⟩ hS
    replace hS : St w ((bx755, .cells #[s.v] 22) :: (b753, .cells #[vo] 42) :: (D, .deferred (some [])) :: eo.toList) (pinSS d lss :: pinSl s.v l :: []) W775 := hS.perm (perm_of_count (fun f => by simp only [List.countP_append, List.countP_cons, List.countP_nil, Option.toList_none, Option.toList_some] <;> omega))
    rw [List.take_length] at hlss
    refine inBlock_normal ?_
    refine then_normal ?_
    refine WP.seq ?_
    refine WP.region ?_
    refine WL.op (v := vo) rfl rfl rfl (Ex.load1 tyOne42 rfl rfl (Reads.of_block (hS.at 1 rfl) 0 [vo] rfl)) ?_
    refine WL.store1 hO.isSl tySz42 hS 1 rfl rfl rfl rfl rfl rfl ((bx755, .cells #[s.v] 22) :: (b753, .cells #[vo] 42) :: (D, .deferred (some [])) :: eo.toList) rfl (fun W776 hS => ?_)
    refine WL.nil ?_
    refine then_normal ?_
    refine WP.ret ?_
    refine ?_
    refine leaveM (v := vo) hS (i := 2) rfl (fun W777 hS => ?_)
    refine ⟨runsC (v := vo) rfl tyOne42 rfl (Reads.of_block (hS.at 1 rfl) 0 _ rfl), ?_⟩
    have hz := OutG.slM hO hS (fun p hp => by rw [hp]; simp) (by have := normAt_length l; omega)
    exact ⟨_, _, rfl, hS.bw, ⟨hz.1, (by rw [← hlss]; exact hS.mem (.head _)), (by rw [← hlss]; exact hlen), hz.2, hnews, hO.capd⟩⟩
  ·
    exact fun _ _ _ _ _ h _ => h.elim
set_option maxRecDepth 100000 in
set_option maxHeartbeats 1000000 in
theorem c_but0 (b off cap i : Nat) (rs : List Sv) (w : World) (hv : Sl w (.slice (some ⟨b, off, none⟩) rs.length cap) rs) (hc : rs.length ≤ cap) (hi : i < rs.length) (hl : rs.length ≤ 1048576) :
    Calls Try.prog 89 #[.slice (some ⟨b, off, none⟩) rs.length cap, .int .i64 (i : Int)] w fun e w' => ∃ v', e = .returned v' ∧ Bw w w' ∧ Sl w' v' (rs.eraseIdx i) ∧ (New w v' ∨ vblk v' = some b) := by
  have hS := St.begin (w := w) (pins := pinSl (.slice (some ⟨b, off, none⟩) rs.length cap) rs :: []) ⟨hv, trivial⟩
  refine enter (n := 14) Try.func89 rfl rfl (Nat.le_of_ble_eq_true rfl) (l := [(0, .slice (some ⟨b, off, none⟩) rs.length cap), (1, .int .i64 (i : Int))]) rfl ?_
  refine WP.seq ?_
  refine WP.region ?_
  refine WL.op (v := .slice none 0 0) rfl rfl rfl (Ex.assign rfl rfl) ?_
  refine WL.nil ?_
  refine then_normal ?_
  refine WP.seq ?_
  refine WP.drawL 8 [(fun u_ _ => u_ = .slice (some ⟨b, off, none⟩) rs.length cap), (fun u_ _ => u_ = .int .i64 (i : Int)), (fun u_ _ => u_ = .int .i64 (i : Int)), (fun u_ _ => u_ = .slice (some ⟨b, off, none⟩) i i), (fun u_ _ => u_ = .slice (some ⟨b, off, none⟩) rs.length cap), (fun u_ _ => u_ = .int .i64 (i : Int)), (fun u_ _ => u_ = .int .i64 ((i + 1 : Nat) : Int)), (fun u_ _ => u_ = .slice (some ⟨b, if cap = (i + 1) then off else off + (i + 1) * 1, none⟩) (rs.length - (i + 1)) (cap - (i + 1)))] (fun vs => (12, vs 7) :: (11, vs 6) :: (10, vs 5) :: (9, vs 4) :: (8, vs 3) :: (7, vs 2) :: (6, vs 1) :: (5, vs 0) :: _) ⟨fun _ _ _ _ h => h, fun _ _ _ _ h => h, fun _ _ _ _ h => h, fun _ _ _ _ h => h, fun _ _ _ _ h => h, fun _ _ _ _ h => h, fun _ _ _ _ h => h, fun _ _ _ _ h => h, trivial⟩ (by kernel_rfl) (fun _ => rfl) ⟨?_, ?_, ?_, ?_, ?_, ?_, ?_, ?_, trivial⟩ ?_
  ·
    intro vs W hE hp
    exact dr_plain rfl (dr_ex (v := .slice (some ⟨b, off, none⟩) rs.length cap) (Ex.move rfl rfl) (Bw.refl _) rfl)
  ·
    intro vs W hE hp
    exact dr_plain rfl (dr_ex (v := .int .i64 (i : Int)) (Ex.move rfl rfl) (Bw.refl _) rfl)
  ·
    intro vs W hE hp
    exact dr_plain rfl (dr_ex (v := .int .i64 (i : Int)) (Ex.move rfl rfl) (Bw.refl _) rfl)
  ·
    intro vs W hE hp
    have p0 := hp 0 (by kernel_rfl)
    simp only [List.getD_cons_zero, List.getD_cons_succ] at p0
    have p1 := hp 1 (by kernel_rfl)
    simp only [List.getD_cons_zero, List.getD_cons_succ] at p1
    have p2 := hp 2 (by kernel_rfl)
    simp only [List.getD_cons_zero, List.getD_cons_succ] at p2
    exact dr_plain rfl (dr_ex (v := .slice (some ⟨b, off, none⟩) i i) (Ex.sliceTo under42 tySz22 (by omega) (by omega) rfl p0 p1 p2) (Bw.refl _) rfl)
  ·
    intro vs W hE hp
    exact dr_plain rfl (dr_ex (v := .slice (some ⟨b, off, none⟩) rs.length cap) (Ex.move rfl rfl) (Bw.refl _) rfl)
  ·
    intro vs W hE hp
    exact dr_plain rfl (dr_ex (v := .int .i64 (i : Int)) (Ex.move rfl rfl) (Bw.refl _) rfl)
  ·
    intro vs W hE hp
    have p5 := hp 5 (by kernel_rfl)
    simp only [List.getD_cons_zero, List.getD_cons_succ] at p5
    exact dr_plain rfl (dr_ex (v := .int .i64 ((i + 1 : Nat) : Int)) (Ex.add rfl p5 rfl (wrap_succ (by omega))) (Bw.refl _) rfl)
  ·
    intro vs W hE hp
    have p4 := hp 4 (by kernel_rfl)
    simp only [List.getD_cons_zero, List.getD_cons_succ] at p4
    have p6 := hp 6 (by kernel_rfl)
    simp only [List.getD_cons_zero, List.getD_cons_succ] at p6
    exact dr_plain rfl (dr_ex (v := .slice (some ⟨b, if cap = (i + 1) then off else off + (i + 1) * 1, none⟩) (rs.length - (i + 1)) (cap - (i + 1))) (Ex.sliceFrom under42 tySz22 (by omega) rfl p4 p6) (Bw.refl _) rfl)
  intro vs W779 hE hv
  have hS0 := hS; replace hS := hS.ext hE
  have p0 : vs 0 = .slice (some ⟨b, off, none⟩) rs.length cap := hv 0 (by decide)
  have p1 : vs 1 = .int .i64 (i : Int) := hv 1 (by decide)
  have p2 : vs 2 = .int .i64 (i : Int) := hv 2 (by decide)
  have p3 : vs 3 = .slice (some ⟨b, off, none⟩) i i := hv 3 (by decide)
  have p4 : vs 4 = .slice (some ⟨b, off, none⟩) rs.length cap := hv 4 (by decide)
  have p5 : vs 5 = .int .i64 (i : Int) := hv 5 (by decide)
  have p6 : vs 6 = .int .i64 ((i + 1 : Nat) : Int) := hv 6 (by decide)
  have p7 : vs 7 = .slice (some ⟨b, if cap = (i + 1) then off else off + (i + 1) * 1, none⟩) (rs.length - (i + 1)) (cap - (i + 1)) := hv 7 (by decide)
  refine WL.keep (k := [(5, .slice (some ⟨b, off, none⟩) rs.length cap), (6, .int .i64 (i : Int)), (7, .int .i64 (i : Int)), (8, .slice (some ⟨b, off, none⟩) i i), (9, .slice (some ⟨b, off, none⟩) rs.length cap), (10, .int .i64 (i : Int)), (11, .int .i64 ((i + 1 : Nat) : Int)), (12, .slice (some ⟨b, if cap = (i + 1) then off else off + (i + 1) * 1, none⟩) (rs.length - (i + 1)) (cap - (i + 1)))]) ⟨p0, p1, p2, p3, p4, p5, p6, p7, trivial⟩ ?_
  have hx := Sl.to (i := i) (c := i) (hS.mem (.head _) : Sl _ _ _) (by omega)
  have hy := Sl.from (i := i + 1) (c := cap - (i + 1)) (hS.mem (.head _) : Sl _ _ _) (by omega) hc
  refine WL.appendCat (α := Sv) under42 infT22 rfl (by decide) (by decide) hx hy (by simp; omega) rfl rfl rfl rfl rfl rfl (fun v' W' hB hv' hn' => ?_)
  have hn1 : New w v' ∨ vblk v' = some b := hn'.imp (fun h => h.of hS.bw) id
  replace hS := hS.pinOrB (hS.ext hB) (.head _) hv' (hn'.imp id (fun e => e.trans (vblk_pos (a := ⟨b, off, none⟩) (n := rs.length) (c := cap) (by omega)).symm))
  refine WL.op (v := v') rfl rfl rfl (Ex.assign rfl rfl) ?_
  refine WL.nil ?_
  refine then_normal ?_
  refine WP.ret ?_
  refine ?_
  refine rt1 (v := v') rfl rfl ?_
  exact ⟨_, rfl, hS.bw, (by rw [List.eraseIdx_eq_take_drop_succ]; exact hS.mem (.head _)), hn1⟩
theorem c_but (v : Value) (i : Nat) (rs : List Sv) (w : World) (hv : Sl w v rs) (hc : Capd v) (hi : i < rs.length) (hl : rs.length ≤ 1048576) : Calls Try.prog 89 #[v, .int .i64 (i : Int)] w fun e w' => ∃ v', e = .returned v' ∧ Bw w w' ∧ Sl w' v' (rs.eraseIdx i) ∧ (New w v' ∨ vblk v' = vblk v) := by
  obtain ⟨b, off, cap, rfl⟩ := hv.open (by omega)
  exact (c_but0 b off cap i rs w hv (hc _ _ _ rfl) hi hl).mono fun e w' ⟨v', h1, h2, h3, h4⟩ => ⟨v', h1, h2, h3, h4.imp id (fun q => q.trans (vblk_pos (a := ⟨b, off, none⟩) (n := rs.length) (c := cap) (by omega)).symm)⟩
set_option maxRecDepth 100000 in
set_option maxHeartbeats 1000000 in
theorem c_spare (v v2 : Value) (l : List At) (rs : List Sv) (ls : List (List At)) (w : World) (hv : Sl w v l) (hv2 : Sl w v2 rs) (hs : SS w rs ls) (hlen : rs.length = ls.length) (hl : l.length ≤ 1048576) (hl2 : ls.flatten.length ≤ 1048576) :
    Calls Try.prog 88 #[v, v2] w fun e w' => e = .returned (.bool (leqAt l ls.flatten)) ∧ Bw w w' := by
  have hS := St.begin (w := w) (pins := pinSl v l :: pinSl v2 rs :: pinSS rs ls :: []) ⟨hv, hv2, hs, trivial⟩
  refine enter (n := 9) Try.func88 rfl rfl (Nat.le_of_ble_eq_true rfl) (l := [(0, v), (1, v2)]) rfl ?_
  refine WP.seq ?_
  refine WP.region ?_
  refine WL.op (v := .bool false) rfl rfl rfl (Ex.assign rfl rfl) ?_
  refine WL.nil ?_
  refine then_normal ?_
  refine WP.seq ?_
  refine WP.region ?_
  refine WL.op (v := v) rfl rfl rfl (Ex.move rfl rfl) ?_
  refine WL.op (v := v2) rfl rfl rfl (Ex.move rfl rfl) ?_
  refine WL.call rfl rfl rfl (enterS eg36 (args := [v2]) rfl rfl rfl rfl) (c_all _ rs ls _ (hS.mem (.tail _ (.head _))) (hS.mem (.tail _ (.tail _ (.head _)))) hlen hl2) ?_
  rintro e W782 ⟨v780, rfl, hB, hv', hn'⟩
  have hN781 : New w v780 := fun b hb => Nat.le_trans hS.bw.size (hn' b hb)
  replace hS := hS.newPin hB (pinSl v780 (normAt ls.flatten)) hv' hn'
  refine ⟨_, rfl, ?_⟩
  have hq783 := Nat.le_trans (normAt_length ls.flatten) (hl2)
  refine WL.call rfl rfl rfl (enterS eg20 (args := [v, v780]) rfl rfl rfl rfl) (c_leq _ _ l (normAt ls.flatten) _ (hS.mem (.tail _ (.head _))) (hS.mem (.head _)) (by first | omega | (simp; done) | (simp; omega)) (by first | omega | (simp; done) | (simp; omega))) ?_
  rintro e W784 ⟨rfl, hB⟩
  replace hS := hS.ext hB
  refine ⟨_, rfl, ?_⟩
  refine WL.op (v := .bool (leqAt l (normAt ls.flatten))) rfl rfl rfl (Ex.assign rfl rfl) ?_
  refine WL.nil ?_
  refine then_normal ?_
  refine WP.ret ?_
  refine ?_
  refine rt1 (v := .bool (leqAt l (normAt ls.flatten))) rfl rfl ?_
  exact ⟨retb (leq_norm_r _ _), hS.bw⟩
set_option maxRecDepth 100000 in
set_option maxHeartbeats 1000000 in
theorem c_irredundant (v : Value) (rs : List Sv) (ls : List (List At)) (w : World) (hv : Sl w v rs) (hs : SS w rs ls) (hlen : rs.length = ls.length) (hc : Capd v) (hl : rs.length ≤ 1048576) (hl2 : ls.flatten.length ≤ 1048576) :
    Calls Try.prog 38 #[v] w fun e w' => e = .returned (.bool (irredAt ls)) ∧ Bw w w' := by
  have hS := St.begin (w := w) (pins := pinSl v rs :: pinSS rs ls :: []) ⟨hv, hs, trivial⟩
  refine enter (n := 18) Try.func38 rfl rfl (Nat.le_of_ble_eq_true rfl) (l := [(0, v)]) rfl ?_
  refine WP.seq ?_
  refine WP.region ?_
  refine WL.op (v := .bool false) rfl rfl rfl (Ex.assign rfl rfl) ?_
  refine WL.nil ?_
  refine then_normal ?_
  refine WP.seq ?_
  refine WP.seq ?_
  refine WP.region ?_
  refine WL.op (v := v) rfl rfl rfl (Ex.move rfl rfl) ?_
  have hl785 : rs.length < 4611686018427387904 := (hS.mem (.head _) : Sl _ _ _).lt
  refine WL.op (v := .int .i64 (rs.length : Int)) rfl rfl rfl (Ex.lenSl (l := rs) ⟨_, under42⟩ rfl rfl (hS.mem (.head _))) ?_
  refine WL.op (v := .int .i64 0) rfl rfl rfl (Ex.move rfl rfl) ?_
  refine WL.nil ?_
  refine then_normal ?_
  refine WP.block ?_
  refine WP.loop (fun (μ : Nat) a W => ∃ (k : Nat), ∃ (l0 : Fr), a = fr 18 [] ([(0, v), (5, v), (6, .int .i64 (rs.length : Int)), (7, .int .i64 (k : Int))] ++ l0) ∧ μ = rs.length - k ∧ k ≤ rs.length ∧ St w ([]) (pinSl v rs :: pinSS rs ls :: []) W ∧ ((List.range k).all (fun i => !spareAt ls ls i) = true)) id _ ⟨0, _, fr_keep ⟨rfl, rfl, rfl, rfl, trivial⟩, rfl, by omega, hS, rfl⟩ ?_
  rintro μ a W786 ⟨k, l0, rfl, rfl, hk, hS, hall⟩
  refine WP.seq ?_
  refine WP.region ?_
  refine WL.op (v := .bool (decide ((k : Int) < (rs.length : Int)))) rfl rfl rfl (Ex.lt rfl rfl rfl) ?_
  refine WL.nil ?_
  refine then_normal ?_
  refine WP.seq ?_
  refine WP.cond (b := decide ((k : Int) < (rs.length : Int))) rfl (fun hc787 => ?_) (fun hc787 => ?_)
  ·
    have hc787' : (k : Int) < (rs.length : Int) := by simpa using hc787
    refine WP.skip ?_
    refine then_normal ?_
    refine WP.seq ?_
    refine WP.block ?_
    refine WP.seq ?_
    refine WP.region ?_
    refine WL.op (v := .int .i64 (k : Int)) rfl rfl rfl (Ex.move rfl rfl) ?_
    obtain ⟨b788, po789, x790, hx791, hi792, hS⟩ := hS.elem (α := Sv) (k := k) (.head _) under42 tySz22 (by omega)
    refine WL.op (v := .pointer (some ⟨b788, po789, none⟩)) rfl rfl rfl (Ex.indexC hi792 rfl rfl rfl) ?_
    obtain ⟨li793, hli794⟩ : ∃ li, ls[k]? = some li := ⟨ls[k]'(by omega), by simp⟩
    replace hS := hS.inner (.tail _ (.tail _ (.head _))) hx791 hli794
    have hll795 : li793.length ≤ 1048576 := Nat.le_trans (get_flatten_le hli794) (hl2)
    refine WL.op (v := x790.v) rfl rfl rfl (Ex.load1 tyOne22 rfl rfl (Reads.sub (cs := [x790.v]) (hS.get 1 rfl) 0 (ds := [x790.v]) rfl)) ?_
    refine WL.op (v := .int .i64 (k : Int)) rfl rfl rfl (Ex.assign rfl rfl) ?_
    refine WL.op (v := x790.v) rfl rfl rfl (Ex.assign rfl rfl) ?_
    refine WL.nil ?_
    refine then_normal ?_
    refine WP.seq ?_
    refine WP.region ?_
    refine WL.op (v := x790.v) rfl rfl rfl (Ex.move rfl rfl) ?_
    refine WL.op (v := v) rfl rfl rfl (Ex.move rfl rfl) ?_
    refine WL.op (v := .int .i64 (k : Int)) rfl rfl rfl (Ex.move rfl rfl) ?_
    refine WL.call rfl rfl rfl (enterS eg89 (args := [v, .int .i64 (k : Int)]) rfl rfl rfl rfl) (c_but _ k rs _ (hS.mem (.tail _ (.tail _ (.head _)))) (hc) (by omega) (by omega)) ?_
    rintro e W798 ⟨v796, rfl, hB, hb797, hn'⟩
    replace hS := hS.pinOrB (hS.ext hB) (.tail _ (.tail _ (.head _))) hb797 hn'
    replace hS := hS.ssErase (.tail _ (.tail _ (.tail _ (.tail _ (.head _))))) k
    refine ⟨_, rfl, ?_⟩
    refine WL.call rfl rfl rfl (enterS eg88 (args := [x790.v, v796]) rfl rfl rfl rfl) (c_spare _ _ li793 (rs.eraseIdx k) (ls.eraseIdx k) _ (hS.mem (.tail _ (.tail _ (.head _)))) (hS.mem (.tail _ (.head _))) (hS.mem (.head _)) (by rw [List.length_eraseIdx, List.length_eraseIdx, hlen]) (Nat.le_trans (get_flatten_le (by assumption)) hl2) ((Nat.le_trans (flatten_erase_le _ _) (hl2)))) ?_
    rintro e W799 ⟨rfl, hB⟩
    replace hS := hS.ext hB
    refine ⟨_, rfl, ?_⟩
    refine WL.nil ?_
    refine then_normal ?_
    refine WP.cond (b := leqAt li793 (ls.eraseIdx k).flatten) rfl (fun hc800 => ?_) (fun hc800 => ?_)
    ·
      refine WP.seq ?_
      refine WP.region ?_
      refine WL.op (v := .bool false) rfl rfl rfl (Ex.assign rfl rfl) ?_
      refine WL.nil ?_
      refine then_normal ?_
      refine WP.ret ?_
      refine inBlock_ret (then_ret (then_ret (inBlock_ret (then_ret (?_)))))
      refine rt1 (v := .bool false) rfl rfl ?_
      exact ⟨retb (range_not (k := k) (by omega) ((spare_eq hli794 hc800).trans rfl)).symm, hS.bw⟩
    ·
      refine WP.skip ?_
      refine inBlock_normal ?_
      refine then_normal ?_
      refine WP.region ?_
      refine WL.op (v := .int .i64 ((k + 1 : Nat) : Int)) rfl rfl rfl (Ex.add rfl rfl rfl (wrap_succ (by omega))) ?_
      refine WL.op (v := .int .i64 ((k + 1 : Nat) : Int)) rfl rfl rfl (Ex.move rfl rfl) ?_
      refine WL.nil ?_
      refine then_normal ?_
      exact ⟨_, ⟨k + 1, _, fr_keep ⟨rfl, rfl, rfl, rfl, trivial⟩, rfl, by omega, hS.drop 0 4, range_next hall ((spare_eq hli794 hc800).trans rfl)⟩, by simp only [id]; omega⟩
  ·
    have hc787' : ¬ ((k : Int) < (rs.length : Int)) := by simpa using hc787
    refine WP.exit ?_
    refine then_exit (then_exit (inBlock_same (?_)))
    refine then_normal ?_
    refine WP.seq ?_
    refine WP.region ?_
    refine WL.op (v := .bool true) rfl rfl rfl (Ex.assign rfl rfl) ?_
    refine WL.nil ?_
    refine then_normal ?_
    refine WP.ret ?_
    refine ?_
    refine rt1 (v := .bool true) rfl rfl ?_
    exact ⟨retb (by rw [show k = ls.length by omega] at hall; exact hall.symm), hS.bw⟩
set_option maxRecDepth 100000 in
set_option maxHeartbeats 4000000 in
theorem c_needless (v : Value) (rs : List Sv) (ls : List (List At)) (w : World) (hv : Sl w v rs) (hs : SS w rs ls) (hlen : rs.length = ls.length) (hc : Capd v) (hl : rs.length ≤ 1048576) (hl2 : ls.flatten.length ≤ 1048576) :
    Calls Try.prog 35 #[v] w fun e w' => ∃ v', e = .returned v' ∧ Bw w w' ∧ Sl w' v' (needF ls ls.length).1 ∧ New w v' := by
  have hS := St.begin (w := w) (pins := pinSl v rs :: pinSS rs ls :: []) ⟨hv, hs, trivial⟩
  refine enter (n := 31) Try.func35 rfl rfl (Nat.le_of_ble_eq_true rfl) (l := [(0, v)]) rfl ?_
  refine WP.seq ?_
  refine WP.region ?_
  refine WL.op (v := .slice none 0 0) rfl rfl rfl (Ex.assign rfl rfl) ?_
  refine WL.nil ?_
  refine then_normal ?_
  refine WP.scope ?_
  refine WP.seq ?_
  refine WP.region ?_
  refine WL.buildSlice (ps := []) (C := #[]) (E := 22) rfl (fun _ => by kernel_rfl) hS rfl rfl rfl rfl (fun b801 W802 hS => ?_)
  have hO803 : OutG (α := Sv) (.slice (some ⟨b801, 0, none⟩) 0 0) (some (b801, .cells #[] 22)) 22 [] := .inr ⟨b801, 0, #[], rfl, rfl, Nat.le_refl _, by decide, rfl, rfl⟩
  refine WL.op (v := v) rfl rfl rfl (Ex.move rfl rfl) ?_
  refine WL.appendAll (α := Sv) (xs := rs) under42 infT22 rfl (by decide) (by decide) [] hO803 hS (hS.mem (.head _)) (by simp; omega) rfl rfl rfl rfl rfl rfl (fun vo804 eo805 W806 hO807 hS => ?_)
  replace hO807 : OutG vo804 eo805 22 rs := hO807
  refine WL.op (v := vo804) rfl rfl rfl (Ex.assign rfl rfl) ?_
  refine WL.nil ?_
  refine then_normal ?_
  refine WP.seq ?_
  refine WP.label ?_
  refine then_normal ?_
  refine WP.seq ?_
  refine WP.seq ?_
  refine WP.region ?_
  refine WL.op (v := v) rfl rfl rfl (Ex.move rfl rfl) ?_
  have hl808 : rs.length < 4611686018427387904 := (hS.mem (.head _) : Sl _ _ _).lt
  refine WL.op (v := .int .i64 (rs.length : Int)) rfl rfl rfl (Ex.lenSl (l := rs) ⟨_, under42⟩ rfl rfl (hS.mem (.head _))) ?_
  refine WL.op (v := .int .i64 0) rfl rfl rfl (Ex.move rfl rfl) ?_
  refine WL.nil ?_
  refine then_normal ?_
  refine WP.block ?_
  replace hS := hS.again (.tail _ (.head _))
  refine WP.loop (fun (μ : Nat) a W => ∃ (k : Nat), ∃ (vi : Value), ∃ (ei : Option (Nat × Obj)), ∃ (di : List Int), ∃ (el : Option (Nat × Obj)), ∃ (dl : List Sv), ∃ (lss : List (List At)), ∃ (l0 : Fr), a = fr 31 [] ([(3, vo804), (9, v), (10, .int .i64 (rs.length : Int)), (11, .int .i64 (k : Int)), (2, vi)] ++ l0) ∧ μ = rs.length - k ∧ k ≤ rs.length ∧ St w ((ei.toList ++ el.toList)) (pinSS dl lss :: pinSl v rs :: pinSS rs ls :: []) W ∧ (OutG vi ei 3 di) ∧ (OutG vo804 el 22 dl) ∧ ((di, lss) = needF ls k) ∧ (dl.length = lss.length) ∧ (dl.length = rs.length) ∧ (lss.flatten.length ≤ 1048576) ∧ (di.length ≤ k)) id _ ⟨0, .slice none 0 0, none, [], eo805, rs, ls, _, fr_keep ⟨rfl, rfl, rfl, rfl, rfl, trivial⟩, rfl, by omega, (hS.perm (perm_of_count (fun f => by simp only [List.countP_append, List.countP_cons, List.countP_nil, Option.toList_none, Option.toList_some] <;> omega))), OutG.nil, hO807, rfl, hlen, rfl, hl2, Nat.le_refl _⟩ ?_
  rintro μ a W809 ⟨k, vi, ei, di, el, dl, lss, l0, rfl, rfl, hk, hS, hOi, hOl, hst, hlen2, hdl, hl3, hdi⟩
  refine WP.seq ?_
  refine WP.region ?_
  refine WL.op (v := .bool (decide ((k : Int) < (rs.length : Int)))) rfl rfl rfl (Ex.lt rfl rfl rfl) ?_
  refine WL.nil ?_
  refine then_normal ?_
  refine WP.seq ?_
  refine WP.cond (b := decide ((k : Int) < (rs.length : Int))) rfl (fun hc810 => ?_) (fun hc810 => ?_)
  ·
    have hc810' : (k : Int) < (rs.length : Int) := by simpa using hc810
    refine WP.skip ?_
    refine then_normal ?_
    refine WP.seq ?_
    refine WP.block ?_
    refine WP.seq ?_
    refine WP.region ?_
    refine WL.op (v := .int .i64 (k : Int)) rfl rfl rfl (Ex.move rfl rfl) ?_
    obtain ⟨b811, po812, x813, hx814, hi815, hS⟩ := hS.elem (α := Sv) (k := k) (.tail _ (.head _)) under42 tySz22 (by omega)
    refine WL.op (v := .pointer (some ⟨b811, po812, none⟩)) rfl rfl rfl (Ex.indexC hi815 rfl rfl rfl) ?_
    obtain ⟨li816, hli817⟩ : ∃ li, ls[k]? = some li := ⟨ls[k]'(by omega), by simp⟩
    replace hS := hS.inner (.tail _ (.tail _ (.tail _ (.head _)))) hx814 hli817
    have hll818 : li816.length ≤ 1048576 := Nat.le_trans (get_flatten_le hli817) (hl2)
    refine WL.op (v := x813.v) rfl rfl rfl (Ex.load1 tyOne22 rfl rfl (Reads.sub (cs := [x813.v]) (hS.get 1 rfl) 0 (ds := [x813.v]) rfl)) ?_
    refine WL.op (v := .int .i64 (k : Int)) rfl rfl rfl (Ex.assign rfl rfl) ?_
    refine WL.op (v := x813.v) rfl rfl rfl (Ex.assign rfl rfl) ?_
    refine WL.nil ?_
    refine then_normal ?_
    refine WP.seq ?_
    refine WP.seq ?_
    refine WP.region ?_
    refine WL.op (v := x813.v) rfl rfl rfl (Ex.move rfl rfl) ?_
    refine WL.op (v := vo804) rfl rfl rfl (Ex.move rfl rfl) ?_
    refine WL.op (v := .int .i64 (k : Int)) rfl rfl rfl (Ex.move rfl rfl) ?_
    have hsl819 : Sl W809 vo804 dl := (OutG.slM hOl hS (fun p hp => by first | (rw [hp]; simp; done) | (cases hp; simp)) (by first | omega | (simp; done) | (simp; omega))).1
    refine WL.call rfl rfl rfl (enterS eg89 (args := [vo804, .int .i64 (k : Int)]) rfl rfl rfl rfl) (c_but _ k dl _ hsl819 (hOl.capd) (by omega) (by omega)) ?_
    rintro e W822 ⟨v820, rfl, hB, hb821, hn'⟩
    replace hsl819 := hsl819.bw hB
    replace hS := hS.ext hB
    replace hS := hS.ssErase (.tail _ (.tail _ (.head _))) k
    refine ⟨_, rfl, ?_⟩
    refine WL.call rfl rfl rfl (enterS eg88 (args := [x813.v, v820]) rfl rfl rfl rfl) (c_spare _ _ li816 (dl.eraseIdx k) (lss.eraseIdx k) _ (hS.mem (.tail _ (.head _))) hb821 (hS.mem (.head _)) (by rw [List.length_eraseIdx, List.length_eraseIdx, hlen2]) (Nat.le_trans (get_flatten_le (by assumption)) hl2) ((Nat.le_trans (flatten_erase_le _ _) (hl3)))) ?_
    rintro e W823 ⟨rfl, hB⟩
    replace hsl819 := hsl819.bw hB
    replace hb821 := hb821.bw hB
    replace hS := hS.ext hB
    refine ⟨_, rfl, ?_⟩
    refine WL.op (v := .bool (!(leqAt li816 (lss.eraseIdx k).flatten))) rfl rfl rfl (Ex.not rfl rfl) ?_
    refine WL.nil ?_
    refine then_normal ?_
    refine WP.cond (b := !(leqAt li816 (lss.eraseIdx k).flatten)) rfl (fun hc824 => ?_) (fun hc824 => ?_)
    ·
      have hc825 : (leqAt li816 (lss.eraseIdx k).flatten) = false := by simpa using hc824
      refine WP.exit ?_
      refine then_exit (inBlock_same (?_))
      refine then_normal ?_
      refine WP.region ?_
      refine WL.op (v := .int .i64 ((k + 1 : Nat) : Int)) rfl rfl rfl (Ex.add rfl rfl rfl (wrap_succ (by omega))) ?_
      refine WL.op (v := .int .i64 ((k + 1 : Nat) : Int)) rfl rfl rfl (Ex.move rfl rfl) ?_
      refine WL.nil ?_
      refine then_normal ?_
      exact ⟨_, ⟨k + 1, vi, ei, di, el, dl, lss, _, fr_keep ⟨rfl, rfl, rfl, rfl, rfl, trivial⟩, rfl, by omega, (hS.repin 0 ⟨(.tail _ (.tail _ (.tail _ (.head _)))), (.tail _ (.tail _ (.tail _ (.tail _ (.head _))))), (.tail _ (.tail _ (.tail _ (.tail _ (.tail _ (.head _)))))), trivial⟩), hOi, hOl, need_no hst hli817 hc825, hlen2, hdl, hl3, (by omega)⟩, by simp only [id]; omega⟩
    ·
      have hc826 : (leqAt li816 (lss.eraseIdx k).flatten) = true := by simpa using hc824
      refine WP.skip ?_
      refine then_normal ?_
      refine WP.region ?_
      refine WL.op (v := vo804) rfl rfl rfl (Ex.move rfl rfl) ?_
      refine WL.op (v := .int .i64 (k : Int)) rfl rfl rfl (Ex.move rfl rfl) ?_
      refine WL.op (v := vi) rfl rfl rfl (Ex.move rfl rfl) ?_
      refine WL.op (v := .int .i64 (k : Int)) rfl rfl rfl (Ex.move rfl rfl) ?_
      refine WL.buildSlice (ps := [(0, .int .i64 (k : Int))]) (C := #[.int .i64 (k : Int)]) (E := 3) rfl (fun _ => by kernel_rfl) hS rfl rfl rfl rfl (fun b827 W828 hS => ?_)
      replace hS := hS.slice (α := Int) (xs := [(k : Int)]) (cap := 1) rfl (by simp)
      replace hS : St w (([] ++ el.toList) ++ ei.toList) (pinSl (.slice (some ⟨b827, 0, none⟩) 1 1) [(k : Int)] :: pinSS (dl.eraseIdx k) (lss.eraseIdx k) :: pinSl x813.v li816 :: pinReads b811 po812 (Enc.val x813).cells.toList :: pinSS dl lss :: pinSl v rs :: pinSS rs ls :: []) W828 := hS.perm (perm_of_count (fun f => by simp only [List.countP_append, List.countP_cons, List.countP_nil, Option.toList_none, Option.toList_some] <;> omega))
      refine WL.append (α := Int) (a := (k : Int)) under43 infT3 rfl (by decide) (by decide) ([] ++ el.toList) hOi hS (hS.mem (.head _)) (by omega) rfl rfl rfl rfl rfl rfl (fun vo829 eo830 W831 hO832 hS => ?_)
      refine WL.op (v := vo829) rfl rfl rfl (Ex.assign rfl rfl) ?_
      obtain ⟨g833, og834, rfl, hi835⟩ := OutG.spot (i := k) hOl under42 tySz22 (by omega)
      refine WL.op (v := .pointer (some ⟨g833, k * Enc.sz Sv, none⟩)) rfl rfl rfl (Ex.indexC hi835 rfl rfl rfl) ?_
      replace hS : St w (([] ++ eo830.toList) ++ (some (g833, og834)).toList) (pinSl (.slice (some ⟨b827, 0, none⟩) 1 1) [(k : Int)] :: pinSS (dl.eraseIdx k) (lss.eraseIdx k) :: pinSl x813.v li816 :: pinReads b811 po812 (Enc.val x813).cells.toList :: pinSS dl lss :: pinSl v rs :: pinSS rs ls :: []) W831 := hS.perm (perm_of_count (fun f => by simp only [List.countP_append, List.countP_cons, List.countP_nil, Option.toList_none, Option.toList_some] <;> omega))
      refine WL.storeOut (α := Sv) (a := (Sv.mk none 0 0)) (i := k) hOl tySz22 (by omega) ([] ++ eo830.toList) hS rfl rfl rfl rfl rfl (fun og838 W837 hO839 hS => ?_)
      refine WL.nil ?_
      refine inBlock_normal ?_
      refine then_normal ?_
      refine WP.region ?_
      refine WL.op (v := .int .i64 ((k + 1 : Nat) : Int)) rfl rfl rfl (Ex.add rfl rfl rfl (wrap_succ (by omega))) ?_
      refine WL.op (v := .int .i64 ((k + 1 : Nat) : Int)) rfl rfl rfl (Ex.move rfl rfl) ?_
      refine WL.nil ?_
      refine then_normal ?_
      replace hS := hS.ssSet (.tail _ (.tail _ (.tail _ (.tail _ (.head _))))) k
      exact ⟨_, ⟨k + 1, vo829, eo830, di ++ [(k : Int)], (some (g833, og838)), dl.set k (Sv.mk none 0 0), lss.set k [], _, fr_keep ⟨rfl, rfl, rfl, rfl, rfl, trivial⟩, rfl, by omega, (hS.repin 0 ⟨(.head _), (.tail _ (.tail _ (.tail _ (.tail _ (.tail _ (.tail _ (.head _))))))), (.tail _ (.tail _ (.tail _ (.tail _ (.tail _ (.tail _ (.tail _ (.head _)))))))), trivial⟩), hO832, hO839, need_yes hst hli817 hc826, (by simp [hlen2]), (by simp [hdl]), (Nat.le_trans (flatten_set_le _ _) hl3), (by simp only [List.length_append, List.length_cons, List.length_nil]; omega)⟩, by simp only [id]; omega⟩
  ·
    have hc810' : ¬ ((k : Int) < (rs.length : Int)) := by simpa using hc810
    refine WP.exit ?_
    refine then_exit (then_exit (inBlock_same (?_)))
    refine then_normal ?_
    refine WP.seq ?_
    refine WP.region ?_
    refine WL.op (v := vi) rfl rfl rfl (Ex.move rfl rfl) ?_
    refine WL.op (v := vi) rfl rfl rfl (Ex.assign rfl rfl) ?_
    refine WL.nil ?_
    refine then_normal ?_
    refine WP.ret ?_
    refine ng_ret (?_)
    refine rt1 (v := vi) rfl rfl ?_
    rw [show k = ls.length by omega] at hst
    have hz := OutG.slM hOi hS (fun p hp => by rw [hp]; simp) (by omega)
    exact ⟨_, rfl, hS.bw, (by rw [← hst]; exact hz.1), hz.2⟩
end Go.Proofs.Ythidakffgcjjiaa
