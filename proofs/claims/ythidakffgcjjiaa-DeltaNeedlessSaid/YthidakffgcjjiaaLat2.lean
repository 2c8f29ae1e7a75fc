/- The walks of lat: facts, Meet, Leq, Same, Find. -/
import Derived.Test.YthidakffgcjjiaaIter
import Derived.Test.YthidakffgcjjiaaNorm
namespace Go.Proofs.Ythidakffgcjjiaa
open Go.RowKit Go.Sort

set_option maxRecDepth 100000 in
set_option maxHeartbeats 1000000 in
theorem c_facts (s : Sv) (l : List At) (w : World) (hv : Sl w s.v l) (hl : l.length ≤ 1048576) :
    Calls Try.prog 72 #[s.v] w fun e w' => ∃ b ob, e = .returned (.map (some b)) ∧ Bw w w' ∧ w'.heap[b]? = some ob ∧ MapObj ob ((normAt l).map kvp) ∧ w.heap.size ≤ b := by
  have hS := St.begin (w := w) (pins := pinSl s.v l :: []) ⟨hv, trivial⟩
  refine enterM (n := 17) Try.func72 rfl rfl (Nat.le_of_ble_eq_true rfl) (l := [(0, s.v)]) rfl ?_
  refine WP.seq ?_
  refine WP.region ?_
  refine WL.op (v := .map none) rfl rfl rfl (Ex.assign rfl rfl) ?_
  refine WL.nil ?_
  refine then_normal ?_
  refine WP.seq ?_
  refine WP.region ?_
  refine WL.op (v := s.v) rfl rfl rfl (Ex.move rfl rfl) ?_
  have hl132 : l.length < 4611686018427387904 := (hS.mem (.head _) : Sl _ _ _).lt
  refine WL.op (v := .int .i64 (l.length : Int)) rfl rfl rfl (Ex.lenSl (l := l) ⟨_, under22⟩ rfl rfl (hS.mem (.head _))) ?_
  refine WL.makeMapN (a := (l.length : Int)) undM82 hS rfl rfl rfl rfl rfl (fun bm133 W134 hS => ?_)
  refine WL.alloc zv82 hS rfl rfl rfl rfl (fun b135 W136 hS => ?_)
  refine WL.store tySz82 hS 0 rfl rfl rfl rfl rfl rfl rfl rfl rfl (C' := #[.map (some bm133)]) rfl ((b135, .cells #[.map (some bm133)] 82) :: (bm133, .map #[] 0) :: []) rfl (fun W137 hS => ?_)
  refine WL.nil ?_
  refine then_normal ?_
  refine WP.seq ?_
  refine WP.seq ?_
  refine WP.region ?_
  refine WL.op (v := s.v) rfl rfl rfl (Ex.move rfl rfl) ?_
  refine WL.call rfl rfl rfl (enterS eg73 (args := [s.v]) rfl rfl rfl rfl) (c_each0 s _) ?_
  rintro e W139 ⟨bx138, rfl, hB, hb, hn⟩
  replace hS := hS.adopt hB hb hn
  refine ⟨_, rfl, ?_⟩
  refine WL.nil ?_
  refine then_normal ?_
  refine WP.block ?_
  refine WP.range (it_each bx138 s.v l (by omega)) rfl eg112 (fun _ => rfl) rfl hS (fun k co cp => ∃ (ob : Obj), co = [(bx138, .cells #[s.v] 22), (b135, .cells #[.map (some bm133)] 82), (bm133, ob)] ∧ cp = pinSl s.v l :: [] ∧ (MapObj ob (((normAt l).take k).map kvp))) (fun _ _ _ => False) ⟨_, rfl, rfl, MapObj.new⟩ (fun L D rl rd => ⟨List.mem_append_left _ (.head _), (.head _)⟩) ?_ ?_ ?_
  ·
    rintro k x L it ip _ _ W140 K hx141 ⟨ob, rfl, rfl, hm⟩ hS hK
    have hkx := (List.getElem?_eq_some_iff.1 hx141).1
    refine WP.seq ?_
    refine WP.region ?_
    refine WL.alloc zv61 hS rfl rfl rfl rfl (fun b142 W143 hS => ?_)
    refine WL.store tySz61 hS 0 rfl rfl rfl rfl rfl rfl rfl rfl rfl (C' := x.k.enc) rfl ((b142, .cells x.k.enc 61) :: (bx138, .cells #[s.v] 22) :: (b135, .cells #[.map (some bm133)] 82) :: (bm133, ob) :: it) rfl (fun W144 hS => ?_)
    refine WL.nil ?_
    refine then_normal ?_
    refine WP.region ?_
    refine WL.alloc zv67 hS rfl rfl rfl rfl (fun b145 W146 hS => ?_)
    refine WL.store tySz67 hS 0 rfl rfl rfl rfl rfl rfl rfl rfl rfl (C' := x.v.enc) rfl ((b145, .cells x.v.enc 67) :: (b142, .cells x.k.enc 61) :: (bx138, .cells #[s.v] 22) :: (b135, .cells #[.map (some bm133)] 82) :: (bm133, ob) :: it) rfl (fun W147 hS => ?_)
    refine WL.nil ?_
    refine then_normal ?_
    refine hK _ _ [(b145, .cells x.v.enc 67), (b142, .cells x.k.enc 61), (bx138, .cells #[s.v] 22), (b135, .cells #[.map (some bm133)] 82), (bm133, ob)] [pinSl s.v l] hS (fun it W148 hS => ?_)
    refine WP.block ?_
    refine WP.region ?_
    refine WL.op (v := .map (some bm133)) rfl rfl rfl (Ex.load1 tyOne82 rfl rfl (Reads.of_block (hS.at 3 rfl) 0 [.map (some bm133)] rfl)) ?_
    refine WL.op (v := .agg x.k.enc) rfl rfl rfl (Ex.loadA tyAgg61 rfl rfl (Reads.of_block (hS.at 1 rfl) 0 x.k.enc.toList rfl) rfl) ?_
    refine WL.op (v := .agg x.v.enc) rfl rfl rfl (Ex.loadA tyAgg67 rfl rfl (Reads.of_block (hS.at 0 rfl) 0 x.v.enc.toList rfl) rfl) ?_
    refine WL.update (k := x.k) (v := x.v) hS 4 rfl hm rfl rfl rfl rfl rfl rfl (fun ob149 W150 hm151 hS => ?_)
    refine WL.nil ?_
    refine inBlock_normal ?_
    exact ⟨_, _, ⟨ob149, rfl, rfl, by rw [← facts_next (normAt_rising l) hx141]; exact hm151⟩, hS.drop 2 0⟩
  ·
    rintro D W152 _ _ ⟨ob, rfl, rfl, hm⟩ hS
    rw [List.take_length] at hm
    refine inBlock_normal ?_
    refine then_normal ?_
    refine WP.seq ?_
    refine WP.region ?_
    refine WL.op (v := .map (some bm133)) rfl rfl rfl (Ex.load1 tyOne82 rfl rfl (Reads.of_block (hS.at 1 rfl) 0 [.map (some bm133)] rfl)) ?_
    refine WL.op (v := .map (some bm133)) rfl rfl rfl (Ex.assign rfl rfl) ?_
    refine WL.nil ?_
    refine then_normal ?_
    refine WP.ret ?_
    refine ?_
    refine leaveM (v := .map (some bm133)) hS (i := 3) rfl (fun W153 hS => ?_)
    refine ⟨runs1 rfl rfl, ?_⟩
    exact ⟨_, _, rfl, hS.bw, hS.at 2 rfl, hm, hS.ge 2 rfl⟩
  ·
    exact fun _ _ _ _ _ h _ => h.elim
set_option maxRecDepth 100000 in
set_option maxHeartbeats 1000000 in
theorem c_meet0 (s t : Sv) (la lb : List At) (w : World) (ha : Sl w s.v la) (hb : Sl w t.v lb) (hl : la.length ≤ 1048576) (hl2 : lb.length ≤ 1048576) :
    Calls Try.prog 18 #[s.v, t.v] w fun e w' => ∃ v', e = .returned v' ∧ Bw w w' ∧ Sl w' v' (meetAt la lb) ∧ New w v' := by
  have hS := St.begin (w := w) (pins := pinSl s.v la :: pinSl t.v lb :: []) ⟨ha, hb, trivial⟩
  refine enterM (n := 35) Try.func18 rfl rfl (Nat.le_of_ble_eq_true rfl) (l := [(0, s.v), (1, t.v)]) rfl ?_
  refine WP.seq ?_
  refine WP.region ?_
  refine WL.op (v := .slice none 0 0) rfl rfl rfl (Ex.assign rfl rfl) ?_
  refine WL.nil ?_
  refine then_normal ?_
  refine WP.seq ?_
  refine WP.region ?_
  refine WL.op (v := t.v) rfl rfl rfl (Ex.move rfl rfl) ?_
  refine WL.call rfl rfl rfl (enterS eg72 (args := [t.v]) rfl rfl rfl rfl) (c_facts t lb _ (hS.mem (.tail _ (.head _))) (by first | omega | (simp; done) | (simp; omega))) ?_
  rintro e W158 ⟨bf155, ob156, rfl, hB, hb, hm157, hn⟩
  replace hS := hS.adopt hB hb hn
  refine ⟨_, rfl, ?_⟩
  refine WL.makeMap hS rfl rfl rfl rfl rfl (fun bm159 W160 hS => ?_)
  refine WL.alloc zv82 hS rfl rfl rfl rfl (fun b161 W162 hS => ?_)
  refine WL.alloc zv82 hS rfl rfl rfl rfl (fun b163 W164 hS => ?_)
  refine WL.store tySz82 hS 1 rfl rfl rfl rfl rfl rfl rfl rfl rfl (C' := #[.map (some bf155)]) rfl ((b163, .cells #[.map none] 82) :: (b161, .cells #[.map (some bf155)] 82) :: (bm159, .map #[] 0) :: (bf155, ob156) :: []) rfl (fun W165 hS => ?_)
  refine WL.store tySz82 hS 0 rfl rfl rfl rfl rfl rfl rfl rfl rfl (C' := #[.map (some bm159)]) rfl ((b163, .cells #[.map (some bm159)] 82) :: (b161, .cells #[.map (some bf155)] 82) :: (bm159, .map #[] 0) :: (bf155, ob156) :: []) rfl (fun W166 hS => ?_)
  refine WL.nil ?_
  refine then_normal ?_
  refine WP.seq ?_
  refine WP.seq ?_
  refine WP.region ?_
  refine WL.op (v := s.v) rfl rfl rfl (Ex.move rfl rfl) ?_
  refine WL.call rfl rfl rfl (enterS eg73 (args := [s.v]) rfl rfl rfl rfl) (c_each0 s _) ?_
  rintro e W168 ⟨bx167, rfl, hB, hb, hn⟩
  replace hS := hS.adopt hB hb hn
  refine ⟨_, rfl, ?_⟩
  refine WL.nil ?_
  refine then_normal ?_
  refine WP.block ?_
  refine WP.range (it_each bx167 s.v la (by omega)) rfl eg112 (fun _ => rfl) rfl hS (fun k co cp => ∃ (ob : Obj), co = [(bx167, .cells #[s.v] 22), (b163, .cells #[.map (some bm159)] 82), (b161, .cells #[.map (some bf155)] 82), (bm159, ob), (bf155, ob156)] ∧ cp = pinSl s.v la :: pinSl t.v lb :: [] ∧ (MapObj ob (meetL ((normAt la).take k) ((normAt lb).map kvp)))) (fun _ _ _ => False) ⟨_, rfl, rfl, MapObj.new⟩ (fun L D rl rd => ⟨List.mem_append_left _ (.head _), (.head _)⟩) ?_ ?_ ?_
  ·
    rintro k x L it ip _ _ W169 K hx170 ⟨ob, rfl, rfl, hm⟩ hS hK
    have hkx := (List.getElem?_eq_some_iff.1 hx170).1
    refine WP.seq ?_
    refine WP.region ?_
    refine WL.alloc zv61 hS rfl rfl rfl rfl (fun b171 W172 hS => ?_)
    refine WL.store tySz61 hS 0 rfl rfl rfl rfl rfl rfl rfl rfl rfl (C' := x.k.enc) rfl ((b171, .cells x.k.enc 61) :: (bx167, .cells #[s.v] 22) :: (b163, .cells #[.map (some bm159)] 82) :: (b161, .cells #[.map (some bf155)] 82) :: (bm159, ob) :: (bf155, ob156) :: it) rfl (fun W173 hS => ?_)
    refine WL.nil ?_
    refine then_normal ?_
    refine WP.region ?_
    refine WL.alloc zv67 hS rfl rfl rfl rfl (fun b174 W175 hS => ?_)
    refine WL.store tySz67 hS 0 rfl rfl rfl rfl rfl rfl rfl rfl rfl (C' := x.v.enc) rfl ((b174, .cells x.v.enc 67) :: (b171, .cells x.k.enc 61) :: (bx167, .cells #[s.v] 22) :: (b163, .cells #[.map (some bm159)] 82) :: (b161, .cells #[.map (some bf155)] 82) :: (bm159, ob) :: (bf155, ob156) :: it) rfl (fun W176 hS => ?_)
    refine WL.nil ?_
    refine then_normal ?_
    refine hK _ _ [(b174, .cells x.v.enc 67), (b171, .cells x.k.enc 61), (bx167, .cells #[s.v] 22), (b163, .cells #[.map (some bm159)] 82), (b161, .cells #[.map (some bf155)] 82), (bm159, ob), (bf155, ob156)] [pinSl s.v la, pinSl t.v lb] hS (fun it W177 hS => ?_)
    refine WP.block ?_
    refine WP.seq ?_
    refine WP.region ?_
    refine WL.op (v := .map (some bf155)) rfl rfl rfl (Ex.load1 tyOne82 rfl rfl (Reads.of_block (hS.at 4 rfl) 0 [.map (some bf155)] rfl)) ?_
    refine WL.op (v := .agg x.k.enc) rfl rfl rfl (Ex.loadA tyAgg61 rfl rfl (Reads.of_block (hS.at 1 rfl) 0 x.k.enc.toList rfl) rfl) ?_
    refine WL.op (v := .tuple #[.agg ((look ((normAt lb).map kvp) x.k).getD Vl.zero).enc, .bool ((look ((normAt lb).map kvp) x.k).isSome)]) rfl rfl rfl (Ex.lookupM (hS.at 6 rfl) hm157 rfl rfl rfl) ?_
    refine WL.op (v := .tuple #[.agg ((look ((normAt lb).map kvp) x.k).getD Vl.zero).enc, .bool ((look ((normAt lb).map kvp) x.k).isSome)]) rfl rfl rfl (Ex.move rfl rfl) ?_
    refine WL.op (v := .agg ((look ((normAt lb).map kvp) x.k).getD Vl.zero).enc) rfl rfl rfl (Ex.extract rfl rfl rfl) ?_
    refine WL.op (v := .bool ((look ((normAt lb).map kvp) x.k).isSome)) rfl rfl rfl (Ex.extract rfl rfl rfl) ?_
    refine WL.alloc zv67 hS rfl rfl rfl rfl (fun b178 W179 hS => ?_)
    refine WL.store tySz67 hS 0 rfl rfl rfl rfl rfl rfl rfl rfl rfl (C' := ((look ((normAt lb).map kvp) x.k).getD Vl.zero).enc) rfl ((b178, .cells ((look ((normAt lb).map kvp) x.k).getD Vl.zero).enc 67) :: (b174, .cells x.v.enc 67) :: (b171, .cells x.k.enc 61) :: (bx167, .cells #[s.v] 22) :: (b163, .cells #[.map (some bm159)] 82) :: (b161, .cells #[.map (some bf155)] 82) :: (bm159, ob) :: (bf155, ob156) :: it) rfl (fun W180 hS => ?_)
    refine WL.op (v := .bool ((look ((normAt lb).map kvp) x.k).isSome)) rfl rfl rfl (Ex.assign rfl rfl) ?_
    refine WL.nil ?_
    refine then_normal ?_
    refine WP.seq ?_
    refine WP.seq ?_
    refine WP.region ?_
    refine WL.op (v := .bool ((look ((normAt lb).map kvp) x.k).isSome)) rfl rfl rfl (Ex.move rfl rfl) ?_
    refine WL.op (v := .bool (!((look ((normAt lb).map kvp) x.k).isSome))) rfl rfl rfl (Ex.not rfl rfl) ?_
    refine WL.nil ?_
    refine then_normal ?_
    refine WP.cond (b := !((look ((normAt lb).map kvp) x.k).isSome)) rfl (fun hc181 => ?_) (fun hc181 => ?_)
    ·
      have hc182 : ((look ((normAt lb).map kvp) x.k).isSome) = false := by simpa using hc181
      refine WP.exit ?_
      refine then_exit (inBlock_same (?_))
      exact ⟨_, _, ⟨ob, rfl, rfl, by rw [meetL_skip hx170 hc182]; exact hm⟩, hS.drop 3 0⟩
    ·
      have hc183 : ((look ((normAt lb).map kvp) x.k).isSome) = true := by simpa using hc181
      refine WP.skip ?_
      refine then_normal ?_
      refine WP.seq ?_
      refine WP.seq ?_
      refine WP.region ?_
      refine WL.op (v := .agg x.v.enc) rfl rfl rfl (Ex.loadA tyAgg67 rfl rfl (Reads.of_block (hS.at 1 rfl) 0 x.v.enc.toList rfl) rfl) ?_
      refine WL.op (v := .agg ((look ((normAt lb).map kvp) x.k).getD Vl.zero).enc) rfl rfl rfl (Ex.loadA tyAgg67 rfl rfl (Reads.of_block (hS.at 0 rfl) 0 ((look ((normAt lb).map kvp) x.k).getD Vl.zero).enc.toList rfl) rfl) ?_
      refine WL.call rfl rfl rfl (enterS eg74 (args := [.agg x.v.enc, .agg ((look ((normAt lb).map kvp) x.k).getD Vl.zero).enc]) rfl rfl rfl rfl) (c_over x.v ((look ((normAt lb).map kvp) x.k).getD Vl.zero) _) ?_
      rintro e W184 ⟨rfl, hB⟩
      replace hS := hS.ext hB
      refine ⟨_, rfl, ?_⟩
      refine WL.nil ?_
      refine then_normal ?_
      refine WP.cond (b := x.v.over ((look ((normAt lb).map kvp) x.k).getD Vl.zero)) rfl (fun hc185 => ?_) (fun hc185 => ?_)
      ·
        refine WP.region ?_
        refine WL.op (v := .agg ((look ((normAt lb).map kvp) x.k).getD Vl.zero).enc) rfl rfl rfl (Ex.loadA tyAgg67 rfl rfl (Reads.of_block (hS.at 0 rfl) 0 ((look ((normAt lb).map kvp) x.k).getD Vl.zero).enc.toList rfl) rfl) ?_
        refine WL.store tySz67 hS 1 rfl rfl rfl rfl rfl rfl rfl rfl rfl (C' := ((look ((normAt lb).map kvp) x.k).getD Vl.zero).enc) rfl ((b178, .cells ((look ((normAt lb).map kvp) x.k).getD Vl.zero).enc 67) :: (b174, .cells ((look ((normAt lb).map kvp) x.k).getD Vl.zero).enc 67) :: (b171, .cells x.k.enc 61) :: (bx167, .cells #[s.v] 22) :: (b163, .cells #[.map (some bm159)] 82) :: (b161, .cells #[.map (some bf155)] 82) :: (bm159, ob) :: (bf155, ob156) :: it) rfl (fun W186 hS => ?_)
        refine WL.nil ?_
        refine then_normal ?_
        refine WP.region ?_
        refine WL.op (v := .map (some bm159)) rfl rfl rfl (Ex.load1 tyOne82 rfl rfl (Reads.of_block (hS.at 4 rfl) 0 [.map (some bm159)] rfl)) ?_
        refine WL.op (v := .agg x.k.enc) rfl rfl rfl (Ex.loadA tyAgg61 rfl rfl (Reads.of_block (hS.at 2 rfl) 0 x.k.enc.toList rfl) rfl) ?_
        refine WL.op (v := .agg ((look ((normAt lb).map kvp) x.k).getD Vl.zero).enc) rfl rfl rfl (Ex.loadA tyAgg67 rfl rfl (Reads.of_block (hS.at 1 rfl) 0 ((look ((normAt lb).map kvp) x.k).getD Vl.zero).enc.toList rfl) rfl) ?_
        refine WL.update (k := x.k) (v := (look ((normAt lb).map kvp) x.k).getD Vl.zero) hS 6 rfl hm rfl rfl rfl rfl rfl rfl (fun ob187 W188 hm189 hS => ?_)
        refine WL.nil ?_
        refine inBlock_normal ?_
        exact ⟨_, _, ⟨ob187, rfl, rfl, by rw [← meetL_next (normAt_rising la) hx170 hc183 (by rw [hc185])]; exact hm189⟩, hS.drop 3 0⟩
      ·
        refine WP.skip ?_
        refine then_normal ?_
        refine WP.region ?_
        refine WL.op (v := .map (some bm159)) rfl rfl rfl (Ex.load1 tyOne82 rfl rfl (Reads.of_block (hS.at 4 rfl) 0 [.map (some bm159)] rfl)) ?_
        refine WL.op (v := .agg x.k.enc) rfl rfl rfl (Ex.loadA tyAgg61 rfl rfl (Reads.of_block (hS.at 2 rfl) 0 x.k.enc.toList rfl) rfl) ?_
        refine WL.op (v := .agg x.v.enc) rfl rfl rfl (Ex.loadA tyAgg67 rfl rfl (Reads.of_block (hS.at 1 rfl) 0 x.v.enc.toList rfl) rfl) ?_
        refine WL.update (k := x.k) (v := x.v) hS 6 rfl hm rfl rfl rfl rfl rfl rfl (fun ob190 W191 hm192 hS => ?_)
        refine WL.nil ?_
        refine inBlock_normal ?_
        exact ⟨_, _, ⟨ob190, rfl, rfl, by rw [← meetL_next (normAt_rising la) hx170 hc183 (by rw [hc185])]; exact hm192⟩, hS.drop 3 0⟩
  ·
    rintro D W193 _ _ ⟨ob, rfl, rfl, hm⟩ hS
    rw [List.take_length] at hm
    refine inBlock_normal ?_
    refine then_normal ?_
    refine WP.seq ?_
    refine WP.region ?_
    refine WL.op (v := .map (some bm159)) rfl rfl rfl (Ex.load1 tyOne82 rfl rfl (Reads.of_block (hS.at 1 rfl) 0 [.map (some bm159)] rfl)) ?_
    refine WL.call rfl rfl rfl (enterS eg75 (args := [.map (some bm159)]) rfl rfl rfl rfl) (c_state _ (meetL (normAt la) ((normAt lb).map kvp)) _ _ (hS.at 3 rfl) hm (Nat.le_trans (meetL_length _ _) (Nat.le_trans (normAt_length la) hl))) ?_
    rintro e W196 ⟨v194, rfl, hB, hv', hn'⟩
    have hN195 : New w v194 := fun b hb => Nat.le_trans hS.bw.size (hn' b hb)
    replace hS := hS.newPin hB (pinSl v194 (meetAt la lb)) hv' hn'
    refine ⟨_, rfl, ?_⟩
    refine WL.op (v := v194) rfl rfl rfl (Ex.assign rfl rfl) ?_
    refine WL.nil ?_
    refine then_normal ?_
    refine WP.ret ?_
    refine ?_
    refine leaveM (v := v194) hS (i := 5) rfl (fun W197 hS => ?_)
    refine ⟨runs1 rfl rfl, ?_⟩
    exact ⟨_, rfl, hS.bw, hS.mem (.head _), hN195⟩
  ·
    exact fun _ _ _ _ _ h _ => h.elim
set_option maxRecDepth 100000 in
set_option maxHeartbeats 1000000 in
theorem c_leq0 (s t : Sv) (la lb : List At) (w : World) (ha : Sl w s.v la) (hb : Sl w t.v lb) (hl : la.length ≤ 1048576) (hl2 : lb.length ≤ 1048576) :
    Calls Try.prog 20 #[s.v, t.v] w fun e w' => e = .returned (.bool (leqAt la lb)) ∧ Bw w w' := by
  have hS := St.begin (w := w) (pins := pinSl s.v la :: pinSl t.v lb :: []) ⟨ha, hb, trivial⟩
  refine enterM (n := 30) Try.func20 rfl rfl (Nat.le_of_ble_eq_true rfl) (l := [(0, s.v), (1, t.v)]) rfl ?_
  refine WP.seq ?_
  refine WP.region ?_
  refine WL.alloc zv4 hS rfl rfl rfl rfl (fun b199 W200 hS => ?_)
  refine WL.nil ?_
  refine then_normal ?_
  refine WP.seq ?_
  refine WP.region ?_
  refine WL.op (v := t.v) rfl rfl rfl (Ex.move rfl rfl) ?_
  refine WL.call rfl rfl rfl (enterS eg72 (args := [t.v]) rfl rfl rfl rfl) (c_facts t lb _ (hS.mem (.tail _ (.head _))) (by first | omega | (simp; done) | (simp; omega))) ?_
  rintro e W204 ⟨bf201, ob202, rfl, hB, hb, hm203, hn⟩
  replace hS := hS.adopt hB hb hn
  refine ⟨_, rfl, ?_⟩
  refine WL.alloc zv82 hS rfl rfl rfl rfl (fun b205 W206 hS => ?_)
  refine WL.store tySz82 hS 0 rfl rfl rfl rfl rfl rfl rfl rfl rfl (C' := #[.map (some bf201)]) rfl ((b205, .cells #[.map (some bf201)] 82) :: (bf201, ob202) :: (b199, .cells #[.bool false] 4) :: []) rfl (fun W207 hS => ?_)
  refine WL.nil ?_
  refine then_normal ?_
  refine WP.seq ?_
  refine WP.seq ?_
  refine WP.region ?_
  refine WL.op (v := s.v) rfl rfl rfl (Ex.move rfl rfl) ?_
  refine WL.call rfl rfl rfl (enterS eg73 (args := [s.v]) rfl rfl rfl rfl) (c_each0 s _) ?_
  rintro e W209 ⟨bx208, rfl, hB, hb, hn⟩
  replace hS := hS.adopt hB hb hn
  refine ⟨_, rfl, ?_⟩
  refine WL.nil ?_
  refine then_normal ?_
  refine WP.block ?_
  refine WP.range (it_each bx208 s.v la (by omega)) rfl eg112 (fun _ => rfl) rfl hS (fun k co cp => co = [(bx208, .cells #[s.v] 22), (b205, .cells #[.map (some bf201)] 82), (bf201, ob202), (b199, .cells #[.bool false] 4)] ∧ cp = pinSl s.v la :: pinSl t.v lb :: [] ∧ (((normAt la).take k).all (belowM ((normAt lb).map kvp)) = true)) (fun c co cp => (c = .ret ∧ co = [(bx208, .cells #[s.v] 22), (b205, .cells #[.map (some bf201)] 82), (bf201, ob202), (b199, .cells #[.bool false] 4)] ∧ cp = pinSl s.v la :: pinSl t.v lb :: [] ∧ ((normAt la).all (belowM ((normAt lb).map kvp)) = false))) ⟨rfl, rfl, rfl⟩ (fun L D rl rd => ⟨List.mem_append_left _ (.head _), (.head _)⟩) ?_ ?_ ?_
  ·
    rintro k x L it ip _ _ W210 K hx211 ⟨rfl, rfl, hall⟩ hS hK
    have hkx := (List.getElem?_eq_some_iff.1 hx211).1
    refine WP.seq ?_
    refine WP.region ?_
    refine WL.alloc zv61 hS rfl rfl rfl rfl (fun b212 W213 hS => ?_)
    refine WL.store tySz61 hS 0 rfl rfl rfl rfl rfl rfl rfl rfl rfl (C' := x.k.enc) rfl ((b212, .cells x.k.enc 61) :: (bx208, .cells #[s.v] 22) :: (b205, .cells #[.map (some bf201)] 82) :: (bf201, ob202) :: (b199, .cells #[.bool false] 4) :: it) rfl (fun W214 hS => ?_)
    refine WL.nil ?_
    refine then_normal ?_
    refine WP.region ?_
    refine WL.alloc zv67 hS rfl rfl rfl rfl (fun b215 W216 hS => ?_)
    refine WL.store tySz67 hS 0 rfl rfl rfl rfl rfl rfl rfl rfl rfl (C' := x.v.enc) rfl ((b215, .cells x.v.enc 67) :: (b212, .cells x.k.enc 61) :: (bx208, .cells #[s.v] 22) :: (b205, .cells #[.map (some bf201)] 82) :: (bf201, ob202) :: (b199, .cells #[.bool false] 4) :: it) rfl (fun W217 hS => ?_)
    refine WL.nil ?_
    refine then_normal ?_
    refine hK _ _ [(b215, .cells x.v.enc 67), (b212, .cells x.k.enc 61), (bx208, .cells #[s.v] 22), (b205, .cells #[.map (some bf201)] 82), (bf201, ob202), (b199, .cells #[.bool false] 4)] [pinSl s.v la, pinSl t.v lb] hS (fun it W218 hS => ?_)
    refine WP.block ?_
    refine WP.seq ?_
    refine WP.region ?_
    refine WL.op (v := .map (some bf201)) rfl rfl rfl (Ex.load1 tyOne82 rfl rfl (Reads.of_block (hS.at 3 rfl) 0 [.map (some bf201)] rfl)) ?_
    refine WL.op (v := .agg x.k.enc) rfl rfl rfl (Ex.loadA tyAgg61 rfl rfl (Reads.of_block (hS.at 1 rfl) 0 x.k.enc.toList rfl) rfl) ?_
    refine WL.op (v := .tuple #[.agg ((look ((normAt lb).map kvp) x.k).getD Vl.zero).enc, .bool ((look ((normAt lb).map kvp) x.k).isSome)]) rfl rfl rfl (Ex.lookupM (hS.at 4 rfl) hm203 rfl rfl rfl) ?_
    refine WL.op (v := .tuple #[.agg ((look ((normAt lb).map kvp) x.k).getD Vl.zero).enc, .bool ((look ((normAt lb).map kvp) x.k).isSome)]) rfl rfl rfl (Ex.move rfl rfl) ?_
    refine WL.op (v := .agg ((look ((normAt lb).map kvp) x.k).getD Vl.zero).enc) rfl rfl rfl (Ex.extract rfl rfl rfl) ?_
    refine WL.op (v := .bool ((look ((normAt lb).map kvp) x.k).isSome)) rfl rfl rfl (Ex.extract rfl rfl rfl) ?_
    refine WL.alloc zv67 hS rfl rfl rfl rfl (fun b219 W220 hS => ?_)
    refine WL.store tySz67 hS 0 rfl rfl rfl rfl rfl rfl rfl rfl rfl (C' := ((look ((normAt lb).map kvp) x.k).getD Vl.zero).enc) rfl ((b219, .cells ((look ((normAt lb).map kvp) x.k).getD Vl.zero).enc 67) :: (b215, .cells x.v.enc 67) :: (b212, .cells x.k.enc 61) :: (bx208, .cells #[s.v] 22) :: (b205, .cells #[.map (some bf201)] 82) :: (bf201, ob202) :: (b199, .cells #[.bool false] 4) :: it) rfl (fun W221 hS => ?_)
    refine WL.op (v := .bool ((look ((normAt lb).map kvp) x.k).isSome)) rfl rfl rfl (Ex.assign rfl rfl) ?_
    refine WL.nil ?_
    refine then_normal ?_
    refine WP.seq ?_
    refine WP.region ?_
    refine WL.op (v := .bool ((look ((normAt lb).map kvp) x.k).isSome)) rfl rfl rfl (Ex.move rfl rfl) ?_
    refine WL.op (v := .bool (!((look ((normAt lb).map kvp) x.k).isSome))) rfl rfl rfl (Ex.not rfl rfl) ?_
    refine WL.op (v := .bool (!((look ((normAt lb).map kvp) x.k).isSome))) rfl rfl rfl (Ex.move rfl rfl) ?_
    rcases Bool.eq_false_or_eq_true (!((look ((normAt lb).map kvp) x.k).isSome)) with hg222 | hg222
    ·
      have hc223 : ((look ((normAt lb).map kvp) x.k).isSome) = false := by simpa using hg222
      refine WL.off (b' := true) rfl rfl rfl rfl rfl rfl (congrArg Value.bool hg222) rfl ?_
      refine WL.off (b' := true) rfl rfl rfl rfl rfl rfl (congrArg Value.bool hg222) rfl ?_
      refine WL.off (b' := true) rfl rfl rfl rfl rfl rfl (congrArg Value.bool hg222) rfl ?_
      refine WL.off (b' := true) rfl rfl rfl rfl rfl rfl (congrArg Value.bool hg222) rfl ?_
      refine WL.op (v := .bool true) rfl rfl rfl (Ex.pickT rfl (congrArg Value.bool hg222) rfl) ?_
      refine WL.nil ?_
      refine then_normal ?_
      refine WP.condT rfl ?_
      refine WP.seq ?_
      refine WP.region ?_
      refine WL.store tySz4 hS 6 rfl rfl rfl rfl rfl rfl rfl rfl rfl (C' := #[.bool false]) rfl ((b219, .cells ((look ((normAt lb).map kvp) x.k).getD Vl.zero).enc 67) :: (b215, .cells x.v.enc 67) :: (b212, .cells x.k.enc 61) :: (bx208, .cells #[s.v] 22) :: (b205, .cells #[.map (some bf201)] 82) :: (bf201, ob202) :: (b199, .cells #[.bool false] 4) :: it) rfl (fun W224 hS => ?_)
      refine WL.nil ?_
      refine then_normal ?_
      refine WP.ret ?_
      refine inBlock_ret (?_)
      exact ⟨_, _, ⟨rfl, rfl, rfl, all_not hx211 (belowM_none hc223)⟩, hS.drop 3 0⟩
    ·
      have hc225 : ((look ((normAt lb).map kvp) x.k).isSome) = true := by simpa using hg222
      refine WL.on rfl rfl rfl (congrArg Value.bool hg222) ?_
      refine WL.op (v := .agg ((look ((normAt lb).map kvp) x.k).getD Vl.zero).enc) rfl rfl rfl (Ex.loadA tyAgg67 rfl rfl (Reads.of_block (hS.at 0 rfl) 0 ((look ((normAt lb).map kvp) x.k).getD Vl.zero).enc.toList rfl) rfl) ?_
      refine WL.on rfl rfl rfl (congrArg Value.bool hg222) ?_
      refine WL.op (v := .agg x.v.enc) rfl rfl rfl (Ex.loadA tyAgg67 rfl rfl (Reads.of_block (hS.at 1 rfl) 0 x.v.enc.toList rfl) rfl) ?_
      refine WL.on rfl rfl rfl (congrArg Value.bool hg222) ?_
      refine WL.call rfl rfl rfl (enterS eg74 (args := [.agg ((look ((normAt lb).map kvp) x.k).getD Vl.zero).enc, .agg x.v.enc]) rfl rfl rfl rfl) (c_over ((look ((normAt lb).map kvp) x.k).getD Vl.zero) x.v _) ?_
      rintro e W226 ⟨rfl, hB⟩
      replace hS := hS.ext hB
      refine ⟨_, rfl, ?_⟩
      refine WL.on rfl rfl rfl (congrArg Value.bool hg222) ?_
      refine WL.op (v := .bool (!(((look ((normAt lb).map kvp) x.k).getD Vl.zero).over x.v))) rfl rfl rfl (Ex.not rfl rfl) ?_
      refine WL.op (v := .bool (!(((look ((normAt lb).map kvp) x.k).getD Vl.zero).over x.v))) rfl rfl rfl (Ex.pickF rfl (congrArg Value.bool hg222) rfl) ?_
      refine WL.nil ?_
      refine then_normal ?_
      refine WP.cond (b := !(((look ((normAt lb).map kvp) x.k).getD Vl.zero).over x.v)) rfl (fun hc227 => ?_) (fun hc227 => ?_)
      ·
        have hc228 : (((look ((normAt lb).map kvp) x.k).getD Vl.zero).over x.v) = false := by simpa using hc227
        refine WP.seq ?_
        refine WP.region ?_
        refine WL.store tySz4 hS 6 rfl rfl rfl rfl rfl rfl rfl rfl rfl (C' := #[.bool false]) rfl ((b219, .cells ((look ((normAt lb).map kvp) x.k).getD Vl.zero).enc 67) :: (b215, .cells x.v.enc 67) :: (b212, .cells x.k.enc 61) :: (bx208, .cells #[s.v] 22) :: (b205, .cells #[.map (some bf201)] 82) :: (bf201, ob202) :: (b199, .cells #[.bool false] 4) :: it) rfl (fun W229 hS => ?_)
        refine WL.nil ?_
        refine then_normal ?_
        refine WP.ret ?_
        refine inBlock_ret (?_)
        exact ⟨_, _, ⟨rfl, rfl, rfl, all_not hx211 ((belowM_some hc225).trans hc228)⟩, hS.drop 3 0⟩
      ·
        have hc230 : (((look ((normAt lb).map kvp) x.k).getD Vl.zero).over x.v) = true := by simpa using hc227
        refine WP.skip ?_
        refine inBlock_normal ?_
        exact ⟨_, _, ⟨rfl, rfl, all_next hx211 hall ((belowM_some hc225).trans hc230)⟩, hS.drop 3 0⟩
  ·
    rintro D W231 _ _ ⟨rfl, rfl, hall⟩ hS
    rw [List.take_length] at hall
    refine inBlock_normal ?_
    refine then_normal ?_
    refine WP.seq ?_
    refine WP.region ?_
    refine WL.store tySz4 hS 3 rfl rfl rfl rfl rfl rfl rfl rfl rfl (C' := #[.bool true]) rfl ((bx208, .cells #[s.v] 22) :: (b205, .cells #[.map (some bf201)] 82) :: (bf201, ob202) :: (b199, .cells #[.bool true] 4) :: (D, .deferred (some [])) :: []) rfl (fun W232 hS => ?_)
    refine WL.nil ?_
    refine then_normal ?_
    refine WP.ret ?_
    refine ?_
    refine leaveM (v := .bool true) hS (i := 4) rfl (fun W233 hS => ?_)
    refine ⟨runsC (v := .bool true) rfl tyOne4 rfl (Reads.of_block (hS.at 3 rfl) 0 _ rfl), ?_⟩
    exact ⟨by rw [show leqAt la lb = true from hall], hS.bw⟩
  ·
    rintro c D W234 _ _ ⟨rfl, rfl, rfl, hall⟩ hS
    refine WP.ret ?_
    refine inBlock_ret (then_ret (?_))
    refine leaveM (v := .bool false) hS (i := 4) rfl (fun W235 hS => ?_)
    refine ⟨runsC (v := .bool false) rfl tyOne4 rfl (Reads.of_block (hS.at 3 rfl) 0 _ rfl), ?_⟩
    exact ⟨by rw [show leqAt la lb = false from hall], hS.bw⟩
set_option maxRecDepth 100000 in
set_option maxHeartbeats 1000000 in
theorem c_same (v v2 : Value) (la lb : List At) (w : World) (ha : Sl w v la) (hb : Sl w v2 lb) (hl : la.length ≤ 1048576) (hl2 : lb.length ≤ 1048576) :
    Calls Try.prog 22 #[v, v2] w fun e w' => e = .returned (.bool (decide (normAt la = normAt lb))) ∧ Bw w w' := by
  have hS := St.begin (w := w) (pins := pinSl v la :: pinSl v2 lb :: []) ⟨ha, hb, trivial⟩
  refine enter (n := 10) Try.func22 rfl rfl (Nat.le_of_ble_eq_true rfl) (l := [(0, v), (1, v2)]) rfl ?_
  refine WP.seq ?_
  refine WP.region ?_
  refine WL.op (v := .bool false) rfl rfl rfl (Ex.assign rfl rfl) ?_
  refine WL.nil ?_
  refine then_normal ?_
  refine WP.seq ?_
  refine WP.region ?_
  refine WL.op (v := v) rfl rfl rfl (Ex.move rfl rfl) ?_
  refine WL.call rfl rfl rfl (enterS eg25 (args := [v]) rfl rfl rfl rfl) (c_norm _ la _ (hS.mem (.head _)) (by first | omega | (simp; done) | (simp; omega))) ?_
  rintro e W238 ⟨v236, rfl, hB, hv', hn'⟩
  have hN237 : New w v236 := fun b hb => Nat.le_trans hS.bw.size (hn' b hb)
  replace hS := hS.newPin hB (pinSl v236 (normAt la)) hv' hn'
  refine ⟨_, rfl, ?_⟩
  have hq239 := normAt_length la
  refine WL.op (v := v2) rfl rfl rfl (Ex.move rfl rfl) ?_
  refine WL.call rfl rfl rfl (enterS eg25 (args := [v2]) rfl rfl rfl rfl) (c_norm _ lb _ (hS.mem (.tail _ (.tail _ (.head _)))) (by first | omega | (simp; done) | (simp; omega))) ?_
  rintro e W242 ⟨v240, rfl, hB, hv', hn'⟩
  have hN241 : New w v240 := fun b hb => Nat.le_trans hS.bw.size (hn' b hb)
  replace hS := hS.newPin hB (pinSl v240 (normAt lb)) hv' hn'
  refine ⟨_, rfl, ?_⟩
  have hq243 := normAt_length lb
  refine WL.call rfl rfl rfl (enterS eg78 (args := [v236, v240]) rfl rfl rfl rfl) (c_equal _ _ (normAt la) (normAt lb) _ (hS.mem (.tail _ (.head _))) (hS.mem (.head _))) ?_
  rintro e W244 ⟨rfl, hB⟩
  replace hS := hS.ext hB
  refine ⟨_, rfl, ?_⟩
  refine WL.op (v := .bool (decide (normAt la = normAt lb))) rfl rfl rfl (Ex.assign rfl rfl) ?_
  refine WL.nil ?_
  refine then_normal ?_
  refine WP.ret ?_
  refine ?_
  refine rt1 (v := .bool (decide (normAt la = normAt lb))) rfl rfl ?_
  exact ⟨rfl, hS.bw⟩
theorem c_meet (v v2 : Value) (la lb : List At) (w : World) (ha : Sl w v la) (hb : Sl w v2 lb) (hl : la.length ≤ 1048576) (hl2 : lb.length ≤ 1048576) : Calls Try.prog 18 #[v, v2] w fun e w' => ∃ v', e = .returned v' ∧ Bw w w' ∧ Sl w' v' (meetAt la lb) ∧ New w v' := by
  obtain ⟨p, cap, rfl⟩ := ha.len
  obtain ⟨p2, cap2, rfl⟩ := hb.len
  exact c_meet0 ⟨p, la.length, cap⟩ ⟨p2, lb.length, cap2⟩ la lb w ha hb hl hl2
theorem c_leq (v v2 : Value) (la lb : List At) (w : World) (ha : Sl w v la) (hb : Sl w v2 lb) (hl : la.length ≤ 1048576) (hl2 : lb.length ≤ 1048576) : Calls Try.prog 20 #[v, v2] w fun e w' => e = .returned (.bool (leqAt la lb)) ∧ Bw w w' := by
  obtain ⟨p, cap, rfl⟩ := ha.len
  obtain ⟨p2, cap2, rfl⟩ := hb.len
  exact c_leq0 ⟨p, la.length, cap⟩ ⟨p2, lb.length, cap2⟩ la lb w ha hb hl hl2
end Go.Proofs.Ythidakffgcjjiaa
