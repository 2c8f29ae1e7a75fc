/- Ranges over functions: what an iterator's contract says, the rule for the statement, and how a function that holds one is left. -/
import Derived.Test.YthidakffgcjjiaaRule
import Derived.RangeFuncLeaves
import Derived.RangeFuncRecord
namespace Go.Proofs.Ythidakffgcjjiaa
open Go.RowKit Go.Sort

/-- A call of a loop's yield: the round comes to its end, and hands back whether the loop goes on. -/
def RoundCall (L : Nat) (args : List Value) (W : World) (R : Bool → World → Prop) : Prop :=
  ∃ f tmps assign body, (Instr.yield L args.toArray).run Try.prog W = .ok (.round L f tmps assign body) W ∧ RoundIn (FW none) 0 Try.prog L f tmps assign body W (fun e W' => ∃ b, e = .returned (.bool b) ∧ R b W')
theorem round_in {r : Option Nat} {m L : Nat} {f : FuncId} {tmps : Array Value} {assign body : Code} {W : World} {R : Ending → World → Prop} (h : RoundIn (FW none) 0 Try.prog L f tmps assign body W R) : RoundIn (FW r) m Try.prog L f tmps assign body W R :=
  ⟨trivial, fun c cs _ => h.2 c cs (FW_room _ _)⟩

/-- An iterator: it calls yield with each of xs in turn, until yield says no; the caller's blocks and pins go through. -/
def Iter (gf : FuncId) (lb : List Value) {α : Type} (enc : α → List Value) (xs : List α) (pre : List (Nat × Obj) → List Pin → Prop) : Prop :=
  ∀ (L : Nat) (I : Nat → List (Nat × Obj) → List Pin → Prop) (Ix : List (Nat × Obj) → List Pin → Prop) (w0 W : World) (co : List (Nat × Obj)) (cp : List Pin), pre co cp → I 0 co cp → St w0 co cp W →
    (∀ i a it ip co cp W2, xs[i]? = some a → I i co cp → St w0 (it ++ co) (ip ++ cp) W2 →
      RoundCall L (enc a) W2 (fun b W3 => ∃ co' cp', (if b then I (i + 1) co' cp' else Ix co' cp') ∧ St w0 (it ++ co') (ip ++ cp') W3)) →
    Calls Try.prog gf (#[.func (.yield L) #[] #[]] ++ lb.toArray) W (fun e W' => e = .returned (.tuple #[]) ∧ ∃ co' cp', (I xs.length co' cp' ∨ Ix co' cp') ∧ St w0 co' cp' W')

section
variable {r : Option Nat} {ops : Array Oper} {Q : Post} {rest : List Oper} {o : Oper} {n : Nat} {ds : List Deferred} {l : Fr} {W W' w0 : World} {own : List (Nat × Obj)} {pins : List Pin} {d : Nat} {x y : Operand} {T : TypeId}

theorem WL.yield {L : Nat} {c : Call} {vs : List Value} {R : Bool → World → Prop} (hg : o.guard = none) (hd : o.dst = some d) (hn : Nat.blt d n = true) (ho : o.op = .call c) (hc : c.callee = .value x) (hx : ev n l x = .func (.yield L) #[] #[]) (ha : c.args.toList.map (ev n l) = vs)
    (hR : RoundCall L vs W R) (hK : ∀ b W', R b W' → WL r ops Q rest (fr n ds ((d, .bool b) :: l)) W') : WL r ops Q (o :: rest) (fr n ds l) W := by
  obtain ⟨f, tmps, assign, body, hy, hr⟩ := hR
  have h1 : c.args.map (ev n l) = vs.toArray := by subst ha; apply Array.ext'; simp
  have hrun : (execOp (ev n l) o).run Try.prog W = .ok (.round L f tmps assign body) W := by
    simp [execOp, ho, resolve, hc, h1, Deferred.ofValue, invoke, hx, hy]
  refine WL.plain hg fun K hKK => ⟨fun _ _ => trivial, ?_⟩
  have h2 := Ex.semAt (FW r).round (fun d => by simp) hrun
  rw [fr_eval, h2]
  refine ⟨fun hd => by simp [FW] at hd, (round_in hr).mono fun e w' he => ?_⟩
  obtain ⟨b, rfl, hb⟩ := he
  have := hKK _ _ (hK b w' hb)
  rw [hd]
  show K ((fr n ds l).put (some d) (.bool b)) w'
  rw [fr_put hn]
  exact this

theorem St.putObj {L : Nat} {o o' : Obj} (h : St w0 own pins W) (i : Nat) (hi : own[i]? = some (L, o)) : St w0 (own.set i (L, o')) pins (W.putObj L o') := by
  refine h.turn i hi rfl rfl rfl ?_ ?_ ?_
  · simp
  · intro k hk; exact World.putObj_heap_other hk
  · exact World.putObj_heap_same (h.at_lt i hi)

/-- The parameters of a round laid into the frame. -/
def putPs : List (Nat × Value) → Fr → Fr
  | [], l => l
  | p :: ps, l => putPs ps ((p.1, p.2) :: l)
theorem foldl_fr : ∀ (ps : List (Nat × Value)) (l : Fr), (ps.all fun p => Nat.blt p.1 n) = true →
    ({ tmps := ps.foldl (fun (tmps : Array Value) (p : Nat × Value) => tmps.setIfInBounds p.1 p.2) (fr n ds l).tmps, defers := [] } : Act) = fr n [] (putPs ps l)
  | [], l, _ => rfl
  | p :: ps, l, h => by
    simp only [List.all_cons, Bool.and_eq_true] at h
    rw [List.foldl_cons, putPs, ← foldl_fr ps _ h.2]
    have := congrArg Act.tmps (fr_put (ds := ds) (l := l) (v := p.2) h.1)
    simp only [Act.put] at this
    rw [this]

/-- How a round's body is left. -/
def rangeQ (w0 : World) (J : List (Nat × Obj) → List Pin → Prop) (Jx : Code → List (Nat × Obj) → List Pin → Prop) (it : List (Nat × Obj)) (ip : List Pin) : Post
  | .normal, _, W => ∃ co cp, J co cp ∧ St w0 (co ++ it) (cp ++ ip) W
  | .ret, _, W => ∃ co cp, Jx .ret co cp ∧ St w0 (co ++ it) (cp ++ ip) W
  | .exit id, _, W => ∃ co cp, Jx (.exit id) co cp ∧ St w0 (co ++ it) (cp ++ ip) W
  | .goto t, _, W => ∃ co cp, Jx (.goto t) co cp ∧ St w0 (co ++ it) (cp ++ ip) W
  | _, _, _ => False

theorem St.swap {own' : List (Nat × Obj)} {pins' : List Pin} (h : St w0 (own ++ own') (pins ++ pins') W) : St w0 (own' ++ own) (pins' ++ pins) W :=
  (h.perm (List.perm_append_comm)).sub (List.Sublist.refl _) (fun p hp => by
    rw [List.mem_append] at hp ⊢; exact hp.symm)

/-- **THE STATEMENT.** -/
theorem WP.range {α : Type} {g : Operand} {ps : Array Tmp} {assign body : Code} {gf : FuncId} {lb : List Value} {enc : α → List Value} {xs : List α} {pre : List (Nat × Obj) → List Pin → Prop}
    (hit : Iter gf lb enc xs pre) (hg : ev n l g = .func (.func gf) #[] lb.toArray) (heg : ∀ args w, (callFunc gf args).run Try.prog w = .ok (.enter gf args) w) (henc : ∀ a, (enc a).length = ps.toList.length) (hps : (ps.toList.all fun p => Nat.blt p n) = true)
    (hS : St w0 own pins W) (J : Nat → List (Nat × Obj) → List Pin → Prop) (Jx : Code → List (Nat × Obj) → List Pin → Prop) (h0 : J 0 own pins) (hpre : ∀ L D rl rd, pre (own ++ [(L, rl), (D, rd)]) pins)
    (round : ∀ i a L it ip co cp W (K : Act → World → Prop), xs[i]? = some a → J i co cp → St w0 (co ++ it) (cp ++ ip) W →
      (∀ a1 W1 co1 cp1, St w0 (co1 ++ it) (cp1 ++ ip) W1 → (∀ it' W1', St w0 (co1 ++ it') (cp1 ++ ip) W1' → WP (some L) body (rangeQ w0 (J (i + 1)) Jx it' ip) a1 W1') → K a1 W1) →
      WP (some L) assign (Exit.then K (fun _ _ _ => False)) (fr n [] (putPs (ps.toList.zip (enc a)) l)) W)
    (done : ∀ D W co cp, J xs.length co cp → St w0 (co ++ [(D, .deferred (some []))]) cp W → Q .normal (fr n ({ target := .collected D, args := #[] } :: ds) l) W)
    (stop : ∀ c D W co cp, Jx c co cp → St w0 (co ++ [(D, .deferred (some []))]) cp W → WP none c Q (fr n ({ target := .collected D, args := #[] } :: ds) l) W) :
    WP none (.rangeFunc g ps assign body) Q (fr n ds l) W := by
  refine wpIn_rangeFunc ?_
  intro fn hfn
  obtain ⟨rec, hrec⟩ : ∃ rec : LoopState → Option Code → Loop, rec = fun st pe => { state := st, pending := pe, fn, tmps := (fr n ds l).tmps, params := ps, assign, body, defers := W.heap.size } := ⟨_, rfl⟩
  obtain ⟨D, hD⟩ : ∃ D, W.heap.size = D := ⟨_, rfl⟩
  obtain ⟨L, hL⟩ : ∃ L, W.heap.size + 1 = L := ⟨_, rfl⟩
  obtain ⟨W1, hW1⟩ : ∃ W1, (W.alloc (.deferred (some []))).alloc (.loop (rec .ready none)) = W1 := ⟨_, rfl⟩
  have hS1 : St w0 (own ++ [(L, .loop (rec .ready none)), (D, .deferred (some []))]) pins W1 := by
    have := (hS.alloc (.deferred (some []))).alloc (.loop (rec .ready none))
    rw [World.size_alloc, hW1, hD] at this
    rw [hD] at hL
    rw [hL] at this
    exact this.perm (by
      have : [(L, Obj.loop (rec .ready none)), (D, .deferred (some []))] ++ own = (L, Obj.loop (rec .ready none)) :: (D, .deferred (some [])) :: own := rfl
      rw [← this]; exact List.perm_append_comm)
  refine ⟨L, [{ target := .collected D, args := #[] }], W1, { target := .fn (.func gf) lb.toArray, args := #[.func (.yield L) #[] #[]] }, W1, gf, #[.func (.yield L) #[] #[]] ++ lb.toArray, W1, ?_, ?_, fun _ _ => trivial, ?_, fun h => by simp [FW] at h, ?_⟩
  · rw [← hW1, hrec, ← hL, ← hD]; exact run_enterLoop_outer _ _ _ _ _
  · simp only [resolve, fr_eval, hg]
    simp [go_sem]
    rfl
  · simp [invoke, heg]
  refine calls_in ((hit L (fun i co cp => ∃ co0, co = co0 ++ [(L, .loop (rec .ready none)), (D, .deferred (some []))] ∧ J i co0 cp) (fun co cp => ∃ co0 c, co = co0 ++ [(L, .loop (rec .done (some c))), (D, .deferred (some []))] ∧ Jx c co0 cp) w0 W1 _ pins (hpre _ _ _ _) ⟨own, rfl, h0⟩ hS1 ?_).mono ?_)
  · -- a round
    rintro i a it ip _ cp W2 hi ⟨co, rfl, hJ⟩ hS2
    have hl : W2.heap[L]? = some (.loop (rec .ready none)) := hS2.at (it.length + co.length) (by simp)
    have hsz : (enc a).toArray.size = (rec .ready none).params.size := by rw [hrec]; simp [henc]
    have hy := run_yield (P := Try.prog) hl hsz
    rw [hrec] at hy
    have hzip : (ps.zip (enc a).toArray).foldl (fun (tmps : Array Value) (p : Tmp × Value) => tmps.setIfInBounds p.1 p.2) (fr n ds l).tmps = (ps.toList.zip (enc a)).foldl (fun (tmps : Array Value) (p : Nat × Value) => tmps.setIfInBounds p.1 p.2) (fr n ds l).tmps := by
      rw [← Array.foldl_toList]
      simp
    refine ⟨fn, _, assign, body, hy, roundIn_of_wpIn hfn ?_⟩
    rw [show ((FW none).inRound L) = FW (some L) from rfl]
    have hfr := foldl_fr (n := n) (ds := ds) (ps.toList.zip (enc a)) l (by
      rw [List.all_eq_true]
      intro p hp
      exact List.all_eq_true.1 hps p.1 (List.of_mem_zip hp).1)
    have hS3 : St w0 (co ++ ([(L, .loop (rec .ready none)), (D, .deferred (some []))] ++ it)) (cp ++ ip) W2 := by
      have := hS2.swap
      rwa [List.append_assoc] at this
    have hfr' : ({ tmps := (ps.zip (enc a).toArray).foldl (fun (tmps : Array Value) (p : Tmp × Value) => tmps.setIfInBounds p.1 p.2) (fr n ds l).tmps, defers := [] } : Act) = fr n [] (putPs (ps.toList.zip (enc a)) l) := by rw [hzip]; exact hfr
    have hw := round i a L _ ip co cp W2 (fun a₁ w₁ => ∃ w₂, (Instr.beginRound L).run Try.prog w₁ = .ok () w₂ ∧ body.wpIn (FW (some L)) 0 Try.prog (roundPost Try.prog L (fun e W' => ∃ b, e = .returned (.bool b) ∧ ∃ co' cp', (if b = true then ∃ co0, co' = co0 ++ [(L, .loop (rec .ready none)), (D, .deferred (some []))] ∧ J (i + 1) co0 cp' else ∃ co0 c, co' = co0 ++ [(L, .loop (rec .done (some c))), (D, .deferred (some []))] ∧ Jx c co0 cp') ∧ St w0 (it ++ co') (ip ++ cp') W')) a₁ w₂) hi hJ hS3 ?_
    · refine Go.wpIn_mono (F := FW (some L)) (n := 0) (P := Try.prog) (show assign.wpIn (FW (some L)) 0 Try.prog _ _ W2 from ?_) (fun e a w q => q)
      rw [show ((ps.zip (enc a).toArray).foldl (fun (x : Array Value) (p : Tmp × Value) => match p with | (t, a) => x.setIfInBounds t a) (fr n ds l).tmps) = ((ps.zip (enc a).toArray).foldl (fun (tmps : Array Value) (p : Tmp × Value) => tmps.setIfInBounds p.1 p.2) (fr n ds l).tmps) from rfl] 
      rw [hfr']
      exact hw
    · intro a1 Wa co1 cp1 hSa hbody
      have hia : (co1 ++ ([(L, .loop (rec .ready none)), (D, .deferred (some []))] ++ it))[co1.length]? = some (L, .loop (rec .ready none)) := by simp
      have hla := hSa.at co1.length hia
      refine ⟨_, run_beginRound hla (by rw [hrec]), ?_⟩
      have hSb := hSa.putObj (o' := .loop { rec .ready none with state := .busy }) co1.length hia
      have hset : (co1 ++ ([(L, Obj.loop (rec .ready none)), (D, .deferred (some []))] ++ it)).set co1.length (L, .loop { rec .ready none with state := .busy }) = co1 ++ ((L, .loop { rec .ready none with state := .busy }) :: (D, .deferred (some [])) :: it) := by
        rw [List.set_append_right _ _ (Nat.le_refl _)]; simp
      rw [hset] at hSb
      refine Go.wpIn_mono (hbody _ _ hSb) ?_
      have fin : ∀ (jump : Option Code) (W3 : World) (co' : List (Nat × Obj)) (cp' : List Pin), St w0 (co' ++ ((L, .loop { rec .ready none with state := .busy }) :: (D, .deferred (some [])) :: it)) (cp' ++ ip) W3 →
          ∃ v W4, (Instr.endRound L jump).run Try.prog W3 = .ok v W4 ∧ v = .bool jump.isNone ∧ St w0 (it ++ (co' ++ [(L, .loop (rec (if jump.isNone then .ready else .done) jump)), (D, .deferred (some []))])) (ip ++ cp') W4 := by
        intro jump W3 co' cp' h3
        have hi3 : (co' ++ ((L, .loop { rec .ready none with state := .busy }) :: (D, .deferred (some [])) :: it))[co'.length]? = some (L, .loop { rec .ready none with state := .busy }) := by simp
        have hl3 := h3.at co'.length hi3
        have hr := run_endRound (P := Try.prog) jump hl3
        refine ⟨_, _, hr, rfl, ?_⟩
        have h4 := h3.putObj (o' := .loop { ({ rec .ready none with state := .busy } : Loop) with state := if jump.isNone then .ready else .done, pending := jump }) co'.length hi3
        rw [List.set_append_right _ _ (Nat.le_refl _)] at h4
        simp only [Nat.sub_self, List.set_cons_zero] at h4
        have h5 : St w0 ((co' ++ [(L, .loop (rec (if jump.isNone then .ready else .done) jump)), (D, .deferred (some []))]) ++ it) (cp' ++ ip) (W3.putObj L (.loop { ({ rec .ready none with state := .busy } : Loop) with state := if jump.isNone then .ready else .done, pending := jump })) := by
          rw [List.append_assoc]
          rw [hrec] at h4 ⊢
          exact h4
        exact h5.swap
      rintro e a3 W3 hp
      cases e with
      | normal =>
        obtain ⟨co', cp', hj, h3⟩ := hp
        obtain ⟨v, W4, hr, rfl, h4⟩ := fin none W3 co' cp' h3
        exact ⟨_, W4, hr, true, rfl, _, cp', ⟨co', rfl, hj⟩, h4⟩
      | ret =>
        obtain ⟨co', cp', hj, h3⟩ := hp
        obtain ⟨v, W4, hr, rfl, h4⟩ := fin (some .ret) W3 co' cp' h3
        exact ⟨_, W4, hr, false, rfl, _, cp', ⟨co', _, rfl, hj⟩, h4⟩
      | exit id =>
        obtain ⟨co', cp', hj, h3⟩ := hp
        obtain ⟨v, W4, hr, rfl, h4⟩ := fin (some (.exit id)) W3 co' cp' h3
        exact ⟨_, W4, hr, false, rfl, _, cp', ⟨co', _, rfl, hj⟩, h4⟩
      | goto t =>
        obtain ⟨co', cp', hj, h3⟩ := hp
        obtain ⟨v, W4, hr, rfl, h4⟩ := fin (some (.goto t)) W3 co' cp' h3
        exact ⟨_, W4, hr, false, rfl, _, cp', ⟨co', _, rfl, hj⟩, h4⟩
      | panic ch => exact hp.elim
      | outgrown => exact hp.elim
  · -- behind the iterator
    rintro e W2 ⟨rfl, co', cp', (⟨co, rfl, hj⟩ | ⟨co, c, rfl, hj⟩), hS2⟩
    · have hi2 : (co ++ [(L, Obj.loop (rec .ready none)), (D, .deferred (some []))])[co.length]? = some (L, .loop (rec .ready none)) := by simp
      have hl2 := hS2.at co.length hi2
      refine ⟨none, _, by have := run_endLoop (P := Try.prog) hl2 (by rw [hrec]; simp); rw [hrec] at this; exact this, ?_⟩
      have h3 := hS2.putObj (o' := .loop { rec .ready none with state := .exhausted }) co.length hi2
      rw [List.set_append_right _ _ (Nat.le_refl _)] at h3
      simp only [Nat.sub_self, List.set_cons_zero] at h3
      rw [hrec] at h3
      exact done D _ co cp' hj (h3.sub (List.Sublist.append_left (List.sublist_cons_self _ _) _) (fun p hp => hp))
    · have hi2 : (co ++ [(L, Obj.loop (rec .done (some c))), (D, .deferred (some []))])[co.length]? = some (L, .loop (rec .done (some c))) := by simp
      have hl2 := hS2.at co.length hi2
      refine ⟨some c, _, by have := run_endLoop (P := Try.prog) hl2 (by rw [hrec]; simp); rw [hrec] at this; exact this, ?_⟩
      have h3 := hS2.putObj (o' := .loop { rec .done (some c) with state := .exhausted }) co.length hi2
      rw [List.set_append_right _ _ (Nat.le_refl _)] at h3
      simp only [Nat.sub_self, List.set_cons_zero] at h3
      rw [hrec] at h3
      exact stop c D _ co cp' hj (h3.sub (List.Sublist.append_left (List.sublist_cons_self _ _) _) (fun p hp => hp))

/-! ### Functions that hold such a loop -/
theorem enterM {f : FuncId} {fn : Func} {c : Code} {args : Array Value} {w : World} {R : Ending → World → Prop} (hf : Try.prog.funcs[f]? = some fn) (hb : fn.body = some c) {n : Nat} (hn : fn.ntmps = n) (ha : args.size ≤ n)
    {l : Fr} (hl : (args.toList.zipIdx.map fun p => (p.2, p.1)) = l) (h : WP none c (bodyPostM (FW none) 0 Try.prog fn R) (fr n [] l) w) : Calls Try.prog f args w R := by
  refine callsIn_wide (n := 0) |>.1 (callsIn_of_wp_marks (F := Fence.wide) hf hb trivial ?_)
  subst hn hl
  rw [fr_init _ _ ha]
  exact h
/-- Its end: what the results are, behind the last mark. -/
theorem leaveM {fn : Func} {D i : Nat} {R : Ending → World → Prop} {v : Value} (hS : St w0 own pins W) (hi : own[i]? = some (D, .deferred (some [])))
    (hr : ∀ W', St w0 (own.set i (D, .deferred none)) pins W' → (results fn (fr n [{ target := .collected D, args := #[] }] l).tmps).run Try.prog W' = .ok v W' ∧ R (.returned v) W') :
    bodyPostM (FW none) 0 Try.prog fn R .ret (fr n [{ target := .collected D, args := #[] }] l) W := by
  have ht := run_takeDeferred (P := Try.prog) (hS.at i hi)
  obtain ⟨h1, h2⟩ := hr _ (hS.putObj i hi)
  exact ⟨by simp, .inl ⟨D, _, rfl, ht, v, h1, h2⟩⟩
theorem leaveMn {fn : Func} {D i : Nat} {R : Ending → World → Prop} {v : Value} (hS : St w0 own pins W) (hi : own[i]? = some (D, .deferred (some [])))
    (hr : ∀ W', St w0 (own.set i (D, .deferred none)) pins W' → (results fn (fr n [{ target := .collected D, args := #[] }] l).tmps).run Try.prog W' = .ok v W' ∧ R (.returned v) W') :
    bodyPostM (FW none) 0 Try.prog fn R .normal (fr n [{ target := .collected D, args := #[] }] l) W := leaveM hS hi hr
theorem runs1 {fn : Func} {t : Nat} {v : Value} (hr : fn.results = #[.tmp t]) (hv : ev n l (.tmp t) = v) : (results fn (fr n ds l).tmps).run Try.prog W = .ok v W := by rw [results_tmp hr, fr_getD, hv]
theorem runs2 {fn : Func} {t t' : Nat} {v v' : Value} (hr : fn.results = #[.tmp t, .tmp t']) (hv : ev n l (.tmp t) = v) (hv' : ev n l (.tmp t') = v') : (results fn (fr n ds l).tmps).run Try.prog W = .ok (.tuple #[v, v']) W := by rw [results_tmp2 hr, fr_getD, fr_getD, hv, hv']
theorem runs0 {fn : Func} (hr : fn.results = #[]) : (results fn (fr n ds l).tmps).run Try.prog W = .ok (.tuple #[]) W := results_none hr _ _ _
/-- A result that lies in a cell. -/
theorem runsC {fn : Func} {t b : Nat} {T : TypeId} {v : Value} (hr : fn.results = #[.cell t T]) (hT : TyOne T) (hv : ev n l (.tmp t) = .pointer (some ⟨b, 0, none⟩)) (hc : Reads W b 0 [v]) : (results fn (fr n ds l).tmps).run Try.prog W = .ok v W := by
  unfold results
  rw [hr]
  have h0 : (fr n ds l).tmps[t]?.getD undef = .pointer (some ⟨b, 0, none⟩) := by rw [← Array.getD_eq_getD_getElem?, fr_getD, hv]
  simp [h0, asAddr, loadVar_one hT hc]
end
end Go.Proofs.Ythidakffgcjjiaa
