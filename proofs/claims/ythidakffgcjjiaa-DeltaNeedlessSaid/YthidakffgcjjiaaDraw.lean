/- Regions that draw their order, for rounds of ranges over functions too: the text of Soft once more, over the fenced layer's words and 'Bw'. -/
import Derived.Test.YthidakffgcjjiaaSoft
import Derived.Test.YthidakffgcjjiaaEng
namespace Go.Proofs.Ythidakffgcjjiaa
open Go.RowKit Go.Sort

section
variable {P : Program} {ops : Array Oper} {Q : Exit → Act → World → Prop} {md : Region.Mode} {r : Option Nat}
theorem calls_in' {n : Nat} {f : FuncId} {args : Array Value} {w : World} {R : Ending → World → Prop} (h : Calls P f args w R) : CallsIn (FW r) n P f args w R := (callsIn_wide (n := n)).2 h
theorem wpAnyIn_of_seq {Q' : Exit → Act → World → Prop} : ∀ (l : List Oper) (k : Nat) (listed : Array Bool) (a : Act) (w : World), (∀ j, l[j]? = ops[k + j]?) →
    Region.seqB md ops l.length k listed = true → wpListIn (FW r) 0 P ops Q' l a w → wpAnyIn (FW r) 0 P md ops Q' l.length listed a w
  | [], _, _, _, _, _, hB, h => ⟨by simpa [Region.seqB] using hB, h⟩
  | o :: l, k, listed, a, w, hl, hB, h => by
    have h0 : ops[k]? = some o := by simpa using (hl 0).symm
    simp only [List.length_cons, Region.seqB, Bool.and_eq_true, decide_eq_true_eq] at hB
    refine ⟨fun h1 => (by rw [hB.1] at h1; cases h1), fun i hi => ?_⟩
    rw [hB.1] at hi
    have hik : i = k := by simpa using hi
    subst hik
    have hw : wpOpIn (FW r) 0 P ops Q' i (wpListIn (FW r) 0 P ops Q' l) a w := by unfold wpOpIn; simp only [h0]; exact h
    exact wpOpIn_mono (fun a' w' h' => wpAnyIn_of_seq l (i + 1) _ a' w' (fun j => by have := hl (j + 1); simpa [Nat.add_assoc, Nat.add_comm 1 j] using this) hB.2 h') hw
/-- Of two operations the one was carried out when of the other's value its fact held already. -/
def DrPair (R N : Nat → Value → World → Prop) (w0 : World) (vs : Nat → Value) (i j : Nat) : Prop :=
  (∃ W, Bw w0 W ∧ R j (vs j) W ∧ N i (vs i) W) ∨ (∃ W, Bw w0 W ∧ R i (vs i) W ∧ N j (vs j) W)

structure DrInv (ops : Array Oper) (n : Nat) (R N : Nat → Value → World → Prop) (a0 : Act) (w0 : World) (vs : Nat → Value) (listed : Array Bool) (a : Act) (w : World) : Prop where
  head : HeadInv .any ops n listed
  ext : Bw w0 w
  frame : a = putAll ops vs listed (List.range n) a0
  facts : ∀ i, i < n → listed.getD i false = true → R i (vs i) w
  pairs : ∀ i j, i < n → j < n → i ≠ j → listed.getD i false = true → listed.getD j false = true → DrPair R N w0 vs i j

/-- The obligation for one operation. -/
def DrOp (r : Option Nat) (P : Program) (ops : Array Oper) (Q : Exit → Act → World → Prop) (n : Nat) (R N : Nat → Value → World → Prop) (a0 : Act) (w0 : World) (i : Nat) : Prop :=
  ∀ (a : Act) (w : World) (vs : Nat → Value), Bw w0 w → (∀ t, (∀ j, j < n → rdst ops j ≠ some t) → a.tmps[t]? = a0.tmps[t]?) →
    (∀ j, predB ops i j = true → R j (vs j) w ∧ ∀ t, rdst ops j = some t → a.tmps[t]? = some (vs j)) →
    wpOpIn (FW r) 0 P ops Q i (fun a' w' => ∃ v, a' = a.put (rdst ops i) v ∧ Bw w w' ∧ R i v w' ∧ N i v w) a w

theorem wpAnyIn_soft {n : Nat} {R N : Nat → Value → World → Prop} {a0 : Act} {w0 : World} (hB : softB ops n = true)
    (hR : ∀ i v w w', Bw w0 w → Bw w w' → R i v w → R i v w') (hop : ∀ i, i < n → DrOp r P ops Q n R N a0 w0 i)
    (hsz : ∀ i, i < n → ∀ d, rdst ops i = some d → d < a0.tmps.size)
    (hend : ∀ (vs : Nat → Value) (w : World), Bw w0 w → (∀ i, i < n → R i (vs i) w) → (∀ i j, i < n → j < n → i ≠ j → DrPair R N w0 vs i j) → wpListIn (FW r) 0 P ops Q (ops.toList.drop n) (putVals ops vs (List.range n) a0) w) :
    ∀ (f : Nat) (listed : Array Bool) (a : Act) (w : World) (vs : Nat → Value), unl listed n = f → DrInv ops n R N a0 w0 vs listed a w → wpAnyIn (FW r) 0 P .any ops Q (f + (ops.size - n)) listed a w := by
  simp only [softB, Bool.and_eq_true, Bool.or_eq_true, decide_eq_true_eq] at hB
  obtain ⟨⟨⟨⟨hn, hback⟩, hdst⟩, htail⟩, hseq⟩ := hB
  have hdd : ∀ i j, i < n → j < n → j ≠ i → ∀ d, rdst ops j = some d → rdst ops i ≠ some d := by
    intro i j hi hj hne d hd hd'
    have h1 := List.all_eq_true.1 (List.all_eq_true.1 hdst i (List.mem_range.2 hi)) j (List.mem_range.2 hj)
    simp [hd, hd', Ne.symm hne] at h1
  intro f
  induction f with
  | zero =>
    intro listed a w vs hu inv
    have hall := unl_zero (by rw [inv.head.size]; exact hn) hu
    have hlist : listed = firstTrue n ops.size := by
      apply Array.ext
      · simp [firstTrue, inv.head.size]
      · intro i h1 h2
        have h1' : i < ops.size := by rw [← inv.head.size]; exact h1
        by_cases hin : i < n
        · have := hall i hin
          simp [h1] at this
          simp [firstTrue, this, hin]
        · have := inv.head.tail i (by omega) h1'
          simp [h1] at this
          simp [firstTrue, this]
          omega
    rw [Nat.zero_add]
    have hw := hend vs w inv.ext (fun i hi => inv.facts i hi (hall i hi)) (fun i j hi hj hne => inv.pairs i j hi hj hne (hall i hi) (hall j hj))
    rw [inv.frame, putAll_full _ _ (fun j hj => hall j (List.mem_range.1 hj)), hlist]
    have hlen : (ops.toList.drop n).length = ops.size - n := by simp
    rw [← hlen]
    exact wpAnyIn_of_seq (ops.toList.drop n) n _ _ _ (fun j => by simp) (by rw [hlen]; exact hseq) hw
  | succ f ih =>
    intro listed a w vs hu inv
    have hlsz : n ≤ listed.size := by rw [inv.head.size]; exact hn
    obtain ⟨k, hk, hkl, hkall⟩ := unlisted_least hlsz (unl_ex (by omega))
    have hkready : k ∈ Region.ready .any ops listed := by
      rw [mem_ready]
      have h1 := List.all_eq_true.1 hback k (List.mem_range.2 hk)
      cases ho : ops[k]? with
      | none => simp [ho] at h1
      | some o =>
        refine ⟨hkl, o, rfl, fun e he hbd => hkall _ ?_⟩
        simp only [ho, Option.map_some, Option.getD_some] at h1
        have h2 := Array.all_eq_true_iff_forall_mem.1 h1 e he
        simp only [hbd, Bool.not_true, Bool.false_or] at h2
        exact of_decide_eq_true h2
    rw [show f + 1 + (ops.size - n) = (f + (ops.size - n)) + 1 by omega]
    refine ⟨fun h0 => (by rw [h0] at hkready; cases hkready), fun i hi => ?_⟩
    have hin : i < n := by
      rcases Nat.lt_or_ge i n with h | h
      · exact h
      · rcases htail with h2 | ⟨⟨hs, hc⟩, hlt⟩
        · obtain ⟨_, o, ho, _⟩ := mem_ready.1 hi
          have := (Array.getElem?_eq_some_iff.1 ho).1
          omega
        · exact absurd hi (tail_waits hs hc hlt inv.head _ k rfl hk hkl i h)
    obtain ⟨hil, oi, hoi, hpre⟩ := mem_ready.1 hi
    have hpreds : ∀ j, predB ops i j = true → j < i ∧ listed.getD j false = true := by
      intro j hj
      obtain ⟨o', ho', e, he, hb, hon⟩ := Region.waitsFor_spec hj
      have : o' = oi := Option.some.inj (ho'.symm.trans hoi)
      subst this
      have h1 := List.all_eq_true.1 hback i (List.mem_range.2 hin)
      simp only [ho', Option.map_some, Option.getD_some] at h1
      have h2 := Array.all_eq_true_iff_forall_mem.1 h1 e he
      simp only [hb, Bool.not_true, Bool.false_or] at h2
      replace h2 := of_decide_eq_true h2
      rw [hon] at h2
      exact ⟨h2, by rw [← hon]; exact hpre e he hb⟩
    have h := hop i hin a w vs inv.ext (fun t ht => by rw [inv.frame]; exact putAll_get_other _ _ (fun j hj => ht j (List.mem_range.1 hj)))
      (fun j hj => by
        obtain ⟨hji, hjl⟩ := hpreds j hj
        refine ⟨inv.facts j (by omega) hjl, fun t ht => ?_⟩
        rw [inv.frame]
        exact putAll_get hjl ht _ _ List.nodup_range (List.mem_range.2 (by omega)) (hsz j (by omega) t ht) (fun k' hk' hne hd => hdd j k' (by omega) (List.mem_range.1 hk') hne t hd ht))
    refine wpOpIn_mono (fun a' w' ⟨v, ha', hext, hr, hN⟩ => ?_) h
    refine ih (listed.setIfInBounds i true) a' w' (fun j => if j = i then v else vs j) ?_ ⟨inv.head.set hi hin, inv.ext.trans hext, ?_, ?_, ?_⟩
    · have := unl_set hin hil
      omega
    · rw [ha', inv.frame]
      exact (putAll_set hil (List.range n) a0 List.nodup_range (List.mem_range.2 hin) (fun j hj hne d hd => hdd i j hin (List.mem_range.1 hj) hne d hd)).symm
    · intro j hj hjl
      by_cases hji : j = i
      · subst hji; simpa using hr
      · rw [getD_set_ne false (Ne.symm hji)] at hjl
        simp only [if_neg hji]
        exact hR j _ _ _ inv.ext hext (inv.facts j hj hjl)
    · intro j k hj hk hne hjl hkl
      by_cases hji : j = i
      · subst hji
        rw [getD_set_ne false hne] at hkl
        refine .inl ⟨w, inv.ext, ?_, ?_⟩
        · simp only [if_neg (Ne.symm hne)]; exact inv.facts k hk hkl
        · simp only [if_true]; exact hN
      · rw [getD_set_ne false (Ne.symm hji)] at hjl
        by_cases hki : k = i
        · subst hki
          refine .inr ⟨w, inv.ext, ?_, ?_⟩
          · simp only [if_neg hji]; exact inv.facts j hj hjl
          · simp only [if_true]; exact hN
        · rw [getD_set_ne false (Ne.symm hki)] at hkl
          have := inv.pairs j k hj hk hne hjl hkl
          unfold DrPair at this ⊢
          simp only [if_neg hji, if_neg hki]
          exact this

theorem wpIn_region_soft {id : Nat} (n : Nat) (R N : Nat → Value → World → Prop) {l : List Oper} {a0 : Act} {w : World} (hm : P.follows .mixedOrders = true) (hB : softB l.toArray n = true)
    (hR : ∀ i v w1 w', Bw w w1 → Bw w1 w' → R i v w1 → R i v w') (hop : ∀ i, i < n → DrOp r P l.toArray Q n R N a0 w i)
    (hsz : ∀ i, i < n → ∀ d, rdst l.toArray i = some d → d < a0.tmps.size)
    (hend : ∀ (vs : Nat → Value) (w' : World), Bw w w' → (∀ i, i < n → R i (vs i) w') → (∀ i j, i < n → j < n → i ≠ j → DrPair R N w vs i j) → wpListIn (FW r) 0 P l.toArray Q (l.drop n) (putVals l.toArray vs (List.range n) a0) w') :
    (Code.region id l.toArray true).wpIn (FW r) 0 P Q a0 w := by
  refine wpIn_region_any hm ?_
  have hd : Bw w { w with drawn := w.drawn + 1 } := Bw.draw w
  have hn : n ≤ l.toArray.size := by
    simp only [softB, Bool.and_eq_true, decide_eq_true_eq] at hB
    exact hB.1.1.1.1
  have key := wpAnyIn_soft (P := P) (Q := Q) (ops := l.toArray) (n := n) (R := R) (N := N) (a0 := a0) (w0 := w) hB hR hop hsz (fun vs w' h1 h2 h3 => by simpa using hend vs w' h1 h2 h3)
  have hunl : unl (Array.replicate l.toArray.size false) n = n := by
    have hfil : (List.range n).filter (fun i => !(Array.replicate l.toArray.size false).getD i true) = List.range n := by
      apply List.filter_eq_self.2
      intro i hi
      have := List.mem_range.1 hi
      have hlt : i < l.toArray.size := by omega
      simp at hlt
      simp [hlt]
    simp only [unl, hfil, List.length_range]
  have := key n (Array.replicate l.toArray.size false) a0 _ (fun _ => undef) hunl ⟨⟨by simp, fun j oj _ hl => (by rw [getD_replicate_false] at hl; cases hl), fun t _ ht' => (by simp at ht'; simp [ht'])⟩, hd, ?_, fun i _ hl => (by rw [getD_replicate_false] at hl; cases hl), fun i j _ _ _ hl => (by rw [getD_replicate_false] at hl; cases hl)⟩
  · rw [show n + (l.toArray.size - n) = l.toArray.size by omega] at this
    exact this
  · have : ∀ (is : List Nat) (a : Act), putAll l.toArray (fun _ => undef) (Array.replicate l.toArray.size false) is a = a := by
      intro is
      induction is with
      | nil => intro a; rfl
      | cons i is ih => intro a; simp only [putAll, getD_replicate_false]; exact ih a
    exact (this _ _).symm


/-! ### The obligations over one frame: the one in which every operation of the head has laid its value. -/

/-- One operation of the head: R is what holds of its value. -/
def DrAt (P : Program) (ops : Array Oper) (n : Nat) (R N : Nat → Value → World → Prop) (a0 : Act) (w0 : World) (i : Nat) : Prop :=
  ∀ (vs : Nat → Value) (w : World), Bw w0 w → (∀ j, predB ops i j = true → R j (vs j) w) →
    match ops[i]? with
    | none => False
    | some o => if Region.wanted o (yielded ops (putVals ops vs (List.range n) a0).tmps) = true then
        (∃ v w', (execOp (putVals ops vs (List.range n) a0).eval o).run P w = .ok (.value v) w' ∧ Bw w w' ∧ R i v w' ∧ N i v w) ∨
        (∃ w', (execOp (putVals ops vs (List.range n) a0).eval o).run P w = .ok .skip w' ∧ Bw w w' ∧ R i undef w' ∧ N i undef w) ∨
        (∃ f args, (execOp (putVals ops vs (List.range n) a0).eval o).run P w = .ok (.enter f args) w ∧ Calls P f args w (fun e w' => ∃ v, e = .returned v ∧ Bw w w' ∧ R i v w' ∧ N i v w))
      else R i undef w ∧ N i undef w

theorem uponIn_of {o : Oper} {a : Act} {K : Act → World → Prop} {x : Result Next} {w : World} {i : Nat} {R N : Nat → Value → World → Prop}
    (h : (∃ v w', x = .ok (.value v) w' ∧ Bw w w' ∧ R i v w' ∧ N i v w) ∨ (∃ w', x = .ok .skip w' ∧ Bw w w' ∧ R i undef w' ∧ N i undef w) ∨ (∃ f args, x = .ok (.enter f args) w ∧ Calls P f args w (fun e w' => ∃ v, e = .returned v ∧ Bw w w' ∧ R i v w' ∧ N i v w)))
    (hK : ∀ v w', Bw w w' → R i v w' ∧ N i v w → K (a.put o.dst v) w') : o.uponIn (FW r) 0 P a K Q x := by
  rcases h with ⟨v, w', rfl, h1, h2⟩ | ⟨w', rfl, h1, h2⟩ | ⟨f, args, rfl, h⟩
  · exact hK v w' h1 h2
  · exact hK undef w' h1 h2
  · exact ⟨fun hd => by simp [FW] at hd, (calls_in' h).mono fun e w' ⟨v, he, h1, h2⟩ => by subst he; exact hK v w' h1 h2⟩
theorem semAt_run {ρ : Operand → Value} {o : Oper} {w : World} {x : Result Next} (q : Option Nat) (hx : ∀ d w', x ≠ .ok (.defer d) w') (hh : ∀ h w', x ≠ .halt h w') (h : (execOp ρ o).run P w = x) : (o.semAt q ρ).run P w = x := by
  cases q with
  | none => simpa [Oper.semAt_none] using h
  | some l =>
    rw [Oper.semAt_some]
    · exact h
    · intro c hc
      simp only [execOp, hc, Sem.run_bind] at h
      cases hr : (resolve ρ c o.type).run P w with
      | ok d w1 => rw [hr] at h; simp at h; exact hx _ _ h.symm
      | halt a b => rw [hr] at h; simp [Result.andThen] at h; exact hh _ _ h.symm
theorem drOp_of_at {n : Nat} {R N : Nat → Value → World → Prop} {a0 : Act} {w0 : World} {i : Nat} (hi : i < n) (hB : softB ops n = true) (hS : Region.noSelect ops = true) (hr : readsB ops n = true)
    (hsz : ∀ i, i < n → ∀ d, rdst ops i = some d → d < a0.tmps.size) (h : DrAt P ops n R N a0 w0 i) : DrOp r P ops Q n R N a0 w0 i := by
  intro a w vs hE hoth hpre
  have h1 := h vs w hE (fun j hj => (hpre j hj).1)
  simp only [softB, Bool.and_eq_true, Bool.or_eq_true, decide_eq_true_eq] at hB
  obtain ⟨⟨⟨⟨hn, hback⟩, hdst⟩, _⟩, _⟩ := hB
  have hdd : ∀ i j, i < n → j < n → j ≠ i → ∀ d, rdst ops j = some d → rdst ops i ≠ some d := by
    intro i j hi hj hne d hd hd'
    have h1 := List.all_eq_true.1 (List.all_eq_true.1 hdst i (List.mem_range.2 hi)) j (List.mem_range.2 hj)
    simp [hd, hd', Ne.symm hne] at h1
  unfold wpOpIn
  cases ho : ops[i]? with
  | none => simp only [ho] at h1
  | some o =>
    simp only [ho] at h1 ⊢
    have hrd := List.all_eq_true.1 hr i (List.mem_range.2 hi)
    simp only [ho, Option.map_some, Option.getD_some] at hrd
    have hslot : ∀ t ∈ o.looksAt ops, a.tmps[t]? = (putVals ops vs (List.range n) a0).tmps[t]? := by
      intro t ht
      have h2 := List.all_eq_true.1 hrd t ht
      simp only [Bool.or_eq_true] at h2
      rcases h2 with h2 | h2
      · have h3 : ∀ j, j < n → rdst ops j ≠ some t := fun j hj => by
          have := List.all_eq_true.1 h2 j (List.mem_range.2 hj)
          simpa using this
        rw [hoth t h3, putVals_get_other _ _ (fun j hj => h3 j (List.mem_range.1 hj))]
      · obtain ⟨j, hj, h3⟩ := List.any_eq_true.1 h2
        simp only [Bool.and_eq_true, beq_iff_eq] at h3
        have hjn : j < n := by have := List.mem_range.1 hj; omega
        rw [(hpre j h3.1).2 t h3.2, putVals_get h3.2 _ _ List.nodup_range (List.mem_range.2 hjn) (hsz j hjn t h3.2) (fun k hk hne hd => hdd j k hjn (List.mem_range.1 hk) hne t hd h3.2)]
    have hev : ∀ x ∈ o.op.operands, a.eval x = (putVals ops vs (List.range n) a0).eval x := by
      intro x hx
      cases x with
      | tmp t =>
        have ht : t ∈ o.looksAt ops := by
          unfold Oper.looksAt
          refine List.mem_append_left _ (List.mem_filterMap.2 ⟨.tmp t, ?_, rfl⟩)
          simpa using hx
        simp only [Act.eval, Array.getD_eq_getD_getElem?, hslot t ht]
      | const v => rfl
      | global g => rfl
      | func f => rfl
    have hex := execOp_congr (ρ := a.eval) (ρ' := (putVals ops vs (List.range n) a0).eval) o (fun cs b => Region.noSelect_spec hS i o cs b ho) hev
    have hwant : Region.wanted o (yielded ops a.tmps) = Region.wanted o (yielded ops (putVals ops vs (List.range n) a0).tmps) := by
      unfold Region.wanted
      cases hg : o.guard with
      | none => rfl
      | some g =>
        obtain ⟨j, want⟩ := g
        have : yielded ops a.tmps j = yielded ops (putVals ops vs (List.range n) a0).tmps j := by
          unfold yielded
          cases hd : (ops[j]?).bind (·.dst) with
          | none => rfl
          | some d =>
            have ht : d ∈ o.looksAt ops := by
              unfold Oper.looksAt
              refine List.mem_append_right _ ?_
              simp [hg, hd]
            simp only [Option.bind_some, hslot d ht]
        simp only [this]
    rw [hwant]
    by_cases hw : Region.wanted o (yielded ops (putVals ops vs (List.range n) a0).tmps) = true
    · rw [if_pos hw] at h1 ⊢
      refine ⟨fun _ _ => trivial, ?_⟩
      have hrun : (o.semAt (FW r).round a.eval).run P w = (execOp (putVals ops vs (List.range n) a0).eval o).run P w := by
        refine semAt_run (x := (execOp (putVals ops vs (List.range n) a0).eval o).run P w) _ ?_ ?_ (by rw [hex])
        · intro d w' e; rw [e] at h1; simp at h1
        · intro d w' e; rw [e] at h1; simp at h1
      rw [hrun]
      exact uponIn_of (R := R) (N := N) h1 (fun v w' h2 h3 => ⟨v, by simp [rdst, ho], h2, h3.1, h3.2⟩)
    · rw [if_neg hw] at h1 ⊢
      exact ⟨fun _ _ => trivial, undef, by simp [rdst, ho], Bw.refl w, h1.1, h1.2⟩

/-- **A REGION THAT DRAWS ITS ORDER**: one obligation for each operation of its head, over the frame with all values laid; then its tail. -/
theorem wpIn_region_softly {id : Nat} (n : Nat) (R N : Nat → Value → World → Prop) {l : List Oper} {a0 : Act} {w : World} (hm : P.follows .mixedOrders = true)
    (hB : (softB l.toArray n && Region.noSelect l.toArray && readsB l.toArray n && (List.range n).all fun i => ((rdst l.toArray i).map fun d => decide (d < a0.tmps.size)).getD true) = true)
    (hR : ∀ i, i < n → ∀ v w1 w', Bw w w1 → Bw w1 w' → R i v w1 → R i v w') (hop : ∀ i, i < n → DrAt P l.toArray n R N a0 w i)
    (hend : ∀ (vs : Nat → Value) (w' : World), Bw w w' → (∀ i, i < n → R i (vs i) w') → (∀ i j, i < n → j < n → i ≠ j → DrPair R N w vs i j) → wpListIn (FW r) 0 P l.toArray Q (l.drop n) (putVals l.toArray vs (List.range n) a0) w') :
    (Code.region id l.toArray true).wpIn (FW r) 0 P Q a0 w := by
  simp only [Bool.and_eq_true] at hB
  obtain ⟨⟨⟨h1, h2⟩, h3⟩, h4⟩ := hB
  have hsz : ∀ i, i < n → ∀ d, rdst l.toArray i = some d → d < a0.tmps.size := fun i hi d hd => by
    have := List.all_eq_true.1 h4 i (List.mem_range.2 hi)
    simpa [hd] using this
  refine wpIn_region_soft n (fun i v w => i < n → R i v w) N hm h1 (fun i v w1 w' e1 e2 hr hi => hR i hi v w1 w' e1 e2 (hr hi)) (fun i hi => drOp_of_at hi h1 h2 h3 hsz ?_) hsz (fun vs w' he hr hp => hend vs w' he (fun i hi => hr i hi hi) (fun i j hi hj hne => (hp i j hi hj hne).imp (fun ⟨W, q1, q2, q3⟩ => ⟨W, q1, q2 hj, q3⟩) (fun ⟨W, q1, q2, q3⟩ => ⟨W, q1, q2 hi, q3⟩)))
  intro vs w' he hp
  have hpi : ∀ j, predB l.toArray i j = true → j < n := by
    intro j hj
    obtain ⟨o', ho', e, he, hb, hon⟩ := Region.waitsFor_spec hj
    simp only [softB, Bool.and_eq_true, Bool.or_eq_true, decide_eq_true_eq] at h1
    have h5 := List.all_eq_true.1 h1.1.1.1.2 i (List.mem_range.2 hi)
    simp only [ho', Option.map_some, Option.getD_some] at h5
    have h6 := Array.all_eq_true_iff_forall_mem.1 h5 e he
    simp only [hb, Bool.not_true, Bool.false_or] at h6
    replace h6 := of_decide_eq_true h6
    omega
  have h5 := hop i hi vs w' he (fun j hj => hp j hj (hpi j hj))
  cases ho : l.toArray[i]? with
  | none => simp only [ho] at h5
  | some o =>
    simp only [ho] at h5 ⊢
    split
    · rename_i hw
      rw [if_pos hw] at h5
      rcases h5 with ⟨v, w'', e1, e2, e3, e4⟩ | ⟨w'', e1, e2, e3, e4⟩ | ⟨f, args, e1, e2⟩
      · exact .inl ⟨v, w'', e1, e2, fun _ => e3, e4⟩
      · exact .inr (.inl ⟨w'', e1, e2, fun _ => e3, e4⟩)
      · exact .inr (.inr ⟨f, args, e1, e2.mono fun e w'' ⟨v, q1, q2, q3, q4⟩ => ⟨v, q1, q2, fun _ => q3, q4⟩⟩)
    · rename_i hw
      rw [if_neg hw] at h5
      exact ⟨fun _ => h5.1, h5.2⟩


/-! ### The same, the frame and the operations written out. -/

def DrRun (P : Program) (r : Result Next) (w : World) (R N : Value → World → Prop) : Prop :=
  (∃ v w', r = .ok (.value v) w' ∧ Bw w w' ∧ R v w' ∧ N v w) ∨ (∃ w', r = .ok .skip w' ∧ Bw w w' ∧ R undef w' ∧ N undef w) ∨
    (∃ f args, r = .ok (.enter f args) w ∧ Calls P f args w (fun e w' => ∃ v, e = .returned v ∧ Bw w w' ∧ R v w' ∧ N v w))

def DrOne (P : Program) (ops : Array Oper) (R N : Nat → Value → World → Prop) (F : (Nat → Value) → Act) (w0 : World) (o : Oper) (i : Nat) : Prop :=
  ∀ (vs : Nat → Value) (w : World), Bw w0 w → (∀ j, predB ops i j = true → R j (vs j) w) →
    if Region.wanted o (yielded ops (F vs).tmps) = true then DrRun P ((execOp (F vs).eval o).run P w) w (R i) (N i) else R i undef w ∧ N i undef w

def DrAll (P : Program) (ops : Array Oper) (R N : Nat → Value → World → Prop) (F : (Nat → Value) → Act) (w0 : World) : List Oper → Nat → Prop
  | [], _ => True
  | o :: os, i => DrOne P ops R N F w0 o i ∧ DrAll P ops R N F w0 os (i + 1)

theorem DrAll.get {P : Program} {ops : Array Oper} {R N : Nat → Value → World → Prop} {F : (Nat → Value) → Act} {w0 : World} : ∀ (l : List Oper) (i : Nat), DrAll P ops R N F w0 l i →
    ∀ j o, l[j]? = some o → DrOne P ops R N F w0 o (i + j)
  | [], _, _, _, _, h => by simp at h
  | o :: os, i, h, 0, o', ho => by
    simp at ho
    subst ho
    exact h.1
  | o :: os, i, h, j + 1, o', ho => by
    have := DrAll.get os (i + 1) h.2 j o' (by simpa using ho)
    rwa [show i + 1 + j = i + (j + 1) by omega] at this

theorem wpIn_region_drawn2 {id : Nat} (n : Nat) (R N : Nat → Value → World → Prop) (F : (Nat → Value) → Act) {l : List Oper} {a0 : Act} {w : World} (hm : P.follows .mixedOrders = true)
    (hB : (softB l.toArray n && Region.noSelect l.toArray && readsB l.toArray n && (List.range n).all fun i => ((rdst l.toArray i).map fun d => decide (d < a0.tmps.size)).getD true) = true)
    (hF : ∀ vs, putVals l.toArray vs (List.range n) a0 = F vs)
    (hR : ∀ i, i < n → ∀ v w1 w', Bw w w1 → Bw w1 w' → R i v w1 → R i v w') (hop : DrAll P l.toArray R N F w (l.take n) 0)
    (hend : ∀ (vs : Nat → Value) (w' : World), Bw w w' → (∀ i, i < n → R i (vs i) w') → (∀ i j, i < n → j < n → i ≠ j → DrPair R N w vs i j) → wpListIn (FW r) 0 P l.toArray Q (l.drop n) (F vs) w') :
    (Code.region id l.toArray true).wpIn (FW r) 0 P Q a0 w := by
  refine wpIn_region_softly n R N hm hB hR (fun i hi => ?_) (fun vs w' h1 h2 h3 => by rw [hF]; exact hend vs w' h1 h2 h3)
  intro vs w' h1 h2
  have hn : n ≤ l.toArray.size := by
    simp only [softB, Bool.and_eq_true, decide_eq_true_eq] at hB
    exact hB.1.1.1.1.1.1.1
  have hil : i < l.length := by simp at hn; omega
  have ho : l.toArray[i]? = some l[i] := by simp [hil]
  have ho' : (l.take n)[i]? = some l[i] := by rw [List.getElem?_take, if_pos hi]; simp [hil]
  have := DrAll.get _ 0 hop i _ ho' vs w' h1 (by simpa using h2)
  simp only [ho, hF]
  simpa [DrRun] using this

theorem wpIn_region_drawn {id : Nat} (n : Nat) (R : Nat → Value → World → Prop) (F : (Nat → Value) → Act) {l : List Oper} {a0 : Act} {w : World} (hm : P.follows .mixedOrders = true)
    (hB : (softB l.toArray n && Region.noSelect l.toArray && readsB l.toArray n && (List.range n).all fun i => ((rdst l.toArray i).map fun d => decide (d < a0.tmps.size)).getD true) = true)
    (hF : ∀ vs, putVals l.toArray vs (List.range n) a0 = F vs)
    (hR : ∀ i, i < n → ∀ v w1 w', Bw w w1 → Bw w1 w' → R i v w1 → R i v w') (hop : DrAll P l.toArray R (fun _ _ _ => True) F w (l.take n) 0)
    (hend : ∀ (vs : Nat → Value) (w' : World), Bw w w' → (∀ i, i < n → R i (vs i) w') → wpListIn (FW r) 0 P l.toArray Q (l.drop n) (F vs) w') :
    (Code.region id l.toArray true).wpIn (FW r) 0 P Q a0 w :=
  wpIn_region_drawn2 n R (fun _ _ _ => True) F hm hB hF hR hop (fun vs w' h1 h2 _ => hend vs w' h1 h2)

theorem dr_plain {P : Program} {R N : Value → World → Prop} {y : Nat → Option Bool} {o : Oper} {r : Result Next} {w : World} {U : Prop} (hg : o.guard = none) (h : DrRun P r w R N) : if Region.wanted o y = true then DrRun P r w R N else U := by
  unfold Region.wanted
  simp only [hg, if_true]
  exact h
theorem dr_want {P : Program} {R N : Value → World → Prop} {y : Nat → Option Bool} {o : Oper} {r : Result Next} {w : World} {U : Prop} (hg : Region.wanted o y = true) (h : DrRun P r w R N) : if Region.wanted o y = true then DrRun P r w R N else U := by
  rw [if_pos hg]; exact h
theorem dr_skip {P : Program} {R : Value → World → Prop} {y : Nat → Option Bool} {o : Oper} {r : Result Next} {w : World} (hg : Region.wanted o y = false) (h : R undef w) : if Region.wanted o y = true then DrRun P r w R (fun _ _ => True) else R undef w ∧ True := by
  rw [hg]; exact ⟨h, trivial⟩
theorem dr_val {P : Program} {R : Value → World → Prop} {r : Result Next} {w : World} {v : Value} (hr : R v w) (h : r = .ok (.value v) w) : DrRun P r w R (fun _ _ => True) := .inl ⟨v, w, h, Bw.refl w, hr, trivial⟩
theorem dr_new {P : Program} {R : Value → World → Prop} {r : Result Next} {w w' : World} {v : Value} (h : r = .ok (.value v) w') (he : Bw w w') (hr : R v w') : DrRun P r w R (fun _ _ => True) := .inl ⟨v, w', h, he, hr, trivial⟩
theorem dr_val2 {P : Program} {R N : Value → World → Prop} {r : Result Next} {w w' : World} {v : Value} (h : r = .ok (.value v) w') (he : Bw w w') (hr : R v w') (hN : N v w) : DrRun P r w R N := .inl ⟨v, w', h, he, hr, hN⟩
theorem dr_call {P : Program} {R : Value → World → Prop} {r : Result Next} {w : World} {f : FuncId} {args : Array Value} (h : r = .ok (.enter f args) w) (hc : Calls P f args w (fun e w' => ∃ v, e = .returned v ∧ Bw w w' ∧ R v w')) : DrRun P r w R (fun _ _ => True) :=
  .inr (.inr ⟨f, args, h, hc.mono fun _ _ ⟨v, h1, h2, h3⟩ => ⟨v, h1, h2, h3, trivial⟩⟩)
theorem dr_call2 {P : Program} {R N : Value → World → Prop} {r : Result Next} {w : World} {f : FuncId} {args : Array Value} (h : r = .ok (.enter f args) w) (hc : Calls P f args w (fun e w' => ∃ v, e = .returned v ∧ Bw w w' ∧ R v w' ∧ N v w)) : DrRun P r w R N := .inr (.inr ⟨f, args, h, hc⟩)

/-! ### The same over frames as lists -/
def putL (ops : Array Oper) (vs : Nat → Value) : List Nat → Fr → Fr
  | [], l => l
  | i :: is, l => putL ops vs is (match rdst ops i with | some d => (d, vs i) :: l | none => l)
theorem putVals_fr {n : Nat} {ds : List Deferred} {vs : Nat → Value} : ∀ (is : List Nat) (l : Fr), (is.all fun i => ((rdst ops i).map fun d => Nat.blt d n).getD true) = true → putVals ops vs is (fr n ds l) = fr n ds (putL ops vs is l)
  | [], _, _ => rfl
  | i :: is, l, h => by
    simp only [List.all_cons, Bool.and_eq_true] at h
    simp only [putVals, putL]
    cases hd : rdst ops i with
    | none => exact putVals_fr is l h.2
    | some d =>
      have := h.1
      simp only [hd, Option.map_some, Option.getD_some] at this
      rw [fr_put this]
      exact putVals_fr is _ h.2
theorem fr_size (n : Nat) (ds : List Deferred) (l : Fr) : (fr n ds l).tmps.size = n := by simp [fr]
def drawB (k : List Oper) (m n : Nat) : Bool := softB k.toArray m && Region.noSelect k.toArray && readsB k.toArray m && (List.range m).all fun i => ((rdst k.toArray i).map fun d => Nat.blt d n).getD true
/-- **A REGION THAT DRAWS ITS ORDER** in a frame as a list: one obligation for each of the first m operations, the frame with all their values; then the others in their order. -/
theorem WP.draw {id : Nat} (m : Nat) (R : Nat → Value → World → Prop) {n : Nat} {ds : List Deferred} {l : Fr} {k : List Oper} {w : World} (lv : (Nat → Value) → Fr)
    (hB : drawB k m n = true) (hF : ∀ vs, putL k.toArray vs (List.range m) l = lv vs)
    (hR : ∀ i, i < m → ∀ v w1 w', Bw w w1 → Bw w1 w' → R i v w1 → R i v w')
    (hop : DrAll Try.prog k.toArray R (fun _ _ _ => True) (fun vs => fr n ds (lv vs)) w (k.take m) 0)
    (hend : ∀ (vs : Nat → Value) (w' : World), Bw w w' → (∀ i, i < m → R i (vs i) w') → WL r k.toArray Q (k.drop m) (fr n ds (lv vs)) w') :
    WP r (.region id k.toArray true) Q (fr n ds l) w := by
  simp only [drawB, Bool.and_eq_true] at hB
  obtain ⟨⟨⟨h1, h2⟩, h3⟩, h4⟩ := hB
  have h5 : (List.range m).all (fun i => ((rdst k.toArray i).map fun d => decide (d < (fr n ds l).tmps.size)).getD true) = true := by
    rw [List.all_eq_true] at h4 ⊢
    intro i hi
    have := h4 i hi
    cases hd : rdst k.toArray i with
    | none => rfl
    | some d =>
      simp only [hd, Option.map_some, Option.getD_some] at this ⊢
      rw [fr_size]
      exact decide_eq_true (blt_iff.1 this)
  refine wpIn_region_drawn m R (fun vs => fr n ds (lv vs)) Try.mixed (by simp only [h1, h2, h3, h5, Bool.and_self]) (fun vs => ?_) hR hop hend
  rw [putVals_fr _ _ h4, hF]
end
end Go.Proofs.Ythidakffgcjjiaa
