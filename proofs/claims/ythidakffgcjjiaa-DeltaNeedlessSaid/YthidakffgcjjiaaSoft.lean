/- A statement whose operations Go may carry out in more than one order: where each operation of its head gives, in whatever world that has grown, a value of which a fact holds that stays under growth, and its tail comes last in one order: one obligation for each operation, and then the tail. -/
import Derived.Test.YthidakffgcjjiaaBase
import Derived.StillTail
namespace Go.Proofs.Ythidakffgcjjiaa
open Go.RowKit Go.Sort

def rdst (ops : Array Oper) (i : Nat) : Option Tmp := (ops[i]?).bind (·.dst)

/-- The values of the listed operations laid into the frame, in the order of the text. -/
def putAll (ops : Array Oper) (vs : Nat → Value) (listed : Array Bool) : List Nat → Act → Act
  | [], a => a
  | i :: is, a => putAll ops vs listed is (if listed.getD i false = true then a.put (rdst ops i) (vs i) else a)

/-- The values of all of a list of operations laid into the frame. -/
def putVals (ops : Array Oper) (vs : Nat → Value) : List Nat → Act → Act
  | [], a => a
  | i :: is, a => putVals ops vs is (a.put (rdst ops i) (vs i))

theorem putAll_put {ops : Array Oper} {vs : Nat → Value} {listed : Array Bool} {x : Option Tmp} {v : Value} : ∀ (is : List Nat) (a : Act),
    (∀ j ∈ is, ∀ d, rdst ops j = some d → x ≠ some d) → putAll ops vs listed is (a.put x v) = (putAll ops vs listed is a).put x v
  | [], _, _ => rfl
  | i :: is, a, h => by
    simp only [putAll]
    split
    · rw [Act.put_comm a v (vs i) (x := x) (y := rdst ops i) (fun d hd hy => h i (by simp) d hy hd)]
      exact putAll_put is _ (fun j hj => h j (by simp [hj]))
    · exact putAll_put is a (fun j hj => h j (by simp [hj]))

theorem putAll_congr {ops : Array Oper} {vs vs' : Nat → Value} {listed listed' : Array Bool} : ∀ (is : List Nat) (a : Act),
    (∀ j ∈ is, listed'.getD j false = listed.getD j false ∧ (listed.getD j false = true → vs' j = vs j)) → putAll ops vs' listed' is a = putAll ops vs listed is a
  | [], _, _ => rfl
  | i :: is, a, h => by
    simp only [putAll]
    obtain ⟨h1, h2⟩ := h i (by simp)
    rw [h1]
    by_cases hl : listed.getD i false = true
    · rw [if_pos hl, if_pos hl, h2 hl]
      exact putAll_congr is _ (fun j hj => h j (by simp [hj]))
    · rw [if_neg hl, if_neg hl]
      exact putAll_congr is _ (fun j hj => h j (by simp [hj]))

theorem putAll_set {ops : Array Oper} {vs : Nat → Value} {listed : Array Bool} {i : Nat} {v : Value} (hun : listed.getD i true = false) : ∀ (is : List Nat) (a : Act), is.Nodup → i ∈ is →
    (∀ j ∈ is, j ≠ i → ∀ d, rdst ops j = some d → rdst ops i ≠ some d) →
    putAll ops (fun j => if j = i then v else vs j) (listed.setIfInBounds i true) is a = (putAll ops vs listed is a).put (rdst ops i) v
  | [], _, _, h, _ => by cases h
  | k :: is, a, hnd, hi, hd => by
    have hsz : i < listed.size := by
      rcases Nat.lt_or_ge i listed.size with h | h
      · exact h
      · simp [Array.getElem?_eq_none h] at hun
    have hfalse : listed.getD i false = false := getD_both hun
    obtain ⟨hk, hnd'⟩ := List.nodup_cons.1 hnd
    simp only [putAll]
    by_cases hki : k = i
    · subst hki
      have h1 : (listed.setIfInBounds k true).getD k false = true := by simp [hsz]
      rw [if_pos h1, if_pos rfl, if_neg (by rw [hfalse]; simp)]
      rw [putAll_put is a (fun j hj d hjd => hd j (by simp [hj]) (fun e => hk (e ▸ hj)) d hjd)]
      rw [putAll_congr (vs := vs) (listed := listed) is a]
      intro j hj
      have hjk : j ≠ k := fun e => hk (e ▸ hj)
      exact ⟨getD_set_ne false (Ne.symm hjk), fun _ => by simp [hjk]⟩
    · have hmem : i ∈ is := by
        rcases List.mem_cons.1 hi with h | h
        · exact absurd h.symm hki
        · exact h
      have h1 : (listed.setIfInBounds i true).getD k false = listed.getD k false := getD_set_ne false (Ne.symm hki)
      rw [h1]
      simp only [if_neg hki]
      exact putAll_set hun is _ hnd' hmem (fun j hj => hd j (by simp [hj]))

theorem putAll_get_other {ops : Array Oper} {vs : Nat → Value} {listed : Array Bool} {t : Nat} : ∀ (is : List Nat) (a : Act),
    (∀ j ∈ is, rdst ops j ≠ some t) → (putAll ops vs listed is a).tmps[t]? = a.tmps[t]?
  | [], _, _ => rfl
  | i :: is, a, h => by
    simp only [putAll]
    rw [putAll_get_other is _ (fun j hj => h j (by simp [hj]))]
    split
    · have := h i (by simp)
      unfold Act.put
      split
      · rename_i d hd
        have hne : d ≠ t := fun e => this (by rw [hd, e])
        simp [Array.getElem?_setIfInBounds_ne hne]
      · rfl
    · rfl

theorem putAll_size {ops : Array Oper} {vs : Nat → Value} {listed : Array Bool} : ∀ (is : List Nat) (a : Act), (putAll ops vs listed is a).tmps.size = a.tmps.size
  | [], _ => rfl
  | i :: is, a => by
    simp only [putAll]
    rw [putAll_size is _]
    split
    · unfold Act.put; split <;> simp
    · rfl

theorem putAll_get {ops : Array Oper} {vs : Nat → Value} {listed : Array Bool} {i t : Nat} (hl : listed.getD i false = true) (ht : rdst ops i = some t) : ∀ (is : List Nat) (a : Act), is.Nodup → i ∈ is → t < a.tmps.size →
    (∀ j ∈ is, j ≠ i → rdst ops j ≠ some t) → (putAll ops vs listed is a).tmps[t]? = some (vs i)
  | [], _, _, h, _, _ => by cases h
  | k :: is, a, hnd, hi, hsz, hd => by
    obtain ⟨hk, hnd'⟩ := List.nodup_cons.1 hnd
    simp only [putAll]
    by_cases hki : k = i
    · subst hki
      rw [if_pos hl, putAll_get_other is _ (fun j hj => hd j (by simp [hj]) (fun e => hk (e ▸ hj)))]
      simp [Act.put, ht, hsz]
    · have hmem : i ∈ is := by
        rcases List.mem_cons.1 hi with h | h
        · exact absurd h.symm hki
        · exact h
      refine putAll_get hl ht is _ hnd' hmem ?_ (fun j hj => hd j (by simp [hj]))
      split
      · unfold Act.put; split <;> simp [hsz]
      · exact hsz

theorem putAll_full {ops : Array Oper} {vs : Nat → Value} {listed : Array Bool} : ∀ (is : List Nat) (a : Act), (∀ j ∈ is, listed.getD j false = true) → putAll ops vs listed is a = putVals ops vs is a
  | [], _, _ => rfl
  | i :: is, a, h => by
    simp only [putAll, putVals]
    rw [if_pos (h i (by simp))]
    exact putAll_full is _ (fun j hj => h j (by simp [hj]))

/-- What is looked up of a region by evaluation: its edges go back; no two operations of the head write one slot; the tail comes behind the head, in one order. -/
def backB (ops : Array Oper) (n : Nat) : Bool := (List.range n).all fun i => ((ops[i]?).map fun o => o.after.all fun e => !Region.binds .any e || decide (e.on < i)).getD false
def dstsB (ops : Array Oper) (n : Nat) : Bool := (List.range n).all fun i => (List.range n).all fun j => decide (i = j) || ((rdst ops i).map fun d => !(rdst ops j == some d)).getD true
def firstTrue (n m : Nat) : Array Bool := ((List.range m).map fun i => decide (i < n)).toArray
def softB (ops : Array Oper) (n : Nat) : Bool :=
  decide (n ≤ ops.size) && backB ops n && dstsB ops n && (decide (n = ops.size) || (Region.sinkB .any ops n && Region.chainB .any ops n && decide (n < ops.size))) && Region.seqB .any ops (ops.size - n) n (firstTrue n ops.size)

/-- Does operation i wait for operation j? -/
def predB (ops : Array Oper) (i j : Nat) : Bool := Region.waitsFor .any ops i j

section
variable {P : Program} {ops : Array Oper} {Q : Exit → Act → World → Prop}

/-- Of two operations the one was carried out when of the other's value its fact held already. -/
def SoftPair (R N : Nat → Value → World → Prop) (w0 : World) (vs : Nat → Value) (i j : Nat) : Prop :=
  (∃ W, Ext w0 W ∧ R j (vs j) W ∧ N i (vs i) W) ∨ (∃ W, Ext w0 W ∧ R i (vs i) W ∧ N j (vs j) W)

structure SoftInv (ops : Array Oper) (n : Nat) (R N : Nat → Value → World → Prop) (a0 : Act) (w0 : World) (vs : Nat → Value) (listed : Array Bool) (a : Act) (w : World) : Prop where
  head : HeadInv .any ops n listed
  ext : Ext w0 w
  frame : a = putAll ops vs listed (List.range n) a0
  facts : ∀ i, i < n → listed.getD i false = true → R i (vs i) w
  pairs : ∀ i j, i < n → j < n → i ≠ j → listed.getD i false = true → listed.getD j false = true → SoftPair R N w0 vs i j

/-- The obligation for one operation. -/
def SoftOp (P : Program) (ops : Array Oper) (Q : Exit → Act → World → Prop) (n : Nat) (R N : Nat → Value → World → Prop) (a0 : Act) (w0 : World) (i : Nat) : Prop :=
  ∀ (a : Act) (w : World) (vs : Nat → Value), Ext w0 w → (∀ t, (∀ j, j < n → rdst ops j ≠ some t) → a.tmps[t]? = a0.tmps[t]?) →
    (∀ j, predB ops i j = true → R j (vs j) w ∧ ∀ t, rdst ops j = some t → a.tmps[t]? = some (vs j)) →
    wpOp P ops Q i (fun a' w' => ∃ v, a' = a.put (rdst ops i) v ∧ Ext w w' ∧ R i v w' ∧ N i v w) a w

theorem unlisted_least {listed : Array Bool} {n : Nat} (hsz : n ≤ listed.size) (h : ∃ i, i < n ∧ listed.getD i true = false) : ∃ i, i < n ∧ listed.getD i true = false ∧ ∀ j, j < i → listed.getD j false = true := by
  obtain ⟨i, hi, hl⟩ := h
  induction i using Nat.strongRecOn with
  | _ i ih =>
    by_cases hall : ∀ j, j < i → listed.getD j false = true
    · exact ⟨i, hi, hl, hall⟩
    · have ⟨j, hj⟩ := Classical.not_forall.1 hall
      have ⟨hji, hjf⟩ := Classical.not_imp.1 hj
      exact ih j hji (by omega) (getD_in (by omega) (by simpa using hjf))

def unl (listed : Array Bool) (n : Nat) : Nat := ((List.range n).filter fun i => !listed.getD i true).length

theorem unl_set {listed : Array Bool} {n i : Nat} (hi : i < n) (hl : listed.getD i true = false) : unl listed n = unl (listed.setIfInBounds i true) n + 1 := by
  have hsz : i < listed.size := by
    rcases Nat.lt_or_ge i listed.size with h | h
    · exact h
    · simp [Array.getElem?_eq_none h] at hl
  have key : ∀ (l : List Nat), l.Nodup → i ∈ l → (l.filter fun j => !listed.getD j true).length = (l.filter fun j => !(listed.setIfInBounds i true).getD j true).length + 1 := by
    intro l
    induction l with
    | nil => intro _ h; cases h
    | cons k l ih =>
      intro hnd hm
      obtain ⟨hk, hnd'⟩ := List.nodup_cons.1 hnd
      by_cases hki : k = i
      · subst hki
        have e1 : (listed.setIfInBounds k true).getD k true = true := by simp [hsz]
        have e2 : l.filter (fun j => !(listed.setIfInBounds k true).getD j true) = l.filter (fun j => !listed.getD j true) := by
          apply List.filter_congr
          intro j hj
          rw [getD_set_ne true (fun e : k = j => hk (e ▸ hj))]
        rw [List.filter_cons, List.filter_cons, e1, hl, e2]
        simp
      · have hm' : i ∈ l := by
          rcases List.mem_cons.1 hm with h | h
          · exact absurd h.symm hki
          · exact h
        have := ih hnd' hm'
        have e1 : (listed.setIfInBounds i true).getD k true = listed.getD k true := getD_set_ne true (Ne.symm hki)
        rw [List.filter_cons, List.filter_cons, e1]
        split
        · simp only [List.length_cons, this]
        · exact this
  exact key _ List.nodup_range (List.mem_range.2 hi)

theorem unl_zero {listed : Array Bool} {n : Nat} (hsz : n ≤ listed.size) (h : unl listed n = 0) : ∀ i, i < n → listed.getD i false = true := by
  intro i hi
  have h0 := List.length_eq_zero_iff.1 h
  have h1 : i ∉ (List.range n).filter fun i => !listed.getD i true := by rw [h0]; simp
  rw [List.mem_filter] at h1
  have h2 : listed.getD i true = true := by
    by_cases hc : listed.getD i true = true
    · exact hc
    · exact absurd ⟨List.mem_range.2 hi, by simpa using hc⟩ h1
  cases hf : listed.getD i false with
  | true => rfl
  | false => rw [getD_in (by omega) hf] at h2; cases h2

theorem unl_ex {listed : Array Bool} {n : Nat} (h : unl listed n ≠ 0) : ∃ i, i < n ∧ listed.getD i true = false := by
  have : (List.range n).filter (fun i => !listed.getD i true) ≠ [] := fun e => h (by unfold unl; rw [e]; rfl)
  obtain ⟨i, hi⟩ := List.exists_mem_of_ne_nil _ this
  rw [List.mem_filter] at hi
  exact ⟨i, List.mem_range.1 hi.1, by simpa using hi.2⟩

theorem wpAny_soft {n : Nat} {R N : Nat → Value → World → Prop} {a0 : Act} {w0 : World} (hB : softB ops n = true)
    (hR : ∀ i v w w', Ext w0 w → Ext w w' → R i v w → R i v w') (hop : ∀ i, i < n → SoftOp P ops Q n R N a0 w0 i)
    (hsz : ∀ i, i < n → ∀ d, rdst ops i = some d → d < a0.tmps.size)
    (hend : ∀ (vs : Nat → Value) (w : World), Ext w0 w → (∀ i, i < n → R i (vs i) w) → (∀ i j, i < n → j < n → i ≠ j → SoftPair R N w0 vs i j) → wpList P ops Q (ops.toList.drop n) (putVals ops vs (List.range n) a0) w) :
    ∀ (f : Nat) (listed : Array Bool) (a : Act) (w : World) (vs : Nat → Value), unl listed n = f → SoftInv ops n R N a0 w0 vs listed a w → wpAny P .any ops Q (f + (ops.size - n)) listed a w := by
  simp only [softB, Bool.and_eq_true, Bool.or_eq_true, decide_eq_true_eq] at hB
  obtain ⟨⟨⟨⟨hn, hback⟩, hdst⟩, htail⟩, hseq⟩ := hB
  have hdd : ∀ i j, i < n → j < n → j ≠ i → ∀ d, rdst ops j = some d → rdst ops i ≠ some d := by
    intro i j hi hj hne d hd hd'
    have h1 := List.all_eq_true.1 (List.all_eq_true.1 hdst i (List.mem_range.2 hi)) j (List.mem_range.2 hj)
    simp [hd, hd', Ne.symm hne] at h1
  intro f
  induction f with
  | zero =>
    intro listed a w vs hu inv
    have hall := unl_zero (by rw [inv.head.size]; exact hn) hu
    have hlist : listed = firstTrue n ops.size := by
      apply Array.ext
      · simp [firstTrue, inv.head.size]
      · intro i h1 h2
        have h1' : i < ops.size := by rw [← inv.head.size]; exact h1
        by_cases hin : i < n
        · have := hall i hin
          simp [h1] at this
          simp [firstTrue, this, hin]
        · have := inv.head.tail i (by omega) h1'
          simp [h1] at this
          simp [firstTrue, this]
          omega
    rw [Nat.zero_add]
    have hw := hend vs w inv.ext (fun i hi => inv.facts i hi (hall i hi)) (fun i j hi hj hne => inv.pairs i j hi hj hne (hall i hi) (hall j hj))
    rw [inv.frame, putAll_full _ _ (fun j hj => hall j (List.mem_range.1 hj)), hlist]
    have hlen : (ops.toList.drop n).length = ops.size - n := by simp
    rw [← hlen]
    exact wpAny_of_seq (ops.toList.drop n) n _ _ _ (fun j => by simp) (by rw [hlen]; exact hseq) hw
  | succ f ih =>
    intro listed a w vs hu inv
    have hlsz : n ≤ listed.size := by rw [inv.head.size]; exact hn
    obtain ⟨k, hk, hkl, hkall⟩ := unlisted_least hlsz (unl_ex (by omega))
    have hkready : k ∈ Region.ready .any ops listed := by
      rw [mem_ready]
      have h1 := List.all_eq_true.1 hback k (List.mem_range.2 hk)
      cases ho : ops[k]? with
      | none => simp [ho] at h1
      | some o =>
        refine ⟨hkl, o, rfl, fun e he hbd => hkall _ ?_⟩
        simp only [ho, Option.map_some, Option.getD_some] at h1
        have h2 := Array.all_eq_true_iff_forall_mem.1 h1 e he
        simp only [hbd, Bool.not_true, Bool.false_or] at h2
        exact of_decide_eq_true h2
    rw [show f + 1 + (ops.size - n) = (f + (ops.size - n)) + 1 by omega]
    refine ⟨fun h0 => (by rw [h0] at hkready; cases hkready), fun i hi => ?_⟩
    have hin : i < n := by
      rcases Nat.lt_or_ge i n with h | h
      · exact h
      · rcases htail with h2 | ⟨⟨hs, hc⟩, hlt⟩
        · obtain ⟨_, o, ho, _⟩ := mem_ready.1 hi
          have := (Array.getElem?_eq_some_iff.1 ho).1
          omega
        · exact absurd hi (tail_waits hs hc hlt inv.head _ k rfl hk hkl i h)
    obtain ⟨hil, oi, hoi, hpre⟩ := mem_ready.1 hi
    have hpreds : ∀ j, predB ops i j = true → j < i ∧ listed.getD j false = true := by
      intro j hj
      obtain ⟨o', ho', e, he, hb, hon⟩ := Region.waitsFor_spec hj
      have : o' = oi := Option.some.inj (ho'.symm.trans hoi)
      subst this
      have h1 := List.all_eq_true.1 hback i (List.mem_range.2 hin)
      simp only [ho', Option.map_some, Option.getD_some] at h1
      have h2 := Array.all_eq_true_iff_forall_mem.1 h1 e he
      simp only [hb, Bool.not_true, Bool.false_or] at h2
      replace h2 := of_decide_eq_true h2
      rw [hon] at h2
      exact ⟨h2, by rw [← hon]; exact hpre e he hb⟩
    have h := hop i hin a w vs inv.ext (fun t ht => by rw [inv.frame]; exact putAll_get_other _ _ (fun j hj => ht j (List.mem_range.1 hj)))
      (fun j hj => by
        obtain ⟨hji, hjl⟩ := hpreds j hj
        refine ⟨inv.facts j (by omega) hjl, fun t ht => ?_⟩
        rw [inv.frame]
        exact putAll_get hjl ht _ _ List.nodup_range (List.mem_range.2 (by omega)) (hsz j (by omega) t ht) (fun k' hk' hne hd => hdd j k' (by omega) (List.mem_range.1 hk') hne t hd ht))
    refine wpOp_mono (fun a' w' ⟨v, ha', hext, hr, hN⟩ => ?_) h
    refine ih (listed.setIfInBounds i true) a' w' (fun j => if j = i then v else vs j) ?_ ⟨inv.head.set hi hin, inv.ext.trans hext, ?_, ?_, ?_⟩
    · have := unl_set hin hil
      omega
    · rw [ha', inv.frame]
      exact (putAll_set hil (List.range n) a0 List.nodup_range (List.mem_range.2 hin) (fun j hj hne d hd => hdd i j hin (List.mem_range.1 hj) hne d hd)).symm
    · intro j hj hjl
      by_cases hji : j = i
      · subst hji; simpa using hr
      · rw [getD_set_ne false (Ne.symm hji)] at hjl
        simp only [if_neg hji]
        exact hR j _ _ _ inv.ext hext (inv.facts j hj hjl)
    · intro j k hj hk hne hjl hkl
      by_cases hji : j = i
      · subst hji
        rw [getD_set_ne false hne] at hkl
        refine .inl ⟨w, inv.ext, ?_, ?_⟩
        · simp only [if_neg (Ne.symm hne)]; exact inv.facts k hk hkl
        · simp only [if_true]; exact hN
      · rw [getD_set_ne false (Ne.symm hji)] at hjl
        by_cases hki : k = i
        · subst hki
          refine .inr ⟨w, inv.ext, ?_, ?_⟩
          · simp only [if_neg hji]; exact inv.facts j hj hjl
          · simp only [if_true]; exact hN
        · rw [getD_set_ne false (Ne.symm hki)] at hkl
          have := inv.pairs j k hj hk hne hjl hkl
          unfold SoftPair at this ⊢
          simp only [if_neg hji, if_neg hki]
          exact this

theorem wp_region_soft {id : Nat} (n : Nat) (R N : Nat → Value → World → Prop) {l : List Oper} {a0 : Act} {w : World} (hm : P.follows .mixedOrders = true) (hB : softB l.toArray n = true)
    (hR : ∀ i v w1 w', Ext w w1 → Ext w1 w' → R i v w1 → R i v w') (hop : ∀ i, i < n → SoftOp P l.toArray Q n R N a0 w i)
    (hsz : ∀ i, i < n → ∀ d, rdst l.toArray i = some d → d < a0.tmps.size)
    (hend : ∀ (vs : Nat → Value) (w' : World), Ext w w' → (∀ i, i < n → R i (vs i) w') → (∀ i j, i < n → j < n → i ≠ j → SoftPair R N w vs i j) → wpList P l.toArray Q (l.drop n) (putVals l.toArray vs (List.range n) a0) w') :
    (Code.region id l.toArray true).wp P Q a0 w := by
  refine wp_region_any hm ?_
  have hd : Ext w { w with drawn := w.drawn + 1 } := (Ext.refl w).drew
  have hn : n ≤ l.toArray.size := by
    simp only [softB, Bool.and_eq_true, decide_eq_true_eq] at hB
    exact hB.1.1.1.1
  have key := wpAny_soft (P := P) (Q := Q) (ops := l.toArray) (n := n) (R := R) (N := N) (a0 := a0) (w0 := w) hB hR hop hsz (fun vs w' h1 h2 h3 => by simpa using hend vs w' h1 h2 h3)
  have hunl : unl (Array.replicate l.toArray.size false) n = n := by
    have hfil : (List.range n).filter (fun i => !(Array.replicate l.toArray.size false).getD i true) = List.range n := by
      apply List.filter_eq_self.2
      intro i hi
      have := List.mem_range.1 hi
      have hlt : i < l.toArray.size := by omega
      simp at hlt
      simp [hlt]
    simp only [unl, hfil, List.length_range]
  have := key n (Array.replicate l.toArray.size false) a0 _ (fun _ => undef) hunl ⟨⟨by simp, fun j oj _ hl => (by rw [getD_replicate_false] at hl; cases hl), fun t _ ht' => (by simp at ht'; simp [ht'])⟩, hd, ?_, fun i _ hl => (by rw [getD_replicate_false] at hl; cases hl), fun i j _ _ _ hl => (by rw [getD_replicate_false] at hl; cases hl)⟩
  · rw [show n + (l.toArray.size - n) = l.toArray.size by omega] at this
    exact this
  · have : ∀ (is : List Nat) (a : Act), putAll l.toArray (fun _ => undef) (Array.replicate l.toArray.size false) is a = a := by
      intro is
      induction is with
      | nil => intro a; rfl
      | cons i is ih => intro a; simp only [putAll, getD_replicate_false]; exact ih a
    exact (this _ _).symm


/-! ### The obligations over one frame: the one in which every operation of the head has laid its value. -/

def readsB (ops : Array Oper) (n : Nat) : Bool := (List.range n).all fun i => ((ops[i]?).map fun o =>
  ((o.looksAt ops).all fun t => ((List.range n).all fun j => !(rdst ops j == some t)) || ((List.range i).any fun j => predB ops i j && rdst ops j == some t))).getD false

/-- One operation of the head: R is what holds of its value. -/
def SoftAt (P : Program) (ops : Array Oper) (n : Nat) (R N : Nat → Value → World → Prop) (a0 : Act) (w0 : World) (i : Nat) : Prop :=
  ∀ (vs : Nat → Value) (w : World), Ext w0 w → (∀ j, predB ops i j = true → R j (vs j) w) →
    match ops[i]? with
    | none => False
    | some o => if Region.wanted o (yielded ops (putVals ops vs (List.range n) a0).tmps) = true then
        (∃ v w', (execOp (putVals ops vs (List.range n) a0).eval o).run P w = .ok (.value v) w' ∧ Ext w w' ∧ R i v w' ∧ N i v w) ∨
        (∃ w', (execOp (putVals ops vs (List.range n) a0).eval o).run P w = .ok .skip w' ∧ Ext w w' ∧ R i undef w' ∧ N i undef w) ∨
        (∃ f args, (execOp (putVals ops vs (List.range n) a0).eval o).run P w = .ok (.enter f args) w ∧ Calls P f args w (fun e w' => ∃ v, e = .returned v ∧ Ext w w' ∧ R i v w' ∧ N i v w))
      else R i undef w ∧ N i undef w

theorem putVals_get_other {vs : Nat → Value} {t : Nat} : ∀ (is : List Nat) (a : Act), (∀ j ∈ is, rdst ops j ≠ some t) → (putVals ops vs is a).tmps[t]? = a.tmps[t]?
  | [], _, _ => rfl
  | i :: is, a, h => by
    simp only [putVals]
    rw [putVals_get_other is _ (fun j hj => h j (by simp [hj]))]
    have := h i (by simp)
    unfold Act.put
    split
    · rename_i d hd
      have hne : d ≠ t := fun e => this (by rw [hd, e])
      simp [Array.getElem?_setIfInBounds_ne hne]
    · rfl

theorem putVals_get {vs : Nat → Value} {i t : Nat} (ht : rdst ops i = some t) : ∀ (is : List Nat) (a : Act), is.Nodup → i ∈ is → t < a.tmps.size →
    (∀ j ∈ is, j ≠ i → rdst ops j ≠ some t) → (putVals ops vs is a).tmps[t]? = some (vs i)
  | [], _, _, h, _, _ => by cases h
  | k :: is, a, hnd, hi, hsz, hd => by
    obtain ⟨hk, hnd'⟩ := List.nodup_cons.1 hnd
    simp only [putVals]
    by_cases hki : k = i
    · subst hki
      rw [putVals_get_other is _ (fun j hj => hd j (by simp [hj]) (fun e => hk (e ▸ hj)))]
      simp [Act.put, ht, hsz]
    · have hmem : i ∈ is := by
        rcases List.mem_cons.1 hi with h | h
        · exact absurd h.symm hki
        · exact h
      refine putVals_get ht is _ hnd' hmem ?_ (fun j hj => hd j (by simp [hj]))
      unfold Act.put; split <;> simp [hsz]

theorem upon_of {o : Oper} {a : Act} {K : Act → World → Prop} {r : Result Next} {w : World} {i : Nat} {R N : Nat → Value → World → Prop}
    (h : (∃ v w', r = .ok (.value v) w' ∧ Ext w w' ∧ R i v w' ∧ N i v w) ∨ (∃ w', r = .ok .skip w' ∧ Ext w w' ∧ R i undef w' ∧ N i undef w) ∨ (∃ f args, r = .ok (.enter f args) w ∧ Calls P f args w (fun e w' => ∃ v, e = .returned v ∧ Ext w w' ∧ R i v w' ∧ N i v w)))
    (hK : ∀ v w', Ext w w' → R i v w' ∧ N i v w → K (a.put o.dst v) w') : o.upon P a K Q r := by
  rcases h with ⟨v, w', rfl, h1, h2⟩ | ⟨w', rfl, h1, h2⟩ | ⟨f, args, rfl, h⟩
  · exact hK v w' h1 h2
  · exact hK undef w' h1 h2
  · exact h.mono fun e w' ⟨v, he, h1, h2⟩ => by subst he; exact hK v w' h1 h2

theorem softOp_of_at {n : Nat} {R N : Nat → Value → World → Prop} {a0 : Act} {w0 : World} {i : Nat} (hi : i < n) (hB : softB ops n = true) (hS : Region.noSelect ops = true) (hr : readsB ops n = true)
    (hsz : ∀ i, i < n → ∀ d, rdst ops i = some d → d < a0.tmps.size) (h : SoftAt P ops n R N a0 w0 i) : SoftOp P ops Q n R N a0 w0 i := by
  intro a w vs hE hoth hpre
  have h1 := h vs w hE (fun j hj => (hpre j hj).1)
  simp only [softB, Bool.and_eq_true, Bool.or_eq_true, decide_eq_true_eq] at hB
  obtain ⟨⟨⟨⟨hn, hback⟩, hdst⟩, _⟩, _⟩ := hB
  have hdd : ∀ i j, i < n → j < n → j ≠ i → ∀ d, rdst ops j = some d → rdst ops i ≠ some d := by
    intro i j hi hj hne d hd hd'
    have h1 := List.all_eq_true.1 (List.all_eq_true.1 hdst i (List.mem_range.2 hi)) j (List.mem_range.2 hj)
    simp [hd, hd', Ne.symm hne] at h1
  unfold wpOp
  cases ho : ops[i]? with
  | none => simp only [ho] at h1
  | some o =>
    simp only [ho] at h1 ⊢
    have hrd := List.all_eq_true.1 hr i (List.mem_range.2 hi)
    simp only [ho, Option.map_some, Option.getD_some] at hrd
    have hslot : ∀ t ∈ o.looksAt ops, a.tmps[t]? = (putVals ops vs (List.range n) a0).tmps[t]? := by
      intro t ht
      have h2 := List.all_eq_true.1 hrd t ht
      simp only [Bool.or_eq_true] at h2
      rcases h2 with h2 | h2
      · have h3 : ∀ j, j < n → rdst ops j ≠ some t := fun j hj => by
          have := List.all_eq_true.1 h2 j (List.mem_range.2 hj)
          simpa using this
        rw [hoth t h3, putVals_get_other _ _ (fun j hj => h3 j (List.mem_range.1 hj))]
      · obtain ⟨j, hj, h3⟩ := List.any_eq_true.1 h2
        simp only [Bool.and_eq_true, beq_iff_eq] at h3
        have hjn : j < n := by have := List.mem_range.1 hj; omega
        rw [(hpre j h3.1).2 t h3.2, putVals_get h3.2 _ _ List.nodup_range (List.mem_range.2 hjn) (hsz j hjn t h3.2) (fun k hk hne hd => hdd j k hjn (List.mem_range.1 hk) hne t hd h3.2)]
    have hev : ∀ x ∈ o.op.operands, a.eval x = (putVals ops vs (List.range n) a0).eval x := by
      intro x hx
      cases x with
      | tmp t =>
        have ht : t ∈ o.looksAt ops := by
          unfold Oper.looksAt
          refine List.mem_append_left _ (List.mem_filterMap.2 ⟨.tmp t, ?_, rfl⟩)
          simpa using hx
        simp only [Act.eval, Array.getD_eq_getD_getElem?, hslot t ht]
      | const v => rfl
      | global g => rfl
      | func f => rfl
    have hex := execOp_congr (ρ := a.eval) (ρ' := (putVals ops vs (List.range n) a0).eval) o (fun cs b => Region.noSelect_spec hS i o cs b ho) hev
    have hwant : Region.wanted o (yielded ops a.tmps) = Region.wanted o (yielded ops (putVals ops vs (List.range n) a0).tmps) := by
      unfold Region.wanted
      cases hg : o.guard with
      | none => rfl
      | some g =>
        obtain ⟨j, want⟩ := g
        have : yielded ops a.tmps j = yielded ops (putVals ops vs (List.range n) a0).tmps j := by
          unfold yielded
          cases hd : (ops[j]?).bind (·.dst) with
          | none => rfl
          | some d =>
            have ht : d ∈ o.looksAt ops := by
              unfold Oper.looksAt
              refine List.mem_append_right _ ?_
              simp [hg, hd]
            simp only [Option.bind_some, hslot d ht]
        simp only [this]
    rw [hwant]
    by_cases hw : Region.wanted o (yielded ops (putVals ops vs (List.range n) a0).tmps) = true
    · rw [if_pos hw] at h1 ⊢
      refine .inl ?_
      unfold Oper.wp
      rw [hex]
      exact upon_of (R := R) (N := N) h1 (fun v w' h2 h3 => ⟨v, by simp [rdst, ho], h2, h3.1, h3.2⟩)
    · rw [if_neg hw] at h1 ⊢
      exact ⟨undef, by simp [rdst, ho], Ext.refl w, h1.1, h1.2⟩

/-- **A REGION THAT DRAWS ITS ORDER**: one obligation for each operation of its head, over the frame with all values laid; then its tail. -/
theorem wp_region_softly {id : Nat} (n : Nat) (R N : Nat → Value → World → Prop) {l : List Oper} {a0 : Act} {w : World} (hm : P.follows .mixedOrders = true)
    (hB : (softB l.toArray n && Region.noSelect l.toArray && readsB l.toArray n && (List.range n).all fun i => ((rdst l.toArray i).map fun d => decide (d < a0.tmps.size)).getD true) = true)
    (hR : ∀ i, i < n → ∀ v w1 w', Ext w w1 → Ext w1 w' → R i v w1 → R i v w') (hop : ∀ i, i < n → SoftAt P l.toArray n R N a0 w i)
    (hend : ∀ (vs : Nat → Value) (w' : World), Ext w w' → (∀ i, i < n → R i (vs i) w') → (∀ i j, i < n → j < n → i ≠ j → SoftPair R N w vs i j) → wpList P l.toArray Q (l.drop n) (putVals l.toArray vs (List.range n) a0) w') :
    (Code.region id l.toArray true).wp P Q a0 w := by
  simp only [Bool.and_eq_true] at hB
  obtain ⟨⟨⟨h1, h2⟩, h3⟩, h4⟩ := hB
  have hsz : ∀ i, i < n → ∀ d, rdst l.toArray i = some d → d < a0.tmps.size := fun i hi d hd => by
    have := List.all_eq_true.1 h4 i (List.mem_range.2 hi)
    simpa [hd] using this
  refine wp_region_soft n (fun i v w => i < n → R i v w) N hm h1 (fun i v w1 w' e1 e2 hr hi => hR i hi v w1 w' e1 e2 (hr hi)) (fun i hi => softOp_of_at hi h1 h2 h3 hsz ?_) hsz (fun vs w' he hr hp => hend vs w' he (fun i hi => hr i hi hi) (fun i j hi hj hne => (hp i j hi hj hne).imp (fun ⟨W, q1, q2, q3⟩ => ⟨W, q1, q2 hj, q3⟩) (fun ⟨W, q1, q2, q3⟩ => ⟨W, q1, q2 hi, q3⟩)))
  intro vs w' he hp
  have hpi : ∀ j, predB l.toArray i j = true → j < n := by
    intro j hj
    obtain ⟨o', ho', e, he, hb, hon⟩ := Region.waitsFor_spec hj
    simp only [softB, Bool.and_eq_true, Bool.or_eq_true, decide_eq_true_eq] at h1
    have h5 := List.all_eq_true.1 h1.1.1.1.2 i (List.mem_range.2 hi)
    simp only [ho', Option.map_some, Option.getD_some] at h5
    have h6 := Array.all_eq_true_iff_forall_mem.1 h5 e he
    simp only [hb, Bool.not_true, Bool.false_or] at h6
    replace h6 := of_decide_eq_true h6
    omega
  have h5 := hop i hi vs w' he (fun j hj => hp j hj (hpi j hj))
  cases ho : l.toArray[i]? with
  | none => simp only [ho] at h5
  | some o =>
    simp only [ho] at h5 ⊢
    split
    · rename_i hw
      rw [if_pos hw] at h5
      rcases h5 with ⟨v, w'', e1, e2, e3, e4⟩ | ⟨w'', e1, e2, e3, e4⟩ | ⟨f, args, e1, e2⟩
      · exact .inl ⟨v, w'', e1, e2, fun _ => e3, e4⟩
      · exact .inr (.inl ⟨w'', e1, e2, fun _ => e3, e4⟩)
      · exact .inr (.inr ⟨f, args, e1, e2.mono fun e w'' ⟨v, q1, q2, q3, q4⟩ => ⟨v, q1, q2, fun _ => q3, q4⟩⟩)
    · rename_i hw
      rw [if_neg hw] at h5
      exact ⟨fun _ => h5.1, h5.2⟩


/-! ### The same, the frame and the operations written out. -/

def SoftRun (P : Program) (r : Result Next) (w : World) (R N : Value → World → Prop) : Prop :=
  (∃ v w', r = .ok (.value v) w' ∧ Ext w w' ∧ R v w' ∧ N v w) ∨ (∃ w', r = .ok .skip w' ∧ Ext w w' ∧ R undef w' ∧ N undef w) ∨
    (∃ f args, r = .ok (.enter f args) w ∧ Calls P f args w (fun e w' => ∃ v, e = .returned v ∧ Ext w w' ∧ R v w' ∧ N v w))

def SoftOne (P : Program) (ops : Array Oper) (R N : Nat → Value → World → Prop) (F : (Nat → Value) → Act) (w0 : World) (o : Oper) (i : Nat) : Prop :=
  ∀ (vs : Nat → Value) (w : World), Ext w0 w → (∀ j, predB ops i j = true → R j (vs j) w) →
    if Region.wanted o (yielded ops (F vs).tmps) = true then SoftRun P ((execOp (F vs).eval o).run P w) w (R i) (N i) else R i undef w ∧ N i undef w

def SoftAll (P : Program) (ops : Array Oper) (R N : Nat → Value → World → Prop) (F : (Nat → Value) → Act) (w0 : World) : List Oper → Nat → Prop
  | [], _ => True
  | o :: os, i => SoftOne P ops R N F w0 o i ∧ SoftAll P ops R N F w0 os (i + 1)

theorem SoftAll.get {P : Program} {ops : Array Oper} {R N : Nat → Value → World → Prop} {F : (Nat → Value) → Act} {w0 : World} : ∀ (l : List Oper) (i : Nat), SoftAll P ops R N F w0 l i →
    ∀ j o, l[j]? = some o → SoftOne P ops R N F w0 o (i + j)
  | [], _, _, _, _, h => by simp at h
  | o :: os, i, h, 0, o', ho => by
    simp at ho
    subst ho
    exact h.1
  | o :: os, i, h, j + 1, o', ho => by
    have := SoftAll.get os (i + 1) h.2 j o' (by simpa using ho)
    rwa [show i + 1 + j = i + (j + 1) by omega] at this

theorem wp_region_drawn2 {id : Nat} (n : Nat) (R N : Nat → Value → World → Prop) (F : (Nat → Value) → Act) {l : List Oper} {a0 : Act} {w : World} (hm : P.follows .mixedOrders = true)
    (hB : (softB l.toArray n && Region.noSelect l.toArray && readsB l.toArray n && (List.range n).all fun i => ((rdst l.toArray i).map fun d => decide (d < a0.tmps.size)).getD true) = true)
    (hF : ∀ vs, putVals l.toArray vs (List.range n) a0 = F vs)
    (hR : ∀ i, i < n → ∀ v w1 w', Ext w w1 → Ext w1 w' → R i v w1 → R i v w') (hop : SoftAll P l.toArray R N F w (l.take n) 0)
    (hend : ∀ (vs : Nat → Value) (w' : World), Ext w w' → (∀ i, i < n → R i (vs i) w') → (∀ i j, i < n → j < n → i ≠ j → SoftPair R N w vs i j) → wpList P l.toArray Q (l.drop n) (F vs) w') :
    (Code.region id l.toArray true).wp P Q a0 w := by
  refine wp_region_softly n R N hm hB hR (fun i hi => ?_) (fun vs w' h1 h2 h3 => by rw [hF]; exact hend vs w' h1 h2 h3)
  intro vs w' h1 h2
  have hn : n ≤ l.toArray.size := by
    simp only [softB, Bool.and_eq_true, decide_eq_true_eq] at hB
    exact hB.1.1.1.1.1.1.1
  have hil : i < l.length := by simp at hn; omega
  have ho : l.toArray[i]? = some l[i] := by simp [hil]
  have ho' : (l.take n)[i]? = some l[i] := by rw [List.getElem?_take, if_pos hi]; simp [hil]
  have := SoftAll.get _ 0 hop i _ ho' vs w' h1 (by simpa using h2)
  simp only [ho, hF]
  simpa [SoftRun] using this

theorem wp_region_drawn {id : Nat} (n : Nat) (R : Nat → Value → World → Prop) (F : (Nat → Value) → Act) {l : List Oper} {a0 : Act} {w : World} (hm : P.follows .mixedOrders = true)
    (hB : (softB l.toArray n && Region.noSelect l.toArray && readsB l.toArray n && (List.range n).all fun i => ((rdst l.toArray i).map fun d => decide (d < a0.tmps.size)).getD true) = true)
    (hF : ∀ vs, putVals l.toArray vs (List.range n) a0 = F vs)
    (hR : ∀ i, i < n → ∀ v w1 w', Ext w w1 → Ext w1 w' → R i v w1 → R i v w') (hop : SoftAll P l.toArray R (fun _ _ _ => True) F w (l.take n) 0)
    (hend : ∀ (vs : Nat → Value) (w' : World), Ext w w' → (∀ i, i < n → R i (vs i) w') → wpList P l.toArray Q (l.drop n) (F vs) w') :
    (Code.region id l.toArray true).wp P Q a0 w :=
  wp_region_drawn2 n R (fun _ _ _ => True) F hm hB hF hR hop (fun vs w' h1 h2 _ => hend vs w' h1 h2)

theorem soft_plain {P : Program} {R N : Value → World → Prop} {y : Nat → Option Bool} {o : Oper} {r : Result Next} {w : World} {U : Prop} (hg : o.guard = none) (h : SoftRun P r w R N) : if Region.wanted o y = true then SoftRun P r w R N else U := by
  unfold Region.wanted
  simp only [hg, if_true]
  exact h
theorem soft_want {P : Program} {R N : Value → World → Prop} {y : Nat → Option Bool} {o : Oper} {r : Result Next} {w : World} {U : Prop} (hg : Region.wanted o y = true) (h : SoftRun P r w R N) : if Region.wanted o y = true then SoftRun P r w R N else U := by
  rw [if_pos hg]; exact h
theorem soft_skip {P : Program} {R : Value → World → Prop} {y : Nat → Option Bool} {o : Oper} {r : Result Next} {w : World} (hg : Region.wanted o y = false) (h : R undef w) : if Region.wanted o y = true then SoftRun P r w R (fun _ _ => True) else R undef w ∧ True := by
  rw [hg]; exact ⟨h, trivial⟩
theorem soft_val {P : Program} {R : Value → World → Prop} {r : Result Next} {w : World} {v : Value} (hr : R v w) (h : r = .ok (.value v) w) : SoftRun P r w R (fun _ _ => True) := .inl ⟨v, w, h, Ext.refl w, hr, trivial⟩
theorem soft_new {P : Program} {R : Value → World → Prop} {r : Result Next} {w w' : World} {v : Value} (h : r = .ok (.value v) w') (he : Ext w w') (hr : R v w') : SoftRun P r w R (fun _ _ => True) := .inl ⟨v, w', h, he, hr, trivial⟩
theorem soft_val2 {P : Program} {R N : Value → World → Prop} {r : Result Next} {w w' : World} {v : Value} (h : r = .ok (.value v) w') (he : Ext w w') (hr : R v w') (hN : N v w) : SoftRun P r w R N := .inl ⟨v, w', h, he, hr, hN⟩
theorem soft_call {P : Program} {R : Value → World → Prop} {r : Result Next} {w : World} {f : FuncId} {args : Array Value} (h : r = .ok (.enter f args) w) (hc : Calls P f args w (fun e w' => ∃ v, e = .returned v ∧ Ext w w' ∧ R v w')) : SoftRun P r w R (fun _ _ => True) :=
  .inr (.inr ⟨f, args, h, hc.mono fun _ _ ⟨v, h1, h2, h3⟩ => ⟨v, h1, h2, h3, trivial⟩⟩)
theorem soft_call2 {P : Program} {R N : Value → World → Prop} {r : Result Next} {w : World} {f : FuncId} {args : Array Value} (h : r = .ok (.enter f args) w) (hc : Calls P f args w (fun e w' => ∃ v, e = .returned v ∧ Ext w w' ∧ R v w' ∧ N v w)) : SoftRun P r w R N := .inr (.inr ⟨f, args, h, hc⟩)

end
end Go.Proofs.Ythidakffgcjjiaa
