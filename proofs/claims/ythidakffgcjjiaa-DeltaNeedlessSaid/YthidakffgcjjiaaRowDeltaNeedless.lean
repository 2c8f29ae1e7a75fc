/- delta: Needless and Irredundant answer, for any rows, what the document's answer: for every input, with no condition. -/
import Derived.Test.YthidakffgcjjiaaLaw11c
import Derived.Test.YthidakffgcjjiaaOpenRows
namespace Go.Proofs.Ythidakffgcjjiaa
open Go.ChangeShapes Go.WideShapes Go.ChangeAt Go.RowKit

set_option maxRecDepth 100000 in
theorem deltaNeedless_lifted (os : Os) (started : os.Started) (H : Type) (enc : TypeId × Value → H) :
    ReturnsInHanded {} Try.checked os 7 .any (Rows.deltaNeedlessSpec.pre6 enc Try.prog Try.f7 Rows.deltaNeedlessRow.domain false) (Rows.deltaNeedlessSpec.post enc Try.prog Try.f7 false true false false) := by
  refine returnsInHanded_of_change_sized (C := Try.checked) Try.own started (by kernel_rfl) Try.func7
    (ChangeSpec.witness6 (enc := enc) (C := Try.checked) false ⟨#[], #[.slice none 0 0], []⟩ 64 (by kernel_rfl) (by kernel_rfl) (by kernel_rfl) (by kernel_rfl)) ?_
  intro W base args ds gs before hval0 hW hcnd hsz _
  have hval : ∀ (j : Nat) t v, Try.f7.params[j]? = some t → args[j]? = some v → Value.okWide Try.prog W .any base t v := hval0
  have hW' := hW
  obtain ⟨p, q, hA0, hV, rfl, hfz, hnd⟩ := hW
  have hA : DataW.TrodAll enc Try.prog W 0 (fun _ => true) true Try.f7.params.toList args.toList ds p := hA0
  rw [Try.params7] at hA hval
  obtain ⟨v0, d0, rfl, rfl, h0⟩ := trodAll_one hA
  obtain ⟨rfl, rfl⟩ := trodVars_none hV
  have hsz' : (DataW.weightsEach Try.prog (Try.f7.params.toList ++ []) ([d0] ++ [])).all (· ≤ reachBytes) = true := hsz
  rw [Try.params7, List.append_nil, List.append_nil] at hsz'
  obtain ⟨rs0, ls0, hr0, hs0, hn0, hc0⟩ := open_rows (hval 0 42 v0 rfl rfl) h0 hsz' (j := 0) rfl rfl
  have hlt : ∀ x ∈ p ++ [], x.block < W.heap.size := fun x hx => by simpa using hW'.lt x hx
  refine (c_deltaNeedless v0 rs0 ls0 W hr0 hs0 hn0 hc0).mono fun e W' ⟨he, hb⟩ => ?_
  subst he
  have a0 := kept_arg (by kernel_rfl) (of_decide_eq_true (by kernel_rfl)) h0 hb (fun x hx => hlt x (by simp [hx]))
  exact ⟨_, rfl, ⟨_, _, _, [], _, [], hW', trodAll_mk1 shut_true, trodAll_mk1 a0, rfl, RowKit.Below.frame hb _, fun h => by cases h⟩⟩

theorem deltaNeedless_holds : Rows.DeltaNeedlessSaid :=
  OpenClaim.holds_of_wide 7 Try.f7 rfl rfl rfl rfl rfl rfl rfl ⟨rfl, rfl, rfl, rfl, rfl⟩ rfl rfl rfl rfl rfl (by kernel_rfl) Try.func7 (by kernel_rfl)
    (of_decide_eq_true (by kernel_rfl)) (by unfold Func.isWrapper; rw [if_neg (by decide +kernel)]; exact ⟨rfl, rfl⟩)
    (fun os started H enc _ => deltaNeedless_lifted os started H enc)
#print axioms deltaNeedless_holds
end Go.Proofs.Ythidakffgcjjiaa
