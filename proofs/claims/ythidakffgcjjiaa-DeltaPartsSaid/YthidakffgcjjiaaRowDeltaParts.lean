/- delta: a state's parts are irreducible and irredundant, their join is the state, and a state with one atom is not the join of two others: for every input, with no condition. -/
import Derived.Test.YthidakffgcjjiaaLaw11b
import Derived.Test.YthidakffgcjjiaaOpen
namespace Go.Proofs.Ythidakffgcjjiaa
open Go.ChangeShapes Go.WideShapes Go.ChangeAt Go.RowKit

set_option maxRecDepth 100000 in
theorem deltaParts_lifted (os : Os) (started : os.Started) (H : Type) (enc : TypeId × Value → H) :
    ReturnsInHanded {} Try.checked os 10 .any (Rows.deltaPartsSpec.pre6 enc Try.prog Try.f10 Rows.deltaPartsRow.domain false) (Rows.deltaPartsSpec.post enc Try.prog Try.f10 false true false false) := by
  refine returnsInHanded_of_change_sized (C := Try.checked) Try.own started (by kernel_rfl) Try.func10
    (ChangeSpec.witness6 (enc := enc) (C := Try.checked) false ⟨#[], #[.slice none 0 0, .slice none 0 0, .slice none 0 0], []⟩ 64 (by kernel_rfl) (by kernel_rfl) (by kernel_rfl) (by kernel_rfl)) ?_
  intro W base args ds gs before hval0 hW hcnd hsz _
  have hval : ∀ (j : Nat) t v, Try.f10.params[j]? = some t → args[j]? = some v → Value.okWide Try.prog W .any base t v := hval0
  have hW' := hW
  obtain ⟨p, q, hA0, hV, rfl, hfz, hnd⟩ := hW
  have hA : DataW.TrodAll enc Try.prog W 0 (fun _ => true) true Try.f10.params.toList args.toList ds p := hA0
  rw [Try.params10] at hA hval
  obtain ⟨v0, v1, v2, d0, d1, d2, p0, p1, p2, rfl, rfl, rfl, h0, h1, h2⟩ := trodAll_three hA
  obtain ⟨rfl, rfl⟩ := trodVars_none hV
  have hsz' : (DataW.weightsEach Try.prog (Try.f10.params.toList ++ []) ([d0, d1, d2] ++ [])).all (· ≤ reachBytes) = true := hsz
  rw [Try.params10, List.append_nil, List.append_nil] at hsz'
  obtain ⟨l0, hl0⟩ := open_atoms (hval 0 22 v0 rfl rfl) h0 hsz' (j := 0) rfl rfl
  obtain ⟨l1, hl1⟩ := open_atoms (hval 1 22 v1 rfl rfl) h1 hsz' (j := 1) rfl rfl
  obtain ⟨l2, hl2⟩ := open_atoms (hval 2 22 v2 rfl rfl) h2 hsz' (j := 2) rfl rfl
  have hlt : ∀ x ∈ p0 ++ p1 ++ p2 ++ [], x.block < W.heap.size := fun x hx => by simpa using hW'.lt x hx
  refine (c_deltaParts v0 v1 v2 l0 l1 l2 W hl0 hl1 hl2).mono fun e W' ⟨he, hb⟩ => ?_
  subst he
  have a0 := kept_arg (by kernel_rfl) (of_decide_eq_true (by kernel_rfl)) h0 hb (fun x hx => hlt x (by simp [hx]))
  have a1 := kept_arg (by kernel_rfl) (of_decide_eq_true (by kernel_rfl)) h1 hb (fun x hx => hlt x (by simp [hx]))
  have a2 := kept_arg (by kernel_rfl) (of_decide_eq_true (by kernel_rfl)) h2 hb (fun x hx => hlt x (by simp [hx]))
  exact ⟨_, rfl, ⟨_, _, _, [], _, [], hW', trodAll_mk1 shut_true, trodAll_mk3 a0 a1 a2, rfl, RowKit.Below.frame hb _, fun h => by cases h⟩⟩

theorem deltaParts_holds : Rows.DeltaPartsSaid :=
  OpenClaim.holds_of_wide 10 Try.f10 rfl rfl rfl rfl rfl rfl rfl ⟨rfl, rfl, rfl, rfl, rfl⟩ rfl rfl rfl rfl rfl (by kernel_rfl) Try.func10 (by kernel_rfl)
    (of_decide_eq_true (by kernel_rfl)) (by unfold Func.isWrapper; rw [if_neg (by decide +kernel)]; exact ⟨rfl, rfl⟩)
    (fun os started H enc _ => deltaParts_lifted os started H enc)
#print axioms deltaParts_holds
end Go.Proofs.Ythidakffgcjjiaa
