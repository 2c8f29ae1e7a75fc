/- lat: Join, Meet, Leq and Same answer, for any two rows, what the document's answer: for every input, with no condition. -/
import Derived.Test.YthidakffgcjjiaaLawJoins
import Derived.Test.YthidakffgcjjiaaOpen
namespace Go.Proofs.Ythidakffgcjjiaa
open Go.ChangeShapes Go.WideShapes Go.ChangeAt Go.RowKit

set_option maxRecDepth 100000 in
theorem latJoins_lifted (os : Os) (started : os.Started) (H : Type) (enc : TypeId × Value → H) :
    ReturnsInHanded {} Try.checked os 3 .any (Rows.latJoinsSpec.pre6 enc Try.prog Try.f3 Rows.latJoinsRow.domain false) (Rows.latJoinsSpec.post enc Try.prog Try.f3 false true false false) := by
  refine returnsInHanded_of_change_sized (C := Try.checked) Try.own started (by kernel_rfl) Try.func3
    (ChangeSpec.witness6 (enc := enc) (C := Try.checked) false ⟨#[], #[.slice none 0 0, .slice none 0 0], []⟩ 64 (by kernel_rfl) (by kernel_rfl) (by kernel_rfl) (by kernel_rfl)) ?_
  intro W base args ds gs before hval0 hW hcnd hsz _
  have hval : ∀ (j : Nat) t v, Try.f3.params[j]? = some t → args[j]? = some v → Value.okWide Try.prog W .any base t v := hval0
  have hW' := hW
  obtain ⟨p, q, hA0, hV, rfl, hfz, hnd⟩ := hW
  have hA : DataW.TrodAll enc Try.prog W 0 (fun _ => true) true Try.f3.params.toList args.toList ds p := hA0
  rw [Try.params3] at hA hval
  obtain ⟨v0, v1, d0, d1, p0, p1, rfl, rfl, rfl, h0, h1⟩ := trodAll_two hA
  obtain ⟨rfl, rfl⟩ := trodVars_none hV
  have hsz' : (DataW.weightsEach Try.prog (Try.f3.params.toList ++ []) ([d0, d1] ++ [])).all (· ≤ reachBytes) = true := hsz
  rw [Try.params3, List.append_nil, List.append_nil] at hsz'
  obtain ⟨l0, hl0⟩ := open_atoms (hval 0 22 v0 rfl rfl) h0 hsz' (j := 0) rfl rfl
  obtain ⟨l1, hl1⟩ := open_atoms (hval 1 22 v1 rfl rfl) h1 hsz' (j := 1) rfl rfl
  have hlt : ∀ x ∈ p0 ++ p1 ++ [], x.block < W.heap.size := fun x hx => by simpa using hW'.lt x hx
  refine (c_latJoins v0 v1 l0 l1 W hl0 hl1).mono fun e W' ⟨he, hb⟩ => ?_
  subst he
  have a0 := kept_arg (by kernel_rfl) (of_decide_eq_true (by kernel_rfl)) h0 hb (fun x hx => hlt x (by simp [hx]))
  have a1 := kept_arg (by kernel_rfl) (of_decide_eq_true (by kernel_rfl)) h1 hb (fun x hx => hlt x (by simp [hx]))
  exact ⟨_, rfl, ⟨_, _, _, [], _, [], hW', trodAll_mk1 shut_true, trodAll_mk2 a0 a1, rfl, RowKit.Below.frame hb _, fun h => by cases h⟩⟩

theorem latJoins_holds : Rows.LatJoinsSaid :=
  OpenClaim.holds_of_wide 3 Try.f3 rfl rfl rfl rfl rfl rfl rfl ⟨rfl, rfl, rfl, rfl, rfl⟩ rfl rfl rfl rfl rfl (by kernel_rfl) Try.func3 (by kernel_rfl)
    (of_decide_eq_true (by kernel_rfl)) (by unfold Func.isWrapper; rw [if_neg (by decide +kernel)]; exact ⟨rfl, rfl⟩)
    (fun os started H enc _ => latJoins_lifted os started H enc)
#print axioms latJoins_holds
end Go.Proofs.Ythidakffgcjjiaa
