/-
  'FnExactOptionsOk' holds for every input: the frame. The walk is in the texts that are imported.
-/
import Derived.Test.YtbddfbgbjlfocaaFacts
import Derived.Test.YtbddfbgbjlfocaaBase
import Derived.Test.YtbddfbgbjlfocaaOpen
import Derived.Test.YtbddfbgbjlfocaaOptions
namespace Go.Proofs.Ytbddfbgbjlfocaa.fnExactOptionsOk
open Go.ChangeShapes Go.WideShapes Go.ChangeAt Go.RowKit
open Go.ChangeMaps (open_string)
set_option linter.unusedVariables false

set_option maxRecDepth 100000 in
theorem lifted (os : Os) (started : os.Started) (H : Type) (enc : TypeId × Value → H) :
    ReturnsInHanded {} Try.checked os 5 .any (Rows.fnExactOptionsOkSpec.pre6 enc Try.prog Try.f5 Rows.fnExactOptionsOkRow.domain false) (Rows.fnExactOptionsOkSpec.post enc Try.prog Try.f5 false true false false) := by
  refine returnsInHanded_of_change (C := Try.checked) own started (by kernel_rfl) Try.func5
    (ChangeSpec.witness6 (enc := enc) (C := Try.checked) false ⟨#[], #[.agg #[.int .i64 0, .int .i64 0, .bool false, .bool false, .bool false]], []⟩ 8 (by kernel_rfl) (by kernel_rfl) (by kernel_rfl) (by kernel_rfl)) ?_
  intro W base args ds gs before hval0 hW hcnd _
  have hval : ∀ (j : Nat) t v, Try.f5.params[j]? = some t → args[j]? = some v → Value.okWide Try.prog W .any base t v := hval0
  have hW' := hW
  obtain ⟨p, q, hA0, hV, rfl, hfz, hnd⟩ := hW
  have hA : DataW.TrodAll enc Try.prog W 0 (fun _ => true) true Try.f5.params.toList args.toList ds p := hA0
  have hlt : ∀ x ∈ p, x.block < W.heap.size := fun x hx => hW'.lt x (List.mem_append.2 (.inl hx))
  have hA1 := hA
  rw [Try.params5] at hA hval
  obtain ⟨v0, vs0, d0, ds0, p0, q0, hargs, rfl, rfl, h0, r0⟩ := trodAll_cons hA
  obtain ⟨rfl, rfl, rfl⟩ := trodAll_nil r0
  obtain rfl : args = #[v0] := by cases args; simp_all
  obtain ⟨rfl, rfl⟩ := trodVars_none hV
  obtain ⟨a0a, a0b, a0c, a0d, a0e, rfl, w0a, w0b⟩ := open_options (hval 0 32 v0 rfl rfl) h0
  clear hA0 hval0
  refine (lawOptionsOk a0a a0b a0c a0d a0e W w0a w0b).mono fun e W' ⟨he, hg⟩ => ?_
  subst he
  exact ⟨_, rfl, post_of_below (pv := []) hW' (fun _ _ _ => trodAll_mk1 (shut_bool Try.underlying4 _)) (fun sp hsp => trodAll_stays pLaid (by kernel_rfl) hA1 (fun x hx => hg.same (hlt x hx)) (fun x hx => hsp x (List.mem_append.2 (.inl hx)))) (fun _ _ => rfl) rfl hg (ok_one (by kernel_rfl) rfl (okWide_bool_mk Try.underlying4 _))⟩

theorem hfn : Try.prog.funcNamed Rows.fnExactOptionsOkRow.func = some 5 := by kernel_rfl
theorem hinst : Try.f5.isInstance Try.prog Rows.fnExactOptionsOkRow.origin Rows.fnExactOptionsOkRow.targs := of_decide_eq_true (by kernel_rfl)
theorem hwrap : Try.f5.isWrapper Try.prog Rows.fnExactOptionsOkRow.wrapper Rows.fnExactOptionsOkRow.mainSum := by unfold Func.isWrapper; rw [if_neg (of_decide_eq_false (by kernel_rfl))]; exact ⟨rfl, rfl⟩
theorem joined : joinedFacts Try.prog 5 Try.f5 Rows.fnExactOptionsOkSpec Rows.fnExactOptionsOkRow = true := by
  unfold joinedFacts
  simp only [Bool.and_eq_true]
  exact ⟨⟨⟨⟨⟨⟨⟨⟨⟨⟨⟨⟨⟨⟨⟨⟨⟨⟨⟨⟨⟨⟨⟨⟨⟨⟨⟨⟨⟨⟨⟨(by as_aux_lemma => kernel_rfl), pLaid⟩, pMaps⟩, (by as_aux_lemma => kernel_rfl)⟩, (by as_aux_lemma => kernel_rfl)⟩, (by as_aux_lemma => kernel_rfl)⟩, pStops⟩, (by as_aux_lemma => kernel_rfl)⟩, pKnobs⟩, (by as_aux_lemma => kernel_rfl)⟩, (by as_aux_lemma => kernel_rfl)⟩, (by as_aux_lemma => kernel_rfl)⟩, (by as_aux_lemma => kernel_rfl)⟩, (by as_aux_lemma => kernel_rfl)⟩, (by as_aux_lemma => kernel_rfl)⟩, (by as_aux_lemma => kernel_rfl)⟩, (by as_aux_lemma => kernel_rfl)⟩, (by as_aux_lemma => kernel_rfl)⟩, (by as_aux_lemma => kernel_rfl)⟩, (by as_aux_lemma => kernel_rfl)⟩, (by as_aux_lemma => kernel_rfl)⟩, (by as_aux_lemma => kernel_rfl)⟩, pPlain⟩, (by as_aux_lemma => kernel_rfl)⟩, pHeard⟩, pEnter⟩, pLift⟩, pMake⟩, (by as_aux_lemma => kernel_rfl)⟩, (by as_aux_lemma => kernel_rfl)⟩, (by as_aux_lemma => kernel_rfl)⟩, (by as_aux_lemma => kernel_rfl)⟩

/-- THE STATEMENT. -/
theorem proved : Rows.FnExactOptionsOkSaid :=
  OpenClaim.holds_of_wide 5 Try.f5 rfl rfl rfl rfl rfl rfl rfl ⟨rfl, rfl, rfl, rfl, rfl⟩ rfl rfl rfl rfl rfl hfn Try.func5 joined hinst hwrap (fun os started H enc _ => lifted os started H enc)
end Go.Proofs.Ytbddfbgbjlfocaa.fnExactOptionsOk
