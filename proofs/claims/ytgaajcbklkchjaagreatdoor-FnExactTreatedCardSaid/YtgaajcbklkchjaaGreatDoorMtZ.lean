import Derived.Test.YtgaajcbklkchjaaGreatDoorMtA
import Derived.Test.YtgaajcbklkchjaaGreatDoorMtB
import Derived.Test.YtgaajcbklkchjaaGreatDoorMtG
import Derived.Test.YtgaajcbklkchjaaGreatDoorCards
import Derived.Test.YtgaajcbklkchjaaGreatDoorTie
import Derived.SevenTiedAt
import Derived.Test.YtgaajcbklkchjaaGreatDoorMtN
namespace Go.Proofs.YtgaajcbklkchjaaGreatDoor.fnExactTreated
open Go.ChangeShapes Go.WideShapes Go.ChangeAt Go.RowKit
open Go.ChangeMaps (open_string)
set_option linter.unusedVariables false

set_option maxRecDepth 100000 in
theorem lifted (os : Os) (started : os.Started) (H : Type) (enc : TypeId × Value → H) :
    ReturnsInHanded {} Tryz.checked os 3 .any (fun w args => (Rows.fnExactTreatedSpec.pre enc Tryz.prog Tryz.f3 [] false w args ∧ laidMetH Tryz.prog Rows.fnExactTreatedRow.laid w) ∧ sizedMet enc Tryz.prog Tryz.f3 (OpenSpec.ofChange Rows.fnExactTreatedSpec) false w args) (Rows.fnExactTreatedSpec.post enc Tryz.prog Tryz.f3 false true false false) := by
  refine retAndShaped (C := Tryz.checked) (X := fun w _ => laidMetH Tryz.prog Rows.fnExactTreatedRow.laid w) (fun _ _ _ hh h => h.of_heap hh) own started (by kernel_rfl) Tryz.func3
    (ChangeSpec.witness_shaped (enc := enc) (C := Tryz.checked) (os := os) (X := fun w _ => laidMetH Tryz.prog Rows.fnExactTreatedRow.laid w) false (World.laidAll Tryz.prog os Rows.fnExactTreatedRow.laid) #[.slice none 0 0, .agg #[.int .i64 0, .int .i64 0, .bool false, .bool false, .bool false]] 8 (World.laidAll_os _ _ _) (World.shaped_of_ZipB (by kernel_rfl) (by kernel_rfl)) (by kernel_rfl) (by kernel_rfl) (by kernel_rfl) (by rw [MakeChecks.laidMetH_plain _ _ _ (by kernel_rfl)]; exact laidMet_laidAll _ (by kernel_rfl) (by kernel_rfl))) ?_
  intro W base args ds gs before hval0 hW hcnd _ hL hSh _
  have hval : ∀ (j : Nat) t v, Tryz.f3.params[j]? = some t → args[j]? = some v → Value.okWide Tryz.prog W .any base t v := hval0
  have hW' := hW
  obtain ⟨p, q, hA0, hV, rfl, hfz, hnd⟩ := hW
  have hA : DataW.TrodAll enc Tryz.prog W 0 (fun _ => true) true Tryz.f3.params.toList args.toList ds p := hA0
  have hlt : ∀ x ∈ p, x.block < W.heap.size := fun x hx => hW'.lt x (List.mem_append.2 (.inl hx))
  have hA1 := hA
  rw [Tryz.params3] at hA hval
  obtain ⟨v0, vs0, d0, ds0, p0, q0, hargs, rfl, rfl, h0, r0⟩ := trodAll_cons hA
  obtain ⟨v1, vs1, d1, ds1, p1, q1, rfl, rfl, rfl, h1, r1⟩ := trodAll_cons r0
  obtain ⟨rfl, rfl, rfl⟩ := trodAll_nil r1
  obtain rfl : args = #[v0, v1] := by cases args; simp_all
  obtain ⟨rfl, rfl⟩ := trodVars_none hV
  obtain ⟨a0, n0, c0, l0, rfl, u0⟩ := open_nodes (hval 0 22 v0 rfl rfl) h0
  obtain ⟨a1a, a1b, a1c, a1d, a1e, rfl, w1a, w1b⟩ := open_options (hval 1 24 v1 rfl rfl) h1
  obtain ⟨mx, hmx⟩ := maxLenCell hSh
  clear hA0 hval0
  refine (lawTreated a0 n0 c0 l0 a1a a1b a1c a1d a1e W u0 w1a w1b mx hmx (tab_of_laidT hL)).mono fun e W' ⟨he, hg⟩ => ?_
  subst he
  exact ⟨_, rfl, post_of_below (pv := []) hW' (fun _ _ _ => trodAll_mk1 (shut_bool Tryz.underlying4 _)) (fun sp hsp => trodAll_stays pLaid (by kernel_rfl) hA1 (fun x hx => hg.same (hlt x hx)) (fun x hx => hsp x (List.mem_append.2 (.inl hx)))) (fun _ _ => rfl) rfl hg (ok_one (by kernel_rfl) rfl (okWide_bool_mk Tryz.underlying4 _))⟩

theorem hfn : Tryz.prog.funcNamed Rows.fnExactTreatedRow.func = some 3 := by kernel_rfl
theorem hinst : Tryz.f3.isInstance Tryz.prog Rows.fnExactTreatedRow.origin Rows.fnExactTreatedRow.targs := of_decide_eq_true (by kernel_rfl)
theorem hwrap : Tryz.f3.isWrapper Tryz.prog Rows.fnExactTreatedRow.wrapper Rows.fnExactTreatedRow.mainSum := by unfold Func.isWrapper; rw [if_neg (of_decide_eq_false (by kernel_rfl))]; exact ⟨rfl, rfl⟩
set_option maxHeartbeats 8000000 in
theorem joined : joinedFacts Tryz.prog 3 Tryz.f3 Rows.fnExactTreatedSpec Rows.fnExactTreatedRow = true := by
  unfold joinedFacts
  simp only [Bool.and_eq_true]
  exact ⟨⟨⟨⟨⟨⟨⟨⟨⟨⟨⟨⟨⟨⟨⟨⟨⟨⟨⟨⟨⟨⟨⟨⟨⟨⟨⟨⟨⟨⟨⟨(by as_aux_lemma => kernel_rfl), pLaid⟩, pMaps⟩, (by as_aux_lemma => kernel_rfl)⟩, (by as_aux_lemma => kernel_rfl)⟩, (by as_aux_lemma => kernel_rfl)⟩, pStops⟩, (by as_aux_lemma => kernel_rfl)⟩, pKnobs⟩, (by as_aux_lemma => kernel_rfl)⟩, (by as_aux_lemma => kernel_rfl)⟩, (by as_aux_lemma => kernel_rfl)⟩, (by as_aux_lemma => kernel_rfl)⟩, (by as_aux_lemma => kernel_rfl)⟩, (by as_aux_lemma => kernel_rfl)⟩, (by as_aux_lemma => kernel_rfl)⟩, (by as_aux_lemma => kernel_rfl)⟩, (by as_aux_lemma => kernel_rfl)⟩, (by as_aux_lemma => kernel_rfl)⟩, (by as_aux_lemma => kernel_rfl)⟩, (by as_aux_lemma => kernel_rfl)⟩, (by as_aux_lemma => kernel_rfl)⟩, pPlain⟩, (by as_aux_lemma => kernel_rfl)⟩, pHeard⟩, pEnter⟩, pLift⟩, pMake⟩, (by as_aux_lemma => kernel_rfl)⟩, (by as_aux_lemma => kernel_rfl)⟩, (by as_aux_lemma => kernel_rfl)⟩, (by as_aux_lemma => kernel_rfl)⟩

/-- THE ROW. -/
theorem said : Rows.FnExactTreatedSaid :=
  OpenClaim.holds_of_wide 3 Tryz.f3 rfl rfl rfl rfl rfl rfl rfl ⟨rfl, rfl, rfl, rfl, rfl⟩ rfl rfl rfl rfl rfl hfn Tryz.func3 joined hinst hwrap (fun os started H enc _ => lifted os started H enc)
/-- THE STATEMENT: the tied card. -/
theorem proved : Rows.FnExactTreatedCardSaid :=
  Claim7.holds_tied_plain_at .later [] Rows.fnExactTreatedCard.laidKinds true Rows.fnExactTreatedCard.stood.harness false
    said (fun _ h => by cases h) (by kernel_rfl) (fun _ h => by cases h) fnExactTreated_row_tie rfl ⟨rfl, rfl⟩ (by kernel_rfl) rfl
    (fun f fn hf hf2 => by
      obtain rfl : f = 3 := Option.some.inj (hfn.symm.trans hf) |>.symm
      obtain rfl : fn = Tryz.f3 := (Option.some.inj (Tryz.func3.symm.trans hf2)).symm
      exact ⟨by kernel_rfl, fun j t ht => by
        rw [Tryz.params3] at ht
        have hm : t ∈ [22, 24] := by simpa using Array.mem_of_getElem? ht
        have hall : ([22, 24].all fun u => !Tryz.prog.wantsStandIn u) = true := by kernel_rfl
        exact (show Tryz.prog.wantsStandIn t = false by simpa using List.all_eq_true.1 hall t hm)⟩)
    (by kernel_rfl)
end Go.Proofs.YtgaajcbklkchjaaGreatDoor.fnExactTreated
