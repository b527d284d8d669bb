/- For every input FnExactConvHear returns true and leaves its arguments as they were: the ConvHear of the program answers as that of the reference. -/
import Derived.Test.YtfjbjiklohjodaaGreatDoorRows
import Derived.Test.YtfjbjiklohjodaaGreatDoorTie
import Derived.Test.YtfjbjiklohjodaaGreatDoorCards
import Derived.Test.YtfjbjiklohjodaaGreatDoorBh6
import Derived.SevenTiedAt
import Derived.WalkKit
import Derived.ProofKit
import Derived.OpenShut
import Derived.ShutString
import Derived.ChangeOld
import Derived.Below
import Derived.SizedLaws
namespace Go.Proofs.YtfjbjiklohjodaaGreatDoor.fnExactConvHear
open Go.ChangeShapes Go.WideShapes Go.ChangeAt Go.RowKit Go.Proofs.YtfjbjiklohjodaaGreatDoorW.PrintWords
open Go.ChangeMaps (open_string shut_string)
set_option linter.unusedVariables false
theorem own : ownKnob Tryz.prog.godebug = none := by kernel_rfl
theorem laidOut : laidOutB Tryz.prog = true := by kernel_rfl
set_option maxRecDepth 100000 in
theorem lifted (os : Os) (started : os.Started) (H : Type) (enc : TypeId × Value → H) :
    ReturnsInHanded {} Tryz.checked os 12 .any (fun w args => (Rows.fnExactConvHearSpec.pre enc Tryz.prog Tryz.f12 Rows.fnExactConvHearRow.domain false w args ∧ laidMetH Tryz.prog Z.laidL w) ∧ sizedMet enc Tryz.prog Tryz.f12 (OpenSpec.ofChange Rows.fnExactConvHearSpec) false w args)
      (Rows.fnExactConvHearSpec.post enc Tryz.prog Tryz.f12 false true false false) := by
  refine Z.wrap_laid (C := Tryz.checked) (X := fun w _ => laidMetH Tryz.prog Z.laidL w) (fun _ _ _ hh h => h.of_heap hh) own started (by kernel_rfl) Tryz.func12
    (ChangeSpec.witness_shaped (enc := enc) (C := Tryz.checked) (os := os) (X := fun w _ => laidMetH Tryz.prog Z.laidL w) false (World.laidAll Tryz.prog os Z.laidL) #[.agg #[.int .i64 0, .int .i64 0, .int .i64 0, .int .i64 0, .string ByteArray.empty, .string ByteArray.empty, .int .i64 0, .int .i64 0, .string ByteArray.empty, .string ByteArray.empty], .bool false, .agg #[.int .i64 0, .int .i64 0, .int .i64 0, .int .i64 0, .int .i64 0, .int .i64 0, .string ByteArray.empty]] 8 (World.laidAll_os _ _ _)
      (World.shaped_of_ZipB (by kernel_rfl) (by kernel_rfl)) (by kernel_rfl) (by kernel_rfl) (by kernel_rfl) (Z.laid_met os _)) ?_
  intro W base args ds gs before hval0 hW hL hsh
  have hvars := Z.vars_of hL hsh
  have hval : ∀ (j : Nat) t v, Tryz.f12.params[j]? = some t → args[j]? = some v → Value.okWide Tryz.prog W .any base t v := hval0
  have hW' := hW
  obtain ⟨p, q, hA0, hV, rfl, hfz, hnd⟩ := hW
  have hA : DataW.TrodAll enc Tryz.prog W 0 (fun _ => true) true Tryz.f12.params.toList args.toList ds p := hA0
  rw [Tryz.params12] at hA hval
  obtain ⟨v0, vs0, d0, ds0, p0, q0, hargs, rfl, rfl, h0, r0⟩ := trodAll_cons hA
  obtain ⟨v1, vs1, d1, ds1, p1, q1, rfl, rfl, rfl, h1, r1⟩ := trodAll_cons r0
  obtain ⟨v2, vs2, d2, ds2, p2, q2, rfl, rfl, rfl, h2, r2⟩ := trodAll_cons r1
  obtain ⟨rfl, rfl, rfl⟩ := trodAll_nil r2
  obtain rfl : args = #[v0, v1, v2] := by cases args; simp_all
  obtain ⟨rfl, rfl⟩ := trodVars_none hV
  have k0 := h0
  have lt0 : ∀ x ∈ p0, x.block < W.heap.size := by obtain ⟨m, hm⟩ := k0; exact DataW.trod_lt m _ _ _ hm
  obtain ⟨fuel0, hf0⟩ := h0
  obtain ⟨xs0, hK0, hg0⟩ := Z.openConvL.2 _ _ _ _ _ _ _ _ _ hf0
  obtain ⟨x0_0, y0_0, x1_0, y1_0, x2_0, x3_0, x4_0, x5_0, x6_0, x7_0, rfl, g2_0, g3_0, g6_0, g7_0⟩ := Z.conv_of (hval 0 57 v0 rfl rfl) hK0 hg0
  obtain ⟨a1, rfl, rfl, rfl⟩ := open_bool Tryz.underlying4 (hval 1 4 v1 rfl rfl) h1
  have k2 := h2
  have lt2 : ∀ x ∈ p2, x.block < W.heap.size := by obtain ⟨m, hm⟩ := k2; exact DataW.trod_lt m _ _ _ hm
  obtain ⟨fuel2, hf2⟩ := h2
  obtain ⟨xs2, hK2, hg2⟩ := Z.openPktL.2 _ _ _ _ _ _ _ _ _ hf2
  obtain ⟨x0_2, x1_2, y1_2, x2_2, y2_2, x3_2, x4_2, rfl, g4_2⟩ := Z.pkt_of (hval 2 59 v2 rfl rfl) hK2 hg2
  clear hA0 hval0
  have hk := Q.FnExactConvHear_true x0_0 y0_0 x1_0 y1_0 x2_0 x3_0 x4_0 x5_0 x6_0 x7_0 a1 x0_2 x1_2 y1_2 x2_2 y2_2 x3_2 x4_2 g2_0 g3_0 g6_0 g7_0 g4_2
  refine (Q.laws_FnExactConvHear.calls x0_0 y0_0 x1_0 y1_0 x2_0 x3_0 x4_0 x5_0 x6_0 x7_0 a1 x0_2 x1_2 y1_2 x2_2 y2_2 x3_2 x4_2 true W  hvars hk).mono ?_
  rintro e W' ⟨rfl, bel⟩
  exact ⟨_, rfl, _, _, _, [], _, [], hW', trodAll_mk1 (shut_bool Tryz.underlying4 _), (trodAll_cons_mk (Below.trod laidOut (by kernel_rfl) (of_decide_eq_true (by kernel_rfl)) k0 bel lt0) (trodAll_cons_mk (shut_bool Tryz.underlying4 _) (trodAll_cons_mk (Below.trod laidOut (by kernel_rfl) (of_decide_eq_true (by kernel_rfl)) k2 bel lt2) trodAll_mk0))), rfl, bel.frame _, fun h => by cases h⟩
theorem over : Rows.fnExactConvHearRow.holds Tryz.pinned (OpenSpec.ofChange Rows.fnExactConvHearSpec) :=
  OpenClaim.holds_of_wide 12 Tryz.f12 rfl rfl rfl rfl rfl rfl rfl ⟨rfl, rfl, rfl, rfl, rfl⟩ rfl rfl rfl rfl rfl (by kernel_rfl) Tryz.func12 jf
    (of_decide_eq_true (by kernel_rfl)) (by unfold Func.isWrapper; first | (rw [if_pos (by decide +kernel)]; kernel_rfl) | (rw [if_neg (by decide +kernel)]; exact ⟨rfl, rfl⟩))
    (fun os started H enc _ => lifted os started H enc)
end Go.Proofs.YtfjbjiklohjodaaGreatDoor.fnExactConvHear
namespace Go.Proofs.YtfjbjiklohjodaaGreatDoor
theorem fnExactConvHear_card : Rows.FnExactConvHearCardSaid :=
  Claim7.holds_tied_plain_at .later [] Rows.fnExactConvHearCard.laidKinds true Rows.fnExactConvHearCard.stood.harness true
    fnExactConvHear.over (fun _ h => by cases h) (by kernel_rfl) (fun _ h => by cases h) fnExactConvHear_row_tie rfl ⟨rfl, rfl⟩ (by kernel_rfl) rfl
    (fun f fn hf hfn => by
      obtain rfl : f = 12 := Option.some.inj ((show Tryz.prog.funcNamed Rows.fnExactConvHearRow.func = some 12 by kernel_rfl).symm.trans hf) |>.symm
      obtain rfl : fn = Tryz.f12 := (Option.some.inj (Tryz.func12.symm.trans hfn)).symm
      exact ⟨by kernel_rfl, fun j t ht => by
        rw [Tryz.params12] at ht
        have hm : t ∈ [57, 4, 59] := by simpa using Array.mem_of_getElem? ht
        have hall : ([57, 4, 59].all fun u => !Tryz.prog.wantsStandIn u) = true := by kernel_rfl
        exact (show Tryz.prog.wantsStandIn t = false by simpa using List.all_eq_true.1 hall t hm)⟩)
    (by kernel_rfl)
#print axioms fnExactConvHear_card
end Go.Proofs.YtfjbjiklohjodaaGreatDoor
