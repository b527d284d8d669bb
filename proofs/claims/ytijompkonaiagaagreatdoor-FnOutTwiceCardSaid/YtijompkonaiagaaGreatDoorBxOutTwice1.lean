/- The law FnOutTwice, plainly: its Lean function answers true at every code. For every code FnOutTwice returns true and leaves its arguments as they were: what went out stays as it is. -/
import Derived.Test.YtijompkonaiagaaGreatDoorBb2
import Derived.Test.YtijompkonaiagaaGreatDoorBb5
import Derived.Test.YtijompkonaiagaaGreatDoorBb4
import Derived.Test.YtijompkonaiagaaGreatDoorRows
import Derived.Test.YtijompkonaiagaaGreatDoorTie
import Derived.Test.YtijompkonaiagaaGreatDoorCards
import Derived.SevenTiedAt
import Derived.WalkKit
import Derived.ProofKit
import Derived.OpenShut
import Derived.ShutString
import Derived.ChangeOld
import Derived.Below
import Derived.SizedLaws
namespace Go.Proofs.YtijompkonaiagaaGreatDoor.Q
open Go.RowKit Go.Proofs.YtijompkonaiagaaGreatDoorW.PrintWords Go.Proofs.YtijompkonaiagaaGreatDoorW.PrintLast Go.Proofs.YtijompkonaiagaaGreatDoorW.PrintMore Go.Proofs.YtijompkonaiagaaGreatDoor.Z
attribute [local go_sem] max2_int min2_int max_two min_two max_three min_three max_four min_four
set_option linter.unusedVariables false
set_option linter.unusedSimpArgs false
noncomputable section
def laws_FnOutTwice.j0 : Nat → List (S69) → ByteArray → List (S69) → ByteArray → Bool → Option (Bool)
  | 0, _, _, _, _, _ => none
  | k + 1, x5, x6, x7, x8, x59 => if x59 = true then (if x8.toList = x6.toList then ((laws_lzMap.f k x7 x5).bind fun t116 => (some t116)) else (some false)) else (if x8.size + 1 ≤ 9223372036854775807 then ((impl_MapTextOut.f k x7 (x8 ++ (⟨#[122]⟩ : ByteArray))).bind fun bt117 => (if bt117.2.toList = (x8 ++ (⟨#[122]⟩ : ByteArray)).toList then ((laws_lzMap.f k bt117.1 x7).bind fun t121 => (some t121)) else (some false))) else (none))
def laws_FnOutTwice.f (k : Nat) (l0 : List Int) : Option (Bool) := if (l0.length : Int) > 1048576 then (some true) else ((spec_DrawMapTextOut.f k l0).bind fun bt101 => ((spec_MapTextOut.f k bt101.1 bt101.2).bind fun bt105 => ((impl_MapTextOut.f k bt101.1 bt101.2).bind fun bt109 => (if bt109.2.toList = bt105.2.toList then ((laws_lzMap.f k bt109.1 bt105.1).bind fun t113 => (if t113 = true then ((spec_MapOk.f bt101.1).bind fun t114 => (if t114 = true then ((spec_TextOk.f bt101.2).bind fun t115 => (if t115 = true then (if (bt109.1.length : Int) > 7 then (laws_FnOutTwice.j0 k bt105.1 bt105.2 bt109.1 bt109.2 true) else (laws_FnOutTwice.j0 k bt105.1 bt105.2 bt109.1 bt109.2 (decide ((bt109.2.size : Int) ≥ 40)))) else (laws_FnOutTwice.j0 k bt105.1 bt105.2 bt109.1 bt109.2 true))) else (laws_FnOutTwice.j0 k bt105.1 bt105.2 bt109.1 bt109.2 true))) else (laws_FnOutTwice.j0 k bt105.1 bt105.2 bt109.1 bt109.2 true))) else (laws_FnOutTwice.j0 k bt105.1 bt105.2 bt109.1 bt109.2 true)))))
set_option maxHeartbeats 8000000 in
set_option maxRecDepth 100000 in
theorem laws_FnOutTwice.calls (k : Nat) (A0 : Option Addr) (c0 : Nat) (l0 : List Int) (r : Bool) (w : World) (hr0 : Kd.C (Kd.int .u8) w A0 l0.length l0) (hc0 : l0.length ≤ c0) (hV : VarsIn w) (h : laws_FnOutTwice.f k l0 = some r) :
    Calls Tryz.prog 7 #[.slice A0 l0.length c0] w fun e w' => e = .returned (.bool r) ∧ Below w.heap.size w w' := by
  have HR0 := Aside0.mk hr0
  have HC0 := Aside0.mk hc0
  clear hr0 hc0
  have HB := Aside0.mk (Below.refl w.heap.size w)
  have H : (if (l0.length : Int) > 1048576 then (some true) else ((spec_DrawMapTextOut.f k l0).bind fun bt101 => ((spec_MapTextOut.f k bt101.1 bt101.2).bind fun bt105 => ((impl_MapTextOut.f k bt101.1 bt101.2).bind fun bt109 => (if bt109.2.toList = bt105.2.toList then ((laws_lzMap.f k bt109.1 bt105.1).bind fun t113 => (if t113 = true then ((spec_MapOk.f bt101.1).bind fun t114 => (if t114 = true then ((spec_TextOk.f bt101.2).bind fun t115 => (if t115 = true then (if (bt109.1.length : Int) > 7 then (laws_FnOutTwice.j0 k bt105.1 bt105.2 bt109.1 bt109.2 true) else (laws_FnOutTwice.j0 k bt105.1 bt105.2 bt109.1 bt109.2 (decide ((bt109.2.size : Int) ≥ 40)))) else (laws_FnOutTwice.j0 k bt105.1 bt105.2 bt109.1 bt109.2 true))) else (laws_FnOutTwice.j0 k bt105.1 bt105.2 bt109.1 bt109.2 true))) else (laws_FnOutTwice.j0 k bt105.1 bt105.2 bt109.1 bt109.2 true))) else (laws_FnOutTwice.j0 k bt105.1 bt105.2 bt109.1 bt109.2 true)))))) = some r := h
  clear h
  by_cases c2 : (l0.length : Int) > 1048576
  · rw [if_pos c2] at H
    have c2b0 : decide (1048576 < (l0.length : Int)) = true := decide_eq_true c2
    have c2b1 : decide (1048576 < l0.length) = true := decide_eq_true (by omega)
    clear c2
    obtain rfl := Option.some.inj H
    go_enter Tryz.func7, Tryz.ntmps7
    go_wp2
    go_ret
    exact ⟨by first | rfl | (simp [errW_none, errW_some] <;> rfl) | (simp [*, errW_none, errW_some] <;> rfl), by repeat (first | (with_reducible first | exact HB.out | apply below_alloc | apply pw_below_drewN | apply below_drew1) | exact HB.out)⟩
  · rw [if_neg c2] at H
    have c2b0 : decide (1048576 < (l0.length : Int)) = false := decide_eq_false c2
    have c2b1 : decide (1048576 < l0.length) = false := decide_eq_false (by omega)
    clear c2
    replace H := Option.bind_eq_some_iff.mp H
    obtain ⟨⟨t101, t102⟩, A30, H⟩ := H
    replace H : ((spec_MapTextOut.f k t101 t102).bind fun bt105 => ((impl_MapTextOut.f k t101 t102).bind fun bt109 => (if bt109.2.toList = bt105.2.toList then ((laws_lzMap.f k bt109.1 bt105.1).bind fun t113 => (if t113 = true then ((spec_MapOk.f t101).bind fun t114 => (if t114 = true then ((spec_TextOk.f t102).bind fun t115 => (if t115 = true then (if (bt109.1.length : Int) > 7 then (laws_FnOutTwice.j0 k bt105.1 bt105.2 bt109.1 bt109.2 true) else (laws_FnOutTwice.j0 k bt105.1 bt105.2 bt109.1 bt109.2 (decide ((bt109.2.size : Int) ≥ 40)))) else (laws_FnOutTwice.j0 k bt105.1 bt105.2 bt109.1 bt109.2 true))) else (laws_FnOutTwice.j0 k bt105.1 bt105.2 bt109.1 bt109.2 true))) else (laws_FnOutTwice.j0 k bt105.1 bt105.2 bt109.1 bt109.2 true))) else (laws_FnOutTwice.j0 k bt105.1 bt105.2 bt109.1 bt109.2 true)))) = some r := H
    have A3 := Aside0.mk A30
    clear A30
    replace H := Option.bind_eq_some_iff.mp H
    obtain ⟨⟨t105, t106⟩, A40, H⟩ := H
    replace H : ((impl_MapTextOut.f k t101 t102).bind fun bt109 => (if bt109.2.toList = t106.toList then ((laws_lzMap.f k bt109.1 t105).bind fun t113 => (if t113 = true then ((spec_MapOk.f t101).bind fun t114 => (if t114 = true then ((spec_TextOk.f t102).bind fun t115 => (if t115 = true then (if (bt109.1.length : Int) > 7 then (laws_FnOutTwice.j0 k t105 t106 bt109.1 bt109.2 true) else (laws_FnOutTwice.j0 k t105 t106 bt109.1 bt109.2 (decide ((bt109.2.size : Int) ≥ 40)))) else (laws_FnOutTwice.j0 k t105 t106 bt109.1 bt109.2 true))) else (laws_FnOutTwice.j0 k t105 t106 bt109.1 bt109.2 true))) else (laws_FnOutTwice.j0 k t105 t106 bt109.1 bt109.2 true))) else (laws_FnOutTwice.j0 k t105 t106 bt109.1 bt109.2 true))) = some r := H
    have A4 := Aside0.mk A40
    clear A40
    replace H := Option.bind_eq_some_iff.mp H
    obtain ⟨⟨t109, t112⟩, A50, H⟩ := H
    replace H : (if t112.toList = t106.toList then ((laws_lzMap.f k t109 t105).bind fun t113 => (if t113 = true then ((spec_MapOk.f t101).bind fun t114 => (if t114 = true then ((spec_TextOk.f t102).bind fun t115 => (if t115 = true then (if (t109.length : Int) > 7 then (laws_FnOutTwice.j0 k t105 t106 t109 t112 true) else (laws_FnOutTwice.j0 k t105 t106 t109 t112 (decide ((t112.size : Int) ≥ 40)))) else (laws_FnOutTwice.j0 k t105 t106 t109 t112 true))) else (laws_FnOutTwice.j0 k t105 t106 t109 t112 true))) else (laws_FnOutTwice.j0 k t105 t106 t109 t112 true))) else (laws_FnOutTwice.j0 k t105 t106 t109 t112 true)) = some r := H
    have A5 := Aside0.mk A50
    clear A50
    have HC6 := Aside0.mk H
    clear H
    go_enter Tryz.func7, Tryz.ntmps7
    go_upto_region 6 with (first | ((with_reducible refine gate_callee (f := 28) rfl ?_); refine goesL_ (some 16) rfl rfl Tryz.func28 (by kernel_rfl) rfl #[.slice A0 l0.length c0] rfl (by (try simp only [List.map_toArray, List.map_cons, List.map_nil]); first | done | rfl | (simp only [List.length_drop, List.length_take]; rfl)) ?_; (with_reducible refine (spec_DrawMapTextOut.calls k _ _ l0 t101 t102 _ ?side1 ?side2 A3.out).mono ?_); (case side1 => repeat (first | exact HR0.out | (with_reducible refine Kd.C_alloc ?_ _) | (with_reducible refine Kd.C_drewN ?_ _) | (with_reducible refine Kd.C_drew ?_))); (case side2 => exact HC0.out); rintro e w7 ⟨v103, rfl, ho0, hb⟩; refine ⟨_, rfl, ?_⟩; have n0_ := Aside0.mk (Kd.Q_lower ho0 (below_size (by repeat (first | (with_reducible first | exact HB.out | apply below_alloc | apply pw_below_drewN | apply below_drew1) | exact HB.out)))); have n1_ := Aside0.mk (below_step (by repeat (first | (with_reducible first | exact HB.out | apply below_alloc | apply pw_below_drewN | apply below_drew1) | exact HB.out)) hb); clear HB; have HO104 := n0_; have HB := n1_; clear n0_ n1_; (try clear hb); (try clear hb2); (try clear hk); (try clear hi); (try clear ho0); obtain ⟨Ao8, co8, eo8, _⟩ := Kd.Q_slice HO104.out; subst eo8) | ((with_reducible refine gate_callee (f := 24) rfl ?_); refine goesL_ (some 22) rfl rfl Tryz.func24 (by kernel_rfl) rfl #[.slice Ao8 t101.length co8, .string t102] rfl (by (try simp only [List.map_toArray, List.map_cons, List.map_nil]); first | done | rfl | (simp only [List.length_drop, List.length_take]; rfl)) ?_; (with_reducible refine (spec_MapTextOut.calls k _ _ t101 t102 t105 t106 _ ?side1 ?side2 A4.out).mono ?_); (case side1 => repeat (first | exact (Kd.Q_reads' HO104.out).2.2 | (with_reducible refine Kd.C_alloc ?_ _) | (with_reducible refine Kd.C_drewN ?_ _) | (with_reducible refine Kd.C_drew ?_))); (case side2 => exact (Kd.Q_reads' HO104.out).2.1); rintro e w9 ⟨v107, rfl, ho0, hb⟩; refine ⟨_, rfl, ?_⟩; have n0_ := Aside0.mk (Kd.Q_elder' (by (with_reducible repeat (first | apply Kd.Q_alloc | apply Kd.Q_drewN | apply Kd.Q_drew)); exact HO104.out) (Kd.R_base ho0) hb); have n1_ := Aside0.mk (Kd.R_lower (Kd.R_new' ho0 (Kd.Q_lt (by (with_reducible repeat (first | apply Kd.Q_alloc | apply Kd.Q_drewN | apply Kd.Q_drew)); exact HO104.out))) (below_size (by repeat (first | (with_reducible first | exact HB.out | apply below_alloc | apply pw_below_drewN | apply below_drew1) | exact HB.out)))); have n2_ := Aside0.mk (below_step (by repeat (first | (with_reducible first | exact HB.out | apply below_alloc | apply pw_below_drewN | apply below_drew1) | exact HB.out)) hb); clear HO104; clear HB; have HO104 := n0_; have HO108 := n1_; have HB := n2_; clear n0_ n1_ n2_; (try clear hb); (try clear hb2); (try clear hk); (try clear hi); (try clear ho0)) | ((with_reducible refine gate_callee (f := 25) rfl ?_); refine goesL_ (some 28) rfl rfl Tryz.func25 (by kernel_rfl) rfl #[.slice Ao8 t101.length co8, .string t102] rfl (by (try simp only [List.map_toArray, List.map_cons, List.map_nil]); first | done | rfl | (simp only [List.length_drop, List.length_take]; rfl)) ?_; (with_reducible refine (impl_MapTextOut.calls k (fun k_ => some k_ = (.slice Ao8 t101.length co8 : Value).ownBlock) _ _ t101 t102 t109 t112 _ ?side1 ?side2 A5.out).mono ?_); (case side1 => exact Kd.Q_V (Kd.Q_tight rfl (HO104.out))); (case side2 => exact hV.next (by repeat (first | (with_reducible first | exact HB.out | apply below_alloc | apply pw_below_drewN | apply below_drew1) | exact HB.out))); rintro e w10 ⟨v110, rfl, ho0, hb⟩; refine ⟨_, rfl, ?_⟩; have n0_ := Aside0.mk (Kd.Q_below (by (with_reducible repeat (first | apply Kd.Q_alloc | apply Kd.Q_drewN | apply Kd.Q_drew)); exact HO104.out) hb); have n1_ := Aside0.mk (Kd.R_below (by (with_reducible repeat (first | apply Kd.R_alloc | apply Kd.R_drewN | apply Kd.R_drew)); exact HO108.out) hb); have n2_ := Aside0.mk (Kd.V_lower (Kd.V_mono (ok' := fun k_ => some k_ ≠ (v107 : Value).ownBlock) ho0 (fun k_ hk_ => Or.elim hk_ (fun hs_ => ((HO104.out).1 k_ hs_.symm).2) (fun hn_ => (Kd.fresh' (Kd.R_lt (by (with_reducible repeat (first | apply Kd.R_alloc | apply Kd.R_drewN | apply Kd.R_drew)); exact HO108.out)) k_ hn_)))) (below_size (by repeat (first | (with_reducible first | exact HB.out | apply below_alloc | apply pw_below_drewN | apply below_drew1) | exact HB.out)))); have n3_ := Aside0.mk (below_step (by repeat (first | (with_reducible first | exact HB.out | apply below_alloc | apply pw_below_drewN | apply below_drew1) | exact HB.out)) hb); clear HO104; clear HO108; clear HB; have HO104 := n0_; have HO108 := n1_; have HO111 := n2_; have HB := n3_; clear n0_ n1_ n2_ n3_; (try clear hb); (try clear hb2); (try clear hk); (try clear hi); (try clear ho0)))
    (try simp only [Act.put, List.setIfInBounds_toArray, List.set_cons_zero, List.set_cons_succ])
    go_cut [59] (fun v59 wc => ∃ (kq : Nat) (x59_5 : Bool), v59 = .bool x59_5 ∧ Aside0 (laws_FnOutTwice.j0 kq t105 t106 t109 t112 x59_5 = some r) ∧ Aside0 (kq ≤ k) ∧ Aside0 (Kd.R k69 69 wc w.heap.size (fun _ => True) v107 t105) ∧ Aside0 (Kd.V k69 69 wc w.heap.size (fun k_ => some k_ ≠ (v107 : Value).ownBlock) v110 t109) ∧ Aside0 (Below w.heap.size w wc))
    case first =>
      have H := HC6.out
      clear HC6
      by_cases c11 : t112.toList = t106.toList
      · rw [if_pos c11] at H
        have c11b0 : (t112.toList == t106.toList) = true := beq_iff_eq.mpr c11
        have c11b1 : (t112.toList != t106.toList) = false := bne_eq_false_iff_eq.mpr c11
        clear c11
        (first | rw [c11b0] | (simp only [i64_w, i32_w]; rw [c11b0]) | skip)
        replace H := Option.bind_eq_some_iff.mp H
        obtain ⟨t113, A120, H⟩ := H
        replace H : (if t113 = true then ((spec_MapOk.f t101).bind fun t114 => (if t114 = true then ((spec_TextOk.f t102).bind fun t115 => (if t115 = true then (if (t109.length : Int) > 7 then (laws_FnOutTwice.j0 k t105 t106 t109 t112 true) else (laws_FnOutTwice.j0 k t105 t106 t109 t112 (decide ((t112.size : Int) ≥ 40)))) else (laws_FnOutTwice.j0 k t105 t106 t109 t112 true))) else (laws_FnOutTwice.j0 k t105 t106 t109 t112 true))) else (laws_FnOutTwice.j0 k t105 t106 t109 t112 true)) = some r := H
        have A12 := Aside0.mk A120
        clear A120
        by_cases c13 : t113 = true
        · subst c13
          have H1 : ((spec_MapOk.f t101).bind fun t114 => (if t114 = true then ((spec_TextOk.f t102).bind fun t115 => (if t115 = true then (if (t109.length : Int) > 7 then (laws_FnOutTwice.j0 k t105 t106 t109 t112 true) else (laws_FnOutTwice.j0 k t105 t106 t109 t112 (decide ((t112.size : Int) ≥ 40)))) else (laws_FnOutTwice.j0 k t105 t106 t109 t112 true))) else (laws_FnOutTwice.j0 k t105 t106 t109 t112 true))) = some r := by rw [if_pos rfl] at H; exact H
          clear H
          have H := H1
          clear H1
          replace H := Option.bind_eq_some_iff.mp H
          obtain ⟨t114, A140, H⟩ := H
          replace H : (if t114 = true then ((spec_TextOk.f t102).bind fun t115 => (if t115 = true then (if (t109.length : Int) > 7 then (laws_FnOutTwice.j0 k t105 t106 t109 t112 true) else (laws_FnOutTwice.j0 k t105 t106 t109 t112 (decide ((t112.size : Int) ≥ 40)))) else (laws_FnOutTwice.j0 k t105 t106 t109 t112 true))) else (laws_FnOutTwice.j0 k t105 t106 t109 t112 true)) = some r := H
          have A14 := Aside0.mk A140
          clear A140
          by_cases c15 : t114 = true
          · subst c15
            have H1 : ((spec_TextOk.f t102).bind fun t115 => (if t115 = true then (if (t109.length : Int) > 7 then (laws_FnOutTwice.j0 k t105 t106 t109 t112 true) else (laws_FnOutTwice.j0 k t105 t106 t109 t112 (decide ((t112.size : Int) ≥ 40)))) else (laws_FnOutTwice.j0 k t105 t106 t109 t112 true))) = some r := by rw [if_pos rfl] at H; exact H
            clear H
            have H := H1
            clear H1
            replace H := Option.bind_eq_some_iff.mp H
            obtain ⟨t115, A160, H⟩ := H
            replace H : (if t115 = true then (if (t109.length : Int) > 7 then (laws_FnOutTwice.j0 k t105 t106 t109 t112 true) else (laws_FnOutTwice.j0 k t105 t106 t109 t112 (decide ((t112.size : Int) ≥ 40)))) else (laws_FnOutTwice.j0 k t105 t106 t109 t112 true)) = some r := H
            have A16 := Aside0.mk A160
            clear A160
            by_cases c17 : t115 = true
            · subst c17
              have H1 : (if (t109.length : Int) > 7 then (laws_FnOutTwice.j0 k t105 t106 t109 t112 true) else (laws_FnOutTwice.j0 k t105 t106 t109 t112 (decide ((t112.size : Int) ≥ 40)))) = some r := by rw [if_pos rfl] at H; exact H
              clear H
              have H := H1
              clear H1
              by_cases c18 : (t109.length : Int) > 7
              · rw [if_pos c18] at H
                have c18b0 : decide (7 < (t109.length : Int)) = true := decide_eq_true c18
                have c18b1 : decide (7 < t109.length) = true := decide_eq_true (by omega)
                clear c18
                have H' := Aside0.mk H
                clear H
                obtain ⟨Ao19, co19, eo19⟩ := Kd.V_slice HO111.out
                subst eo19
                obtain ⟨Ao20, co20, eo20⟩ := Kd.R_slice HO108.out
                subst eo20
                go_wp2_with (first | (go_at_call 29; (with_reducible refine (laws_lzMap.calls k _ _ t109 _ _ t105 true _ ?side1 ?side2 ?side3 ?side4 A12.out).mono ?_); (case side1 => repeat (first | exact (Kd.V_reads' HO111.out).2.2 | (with_reducible refine Kd.C_alloc ?_ _) | (with_reducible refine Kd.C_drewN ?_ _) | (with_reducible refine Kd.C_drew ?_))); (case side2 => exact (Kd.V_reads' HO111.out).2.1); (case side3 => repeat (first | exact (Kd.R_reads' HO108.out).2.2 | (with_reducible refine Kd.C_alloc ?_ _) | (with_reducible refine Kd.C_drewN ?_ _) | (with_reducible refine Kd.C_drew ?_))); (case side4 => exact (Kd.R_reads' HO108.out).2.1); rintro e w' ⟨rfl, ⟨nd, rfl⟩⟩) | (go_at_call 30; (with_reducible refine (spec_MapOk.calls _ _ t101 true _ ?side1 ?side2 A14.out).mono ?_); (case side1 => repeat (first | exact (Kd.Q_reads' HO104.out).2.2 | (with_reducible refine Kd.C_alloc ?_ _) | (with_reducible refine Kd.C_drewN ?_ _) | (with_reducible refine Kd.C_drew ?_))); (case side2 => exact (Kd.Q_reads' HO104.out).2.1); rintro e w21 ⟨rfl, hb⟩; have n0_ := Aside0.mk (Kd.Q_below (by (with_reducible repeat (first | apply Kd.Q_alloc | apply Kd.Q_drewN | apply Kd.Q_drew)); exact HO104.out) hb); have n1_ := Aside0.mk (Kd.R_below (by (with_reducible repeat (first | apply Kd.R_alloc | apply Kd.R_drewN | apply Kd.R_drew)); exact HO108.out) hb); have n2_ := Aside0.mk (Kd.V_below (by (with_reducible repeat (first | apply Kd.V_alloc | apply Kd.V_drewN | apply Kd.V_drew)); exact HO111.out) hb); have n3_ := Aside0.mk (below_step (by repeat (first | (with_reducible first | exact HB.out | apply below_alloc | apply pw_below_drewN | apply below_drew1) | exact HB.out)) hb); clear HO104; clear HO108; clear HO111; clear HB; have HO104 := n0_; have HO108 := n1_; have HO111 := n2_; have HB := n3_; clear n0_ n1_ n2_ n3_; (try clear hb); (try clear hb2); (try clear hk); (try clear hi)) | (go_at_call 31; (with_reducible refine (spec_TextOk.calls t102 true _ A16.out).mono ?_); rintro e w22 ⟨rfl, hb⟩; have n0_ := Aside0.mk (Kd.Q_below (by (with_reducible repeat (first | apply Kd.Q_alloc | apply Kd.Q_drewN | apply Kd.Q_drew)); exact HO104.out) hb); have n1_ := Aside0.mk (Kd.R_below (by (with_reducible repeat (first | apply Kd.R_alloc | apply Kd.R_drewN | apply Kd.R_drew)); exact HO108.out) hb); have n2_ := Aside0.mk (Kd.V_below (by (with_reducible repeat (first | apply Kd.V_alloc | apply Kd.V_drewN | apply Kd.V_drew)); exact HO111.out) hb); have n3_ := Aside0.mk (below_step (by repeat (first | (with_reducible first | exact HB.out | apply below_alloc | apply pw_below_drewN | apply below_drew1) | exact HB.out)) hb); clear HO104; clear HO108; clear HO111; clear HB; have HO104 := n0_; have HO108 := n1_; have HO111 := n2_; have HB := n3_; clear n0_ n1_ n2_ n3_; (try clear hb); (try clear hb2); (try clear hk); (try clear hi)))
                go_meet
                case rel => exact ⟨_, (true), (by first | rfl | (simp; done) | (simp [*]; done)), H', ⟨by first | omega | exact Nat.le_refl _⟩, ⟨by (with_reducible repeat (first | apply Kd.R_alloc | apply Kd.R_drewN | apply Kd.R_drew)); exact Kd.R_mono HO108.out (fun _ hk => trivial)⟩, ⟨by (with_reducible repeat (first | apply Kd.V_alloc | apply Kd.V_drewN | apply Kd.V_drew)); exact HO111.out⟩, ⟨by repeat (first | (with_reducible first | exact HB.out | apply below_alloc | apply pw_below_drewN | apply below_drew1) | exact HB.out)⟩⟩
              · rw [if_neg c18] at H
                have c18b0 : decide (7 < (t109.length : Int)) = false := decide_eq_false c18
                have c18b1 : decide (7 < t109.length) = false := decide_eq_false (by omega)
                clear c18
                have H' := Aside0.mk H
                clear H
                obtain ⟨Ao23, co23, eo23⟩ := Kd.V_slice HO111.out
                subst eo23
                obtain ⟨Ao24, co24, eo24⟩ := Kd.R_slice HO108.out
                subst eo24
                go_wp2_with (first | (go_at_call 29; (with_reducible refine (laws_lzMap.calls k _ _ t109 _ _ t105 true _ ?side1 ?side2 ?side3 ?side4 A12.out).mono ?_); (case side1 => repeat (first | exact (Kd.V_reads' HO111.out).2.2 | (with_reducible refine Kd.C_alloc ?_ _) | (with_reducible refine Kd.C_drewN ?_ _) | (with_reducible refine Kd.C_drew ?_))); (case side2 => exact (Kd.V_reads' HO111.out).2.1); (case side3 => repeat (first | exact (Kd.R_reads' HO108.out).2.2 | (with_reducible refine Kd.C_alloc ?_ _) | (with_reducible refine Kd.C_drewN ?_ _) | (with_reducible refine Kd.C_drew ?_))); (case side4 => exact (Kd.R_reads' HO108.out).2.1); rintro e w' ⟨rfl, ⟨nd, rfl⟩⟩) | (go_at_call 30; (with_reducible refine (spec_MapOk.calls _ _ t101 true _ ?side1 ?side2 A14.out).mono ?_); (case side1 => repeat (first | exact (Kd.Q_reads' HO104.out).2.2 | (with_reducible refine Kd.C_alloc ?_ _) | (with_reducible refine Kd.C_drewN ?_ _) | (with_reducible refine Kd.C_drew ?_))); (case side2 => exact (Kd.Q_reads' HO104.out).2.1); rintro e w25 ⟨rfl, hb⟩; have n0_ := Aside0.mk (Kd.Q_below (by (with_reducible repeat (first | apply Kd.Q_alloc | apply Kd.Q_drewN | apply Kd.Q_drew)); exact HO104.out) hb); have n1_ := Aside0.mk (Kd.R_below (by (with_reducible repeat (first | apply Kd.R_alloc | apply Kd.R_drewN | apply Kd.R_drew)); exact HO108.out) hb); have n2_ := Aside0.mk (Kd.V_below (by (with_reducible repeat (first | apply Kd.V_alloc | apply Kd.V_drewN | apply Kd.V_drew)); exact HO111.out) hb); have n3_ := Aside0.mk (below_step (by repeat (first | (with_reducible first | exact HB.out | apply below_alloc | apply pw_below_drewN | apply below_drew1) | exact HB.out)) hb); clear HO104; clear HO108; clear HO111; clear HB; have HO104 := n0_; have HO108 := n1_; have HO111 := n2_; have HB := n3_; clear n0_ n1_ n2_ n3_; (try clear hb); (try clear hb2); (try clear hk); (try clear hi)) | (go_at_call 31; (with_reducible refine (spec_TextOk.calls t102 true _ A16.out).mono ?_); rintro e w26 ⟨rfl, hb⟩; have n0_ := Aside0.mk (Kd.Q_below (by (with_reducible repeat (first | apply Kd.Q_alloc | apply Kd.Q_drewN | apply Kd.Q_drew)); exact HO104.out) hb); have n1_ := Aside0.mk (Kd.R_below (by (with_reducible repeat (first | apply Kd.R_alloc | apply Kd.R_drewN | apply Kd.R_drew)); exact HO108.out) hb); have n2_ := Aside0.mk (Kd.V_below (by (with_reducible repeat (first | apply Kd.V_alloc | apply Kd.V_drewN | apply Kd.V_drew)); exact HO111.out) hb); have n3_ := Aside0.mk (below_step (by repeat (first | (with_reducible first | exact HB.out | apply below_alloc | apply pw_below_drewN | apply below_drew1) | exact HB.out)) hb); clear HO104; clear HO108; clear HO111; clear HB; have HO104 := n0_; have HO108 := n1_; have HO111 := n2_; have HB := n3_; clear n0_ n1_ n2_ n3_; (try clear hb); (try clear hb2); (try clear hk); (try clear hi)))
                go_meet
                case rel => exact ⟨_, (decide ((t112.size : Int) ≥ 40)), (by first | rfl | (simp; done) | (simp [*]; done)), H', ⟨by first | omega | exact Nat.le_refl _⟩, ⟨by (with_reducible repeat (first | apply Kd.R_alloc | apply Kd.R_drewN | apply Kd.R_drew)); exact Kd.R_mono HO108.out (fun _ hk => trivial)⟩, ⟨by (with_reducible repeat (first | apply Kd.V_alloc | apply Kd.V_drewN | apply Kd.V_drew)); exact HO111.out⟩, ⟨by repeat (first | (with_reducible first | exact HB.out | apply below_alloc | apply pw_below_drewN | apply below_drew1) | exact HB.out)⟩⟩
            · replace c17 := Bool.eq_false_iff.mpr c17
              subst c17
              have H1 : (laws_FnOutTwice.j0 k t105 t106 t109 t112 true) = some r := by rw [if_neg (show ¬ (false = true) by decide)] at H; exact H
              clear H
              have H := H1
              clear H1
              have H' := Aside0.mk H
              clear H
              obtain ⟨Ao27, co27, eo27⟩ := Kd.V_slice HO111.out
              subst eo27
              obtain ⟨Ao28, co28, eo28⟩ := Kd.R_slice HO108.out
              subst eo28
              go_wp2_with (first | (go_at_call 29; (with_reducible refine (laws_lzMap.calls k _ _ t109 _ _ t105 true _ ?side1 ?side2 ?side3 ?side4 A12.out).mono ?_); (case side1 => repeat (first | exact (Kd.V_reads' HO111.out).2.2 | (with_reducible refine Kd.C_alloc ?_ _) | (with_reducible refine Kd.C_drewN ?_ _) | (with_reducible refine Kd.C_drew ?_))); (case side2 => exact (Kd.V_reads' HO111.out).2.1); (case side3 => repeat (first | exact (Kd.R_reads' HO108.out).2.2 | (with_reducible refine Kd.C_alloc ?_ _) | (with_reducible refine Kd.C_drewN ?_ _) | (with_reducible refine Kd.C_drew ?_))); (case side4 => exact (Kd.R_reads' HO108.out).2.1); rintro e w' ⟨rfl, ⟨nd, rfl⟩⟩) | (go_at_call 30; (with_reducible refine (spec_MapOk.calls _ _ t101 true _ ?side1 ?side2 A14.out).mono ?_); (case side1 => repeat (first | exact (Kd.Q_reads' HO104.out).2.2 | (with_reducible refine Kd.C_alloc ?_ _) | (with_reducible refine Kd.C_drewN ?_ _) | (with_reducible refine Kd.C_drew ?_))); (case side2 => exact (Kd.Q_reads' HO104.out).2.1); rintro e w29 ⟨rfl, hb⟩; have n0_ := Aside0.mk (Kd.Q_below (by (with_reducible repeat (first | apply Kd.Q_alloc | apply Kd.Q_drewN | apply Kd.Q_drew)); exact HO104.out) hb); have n1_ := Aside0.mk (Kd.R_below (by (with_reducible repeat (first | apply Kd.R_alloc | apply Kd.R_drewN | apply Kd.R_drew)); exact HO108.out) hb); have n2_ := Aside0.mk (Kd.V_below (by (with_reducible repeat (first | apply Kd.V_alloc | apply Kd.V_drewN | apply Kd.V_drew)); exact HO111.out) hb); have n3_ := Aside0.mk (below_step (by repeat (first | (with_reducible first | exact HB.out | apply below_alloc | apply pw_below_drewN | apply below_drew1) | exact HB.out)) hb); clear HO104; clear HO108; clear HO111; clear HB; have HO104 := n0_; have HO108 := n1_; have HO111 := n2_; have HB := n3_; clear n0_ n1_ n2_ n3_; (try clear hb); (try clear hb2); (try clear hk); (try clear hi)) | (go_at_call 31; (with_reducible refine (spec_TextOk.calls t102 false _ A16.out).mono ?_); rintro e w30 ⟨rfl, hb⟩; have n0_ := Aside0.mk (Kd.Q_below (by (with_reducible repeat (first | apply Kd.Q_alloc | apply Kd.Q_drewN | apply Kd.Q_drew)); exact HO104.out) hb); have n1_ := Aside0.mk (Kd.R_below (by (with_reducible repeat (first | apply Kd.R_alloc | apply Kd.R_drewN | apply Kd.R_drew)); exact HO108.out) hb); have n2_ := Aside0.mk (Kd.V_below (by (with_reducible repeat (first | apply Kd.V_alloc | apply Kd.V_drewN | apply Kd.V_drew)); exact HO111.out) hb); have n3_ := Aside0.mk (below_step (by repeat (first | (with_reducible first | exact HB.out | apply below_alloc | apply pw_below_drewN | apply below_drew1) | exact HB.out)) hb); clear HO104; clear HO108; clear HO111; clear HB; have HO104 := n0_; have HO108 := n1_; have HO111 := n2_; have HB := n3_; clear n0_ n1_ n2_ n3_; (try clear hb); (try clear hb2); (try clear hk); (try clear hi)))
              go_meet
              case rel => exact ⟨_, (true), (by first | rfl | (simp; done) | (simp [*]; done)), H', ⟨by first | omega | exact Nat.le_refl _⟩, ⟨by (with_reducible repeat (first | apply Kd.R_alloc | apply Kd.R_drewN | apply Kd.R_drew)); exact Kd.R_mono HO108.out (fun _ hk => trivial)⟩, ⟨by (with_reducible repeat (first | apply Kd.V_alloc | apply Kd.V_drewN | apply Kd.V_drew)); exact HO111.out⟩, ⟨by repeat (first | (with_reducible first | exact HB.out | apply below_alloc | apply pw_below_drewN | apply below_drew1) | exact HB.out)⟩⟩
          · replace c15 := Bool.eq_false_iff.mpr c15
            subst c15
            have H1 : (laws_FnOutTwice.j0 k t105 t106 t109 t112 true) = some r := by rw [if_neg (show ¬ (false = true) by decide)] at H; exact H
            clear H
            have H := H1
            clear H1
            have H' := Aside0.mk H
            clear H
            obtain ⟨Ao31, co31, eo31⟩ := Kd.V_slice HO111.out
            subst eo31
            obtain ⟨Ao32, co32, eo32⟩ := Kd.R_slice HO108.out
            subst eo32
            go_wp2_with (first | (go_at_call 29; (with_reducible refine (laws_lzMap.calls k _ _ t109 _ _ t105 true _ ?side1 ?side2 ?side3 ?side4 A12.out).mono ?_); (case side1 => repeat (first | exact (Kd.V_reads' HO111.out).2.2 | (with_reducible refine Kd.C_alloc ?_ _) | (with_reducible refine Kd.C_drewN ?_ _) | (with_reducible refine Kd.C_drew ?_))); (case side2 => exact (Kd.V_reads' HO111.out).2.1); (case side3 => repeat (first | exact (Kd.R_reads' HO108.out).2.2 | (with_reducible refine Kd.C_alloc ?_ _) | (with_reducible refine Kd.C_drewN ?_ _) | (with_reducible refine Kd.C_drew ?_))); (case side4 => exact (Kd.R_reads' HO108.out).2.1); rintro e w' ⟨rfl, ⟨nd, rfl⟩⟩) | (go_at_call 30; (with_reducible refine (spec_MapOk.calls _ _ t101 false _ ?side1 ?side2 A14.out).mono ?_); (case side1 => repeat (first | exact (Kd.Q_reads' HO104.out).2.2 | (with_reducible refine Kd.C_alloc ?_ _) | (with_reducible refine Kd.C_drewN ?_ _) | (with_reducible refine Kd.C_drew ?_))); (case side2 => exact (Kd.Q_reads' HO104.out).2.1); rintro e w33 ⟨rfl, hb⟩; have n0_ := Aside0.mk (Kd.Q_below (by (with_reducible repeat (first | apply Kd.Q_alloc | apply Kd.Q_drewN | apply Kd.Q_drew)); exact HO104.out) hb); have n1_ := Aside0.mk (Kd.R_below (by (with_reducible repeat (first | apply Kd.R_alloc | apply Kd.R_drewN | apply Kd.R_drew)); exact HO108.out) hb); have n2_ := Aside0.mk (Kd.V_below (by (with_reducible repeat (first | apply Kd.V_alloc | apply Kd.V_drewN | apply Kd.V_drew)); exact HO111.out) hb); have n3_ := Aside0.mk (below_step (by repeat (first | (with_reducible first | exact HB.out | apply below_alloc | apply pw_below_drewN | apply below_drew1) | exact HB.out)) hb); clear HO104; clear HO108; clear HO111; clear HB; have HO104 := n0_; have HO108 := n1_; have HO111 := n2_; have HB := n3_; clear n0_ n1_ n2_ n3_; (try clear hb); (try clear hb2); (try clear hk); (try clear hi)))
            go_meet
            case rel => exact ⟨_, (true), (by first | rfl | (simp; done) | (simp [*]; done)), H', ⟨by first | omega | exact Nat.le_refl _⟩, ⟨by (with_reducible repeat (first | apply Kd.R_alloc | apply Kd.R_drewN | apply Kd.R_drew)); exact Kd.R_mono HO108.out (fun _ hk => trivial)⟩, ⟨by (with_reducible repeat (first | apply Kd.V_alloc | apply Kd.V_drewN | apply Kd.V_drew)); exact HO111.out⟩, ⟨by repeat (first | (with_reducible first | exact HB.out | apply below_alloc | apply pw_below_drewN | apply below_drew1) | exact HB.out)⟩⟩
        · replace c13 := Bool.eq_false_iff.mpr c13
          subst c13
          have H1 : (laws_FnOutTwice.j0 k t105 t106 t109 t112 true) = some r := by rw [if_neg (show ¬ (false = true) by decide)] at H; exact H
          clear H
          have H := H1
          clear H1
          have H' := Aside0.mk H
          clear H
          obtain ⟨Ao34, co34, eo34⟩ := Kd.V_slice HO111.out
          subst eo34
          obtain ⟨Ao35, co35, eo35⟩ := Kd.R_slice HO108.out
          subst eo35
          go_wp2_with (first | (go_at_call 29; (with_reducible refine (laws_lzMap.calls k _ _ t109 _ _ t105 false _ ?side1 ?side2 ?side3 ?side4 A12.out).mono ?_); (case side1 => repeat (first | exact (Kd.V_reads' HO111.out).2.2 | (with_reducible refine Kd.C_alloc ?_ _) | (with_reducible refine Kd.C_drewN ?_ _) | (with_reducible refine Kd.C_drew ?_))); (case side2 => exact (Kd.V_reads' HO111.out).2.1); (case side3 => repeat (first | exact (Kd.R_reads' HO108.out).2.2 | (with_reducible refine Kd.C_alloc ?_ _) | (with_reducible refine Kd.C_drewN ?_ _) | (with_reducible refine Kd.C_drew ?_))); (case side4 => exact (Kd.R_reads' HO108.out).2.1); rintro e w' ⟨rfl, ⟨nd, rfl⟩⟩))
          go_meet
          case rel => exact ⟨_, (true), (by first | rfl | (simp; done) | (simp [*]; done)), H', ⟨by first | omega | exact Nat.le_refl _⟩, ⟨by (with_reducible repeat (first | apply Kd.R_alloc | apply Kd.R_drewN | apply Kd.R_drew)); exact Kd.R_mono HO108.out (fun _ hk => trivial)⟩, ⟨by (with_reducible repeat (first | apply Kd.V_alloc | apply Kd.V_drewN | apply Kd.V_drew)); exact HO111.out⟩, ⟨by repeat (first | (with_reducible first | exact HB.out | apply below_alloc | apply pw_below_drewN | apply below_drew1) | exact HB.out)⟩⟩
      · rw [if_neg c11] at H
        have c11b0 : (t112.toList == t106.toList) = false := beq_eq_false_iff_ne.mpr c11
        have c11b1 : (t112.toList != t106.toList) = true := bne_iff_ne.mpr c11
        (first | rw [c11b0] | (simp only [i64_w, i32_w]; rw [c11b0]) | skip)
        have H' := Aside0.mk H
        clear H
        go_wp2
        go_meet
        case rel => exact ⟨_, (true), (by first | rfl | (simp; done) | (simp [*]; done)), H', ⟨by first | omega | exact Nat.le_refl _⟩, ⟨by (with_reducible repeat (first | apply Kd.R_alloc | apply Kd.R_drewN | apply Kd.R_drew)); exact Kd.R_mono HO108.out (fun _ hk => trivial)⟩, ⟨by (with_reducible repeat (first | apply Kd.V_alloc | apply Kd.V_drewN | apply Kd.V_drew)); exact HO111.out⟩, ⟨by repeat (first | (with_reducible first | exact HB.out | apply below_alloc | apply pw_below_drewN | apply below_drew1) | exact HB.out)⟩⟩
    case rest =>
      clear HC6
      try clear c1
      try clear c2
      try clear c2b0
      try clear c2b1
      try clear p2
      try clear c7
      try clear c11
      try clear c11b0
      try clear c11b1
      try clear c13
      try clear c15
      try clear c17
      try clear c18
      try clear c18b0
      try clear c18b1
      try clear c24
      try clear c25
      try clear c28
      obtain ⟨kq, x59_5, rfl, HA, HJ5, HO_5, HO_7, HB⟩ := hcut
      cases kq with
      | zero => exact absurd HA.out (by simp [laws_FnOutTwice.j0])
      | succ kj5 =>
        have H := HA.out
        clear HA
        simp only [laws_FnOutTwice.j0] at H
        by_cases c36 : x59_5 = true
        · subst c36
          have H1 : (if t112.toList = t106.toList then ((laws_lzMap.f kj5 t109 t105).bind fun t116 => (some t116)) else (some false)) = some r := by rw [if_pos rfl] at H; exact H
          clear H
          have H := H1
          clear H1
          by_cases c37 : t112.toList = t106.toList
          · rw [if_pos c37] at H
            have c37b0 : (t112.toList == t106.toList) = true := beq_iff_eq.mpr c37
            have c37b1 : (t112.toList != t106.toList) = false := bne_eq_false_iff_eq.mpr c37
            clear c37
            replace H := Option.bind_eq_some_iff.mp H
            obtain ⟨t116, A380, H⟩ := H
            replace H : (some t116) = some r := H
            have A38 := Aside0.mk A380
            clear A380
            obtain rfl := Option.some.inj H
            obtain ⟨Ao39, co39, eo39⟩ := Kd.V_slice HO_7.out
            subst eo39
            obtain ⟨Ao40, co40, eo40⟩ := Kd.R_slice HO_5.out
            subst eo40
            go_wp2_with (first | (go_at_call 29; (with_reducible refine (laws_lzMap.calls kj5 _ _ t109 _ _ t105 t116 _ ?side1 ?side2 ?side3 ?side4 A38.out).mono ?_); (case side1 => repeat (first | exact (Kd.V_reads' HO_7.out).2.2 | (with_reducible refine Kd.C_alloc ?_ _) | (with_reducible refine Kd.C_drewN ?_ _) | (with_reducible refine Kd.C_drew ?_))); (case side2 => exact (Kd.V_reads' HO_7.out).2.1); (case side3 => repeat (first | exact (Kd.R_reads' HO_5.out).2.2 | (with_reducible refine Kd.C_alloc ?_ _) | (with_reducible refine Kd.C_drewN ?_ _) | (with_reducible refine Kd.C_drew ?_))); (case side4 => exact (Kd.R_reads' HO_5.out).2.1); rintro e w' ⟨rfl, ⟨nd, rfl⟩⟩))
            go_ret
            exact ⟨by first | rfl | (simp [errW_none, errW_some] <;> rfl) | (simp [*, errW_none, errW_some] <;> rfl), by repeat (first | (with_reducible first | exact HB.out | apply below_alloc | apply pw_below_drewN | apply below_drew1) | exact HB.out)⟩
          · rw [if_neg c37] at H
            have c37b0 : (t112.toList == t106.toList) = false := beq_eq_false_iff_ne.mpr c37
            have c37b1 : (t112.toList != t106.toList) = true := bne_iff_ne.mpr c37
            obtain rfl := Option.some.inj H
            go_wp2
            go_ret
            exact ⟨by first | rfl | (simp [errW_none, errW_some] <;> rfl) | (simp [*, errW_none, errW_some] <;> rfl), by repeat (first | (with_reducible first | exact HB.out | apply below_alloc | apply pw_below_drewN | apply below_drew1) | exact HB.out)⟩
        · replace c36 := Bool.eq_false_iff.mpr c36
          subst c36
          have H1 : (if t112.size + 1 ≤ 9223372036854775807 then ((impl_MapTextOut.f kj5 t109 (t112 ++ (⟨#[122]⟩ : ByteArray))).bind fun bt117 => (if bt117.2.toList = (t112 ++ (⟨#[122]⟩ : ByteArray)).toList then ((laws_lzMap.f kj5 bt117.1 t109).bind fun t121 => (some t121)) else (some false))) else (none)) = some r := by rw [if_neg (show ¬ (false = true) by decide)] at H; exact H
          clear H
          have H := H1
          clear H1
          by_cases c41 : t112.size + 1 ≤ 9223372036854775807
          · rw [if_pos c41] at H
            have c41b0 := eq_true c41
            have c41b1 : decide (t112.size + 1 ≤ 9223372036854775807) = true := decide_eq_true c41
            try have c41b2 : (9223372036854775807 < t112.size + 1) = False := eq_false (Nat.not_lt.2 c41)
            replace H := Option.bind_eq_some_iff.mp H
            obtain ⟨⟨t117, t120⟩, A420, H⟩ := H
            replace H : (if t120.toList = (t112 ++ (⟨#[122]⟩ : ByteArray)).toList then ((laws_lzMap.f kj5 t117 t109).bind fun t121 => (some t121)) else (some false)) = some r := H
            have A42 := Aside0.mk A420
            clear A420
            by_cases c43 : t120.toList = (t112 ++ (⟨#[122]⟩ : ByteArray)).toList
            · rw [if_pos c43] at H
              have c43b0 : (t120.toList == (t112 ++ (⟨#[122]⟩ : ByteArray)).toList) = true := beq_iff_eq.mpr c43
              have c43b1 : (t120.toList != (t112 ++ (⟨#[122]⟩ : ByteArray)).toList) = false := bne_eq_false_iff_eq.mpr c43
              clear c43
              replace H := Option.bind_eq_some_iff.mp H
              obtain ⟨t121, A440, H⟩ := H
              replace H : (some t121) = some r := H
              have A44 := Aside0.mk A440
              clear A440
              obtain rfl := Option.some.inj H
              obtain ⟨Ao45, co45, eo45⟩ := Kd.V_slice HO_7.out
              subst eo45
              go_wp2_with (first | ((with_reducible refine gate_callee (f := 25) rfl ?_); refine goesL_ (some 72) rfl rfl Tryz.func25 (by kernel_rfl) rfl #[.slice Ao45 t109.length co45, .string (t112 ++ (⟨#[122]⟩ : ByteArray))] rfl (by (try simp only [List.map_toArray, List.map_cons, List.map_nil]); first | done | rfl | (simp only [List.length_drop, List.length_take]; rfl)) ?_; (with_reducible refine (impl_MapTextOut.calls kj5 (fun k_ => some k_ ≠ (v107 : Value).ownBlock) _ _ t109 (t112 ++ (⟨#[122]⟩ : ByteArray)) t117 t120 _ ?side1 ?side2 A42.out).mono ?_); (case side1 => exact HO_7.out); (case side2 => exact hV.next (by repeat (first | (with_reducible first | exact HB.out | apply below_alloc | apply pw_below_drewN | apply below_drew1) | exact HB.out))); rintro e w46 ⟨v118, rfl, ho0, hb⟩; refine ⟨_, rfl, ?_⟩; have n0_ := Aside0.mk (Kd.R_below (by (with_reducible repeat (first | apply Kd.R_alloc | apply Kd.R_drewN | apply Kd.R_drew)); exact HO_5.out) hb); have n1_ := Aside0.mk (Kd.V_below (by (with_reducible repeat (first | apply Kd.V_alloc | apply Kd.V_drewN | apply Kd.V_drew)); exact HO_7.out) hb); have n2_ := Aside0.mk (Kd.V_lower (Kd.V_mono (ok' := fun k_ => some k_ ≠ (v107 : Value).ownBlock) ho0 (fun k_ hk_ => Or.elim hk_ (fun hs_ => hs_) (fun hn_ => (Kd.fresh' (Kd.R_lt (by (with_reducible repeat (first | apply Kd.R_alloc | apply Kd.R_drewN | apply Kd.R_drew)); exact HO_5.out)) k_ hn_)))) (below_size (by repeat (first | (with_reducible first | exact HB.out | apply below_alloc | apply pw_below_drewN | apply below_drew1) | exact HB.out)))); have n3_ := Aside0.mk (below_step (by repeat (first | (with_reducible first | exact HB.out | apply below_alloc | apply pw_below_drewN | apply below_drew1) | exact HB.out)) hb); clear HO_5; clear HO_7; clear HB; have HO_5 := n0_; have HO_7 := n1_; have HO119 := n2_; have HB := n3_; clear n0_ n1_ n2_ n3_; (try clear hb); (try clear hb2); (try clear hk); (try clear hi); (try clear ho0); obtain ⟨Ao47, co47, eo47⟩ := Kd.V_slice HO119.out; subst eo47) | (go_at_call 29; (with_reducible refine (laws_lzMap.calls kj5 _ _ t117 _ _ t109 t121 _ ?side1 ?side2 ?side3 ?side4 A44.out).mono ?_); (case side1 => repeat (first | exact (Kd.V_reads' HO119.out).2.2 | (with_reducible refine Kd.C_alloc ?_ _) | (with_reducible refine Kd.C_drewN ?_ _) | (with_reducible refine Kd.C_drew ?_))); (case side2 => exact (Kd.V_reads' HO119.out).2.1); (case side3 => repeat (first | exact (Kd.V_reads' HO_7.out).2.2 | (with_reducible refine Kd.C_alloc ?_ _) | (with_reducible refine Kd.C_drewN ?_ _) | (with_reducible refine Kd.C_drew ?_))); (case side4 => exact (Kd.V_reads' HO_7.out).2.1); rintro e w' ⟨rfl, ⟨nd, rfl⟩⟩))
              go_ret
              exact ⟨by first | rfl | (simp [errW_none, errW_some] <;> rfl) | (simp [*, errW_none, errW_some] <;> rfl), by repeat (first | (with_reducible first | exact HB.out | apply below_alloc | apply pw_below_drewN | apply below_drew1) | exact HB.out)⟩
            · rw [if_neg c43] at H
              have c43b0 : (t120.toList == (t112 ++ (⟨#[122]⟩ : ByteArray)).toList) = false := beq_eq_false_iff_ne.mpr c43
              have c43b1 : (t120.toList != (t112 ++ (⟨#[122]⟩ : ByteArray)).toList) = true := bne_iff_ne.mpr c43
              obtain rfl := Option.some.inj H
              obtain ⟨Ao48, co48, eo48⟩ := Kd.V_slice HO_7.out
              subst eo48
              go_wp2_with (first | ((with_reducible refine gate_callee (f := 25) rfl ?_); refine goesL_ (some 72) rfl rfl Tryz.func25 (by kernel_rfl) rfl #[.slice Ao48 t109.length co48, .string (t112 ++ (⟨#[122]⟩ : ByteArray))] rfl (by (try simp only [List.map_toArray, List.map_cons, List.map_nil]); first | done | rfl | (simp only [List.length_drop, List.length_take]; rfl)) ?_; (with_reducible refine (impl_MapTextOut.calls kj5 (fun k_ => some k_ ≠ (v107 : Value).ownBlock) _ _ t109 (t112 ++ (⟨#[122]⟩ : ByteArray)) t117 t120 _ ?side1 ?side2 A42.out).mono ?_); (case side1 => exact HO_7.out); (case side2 => exact hV.next (by repeat (first | (with_reducible first | exact HB.out | apply below_alloc | apply pw_below_drewN | apply below_drew1) | exact HB.out))); rintro e w49 ⟨v118, rfl, ho0, hb⟩; refine ⟨_, rfl, ?_⟩; have n0_ := Aside0.mk (Kd.R_below (by (with_reducible repeat (first | apply Kd.R_alloc | apply Kd.R_drewN | apply Kd.R_drew)); exact HO_5.out) hb); have n1_ := Aside0.mk (Kd.V_below (by (with_reducible repeat (first | apply Kd.V_alloc | apply Kd.V_drewN | apply Kd.V_drew)); exact HO_7.out) hb); have n2_ := Aside0.mk (Kd.V_lower (Kd.V_mono (ok' := fun k_ => some k_ ≠ (v107 : Value).ownBlock) ho0 (fun k_ hk_ => Or.elim hk_ (fun hs_ => hs_) (fun hn_ => (Kd.fresh' (Kd.R_lt (by (with_reducible repeat (first | apply Kd.R_alloc | apply Kd.R_drewN | apply Kd.R_drew)); exact HO_5.out)) k_ hn_)))) (below_size (by repeat (first | (with_reducible first | exact HB.out | apply below_alloc | apply pw_below_drewN | apply below_drew1) | exact HB.out)))); have n3_ := Aside0.mk (below_step (by repeat (first | (with_reducible first | exact HB.out | apply below_alloc | apply pw_below_drewN | apply below_drew1) | exact HB.out)) hb); clear HO_5; clear HO_7; clear HB; have HO_5 := n0_; have HO_7 := n1_; have HO119 := n2_; have HB := n3_; clear n0_ n1_ n2_ n3_; (try clear hb); (try clear hb2); (try clear hk); (try clear hi); (try clear ho0)))
              go_ret
              exact ⟨by first | rfl | (simp [errW_none, errW_some] <;> rfl) | (simp [*, errW_none, errW_some] <;> rfl), by repeat (first | (with_reducible first | exact HB.out | apply below_alloc | apply pw_below_drewN | apply below_drew1) | exact HB.out)⟩
          · rw [if_neg c41] at H
            exact absurd H (by simp)
end
end Go.Proofs.YtijompkonaiagaaGreatDoor.Q
namespace Go.Proofs.YtijompkonaiagaaGreatDoor.Q
open Go.RowKit Go.Proofs.YtijompkonaiagaaGreatDoorW.PrintWords Go.Proofs.YtijompkonaiagaaGreatDoorW.PrintMore Go.Proofs.YtijompkonaiagaaGreatDoor.Z
set_option linter.unusedVariables false
set_option linter.unusedSimpArgs false
theorem FnOutTwice_true (code : List Int) (hc : ∀ b ∈ code, (0 : Int) ≤ b ∧ b ≤ 255) : ∃ k, laws_FnOutTwice.f k code = some true := by
  obtain ⟨k, hk⟩ : ∃ k, 300000 < k := ⟨300001, by omega⟩
  refine ⟨k + 1, ?_⟩
  unfold laws_FnOutTwice.f
  by_cases hlen : (code.length : Int) > 1048576
  · rw [if_pos hlen]
  · rw [if_neg hlen]
    obtain ⟨m, l, hD, hm, hl⟩ := drawOut_to (k + 1) (by omega) hc
    obtain ⟨x, t, hF⟩ : ∃ x t, mapOutT m l = (x, t) := ⟨_, _, rfl⟩
    have hS := spec_MapTextOut_to (k + 1) (by omega) m (by omega) l (by omega)
    have hI := impl_MapTextOut_to (k + 1) (by omega) m (by omega) l (by omega)
    have hxl := mapOutT_len m l
    rw [hF] at hS hI hxl
    simp only at hS hI hxl
    have hZ := lzMap_same (k + 1) (x.map prTo) (by rw [map_pr]; omega) (by omega)
    have hZ2 := lzMap_same k (x.map prTo) (by rw [map_pr]; omega) (by omega)
    have hO := spec_MapOk_is m (by omega)
    have hX := spec_TextOk_is l (by omega)
    simp only [hD, hS, hI, hZ, hO, hX, Option.bind_some, if_true]
    clear hD hS hI hZ hO hX hlen
    have hj : ∀ b, b = true → laws_FnOutTwice.j0 (k + 1) (x.map prTo) (mkB t) (x.map prTo) (mkB t) b = some true := by
      intro b hb
      simp only [laws_FnOutTwice.j0, hb, hZ2, Option.bind_some, if_true]
    cases e1 : mapOkB m
    · simp only [Bool.false_eq_true, if_false]
      exact hj _ rfl
    · cases e2 : textOk l
      · simp only [if_true, Bool.false_eq_true, if_false]
        exact hj _ rfl
      · simp only [if_true, map_pr, size_mkB]
        by_cases h7 : (x.length : Int) > 7
        · rw [if_pos h7]
          exact hj _ rfl
        · rw [if_neg h7]
          by_cases ht : (t.length : Int) ≥ 40
          · exact hj _ (decide_eq_true ht)
          · rw [decide_eq_false ht]
            have f1 := text_twice e1 e2 hF (by omega) (by omega)
            have hI2 := impl_MapTextOut_to k (by omega) x (by omega) (t ++ [122]) (by rw [List.length_append, List.length_singleton]; omega)
            rw [f1] at hI2
            simp only at hI2
            have e : mkB t ++ (⟨#[122]⟩ : ByteArray) = mkB (t ++ [122]) := bytes_append _ _
            have q1 : t.length + 1 ≤ 9223372036854775807 := by omega
            simp only [laws_FnOutTwice.j0, Bool.false_eq_true, if_false, e, hI2, hZ2, Option.bind_some, size_mkB, q1, if_true]
end Go.Proofs.YtijompkonaiagaaGreatDoor.Q
namespace Go.Proofs.YtijompkonaiagaaGreatDoor.fnOutTwice
open Go.ChangeShapes Go.WideShapes Go.ChangeAt Go.RowKit Go.Proofs.YtijompkonaiagaaGreatDoorW.PrintWords
open Go.ChangeMaps (open_string shut_string)
set_option linter.unusedVariables false
theorem own : ownKnob Tryz.prog.godebug = none := by kernel_rfl
theorem laidOut : laidOutB Tryz.prog = true := by kernel_rfl
set_option maxRecDepth 100000 in
theorem lifted (os : Os) (started : os.Started) (H : Type) (enc : TypeId × Value → H) :
    ReturnsInHanded {} Tryz.checked os 7 .any (fun w args => (Rows.fnOutTwiceSpec.pre enc Tryz.prog Tryz.f7 Rows.fnOutTwiceRow.domain false w args ∧ laidMetH Tryz.prog Z.laidL w) ∧ sizedMet enc Tryz.prog Tryz.f7 (OpenSpec.ofChange Rows.fnOutTwiceSpec) false w args)
      (Rows.fnOutTwiceSpec.post enc Tryz.prog Tryz.f7 false true false false) := by
  refine Z.wrap_laid (C := Tryz.checked) (X := fun w _ => laidMetH Tryz.prog Z.laidL w) (fun _ _ _ hh h => h.of_heap hh) own started (by kernel_rfl) Tryz.func7
    (ChangeSpec.witness_shaped (enc := enc) (C := Tryz.checked) (os := os) (X := fun w _ => laidMetH Tryz.prog Z.laidL w) false (World.laidAll Tryz.prog os Z.laidL) #[.slice none 0 0] 8 (World.laidAll_os _ _ _)
      (World.shaped_of_ZipB (by kernel_rfl) (by kernel_rfl)) (by kernel_rfl) (by kernel_rfl) (by kernel_rfl) (Z.laid_met os _)) ?_
  intro W base args ds gs before hval0 hW hL hsh
  have hvars := Z.vars_of hL hsh
  have hval : ∀ (j : Nat) t v, Tryz.f7.params[j]? = some t → args[j]? = some v → Value.okWide Tryz.prog W .any base t v := hval0
  have hW' := hW
  obtain ⟨p, q, hA0, hV, rfl, hfz, hnd⟩ := hW
  have hA : DataW.TrodAll enc Tryz.prog W 0 (fun _ => true) true Tryz.f7.params.toList args.toList ds p := hA0
  rw [Tryz.params7] at hA hval
  obtain ⟨v0, vs0, d0, ds0, p0, q0, hargs, rfl, rfl, h0, r0⟩ := trodAll_cons hA
  obtain ⟨rfl, rfl, rfl⟩ := trodAll_nil r0
  obtain rfl : args = #[v0] := by cases args; simp_all
  obtain ⟨rfl, rfl⟩ := trodVars_none hV
  obtain ⟨a0, len0, cap0, rfl⟩ := okWide_slice Tryz.underlying22 (hval 0 22 v0 rfl rfl)
  have k0 := h0
  have lt0 : ∀ x ∈ p0, x.block < W.heap.size := by obtain ⟨m, hm⟩ := k0; exact DataW.trod_lt m _ _ _ hm
  obtain ⟨fuel0, hf0⟩ := h0
  obtain ⟨xs0, ⟨A0, c0, hcs0, hl0, hC0⟩, hg0⟩ := Z.openBytes.2 _ _ _ _ _ _ _ _ _ hf0
  simp [Value.cells] at hcs0
  obtain ⟨rfl, rfl, rfl⟩ := hcs0
  clear hA0 hval0
  obtain ⟨k, hk⟩ := Q.FnOutTwice_true xs0 (Z.bytes_le hg0)
  refine (Q.laws_FnOutTwice.calls k a0 cap0 xs0 true W hC0 hl0 hvars hk).mono ?_
  rintro e W' ⟨rfl, bel⟩
  exact ⟨_, rfl, _, _, _, [], _, [], hW', trodAll_mk1 (shut_bool Tryz.underlying4 _), (trodAll_cons_mk (Below.trod laidOut (by kernel_rfl) (of_decide_eq_true (by kernel_rfl)) k0 bel lt0) trodAll_mk0), rfl, bel.frame _, fun h => by cases h⟩
theorem over : Rows.fnOutTwiceRow.holds Tryz.pinned (OpenSpec.ofChange Rows.fnOutTwiceSpec) :=
  OpenClaim.holds_of_wide 7 Tryz.f7 rfl rfl rfl rfl rfl rfl rfl ⟨rfl, rfl, rfl, rfl, rfl⟩ rfl rfl rfl rfl rfl (by kernel_rfl) Tryz.func7 (by kernel_rfl)
    (of_decide_eq_true (by kernel_rfl)) (by unfold Func.isWrapper; first | (rw [if_pos (by decide +kernel)]; kernel_rfl) | (rw [if_neg (by decide +kernel)]; exact ⟨rfl, rfl⟩))
    (fun os started H enc _ => lifted os started H enc)
end Go.Proofs.YtijompkonaiagaaGreatDoor.fnOutTwice
namespace Go.Proofs.YtijompkonaiagaaGreatDoor
theorem fnOutTwice_card : Rows.FnOutTwiceCardSaid :=
  Claim7.holds_tied_plain_at .later [] Rows.fnOutTwiceCard.laidKinds true Rows.fnOutTwiceCard.stood.harness true
    fnOutTwice.over (fun _ h => by cases h) (by kernel_rfl) (fun _ h => by cases h) fnOutTwice_row_tie rfl ⟨rfl, rfl⟩ (by kernel_rfl) rfl
    (fun f fn hf hfn => by
      obtain rfl : f = 7 := Option.some.inj ((show Tryz.prog.funcNamed Rows.fnOutTwiceRow.func = some 7 by kernel_rfl).symm.trans hf) |>.symm
      obtain rfl : fn = Tryz.f7 := (Option.some.inj (Tryz.func7.symm.trans hfn)).symm
      exact ⟨by kernel_rfl, fun j t ht => by
        rw [Tryz.params7] at ht
        have hm : t ∈ [22] := by simpa using Array.mem_of_getElem? ht
        have hall : ([22].all fun u => !Tryz.prog.wantsStandIn u) = true := by kernel_rfl
        exact (show Tryz.prog.wantsStandIn t = false by simpa using List.all_eq_true.1 hall t hm)⟩)
    (by kernel_rfl)
#print axioms fnOutTwice_card
end Go.Proofs.YtijompkonaiagaaGreatDoor
