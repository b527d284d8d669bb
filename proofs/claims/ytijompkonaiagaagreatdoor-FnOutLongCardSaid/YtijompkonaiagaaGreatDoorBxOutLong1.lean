/- The law FnOutLong, plainly: its Lean function answers true at every code. For every code FnOutLong returns true and leaves its arguments as they were: what goes out is longer by a byte for each name of an end inside. -/
import Derived.Test.YtijompkonaiagaaGreatDoorBb2
import Derived.Test.YtijompkonaiagaaGreatDoorBb4
import Derived.Test.YtijompkonaiagaaGreatDoorBb5
import Derived.Test.YtijompkonaiagaaGreatDoorRows
import Derived.Test.YtijompkonaiagaaGreatDoorTie
import Derived.Test.YtijompkonaiagaaGreatDoorCards
import Derived.SevenTiedAt
import Derived.WalkKit
import Derived.ProofKit
import Derived.OpenShut
import Derived.ShutString
import Derived.ChangeOld
import Derived.Below
import Derived.SizedLaws
namespace Go.Proofs.YtijompkonaiagaaGreatDoor.Q
open Go.RowKit Go.Proofs.YtijompkonaiagaaGreatDoorW.PrintWords Go.Proofs.YtijompkonaiagaaGreatDoorW.PrintLast Go.Proofs.YtijompkonaiagaaGreatDoorW.PrintMore Go.Proofs.YtijompkonaiagaaGreatDoor.Z
attribute [local go_sem] max2_int min2_int max_two min_two max_three min_three max_four min_four
set_option linter.unusedVariables false
set_option linter.unusedSimpArgs false
noncomputable section
mutual
def laws_FnOutLong.j0 : Nat → ByteArray → List (S69) → ByteArray → List (S69) → ByteArray → Bool → Option (Bool)
  | 0, _, _, _, _, _, _ => none
  | k + 1, x4, x5, x6, x7, x8, x55 => if x55 = true then (if x8.toList = x6.toList then ((laws_lzMap.f k x7 x5).bind fun t116 => (some t116)) else (some false)) else ((impl_TextNames.f k x4).bind fun t117 => (laws_FnOutLong.l0 k x4 x8 0 t117 0))
def laws_FnOutLong.l0 : Nat → ByteArray → ByteArray → Int → List (S24) → Int → Option (Bool)
  | 0, _, _, _, _, _ => none
  | k + 1, x4, x8, x9, x10, x11 => if x11 < (x10.length : Int) then (if 0 ≤ x11 then ((impl_EndInside.f ((rd_T24 x10 x11).f0) ((rd_T24 x10 x11).f1)).bind fun t121 => (if t121 = true then (laws_FnOutLong.l0 k x4 x8 (wrap64 (x9 + 1)) x10 (wrap64 (x11 + 1))) else (laws_FnOutLong.l0 k x4 x8 x9 x10 (wrap64 (x11 + 1))))) else (none)) else ((impl_TextHeld.f x4).bind fun t122 => (some ((x8.size : Int) == (wrap64 ((wrap64 ((x4.size : Int) - t122)) + x9)))))
end
def laws_FnOutLong.f (k : Nat) (l0 : List Int) : Option (Bool) := if (l0.length : Int) > 1048576 then (some true) else ((spec_DrawMapTextOut.f k l0).bind fun bt101 => ((spec_MapTextOut.f k bt101.1 bt101.2).bind fun bt105 => ((impl_MapTextOut.f k bt101.1 bt101.2).bind fun bt109 => (if bt109.2.toList = bt105.2.toList then ((laws_lzMap.f k bt109.1 bt105.1).bind fun t113 => (if t113 = true then ((spec_MapOk.f bt101.1).bind fun t114 => (if t114 = true then ((spec_TextOk.f bt101.2).bind fun t115 => (if t115 = true then (laws_FnOutLong.j0 k bt101.2 bt105.1 bt105.2 bt109.1 bt109.2 (decide ((bt109.1.length : Int) > 7))) else (laws_FnOutLong.j0 k bt101.2 bt105.1 bt105.2 bt109.1 bt109.2 true))) else (laws_FnOutLong.j0 k bt101.2 bt105.1 bt105.2 bt109.1 bt109.2 true))) else (laws_FnOutLong.j0 k bt101.2 bt105.1 bt105.2 bt109.1 bt109.2 true))) else (laws_FnOutLong.j0 k bt101.2 bt105.1 bt105.2 bt109.1 bt109.2 true)))))
set_option maxHeartbeats 8000000 in
set_option maxRecDepth 100000 in
theorem laws_FnOutLong.calls (k : Nat) (A0 : Option Addr) (c0 : Nat) (l0 : List Int) (r : Bool) (w : World) (hr0 : Kd.C (Kd.int .u8) w A0 l0.length l0) (hc0 : l0.length ≤ c0) (hV : VarsIn w) (h : laws_FnOutLong.f k l0 = some r) :
    Calls Tryz.prog 12 #[.slice A0 l0.length c0] w fun e w' => e = .returned (.bool r) ∧ Below w.heap.size w w' := by
  have hu24 := Tryz.underlying24
  have HR0 := Aside0.mk hr0
  have HC0 := Aside0.mk hc0
  clear hr0 hc0
  have HB := Aside0.mk (Below.refl w.heap.size w)
  have H : (if (l0.length : Int) > 1048576 then (some true) else ((spec_DrawMapTextOut.f k l0).bind fun bt101 => ((spec_MapTextOut.f k bt101.1 bt101.2).bind fun bt105 => ((impl_MapTextOut.f k bt101.1 bt101.2).bind fun bt109 => (if bt109.2.toList = bt105.2.toList then ((laws_lzMap.f k bt109.1 bt105.1).bind fun t113 => (if t113 = true then ((spec_MapOk.f bt101.1).bind fun t114 => (if t114 = true then ((spec_TextOk.f bt101.2).bind fun t115 => (if t115 = true then (laws_FnOutLong.j0 k bt101.2 bt105.1 bt105.2 bt109.1 bt109.2 (decide ((bt109.1.length : Int) > 7))) else (laws_FnOutLong.j0 k bt101.2 bt105.1 bt105.2 bt109.1 bt109.2 true))) else (laws_FnOutLong.j0 k bt101.2 bt105.1 bt105.2 bt109.1 bt109.2 true))) else (laws_FnOutLong.j0 k bt101.2 bt105.1 bt105.2 bt109.1 bt109.2 true))) else (laws_FnOutLong.j0 k bt101.2 bt105.1 bt105.2 bt109.1 bt109.2 true)))))) = some r := h
  clear h
  by_cases c2 : (l0.length : Int) > 1048576
  · rw [if_pos c2] at H
    have c2b0 : decide (1048576 < (l0.length : Int)) = true := decide_eq_true c2
    have c2b1 : decide (1048576 < l0.length) = true := decide_eq_true (by omega)
    clear c2
    obtain rfl := Option.some.inj H
    go_enter Tryz.func12, Tryz.ntmps12
    go_wp2
    go_ret
    exact ⟨by first | rfl | (simp [errW_none, errW_some] <;> rfl) | (simp [*, errW_none, errW_some] <;> rfl), by repeat (first | (with_reducible first | exact HB.out | apply below_alloc | apply pw_below_drewN | apply below_drew1) | exact HB.out)⟩
  · rw [if_neg c2] at H
    have c2b0 : decide (1048576 < (l0.length : Int)) = false := decide_eq_false c2
    have c2b1 : decide (1048576 < l0.length) = false := decide_eq_false (by omega)
    clear c2
    replace H := Option.bind_eq_some_iff.mp H
    obtain ⟨⟨t101, t102⟩, A30, H⟩ := H
    replace H : ((spec_MapTextOut.f k t101 t102).bind fun bt105 => ((impl_MapTextOut.f k t101 t102).bind fun bt109 => (if bt109.2.toList = bt105.2.toList then ((laws_lzMap.f k bt109.1 bt105.1).bind fun t113 => (if t113 = true then ((spec_MapOk.f t101).bind fun t114 => (if t114 = true then ((spec_TextOk.f t102).bind fun t115 => (if t115 = true then (laws_FnOutLong.j0 k t102 bt105.1 bt105.2 bt109.1 bt109.2 (decide ((bt109.1.length : Int) > 7))) else (laws_FnOutLong.j0 k t102 bt105.1 bt105.2 bt109.1 bt109.2 true))) else (laws_FnOutLong.j0 k t102 bt105.1 bt105.2 bt109.1 bt109.2 true))) else (laws_FnOutLong.j0 k t102 bt105.1 bt105.2 bt109.1 bt109.2 true))) else (laws_FnOutLong.j0 k t102 bt105.1 bt105.2 bt109.1 bt109.2 true)))) = some r := H
    have A3 := Aside0.mk A30
    clear A30
    replace H := Option.bind_eq_some_iff.mp H
    obtain ⟨⟨t105, t106⟩, A40, H⟩ := H
    replace H : ((impl_MapTextOut.f k t101 t102).bind fun bt109 => (if bt109.2.toList = t106.toList then ((laws_lzMap.f k bt109.1 t105).bind fun t113 => (if t113 = true then ((spec_MapOk.f t101).bind fun t114 => (if t114 = true then ((spec_TextOk.f t102).bind fun t115 => (if t115 = true then (laws_FnOutLong.j0 k t102 t105 t106 bt109.1 bt109.2 (decide ((bt109.1.length : Int) > 7))) else (laws_FnOutLong.j0 k t102 t105 t106 bt109.1 bt109.2 true))) else (laws_FnOutLong.j0 k t102 t105 t106 bt109.1 bt109.2 true))) else (laws_FnOutLong.j0 k t102 t105 t106 bt109.1 bt109.2 true))) else (laws_FnOutLong.j0 k t102 t105 t106 bt109.1 bt109.2 true))) = some r := H
    have A4 := Aside0.mk A40
    clear A40
    replace H := Option.bind_eq_some_iff.mp H
    obtain ⟨⟨t109, t112⟩, A50, H⟩ := H
    replace H : (if t112.toList = t106.toList then ((laws_lzMap.f k t109 t105).bind fun t113 => (if t113 = true then ((spec_MapOk.f t101).bind fun t114 => (if t114 = true then ((spec_TextOk.f t102).bind fun t115 => (if t115 = true then (laws_FnOutLong.j0 k t102 t105 t106 t109 t112 (decide ((t109.length : Int) > 7))) else (laws_FnOutLong.j0 k t102 t105 t106 t109 t112 true))) else (laws_FnOutLong.j0 k t102 t105 t106 t109 t112 true))) else (laws_FnOutLong.j0 k t102 t105 t106 t109 t112 true))) else (laws_FnOutLong.j0 k t102 t105 t106 t109 t112 true)) = some r := H
    have A5 := Aside0.mk A50
    clear A50
    have HC6 := Aside0.mk H
    clear H
    go_enter Tryz.func12, Tryz.ntmps12
    go_upto_region 6 with (first | ((with_reducible refine gate_callee (f := 28) rfl ?_); refine goesL_ (some 17) rfl rfl Tryz.func28 (by kernel_rfl) rfl #[.slice A0 l0.length c0] rfl (by (try simp only [List.map_toArray, List.map_cons, List.map_nil]); first | done | rfl | (simp only [List.length_drop, List.length_take]; rfl)) ?_; (with_reducible refine (spec_DrawMapTextOut.calls k _ _ l0 t101 t102 _ ?side1 ?side2 A3.out).mono ?_); (case side1 => repeat (first | exact HR0.out | (with_reducible refine Kd.C_alloc ?_ _) | (with_reducible refine Kd.C_drewN ?_ _) | (with_reducible refine Kd.C_drew ?_))); (case side2 => exact HC0.out); rintro e w7 ⟨v103, rfl, ho0, hb⟩; refine ⟨_, rfl, ?_⟩; have n0_ := Aside0.mk (Kd.Q_lower ho0 (below_size (by repeat (first | (with_reducible first | exact HB.out | apply below_alloc | apply pw_below_drewN | apply below_drew1) | exact HB.out)))); have n1_ := Aside0.mk (below_step (by repeat (first | (with_reducible first | exact HB.out | apply below_alloc | apply pw_below_drewN | apply below_drew1) | exact HB.out)) hb); clear HB; have HO104 := n0_; have HB := n1_; clear n0_ n1_; (try clear hb); (try clear hb2); (try clear hk); (try clear hi); (try clear ho0); obtain ⟨Ao8, co8, eo8, _⟩ := Kd.Q_slice HO104.out; subst eo8) | ((with_reducible refine gate_callee (f := 24) rfl ?_); refine goesL_ (some 23) rfl rfl Tryz.func24 (by kernel_rfl) rfl #[.slice Ao8 t101.length co8, .string t102] rfl (by (try simp only [List.map_toArray, List.map_cons, List.map_nil]); first | done | rfl | (simp only [List.length_drop, List.length_take]; rfl)) ?_; (with_reducible refine (spec_MapTextOut.calls k _ _ t101 t102 t105 t106 _ ?side1 ?side2 A4.out).mono ?_); (case side1 => repeat (first | exact (Kd.Q_reads' HO104.out).2.2 | (with_reducible refine Kd.C_alloc ?_ _) | (with_reducible refine Kd.C_drewN ?_ _) | (with_reducible refine Kd.C_drew ?_))); (case side2 => exact (Kd.Q_reads' HO104.out).2.1); rintro e w9 ⟨v107, rfl, ho0, hb⟩; refine ⟨_, rfl, ?_⟩; have n0_ := Aside0.mk (Kd.Q_elder' (by (with_reducible repeat (first | apply Kd.Q_alloc | apply Kd.Q_drewN | apply Kd.Q_drew)); exact HO104.out) (Kd.R_base ho0) hb); have n1_ := Aside0.mk (Kd.R_lower (Kd.R_new' ho0 (Kd.Q_lt (by (with_reducible repeat (first | apply Kd.Q_alloc | apply Kd.Q_drewN | apply Kd.Q_drew)); exact HO104.out))) (below_size (by repeat (first | (with_reducible first | exact HB.out | apply below_alloc | apply pw_below_drewN | apply below_drew1) | exact HB.out)))); have n2_ := Aside0.mk (below_step (by repeat (first | (with_reducible first | exact HB.out | apply below_alloc | apply pw_below_drewN | apply below_drew1) | exact HB.out)) hb); clear HO104; clear HB; have HO104 := n0_; have HO108 := n1_; have HB := n2_; clear n0_ n1_ n2_; (try clear hb); (try clear hb2); (try clear hk); (try clear hi); (try clear ho0)) | ((with_reducible refine gate_callee (f := 25) rfl ?_); refine goesL_ (some 29) rfl rfl Tryz.func25 (by kernel_rfl) rfl #[.slice Ao8 t101.length co8, .string t102] rfl (by (try simp only [List.map_toArray, List.map_cons, List.map_nil]); first | done | rfl | (simp only [List.length_drop, List.length_take]; rfl)) ?_; (with_reducible refine (impl_MapTextOut.calls k (fun k_ => some k_ = (.slice Ao8 t101.length co8 : Value).ownBlock) _ _ t101 t102 t109 t112 _ ?side1 ?side2 A5.out).mono ?_); (case side1 => exact Kd.Q_V (Kd.Q_tight rfl (HO104.out))); (case side2 => exact hV.next (by repeat (first | (with_reducible first | exact HB.out | apply below_alloc | apply pw_below_drewN | apply below_drew1) | exact HB.out))); rintro e w10 ⟨v110, rfl, ho0, hb⟩; refine ⟨_, rfl, ?_⟩; have n0_ := Aside0.mk (Kd.Q_below (by (with_reducible repeat (first | apply Kd.Q_alloc | apply Kd.Q_drewN | apply Kd.Q_drew)); exact HO104.out) hb); have n1_ := Aside0.mk (Kd.R_below (by (with_reducible repeat (first | apply Kd.R_alloc | apply Kd.R_drewN | apply Kd.R_drew)); exact HO108.out) hb); have n2_ := Aside0.mk (Kd.V_lower (Kd.V_mono (ok' := fun k_ => some k_ ≠ (v107 : Value).ownBlock) ho0 (fun k_ hk_ => Or.elim hk_ (fun hs_ => ((HO104.out).1 k_ hs_.symm).2) (fun hn_ => (Kd.fresh' (Kd.R_lt (by (with_reducible repeat (first | apply Kd.R_alloc | apply Kd.R_drewN | apply Kd.R_drew)); exact HO108.out)) k_ hn_)))) (below_size (by repeat (first | (with_reducible first | exact HB.out | apply below_alloc | apply pw_below_drewN | apply below_drew1) | exact HB.out)))); have n3_ := Aside0.mk (below_step (by repeat (first | (with_reducible first | exact HB.out | apply below_alloc | apply pw_below_drewN | apply below_drew1) | exact HB.out)) hb); clear HO104; clear HO108; clear HB; have HO104 := n0_; have HO108 := n1_; have HO111 := n2_; have HB := n3_; clear n0_ n1_ n2_ n3_; (try clear hb); (try clear hb2); (try clear hk); (try clear hi); (try clear ho0)))
    (try simp only [Act.put, List.setIfInBounds_toArray, List.set_cons_zero, List.set_cons_succ])
    go_cut [55] (fun v55 wc => ∃ (kq : Nat) (x55_5 : Bool), v55 = .bool x55_5 ∧ Aside0 (laws_FnOutLong.j0 kq t102 t105 t106 t109 t112 x55_5 = some r) ∧ Aside0 (kq ≤ k) ∧ Aside0 (Kd.R k69 69 wc w.heap.size (fun _ => True) v107 t105) ∧ Aside0 (Kd.V k69 69 wc w.heap.size (fun k_ => some k_ ≠ (v107 : Value).ownBlock) v110 t109) ∧ Aside0 (Below w.heap.size w wc))
    case first =>
      have H := HC6.out
      clear HC6
      by_cases c11 : t112.toList = t106.toList
      · rw [if_pos c11] at H
        have c11b0 : (t112.toList == t106.toList) = true := beq_iff_eq.mpr c11
        have c11b1 : (t112.toList != t106.toList) = false := bne_eq_false_iff_eq.mpr c11
        clear c11
        (first | rw [c11b0] | (simp only [i64_w, i32_w]; rw [c11b0]) | skip)
        replace H := Option.bind_eq_some_iff.mp H
        obtain ⟨t113, A120, H⟩ := H
        replace H : (if t113 = true then ((spec_MapOk.f t101).bind fun t114 => (if t114 = true then ((spec_TextOk.f t102).bind fun t115 => (if t115 = true then (laws_FnOutLong.j0 k t102 t105 t106 t109 t112 (decide ((t109.length : Int) > 7))) else (laws_FnOutLong.j0 k t102 t105 t106 t109 t112 true))) else (laws_FnOutLong.j0 k t102 t105 t106 t109 t112 true))) else (laws_FnOutLong.j0 k t102 t105 t106 t109 t112 true)) = some r := H
        have A12 := Aside0.mk A120
        clear A120
        by_cases c13 : t113 = true
        · subst c13
          have H1 : ((spec_MapOk.f t101).bind fun t114 => (if t114 = true then ((spec_TextOk.f t102).bind fun t115 => (if t115 = true then (laws_FnOutLong.j0 k t102 t105 t106 t109 t112 (decide ((t109.length : Int) > 7))) else (laws_FnOutLong.j0 k t102 t105 t106 t109 t112 true))) else (laws_FnOutLong.j0 k t102 t105 t106 t109 t112 true))) = some r := by rw [if_pos rfl] at H; exact H
          clear H
          have H := H1
          clear H1
          replace H := Option.bind_eq_some_iff.mp H
          obtain ⟨t114, A140, H⟩ := H
          replace H : (if t114 = true then ((spec_TextOk.f t102).bind fun t115 => (if t115 = true then (laws_FnOutLong.j0 k t102 t105 t106 t109 t112 (decide ((t109.length : Int) > 7))) else (laws_FnOutLong.j0 k t102 t105 t106 t109 t112 true))) else (laws_FnOutLong.j0 k t102 t105 t106 t109 t112 true)) = some r := H
          have A14 := Aside0.mk A140
          clear A140
          by_cases c15 : t114 = true
          · subst c15
            have H1 : ((spec_TextOk.f t102).bind fun t115 => (if t115 = true then (laws_FnOutLong.j0 k t102 t105 t106 t109 t112 (decide ((t109.length : Int) > 7))) else (laws_FnOutLong.j0 k t102 t105 t106 t109 t112 true))) = some r := by rw [if_pos rfl] at H; exact H
            clear H
            have H := H1
            clear H1
            replace H := Option.bind_eq_some_iff.mp H
            obtain ⟨t115, A160, H⟩ := H
            replace H : (if t115 = true then (laws_FnOutLong.j0 k t102 t105 t106 t109 t112 (decide ((t109.length : Int) > 7))) else (laws_FnOutLong.j0 k t102 t105 t106 t109 t112 true)) = some r := H
            have A16 := Aside0.mk A160
            clear A160
            by_cases c17 : t115 = true
            · subst c17
              have H1 : (laws_FnOutLong.j0 k t102 t105 t106 t109 t112 (decide ((t109.length : Int) > 7))) = some r := by rw [if_pos rfl] at H; exact H
              clear H
              have H := H1
              clear H1
              have H' := Aside0.mk H
              clear H
              obtain ⟨Ao18, co18, eo18⟩ := Kd.V_slice HO111.out
              subst eo18
              obtain ⟨Ao19, co19, eo19⟩ := Kd.R_slice HO108.out
              subst eo19
              go_wp2_with (first | (go_at_call 29; (with_reducible refine (laws_lzMap.calls k _ _ t109 _ _ t105 true _ ?side1 ?side2 ?side3 ?side4 A12.out).mono ?_); (case side1 => repeat (first | exact (Kd.V_reads' HO111.out).2.2 | (with_reducible refine Kd.C_alloc ?_ _) | (with_reducible refine Kd.C_drewN ?_ _) | (with_reducible refine Kd.C_drew ?_))); (case side2 => exact (Kd.V_reads' HO111.out).2.1); (case side3 => repeat (first | exact (Kd.R_reads' HO108.out).2.2 | (with_reducible refine Kd.C_alloc ?_ _) | (with_reducible refine Kd.C_drewN ?_ _) | (with_reducible refine Kd.C_drew ?_))); (case side4 => exact (Kd.R_reads' HO108.out).2.1); rintro e w' ⟨rfl, ⟨nd, rfl⟩⟩) | (go_at_call 30; (with_reducible refine (spec_MapOk.calls _ _ t101 true _ ?side1 ?side2 A14.out).mono ?_); (case side1 => repeat (first | exact (Kd.Q_reads' HO104.out).2.2 | (with_reducible refine Kd.C_alloc ?_ _) | (with_reducible refine Kd.C_drewN ?_ _) | (with_reducible refine Kd.C_drew ?_))); (case side2 => exact (Kd.Q_reads' HO104.out).2.1); rintro e w20 ⟨rfl, hb⟩; have n0_ := Aside0.mk (Kd.Q_below (by (with_reducible repeat (first | apply Kd.Q_alloc | apply Kd.Q_drewN | apply Kd.Q_drew)); exact HO104.out) hb); have n1_ := Aside0.mk (Kd.R_below (by (with_reducible repeat (first | apply Kd.R_alloc | apply Kd.R_drewN | apply Kd.R_drew)); exact HO108.out) hb); have n2_ := Aside0.mk (Kd.V_below (by (with_reducible repeat (first | apply Kd.V_alloc | apply Kd.V_drewN | apply Kd.V_drew)); exact HO111.out) hb); have n3_ := Aside0.mk (below_step (by repeat (first | (with_reducible first | exact HB.out | apply below_alloc | apply pw_below_drewN | apply below_drew1) | exact HB.out)) hb); clear HO104; clear HO108; clear HO111; clear HB; have HO104 := n0_; have HO108 := n1_; have HO111 := n2_; have HB := n3_; clear n0_ n1_ n2_ n3_; (try clear hb); (try clear hb2); (try clear hk); (try clear hi)) | (go_at_call 31; (with_reducible refine (spec_TextOk.calls t102 true _ A16.out).mono ?_); rintro e w21 ⟨rfl, hb⟩; have n0_ := Aside0.mk (Kd.Q_below (by (with_reducible repeat (first | apply Kd.Q_alloc | apply Kd.Q_drewN | apply Kd.Q_drew)); exact HO104.out) hb); have n1_ := Aside0.mk (Kd.R_below (by (with_reducible repeat (first | apply Kd.R_alloc | apply Kd.R_drewN | apply Kd.R_drew)); exact HO108.out) hb); have n2_ := Aside0.mk (Kd.V_below (by (with_reducible repeat (first | apply Kd.V_alloc | apply Kd.V_drewN | apply Kd.V_drew)); exact HO111.out) hb); have n3_ := Aside0.mk (below_step (by repeat (first | (with_reducible first | exact HB.out | apply below_alloc | apply pw_below_drewN | apply below_drew1) | exact HB.out)) hb); clear HO104; clear HO108; clear HO111; clear HB; have HO104 := n0_; have HO108 := n1_; have HO111 := n2_; have HB := n3_; clear n0_ n1_ n2_ n3_; (try clear hb); (try clear hb2); (try clear hk); (try clear hi)))
              go_meet
              case rel => exact ⟨_, (decide ((t109.length : Int) > 7)), (by first | rfl | (simp; done) | (simp [*]; done)), H', ⟨by first | omega | exact Nat.le_refl _⟩, ⟨by (with_reducible repeat (first | apply Kd.R_alloc | apply Kd.R_drewN | apply Kd.R_drew)); exact Kd.R_mono HO108.out (fun _ hk => trivial)⟩, ⟨by (with_reducible repeat (first | apply Kd.V_alloc | apply Kd.V_drewN | apply Kd.V_drew)); exact HO111.out⟩, ⟨by repeat (first | (with_reducible first | exact HB.out | apply below_alloc | apply pw_below_drewN | apply below_drew1) | exact HB.out)⟩⟩
            · replace c17 := Bool.eq_false_iff.mpr c17
              subst c17
              have H1 : (laws_FnOutLong.j0 k t102 t105 t106 t109 t112 true) = some r := by rw [if_neg (show ¬ (false = true) by decide)] at H; exact H
              clear H
              have H := H1
              clear H1
              have H' := Aside0.mk H
              clear H
              obtain ⟨Ao22, co22, eo22⟩ := Kd.V_slice HO111.out
              subst eo22
              obtain ⟨Ao23, co23, eo23⟩ := Kd.R_slice HO108.out
              subst eo23
              go_wp2_with (first | (go_at_call 29; (with_reducible refine (laws_lzMap.calls k _ _ t109 _ _ t105 true _ ?side1 ?side2 ?side3 ?side4 A12.out).mono ?_); (case side1 => repeat (first | exact (Kd.V_reads' HO111.out).2.2 | (with_reducible refine Kd.C_alloc ?_ _) | (with_reducible refine Kd.C_drewN ?_ _) | (with_reducible refine Kd.C_drew ?_))); (case side2 => exact (Kd.V_reads' HO111.out).2.1); (case side3 => repeat (first | exact (Kd.R_reads' HO108.out).2.2 | (with_reducible refine Kd.C_alloc ?_ _) | (with_reducible refine Kd.C_drewN ?_ _) | (with_reducible refine Kd.C_drew ?_))); (case side4 => exact (Kd.R_reads' HO108.out).2.1); rintro e w' ⟨rfl, ⟨nd, rfl⟩⟩) | (go_at_call 30; (with_reducible refine (spec_MapOk.calls _ _ t101 true _ ?side1 ?side2 A14.out).mono ?_); (case side1 => repeat (first | exact (Kd.Q_reads' HO104.out).2.2 | (with_reducible refine Kd.C_alloc ?_ _) | (with_reducible refine Kd.C_drewN ?_ _) | (with_reducible refine Kd.C_drew ?_))); (case side2 => exact (Kd.Q_reads' HO104.out).2.1); rintro e w24 ⟨rfl, hb⟩; have n0_ := Aside0.mk (Kd.Q_below (by (with_reducible repeat (first | apply Kd.Q_alloc | apply Kd.Q_drewN | apply Kd.Q_drew)); exact HO104.out) hb); have n1_ := Aside0.mk (Kd.R_below (by (with_reducible repeat (first | apply Kd.R_alloc | apply Kd.R_drewN | apply Kd.R_drew)); exact HO108.out) hb); have n2_ := Aside0.mk (Kd.V_below (by (with_reducible repeat (first | apply Kd.V_alloc | apply Kd.V_drewN | apply Kd.V_drew)); exact HO111.out) hb); have n3_ := Aside0.mk (below_step (by repeat (first | (with_reducible first | exact HB.out | apply below_alloc | apply pw_below_drewN | apply below_drew1) | exact HB.out)) hb); clear HO104; clear HO108; clear HO111; clear HB; have HO104 := n0_; have HO108 := n1_; have HO111 := n2_; have HB := n3_; clear n0_ n1_ n2_ n3_; (try clear hb); (try clear hb2); (try clear hk); (try clear hi)) | (go_at_call 31; (with_reducible refine (spec_TextOk.calls t102 false _ A16.out).mono ?_); rintro e w25 ⟨rfl, hb⟩; have n0_ := Aside0.mk (Kd.Q_below (by (with_reducible repeat (first | apply Kd.Q_alloc | apply Kd.Q_drewN | apply Kd.Q_drew)); exact HO104.out) hb); have n1_ := Aside0.mk (Kd.R_below (by (with_reducible repeat (first | apply Kd.R_alloc | apply Kd.R_drewN | apply Kd.R_drew)); exact HO108.out) hb); have n2_ := Aside0.mk (Kd.V_below (by (with_reducible repeat (first | apply Kd.V_alloc | apply Kd.V_drewN | apply Kd.V_drew)); exact HO111.out) hb); have n3_ := Aside0.mk (below_step (by repeat (first | (with_reducible first | exact HB.out | apply below_alloc | apply pw_below_drewN | apply below_drew1) | exact HB.out)) hb); clear HO104; clear HO108; clear HO111; clear HB; have HO104 := n0_; have HO108 := n1_; have HO111 := n2_; have HB := n3_; clear n0_ n1_ n2_ n3_; (try clear hb); (try clear hb2); (try clear hk); (try clear hi)))
              go_meet
              case rel => exact ⟨_, (true), (by first | rfl | (simp; done) | (simp [*]; done)), H', ⟨by first | omega | exact Nat.le_refl _⟩, ⟨by (with_reducible repeat (first | apply Kd.R_alloc | apply Kd.R_drewN | apply Kd.R_drew)); exact Kd.R_mono HO108.out (fun _ hk => trivial)⟩, ⟨by (with_reducible repeat (first | apply Kd.V_alloc | apply Kd.V_drewN | apply Kd.V_drew)); exact HO111.out⟩, ⟨by repeat (first | (with_reducible first | exact HB.out | apply below_alloc | apply pw_below_drewN | apply below_drew1) | exact HB.out)⟩⟩
          · replace c15 := Bool.eq_false_iff.mpr c15
            subst c15
            have H1 : (laws_FnOutLong.j0 k t102 t105 t106 t109 t112 true) = some r := by rw [if_neg (show ¬ (false = true) by decide)] at H; exact H
            clear H
            have H := H1
            clear H1
            have H' := Aside0.mk H
            clear H
            obtain ⟨Ao26, co26, eo26⟩ := Kd.V_slice HO111.out
            subst eo26
            obtain ⟨Ao27, co27, eo27⟩ := Kd.R_slice HO108.out
            subst eo27
            go_wp2_with (first | (go_at_call 29; (with_reducible refine (laws_lzMap.calls k _ _ t109 _ _ t105 true _ ?side1 ?side2 ?side3 ?side4 A12.out).mono ?_); (case side1 => repeat (first | exact (Kd.V_reads' HO111.out).2.2 | (with_reducible refine Kd.C_alloc ?_ _) | (with_reducible refine Kd.C_drewN ?_ _) | (with_reducible refine Kd.C_drew ?_))); (case side2 => exact (Kd.V_reads' HO111.out).2.1); (case side3 => repeat (first | exact (Kd.R_reads' HO108.out).2.2 | (with_reducible refine Kd.C_alloc ?_ _) | (with_reducible refine Kd.C_drewN ?_ _) | (with_reducible refine Kd.C_drew ?_))); (case side4 => exact (Kd.R_reads' HO108.out).2.1); rintro e w' ⟨rfl, ⟨nd, rfl⟩⟩) | (go_at_call 30; (with_reducible refine (spec_MapOk.calls _ _ t101 false _ ?side1 ?side2 A14.out).mono ?_); (case side1 => repeat (first | exact (Kd.Q_reads' HO104.out).2.2 | (with_reducible refine Kd.C_alloc ?_ _) | (with_reducible refine Kd.C_drewN ?_ _) | (with_reducible refine Kd.C_drew ?_))); (case side2 => exact (Kd.Q_reads' HO104.out).2.1); rintro e w28 ⟨rfl, hb⟩; have n0_ := Aside0.mk (Kd.Q_below (by (with_reducible repeat (first | apply Kd.Q_alloc | apply Kd.Q_drewN | apply Kd.Q_drew)); exact HO104.out) hb); have n1_ := Aside0.mk (Kd.R_below (by (with_reducible repeat (first | apply Kd.R_alloc | apply Kd.R_drewN | apply Kd.R_drew)); exact HO108.out) hb); have n2_ := Aside0.mk (Kd.V_below (by (with_reducible repeat (first | apply Kd.V_alloc | apply Kd.V_drewN | apply Kd.V_drew)); exact HO111.out) hb); have n3_ := Aside0.mk (below_step (by repeat (first | (with_reducible first | exact HB.out | apply below_alloc | apply pw_below_drewN | apply below_drew1) | exact HB.out)) hb); clear HO104; clear HO108; clear HO111; clear HB; have HO104 := n0_; have HO108 := n1_; have HO111 := n2_; have HB := n3_; clear n0_ n1_ n2_ n3_; (try clear hb); (try clear hb2); (try clear hk); (try clear hi)))
            go_meet
            case rel => exact ⟨_, (true), (by first | rfl | (simp; done) | (simp [*]; done)), H', ⟨by first | omega | exact Nat.le_refl _⟩, ⟨by (with_reducible repeat (first | apply Kd.R_alloc | apply Kd.R_drewN | apply Kd.R_drew)); exact Kd.R_mono HO108.out (fun _ hk => trivial)⟩, ⟨by (with_reducible repeat (first | apply Kd.V_alloc | apply Kd.V_drewN | apply Kd.V_drew)); exact HO111.out⟩, ⟨by repeat (first | (with_reducible first | exact HB.out | apply below_alloc | apply pw_below_drewN | apply below_drew1) | exact HB.out)⟩⟩
        · replace c13 := Bool.eq_false_iff.mpr c13
          subst c13
          have H1 : (laws_FnOutLong.j0 k t102 t105 t106 t109 t112 true) = some r := by rw [if_neg (show ¬ (false = true) by decide)] at H; exact H
          clear H
          have H := H1
          clear H1
          have H' := Aside0.mk H
          clear H
          obtain ⟨Ao29, co29, eo29⟩ := Kd.V_slice HO111.out
          subst eo29
          obtain ⟨Ao30, co30, eo30⟩ := Kd.R_slice HO108.out
          subst eo30
          go_wp2_with (first | (go_at_call 29; (with_reducible refine (laws_lzMap.calls k _ _ t109 _ _ t105 false _ ?side1 ?side2 ?side3 ?side4 A12.out).mono ?_); (case side1 => repeat (first | exact (Kd.V_reads' HO111.out).2.2 | (with_reducible refine Kd.C_alloc ?_ _) | (with_reducible refine Kd.C_drewN ?_ _) | (with_reducible refine Kd.C_drew ?_))); (case side2 => exact (Kd.V_reads' HO111.out).2.1); (case side3 => repeat (first | exact (Kd.R_reads' HO108.out).2.2 | (with_reducible refine Kd.C_alloc ?_ _) | (with_reducible refine Kd.C_drewN ?_ _) | (with_reducible refine Kd.C_drew ?_))); (case side4 => exact (Kd.R_reads' HO108.out).2.1); rintro e w' ⟨rfl, ⟨nd, rfl⟩⟩))
          go_meet
          case rel => exact ⟨_, (true), (by first | rfl | (simp; done) | (simp [*]; done)), H', ⟨by first | omega | exact Nat.le_refl _⟩, ⟨by (with_reducible repeat (first | apply Kd.R_alloc | apply Kd.R_drewN | apply Kd.R_drew)); exact Kd.R_mono HO108.out (fun _ hk => trivial)⟩, ⟨by (with_reducible repeat (first | apply Kd.V_alloc | apply Kd.V_drewN | apply Kd.V_drew)); exact HO111.out⟩, ⟨by repeat (first | (with_reducible first | exact HB.out | apply below_alloc | apply pw_below_drewN | apply below_drew1) | exact HB.out)⟩⟩
      · rw [if_neg c11] at H
        have c11b0 : (t112.toList == t106.toList) = false := beq_eq_false_iff_ne.mpr c11
        have c11b1 : (t112.toList != t106.toList) = true := bne_iff_ne.mpr c11
        (first | rw [c11b0] | (simp only [i64_w, i32_w]; rw [c11b0]) | skip)
        have H' := Aside0.mk H
        clear H
        go_wp2
        go_meet
        case rel => exact ⟨_, (true), (by first | rfl | (simp; done) | (simp [*]; done)), H', ⟨by first | omega | exact Nat.le_refl _⟩, ⟨by (with_reducible repeat (first | apply Kd.R_alloc | apply Kd.R_drewN | apply Kd.R_drew)); exact Kd.R_mono HO108.out (fun _ hk => trivial)⟩, ⟨by (with_reducible repeat (first | apply Kd.V_alloc | apply Kd.V_drewN | apply Kd.V_drew)); exact HO111.out⟩, ⟨by repeat (first | (with_reducible first | exact HB.out | apply below_alloc | apply pw_below_drewN | apply below_drew1) | exact HB.out)⟩⟩
    case rest =>
      clear HC6
      try clear c1
      try clear c2
      try clear c2b0
      try clear c2b1
      try clear p2
      try clear c11
      try clear c11b0
      try clear c11b1
      try clear c12
      try clear c13
      try clear c15
      try clear c17
      try clear c24
      try clear c25
      try clear c28
      obtain ⟨kq, x55_5, rfl, HA, HJ5, HO_5, HO_7, HB⟩ := hcut
      cases kq with
      | zero => exact absurd HA.out (by simp [laws_FnOutLong.j0])
      | succ kj5 =>
        have H := HA.out
        clear HA
        simp only [laws_FnOutLong.j0] at H
        by_cases c31 : x55_5 = true
        · subst c31
          have H1 : (if t112.toList = t106.toList then ((laws_lzMap.f kj5 t109 t105).bind fun t116 => (some t116)) else (some false)) = some r := by rw [if_pos rfl] at H; exact H
          clear H
          have H := H1
          clear H1
          by_cases c32 : t112.toList = t106.toList
          · rw [if_pos c32] at H
            have c32b0 : (t112.toList == t106.toList) = true := beq_iff_eq.mpr c32
            have c32b1 : (t112.toList != t106.toList) = false := bne_eq_false_iff_eq.mpr c32
            clear c32
            replace H := Option.bind_eq_some_iff.mp H
            obtain ⟨t116, A330, H⟩ := H
            replace H : (some t116) = some r := H
            have A33 := Aside0.mk A330
            clear A330
            obtain rfl := Option.some.inj H
            obtain ⟨Ao34, co34, eo34⟩ := Kd.V_slice HO_7.out
            subst eo34
            obtain ⟨Ao35, co35, eo35⟩ := Kd.R_slice HO_5.out
            subst eo35
            go_wp2_with (first | (go_at_call 29; (with_reducible refine (laws_lzMap.calls kj5 _ _ t109 _ _ t105 t116 _ ?side1 ?side2 ?side3 ?side4 A33.out).mono ?_); (case side1 => repeat (first | exact (Kd.V_reads' HO_7.out).2.2 | (with_reducible refine Kd.C_alloc ?_ _) | (with_reducible refine Kd.C_drewN ?_ _) | (with_reducible refine Kd.C_drew ?_))); (case side2 => exact (Kd.V_reads' HO_7.out).2.1); (case side3 => repeat (first | exact (Kd.R_reads' HO_5.out).2.2 | (with_reducible refine Kd.C_alloc ?_ _) | (with_reducible refine Kd.C_drewN ?_ _) | (with_reducible refine Kd.C_drew ?_))); (case side4 => exact (Kd.R_reads' HO_5.out).2.1); rintro e w' ⟨rfl, ⟨nd, rfl⟩⟩))
            go_ret
            exact ⟨by first | rfl | (simp [errW_none, errW_some] <;> rfl) | (simp [*, errW_none, errW_some] <;> rfl), by repeat (first | (with_reducible first | exact HB.out | apply below_alloc | apply pw_below_drewN | apply below_drew1) | exact HB.out)⟩
          · rw [if_neg c32] at H
            have c32b0 : (t112.toList == t106.toList) = false := beq_eq_false_iff_ne.mpr c32
            have c32b1 : (t112.toList != t106.toList) = true := bne_iff_ne.mpr c32
            obtain rfl := Option.some.inj H
            go_wp2
            go_ret
            exact ⟨by first | rfl | (simp [errW_none, errW_some] <;> rfl) | (simp [*, errW_none, errW_some] <;> rfl), by repeat (first | (with_reducible first | exact HB.out | apply below_alloc | apply pw_below_drewN | apply below_drew1) | exact HB.out)⟩
        · replace c31 := Bool.eq_false_iff.mpr c31
          subst c31
          have H1 : ((impl_TextNames.f kj5 t102).bind fun t117 => (laws_FnOutLong.l0 kj5 t102 t112 0 t117 0)) = some r := by rw [if_neg (show ¬ (false = true) by decide)] at H; exact H
          clear H
          have H := H1
          clear H1
          replace H := Option.bind_eq_some_iff.mp H
          obtain ⟨t117, A360, H⟩ := H
          replace H : (laws_FnOutLong.l0 kj5 t102 t112 0 t117 0) = some r := H
          have A36 := Aside0.mk A360
          clear A360
          have H' := Aside0.mk H
          clear H
          go_wp2_with (first | ((with_reducible refine gate_callee (f := 34) rfl ?_); refine goesL_ (some 65) rfl rfl Tryz.func34 (by kernel_rfl) rfl #[.string t102] rfl (by (try simp only [List.map_toArray, List.map_cons, List.map_nil]); first | done | rfl | (simp only [List.length_drop, List.length_take]; rfl)) ?_; (with_reducible refine (impl_TextNames.calls kj5 t102 t117 _ ?side1 A36.out).mono ?_); (case side1 => exact hV.next (by repeat (first | (with_reducible first | exact HB.out | apply below_alloc | apply pw_below_drewN | apply below_drew1) | exact HB.out))); rintro e w37 ⟨v118, rfl, ho0, hb⟩; refine ⟨_, rfl, ?_⟩; have n0_ := Aside0.mk (Kd.R_below (by (with_reducible repeat (first | apply Kd.R_alloc | apply Kd.R_drewN | apply Kd.R_drew)); exact HO_5.out) hb); have n1_ := Aside0.mk (Kd.V_below (by (with_reducible repeat (first | apply Kd.V_alloc | apply Kd.V_drewN | apply Kd.V_drew)); exact HO_7.out) hb); have n2_ := Aside0.mk (Kd.V_lower (Kd.V_mono (ok' := fun k_ => some k_ ≠ (v107 : Value).ownBlock) ho0 (fun k_ hk_ => (Kd.fresh' (Kd.R_lt (by (with_reducible repeat (first | apply Kd.R_alloc | apply Kd.R_drewN | apply Kd.R_drew)); exact HO_5.out)) k_ hk_))) (below_size (by repeat (first | (with_reducible first | exact HB.out | apply below_alloc | apply pw_below_drewN | apply below_drew1) | exact HB.out)))); have n3_ := Aside0.mk (below_step (by repeat (first | (with_reducible first | exact HB.out | apply below_alloc | apply pw_below_drewN | apply below_drew1) | exact HB.out)) hb); clear HO_5; clear HO_7; clear HB; have HO_5 := n0_; have HO_7 := n1_; have HO119 := n2_; have HB := n3_; clear n0_ n1_ n2_ n3_; (try clear hb); (try clear hb2); (try clear hk); (try clear hi); (try clear ho0)))
          go_loopg [9, 11] kj5 (fun kq v9 v11 w' => ∃ (x9_2 : Int) (x11_2 : Int), v9 = .int .i64 x9_2 ∧ v11 = .int .i64 x11_2 ∧ Aside0 (laws_FnOutLong.l0 kq t102 t112 x9_2 t117 x11_2 = some r) ∧ Aside0 (kq ≤ kj5) ∧ Aside0 (Kd.V k24 24 w' w.heap.size (fun _ => True) v118 t117) ∧ Aside0 (Below w.heap.size w w'))
          case atStart => exact ⟨(0), (0), (by first | rfl | (simp; done) | (simp [*]; done)), (by first | rfl | (simp; done) | (simp [*]; done)), H', ⟨Nat.le_refl _⟩, ⟨by (with_reducible repeat (first | apply Kd.V_alloc | apply Kd.V_drewN | apply Kd.V_drew)); exact Kd.V_mono HO119.out (fun _ hk => trivial)⟩, ⟨by repeat (first | (with_reducible first | exact HB.out | apply below_alloc | apply pw_below_drewN | apply below_drew1) | exact HB.out)⟩⟩
          case round =>
            clear H'
            try clear c1
            try clear c2
            try clear c2b0
            try clear c2b1
            try clear p2
            try clear c3
            try clear c11
            try clear c11b0
            try clear c11b1
            try clear c12
            try clear c13
            try clear c15
            try clear c17
            try clear c24
            try clear c25
            try clear c28
            try clear c31
            try clear c32
            try clear c32b0
            try clear c32b1
            try clear c34
            try clear p2
            obtain ⟨x9_2, x11_2, rfl, rfl, HA, HK2, HO_10, HB⟩ := hrel
            cases gk with
            | zero => exact absurd HA.out (by simp [laws_FnOutLong.l0])
            | succ k2 =>
              have H := HA.out
              clear HA
              simp only [laws_FnOutLong.l0] at H
              by_cases c38 : x11_2 < (t117.length : Int)
              · rw [if_pos c38] at H
                have c38b0 : decide (x11_2 < (t117.length : Int)) = true := decide_eq_true c38
                clear c38
                by_cases c39 : 0 ≤ x11_2
                · rw [if_pos c39] at H
                  have c39b0 : decide (0 ≤ x11_2) = true := decide_eq_true c39
                  clear c39
                  replace H := Option.bind_eq_some_iff.mp H
                  obtain ⟨t121, A400, H⟩ := H
                  replace H : (if t121 = true then (laws_FnOutLong.l0 k2 t102 t112 (wrap64 (x9_2 + 1)) t117 (wrap64 (x11_2 + 1))) else (laws_FnOutLong.l0 k2 t102 t112 x9_2 t117 (wrap64 (x11_2 + 1)))) = some r := H
                  have A40 := Aside0.mk A400
                  clear A400
                  by_cases c41 : t121 = true
                  · subst c41
                    have H1 : (laws_FnOutLong.l0 k2 t102 t112 (wrap64 (x9_2 + 1)) t117 (wrap64 (x11_2 + 1))) = some r := by rw [if_pos rfl] at H; exact H
                    clear H
                    have H := H1
                    clear H1
                    have H' := Aside0.mk H
                    clear H
                    obtain ⟨Ao42, co42, eo42⟩ := Kd.V_slice HO_10.out
                    subst eo42
                    have p120 : 0 ≤ (x11_2 : Int) := of_decide_eq_true (by first | (with_reducible assumption) | assumption)
                    have q120 : x11_2 < (t117.length : Int) := of_decide_eq_true (by first | (with_reducible assumption) | assumption)
                    obtain ⟨ad120, e120, hx120_0, hx120_1⟩ := at_T24 (Kd.V_reads' HO_10.out).2.2 x11_2 p120 q120
                    cases e120
                    replace p120 := eq_true p120
                    replace q120 := eq_true q120
                    go_wp2_with (first | ((with_reducible refine gate_callee (f := 37) rfl ?_); refine goesL_ (some 76) rfl rfl Tryz.func37 (by kernel_rfl) rfl #[.agg #[.int .i64 ((rd_T24 t117 x11_2).f0), .int .i64 ((rd_T24 t117 x11_2).f1)]] rfl (by (try simp only [List.map_toArray, List.map_cons, List.map_nil]); first | done | rfl | (simp only [List.length_drop, List.length_take]; rfl)) ?_; (with_reducible refine (impl_EndInside.calls ((rd_T24 t117 x11_2).f0) ((rd_T24 t117 x11_2).f1) true _ A40.out).mono ?_); rintro e w43 ⟨rfl, hb⟩; refine ⟨_, rfl, ?_⟩; have n0_ := Aside0.mk (Kd.V_below (by (with_reducible repeat (first | apply Kd.V_alloc | apply Kd.V_drewN | apply Kd.V_drew)); exact HO_10.out) hb); have n1_ := Aside0.mk (below_step (by repeat (first | (with_reducible first | exact HB.out | apply below_alloc | apply pw_below_drewN | apply below_drew1) | exact HB.out)) hb); clear HO_10; clear HB; have HO_10 := n0_; have HB := n1_; clear n0_ n1_; (try clear hb); (try clear hb2); (try clear hk); (try clear hi)))
                    go_roundg k2
                    case measure => have := HJ5.out; have := HK2.out; omega
                    case rel => exact ⟨(wrap64 (x9_2 + 1)), (wrap64 (x11_2 + 1)), (by first | rfl | (simp; done) | (simp [*]; done)), (by first | rfl | (simp; done) | (simp [*]; done)), H', ⟨by have := HJ5.out; have := HK2.out; omega⟩, ⟨by (with_reducible repeat (first | apply Kd.V_alloc | apply Kd.V_drewN | apply Kd.V_drew)); exact HO_10.out⟩, ⟨by repeat (first | (with_reducible first | exact HB.out | apply below_alloc | apply pw_below_drewN | apply below_drew1) | exact HB.out)⟩⟩
                  · replace c41 := Bool.eq_false_iff.mpr c41
                    subst c41
                    have H1 : (laws_FnOutLong.l0 k2 t102 t112 x9_2 t117 (wrap64 (x11_2 + 1))) = some r := by rw [if_neg (show ¬ (false = true) by decide)] at H; exact H
                    clear H
                    have H := H1
                    clear H1
                    have H' := Aside0.mk H
                    clear H
                    obtain ⟨Ao44, co44, eo44⟩ := Kd.V_slice HO_10.out
                    subst eo44
                    have p120 : 0 ≤ (x11_2 : Int) := of_decide_eq_true (by first | (with_reducible assumption) | assumption)
                    have q120 : x11_2 < (t117.length : Int) := of_decide_eq_true (by first | (with_reducible assumption) | assumption)
                    obtain ⟨ad120, e120, hx120_0, hx120_1⟩ := at_T24 (Kd.V_reads' HO_10.out).2.2 x11_2 p120 q120
                    cases e120
                    replace p120 := eq_true p120
                    replace q120 := eq_true q120
                    go_wp2_with (first | ((with_reducible refine gate_callee (f := 37) rfl ?_); refine goesL_ (some 76) rfl rfl Tryz.func37 (by kernel_rfl) rfl #[.agg #[.int .i64 ((rd_T24 t117 x11_2).f0), .int .i64 ((rd_T24 t117 x11_2).f1)]] rfl (by (try simp only [List.map_toArray, List.map_cons, List.map_nil]); first | done | rfl | (simp only [List.length_drop, List.length_take]; rfl)) ?_; (with_reducible refine (impl_EndInside.calls ((rd_T24 t117 x11_2).f0) ((rd_T24 t117 x11_2).f1) false _ A40.out).mono ?_); rintro e w45 ⟨rfl, hb⟩; refine ⟨_, rfl, ?_⟩; have n0_ := Aside0.mk (Kd.V_below (by (with_reducible repeat (first | apply Kd.V_alloc | apply Kd.V_drewN | apply Kd.V_drew)); exact HO_10.out) hb); have n1_ := Aside0.mk (below_step (by repeat (first | (with_reducible first | exact HB.out | apply below_alloc | apply pw_below_drewN | apply below_drew1) | exact HB.out)) hb); clear HO_10; clear HB; have HO_10 := n0_; have HB := n1_; clear n0_ n1_; (try clear hb); (try clear hb2); (try clear hk); (try clear hi)))
                    go_roundg k2
                    case measure => have := HJ5.out; have := HK2.out; omega
                    case rel => exact ⟨(x9_2), (wrap64 (x11_2 + 1)), (by first | rfl | (simp; done) | (simp [*]; done)), (by first | rfl | (simp; done) | (simp [*]; done)), H', ⟨by have := HJ5.out; have := HK2.out; omega⟩, ⟨by (with_reducible repeat (first | apply Kd.V_alloc | apply Kd.V_drewN | apply Kd.V_drew)); exact HO_10.out⟩, ⟨by repeat (first | (with_reducible first | exact HB.out | apply below_alloc | apply pw_below_drewN | apply below_drew1) | exact HB.out)⟩⟩
                · rw [if_neg c39] at H
                  exact absurd H (by simp)
              · rw [if_neg c38] at H
                have c38b0 : decide (x11_2 < (t117.length : Int)) = false := decide_eq_false c38
                clear c38
                replace H := Option.bind_eq_some_iff.mp H
                obtain ⟨t122, A460, H⟩ := H
                replace H : (some ((t112.size : Int) == (wrap64 ((wrap64 ((t102.size : Int) - t122)) + x9_2)))) = some r := H
                have A46 := Aside0.mk A460
                clear A460
                obtain rfl := Option.some.inj H
                obtain ⟨Ao47, co47, eo47⟩ := Kd.V_slice HO_10.out
                subst eo47
                go_wp2_with (first | ((with_reducible refine gate_callee (f := 17) rfl ?_); refine goesL_ (some 84) rfl rfl Tryz.func17 (by kernel_rfl) rfl #[.string t102] rfl (by (try simp only [List.map_toArray, List.map_cons, List.map_nil]); first | done | rfl | (simp only [List.length_drop, List.length_take]; rfl)) ?_; (with_reducible refine (impl_TextHeld.calls t102 t122 _ A46.out).mono ?_); rintro e w48 ⟨rfl, hb⟩; refine ⟨_, rfl, ?_⟩; have n0_ := Aside0.mk (Kd.V_below (by (with_reducible repeat (first | apply Kd.V_alloc | apply Kd.V_drewN | apply Kd.V_drew)); exact HO_10.out) hb); have n1_ := Aside0.mk (below_step (by repeat (first | (with_reducible first | exact HB.out | apply below_alloc | apply pw_below_drewN | apply below_drew1) | exact HB.out)) hb); clear HO_10; clear HB; have HO_10 := n0_; have HB := n1_; clear n0_ n1_; (try clear hb); (try clear hb2); (try clear hk); (try clear hi)))
                go_ret
                exact ⟨by first | rfl | (simp [errW_none, errW_some] <;> rfl) | (simp [*, errW_none, errW_some] <;> rfl), by repeat (first | (with_reducible first | exact HB.out | apply below_alloc | apply pw_below_drewN | apply below_drew1) | exact HB.out)⟩
end
end Go.Proofs.YtijompkonaiagaaGreatDoor.Q
namespace Go.Proofs.YtijompkonaiagaaGreatDoor.Q
open Go.RowKit Go.Proofs.YtijompkonaiagaaGreatDoorW.PrintWords Go.Proofs.YtijompkonaiagaaGreatDoorW.PrintMore Go.Proofs.YtijompkonaiagaaGreatDoor.Z
set_option linter.unusedVariables false
set_option linter.unusedSimpArgs false
theorem impl_TextHeld_is (l : List UInt8) (hl : l.length ≤ 140737488355328) : impl_TextHeld.f (mkB l) = some (if textOk l then (heldN l : Int) else 0) := by
  unfold impl_TextHeld.f impl_TextOk.f impl_held.f
  rw [size_mkB, if_pos hl, bl_of, Option.bind_some]
  cases textOk l
  · rfl
  · rw [if_pos rfl, if_pos hl, Option.bind_some]
    rfl
theorem long_l0 (l t : List UInt8) (hl : l.length ≤ 1000) (ht : t.length ≤ 100000) (h2 : textOk l = true) (es : List En) (hes : es.length ≤ 1000) (hlen : t.length = l.length - heldN l + (es.filter insideB).length) (n : Nat) : ∀ (k i c : Nat), c ≤ i → es.length - i ≤ n → n + 210000 < k → c + ((es.drop i).filter insideB).length = (es.filter insideB).length → laws_FnOutLong.l0 k (mkB l) (mkB t) c (es.map enTo) i = some true := by
  induction n with
  | zero =>
    intro k i c hci hn hk hc2
    obtain ⟨k, rfl⟩ : ∃ m, k = m + 1 := ⟨k - 1, by omega⟩
    simp only [laws_FnOutLong.l0]
    rw [if_neg (by rw [List.length_map]; omega)]
    rw [impl_TextHeld_is l (by omega), Option.bind_some, size_mkB, size_mkB, h2, if_pos rfl]
    have hh := heldN_le l
    rw [List.drop_of_length_le (by omega)] at hc2
    have hc3 : c = (es.filter insideB).length := by simpa using hc2
    have hwA : wrap64 ((l.length : Int) - (heldN l : Int)) = ((l.length - heldN l : Nat) : Int) := by rw [w64 (by omega)]; omega
    rw [hwA]
    clear hwA
    rw [w64 (by omega)]
    congr 1
    rw [beq_iff_eq]
    omega
  | succ n ih =>
    intro k i c hci hn hk hc2
    obtain ⟨k, rfl⟩ : ∃ m, k = m + 1 := ⟨k - 1, by omega⟩
    simp only [laws_FnOutLong.l0]
    by_cases hlt : i < es.length
    · obtain ⟨e, he⟩ : ∃ e, es[i]? = some e := ⟨_, List.getElem?_eq_getElem hlt⟩
      have hmem : e ∈ es := List.mem_of_getElem? he
      have q0 : (i : Int) < (es.length : Int) := by omega
      have q1 : (0 : Int) ≤ (i : Int) := by omega
      have hw3 : wrap64 ((i : Int) + 1) = ((i + 1 : Nat) : Int) := by rw [w64 (by omega)]; omega
      have hr := rd_ends es i e he
      have hf0 : (rd_T24 (es.map enTo) (i : Int)).f0 = e.addr := by rw [hr]; rfl
      have hf1 : (rd_T24 (es.map enTo) (i : Int)).f1 = e.port := by rw [hr]; rfl
      have hen : (⟨e.addr, e.port⟩ : En) = e := rfl
      have ih1 := ih k (i + 1)
      simp only [hf0, hf1, hw3, List.length_map, q0, q1, impl_EndInside.f, hen, Option.bind_some, if_true]
      rw [drop_of he, List.filter_cons] at hc2
      clear hf0 hf1 hw3 hr
      cases hd : insideB e
      · rw [hd] at hc2
        simp only [Bool.false_eq_true, if_false] at hc2 ⊢
        exact ih1 c (by omega) (by omega) (by omega) hc2
      · rw [hd] at hc2
        simp only [if_true] at hc2 ⊢
        rw [List.length_cons] at hc2
        have hw4 : wrap64 ((c : Int) + 1) = ((c + 1 : Nat) : Int) := by rw [w64 (by omega)]; omega
        rw [hw4]
        clear hw4
        exact ih1 (c + 1) (by omega) (by omega) (by omega) (by omega)
    · rw [if_neg (by rw [List.length_map]; omega)]
      rw [impl_TextHeld_is l (by omega), Option.bind_some, size_mkB, size_mkB, h2, if_pos rfl]
      have hh := heldN_le l
      rw [List.drop_of_length_le (by omega)] at hc2
      have hc3 : c = (es.filter insideB).length := by simpa using hc2
      have hwA : wrap64 ((l.length : Int) - (heldN l : Int)) = ((l.length - heldN l : Nat) : Int) := by rw [w64 (by omega)]; omega
      rw [hwA]
      clear hwA
      rw [w64 (by omega)]
      congr 1
      rw [beq_iff_eq]
      omega
theorem FnOutLong_true (code : List Int) (hc : ∀ b ∈ code, (0 : Int) ≤ b ∧ b ≤ 255) : ∃ k, laws_FnOutLong.f k code = some true := by
  obtain ⟨k, hk⟩ : ∃ k, 300000 < k := ⟨300001, by omega⟩
  refine ⟨k + 1, ?_⟩
  unfold laws_FnOutLong.f
  by_cases hlen : (code.length : Int) > 1048576
  · rw [if_pos hlen]
  · rw [if_neg hlen]
    obtain ⟨m, l, hD, hm, hl⟩ := drawOut_to (k + 1) (by omega) hc
    obtain ⟨x, t, hF⟩ : ∃ x t, mapOutT m l = (x, t) := ⟨_, _, rfl⟩
    have hS := spec_MapTextOut_to (k + 1) (by omega) m (by omega) l (by omega)
    have hI := impl_MapTextOut_to (k + 1) (by omega) m (by omega) l (by omega)
    have hxl := mapOutT_len m l
    rw [hF] at hS hI hxl
    simp only at hS hI hxl
    have hZ := lzMap_same (k + 1) (x.map prTo) (by rw [map_pr]; omega) (by omega)
    have hZ2 := lzMap_same k (x.map prTo) (by rw [map_pr]; omega) (by omega)
    have hO := spec_MapOk_is m (by omega)
    have hX := spec_TextOk_is l (by omega)
    simp only [hD, hS, hI, hZ, hO, hX, Option.bind_some, if_true]
    clear hD hS hI hZ hO hX hlen
    have hj : ∀ b, b = true → laws_FnOutLong.j0 (k + 1) (mkB l) (x.map prTo) (mkB t) (x.map prTo) (mkB t) b = some true := by
      intro b hb
      simp only [laws_FnOutLong.j0, hb, hZ2, Option.bind_some, if_true]
    cases e1 : mapOkB m
    · simp only [Bool.false_eq_true, if_false]
      exact hj _ rfl
    · cases e2 : textOk l
      · simp only [if_true, Bool.false_eq_true, if_false]
        exact hj _ rfl
      · simp only [if_true, map_pr]
        by_cases h7 : (x.length : Int) > 7
        · exact hj _ (decide_eq_true h7)
        · rw [decide_eq_false h7]
          have f1 := text_long e1 e2 hF (by omega)
          have hN := impl_TextNames_to k (by omega) l (by omega)
          have := names_len40 l
          simp only [laws_FnOutLong.j0, Bool.false_eq_true, if_false, hN, Option.bind_some]
          exact long_l0 l t (by omega) (by omega) e2 _ (by omega) f1 1000 k 0 0 (by omega) (by omega) (by omega) (by rw [List.drop_zero, Nat.zero_add])
end Go.Proofs.YtijompkonaiagaaGreatDoor.Q
namespace Go.Proofs.YtijompkonaiagaaGreatDoor.fnOutLong
open Go.ChangeShapes Go.WideShapes Go.ChangeAt Go.RowKit Go.Proofs.YtijompkonaiagaaGreatDoorW.PrintWords
open Go.ChangeMaps (open_string shut_string)
set_option linter.unusedVariables false
theorem own : ownKnob Tryz.prog.godebug = none := by kernel_rfl
theorem laidOut : laidOutB Tryz.prog = true := by kernel_rfl
set_option maxRecDepth 100000 in
theorem lifted (os : Os) (started : os.Started) (H : Type) (enc : TypeId × Value → H) :
    ReturnsInHanded {} Tryz.checked os 12 .any (fun w args => (Rows.fnOutLongSpec.pre enc Tryz.prog Tryz.f12 Rows.fnOutLongRow.domain false w args ∧ laidMetH Tryz.prog Z.laidL w) ∧ sizedMet enc Tryz.prog Tryz.f12 (OpenSpec.ofChange Rows.fnOutLongSpec) false w args)
      (Rows.fnOutLongSpec.post enc Tryz.prog Tryz.f12 false true false false) := by
  refine Z.wrap_laid (C := Tryz.checked) (X := fun w _ => laidMetH Tryz.prog Z.laidL w) (fun _ _ _ hh h => h.of_heap hh) own started (by kernel_rfl) Tryz.func12
    (ChangeSpec.witness_shaped (enc := enc) (C := Tryz.checked) (os := os) (X := fun w _ => laidMetH Tryz.prog Z.laidL w) false (World.laidAll Tryz.prog os Z.laidL) #[.slice none 0 0] 8 (World.laidAll_os _ _ _)
      (World.shaped_of_ZipB (by kernel_rfl) (by kernel_rfl)) (by kernel_rfl) (by kernel_rfl) (by kernel_rfl) (Z.laid_met os _)) ?_
  intro W base args ds gs before hval0 hW hL hsh
  have hvars := Z.vars_of hL hsh
  have hval : ∀ (j : Nat) t v, Tryz.f12.params[j]? = some t → args[j]? = some v → Value.okWide Tryz.prog W .any base t v := hval0
  have hW' := hW
  obtain ⟨p, q, hA0, hV, rfl, hfz, hnd⟩ := hW
  have hA : DataW.TrodAll enc Tryz.prog W 0 (fun _ => true) true Tryz.f12.params.toList args.toList ds p := hA0
  rw [Tryz.params12] at hA hval
  obtain ⟨v0, vs0, d0, ds0, p0, q0, hargs, rfl, rfl, h0, r0⟩ := trodAll_cons hA
  obtain ⟨rfl, rfl, rfl⟩ := trodAll_nil r0
  obtain rfl : args = #[v0] := by cases args; simp_all
  obtain ⟨rfl, rfl⟩ := trodVars_none hV
  obtain ⟨a0, len0, cap0, rfl⟩ := okWide_slice Tryz.underlying22 (hval 0 22 v0 rfl rfl)
  have k0 := h0
  have lt0 : ∀ x ∈ p0, x.block < W.heap.size := by obtain ⟨m, hm⟩ := k0; exact DataW.trod_lt m _ _ _ hm
  obtain ⟨fuel0, hf0⟩ := h0
  obtain ⟨xs0, ⟨A0, c0, hcs0, hl0, hC0⟩, hg0⟩ := Z.openBytes.2 _ _ _ _ _ _ _ _ _ hf0
  simp [Value.cells] at hcs0
  obtain ⟨rfl, rfl, rfl⟩ := hcs0
  clear hA0 hval0
  obtain ⟨k, hk⟩ := Q.FnOutLong_true xs0 (Z.bytes_le hg0)
  refine (Q.laws_FnOutLong.calls k a0 cap0 xs0 true W hC0 hl0 hvars hk).mono ?_
  rintro e W' ⟨rfl, bel⟩
  exact ⟨_, rfl, _, _, _, [], _, [], hW', trodAll_mk1 (shut_bool Tryz.underlying4 _), (trodAll_cons_mk (Below.trod laidOut (by kernel_rfl) (of_decide_eq_true (by kernel_rfl)) k0 bel lt0) trodAll_mk0), rfl, bel.frame _, fun h => by cases h⟩
theorem over : Rows.fnOutLongRow.holds Tryz.pinned (OpenSpec.ofChange Rows.fnOutLongSpec) :=
  OpenClaim.holds_of_wide 12 Tryz.f12 rfl rfl rfl rfl rfl rfl rfl ⟨rfl, rfl, rfl, rfl, rfl⟩ rfl rfl rfl rfl rfl (by kernel_rfl) Tryz.func12 (by kernel_rfl)
    (of_decide_eq_true (by kernel_rfl)) (by unfold Func.isWrapper; first | (rw [if_pos (by decide +kernel)]; kernel_rfl) | (rw [if_neg (by decide +kernel)]; exact ⟨rfl, rfl⟩))
    (fun os started H enc _ => lifted os started H enc)
end Go.Proofs.YtijompkonaiagaaGreatDoor.fnOutLong
namespace Go.Proofs.YtijompkonaiagaaGreatDoor
theorem fnOutLong_card : Rows.FnOutLongCardSaid :=
  Claim7.holds_tied_plain_at .later [] Rows.fnOutLongCard.laidKinds true Rows.fnOutLongCard.stood.harness true
    fnOutLong.over (fun _ h => by cases h) (by kernel_rfl) (fun _ h => by cases h) fnOutLong_row_tie rfl ⟨rfl, rfl⟩ (by kernel_rfl) rfl
    (fun f fn hf hfn => by
      obtain rfl : f = 12 := Option.some.inj ((show Tryz.prog.funcNamed Rows.fnOutLongRow.func = some 12 by kernel_rfl).symm.trans hf) |>.symm
      obtain rfl : fn = Tryz.f12 := (Option.some.inj (Tryz.func12.symm.trans hfn)).symm
      exact ⟨by kernel_rfl, fun j t ht => by
        rw [Tryz.params12] at ht
        have hm : t ∈ [22] := by simpa using Array.mem_of_getElem? ht
        have hall : ([22].all fun u => !Tryz.prog.wantsStandIn u) = true := by kernel_rfl
        exact (show Tryz.prog.wantsStandIn t = false by simpa using List.all_eq_true.1 hall t hm)⟩)
    (by kernel_rfl)
#print axioms fnOutLong_card
end Go.Proofs.YtijompkonaiagaaGreatDoor
