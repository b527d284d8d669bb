/- The law FnTextThere, plainly: its Lean function answers true at every code. For every code FnTextThere returns true and leaves its arguments as they were: what goes out, and comes in, is as it was. -/
import Derived.Test.YtijompkonaiagaaGreatDoorBb2
import Derived.Test.YtijompkonaiagaaGreatDoorBb4
import Derived.Test.YtijompkonaiagaaGreatDoorBb5
import Derived.Test.YtijompkonaiagaaGreatDoorBb3
import Derived.Test.YtijompkonaiagaaGreatDoorRows
import Derived.Test.YtijompkonaiagaaGreatDoorTie
import Derived.Test.YtijompkonaiagaaGreatDoorCards
import Derived.SevenTiedAt
import Derived.WalkKit
import Derived.ProofKit
import Derived.OpenShut
import Derived.ShutString
import Derived.ChangeOld
import Derived.Below
import Derived.SizedLaws
namespace Go.Proofs.YtijompkonaiagaaGreatDoor.Q
open Go.RowKit Go.Proofs.YtijompkonaiagaaGreatDoorW.PrintWords Go.Proofs.YtijompkonaiagaaGreatDoorW.PrintLast Go.Proofs.YtijompkonaiagaaGreatDoorW.PrintMore Go.Proofs.YtijompkonaiagaaGreatDoor.Z
attribute [local go_sem] max2_int min2_int max_two min_two max_three min_three max_four min_four
set_option linter.unusedVariables false
set_option linter.unusedSimpArgs false
noncomputable section
def laws_lzOwn.l0 : Nat → List (S24) → Int → Option (Bool)
  | 0, _, _ => none
  | k + 1, x3, x4 => if x4 < (x3.length : Int) then (if 0 ≤ x4 then ((impl_EndDoor.f ((rd_T24 x3 x4).f0) ((rd_T24 x3 x4).f1)).bind fun t105 => (if t105 = true then (some false) else (laws_lzOwn.l0 k x3 (wrap64 (x4 + 1))))) else (none)) else (some true)
def laws_lzOwn.f (k : Nat) (a0 : ByteArray) : Option (Bool) := (impl_TextNames.f k a0).bind fun t101 => (laws_lzOwn.l0 k t101 0)
set_option maxHeartbeats 8000000 in
set_option maxRecDepth 100000 in
theorem laws_lzOwn.calls (k : Nat) (a0 : ByteArray) (r : Bool) (w : World) (hV : VarsIn w) (h : laws_lzOwn.f k a0 = some r) :
    Calls Tryz.prog 18 #[.string a0] w fun e w' => e = .returned (.bool r) ∧ Below w.heap.size w w' := by
  have hu24 := Tryz.underlying24
  have HB := Aside0.mk (Below.refl w.heap.size w)
  have H : ((impl_TextNames.f k a0).bind fun t101 => (laws_lzOwn.l0 k t101 0)) = some r := h
  clear h
  replace H := Option.bind_eq_some_iff.mp H
  obtain ⟨t101, A20, H⟩ := H
  replace H : (laws_lzOwn.l0 k t101 0) = some r := H
  have A2 := Aside0.mk A20
  clear A20
  have H' := Aside0.mk H
  clear H
  go_enter Tryz.func18, Tryz.ntmps18
  go_wp2_with (first | ((with_reducible refine gate_callee (f := 34) rfl ?_); refine goesL_ (some 6) rfl rfl Tryz.func34 (by kernel_rfl) rfl #[.string a0] rfl (by (try simp only [List.map_toArray, List.map_cons, List.map_nil]); first | done | rfl | (simp only [List.length_drop, List.length_take]; rfl)) ?_; (with_reducible refine (impl_TextNames.calls k a0 t101 _ ?side1 A2.out).mono ?_); (case side1 => exact hV.next (by repeat (first | (with_reducible first | exact HB.out | apply below_alloc | apply pw_below_drewN | apply below_drew1) | exact HB.out))); rintro e w3 ⟨v102, rfl, ho0, hb⟩; refine ⟨_, rfl, ?_⟩; have n0_ := Aside0.mk (Kd.V_lower (Kd.V_mono (ok' := fun k_ => True) ho0 (fun k_ hk_ => trivial)) (below_size (by repeat (first | (with_reducible first | exact HB.out | apply below_alloc | apply pw_below_drewN | apply below_drew1) | exact HB.out)))); have n1_ := Aside0.mk (below_step (by repeat (first | (with_reducible first | exact HB.out | apply below_alloc | apply pw_below_drewN | apply below_drew1) | exact HB.out)) hb); clear HB; have HO103 := n0_; have HB := n1_; clear n0_ n1_; (try clear hb); (try clear hb2); (try clear hk); (try clear hi); (try clear ho0)))
  go_loopg [4] k (fun kq v4 w' => ∃ (x4_1 : Int), v4 = .int .i64 x4_1 ∧ Aside0 (laws_lzOwn.l0 kq t101 x4_1 = some r) ∧ Aside0 (kq ≤ k) ∧ Aside0 (Kd.V k24 24 w' w.heap.size (fun _ => True) v102 t101) ∧ Aside0 (Below w.heap.size w w'))
  case atStart => exact ⟨(0), (by first | rfl | (simp; done) | (simp [*]; done)), H', ⟨Nat.le_refl _⟩, ⟨by (with_reducible repeat (first | apply Kd.V_alloc | apply Kd.V_drewN | apply Kd.V_drew)); exact HO103.out⟩, ⟨by repeat (first | (with_reducible first | exact HB.out | apply below_alloc | apply pw_below_drewN | apply below_drew1) | exact HB.out)⟩⟩
  case round =>
    clear H'
    try clear c1
    try clear p2
    try clear c3
    obtain ⟨x4_1, rfl, HA, HK1, HO_3, HB⟩ := hrel
    cases gk with
    | zero => exact absurd HA.out (by simp [laws_lzOwn.l0])
    | succ k1 =>
      have H := HA.out
      clear HA
      simp only [laws_lzOwn.l0] at H
      by_cases c4 : x4_1 < (t101.length : Int)
      · rw [if_pos c4] at H
        have c4b0 : decide (x4_1 < (t101.length : Int)) = true := decide_eq_true c4
        clear c4
        by_cases c5 : 0 ≤ x4_1
        · rw [if_pos c5] at H
          have c5b0 : decide (0 ≤ x4_1) = true := decide_eq_true c5
          clear c5
          replace H := Option.bind_eq_some_iff.mp H
          obtain ⟨t105, A60, H⟩ := H
          replace H : (if t105 = true then (some false) else (laws_lzOwn.l0 k1 t101 (wrap64 (x4_1 + 1)))) = some r := H
          have A6 := Aside0.mk A60
          clear A60
          by_cases c7 : t105 = true
          · subst c7
            have H1 : (some false) = some r := by rw [if_pos rfl] at H; exact H
            clear H
            have H := H1
            clear H1
            obtain rfl := Option.some.inj H
            obtain ⟨Ao8, co8, eo8⟩ := Kd.V_slice HO_3.out
            subst eo8
            have p104 : 0 ≤ (x4_1 : Int) := of_decide_eq_true (by first | (with_reducible assumption) | assumption)
            have q104 : x4_1 < (t101.length : Int) := of_decide_eq_true (by first | (with_reducible assumption) | assumption)
            obtain ⟨ad104, e104, hx104_0, hx104_1⟩ := at_T24 (Kd.V_reads' HO_3.out).2.2 x4_1 p104 q104
            cases e104
            replace p104 := eq_true p104
            replace q104 := eq_true q104
            go_wp2_with (first | ((with_reducible refine gate_callee (f := 36) rfl ?_); refine goesL_ (some 17) rfl rfl Tryz.func36 (by kernel_rfl) rfl #[.agg #[.int .i64 ((rd_T24 t101 x4_1).f0), .int .i64 ((rd_T24 t101 x4_1).f1)]] rfl (by (try simp only [List.map_toArray, List.map_cons, List.map_nil]); first | done | rfl | (simp only [List.length_drop, List.length_take]; rfl)) ?_; (with_reducible refine (impl_EndDoor.calls ((rd_T24 t101 x4_1).f0) ((rd_T24 t101 x4_1).f1) true _ A6.out).mono ?_); rintro e w9 ⟨rfl, hb⟩; refine ⟨_, rfl, ?_⟩; have n0_ := Aside0.mk (Kd.V_below (by (with_reducible repeat (first | apply Kd.V_alloc | apply Kd.V_drewN | apply Kd.V_drew)); exact HO_3.out) hb); have n1_ := Aside0.mk (below_step (by repeat (first | (with_reducible first | exact HB.out | apply below_alloc | apply pw_below_drewN | apply below_drew1) | exact HB.out)) hb); clear HO_3; clear HB; have HO_3 := n0_; have HB := n1_; clear n0_ n1_; (try clear hb); (try clear hb2); (try clear hk); (try clear hi)))
            go_ret
            exact ⟨by first | rfl | (simp [errW_none, errW_some] <;> rfl) | (simp [*, errW_none, errW_some] <;> rfl), by repeat (first | (with_reducible first | exact HB.out | apply below_alloc | apply pw_below_drewN | apply below_drew1) | exact HB.out)⟩
          · replace c7 := Bool.eq_false_iff.mpr c7
            subst c7
            have H1 : (laws_lzOwn.l0 k1 t101 (wrap64 (x4_1 + 1))) = some r := by rw [if_neg (show ¬ (false = true) by decide)] at H; exact H
            clear H
            have H := H1
            clear H1
            have H' := Aside0.mk H
            clear H
            obtain ⟨Ao10, co10, eo10⟩ := Kd.V_slice HO_3.out
            subst eo10
            have p104 : 0 ≤ (x4_1 : Int) := of_decide_eq_true (by first | (with_reducible assumption) | assumption)
            have q104 : x4_1 < (t101.length : Int) := of_decide_eq_true (by first | (with_reducible assumption) | assumption)
            obtain ⟨ad104, e104, hx104_0, hx104_1⟩ := at_T24 (Kd.V_reads' HO_3.out).2.2 x4_1 p104 q104
            cases e104
            replace p104 := eq_true p104
            replace q104 := eq_true q104
            go_wp2_with (first | ((with_reducible refine gate_callee (f := 36) rfl ?_); refine goesL_ (some 17) rfl rfl Tryz.func36 (by kernel_rfl) rfl #[.agg #[.int .i64 ((rd_T24 t101 x4_1).f0), .int .i64 ((rd_T24 t101 x4_1).f1)]] rfl (by (try simp only [List.map_toArray, List.map_cons, List.map_nil]); first | done | rfl | (simp only [List.length_drop, List.length_take]; rfl)) ?_; (with_reducible refine (impl_EndDoor.calls ((rd_T24 t101 x4_1).f0) ((rd_T24 t101 x4_1).f1) false _ A6.out).mono ?_); rintro e w11 ⟨rfl, hb⟩; refine ⟨_, rfl, ?_⟩; have n0_ := Aside0.mk (Kd.V_below (by (with_reducible repeat (first | apply Kd.V_alloc | apply Kd.V_drewN | apply Kd.V_drew)); exact HO_3.out) hb); have n1_ := Aside0.mk (below_step (by repeat (first | (with_reducible first | exact HB.out | apply below_alloc | apply pw_below_drewN | apply below_drew1) | exact HB.out)) hb); clear HO_3; clear HB; have HO_3 := n0_; have HB := n1_; clear n0_ n1_; (try clear hb); (try clear hb2); (try clear hk); (try clear hi)))
            go_roundg k1
            case measure => have := HK1.out; omega
            case rel => exact ⟨(wrap64 (x4_1 + 1)), (by first | rfl | (simp; done) | (simp [*]; done)), H', ⟨by have := HK1.out; omega⟩, ⟨by (with_reducible repeat (first | apply Kd.V_alloc | apply Kd.V_drewN | apply Kd.V_drew)); exact HO_3.out⟩, ⟨by repeat (first | (with_reducible first | exact HB.out | apply below_alloc | apply pw_below_drewN | apply below_drew1) | exact HB.out)⟩⟩
        · rw [if_neg c5] at H
          exact absurd H (by simp)
      · rw [if_neg c4] at H
        have c4b0 : decide (x4_1 < (t101.length : Int)) = false := decide_eq_false c4
        clear c4
        obtain rfl := Option.some.inj H
        obtain ⟨Ao12, co12, eo12⟩ := Kd.V_slice HO_3.out
        subst eo12
        go_wp2
        go_ret
        exact ⟨by first | rfl | (simp [errW_none, errW_some] <;> rfl) | (simp [*, errW_none, errW_some] <;> rfl), by repeat (first | (with_reducible first | exact HB.out | apply below_alloc | apply pw_below_drewN | apply below_drew1) | exact HB.out)⟩
end
end Go.Proofs.YtijompkonaiagaaGreatDoor.Q
namespace Go.Proofs.YtijompkonaiagaaGreatDoor.Q
open Go.RowKit Go.Proofs.YtijompkonaiagaaGreatDoorW.PrintWords Go.Proofs.YtijompkonaiagaaGreatDoorW.PrintLast Go.Proofs.YtijompkonaiagaaGreatDoorW.PrintMore Go.Proofs.YtijompkonaiagaaGreatDoor.Z
attribute [local go_sem] max2_int min2_int max_two min_two max_three min_three max_four min_four
set_option linter.unusedVariables false
set_option linter.unusedSimpArgs false
noncomputable section
def laws_FnTextThere.j0 : Nat → ByteArray → List (S69) → ByteArray → List (S69) → ByteArray → Bool → Option (Bool)
  | 0, _, _, _, _, _, _ => none
  | k + 1, x4, x5, x6, x7, x8, x62 => if x62 = true then (if x8.toList = x6.toList then ((laws_lzMap.f k x7 x5).bind fun t117 => (some t117)) else (some false)) else (if x8.size + 1 ≤ 9223372036854775807 then ((impl_MapTextIn.f k x7 (x8 ++ (⟨#[122]⟩ : ByteArray))).bind fun t118 => ((impl_TextHeld.f x4).bind fun t119 => (if 0 ≤ (wrap64 ((x4.size : Int) - t119)) then (if (wrap64 ((x4.size : Int) - t119)) ≤ (x4.size : Int) then (if (x4.extract 0 ((wrap64 ((x4.size : Int) - t119)) : Int).toNat).size + 1 ≤ 9223372036854775807 then (some (t118.toList == ((x4.extract 0 ((wrap64 ((x4.size : Int) - t119)) : Int).toNat) ++ (⟨#[122]⟩ : ByteArray)).toList)) else (none)) else (none)) else (none)))) else (none))
def laws_FnTextThere.f (k : Nat) (l0 : List Int) : Option (Bool) := if (l0.length : Int) > 1048576 then (some true) else ((spec_DrawMapTextOut.f k l0).bind fun bt101 => ((spec_MapTextOut.f k bt101.1 bt101.2).bind fun bt105 => ((impl_MapTextOut.f k bt101.1 bt101.2).bind fun bt109 => (if bt109.2.toList = bt105.2.toList then ((laws_lzMap.f k bt109.1 bt105.1).bind fun t113 => (if t113 = true then ((spec_MapOk.f bt101.1).bind fun t114 => (if t114 = true then ((spec_TextOk.f bt101.2).bind fun t115 => (if t115 = true then ((laws_lzOwn.f k bt101.2).bind fun t116 => (if t116 = true then (if (bt109.1.length : Int) > 7 then (laws_FnTextThere.j0 k bt101.2 bt105.1 bt105.2 bt109.1 bt109.2 true) else (laws_FnTextThere.j0 k bt101.2 bt105.1 bt105.2 bt109.1 bt109.2 (decide ((bt109.2.size : Int) ≥ 40)))) else (laws_FnTextThere.j0 k bt101.2 bt105.1 bt105.2 bt109.1 bt109.2 true))) else (laws_FnTextThere.j0 k bt101.2 bt105.1 bt105.2 bt109.1 bt109.2 true))) else (laws_FnTextThere.j0 k bt101.2 bt105.1 bt105.2 bt109.1 bt109.2 true))) else (laws_FnTextThere.j0 k bt101.2 bt105.1 bt105.2 bt109.1 bt109.2 true))) else (laws_FnTextThere.j0 k bt101.2 bt105.1 bt105.2 bt109.1 bt109.2 true)))))
set_option maxHeartbeats 8000000 in
set_option maxRecDepth 100000 in
theorem laws_FnTextThere.calls (k : Nat) (A0 : Option Addr) (c0 : Nat) (l0 : List Int) (r : Bool) (w : World) (hr0 : Kd.C (Kd.int .u8) w A0 l0.length l0) (hc0 : l0.length ≤ c0) (hV : VarsIn w) (h : laws_FnTextThere.f k l0 = some r) :
    Calls Tryz.prog 13 #[.slice A0 l0.length c0] w fun e w' => e = .returned (.bool r) ∧ Below w.heap.size w w' := by
  have HR0 := Aside0.mk hr0
  have HC0 := Aside0.mk hc0
  clear hr0 hc0
  have HB := Aside0.mk (Below.refl w.heap.size w)
  have H : (if (l0.length : Int) > 1048576 then (some true) else ((spec_DrawMapTextOut.f k l0).bind fun bt101 => ((spec_MapTextOut.f k bt101.1 bt101.2).bind fun bt105 => ((impl_MapTextOut.f k bt101.1 bt101.2).bind fun bt109 => (if bt109.2.toList = bt105.2.toList then ((laws_lzMap.f k bt109.1 bt105.1).bind fun t113 => (if t113 = true then ((spec_MapOk.f bt101.1).bind fun t114 => (if t114 = true then ((spec_TextOk.f bt101.2).bind fun t115 => (if t115 = true then ((laws_lzOwn.f k bt101.2).bind fun t116 => (if t116 = true then (if (bt109.1.length : Int) > 7 then (laws_FnTextThere.j0 k bt101.2 bt105.1 bt105.2 bt109.1 bt109.2 true) else (laws_FnTextThere.j0 k bt101.2 bt105.1 bt105.2 bt109.1 bt109.2 (decide ((bt109.2.size : Int) ≥ 40)))) else (laws_FnTextThere.j0 k bt101.2 bt105.1 bt105.2 bt109.1 bt109.2 true))) else (laws_FnTextThere.j0 k bt101.2 bt105.1 bt105.2 bt109.1 bt109.2 true))) else (laws_FnTextThere.j0 k bt101.2 bt105.1 bt105.2 bt109.1 bt109.2 true))) else (laws_FnTextThere.j0 k bt101.2 bt105.1 bt105.2 bt109.1 bt109.2 true))) else (laws_FnTextThere.j0 k bt101.2 bt105.1 bt105.2 bt109.1 bt109.2 true)))))) = some r := h
  clear h
  by_cases c2 : (l0.length : Int) > 1048576
  · rw [if_pos c2] at H
    have c2b0 : decide (1048576 < (l0.length : Int)) = true := decide_eq_true c2
    have c2b1 : decide (1048576 < l0.length) = true := decide_eq_true (by omega)
    clear c2
    obtain rfl := Option.some.inj H
    go_enter Tryz.func13, Tryz.ntmps13
    go_wp2
    go_ret
    exact ⟨by first | rfl | (simp [errW_none, errW_some] <;> rfl) | (simp [*, errW_none, errW_some] <;> rfl), by repeat (first | (with_reducible first | exact HB.out | apply below_alloc | apply pw_below_drewN | apply below_drew1) | exact HB.out)⟩
  · rw [if_neg c2] at H
    have c2b0 : decide (1048576 < (l0.length : Int)) = false := decide_eq_false c2
    have c2b1 : decide (1048576 < l0.length) = false := decide_eq_false (by omega)
    clear c2
    replace H := Option.bind_eq_some_iff.mp H
    obtain ⟨⟨t101, t102⟩, A30, H⟩ := H
    replace H : ((spec_MapTextOut.f k t101 t102).bind fun bt105 => ((impl_MapTextOut.f k t101 t102).bind fun bt109 => (if bt109.2.toList = bt105.2.toList then ((laws_lzMap.f k bt109.1 bt105.1).bind fun t113 => (if t113 = true then ((spec_MapOk.f t101).bind fun t114 => (if t114 = true then ((spec_TextOk.f t102).bind fun t115 => (if t115 = true then ((laws_lzOwn.f k t102).bind fun t116 => (if t116 = true then (if (bt109.1.length : Int) > 7 then (laws_FnTextThere.j0 k t102 bt105.1 bt105.2 bt109.1 bt109.2 true) else (laws_FnTextThere.j0 k t102 bt105.1 bt105.2 bt109.1 bt109.2 (decide ((bt109.2.size : Int) ≥ 40)))) else (laws_FnTextThere.j0 k t102 bt105.1 bt105.2 bt109.1 bt109.2 true))) else (laws_FnTextThere.j0 k t102 bt105.1 bt105.2 bt109.1 bt109.2 true))) else (laws_FnTextThere.j0 k t102 bt105.1 bt105.2 bt109.1 bt109.2 true))) else (laws_FnTextThere.j0 k t102 bt105.1 bt105.2 bt109.1 bt109.2 true))) else (laws_FnTextThere.j0 k t102 bt105.1 bt105.2 bt109.1 bt109.2 true)))) = some r := H
    have A3 := Aside0.mk A30
    clear A30
    replace H := Option.bind_eq_some_iff.mp H
    obtain ⟨⟨t105, t106⟩, A40, H⟩ := H
    replace H : ((impl_MapTextOut.f k t101 t102).bind fun bt109 => (if bt109.2.toList = t106.toList then ((laws_lzMap.f k bt109.1 t105).bind fun t113 => (if t113 = true then ((spec_MapOk.f t101).bind fun t114 => (if t114 = true then ((spec_TextOk.f t102).bind fun t115 => (if t115 = true then ((laws_lzOwn.f k t102).bind fun t116 => (if t116 = true then (if (bt109.1.length : Int) > 7 then (laws_FnTextThere.j0 k t102 t105 t106 bt109.1 bt109.2 true) else (laws_FnTextThere.j0 k t102 t105 t106 bt109.1 bt109.2 (decide ((bt109.2.size : Int) ≥ 40)))) else (laws_FnTextThere.j0 k t102 t105 t106 bt109.1 bt109.2 true))) else (laws_FnTextThere.j0 k t102 t105 t106 bt109.1 bt109.2 true))) else (laws_FnTextThere.j0 k t102 t105 t106 bt109.1 bt109.2 true))) else (laws_FnTextThere.j0 k t102 t105 t106 bt109.1 bt109.2 true))) else (laws_FnTextThere.j0 k t102 t105 t106 bt109.1 bt109.2 true))) = some r := H
    have A4 := Aside0.mk A40
    clear A40
    replace H := Option.bind_eq_some_iff.mp H
    obtain ⟨⟨t109, t112⟩, A50, H⟩ := H
    replace H : (if t112.toList = t106.toList then ((laws_lzMap.f k t109 t105).bind fun t113 => (if t113 = true then ((spec_MapOk.f t101).bind fun t114 => (if t114 = true then ((spec_TextOk.f t102).bind fun t115 => (if t115 = true then ((laws_lzOwn.f k t102).bind fun t116 => (if t116 = true then (if (t109.length : Int) > 7 then (laws_FnTextThere.j0 k t102 t105 t106 t109 t112 true) else (laws_FnTextThere.j0 k t102 t105 t106 t109 t112 (decide ((t112.size : Int) ≥ 40)))) else (laws_FnTextThere.j0 k t102 t105 t106 t109 t112 true))) else (laws_FnTextThere.j0 k t102 t105 t106 t109 t112 true))) else (laws_FnTextThere.j0 k t102 t105 t106 t109 t112 true))) else (laws_FnTextThere.j0 k t102 t105 t106 t109 t112 true))) else (laws_FnTextThere.j0 k t102 t105 t106 t109 t112 true)) = some r := H
    have A5 := Aside0.mk A50
    clear A50
    have HC6 := Aside0.mk H
    clear H
    go_enter Tryz.func13, Tryz.ntmps13
    go_upto_region 6 with (first | ((with_reducible refine gate_callee (f := 28) rfl ?_); refine goesL_ (some 14) rfl rfl Tryz.func28 (by kernel_rfl) rfl #[.slice A0 l0.length c0] rfl (by (try simp only [List.map_toArray, List.map_cons, List.map_nil]); first | done | rfl | (simp only [List.length_drop, List.length_take]; rfl)) ?_; (with_reducible refine (spec_DrawMapTextOut.calls k _ _ l0 t101 t102 _ ?side1 ?side2 A3.out).mono ?_); (case side1 => repeat (first | exact HR0.out | (with_reducible refine Kd.C_alloc ?_ _) | (with_reducible refine Kd.C_drewN ?_ _) | (with_reducible refine Kd.C_drew ?_))); (case side2 => exact HC0.out); rintro e w7 ⟨v103, rfl, ho0, hb⟩; refine ⟨_, rfl, ?_⟩; have n0_ := Aside0.mk (Kd.Q_lower ho0 (below_size (by repeat (first | (with_reducible first | exact HB.out | apply below_alloc | apply pw_below_drewN | apply below_drew1) | exact HB.out)))); have n1_ := Aside0.mk (below_step (by repeat (first | (with_reducible first | exact HB.out | apply below_alloc | apply pw_below_drewN | apply below_drew1) | exact HB.out)) hb); clear HB; have HO104 := n0_; have HB := n1_; clear n0_ n1_; (try clear hb); (try clear hb2); (try clear hk); (try clear hi); (try clear ho0); obtain ⟨Ao8, co8, eo8, _⟩ := Kd.Q_slice HO104.out; subst eo8) | ((with_reducible refine gate_callee (f := 24) rfl ?_); refine goesL_ (some 20) rfl rfl Tryz.func24 (by kernel_rfl) rfl #[.slice Ao8 t101.length co8, .string t102] rfl (by (try simp only [List.map_toArray, List.map_cons, List.map_nil]); first | done | rfl | (simp only [List.length_drop, List.length_take]; rfl)) ?_; (with_reducible refine (spec_MapTextOut.calls k _ _ t101 t102 t105 t106 _ ?side1 ?side2 A4.out).mono ?_); (case side1 => repeat (first | exact (Kd.Q_reads' HO104.out).2.2 | (with_reducible refine Kd.C_alloc ?_ _) | (with_reducible refine Kd.C_drewN ?_ _) | (with_reducible refine Kd.C_drew ?_))); (case side2 => exact (Kd.Q_reads' HO104.out).2.1); rintro e w9 ⟨v107, rfl, ho0, hb⟩; refine ⟨_, rfl, ?_⟩; have n0_ := Aside0.mk (Kd.Q_elder' (by (with_reducible repeat (first | apply Kd.Q_alloc | apply Kd.Q_drewN | apply Kd.Q_drew)); exact HO104.out) (Kd.R_base ho0) hb); have n1_ := Aside0.mk (Kd.R_lower (Kd.R_new' ho0 (Kd.Q_lt (by (with_reducible repeat (first | apply Kd.Q_alloc | apply Kd.Q_drewN | apply Kd.Q_drew)); exact HO104.out))) (below_size (by repeat (first | (with_reducible first | exact HB.out | apply below_alloc | apply pw_below_drewN | apply below_drew1) | exact HB.out)))); have n2_ := Aside0.mk (below_step (by repeat (first | (with_reducible first | exact HB.out | apply below_alloc | apply pw_below_drewN | apply below_drew1) | exact HB.out)) hb); clear HO104; clear HB; have HO104 := n0_; have HO108 := n1_; have HB := n2_; clear n0_ n1_ n2_; (try clear hb); (try clear hb2); (try clear hk); (try clear hi); (try clear ho0)) | ((with_reducible refine gate_callee (f := 25) rfl ?_); refine goesL_ (some 26) rfl rfl Tryz.func25 (by kernel_rfl) rfl #[.slice Ao8 t101.length co8, .string t102] rfl (by (try simp only [List.map_toArray, List.map_cons, List.map_nil]); first | done | rfl | (simp only [List.length_drop, List.length_take]; rfl)) ?_; (with_reducible refine (impl_MapTextOut.calls k (fun k_ => some k_ = (.slice Ao8 t101.length co8 : Value).ownBlock) _ _ t101 t102 t109 t112 _ ?side1 ?side2 A5.out).mono ?_); (case side1 => exact Kd.Q_V (Kd.Q_tight rfl (HO104.out))); (case side2 => exact hV.next (by repeat (first | (with_reducible first | exact HB.out | apply below_alloc | apply pw_below_drewN | apply below_drew1) | exact HB.out))); rintro e w10 ⟨v110, rfl, ho0, hb⟩; refine ⟨_, rfl, ?_⟩; have n0_ := Aside0.mk (Kd.Q_below (by (with_reducible repeat (first | apply Kd.Q_alloc | apply Kd.Q_drewN | apply Kd.Q_drew)); exact HO104.out) hb); have n1_ := Aside0.mk (Kd.R_below (by (with_reducible repeat (first | apply Kd.R_alloc | apply Kd.R_drewN | apply Kd.R_drew)); exact HO108.out) hb); have n2_ := Aside0.mk (Kd.V_lower (Kd.V_mono (ok' := fun k_ => some k_ ≠ (v107 : Value).ownBlock) ho0 (fun k_ hk_ => Or.elim hk_ (fun hs_ => ((HO104.out).1 k_ hs_.symm).2) (fun hn_ => (Kd.fresh' (Kd.R_lt (by (with_reducible repeat (first | apply Kd.R_alloc | apply Kd.R_drewN | apply Kd.R_drew)); exact HO108.out)) k_ hn_)))) (below_size (by repeat (first | (with_reducible first | exact HB.out | apply below_alloc | apply pw_below_drewN | apply below_drew1) | exact HB.out)))); have n3_ := Aside0.mk (below_step (by repeat (first | (with_reducible first | exact HB.out | apply below_alloc | apply pw_below_drewN | apply below_drew1) | exact HB.out)) hb); clear HO104; clear HO108; clear HB; have HO104 := n0_; have HO108 := n1_; have HO111 := n2_; have HB := n3_; clear n0_ n1_ n2_ n3_; (try clear hb); (try clear hb2); (try clear hk); (try clear hi); (try clear ho0)))
    (try simp only [Act.put, List.setIfInBounds_toArray, List.set_cons_zero, List.set_cons_succ])
    go_cut [62] (fun v62 wc => ∃ (kq : Nat) (x62_5 : Bool), v62 = .bool x62_5 ∧ Aside0 (laws_FnTextThere.j0 kq t102 t105 t106 t109 t112 x62_5 = some r) ∧ Aside0 (kq ≤ k) ∧ Aside0 (Kd.R k69 69 wc w.heap.size (fun _ => True) v107 t105) ∧ Aside0 (Kd.V k69 69 wc w.heap.size (fun k_ => some k_ ≠ (v107 : Value).ownBlock) v110 t109) ∧ Aside0 (Below w.heap.size w wc))
    case first =>
      have H := HC6.out
      clear HC6
      by_cases c11 : t112.toList = t106.toList
      · rw [if_pos c11] at H
        have c11b0 : (t112.toList == t106.toList) = true := beq_iff_eq.mpr c11
        have c11b1 : (t112.toList != t106.toList) = false := bne_eq_false_iff_eq.mpr c11
        clear c11
        (first | rw [c11b0] | (simp only [i64_w, i32_w]; rw [c11b0]) | skip)
        replace H := Option.bind_eq_some_iff.mp H
        obtain ⟨t113, A120, H⟩ := H
        replace H : (if t113 = true then ((spec_MapOk.f t101).bind fun t114 => (if t114 = true then ((spec_TextOk.f t102).bind fun t115 => (if t115 = true then ((laws_lzOwn.f k t102).bind fun t116 => (if t116 = true then (if (t109.length : Int) > 7 then (laws_FnTextThere.j0 k t102 t105 t106 t109 t112 true) else (laws_FnTextThere.j0 k t102 t105 t106 t109 t112 (decide ((t112.size : Int) ≥ 40)))) else (laws_FnTextThere.j0 k t102 t105 t106 t109 t112 true))) else (laws_FnTextThere.j0 k t102 t105 t106 t109 t112 true))) else (laws_FnTextThere.j0 k t102 t105 t106 t109 t112 true))) else (laws_FnTextThere.j0 k t102 t105 t106 t109 t112 true)) = some r := H
        have A12 := Aside0.mk A120
        clear A120
        by_cases c13 : t113 = true
        · subst c13
          have H1 : ((spec_MapOk.f t101).bind fun t114 => (if t114 = true then ((spec_TextOk.f t102).bind fun t115 => (if t115 = true then ((laws_lzOwn.f k t102).bind fun t116 => (if t116 = true then (if (t109.length : Int) > 7 then (laws_FnTextThere.j0 k t102 t105 t106 t109 t112 true) else (laws_FnTextThere.j0 k t102 t105 t106 t109 t112 (decide ((t112.size : Int) ≥ 40)))) else (laws_FnTextThere.j0 k t102 t105 t106 t109 t112 true))) else (laws_FnTextThere.j0 k t102 t105 t106 t109 t112 true))) else (laws_FnTextThere.j0 k t102 t105 t106 t109 t112 true))) = some r := by rw [if_pos rfl] at H; exact H
          clear H
          have H := H1
          clear H1
          replace H := Option.bind_eq_some_iff.mp H
          obtain ⟨t114, A140, H⟩ := H
          replace H : (if t114 = true then ((spec_TextOk.f t102).bind fun t115 => (if t115 = true then ((laws_lzOwn.f k t102).bind fun t116 => (if t116 = true then (if (t109.length : Int) > 7 then (laws_FnTextThere.j0 k t102 t105 t106 t109 t112 true) else (laws_FnTextThere.j0 k t102 t105 t106 t109 t112 (decide ((t112.size : Int) ≥ 40)))) else (laws_FnTextThere.j0 k t102 t105 t106 t109 t112 true))) else (laws_FnTextThere.j0 k t102 t105 t106 t109 t112 true))) else (laws_FnTextThere.j0 k t102 t105 t106 t109 t112 true)) = some r := H
          have A14 := Aside0.mk A140
          clear A140
          by_cases c15 : t114 = true
          · subst c15
            have H1 : ((spec_TextOk.f t102).bind fun t115 => (if t115 = true then ((laws_lzOwn.f k t102).bind fun t116 => (if t116 = true then (if (t109.length : Int) > 7 then (laws_FnTextThere.j0 k t102 t105 t106 t109 t112 true) else (laws_FnTextThere.j0 k t102 t105 t106 t109 t112 (decide ((t112.size : Int) ≥ 40)))) else (laws_FnTextThere.j0 k t102 t105 t106 t109 t112 true))) else (laws_FnTextThere.j0 k t102 t105 t106 t109 t112 true))) = some r := by rw [if_pos rfl] at H; exact H
            clear H
            have H := H1
            clear H1
            replace H := Option.bind_eq_some_iff.mp H
            obtain ⟨t115, A160, H⟩ := H
            replace H : (if t115 = true then ((laws_lzOwn.f k t102).bind fun t116 => (if t116 = true then (if (t109.length : Int) > 7 then (laws_FnTextThere.j0 k t102 t105 t106 t109 t112 true) else (laws_FnTextThere.j0 k t102 t105 t106 t109 t112 (decide ((t112.size : Int) ≥ 40)))) else (laws_FnTextThere.j0 k t102 t105 t106 t109 t112 true))) else (laws_FnTextThere.j0 k t102 t105 t106 t109 t112 true)) = some r := H
            have A16 := Aside0.mk A160
            clear A160
            by_cases c17 : t115 = true
            · subst c17
              have H1 : ((laws_lzOwn.f k t102).bind fun t116 => (if t116 = true then (if (t109.length : Int) > 7 then (laws_FnTextThere.j0 k t102 t105 t106 t109 t112 true) else (laws_FnTextThere.j0 k t102 t105 t106 t109 t112 (decide ((t112.size : Int) ≥ 40)))) else (laws_FnTextThere.j0 k t102 t105 t106 t109 t112 true))) = some r := by rw [if_pos rfl] at H; exact H
              clear H
              have H := H1
              clear H1
              replace H := Option.bind_eq_some_iff.mp H
              obtain ⟨t116, A180, H⟩ := H
              replace H : (if t116 = true then (if (t109.length : Int) > 7 then (laws_FnTextThere.j0 k t102 t105 t106 t109 t112 true) else (laws_FnTextThere.j0 k t102 t105 t106 t109 t112 (decide ((t112.size : Int) ≥ 40)))) else (laws_FnTextThere.j0 k t102 t105 t106 t109 t112 true)) = some r := H
              have A18 := Aside0.mk A180
              clear A180
              by_cases c19 : t116 = true
              · subst c19
                have H1 : (if (t109.length : Int) > 7 then (laws_FnTextThere.j0 k t102 t105 t106 t109 t112 true) else (laws_FnTextThere.j0 k t102 t105 t106 t109 t112 (decide ((t112.size : Int) ≥ 40)))) = some r := by rw [if_pos rfl] at H; exact H
                clear H
                have H := H1
                clear H1
                by_cases c20 : (t109.length : Int) > 7
                · rw [if_pos c20] at H
                  have c20b0 : decide (7 < (t109.length : Int)) = true := decide_eq_true c20
                  have c20b1 : decide (7 < t109.length) = true := decide_eq_true (by omega)
                  clear c20
                  have H' := Aside0.mk H
                  clear H
                  obtain ⟨Ao21, co21, eo21⟩ := Kd.V_slice HO111.out
                  subst eo21
                  obtain ⟨Ao22, co22, eo22⟩ := Kd.R_slice HO108.out
                  subst eo22
                  go_wp2_with (first | (go_at_call 29; (with_reducible refine (laws_lzMap.calls k _ _ t109 _ _ t105 true _ ?side1 ?side2 ?side3 ?side4 A12.out).mono ?_); (case side1 => repeat (first | exact (Kd.V_reads' HO111.out).2.2 | (with_reducible refine Kd.C_alloc ?_ _) | (with_reducible refine Kd.C_drewN ?_ _) | (with_reducible refine Kd.C_drew ?_))); (case side2 => exact (Kd.V_reads' HO111.out).2.1); (case side3 => repeat (first | exact (Kd.R_reads' HO108.out).2.2 | (with_reducible refine Kd.C_alloc ?_ _) | (with_reducible refine Kd.C_drewN ?_ _) | (with_reducible refine Kd.C_drew ?_))); (case side4 => exact (Kd.R_reads' HO108.out).2.1); rintro e w' ⟨rfl, ⟨nd, rfl⟩⟩) | (go_at_call 30; (with_reducible refine (spec_MapOk.calls _ _ t101 true _ ?side1 ?side2 A14.out).mono ?_); (case side1 => repeat (first | exact (Kd.Q_reads' HO104.out).2.2 | (with_reducible refine Kd.C_alloc ?_ _) | (with_reducible refine Kd.C_drewN ?_ _) | (with_reducible refine Kd.C_drew ?_))); (case side2 => exact (Kd.Q_reads' HO104.out).2.1); rintro e w23 ⟨rfl, hb⟩; have n0_ := Aside0.mk (Kd.Q_below (by (with_reducible repeat (first | apply Kd.Q_alloc | apply Kd.Q_drewN | apply Kd.Q_drew)); exact HO104.out) hb); have n1_ := Aside0.mk (Kd.R_below (by (with_reducible repeat (first | apply Kd.R_alloc | apply Kd.R_drewN | apply Kd.R_drew)); exact HO108.out) hb); have n2_ := Aside0.mk (Kd.V_below (by (with_reducible repeat (first | apply Kd.V_alloc | apply Kd.V_drewN | apply Kd.V_drew)); exact HO111.out) hb); have n3_ := Aside0.mk (below_step (by repeat (first | (with_reducible first | exact HB.out | apply below_alloc | apply pw_below_drewN | apply below_drew1) | exact HB.out)) hb); clear HO104; clear HO108; clear HO111; clear HB; have HO104 := n0_; have HO108 := n1_; have HO111 := n2_; have HB := n3_; clear n0_ n1_ n2_ n3_; (try clear hb); (try clear hb2); (try clear hk); (try clear hi)) | (go_at_call 31; (with_reducible refine (spec_TextOk.calls t102 true _ A16.out).mono ?_); rintro e w24 ⟨rfl, hb⟩; have n0_ := Aside0.mk (Kd.Q_below (by (with_reducible repeat (first | apply Kd.Q_alloc | apply Kd.Q_drewN | apply Kd.Q_drew)); exact HO104.out) hb); have n1_ := Aside0.mk (Kd.R_below (by (with_reducible repeat (first | apply Kd.R_alloc | apply Kd.R_drewN | apply Kd.R_drew)); exact HO108.out) hb); have n2_ := Aside0.mk (Kd.V_below (by (with_reducible repeat (first | apply Kd.V_alloc | apply Kd.V_drewN | apply Kd.V_drew)); exact HO111.out) hb); have n3_ := Aside0.mk (below_step (by repeat (first | (with_reducible first | exact HB.out | apply below_alloc | apply pw_below_drewN | apply below_drew1) | exact HB.out)) hb); clear HO104; clear HO108; clear HO111; clear HB; have HO104 := n0_; have HO108 := n1_; have HO111 := n2_; have HB := n3_; clear n0_ n1_ n2_ n3_; (try clear hb); (try clear hb2); (try clear hk); (try clear hi)) | (go_at_call 18; (with_reducible refine (laws_lzOwn.calls k t102 true _ ?side1 A18.out).mono ?_); (case side1 => exact hV.next (by repeat (first | (with_reducible first | exact HB.out | apply below_alloc | apply pw_below_drewN | apply below_drew1) | exact HB.out))); rintro e w25 ⟨rfl, hb⟩; have n0_ := Aside0.mk (Kd.Q_below (by (with_reducible repeat (first | apply Kd.Q_alloc | apply Kd.Q_drewN | apply Kd.Q_drew)); exact HO104.out) hb); have n1_ := Aside0.mk (Kd.R_below (by (with_reducible repeat (first | apply Kd.R_alloc | apply Kd.R_drewN | apply Kd.R_drew)); exact HO108.out) hb); have n2_ := Aside0.mk (Kd.V_below (by (with_reducible repeat (first | apply Kd.V_alloc | apply Kd.V_drewN | apply Kd.V_drew)); exact HO111.out) hb); have n3_ := Aside0.mk (below_step (by repeat (first | (with_reducible first | exact HB.out | apply below_alloc | apply pw_below_drewN | apply below_drew1) | exact HB.out)) hb); clear HO104; clear HO108; clear HO111; clear HB; have HO104 := n0_; have HO108 := n1_; have HO111 := n2_; have HB := n3_; clear n0_ n1_ n2_ n3_; (try clear hb); (try clear hb2); (try clear hk); (try clear hi)))
                  go_meet
                  case rel => exact ⟨_, (true), (by first | rfl | (simp; done) | (simp [*]; done)), H', ⟨by first | omega | exact Nat.le_refl _⟩, ⟨by (with_reducible repeat (first | apply Kd.R_alloc | apply Kd.R_drewN | apply Kd.R_drew)); exact Kd.R_mono HO108.out (fun _ hk => trivial)⟩, ⟨by (with_reducible repeat (first | apply Kd.V_alloc | apply Kd.V_drewN | apply Kd.V_drew)); exact HO111.out⟩, ⟨by repeat (first | (with_reducible first | exact HB.out | apply below_alloc | apply pw_below_drewN | apply below_drew1) | exact HB.out)⟩⟩
                · rw [if_neg c20] at H
                  have c20b0 : decide (7 < (t109.length : Int)) = false := decide_eq_false c20
                  have c20b1 : decide (7 < t109.length) = false := decide_eq_false (by omega)
                  clear c20
                  have H' := Aside0.mk H
                  clear H
                  obtain ⟨Ao26, co26, eo26⟩ := Kd.V_slice HO111.out
                  subst eo26
                  obtain ⟨Ao27, co27, eo27⟩ := Kd.R_slice HO108.out
                  subst eo27
                  go_wp2_with (first | (go_at_call 29; (with_reducible refine (laws_lzMap.calls k _ _ t109 _ _ t105 true _ ?side1 ?side2 ?side3 ?side4 A12.out).mono ?_); (case side1 => repeat (first | exact (Kd.V_reads' HO111.out).2.2 | (with_reducible refine Kd.C_alloc ?_ _) | (with_reducible refine Kd.C_drewN ?_ _) | (with_reducible refine Kd.C_drew ?_))); (case side2 => exact (Kd.V_reads' HO111.out).2.1); (case side3 => repeat (first | exact (Kd.R_reads' HO108.out).2.2 | (with_reducible refine Kd.C_alloc ?_ _) | (with_reducible refine Kd.C_drewN ?_ _) | (with_reducible refine Kd.C_drew ?_))); (case side4 => exact (Kd.R_reads' HO108.out).2.1); rintro e w' ⟨rfl, ⟨nd, rfl⟩⟩) | (go_at_call 30; (with_reducible refine (spec_MapOk.calls _ _ t101 true _ ?side1 ?side2 A14.out).mono ?_); (case side1 => repeat (first | exact (Kd.Q_reads' HO104.out).2.2 | (with_reducible refine Kd.C_alloc ?_ _) | (with_reducible refine Kd.C_drewN ?_ _) | (with_reducible refine Kd.C_drew ?_))); (case side2 => exact (Kd.Q_reads' HO104.out).2.1); rintro e w28 ⟨rfl, hb⟩; have n0_ := Aside0.mk (Kd.Q_below (by (with_reducible repeat (first | apply Kd.Q_alloc | apply Kd.Q_drewN | apply Kd.Q_drew)); exact HO104.out) hb); have n1_ := Aside0.mk (Kd.R_below (by (with_reducible repeat (first | apply Kd.R_alloc | apply Kd.R_drewN | apply Kd.R_drew)); exact HO108.out) hb); have n2_ := Aside0.mk (Kd.V_below (by (with_reducible repeat (first | apply Kd.V_alloc | apply Kd.V_drewN | apply Kd.V_drew)); exact HO111.out) hb); have n3_ := Aside0.mk (below_step (by repeat (first | (with_reducible first | exact HB.out | apply below_alloc | apply pw_below_drewN | apply below_drew1) | exact HB.out)) hb); clear HO104; clear HO108; clear HO111; clear HB; have HO104 := n0_; have HO108 := n1_; have HO111 := n2_; have HB := n3_; clear n0_ n1_ n2_ n3_; (try clear hb); (try clear hb2); (try clear hk); (try clear hi)) | (go_at_call 31; (with_reducible refine (spec_TextOk.calls t102 true _ A16.out).mono ?_); rintro e w29 ⟨rfl, hb⟩; have n0_ := Aside0.mk (Kd.Q_below (by (with_reducible repeat (first | apply Kd.Q_alloc | apply Kd.Q_drewN | apply Kd.Q_drew)); exact HO104.out) hb); have n1_ := Aside0.mk (Kd.R_below (by (with_reducible repeat (first | apply Kd.R_alloc | apply Kd.R_drewN | apply Kd.R_drew)); exact HO108.out) hb); have n2_ := Aside0.mk (Kd.V_below (by (with_reducible repeat (first | apply Kd.V_alloc | apply Kd.V_drewN | apply Kd.V_drew)); exact HO111.out) hb); have n3_ := Aside0.mk (below_step (by repeat (first | (with_reducible first | exact HB.out | apply below_alloc | apply pw_below_drewN | apply below_drew1) | exact HB.out)) hb); clear HO104; clear HO108; clear HO111; clear HB; have HO104 := n0_; have HO108 := n1_; have HO111 := n2_; have HB := n3_; clear n0_ n1_ n2_ n3_; (try clear hb); (try clear hb2); (try clear hk); (try clear hi)) | (go_at_call 18; (with_reducible refine (laws_lzOwn.calls k t102 true _ ?side1 A18.out).mono ?_); (case side1 => exact hV.next (by repeat (first | (with_reducible first | exact HB.out | apply below_alloc | apply pw_below_drewN | apply below_drew1) | exact HB.out))); rintro e w30 ⟨rfl, hb⟩; have n0_ := Aside0.mk (Kd.Q_below (by (with_reducible repeat (first | apply Kd.Q_alloc | apply Kd.Q_drewN | apply Kd.Q_drew)); exact HO104.out) hb); have n1_ := Aside0.mk (Kd.R_below (by (with_reducible repeat (first | apply Kd.R_alloc | apply Kd.R_drewN | apply Kd.R_drew)); exact HO108.out) hb); have n2_ := Aside0.mk (Kd.V_below (by (with_reducible repeat (first | apply Kd.V_alloc | apply Kd.V_drewN | apply Kd.V_drew)); exact HO111.out) hb); have n3_ := Aside0.mk (below_step (by repeat (first | (with_reducible first | exact HB.out | apply below_alloc | apply pw_below_drewN | apply below_drew1) | exact HB.out)) hb); clear HO104; clear HO108; clear HO111; clear HB; have HO104 := n0_; have HO108 := n1_; have HO111 := n2_; have HB := n3_; clear n0_ n1_ n2_ n3_; (try clear hb); (try clear hb2); (try clear hk); (try clear hi)))
                  go_meet
                  case rel => exact ⟨_, (decide ((t112.size : Int) ≥ 40)), (by first | rfl | (simp; done) | (simp [*]; done)), H', ⟨by first | omega | exact Nat.le_refl _⟩, ⟨by (with_reducible repeat (first | apply Kd.R_alloc | apply Kd.R_drewN | apply Kd.R_drew)); exact Kd.R_mono HO108.out (fun _ hk => trivial)⟩, ⟨by (with_reducible repeat (first | apply Kd.V_alloc | apply Kd.V_drewN | apply Kd.V_drew)); exact HO111.out⟩, ⟨by repeat (first | (with_reducible first | exact HB.out | apply below_alloc | apply pw_below_drewN | apply below_drew1) | exact HB.out)⟩⟩
              · replace c19 := Bool.eq_false_iff.mpr c19
                subst c19
                have H1 : (laws_FnTextThere.j0 k t102 t105 t106 t109 t112 true) = some r := by rw [if_neg (show ¬ (false = true) by decide)] at H; exact H
                clear H
                have H := H1
                clear H1
                have H' := Aside0.mk H
                clear H
                obtain ⟨Ao31, co31, eo31⟩ := Kd.V_slice HO111.out
                subst eo31
                obtain ⟨Ao32, co32, eo32⟩ := Kd.R_slice HO108.out
                subst eo32
                go_wp2_with (first | (go_at_call 29; (with_reducible refine (laws_lzMap.calls k _ _ t109 _ _ t105 true _ ?side1 ?side2 ?side3 ?side4 A12.out).mono ?_); (case side1 => repeat (first | exact (Kd.V_reads' HO111.out).2.2 | (with_reducible refine Kd.C_alloc ?_ _) | (with_reducible refine Kd.C_drewN ?_ _) | (with_reducible refine Kd.C_drew ?_))); (case side2 => exact (Kd.V_reads' HO111.out).2.1); (case side3 => repeat (first | exact (Kd.R_reads' HO108.out).2.2 | (with_reducible refine Kd.C_alloc ?_ _) | (with_reducible refine Kd.C_drewN ?_ _) | (with_reducible refine Kd.C_drew ?_))); (case side4 => exact (Kd.R_reads' HO108.out).2.1); rintro e w' ⟨rfl, ⟨nd, rfl⟩⟩) | (go_at_call 30; (with_reducible refine (spec_MapOk.calls _ _ t101 true _ ?side1 ?side2 A14.out).mono ?_); (case side1 => repeat (first | exact (Kd.Q_reads' HO104.out).2.2 | (with_reducible refine Kd.C_alloc ?_ _) | (with_reducible refine Kd.C_drewN ?_ _) | (with_reducible refine Kd.C_drew ?_))); (case side2 => exact (Kd.Q_reads' HO104.out).2.1); rintro e w33 ⟨rfl, hb⟩; have n0_ := Aside0.mk (Kd.Q_below (by (with_reducible repeat (first | apply Kd.Q_alloc | apply Kd.Q_drewN | apply Kd.Q_drew)); exact HO104.out) hb); have n1_ := Aside0.mk (Kd.R_below (by (with_reducible repeat (first | apply Kd.R_alloc | apply Kd.R_drewN | apply Kd.R_drew)); exact HO108.out) hb); have n2_ := Aside0.mk (Kd.V_below (by (with_reducible repeat (first | apply Kd.V_alloc | apply Kd.V_drewN | apply Kd.V_drew)); exact HO111.out) hb); have n3_ := Aside0.mk (below_step (by repeat (first | (with_reducible first | exact HB.out | apply below_alloc | apply pw_below_drewN | apply below_drew1) | exact HB.out)) hb); clear HO104; clear HO108; clear HO111; clear HB; have HO104 := n0_; have HO108 := n1_; have HO111 := n2_; have HB := n3_; clear n0_ n1_ n2_ n3_; (try clear hb); (try clear hb2); (try clear hk); (try clear hi)) | (go_at_call 31; (with_reducible refine (spec_TextOk.calls t102 true _ A16.out).mono ?_); rintro e w34 ⟨rfl, hb⟩; have n0_ := Aside0.mk (Kd.Q_below (by (with_reducible repeat (first | apply Kd.Q_alloc | apply Kd.Q_drewN | apply Kd.Q_drew)); exact HO104.out) hb); have n1_ := Aside0.mk (Kd.R_below (by (with_reducible repeat (first | apply Kd.R_alloc | apply Kd.R_drewN | apply Kd.R_drew)); exact HO108.out) hb); have n2_ := Aside0.mk (Kd.V_below (by (with_reducible repeat (first | apply Kd.V_alloc | apply Kd.V_drewN | apply Kd.V_drew)); exact HO111.out) hb); have n3_ := Aside0.mk (below_step (by repeat (first | (with_reducible first | exact HB.out | apply below_alloc | apply pw_below_drewN | apply below_drew1) | exact HB.out)) hb); clear HO104; clear HO108; clear HO111; clear HB; have HO104 := n0_; have HO108 := n1_; have HO111 := n2_; have HB := n3_; clear n0_ n1_ n2_ n3_; (try clear hb); (try clear hb2); (try clear hk); (try clear hi)) | (go_at_call 18; (with_reducible refine (laws_lzOwn.calls k t102 false _ ?side1 A18.out).mono ?_); (case side1 => exact hV.next (by repeat (first | (with_reducible first | exact HB.out | apply below_alloc | apply pw_below_drewN | apply below_drew1) | exact HB.out))); rintro e w35 ⟨rfl, hb⟩; have n0_ := Aside0.mk (Kd.Q_below (by (with_reducible repeat (first | apply Kd.Q_alloc | apply Kd.Q_drewN | apply Kd.Q_drew)); exact HO104.out) hb); have n1_ := Aside0.mk (Kd.R_below (by (with_reducible repeat (first | apply Kd.R_alloc | apply Kd.R_drewN | apply Kd.R_drew)); exact HO108.out) hb); have n2_ := Aside0.mk (Kd.V_below (by (with_reducible repeat (first | apply Kd.V_alloc | apply Kd.V_drewN | apply Kd.V_drew)); exact HO111.out) hb); have n3_ := Aside0.mk (below_step (by repeat (first | (with_reducible first | exact HB.out | apply below_alloc | apply pw_below_drewN | apply below_drew1) | exact HB.out)) hb); clear HO104; clear HO108; clear HO111; clear HB; have HO104 := n0_; have HO108 := n1_; have HO111 := n2_; have HB := n3_; clear n0_ n1_ n2_ n3_; (try clear hb); (try clear hb2); (try clear hk); (try clear hi)))
                go_meet
                case rel => exact ⟨_, (true), (by first | rfl | (simp; done) | (simp [*]; done)), H', ⟨by first | omega | exact Nat.le_refl _⟩, ⟨by (with_reducible repeat (first | apply Kd.R_alloc | apply Kd.R_drewN | apply Kd.R_drew)); exact Kd.R_mono HO108.out (fun _ hk => trivial)⟩, ⟨by (with_reducible repeat (first | apply Kd.V_alloc | apply Kd.V_drewN | apply Kd.V_drew)); exact HO111.out⟩, ⟨by repeat (first | (with_reducible first | exact HB.out | apply below_alloc | apply pw_below_drewN | apply below_drew1) | exact HB.out)⟩⟩
            · replace c17 := Bool.eq_false_iff.mpr c17
              subst c17
              have H1 : (laws_FnTextThere.j0 k t102 t105 t106 t109 t112 true) = some r := by rw [if_neg (show ¬ (false = true) by decide)] at H; exact H
              clear H
              have H := H1
              clear H1
              have H' := Aside0.mk H
              clear H
              obtain ⟨Ao36, co36, eo36⟩ := Kd.V_slice HO111.out
              subst eo36
              obtain ⟨Ao37, co37, eo37⟩ := Kd.R_slice HO108.out
              subst eo37
              go_wp2_with (first | (go_at_call 29; (with_reducible refine (laws_lzMap.calls k _ _ t109 _ _ t105 true _ ?side1 ?side2 ?side3 ?side4 A12.out).mono ?_); (case side1 => repeat (first | exact (Kd.V_reads' HO111.out).2.2 | (with_reducible refine Kd.C_alloc ?_ _) | (with_reducible refine Kd.C_drewN ?_ _) | (with_reducible refine Kd.C_drew ?_))); (case side2 => exact (Kd.V_reads' HO111.out).2.1); (case side3 => repeat (first | exact (Kd.R_reads' HO108.out).2.2 | (with_reducible refine Kd.C_alloc ?_ _) | (with_reducible refine Kd.C_drewN ?_ _) | (with_reducible refine Kd.C_drew ?_))); (case side4 => exact (Kd.R_reads' HO108.out).2.1); rintro e w' ⟨rfl, ⟨nd, rfl⟩⟩) | (go_at_call 30; (with_reducible refine (spec_MapOk.calls _ _ t101 true _ ?side1 ?side2 A14.out).mono ?_); (case side1 => repeat (first | exact (Kd.Q_reads' HO104.out).2.2 | (with_reducible refine Kd.C_alloc ?_ _) | (with_reducible refine Kd.C_drewN ?_ _) | (with_reducible refine Kd.C_drew ?_))); (case side2 => exact (Kd.Q_reads' HO104.out).2.1); rintro e w38 ⟨rfl, hb⟩; have n0_ := Aside0.mk (Kd.Q_below (by (with_reducible repeat (first | apply Kd.Q_alloc | apply Kd.Q_drewN | apply Kd.Q_drew)); exact HO104.out) hb); have n1_ := Aside0.mk (Kd.R_below (by (with_reducible repeat (first | apply Kd.R_alloc | apply Kd.R_drewN | apply Kd.R_drew)); exact HO108.out) hb); have n2_ := Aside0.mk (Kd.V_below (by (with_reducible repeat (first | apply Kd.V_alloc | apply Kd.V_drewN | apply Kd.V_drew)); exact HO111.out) hb); have n3_ := Aside0.mk (below_step (by repeat (first | (with_reducible first | exact HB.out | apply below_alloc | apply pw_below_drewN | apply below_drew1) | exact HB.out)) hb); clear HO104; clear HO108; clear HO111; clear HB; have HO104 := n0_; have HO108 := n1_; have HO111 := n2_; have HB := n3_; clear n0_ n1_ n2_ n3_; (try clear hb); (try clear hb2); (try clear hk); (try clear hi)) | (go_at_call 31; (with_reducible refine (spec_TextOk.calls t102 false _ A16.out).mono ?_); rintro e w39 ⟨rfl, hb⟩; have n0_ := Aside0.mk (Kd.Q_below (by (with_reducible repeat (first | apply Kd.Q_alloc | apply Kd.Q_drewN | apply Kd.Q_drew)); exact HO104.out) hb); have n1_ := Aside0.mk (Kd.R_below (by (with_reducible repeat (first | apply Kd.R_alloc | apply Kd.R_drewN | apply Kd.R_drew)); exact HO108.out) hb); have n2_ := Aside0.mk (Kd.V_below (by (with_reducible repeat (first | apply Kd.V_alloc | apply Kd.V_drewN | apply Kd.V_drew)); exact HO111.out) hb); have n3_ := Aside0.mk (below_step (by repeat (first | (with_reducible first | exact HB.out | apply below_alloc | apply pw_below_drewN | apply below_drew1) | exact HB.out)) hb); clear HO104; clear HO108; clear HO111; clear HB; have HO104 := n0_; have HO108 := n1_; have HO111 := n2_; have HB := n3_; clear n0_ n1_ n2_ n3_; (try clear hb); (try clear hb2); (try clear hk); (try clear hi)))
              go_meet
              case rel => exact ⟨_, (true), (by first | rfl | (simp; done) | (simp [*]; done)), H', ⟨by first | omega | exact Nat.le_refl _⟩, ⟨by (with_reducible repeat (first | apply Kd.R_alloc | apply Kd.R_drewN | apply Kd.R_drew)); exact Kd.R_mono HO108.out (fun _ hk => trivial)⟩, ⟨by (with_reducible repeat (first | apply Kd.V_alloc | apply Kd.V_drewN | apply Kd.V_drew)); exact HO111.out⟩, ⟨by repeat (first | (with_reducible first | exact HB.out | apply below_alloc | apply pw_below_drewN | apply below_drew1) | exact HB.out)⟩⟩
          · replace c15 := Bool.eq_false_iff.mpr c15
            subst c15
            have H1 : (laws_FnTextThere.j0 k t102 t105 t106 t109 t112 true) = some r := by rw [if_neg (show ¬ (false = true) by decide)] at H; exact H
            clear H
            have H := H1
            clear H1
            have H' := Aside0.mk H
            clear H
            obtain ⟨Ao40, co40, eo40⟩ := Kd.V_slice HO111.out
            subst eo40
            obtain ⟨Ao41, co41, eo41⟩ := Kd.R_slice HO108.out
            subst eo41
            go_wp2_with (first | (go_at_call 29; (with_reducible refine (laws_lzMap.calls k _ _ t109 _ _ t105 true _ ?side1 ?side2 ?side3 ?side4 A12.out).mono ?_); (case side1 => repeat (first | exact (Kd.V_reads' HO111.out).2.2 | (with_reducible refine Kd.C_alloc ?_ _) | (with_reducible refine Kd.C_drewN ?_ _) | (with_reducible refine Kd.C_drew ?_))); (case side2 => exact (Kd.V_reads' HO111.out).2.1); (case side3 => repeat (first | exact (Kd.R_reads' HO108.out).2.2 | (with_reducible refine Kd.C_alloc ?_ _) | (with_reducible refine Kd.C_drewN ?_ _) | (with_reducible refine Kd.C_drew ?_))); (case side4 => exact (Kd.R_reads' HO108.out).2.1); rintro e w' ⟨rfl, ⟨nd, rfl⟩⟩) | (go_at_call 30; (with_reducible refine (spec_MapOk.calls _ _ t101 false _ ?side1 ?side2 A14.out).mono ?_); (case side1 => repeat (first | exact (Kd.Q_reads' HO104.out).2.2 | (with_reducible refine Kd.C_alloc ?_ _) | (with_reducible refine Kd.C_drewN ?_ _) | (with_reducible refine Kd.C_drew ?_))); (case side2 => exact (Kd.Q_reads' HO104.out).2.1); rintro e w42 ⟨rfl, hb⟩; have n0_ := Aside0.mk (Kd.Q_below (by (with_reducible repeat (first | apply Kd.Q_alloc | apply Kd.Q_drewN | apply Kd.Q_drew)); exact HO104.out) hb); have n1_ := Aside0.mk (Kd.R_below (by (with_reducible repeat (first | apply Kd.R_alloc | apply Kd.R_drewN | apply Kd.R_drew)); exact HO108.out) hb); have n2_ := Aside0.mk (Kd.V_below (by (with_reducible repeat (first | apply Kd.V_alloc | apply Kd.V_drewN | apply Kd.V_drew)); exact HO111.out) hb); have n3_ := Aside0.mk (below_step (by repeat (first | (with_reducible first | exact HB.out | apply below_alloc | apply pw_below_drewN | apply below_drew1) | exact HB.out)) hb); clear HO104; clear HO108; clear HO111; clear HB; have HO104 := n0_; have HO108 := n1_; have HO111 := n2_; have HB := n3_; clear n0_ n1_ n2_ n3_; (try clear hb); (try clear hb2); (try clear hk); (try clear hi)))
            go_meet
            case rel => exact ⟨_, (true), (by first | rfl | (simp; done) | (simp [*]; done)), H', ⟨by first | omega | exact Nat.le_refl _⟩, ⟨by (with_reducible repeat (first | apply Kd.R_alloc | apply Kd.R_drewN | apply Kd.R_drew)); exact Kd.R_mono HO108.out (fun _ hk => trivial)⟩, ⟨by (with_reducible repeat (first | apply Kd.V_alloc | apply Kd.V_drewN | apply Kd.V_drew)); exact HO111.out⟩, ⟨by repeat (first | (with_reducible first | exact HB.out | apply below_alloc | apply pw_below_drewN | apply below_drew1) | exact HB.out)⟩⟩
        · replace c13 := Bool.eq_false_iff.mpr c13
          subst c13
          have H1 : (laws_FnTextThere.j0 k t102 t105 t106 t109 t112 true) = some r := by rw [if_neg (show ¬ (false = true) by decide)] at H; exact H
          clear H
          have H := H1
          clear H1
          have H' := Aside0.mk H
          clear H
          obtain ⟨Ao43, co43, eo43⟩ := Kd.V_slice HO111.out
          subst eo43
          obtain ⟨Ao44, co44, eo44⟩ := Kd.R_slice HO108.out
          subst eo44
          go_wp2_with (first | (go_at_call 29; (with_reducible refine (laws_lzMap.calls k _ _ t109 _ _ t105 false _ ?side1 ?side2 ?side3 ?side4 A12.out).mono ?_); (case side1 => repeat (first | exact (Kd.V_reads' HO111.out).2.2 | (with_reducible refine Kd.C_alloc ?_ _) | (with_reducible refine Kd.C_drewN ?_ _) | (with_reducible refine Kd.C_drew ?_))); (case side2 => exact (Kd.V_reads' HO111.out).2.1); (case side3 => repeat (first | exact (Kd.R_reads' HO108.out).2.2 | (with_reducible refine Kd.C_alloc ?_ _) | (with_reducible refine Kd.C_drewN ?_ _) | (with_reducible refine Kd.C_drew ?_))); (case side4 => exact (Kd.R_reads' HO108.out).2.1); rintro e w' ⟨rfl, ⟨nd, rfl⟩⟩))
          go_meet
          case rel => exact ⟨_, (true), (by first | rfl | (simp; done) | (simp [*]; done)), H', ⟨by first | omega | exact Nat.le_refl _⟩, ⟨by (with_reducible repeat (first | apply Kd.R_alloc | apply Kd.R_drewN | apply Kd.R_drew)); exact Kd.R_mono HO108.out (fun _ hk => trivial)⟩, ⟨by (with_reducible repeat (first | apply Kd.V_alloc | apply Kd.V_drewN | apply Kd.V_drew)); exact HO111.out⟩, ⟨by repeat (first | (with_reducible first | exact HB.out | apply below_alloc | apply pw_below_drewN | apply below_drew1) | exact HB.out)⟩⟩
      · rw [if_neg c11] at H
        have c11b0 : (t112.toList == t106.toList) = false := beq_eq_false_iff_ne.mpr c11
        have c11b1 : (t112.toList != t106.toList) = true := bne_iff_ne.mpr c11
        (first | rw [c11b0] | (simp only [i64_w, i32_w]; rw [c11b0]) | skip)
        have H' := Aside0.mk H
        clear H
        go_wp2
        go_meet
        case rel => exact ⟨_, (true), (by first | rfl | (simp; done) | (simp [*]; done)), H', ⟨by first | omega | exact Nat.le_refl _⟩, ⟨by (with_reducible repeat (first | apply Kd.R_alloc | apply Kd.R_drewN | apply Kd.R_drew)); exact Kd.R_mono HO108.out (fun _ hk => trivial)⟩, ⟨by (with_reducible repeat (first | apply Kd.V_alloc | apply Kd.V_drewN | apply Kd.V_drew)); exact HO111.out⟩, ⟨by repeat (first | (with_reducible first | exact HB.out | apply below_alloc | apply pw_below_drewN | apply below_drew1) | exact HB.out)⟩⟩
    case rest =>
      clear HC6
      try clear c1
      try clear c2
      try clear c2b0
      try clear c2b1
      try clear p2
      try clear c11
      try clear c11b0
      try clear c11b1
      try clear c13
      try clear c15
      try clear c17
      try clear c19
      try clear c20
      try clear c20b0
      try clear c20b1
      try clear c24
      try clear c25
      try clear c28
      obtain ⟨kq, x62_5, rfl, HA, HJ5, HO_5, HO_7, HB⟩ := hcut
      cases kq with
      | zero => exact absurd HA.out (by simp [laws_FnTextThere.j0])
      | succ kj5 =>
        have H := HA.out
        clear HA
        simp only [laws_FnTextThere.j0] at H
        by_cases c45 : x62_5 = true
        · subst c45
          have H1 : (if t112.toList = t106.toList then ((laws_lzMap.f kj5 t109 t105).bind fun t117 => (some t117)) else (some false)) = some r := by rw [if_pos rfl] at H; exact H
          clear H
          have H := H1
          clear H1
          by_cases c46 : t112.toList = t106.toList
          · rw [if_pos c46] at H
            have c46b0 : (t112.toList == t106.toList) = true := beq_iff_eq.mpr c46
            have c46b1 : (t112.toList != t106.toList) = false := bne_eq_false_iff_eq.mpr c46
            clear c46
            replace H := Option.bind_eq_some_iff.mp H
            obtain ⟨t117, A470, H⟩ := H
            replace H : (some t117) = some r := H
            have A47 := Aside0.mk A470
            clear A470
            obtain rfl := Option.some.inj H
            obtain ⟨Ao48, co48, eo48⟩ := Kd.V_slice HO_7.out
            subst eo48
            obtain ⟨Ao49, co49, eo49⟩ := Kd.R_slice HO_5.out
            subst eo49
            go_wp2_with (first | (go_at_call 29; (with_reducible refine (laws_lzMap.calls kj5 _ _ t109 _ _ t105 t117 _ ?side1 ?side2 ?side3 ?side4 A47.out).mono ?_); (case side1 => repeat (first | exact (Kd.V_reads' HO_7.out).2.2 | (with_reducible refine Kd.C_alloc ?_ _) | (with_reducible refine Kd.C_drewN ?_ _) | (with_reducible refine Kd.C_drew ?_))); (case side2 => exact (Kd.V_reads' HO_7.out).2.1); (case side3 => repeat (first | exact (Kd.R_reads' HO_5.out).2.2 | (with_reducible refine Kd.C_alloc ?_ _) | (with_reducible refine Kd.C_drewN ?_ _) | (with_reducible refine Kd.C_drew ?_))); (case side4 => exact (Kd.R_reads' HO_5.out).2.1); rintro e w' ⟨rfl, ⟨nd, rfl⟩⟩))
            go_ret
            exact ⟨by first | rfl | (simp [errW_none, errW_some] <;> rfl) | (simp [*, errW_none, errW_some] <;> rfl), by repeat (first | (with_reducible first | exact HB.out | apply below_alloc | apply pw_below_drewN | apply below_drew1) | exact HB.out)⟩
          · rw [if_neg c46] at H
            have c46b0 : (t112.toList == t106.toList) = false := beq_eq_false_iff_ne.mpr c46
            have c46b1 : (t112.toList != t106.toList) = true := bne_iff_ne.mpr c46
            obtain rfl := Option.some.inj H
            go_wp2
            go_ret
            exact ⟨by first | rfl | (simp [errW_none, errW_some] <;> rfl) | (simp [*, errW_none, errW_some] <;> rfl), by repeat (first | (with_reducible first | exact HB.out | apply below_alloc | apply pw_below_drewN | apply below_drew1) | exact HB.out)⟩
        · replace c45 := Bool.eq_false_iff.mpr c45
          subst c45
          have H1 : (if t112.size + 1 ≤ 9223372036854775807 then ((impl_MapTextIn.f kj5 t109 (t112 ++ (⟨#[122]⟩ : ByteArray))).bind fun t118 => ((impl_TextHeld.f t102).bind fun t119 => (if 0 ≤ (wrap64 ((t102.size : Int) - t119)) then (if (wrap64 ((t102.size : Int) - t119)) ≤ (t102.size : Int) then (if (t102.extract 0 ((wrap64 ((t102.size : Int) - t119)) : Int).toNat).size + 1 ≤ 9223372036854775807 then (some (t118.toList == ((t102.extract 0 ((wrap64 ((t102.size : Int) - t119)) : Int).toNat) ++ (⟨#[122]⟩ : ByteArray)).toList)) else (none)) else (none)) else (none)))) else (none)) = some r := by rw [if_neg (show ¬ (false = true) by decide)] at H; exact H
          clear H
          have H := H1
          clear H1
          by_cases c50 : t112.size + 1 ≤ 9223372036854775807
          · rw [if_pos c50] at H
            have c50b0 := eq_true c50
            have c50b1 : decide (t112.size + 1 ≤ 9223372036854775807) = true := decide_eq_true c50
            try have c50b2 : (9223372036854775807 < t112.size + 1) = False := eq_false (Nat.not_lt.2 c50)
            replace H := Option.bind_eq_some_iff.mp H
            obtain ⟨t118, A510, H⟩ := H
            replace H : ((impl_TextHeld.f t102).bind fun t119 => (if 0 ≤ (wrap64 ((t102.size : Int) - t119)) then (if (wrap64 ((t102.size : Int) - t119)) ≤ (t102.size : Int) then (if (t102.extract 0 ((wrap64 ((t102.size : Int) - t119)) : Int).toNat).size + 1 ≤ 9223372036854775807 then (some (t118.toList == ((t102.extract 0 ((wrap64 ((t102.size : Int) - t119)) : Int).toNat) ++ (⟨#[122]⟩ : ByteArray)).toList)) else (none)) else (none)) else (none))) = some r := H
            have A51 := Aside0.mk A510
            clear A510
            replace H := Option.bind_eq_some_iff.mp H
            obtain ⟨t119, A520, H⟩ := H
            replace H : (if 0 ≤ (wrap64 ((t102.size : Int) - t119)) then (if (wrap64 ((t102.size : Int) - t119)) ≤ (t102.size : Int) then (if (t102.extract 0 ((wrap64 ((t102.size : Int) - t119)) : Int).toNat).size + 1 ≤ 9223372036854775807 then (some (t118.toList == ((t102.extract 0 ((wrap64 ((t102.size : Int) - t119)) : Int).toNat) ++ (⟨#[122]⟩ : ByteArray)).toList)) else (none)) else (none)) else (none)) = some r := H
            have A52 := Aside0.mk A520
            clear A520
            obtain ⟨ji53, hji53⟩ : ∃ j_ : Int, (wrap64 ((t102.size : Int) - t119)) = j_ := ⟨_, rfl⟩
            replace H : (if 0 ≤ (ji53) then (if (ji53) ≤ (t102.size : Int) then (if (t102.extract 0 ((ji53) : Int).toNat).size + 1 ≤ 9223372036854775807 then (some (t118.toList == ((t102.extract 0 ((ji53) : Int).toNat) ++ (⟨#[122]⟩ : ByteArray)).toList)) else (none)) else (none)) else (none)) = some r := by first | (rw [hji53] at H; exact H) | (simp only [hji53] at H ⊢; exact H)
            (try rw [hji53] at A51)
            (try rw [hji53] at A52)
            have hji53w : (IntKind.i64.wrap ((t102.size : Int) - t119)) = ji53 := (i64_w _).trans hji53
            by_cases c54 : 0 ≤ (ji53)
            · rw [if_pos c54] at H
              have c54b0 := eq_true c54
              have c54b1 : decide (0 ≤ (ji53)) = true := decide_eq_true c54
              clear c54
              by_cases c55 : (ji53) ≤ (t102.size : Int)
              · rw [if_pos c55] at H
                have c55b0 := eq_true c55
                have c55b1 : decide ((ji53) ≤ (t102.size : Int)) = true := decide_eq_true c55
                clear c55
                by_cases c56 : (t102.extract 0 ((ji53) : Int).toNat).size + 1 ≤ 9223372036854775807
                · rw [if_pos c56] at H
                  have c56b0 := eq_true c56
                  have c56b1 : decide ((t102.extract 0 ((ji53) : Int).toNat).size + 1 ≤ 9223372036854775807) = true := decide_eq_true c56
                  try have c56b2 : (9223372036854775807 < (t102.extract 0 ((ji53) : Int).toNat).size + 1) = False := eq_false (Nat.not_lt.2 c56)
                  try have c56b6 : (9223372036854775807 < (ji53).toNat + 1) = False := eq_false (Nat.not_lt.2 (by have h_ := c56; have q_ : (ji53) ≤ (t102.size : Int) := of_decide_eq_true (by assumption); rw [ByteArray.size_extract, Nat.min_eq_left (by omega), Nat.sub_zero] at h_; exact h_))
                  obtain rfl := Option.some.inj H
                  obtain ⟨Ao57, co57, eo57⟩ := Kd.V_slice HO_7.out
                  subst eo57
                  go_wp2_with (first | ((with_reducible refine gate_callee (f := 22) rfl ?_); refine goesL_ (some 74) rfl rfl Tryz.func22 (by kernel_rfl) rfl #[.slice Ao57 t109.length co57, .string (t112 ++ (⟨#[122]⟩ : ByteArray))] rfl (by (try simp only [List.map_toArray, List.map_cons, List.map_nil]); first | done | rfl | (simp only [List.length_drop, List.length_take]; rfl)) ?_; (with_reducible refine (impl_MapTextIn.calls kj5 _ _ t109 (t112 ++ (⟨#[122]⟩ : ByteArray)) t118 _ ?side1 ?side2 ?side3 A51.out).mono ?_); (case side1 => repeat (first | exact (Kd.V_reads' HO_7.out).2.2 | (with_reducible refine Kd.C_alloc ?_ _) | (with_reducible refine Kd.C_drewN ?_ _) | (with_reducible refine Kd.C_drew ?_))); (case side2 => exact (Kd.V_reads' HO_7.out).2.1); (case side3 => exact hV.next (by repeat (first | (with_reducible first | exact HB.out | apply below_alloc | apply pw_below_drewN | apply below_drew1) | exact HB.out))); rintro e w58 ⟨rfl, hb⟩; refine ⟨_, rfl, ?_⟩; have n0_ := Aside0.mk (Kd.R_below (by (with_reducible repeat (first | apply Kd.R_alloc | apply Kd.R_drewN | apply Kd.R_drew)); exact HO_5.out) hb); have n1_ := Aside0.mk (Kd.V_below (by (with_reducible repeat (first | apply Kd.V_alloc | apply Kd.V_drewN | apply Kd.V_drew)); exact HO_7.out) hb); have n2_ := Aside0.mk (below_step (by repeat (first | (with_reducible first | exact HB.out | apply below_alloc | apply pw_below_drewN | apply below_drew1) | exact HB.out)) hb); clear HO_5; clear HO_7; clear HB; have HO_5 := n0_; have HO_7 := n1_; have HB := n2_; clear n0_ n1_ n2_; (try clear hb); (try clear hb2); (try clear hk); (try clear hi)) | ((with_reducible refine gate_callee (f := 17) rfl ?_); refine goesL_ (some 79) rfl rfl Tryz.func17 (by kernel_rfl) rfl #[.string t102] rfl (by (try simp only [List.map_toArray, List.map_cons, List.map_nil]); first | done | rfl | (simp only [List.length_drop, List.length_take]; rfl)) ?_; (with_reducible refine (impl_TextHeld.calls t102 t119 _ A52.out).mono ?_); rintro e w59 ⟨rfl, hb⟩; refine ⟨_, rfl, ?_⟩; have n0_ := Aside0.mk (Kd.R_below (by (with_reducible repeat (first | apply Kd.R_alloc | apply Kd.R_drewN | apply Kd.R_drew)); exact HO_5.out) hb); have n1_ := Aside0.mk (Kd.V_below (by (with_reducible repeat (first | apply Kd.V_alloc | apply Kd.V_drewN | apply Kd.V_drew)); exact HO_7.out) hb); have n2_ := Aside0.mk (below_step (by repeat (first | (with_reducible first | exact HB.out | apply below_alloc | apply pw_below_drewN | apply below_drew1) | exact HB.out)) hb); clear HO_5; clear HO_7; clear HB; have HO_5 := n0_; have HO_7 := n1_; have HB := n2_; clear n0_ n1_ n2_; (try clear hb); (try clear hb2); (try clear hk); (try clear hi)))
                  go_ret
                  exact ⟨by first | rfl | (simp [errW_none, errW_some] <;> rfl) | (simp only [← hji53]; first | rfl | (simp [errW_none, errW_some] <;> rfl)) | (simp [*, errW_none, errW_some] <;> rfl), by repeat (first | (with_reducible first | exact HB.out | apply below_alloc | apply pw_below_drewN | apply below_drew1) | exact HB.out)⟩
                · rw [if_neg c56] at H
                  exact absurd H (by simp)
              · rw [if_neg c55] at H
                exact absurd H (by simp)
            · rw [if_neg c54] at H
              exact absurd H (by simp)
          · rw [if_neg c50] at H
            exact absurd H (by simp)
end
end Go.Proofs.YtijompkonaiagaaGreatDoor.Q
namespace Go.Proofs.YtijompkonaiagaaGreatDoor.Q
open Go.RowKit Go.Proofs.YtijompkonaiagaaGreatDoorW.PrintWords Go.Proofs.YtijompkonaiagaaGreatDoorW.PrintMore Go.Proofs.YtijompkonaiagaaGreatDoor.Z
set_option linter.unusedVariables false
set_option linter.unusedSimpArgs false
theorem impl_TextHeld_is (l : List UInt8) (hl : l.length ≤ 140737488355328) : impl_TextHeld.f (mkB l) = some (if textOk l then (heldN l : Int) else 0) := by
  unfold impl_TextHeld.f impl_TextOk.f impl_held.f
  rw [size_mkB, if_pos hl, bl_of, Option.bind_some]
  cases textOk l
  · rfl
  · rw [if_pos rfl, if_pos hl, Option.bind_some]
    rfl
theorem lzOwn_l0 (es : List En) (hes : es.length ≤ 1000) (n : Nat) : ∀ (k i : Nat), es.length - i ≤ n → n < k → laws_lzOwn.l0 k (es.map enTo) i = some (!(es.drop i).any doorB) := by
  induction n with
  | zero =>
    intro k i hn hk
    obtain ⟨k, rfl⟩ : ∃ m, k = m + 1 := ⟨k - 1, by omega⟩
    simp only [laws_lzOwn.l0]
    rw [if_neg (by rw [List.length_map]; omega), List.drop_of_length_le (by omega)]
    rfl
  | succ n ih =>
    intro k i hn hk
    obtain ⟨k, rfl⟩ : ∃ m, k = m + 1 := ⟨k - 1, by omega⟩
    simp only [laws_lzOwn.l0]
    by_cases hlt : i < es.length
    · obtain ⟨e, he⟩ : ∃ e, es[i]? = some e := ⟨_, List.getElem?_eq_getElem hlt⟩
      have ih1 := ih k (i + 1) (by omega) (by omega)
      have hw3 : wrap64 ((i : Int) + 1) = ((i + 1 : Nat) : Int) := by rw [w64 (by omega)]; omega
      rw [if_pos (by rw [List.length_map]; omega), if_pos (by omega), rd_ends es i e he, hw3, ih1, drop_of he]
      show (some (doorB ⟨e.addr, e.port⟩)).bind _ = _
      rw [Option.bind_some, show (⟨e.addr, e.port⟩ : En) = e from rfl]
      cases hd : doorB e
      · simp [hd]
      · simp [hd]
    · rw [if_neg (by rw [List.length_map]; omega), List.drop_of_length_le (by omega)]
      rfl
theorem lzOwn_is (k : Nat) (hk : 2000 < k) (l : List UInt8) (hl : l.length ≤ 140737488355328) : laws_lzOwn.f k (mkB l) = some (!(names (pieces l)).any doorB) := by
  have h := names_len40 l
  unfold laws_lzOwn.f
  rw [impl_TextNames_to k hk l hl, Option.bind_some]
  have := lzOwn_l0 (names (pieces l)) (by omega) 1000 k 0 (by omega) (by omega)
  rw [List.drop_zero] at this
  exact this
theorem FnTextThere_true (code : List Int) (hc : ∀ b ∈ code, (0 : Int) ≤ b ∧ b ≤ 255) : ∃ k, laws_FnTextThere.f k code = some true := by
  obtain ⟨k, hk⟩ : ∃ k, 300000 < k := ⟨300001, by omega⟩
  refine ⟨k + 1, ?_⟩
  unfold laws_FnTextThere.f
  by_cases hlen : (code.length : Int) > 1048576
  · rw [if_pos hlen]
  · rw [if_neg hlen]
    obtain ⟨m, l, hD, hm, hl⟩ := drawOut_to (k + 1) (by omega) hc
    obtain ⟨x, t, hF⟩ : ∃ x t, mapOutT m l = (x, t) := ⟨_, _, rfl⟩
    have hS := spec_MapTextOut_to (k + 1) (by omega) m (by omega) l (by omega)
    have hI := impl_MapTextOut_to (k + 1) (by omega) m (by omega) l (by omega)
    have hxl := mapOutT_len m l
    rw [hF] at hS hI hxl
    simp only at hS hI hxl
    have hZ := lzMap_same (k + 1) (x.map prTo) (by rw [map_pr]; omega) (by omega)
    have hZ2 := lzMap_same k (x.map prTo) (by rw [map_pr]; omega) (by omega)
    have hO := spec_MapOk_is m (by omega)
    have hX := spec_TextOk_is l (by omega)
    simp only [hD, hS, hI, hZ, hO, hX, Option.bind_some, if_true]
    clear hD hS hI hZ hO hX hlen
    have hj : ∀ b, b = true → laws_FnTextThere.j0 (k + 1) (mkB l) (x.map prTo) (mkB t) (x.map prTo) (mkB t) b = some true := by
      intro b hb
      simp only [laws_FnTextThere.j0, hb, hZ2, Option.bind_some, if_true]
    cases e1 : mapOkB m
    · simp only [Bool.false_eq_true, if_false]
      exact hj _ rfl
    · cases e2 : textOk l
      · simp only [if_true, Bool.false_eq_true, if_false]
        exact hj _ rfl
      · have hW := lzOwn_is (k + 1) (by omega) l (by omega)
        simp only [if_true, map_pr, size_mkB, hW, Option.bind_some]
        cases e3 : (names (pieces l)).any doorB
        · simp only [Bool.not_false, if_true]
          by_cases h7 : (x.length : Int) > 7
          · rw [if_pos h7]
            exact hj _ rfl
          · rw [if_neg h7]
            by_cases ht : (t.length : Int) ≥ 40
            · exact hj _ (decide_eq_true ht)
            · rw [decide_eq_false ht]
              have f1 := text_there e1 e2 hF (by omega) (by
                intro e he
                rw [← Bool.not_eq_true]
                intro hd
                have h9 := List.any_eq_true.2 ⟨e, he, hd⟩
                rw [e3] at h9
                cases h9)
              have hI2 := impl_MapTextIn_to k (by omega) x (by omega) (t ++ [122]) (by rw [List.length_append, List.length_singleton]; omega)
              rw [f1] at hI2
              have e : mkB t ++ (⟨#[122]⟩ : ByteArray) = mkB (t ++ [122]) := bytes_append _ _
              have q1 : t.length + 1 ≤ 9223372036854775807 := by omega
              have hh := heldN_le l
              have hH := impl_TextHeld_is l (by omega)
              rw [e2, if_pos rfl] at hH
              have hw : wrap64 ((l.length : Int) - (heldN l : Int)) = ((l.length - heldN l : Nat) : Int) := by rw [w64 (by omega)]; omega
              have q2 : (0 : Int) ≤ ((l.length - heldN l : Nat) : Int) := by omega
              have q3 : ((l.length - heldN l : Nat) : Int) ≤ (l.length : Int) := by omega
              have e5 : (mkB l).extract 0 (l.length - heldN l) = mkB (body l) := by rw [ext0]; rfl
              have q4 : (body l).length + 1 ≤ 9223372036854775807 := by have := body_len l; omega
              have e6 : mkB (body l) ++ (⟨#[122]⟩ : ByteArray) = mkB (body l ++ [122]) := bytes_append _ _
              simp only [laws_FnTextThere.j0, Bool.false_eq_true, if_false, e, hI2, hH, Option.bind_some, size_mkB, q1, hw, q2, q3, if_true, Int.toNat_natCast, e5, q4, e6, beq_self_eq_true]
        · simp only [Bool.not_true, Bool.false_eq_true, if_false]
          exact hj _ rfl
end Go.Proofs.YtijompkonaiagaaGreatDoor.Q
namespace Go.Proofs.YtijompkonaiagaaGreatDoor.fnTextThere
open Go.ChangeShapes Go.WideShapes Go.ChangeAt Go.RowKit Go.Proofs.YtijompkonaiagaaGreatDoorW.PrintWords
open Go.ChangeMaps (open_string shut_string)
set_option linter.unusedVariables false
theorem own : ownKnob Tryz.prog.godebug = none := by kernel_rfl
theorem laidOut : laidOutB Tryz.prog = true := by kernel_rfl
set_option maxRecDepth 100000 in
theorem lifted (os : Os) (started : os.Started) (H : Type) (enc : TypeId × Value → H) :
    ReturnsInHanded {} Tryz.checked os 13 .any (fun w args => (Rows.fnTextThereSpec.pre enc Tryz.prog Tryz.f13 Rows.fnTextThereRow.domain false w args ∧ laidMetH Tryz.prog Z.laidL w) ∧ sizedMet enc Tryz.prog Tryz.f13 (OpenSpec.ofChange Rows.fnTextThereSpec) false w args)
      (Rows.fnTextThereSpec.post enc Tryz.prog Tryz.f13 false true false false) := by
  refine Z.wrap_laid (C := Tryz.checked) (X := fun w _ => laidMetH Tryz.prog Z.laidL w) (fun _ _ _ hh h => h.of_heap hh) own started (by kernel_rfl) Tryz.func13
    (ChangeSpec.witness_shaped (enc := enc) (C := Tryz.checked) (os := os) (X := fun w _ => laidMetH Tryz.prog Z.laidL w) false (World.laidAll Tryz.prog os Z.laidL) #[.slice none 0 0] 8 (World.laidAll_os _ _ _)
      (World.shaped_of_ZipB (by kernel_rfl) (by kernel_rfl)) (by kernel_rfl) (by kernel_rfl) (by kernel_rfl) (Z.laid_met os _)) ?_
  intro W base args ds gs before hval0 hW hL hsh
  have hvars := Z.vars_of hL hsh
  have hval : ∀ (j : Nat) t v, Tryz.f13.params[j]? = some t → args[j]? = some v → Value.okWide Tryz.prog W .any base t v := hval0
  have hW' := hW
  obtain ⟨p, q, hA0, hV, rfl, hfz, hnd⟩ := hW
  have hA : DataW.TrodAll enc Tryz.prog W 0 (fun _ => true) true Tryz.f13.params.toList args.toList ds p := hA0
  rw [Tryz.params13] at hA hval
  obtain ⟨v0, vs0, d0, ds0, p0, q0, hargs, rfl, rfl, h0, r0⟩ := trodAll_cons hA
  obtain ⟨rfl, rfl, rfl⟩ := trodAll_nil r0
  obtain rfl : args = #[v0] := by cases args; simp_all
  obtain ⟨rfl, rfl⟩ := trodVars_none hV
  obtain ⟨a0, len0, cap0, rfl⟩ := okWide_slice Tryz.underlying22 (hval 0 22 v0 rfl rfl)
  have k0 := h0
  have lt0 : ∀ x ∈ p0, x.block < W.heap.size := by obtain ⟨m, hm⟩ := k0; exact DataW.trod_lt m _ _ _ hm
  obtain ⟨fuel0, hf0⟩ := h0
  obtain ⟨xs0, ⟨A0, c0, hcs0, hl0, hC0⟩, hg0⟩ := Z.openBytes.2 _ _ _ _ _ _ _ _ _ hf0
  simp [Value.cells] at hcs0
  obtain ⟨rfl, rfl, rfl⟩ := hcs0
  clear hA0 hval0
  obtain ⟨k, hk⟩ := Q.FnTextThere_true xs0 (Z.bytes_le hg0)
  refine (Q.laws_FnTextThere.calls k a0 cap0 xs0 true W hC0 hl0 hvars hk).mono ?_
  rintro e W' ⟨rfl, bel⟩
  exact ⟨_, rfl, _, _, _, [], _, [], hW', trodAll_mk1 (shut_bool Tryz.underlying4 _), (trodAll_cons_mk (Below.trod laidOut (by kernel_rfl) (of_decide_eq_true (by kernel_rfl)) k0 bel lt0) trodAll_mk0), rfl, bel.frame _, fun h => by cases h⟩
theorem over : Rows.fnTextThereRow.holds Tryz.pinned (OpenSpec.ofChange Rows.fnTextThereSpec) :=
  OpenClaim.holds_of_wide 13 Tryz.f13 rfl rfl rfl rfl rfl rfl rfl ⟨rfl, rfl, rfl, rfl, rfl⟩ rfl rfl rfl rfl rfl (by kernel_rfl) Tryz.func13 (by kernel_rfl)
    (of_decide_eq_true (by kernel_rfl)) (by unfold Func.isWrapper; first | (rw [if_pos (by decide +kernel)]; kernel_rfl) | (rw [if_neg (by decide +kernel)]; exact ⟨rfl, rfl⟩))
    (fun os started H enc _ => lifted os started H enc)
end Go.Proofs.YtijompkonaiagaaGreatDoor.fnTextThere
namespace Go.Proofs.YtijompkonaiagaaGreatDoor
theorem fnTextThere_card : Rows.FnTextThereCardSaid :=
  Claim7.holds_tied_plain_at .later [] Rows.fnTextThereCard.laidKinds true Rows.fnTextThereCard.stood.harness true
    fnTextThere.over (fun _ h => by cases h) (by kernel_rfl) (fun _ h => by cases h) fnTextThere_row_tie rfl ⟨rfl, rfl⟩ (by kernel_rfl) rfl
    (fun f fn hf hfn => by
      obtain rfl : f = 13 := Option.some.inj ((show Tryz.prog.funcNamed Rows.fnTextThereRow.func = some 13 by kernel_rfl).symm.trans hf) |>.symm
      obtain rfl : fn = Tryz.f13 := (Option.some.inj (Tryz.func13.symm.trans hfn)).symm
      exact ⟨by kernel_rfl, fun j t ht => by
        rw [Tryz.params13] at ht
        have hm : t ∈ [22] := by simpa using Array.mem_of_getElem? ht
        have hall : ([22].all fun u => !Tryz.prog.wantsStandIn u) = true := by kernel_rfl
        exact (show Tryz.prog.wantsStandIn t = false by simpa using List.all_eq_true.1 hall t hm)⟩)
    (by kernel_rfl)
#print axioms fnTextThere_card
end Go.Proofs.YtijompkonaiagaaGreatDoor
