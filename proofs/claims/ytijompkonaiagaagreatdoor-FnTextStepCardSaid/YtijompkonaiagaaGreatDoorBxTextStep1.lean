/- The law FnTextStep, plainly: its Lean function answers true at every code. For every two codes FnTextStep returns true and leaves its arguments as they were: a text goes out piece by piece. -/
import Derived.Test.YtijompkonaiagaaGreatDoorBb2
import Derived.Test.YtijompkonaiagaaGreatDoorBb4
import Derived.Test.YtijompkonaiagaaGreatDoorBb5
import Derived.Test.YtijompkonaiagaaGreatDoorRows
import Derived.Test.YtijompkonaiagaaGreatDoorTie
import Derived.Test.YtijompkonaiagaaGreatDoorCards
import Derived.SevenTiedAt
import Derived.WalkKit
import Derived.ProofKit
import Derived.OpenShut
import Derived.ShutString
import Derived.ChangeOld
import Derived.Below
import Derived.SizedLaws
namespace Go.Proofs.YtijompkonaiagaaGreatDoor.Q
open Go.RowKit Go.Proofs.YtijompkonaiagaaGreatDoorW.PrintWords Go.Proofs.YtijompkonaiagaaGreatDoorW.PrintLast Go.Proofs.YtijompkonaiagaaGreatDoorW.PrintMore
attribute [local go_sem] max2_int min2_int max_two min_two max_three min_three max_four min_four
set_option linter.unusedVariables false
set_option linter.unusedSimpArgs false
noncomputable section
def laws_lzSize.l0 : Nat → List (S67) → Int → Int → Option (Int)
  | 0, _, _, _ => none
  | k + 1, x0, x3, x4 => if x4 < (x0.length : Int) then (if 0 ≤ x4 then (laws_lzSize.l0 k x0 (wrap64 (x3 + ((rd_T67 x0 x4).f0))) (wrap64 (x4 + 1))) else (none)) else (some x3)
def laws_lzSize.f (k : Nat) (l0 : List (S67)) : Option (Int) := laws_lzSize.l0 k l0 0 0
set_option maxHeartbeats 8000000 in
set_option maxRecDepth 100000 in
theorem laws_lzSize.calls (k : Nat) (A0 : Option Addr) (c0 : Nat) (l0 : List (S67)) (r : Int) (w : World) (hr0 : Kd.C k67 w A0 l0.length l0) (hc0 : l0.length ≤ c0) (h : laws_lzSize.f k l0 = some r) :
    Calls Tryz.prog 40 #[.slice A0 l0.length c0] w fun e w' => e = .returned (.int .i64 r) ∧ Drawn0 w w' := by
  have HR0 := Aside0.mk hr0
  have HC0 := Aside0.mk hc0
  clear hr0 hc0
  have H : (laws_lzSize.l0 k l0 0 0) = some r := h
  clear h
  have H' := Aside0.mk H
  clear H
  go_enter Tryz.func40, Tryz.ntmps40
  go_wp2
  go_loopg [3, 4] k (fun kq v3 v4 w' => ∃ (x3_1 : Int) (x4_1 : Int), v3 = .int .i64 x3_1 ∧ v4 = .int .i64 x4_1 ∧ Aside0 (laws_lzSize.l0 kq l0 x3_1 x4_1 = some r) ∧ Aside0 (kq ≤ k) ∧ Drawn0 w w')
  case atStart => exact ⟨(0), (0), (by first | rfl | (simp; done) | (simp [*]; done)), (by first | rfl | (simp; done) | (simp [*]; done)), H', ⟨Nat.le_refl _⟩, by repeat (first | exact Drawn0.refl _ | apply Drawn0.step)⟩
  case round =>
    clear H'
    obtain ⟨x3_1, x4_1, rfl, rfl, HA, HK1, ⟨m1, rfl⟩⟩ := hrel
    cases gk with
    | zero => exact absurd HA.out (by simp [laws_lzSize.l0])
    | succ k1 =>
      have H := HA.out
      clear HA
      simp only [laws_lzSize.l0] at H
      by_cases c2 : x4_1 < (l0.length : Int)
      · rw [if_pos c2] at H
        have c2b0 : decide (x4_1 < (l0.length : Int)) = true := decide_eq_true c2
        clear c2
        by_cases c3 : 0 ≤ x4_1
        · rw [if_pos c3] at H
          have c3b0 : decide (0 ≤ x4_1) = true := decide_eq_true c3
          clear c3
          have H' := Aside0.mk H
          clear H
          have p101 : 0 ≤ (x4_1 : Int) := of_decide_eq_true (by first | (with_reducible assumption) | assumption)
          have q101 : x4_1 < (l0.length : Int) := of_decide_eq_true (by first | (with_reducible assumption) | assumption)
          obtain ⟨ad101, e101, hx101_0, hx101_1, hx101_2, hx101_3⟩ := at_T67 HR0.out x4_1 p101 q101
          cases e101
          replace p101 := eq_true p101
          replace q101 := eq_true q101
          go_wp2
          go_roundg k1
          case measure => have := HK1.out; omega
          case rel => exact ⟨(wrap64 (x3_1 + ((rd_T67 l0 x4_1).f0))), (wrap64 (x4_1 + 1)), (by first | rfl | (simp; done) | (simp [*]; done)), (by first | rfl | (simp; done) | (simp [*]; done)), H', ⟨by have := HK1.out; omega⟩, by repeat (first | exact Drawn0.refl _ | apply Drawn0.step)⟩
        · rw [if_neg c3] at H
          exact absurd H (by simp)
      · rw [if_neg c2] at H
        have c2b0 : decide (x4_1 < (l0.length : Int)) = false := decide_eq_false c2
        clear c2
        obtain rfl := Option.some.inj H
        go_wp2
        go_ret
        exact ⟨by first | rfl | (simp; done) | (simp [*]; done), by repeat (first | exact Drawn0.refl _ | apply Drawn0.step)⟩
end
end Go.Proofs.YtijompkonaiagaaGreatDoor.Q
namespace Go.Proofs.YtijompkonaiagaaGreatDoor.Q
open Go.RowKit Go.Proofs.YtijompkonaiagaaGreatDoorW.PrintWords Go.Proofs.YtijompkonaiagaaGreatDoorW.PrintLast Go.Proofs.YtijompkonaiagaaGreatDoorW.PrintMore Go.Proofs.YtijompkonaiagaaGreatDoor.Z
attribute [local go_sem] max2_int min2_int max_two min_two max_three min_three max_four min_four
set_option linter.unusedVariables false
set_option linter.unusedSimpArgs false
noncomputable section
mutual
def laws_FnTextStep.j0 : Nat → List Int → List Int → Bool → Option (Bool)
  | 0, _, _, _ => none
  | k + 1, x0, x1, x24 => if x24 = true then (some true) else ((spec_DrawMapTextOut.f k x0).bind fun bt101 => ((spec_MapTextOut.f k bt101.1 bt101.2).bind fun bt105 => ((impl_MapTextOut.f k bt101.1 bt101.2).bind fun bt109 => (if bt109.2.toList = bt105.2.toList then ((laws_lzMap.f k bt109.1 bt105.1).bind fun t113 => (if t113 = true then ((spec_MapOk.f bt101.1).bind fun t114 => (if t114 = true then ((spec_TextOk.f bt101.2).bind fun t115 => (laws_FnTextStep.j1 k x1 bt101.1 bt101.2 bt105.1 bt105.2 bt109.1 bt109.2 (!t115))) else (laws_FnTextStep.j1 k x1 bt101.1 bt101.2 bt105.1 bt105.2 bt109.1 bt109.2 true))) else (laws_FnTextStep.j1 k x1 bt101.1 bt101.2 bt105.1 bt105.2 bt109.1 bt109.2 true))) else (laws_FnTextStep.j1 k x1 bt101.1 bt101.2 bt105.1 bt105.2 bt109.1 bt109.2 true)))))
def laws_FnTextStep.j1 : Nat → List Int → List (S69) → ByteArray → List (S69) → ByteArray → List (S69) → ByteArray → Bool → Option (Bool)
  | 0, _, _, _, _, _, _, _, _ => none
  | k + 1, x1, x5, x6, x7, x8, x9, x10, x60 => if x60 = true then (if x10.toList = x8.toList then ((laws_lzMap.f k x9 x7).bind fun t116 => (some t116)) else (some false)) else ((impl_TextPieces.f k x6).bind fun t117 => (if (wrap64 ((t117.length : Int) + 1)) = 0 then (none) else (if 0 ≤ ((x1.length : Int) % (wrap64 ((t117.length : Int) + 1))) then (if ((x1.length : Int) % (wrap64 ((t117.length : Int) + 1))) ≤ (t117.length : Int) then ((laws_lzSize.f k (t117.take (((x1.length : Int) % (wrap64 ((t117.length : Int) + 1))) : Int).toNat)).bind fun t125 => (if 0 ≤ t125 then (if t125 ≤ (x6.size : Int) then ((impl_MapTextOut.f k x5 (x6.extract 0 (t125 : Int).toNat)).bind fun bt126 => ((impl_MapTextOut.f k bt126.1 (x6.extract (t125 : Int).toNat x6.size)).bind fun bt130 => ((impl_TextHeld.f (x6.extract 0 (t125 : Int).toNat)).bind fun t134 => (if t134 > 0 then (if (bt126.2.size : Int) ≤ (x10.size : Int) then (if 0 ≤ (bt126.2.size : Int) then (some ((x10.extract 0 ((bt126.2.size : Int) : Int).toNat).toList == bt126.2.toList)) else (none)) else (some false)) else (if bt126.2.size + bt130.2.size ≤ 9223372036854775807 then (if (bt126.2 ++ bt130.2).toList = x10.toList then ((laws_lzMap.f k bt130.1 x9).bind fun t135 => (some t135)) else (some false)) else (none)))))) else (none)) else (none))) else (none)) else (none))))
end
def laws_FnTextStep.f (k : Nat) (l0 : List Int) (l1 : List Int) : Option (Bool) := if (l0.length : Int) > 1048576 then (laws_FnTextStep.j0 k l0 l1 true) else (laws_FnTextStep.j0 k l0 l1 (decide ((l1.length : Int) > 1048576)))
set_option maxHeartbeats 8000000 in
set_option maxRecDepth 100000 in
theorem laws_FnTextStep.calls (k : Nat) (A0 : Option Addr) (c0 : Nat) (l0 : List Int) (A1 : Option Addr) (c1 : Nat) (l1 : List Int) (r : Bool) (w : World) (hr0 : Kd.C (Kd.int .u8) w A0 l0.length l0) (hc0 : l0.length ≤ c0) (hr1 : Kd.C (Kd.int .u8) w A1 l1.length l1) (hc1 : l1.length ≤ c1) (hV : VarsIn w) (h : laws_FnTextStep.f k l0 l1 = some r) :
    Calls Tryz.prog 11 #[.slice A0 l0.length c0, .slice A1 l1.length c1] w fun e w' => e = .returned (.bool r) ∧ Below w.heap.size w w' := by
  have HR0 := Aside0.mk hr0
  have HC0 := Aside0.mk hc0
  clear hr0 hc0
  have HR1 := Aside0.mk hr1
  have HC1 := Aside0.mk hc1
  clear hr1 hc1
  have HB := Aside0.mk (Below.refl w.heap.size w)
  have H : (if (l0.length : Int) > 1048576 then (laws_FnTextStep.j0 k l0 l1 true) else (laws_FnTextStep.j0 k l0 l1 (decide ((l1.length : Int) > 1048576)))) = some r := h
  clear h
  have HC3 := Aside0.mk H
  clear H
  go_enter Tryz.func11, Tryz.ntmps11
  go_upto_region 1 with (fail)
  go_cut [24] (fun v24 wc => ∃ (kq : Nat) (x24_2 : Bool), v24 = .bool x24_2 ∧ Aside0 (laws_FnTextStep.j0 kq l0 l1 x24_2 = some r) ∧ Aside0 (kq ≤ k) ∧ Aside0 (Below w.heap.size w wc))
  case first =>
    have H := HC3.out
    clear HC3
    by_cases c4 : (l0.length : Int) > 1048576
    · rw [if_pos c4] at H
      have c4b0 : decide (1048576 < (l0.length : Int)) = true := decide_eq_true c4
      have c4b1 : decide (1048576 < l0.length) = true := decide_eq_true (by omega)
      clear c4
      (first | rw [c4b0] | (simp only [i64_w, i32_w]; rw [c4b0]) | skip)
      have H' := Aside0.mk H
      clear H
      go_wp2
      go_meet
      case rel => exact ⟨_, (true), (by first | rfl | (simp; done) | (simp [*]; done)), H', ⟨by first | omega | exact Nat.le_refl _⟩, ⟨by repeat (first | (with_reducible first | exact HB.out | apply below_alloc | apply pw_below_drewN | apply below_drew1) | exact HB.out)⟩⟩
    · rw [if_neg c4] at H
      have c4b0 : decide (1048576 < (l0.length : Int)) = false := decide_eq_false c4
      have c4b1 : decide (1048576 < l0.length) = false := decide_eq_false (by omega)
      clear c4
      (first | rw [c4b0] | (simp only [i64_w, i32_w]; rw [c4b0]) | skip)
      have H' := Aside0.mk H
      clear H
      go_wp2
      go_meet
      case rel => exact ⟨_, (decide ((l1.length : Int) > 1048576)), (by first | rfl | (simp; done) | (simp [*]; done)), H', ⟨by first | omega | exact Nat.le_refl _⟩, ⟨by repeat (first | (with_reducible first | exact HB.out | apply below_alloc | apply pw_below_drewN | apply below_drew1) | exact HB.out)⟩⟩
  case rest =>
    clear HC3
    try clear c1
    try clear p2
    try clear c4
    try clear c4b0
    try clear c4b1
    obtain ⟨kq, x24_2, rfl, HA, HJ2, HB⟩ := hcut
    cases kq with
    | zero => exact absurd HA.out (by simp [laws_FnTextStep.j0])
    | succ kj2 =>
      have H := HA.out
      clear HA
      simp only [laws_FnTextStep.j0] at H
      by_cases c5 : x24_2 = true
      · subst c5
        have H1 : (some true) = some r := by rw [if_pos rfl] at H; exact H
        clear H
        have H := H1
        clear H1
        obtain rfl := Option.some.inj H
        go_wp2
        go_ret
        exact ⟨by first | rfl | (simp [errW_none, errW_some] <;> rfl) | (simp [*, errW_none, errW_some] <;> rfl), by repeat (first | (with_reducible first | exact HB.out | apply below_alloc | apply pw_below_drewN | apply below_drew1) | exact HB.out)⟩
      · replace c5 := Bool.eq_false_iff.mpr c5
        subst c5
        have H1 : ((spec_DrawMapTextOut.f kj2 l0).bind fun bt101 => ((spec_MapTextOut.f kj2 bt101.1 bt101.2).bind fun bt105 => ((impl_MapTextOut.f kj2 bt101.1 bt101.2).bind fun bt109 => (if bt109.2.toList = bt105.2.toList then ((laws_lzMap.f kj2 bt109.1 bt105.1).bind fun t113 => (if t113 = true then ((spec_MapOk.f bt101.1).bind fun t114 => (if t114 = true then ((spec_TextOk.f bt101.2).bind fun t115 => (laws_FnTextStep.j1 kj2 l1 bt101.1 bt101.2 bt105.1 bt105.2 bt109.1 bt109.2 (!t115))) else (laws_FnTextStep.j1 kj2 l1 bt101.1 bt101.2 bt105.1 bt105.2 bt109.1 bt109.2 true))) else (laws_FnTextStep.j1 kj2 l1 bt101.1 bt101.2 bt105.1 bt105.2 bt109.1 bt109.2 true))) else (laws_FnTextStep.j1 kj2 l1 bt101.1 bt101.2 bt105.1 bt105.2 bt109.1 bt109.2 true))))) = some r := by rw [if_neg (show ¬ (false = true) by decide)] at H; exact H
        clear H
        have H := H1
        clear H1
        replace H := Option.bind_eq_some_iff.mp H
        obtain ⟨⟨t101, t102⟩, A60, H⟩ := H
        replace H : ((spec_MapTextOut.f kj2 t101 t102).bind fun bt105 => ((impl_MapTextOut.f kj2 t101 t102).bind fun bt109 => (if bt109.2.toList = bt105.2.toList then ((laws_lzMap.f kj2 bt109.1 bt105.1).bind fun t113 => (if t113 = true then ((spec_MapOk.f t101).bind fun t114 => (if t114 = true then ((spec_TextOk.f t102).bind fun t115 => (laws_FnTextStep.j1 kj2 l1 t101 t102 bt105.1 bt105.2 bt109.1 bt109.2 (!t115))) else (laws_FnTextStep.j1 kj2 l1 t101 t102 bt105.1 bt105.2 bt109.1 bt109.2 true))) else (laws_FnTextStep.j1 kj2 l1 t101 t102 bt105.1 bt105.2 bt109.1 bt109.2 true))) else (laws_FnTextStep.j1 kj2 l1 t101 t102 bt105.1 bt105.2 bt109.1 bt109.2 true)))) = some r := H
        have A6 := Aside0.mk A60
        clear A60
        replace H := Option.bind_eq_some_iff.mp H
        obtain ⟨⟨t105, t106⟩, A70, H⟩ := H
        replace H : ((impl_MapTextOut.f kj2 t101 t102).bind fun bt109 => (if bt109.2.toList = t106.toList then ((laws_lzMap.f kj2 bt109.1 t105).bind fun t113 => (if t113 = true then ((spec_MapOk.f t101).bind fun t114 => (if t114 = true then ((spec_TextOk.f t102).bind fun t115 => (laws_FnTextStep.j1 kj2 l1 t101 t102 t105 t106 bt109.1 bt109.2 (!t115))) else (laws_FnTextStep.j1 kj2 l1 t101 t102 t105 t106 bt109.1 bt109.2 true))) else (laws_FnTextStep.j1 kj2 l1 t101 t102 t105 t106 bt109.1 bt109.2 true))) else (laws_FnTextStep.j1 kj2 l1 t101 t102 t105 t106 bt109.1 bt109.2 true))) = some r := H
        have A7 := Aside0.mk A70
        clear A70
        replace H := Option.bind_eq_some_iff.mp H
        obtain ⟨⟨t109, t112⟩, A80, H⟩ := H
        replace H : (if t112.toList = t106.toList then ((laws_lzMap.f kj2 t109 t105).bind fun t113 => (if t113 = true then ((spec_MapOk.f t101).bind fun t114 => (if t114 = true then ((spec_TextOk.f t102).bind fun t115 => (laws_FnTextStep.j1 kj2 l1 t101 t102 t105 t106 t109 t112 (!t115))) else (laws_FnTextStep.j1 kj2 l1 t101 t102 t105 t106 t109 t112 true))) else (laws_FnTextStep.j1 kj2 l1 t101 t102 t105 t106 t109 t112 true))) else (laws_FnTextStep.j1 kj2 l1 t101 t102 t105 t106 t109 t112 true)) = some r := H
        have A8 := Aside0.mk A80
        clear A80
        have HC9 := Aside0.mk H
        clear H
        go_upto_region 6 with (first | ((with_reducible refine gate_callee (f := 28) rfl ?_); refine goesL_ (some 27) rfl rfl Tryz.func28 (by kernel_rfl) rfl #[.slice A0 l0.length c0] rfl (by (try simp only [List.map_toArray, List.map_cons, List.map_nil]); first | done | rfl | (simp only [List.length_drop, List.length_take]; rfl)) ?_; (with_reducible refine (spec_DrawMapTextOut.calls kj2 _ _ l0 t101 t102 _ ?side1 ?side2 A6.out).mono ?_); (case side1 => repeat (first | exact (Kd.C_below HR0.out HB.out) | (with_reducible refine Kd.C_alloc ?_ _) | (with_reducible refine Kd.C_drewN ?_ _) | (with_reducible refine Kd.C_drew ?_))); (case side2 => exact HC0.out); rintro e w10 ⟨v103, rfl, ho0, hb⟩; refine ⟨_, rfl, ?_⟩; have n0_ := Aside0.mk (Kd.Q_lower ho0 (below_size (by repeat (first | (with_reducible first | exact HB.out | apply below_alloc | apply pw_below_drewN | apply below_drew1) | exact HB.out)))); have n1_ := Aside0.mk (below_step (by repeat (first | (with_reducible first | exact HB.out | apply below_alloc | apply pw_below_drewN | apply below_drew1) | exact HB.out)) hb); clear HB; have HO104 := n0_; have HB := n1_; clear n0_ n1_; (try clear hb); (try clear hb2); (try clear hk); (try clear hi); (try clear ho0); obtain ⟨Ao11, co11, eo11, _⟩ := Kd.Q_slice HO104.out; subst eo11) | ((with_reducible refine gate_callee (f := 24) rfl ?_); refine goesL_ (some 33) rfl rfl Tryz.func24 (by kernel_rfl) rfl #[.slice Ao11 t101.length co11, .string t102] rfl (by (try simp only [List.map_toArray, List.map_cons, List.map_nil]); first | done | rfl | (simp only [List.length_drop, List.length_take]; rfl)) ?_; (with_reducible refine (spec_MapTextOut.calls kj2 _ _ t101 t102 t105 t106 _ ?side1 ?side2 A7.out).mono ?_); (case side1 => repeat (first | exact (Kd.Q_reads' HO104.out).2.2 | (with_reducible refine Kd.C_alloc ?_ _) | (with_reducible refine Kd.C_drewN ?_ _) | (with_reducible refine Kd.C_drew ?_))); (case side2 => exact (Kd.Q_reads' HO104.out).2.1); rintro e w12 ⟨v107, rfl, ho0, hb⟩; refine ⟨_, rfl, ?_⟩; have n0_ := Aside0.mk (Kd.Q_elder' (by (with_reducible repeat (first | apply Kd.Q_alloc | apply Kd.Q_drewN | apply Kd.Q_drew)); exact HO104.out) (Kd.R_base ho0) hb); have n1_ := Aside0.mk (Kd.R_lower (Kd.R_new' ho0 (Kd.Q_lt (by (with_reducible repeat (first | apply Kd.Q_alloc | apply Kd.Q_drewN | apply Kd.Q_drew)); exact HO104.out))) (below_size (by repeat (first | (with_reducible first | exact HB.out | apply below_alloc | apply pw_below_drewN | apply below_drew1) | exact HB.out)))); have n2_ := Aside0.mk (below_step (by repeat (first | (with_reducible first | exact HB.out | apply below_alloc | apply pw_below_drewN | apply below_drew1) | exact HB.out)) hb); clear HO104; clear HB; have HO104 := n0_; have HO108 := n1_; have HB := n2_; clear n0_ n1_ n2_; (try clear hb); (try clear hb2); (try clear hk); (try clear hi); (try clear ho0)) | ((with_reducible refine gate_callee (f := 25) rfl ?_); refine goesL_ (some 39) rfl rfl Tryz.func25 (by kernel_rfl) rfl #[.slice Ao11 t101.length co11, .string t102] rfl (by (try simp only [List.map_toArray, List.map_cons, List.map_nil]); first | done | rfl | (simp only [List.length_drop, List.length_take]; rfl)) ?_; (with_reducible refine (impl_MapTextOut.calls kj2 (fun k_ => some k_ = (.slice Ao11 t101.length co11 : Value).ownBlock) _ _ t101 t102 t109 t112 _ ?side1 ?side2 A8.out).mono ?_); (case side1 => exact Kd.Q_V (Kd.Q_tight rfl (HO104.out))); (case side2 => exact hV.next (by repeat (first | (with_reducible first | exact HB.out | apply below_alloc | apply pw_below_drewN | apply below_drew1) | exact HB.out))); rintro e w13 ⟨v110, rfl, ho0, hb⟩; refine ⟨_, rfl, ?_⟩; have n0_ := Aside0.mk (Kd.Q_below (by (with_reducible repeat (first | apply Kd.Q_alloc | apply Kd.Q_drewN | apply Kd.Q_drew)); exact HO104.out) hb); have n1_ := Aside0.mk (Kd.R_below (by (with_reducible repeat (first | apply Kd.R_alloc | apply Kd.R_drewN | apply Kd.R_drew)); exact HO108.out) hb); have n2_ := Aside0.mk (Kd.V_lower (Kd.V_mono (ok' := fun k_ => some k_ ≠ (v107 : Value).ownBlock) ho0 (fun k_ hk_ => Or.elim hk_ (fun hs_ => ((HO104.out).1 k_ hs_.symm).2) (fun hn_ => (Kd.fresh' (Kd.R_lt (by (with_reducible repeat (first | apply Kd.R_alloc | apply Kd.R_drewN | apply Kd.R_drew)); exact HO108.out)) k_ hn_)))) (below_size (by repeat (first | (with_reducible first | exact HB.out | apply below_alloc | apply pw_below_drewN | apply below_drew1) | exact HB.out)))); have n3_ := Aside0.mk (below_step (by repeat (first | (with_reducible first | exact HB.out | apply below_alloc | apply pw_below_drewN | apply below_drew1) | exact HB.out)) hb); clear HO104; clear HO108; clear HB; have HO104 := n0_; have HO108 := n1_; have HO111 := n2_; have HB := n3_; clear n0_ n1_ n2_ n3_; (try clear hb); (try clear hb2); (try clear hk); (try clear hi); (try clear ho0)))
        (try simp only [Act.put, List.setIfInBounds_toArray, List.set_cons_zero, List.set_cons_succ])
        go_cut [60] (fun v60 wc => ∃ (kq : Nat) (x60_8 : Bool), v60 = .bool x60_8 ∧ Aside0 (laws_FnTextStep.j1 kq l1 t101 t102 t105 t106 t109 t112 x60_8 = some r) ∧ Aside0 (kq ≤ kj2) ∧ Aside0 (Kd.Q k69 69 wc w.heap.size (fun k_ => some k_ ≠ (v107 : Value).ownBlock) (.slice Ao11 t101.length co11) t101) ∧ Aside0 (Kd.R k69 69 wc w.heap.size (fun k_ => some k_ ≠ ((.slice Ao11 t101.length co11) : Value).ownBlock) v107 t105) ∧ Aside0 (Kd.V k69 69 wc w.heap.size (fun k_ => some k_ ≠ (v107 : Value).ownBlock) v110 t109) ∧ Aside0 (Below w.heap.size w wc))
        case first =>
          have H := HC9.out
          clear HC9
          by_cases c14 : t112.toList = t106.toList
          · rw [if_pos c14] at H
            have c14b0 : (t112.toList == t106.toList) = true := beq_iff_eq.mpr c14
            have c14b1 : (t112.toList != t106.toList) = false := bne_eq_false_iff_eq.mpr c14
            clear c14
            (first | rw [c14b0] | (simp only [i64_w, i32_w]; rw [c14b0]) | skip)
            replace H := Option.bind_eq_some_iff.mp H
            obtain ⟨t113, A150, H⟩ := H
            replace H : (if t113 = true then ((spec_MapOk.f t101).bind fun t114 => (if t114 = true then ((spec_TextOk.f t102).bind fun t115 => (laws_FnTextStep.j1 kj2 l1 t101 t102 t105 t106 t109 t112 (!t115))) else (laws_FnTextStep.j1 kj2 l1 t101 t102 t105 t106 t109 t112 true))) else (laws_FnTextStep.j1 kj2 l1 t101 t102 t105 t106 t109 t112 true)) = some r := H
            have A15 := Aside0.mk A150
            clear A150
            by_cases c16 : t113 = true
            · subst c16
              have H1 : ((spec_MapOk.f t101).bind fun t114 => (if t114 = true then ((spec_TextOk.f t102).bind fun t115 => (laws_FnTextStep.j1 kj2 l1 t101 t102 t105 t106 t109 t112 (!t115))) else (laws_FnTextStep.j1 kj2 l1 t101 t102 t105 t106 t109 t112 true))) = some r := by rw [if_pos rfl] at H; exact H
              clear H
              have H := H1
              clear H1
              replace H := Option.bind_eq_some_iff.mp H
              obtain ⟨t114, A170, H⟩ := H
              replace H : (if t114 = true then ((spec_TextOk.f t102).bind fun t115 => (laws_FnTextStep.j1 kj2 l1 t101 t102 t105 t106 t109 t112 (!t115))) else (laws_FnTextStep.j1 kj2 l1 t101 t102 t105 t106 t109 t112 true)) = some r := H
              have A17 := Aside0.mk A170
              clear A170
              by_cases c18 : t114 = true
              · subst c18
                have H1 : ((spec_TextOk.f t102).bind fun t115 => (laws_FnTextStep.j1 kj2 l1 t101 t102 t105 t106 t109 t112 (!t115))) = some r := by rw [if_pos rfl] at H; exact H
                clear H
                have H := H1
                clear H1
                replace H := Option.bind_eq_some_iff.mp H
                obtain ⟨t115, A190, H⟩ := H
                replace H : (laws_FnTextStep.j1 kj2 l1 t101 t102 t105 t106 t109 t112 (!t115)) = some r := H
                have A19 := Aside0.mk A190
                clear A190
                have H' := Aside0.mk H
                clear H
                obtain ⟨Ao20, co20, eo20⟩ := Kd.V_slice HO111.out
                subst eo20
                obtain ⟨Ao21, co21, eo21⟩ := Kd.R_slice HO108.out
                subst eo21
                go_wp2_with (first | (go_at_call 29; (with_reducible refine (laws_lzMap.calls kj2 _ _ t109 _ _ t105 true _ ?side1 ?side2 ?side3 ?side4 A15.out).mono ?_); (case side1 => repeat (first | exact (Kd.V_reads' HO111.out).2.2 | (with_reducible refine Kd.C_alloc ?_ _) | (with_reducible refine Kd.C_drewN ?_ _) | (with_reducible refine Kd.C_drew ?_))); (case side2 => exact (Kd.V_reads' HO111.out).2.1); (case side3 => repeat (first | exact (Kd.R_reads' HO108.out).2.2 | (with_reducible refine Kd.C_alloc ?_ _) | (with_reducible refine Kd.C_drewN ?_ _) | (with_reducible refine Kd.C_drew ?_))); (case side4 => exact (Kd.R_reads' HO108.out).2.1); rintro e w' ⟨rfl, ⟨nd, rfl⟩⟩) | (go_at_call 30; (with_reducible refine (spec_MapOk.calls _ _ t101 true _ ?side1 ?side2 A17.out).mono ?_); (case side1 => repeat (first | exact (Kd.Q_reads' HO104.out).2.2 | (with_reducible refine Kd.C_alloc ?_ _) | (with_reducible refine Kd.C_drewN ?_ _) | (with_reducible refine Kd.C_drew ?_))); (case side2 => exact (Kd.Q_reads' HO104.out).2.1); rintro e w22 ⟨rfl, hb⟩; have n0_ := Aside0.mk (Kd.Q_below (by (with_reducible repeat (first | apply Kd.Q_alloc | apply Kd.Q_drewN | apply Kd.Q_drew)); exact HO104.out) hb); have n1_ := Aside0.mk (Kd.R_below (by (with_reducible repeat (first | apply Kd.R_alloc | apply Kd.R_drewN | apply Kd.R_drew)); exact HO108.out) hb); have n2_ := Aside0.mk (Kd.V_below (by (with_reducible repeat (first | apply Kd.V_alloc | apply Kd.V_drewN | apply Kd.V_drew)); exact HO111.out) hb); have n3_ := Aside0.mk (below_step (by repeat (first | (with_reducible first | exact HB.out | apply below_alloc | apply pw_below_drewN | apply below_drew1) | exact HB.out)) hb); clear HO104; clear HO108; clear HO111; clear HB; have HO104 := n0_; have HO108 := n1_; have HO111 := n2_; have HB := n3_; clear n0_ n1_ n2_ n3_; (try clear hb); (try clear hb2); (try clear hk); (try clear hi)) | (go_at_call 31; (with_reducible refine (spec_TextOk.calls t102 t115 _ A19.out).mono ?_); rintro e w23 ⟨rfl, hb⟩; have n0_ := Aside0.mk (Kd.Q_below (by (with_reducible repeat (first | apply Kd.Q_alloc | apply Kd.Q_drewN | apply Kd.Q_drew)); exact HO104.out) hb); have n1_ := Aside0.mk (Kd.R_below (by (with_reducible repeat (first | apply Kd.R_alloc | apply Kd.R_drewN | apply Kd.R_drew)); exact HO108.out) hb); have n2_ := Aside0.mk (Kd.V_below (by (with_reducible repeat (first | apply Kd.V_alloc | apply Kd.V_drewN | apply Kd.V_drew)); exact HO111.out) hb); have n3_ := Aside0.mk (below_step (by repeat (first | (with_reducible first | exact HB.out | apply below_alloc | apply pw_below_drewN | apply below_drew1) | exact HB.out)) hb); clear HO104; clear HO108; clear HO111; clear HB; have HO104 := n0_; have HO108 := n1_; have HO111 := n2_; have HB := n3_; clear n0_ n1_ n2_ n3_; (try clear hb); (try clear hb2); (try clear hk); (try clear hi)))
                go_meet
                case rel => exact ⟨_, (!t115), (by first | rfl | (simp; done) | (simp [*]; done)), H', ⟨by have := HJ2.out; first | omega | exact Nat.le_refl _⟩, ⟨by (with_reducible repeat (first | apply Kd.Q_alloc | apply Kd.Q_drewN | apply Kd.Q_drew)); exact Kd.Q_mono HO104.out (fun _ hk => hk.2)⟩, ⟨by (with_reducible repeat (first | apply Kd.R_alloc | apply Kd.R_drewN | apply Kd.R_drew)); exact Kd.R_mono HO108.out (fun _ hk => hk.2)⟩, ⟨by (with_reducible repeat (first | apply Kd.V_alloc | apply Kd.V_drewN | apply Kd.V_drew)); exact HO111.out⟩, ⟨by repeat (first | (with_reducible first | exact HB.out | apply below_alloc | apply pw_below_drewN | apply below_drew1) | exact HB.out)⟩⟩
              · replace c18 := Bool.eq_false_iff.mpr c18
                subst c18
                have H1 : (laws_FnTextStep.j1 kj2 l1 t101 t102 t105 t106 t109 t112 true) = some r := by rw [if_neg (show ¬ (false = true) by decide)] at H; exact H
                clear H
                have H := H1
                clear H1
                have H' := Aside0.mk H
                clear H
                obtain ⟨Ao24, co24, eo24⟩ := Kd.V_slice HO111.out
                subst eo24
                obtain ⟨Ao25, co25, eo25⟩ := Kd.R_slice HO108.out
                subst eo25
                go_wp2_with (first | (go_at_call 29; (with_reducible refine (laws_lzMap.calls kj2 _ _ t109 _ _ t105 true _ ?side1 ?side2 ?side3 ?side4 A15.out).mono ?_); (case side1 => repeat (first | exact (Kd.V_reads' HO111.out).2.2 | (with_reducible refine Kd.C_alloc ?_ _) | (with_reducible refine Kd.C_drewN ?_ _) | (with_reducible refine Kd.C_drew ?_))); (case side2 => exact (Kd.V_reads' HO111.out).2.1); (case side3 => repeat (first | exact (Kd.R_reads' HO108.out).2.2 | (with_reducible refine Kd.C_alloc ?_ _) | (with_reducible refine Kd.C_drewN ?_ _) | (with_reducible refine Kd.C_drew ?_))); (case side4 => exact (Kd.R_reads' HO108.out).2.1); rintro e w' ⟨rfl, ⟨nd, rfl⟩⟩) | (go_at_call 30; (with_reducible refine (spec_MapOk.calls _ _ t101 false _ ?side1 ?side2 A17.out).mono ?_); (case side1 => repeat (first | exact (Kd.Q_reads' HO104.out).2.2 | (with_reducible refine Kd.C_alloc ?_ _) | (with_reducible refine Kd.C_drewN ?_ _) | (with_reducible refine Kd.C_drew ?_))); (case side2 => exact (Kd.Q_reads' HO104.out).2.1); rintro e w26 ⟨rfl, hb⟩; have n0_ := Aside0.mk (Kd.Q_below (by (with_reducible repeat (first | apply Kd.Q_alloc | apply Kd.Q_drewN | apply Kd.Q_drew)); exact HO104.out) hb); have n1_ := Aside0.mk (Kd.R_below (by (with_reducible repeat (first | apply Kd.R_alloc | apply Kd.R_drewN | apply Kd.R_drew)); exact HO108.out) hb); have n2_ := Aside0.mk (Kd.V_below (by (with_reducible repeat (first | apply Kd.V_alloc | apply Kd.V_drewN | apply Kd.V_drew)); exact HO111.out) hb); have n3_ := Aside0.mk (below_step (by repeat (first | (with_reducible first | exact HB.out | apply below_alloc | apply pw_below_drewN | apply below_drew1) | exact HB.out)) hb); clear HO104; clear HO108; clear HO111; clear HB; have HO104 := n0_; have HO108 := n1_; have HO111 := n2_; have HB := n3_; clear n0_ n1_ n2_ n3_; (try clear hb); (try clear hb2); (try clear hk); (try clear hi)))
                go_meet
                case rel => exact ⟨_, (true), (by first | rfl | (simp; done) | (simp [*]; done)), H', ⟨by have := HJ2.out; first | omega | exact Nat.le_refl _⟩, ⟨by (with_reducible repeat (first | apply Kd.Q_alloc | apply Kd.Q_drewN | apply Kd.Q_drew)); exact Kd.Q_mono HO104.out (fun _ hk => hk.2)⟩, ⟨by (with_reducible repeat (first | apply Kd.R_alloc | apply Kd.R_drewN | apply Kd.R_drew)); exact Kd.R_mono HO108.out (fun _ hk => hk.2)⟩, ⟨by (with_reducible repeat (first | apply Kd.V_alloc | apply Kd.V_drewN | apply Kd.V_drew)); exact HO111.out⟩, ⟨by repeat (first | (with_reducible first | exact HB.out | apply below_alloc | apply pw_below_drewN | apply below_drew1) | exact HB.out)⟩⟩
            · replace c16 := Bool.eq_false_iff.mpr c16
              subst c16
              have H1 : (laws_FnTextStep.j1 kj2 l1 t101 t102 t105 t106 t109 t112 true) = some r := by rw [if_neg (show ¬ (false = true) by decide)] at H; exact H
              clear H
              have H := H1
              clear H1
              have H' := Aside0.mk H
              clear H
              obtain ⟨Ao27, co27, eo27⟩ := Kd.V_slice HO111.out
              subst eo27
              obtain ⟨Ao28, co28, eo28⟩ := Kd.R_slice HO108.out
              subst eo28
              go_wp2_with (first | (go_at_call 29; (with_reducible refine (laws_lzMap.calls kj2 _ _ t109 _ _ t105 false _ ?side1 ?side2 ?side3 ?side4 A15.out).mono ?_); (case side1 => repeat (first | exact (Kd.V_reads' HO111.out).2.2 | (with_reducible refine Kd.C_alloc ?_ _) | (with_reducible refine Kd.C_drewN ?_ _) | (with_reducible refine Kd.C_drew ?_))); (case side2 => exact (Kd.V_reads' HO111.out).2.1); (case side3 => repeat (first | exact (Kd.R_reads' HO108.out).2.2 | (with_reducible refine Kd.C_alloc ?_ _) | (with_reducible refine Kd.C_drewN ?_ _) | (with_reducible refine Kd.C_drew ?_))); (case side4 => exact (Kd.R_reads' HO108.out).2.1); rintro e w' ⟨rfl, ⟨nd, rfl⟩⟩))
              go_meet
              case rel => exact ⟨_, (true), (by first | rfl | (simp; done) | (simp [*]; done)), H', ⟨by have := HJ2.out; first | omega | exact Nat.le_refl _⟩, ⟨by (with_reducible repeat (first | apply Kd.Q_alloc | apply Kd.Q_drewN | apply Kd.Q_drew)); exact Kd.Q_mono HO104.out (fun _ hk => hk.2)⟩, ⟨by (with_reducible repeat (first | apply Kd.R_alloc | apply Kd.R_drewN | apply Kd.R_drew)); exact Kd.R_mono HO108.out (fun _ hk => hk.2)⟩, ⟨by (with_reducible repeat (first | apply Kd.V_alloc | apply Kd.V_drewN | apply Kd.V_drew)); exact HO111.out⟩, ⟨by repeat (first | (with_reducible first | exact HB.out | apply below_alloc | apply pw_below_drewN | apply below_drew1) | exact HB.out)⟩⟩
          · rw [if_neg c14] at H
            have c14b0 : (t112.toList == t106.toList) = false := beq_eq_false_iff_ne.mpr c14
            have c14b1 : (t112.toList != t106.toList) = true := bne_iff_ne.mpr c14
            (first | rw [c14b0] | (simp only [i64_w, i32_w]; rw [c14b0]) | skip)
            have H' := Aside0.mk H
            clear H
            go_wp2
            go_meet
            case rel => exact ⟨_, (true), (by first | rfl | (simp; done) | (simp [*]; done)), H', ⟨by have := HJ2.out; first | omega | exact Nat.le_refl _⟩, ⟨by (with_reducible repeat (first | apply Kd.Q_alloc | apply Kd.Q_drewN | apply Kd.Q_drew)); exact Kd.Q_mono HO104.out (fun _ hk => hk.2)⟩, ⟨by (with_reducible repeat (first | apply Kd.R_alloc | apply Kd.R_drewN | apply Kd.R_drew)); exact Kd.R_mono HO108.out (fun _ hk => hk.2)⟩, ⟨by (with_reducible repeat (first | apply Kd.V_alloc | apply Kd.V_drewN | apply Kd.V_drew)); exact HO111.out⟩, ⟨by repeat (first | (with_reducible first | exact HB.out | apply below_alloc | apply pw_below_drewN | apply below_drew1) | exact HB.out)⟩⟩
        case rest =>
          clear HC9
          try clear c1
          try clear c2
          try clear p2
          try clear c4
          try clear c4b0
          try clear c4b1
          try clear c5
          try clear c11
          try clear c14
          try clear c14b0
          try clear c14b1
          try clear c16
          try clear c18
          try clear c24
          try clear c25
          try clear c28
          try clear p2
          obtain ⟨kq, x60_8, rfl, HA, HJ8, HO_5, HO_7, HO_9, HB⟩ := hcut
          cases kq with
          | zero => exact absurd HA.out (by simp [laws_FnTextStep.j1])
          | succ kj8 =>
            have H := HA.out
            clear HA
            simp only [laws_FnTextStep.j1] at H
            by_cases c29 : x60_8 = true
            · subst c29
              have H1 : (if t112.toList = t106.toList then ((laws_lzMap.f kj8 t109 t105).bind fun t116 => (some t116)) else (some false)) = some r := by rw [if_pos rfl] at H; exact H
              clear H
              have H := H1
              clear H1
              by_cases c30 : t112.toList = t106.toList
              · rw [if_pos c30] at H
                have c30b0 : (t112.toList == t106.toList) = true := beq_iff_eq.mpr c30
                have c30b1 : (t112.toList != t106.toList) = false := bne_eq_false_iff_eq.mpr c30
                clear c30
                replace H := Option.bind_eq_some_iff.mp H
                obtain ⟨t116, A310, H⟩ := H
                replace H : (some t116) = some r := H
                have A31 := Aside0.mk A310
                clear A310
                obtain rfl := Option.some.inj H
                obtain ⟨Ao32, co32, eo32⟩ := Kd.V_slice HO_9.out
                subst eo32
                obtain ⟨Ao33, co33, eo33⟩ := Kd.R_slice HO_7.out
                subst eo33
                go_wp2_with (first | (go_at_call 29; (with_reducible refine (laws_lzMap.calls kj8 _ _ t109 _ _ t105 t116 _ ?side1 ?side2 ?side3 ?side4 A31.out).mono ?_); (case side1 => repeat (first | exact (Kd.V_reads' HO_9.out).2.2 | (with_reducible refine Kd.C_alloc ?_ _) | (with_reducible refine Kd.C_drewN ?_ _) | (with_reducible refine Kd.C_drew ?_))); (case side2 => exact (Kd.V_reads' HO_9.out).2.1); (case side3 => repeat (first | exact (Kd.R_reads' HO_7.out).2.2 | (with_reducible refine Kd.C_alloc ?_ _) | (with_reducible refine Kd.C_drewN ?_ _) | (with_reducible refine Kd.C_drew ?_))); (case side4 => exact (Kd.R_reads' HO_7.out).2.1); rintro e w' ⟨rfl, ⟨nd, rfl⟩⟩))
                go_ret
                exact ⟨by first | rfl | (simp [errW_none, errW_some] <;> rfl) | (simp [*, errW_none, errW_some] <;> rfl), by repeat (first | (with_reducible first | exact HB.out | apply below_alloc | apply pw_below_drewN | apply below_drew1) | exact HB.out)⟩
              · rw [if_neg c30] at H
                have c30b0 : (t112.toList == t106.toList) = false := beq_eq_false_iff_ne.mpr c30
                have c30b1 : (t112.toList != t106.toList) = true := bne_iff_ne.mpr c30
                obtain rfl := Option.some.inj H
                go_wp2
                go_ret
                exact ⟨by first | rfl | (simp [errW_none, errW_some] <;> rfl) | (simp [*, errW_none, errW_some] <;> rfl), by repeat (first | (with_reducible first | exact HB.out | apply below_alloc | apply pw_below_drewN | apply below_drew1) | exact HB.out)⟩
            · replace c29 := Bool.eq_false_iff.mpr c29
              subst c29
              have H1 : ((impl_TextPieces.f kj8 t102).bind fun t117 => (if (wrap64 ((t117.length : Int) + 1)) = 0 then (none) else (if 0 ≤ ((l1.length : Int) % (wrap64 ((t117.length : Int) + 1))) then (if ((l1.length : Int) % (wrap64 ((t117.length : Int) + 1))) ≤ (t117.length : Int) then ((laws_lzSize.f kj8 (t117.take (((l1.length : Int) % (wrap64 ((t117.length : Int) + 1))) : Int).toNat)).bind fun t125 => (if 0 ≤ t125 then (if t125 ≤ (t102.size : Int) then ((impl_MapTextOut.f kj8 t101 (t102.extract 0 (t125 : Int).toNat)).bind fun bt126 => ((impl_MapTextOut.f kj8 bt126.1 (t102.extract (t125 : Int).toNat t102.size)).bind fun bt130 => ((impl_TextHeld.f (t102.extract 0 (t125 : Int).toNat)).bind fun t134 => (if t134 > 0 then (if (bt126.2.size : Int) ≤ (t112.size : Int) then (if 0 ≤ (bt126.2.size : Int) then (some ((t112.extract 0 ((bt126.2.size : Int) : Int).toNat).toList == bt126.2.toList)) else (none)) else (some false)) else (if bt126.2.size + bt130.2.size ≤ 9223372036854775807 then (if (bt126.2 ++ bt130.2).toList = t112.toList then ((laws_lzMap.f kj8 bt130.1 t109).bind fun t135 => (some t135)) else (some false)) else (none)))))) else (none)) else (none))) else (none)) else (none)))) = some r := by rw [if_neg (show ¬ (false = true) by decide)] at H; exact H
              clear H
              have H := H1
              clear H1
              replace H := Option.bind_eq_some_iff.mp H
              obtain ⟨t117, A340, H⟩ := H
              replace H : (if (wrap64 ((t117.length : Int) + 1)) = 0 then (none) else (if 0 ≤ ((l1.length : Int) % (wrap64 ((t117.length : Int) + 1))) then (if ((l1.length : Int) % (wrap64 ((t117.length : Int) + 1))) ≤ (t117.length : Int) then ((laws_lzSize.f kj8 (t117.take (((l1.length : Int) % (wrap64 ((t117.length : Int) + 1))) : Int).toNat)).bind fun t125 => (if 0 ≤ t125 then (if t125 ≤ (t102.size : Int) then ((impl_MapTextOut.f kj8 t101 (t102.extract 0 (t125 : Int).toNat)).bind fun bt126 => ((impl_MapTextOut.f kj8 bt126.1 (t102.extract (t125 : Int).toNat t102.size)).bind fun bt130 => ((impl_TextHeld.f (t102.extract 0 (t125 : Int).toNat)).bind fun t134 => (if t134 > 0 then (if (bt126.2.size : Int) ≤ (t112.size : Int) then (if 0 ≤ (bt126.2.size : Int) then (some ((t112.extract 0 ((bt126.2.size : Int) : Int).toNat).toList == bt126.2.toList)) else (none)) else (some false)) else (if bt126.2.size + bt130.2.size ≤ 9223372036854775807 then (if (bt126.2 ++ bt130.2).toList = t112.toList then ((laws_lzMap.f kj8 bt130.1 t109).bind fun t135 => (some t135)) else (some false)) else (none)))))) else (none)) else (none))) else (none)) else (none))) = some r := H
              have A34 := Aside0.mk A340
              clear A340
              by_cases c35 : (wrap64 ((t117.length : Int) + 1)) = 0
              · rw [if_pos c35] at H
                exact absurd H (by simp)
              · rw [if_neg c35] at H
                have c35b0 : ((wrap64 ((t117.length : Int) + 1)) == 0) = false := beq_eq_false_iff_ne.mpr c35
                have c35b1 : ((wrap64 ((t117.length : Int) + 1)) != 0) = true := bne_iff_ne.mpr c35
                obtain ⟨ji36, hji36⟩ : ∃ j_ : Int, ((l1.length : Int) % (wrap64 ((t117.length : Int) + 1))) = j_ := ⟨_, rfl⟩
                replace H : (if 0 ≤ (ji36) then (if (ji36) ≤ (t117.length : Int) then ((laws_lzSize.f kj8 (t117.take ((ji36) : Int).toNat)).bind fun t125 => (if 0 ≤ t125 then (if t125 ≤ (t102.size : Int) then ((impl_MapTextOut.f kj8 t101 (t102.extract 0 (t125 : Int).toNat)).bind fun bt126 => ((impl_MapTextOut.f kj8 bt126.1 (t102.extract (t125 : Int).toNat t102.size)).bind fun bt130 => ((impl_TextHeld.f (t102.extract 0 (t125 : Int).toNat)).bind fun t134 => (if t134 > 0 then (if (bt126.2.size : Int) ≤ (t112.size : Int) then (if 0 ≤ (bt126.2.size : Int) then (some ((t112.extract 0 ((bt126.2.size : Int) : Int).toNat).toList == bt126.2.toList)) else (none)) else (some false)) else (if bt126.2.size + bt130.2.size ≤ 9223372036854775807 then (if (bt126.2 ++ bt130.2).toList = t112.toList then ((laws_lzMap.f kj8 bt130.1 t109).bind fun t135 => (some t135)) else (some false)) else (none)))))) else (none)) else (none))) else (none)) else (none)) = some r := by first | (rw [hji36] at H; exact H) | (simp only [hji36] at H ⊢; exact H)
                (try rw [hji36] at A34)
                by_cases c37 : 0 ≤ (ji36)
                · rw [if_pos c37] at H
                  have c37b0 := eq_true c37
                  have c37b1 : decide (0 ≤ (ji36)) = true := decide_eq_true c37
                  clear c37
                  by_cases c38 : (ji36) ≤ (t117.length : Int)
                  · rw [if_pos c38] at H
                    have c38b0 := eq_true c38
                    have c38b1 : decide ((ji36) ≤ (t117.length : Int)) = true := decide_eq_true c38
                    clear c38
                    obtain ⟨y120, hy120⟩ : ∃ y_ : List (S67), y_ = (t117.take ((ji36) : Int).toNat) := ⟨_, rfl⟩
                    replace H : ((laws_lzSize.f kj8 y120).bind fun t125 => (if 0 ≤ t125 then (if t125 ≤ (t102.size : Int) then ((impl_MapTextOut.f kj8 t101 (t102.extract 0 (t125 : Int).toNat)).bind fun bt126 => ((impl_MapTextOut.f kj8 bt126.1 (t102.extract (t125 : Int).toNat t102.size)).bind fun bt130 => ((impl_TextHeld.f (t102.extract 0 (t125 : Int).toNat)).bind fun t134 => (if t134 > 0 then (if (bt126.2.size : Int) ≤ (t112.size : Int) then (if 0 ≤ (bt126.2.size : Int) then (some ((t112.extract 0 ((bt126.2.size : Int) : Int).toNat).toList == bt126.2.toList)) else (none)) else (some false)) else (if bt126.2.size + bt130.2.size ≤ 9223372036854775807 then (if (bt126.2 ++ bt130.2).toList = t112.toList then ((laws_lzMap.f kj8 bt130.1 t109).bind fun t135 => (some t135)) else (some false)) else (none)))))) else (none)) else (none))) = some r := by first | (rw [hy120]; with_reducible exact H) | (have H2_ := (Option.bind_some _ _).symm.trans H; rw [hy120]; with_reducible exact H2_) | (have H2_ := (Option.bind_some _ _).symm.trans H; with_reducible exact H2_) | with_reducible exact H | (rw [hy120]; exact H) | exact H
                    have Ny120 := Aside0.mk hy120
                    clear hy120
                    replace H := Option.bind_eq_some_iff.mp H
                    obtain ⟨t125, A390, H⟩ := H
                    replace H : (if 0 ≤ t125 then (if t125 ≤ (t102.size : Int) then ((impl_MapTextOut.f kj8 t101 (t102.extract 0 (t125 : Int).toNat)).bind fun bt126 => ((impl_MapTextOut.f kj8 bt126.1 (t102.extract (t125 : Int).toNat t102.size)).bind fun bt130 => ((impl_TextHeld.f (t102.extract 0 (t125 : Int).toNat)).bind fun t134 => (if t134 > 0 then (if (bt126.2.size : Int) ≤ (t112.size : Int) then (if 0 ≤ (bt126.2.size : Int) then (some ((t112.extract 0 ((bt126.2.size : Int) : Int).toNat).toList == bt126.2.toList)) else (none)) else (some false)) else (if bt126.2.size + bt130.2.size ≤ 9223372036854775807 then (if (bt126.2 ++ bt130.2).toList = t112.toList then ((laws_lzMap.f kj8 bt130.1 t109).bind fun t135 => (some t135)) else (some false)) else (none)))))) else (none)) else (none)) = some r := H
                    have A39 := Aside0.mk A390
                    clear A390
                    by_cases c40 : 0 ≤ t125
                    · rw [if_pos c40] at H
                      have c40b0 := eq_true c40
                      have c40b1 : decide (0 ≤ t125) = true := decide_eq_true c40
                      clear c40
                      by_cases c41 : t125 ≤ (t102.size : Int)
                      · rw [if_pos c41] at H
                        have c41b0 := eq_true c41
                        have c41b1 : decide (t125 ≤ (t102.size : Int)) = true := decide_eq_true c41
                        clear c41
                        replace H := Option.bind_eq_some_iff.mp H
                        obtain ⟨⟨t126, t129⟩, A420, H⟩ := H
                        replace H : ((impl_MapTextOut.f kj8 t126 (t102.extract (t125 : Int).toNat t102.size)).bind fun bt130 => ((impl_TextHeld.f (t102.extract 0 (t125 : Int).toNat)).bind fun t134 => (if t134 > 0 then (if (t129.size : Int) ≤ (t112.size : Int) then (if 0 ≤ (t129.size : Int) then (some ((t112.extract 0 ((t129.size : Int) : Int).toNat).toList == t129.toList)) else (none)) else (some false)) else (if t129.size + bt130.2.size ≤ 9223372036854775807 then (if (t129 ++ bt130.2).toList = t112.toList then ((laws_lzMap.f kj8 bt130.1 t109).bind fun t135 => (some t135)) else (some false)) else (none))))) = some r := H
                        have A42 := Aside0.mk A420
                        clear A420
                        have c43b0 := eq_true (of_decide_eq_true (by first | (with_reducible assumption) | assumption) : 0 ≤ t125)
                        have c44b0 := eq_true (of_decide_eq_true (by first | (with_reducible assumption) | assumption) : t125 ≤ (t102.size : Int))
                        replace H := Option.bind_eq_some_iff.mp H
                        obtain ⟨⟨t130, t133⟩, A450, H⟩ := H
                        replace H : ((impl_TextHeld.f (t102.extract 0 (t125 : Int).toNat)).bind fun t134 => (if t134 > 0 then (if (t129.size : Int) ≤ (t112.size : Int) then (if 0 ≤ (t129.size : Int) then (some ((t112.extract 0 ((t129.size : Int) : Int).toNat).toList == t129.toList)) else (none)) else (some false)) else (if t129.size + t133.size ≤ 9223372036854775807 then (if (t129 ++ t133).toList = t112.toList then ((laws_lzMap.f kj8 t130 t109).bind fun t135 => (some t135)) else (some false)) else (none)))) = some r := H
                        have A45 := Aside0.mk A450
                        clear A450
                        have c46b0 := eq_true (of_decide_eq_true (by first | (with_reducible assumption) | assumption) : 0 ≤ t125)
                        have c47b0 := eq_true (of_decide_eq_true (by first | (with_reducible assumption) | assumption) : t125 ≤ (t102.size : Int))
                        replace H := Option.bind_eq_some_iff.mp H
                        obtain ⟨t134, A480, H⟩ := H
                        replace H : (if t134 > 0 then (if (t129.size : Int) ≤ (t112.size : Int) then (if 0 ≤ (t129.size : Int) then (some ((t112.extract 0 ((t129.size : Int) : Int).toNat).toList == t129.toList)) else (none)) else (some false)) else (if t129.size + t133.size ≤ 9223372036854775807 then (if (t129 ++ t133).toList = t112.toList then ((laws_lzMap.f kj8 t130 t109).bind fun t135 => (some t135)) else (some false)) else (none))) = some r := H
                        have A48 := Aside0.mk A480
                        clear A480
                        by_cases c49 : t134 > 0
                        · rw [if_pos c49] at H
                          have c49b0 : decide (0 < t134) = true := decide_eq_true c49
                          clear c49
                          by_cases c50 : (t129.size : Int) ≤ (t112.size : Int)
                          · rw [if_pos c50] at H
                            have c50b0 : decide ((t129.size : Int) ≤ (t112.size : Int)) = true := decide_eq_true c50
                            have c50b1 : decide (t129.size ≤ t112.size) = true := decide_eq_true (Int.ofNat_le.mp c50)
                            clear c50
                            by_cases c51 : 0 ≤ (t129.size : Int)
                            · rw [if_pos c51] at H
                              have c51b0 := eq_true c51
                              have c51b1 : decide (0 ≤ (t129.size : Int)) = true := decide_eq_true c51
                              clear c51
                              have c52b0 := eq_true (of_decide_eq_true (by first | (with_reducible assumption) | assumption) : (t129.size : Int) ≤ (t112.size : Int))
                              obtain rfl := Option.some.inj H
                              go_wp2_with (first | ((with_reducible refine gate_callee (f := 39) rfl ?_); refine goesL_ (some 70) rfl rfl Tryz.func39 (by kernel_rfl) rfl #[.string t102] rfl (by (try simp only [List.map_toArray, List.map_cons, List.map_nil]); first | done | rfl | (simp only [List.length_drop, List.length_take]; rfl)) ?_; (with_reducible refine (impl_TextPieces.calls kj8 t102 t117 _ ?side1 A34.out).mono ?_); (case side1 => exact hV.next (by repeat (first | (with_reducible first | exact HB.out | apply below_alloc | apply pw_below_drewN | apply below_drew1) | exact HB.out))); rintro e w53 ⟨v118, rfl, ho0, hb⟩; refine ⟨_, rfl, ?_⟩; have n0_ := Aside0.mk (Kd.Q_below (by (with_reducible repeat (first | apply Kd.Q_alloc | apply Kd.Q_drewN | apply Kd.Q_drew)); exact HO_5.out) hb); have n1_ := Aside0.mk (Kd.R_below (by (with_reducible repeat (first | apply Kd.R_alloc | apply Kd.R_drewN | apply Kd.R_drew)); exact HO_7.out) hb); have n2_ := Aside0.mk (Kd.V_below (by (with_reducible repeat (first | apply Kd.V_alloc | apply Kd.V_drewN | apply Kd.V_drew)); exact HO_9.out) hb); have n3_ := Aside0.mk (Kd.V_lower (Kd.V_mono (ok' := fun k_ => some k_ ≠ (.slice Ao11 t101.length co11 : Value).ownBlock ∧ some k_ ≠ (v107 : Value).ownBlock) ho0 (fun k_ hk_ => ⟨(Kd.fresh' (Kd.Q_lt (by (with_reducible repeat (first | apply Kd.Q_alloc | apply Kd.Q_drewN | apply Kd.Q_drew)); exact HO_5.out)) k_ hk_), (Kd.fresh' (Kd.R_lt (by (with_reducible repeat (first | apply Kd.R_alloc | apply Kd.R_drewN | apply Kd.R_drew)); exact HO_7.out)) k_ hk_)⟩)) (below_size (by repeat (first | (with_reducible first | exact HB.out | apply below_alloc | apply pw_below_drewN | apply below_drew1) | exact HB.out)))); have n4_ := Aside0.mk (below_step (by repeat (first | (with_reducible first | exact HB.out | apply below_alloc | apply pw_below_drewN | apply below_drew1) | exact HB.out)) hb); clear HO_5; clear HO_7; clear HO_9; clear HB; have HO_5 := n0_; have HO_7 := n1_; have HO_9 := n2_; have HO119 := n3_; have HB := n4_; clear n0_ n1_ n2_ n3_ n4_; (try clear hb); (try clear hb2); (try clear hk); (try clear hi); (try clear ho0); obtain ⟨Ao54, co54, eo54⟩ := Kd.V_slice HO119.out; subst eo54; have q55 : ((ji36) : Int) ≤ ((t117.length : Int) : Int) := of_decide_eq_true (by first | (with_reducible assumption) | assumption); obtain ⟨i055, hi055, _, hsz55, _⟩ := info_parts info67; have hroom55 : t117.length ≤ co54 := (Kd.V_reads' HO119.out).2.1; have hC55 : Kd.F k67 _ _ Ao54 t117.length t117 := (Kd.V_at (base := w.heap.size) HO119.out).2.2; have hcut55 := cut_to (P := Tryz.prog) 54 67 .i64 Tryz.underlying54 hi055 Ao54 t117.length co54 (ji36) (of_decide_eq_true (by first | (with_reducible assumption) | assumption)) q55 hroom55; have hr55 := Kd.F_take (m := ((ji36) : Int).toNat) hC55 (by omega); have hy55 : y120.length = ((ji36) : Int).toNat := (by rw [Ny120.out, List.length_take]; omega); rw [← Ny120.out] at hr55; rw [← hy55] at hcut55; have HO124 := Aside0.mk (show Kd.V k67 67 _ w.heap.size _ (.slice Ao54 y120.length co54) y120 from Kd.V_mk (by omega) hr55); have HC124 := Aside0.mk (show y120.length ≤ co54 from by omega); clear hr55 hC55 hroom55 hi055 hsz55; have KY55 := Aside0.mk hy55; clear hy55; replace q55 := eq_true q55) | ((with_reducible refine gate_callee (f := 40) rfl ?_); refine goesL_ (some 79) rfl rfl Tryz.func40 (by kernel_rfl) rfl #[.slice Ao54 y120.length co54] rfl (by (try simp only [List.map_toArray, List.map_cons, List.map_nil]); first | done | rfl | (simp only [List.length_drop, List.length_take]; rfl)) ?_; (with_reducible refine (laws_lzSize.calls kj8 _ _ y120 t125 _ ?side1 ?side2 A39.out).mono ?_); (case side1 => repeat (first | exact (Kd.V_reads' HO124.out).2.2 | (with_reducible refine Kd.C_alloc ?_ _) | (with_reducible refine Kd.C_drewN ?_ _) | (with_reducible refine Kd.C_drew ?_))); (case side2 => exact (Kd.V_reads' HO124.out).2.1); rintro e w' ⟨rfl, ⟨nd, rfl⟩⟩; refine ⟨_, rfl, ?_⟩) | ((with_reducible refine gate_callee (f := 25) rfl ?_); refine goesL_ (some 85) rfl rfl Tryz.func25 (by kernel_rfl) rfl #[.slice Ao11 t101.length co11, .string (t102.extract 0 (t125 : Int).toNat)] rfl (by (try simp only [List.map_toArray, List.map_cons, List.map_nil]); first | done | rfl | (simp only [List.length_drop, List.length_take]; rfl)) ?_; (with_reducible refine (impl_MapTextOut.calls kj8 (fun k_ => some k_ = (.slice Ao11 t101.length co11 : Value).ownBlock) _ _ t101 (t102.extract 0 (t125 : Int).toNat) t126 t129 _ ?side1 ?side2 A42.out).mono ?_); (case side1 => exact Kd.Q_V (Kd.Q_tight rfl (HO_5.out))); (case side2 => exact hV.next (by repeat (first | (with_reducible first | exact HB.out | apply below_alloc | apply pw_below_drewN | apply below_drew1) | exact HB.out))); rintro e w56 ⟨v127, rfl, ho0, hb⟩; refine ⟨_, rfl, ?_⟩; have n0_ := Aside0.mk (Kd.Q_below (by (with_reducible repeat (first | apply Kd.Q_alloc | apply Kd.Q_drewN | apply Kd.Q_drew)); exact HO_5.out) hb); have n1_ := Aside0.mk (Kd.R_below (by (with_reducible repeat (first | apply Kd.R_alloc | apply Kd.R_drewN | apply Kd.R_drew)); exact HO_7.out) hb); have n2_ := Aside0.mk (Kd.V_below (by (with_reducible repeat (first | apply Kd.V_alloc | apply Kd.V_drewN | apply Kd.V_drew)); exact HO_9.out) hb); have n3_ := Aside0.mk (Kd.V_below (by (with_reducible repeat (first | apply Kd.V_alloc | apply Kd.V_drewN | apply Kd.V_drew)); exact HO119.out) hb); have n4_ := Aside0.mk (Kd.V_below (by (with_reducible repeat (first | apply Kd.V_alloc | apply Kd.V_drewN | apply Kd.V_drew)); exact HO124.out) hb); have n5_ := Aside0.mk (Kd.V_lower (Kd.V_mono (ok' := fun k_ => some k_ ≠ (v107 : Value).ownBlock) ho0 (fun k_ hk_ => Or.elim hk_ (fun hs_ => ((HO_5.out).1 k_ hs_.symm)) (fun hn_ => (Kd.fresh' (Kd.R_lt (by (with_reducible repeat (first | apply Kd.R_alloc | apply Kd.R_drewN | apply Kd.R_drew)); exact HO_7.out)) k_ hn_)))) (below_size (by repeat (first | (with_reducible first | exact HB.out | apply below_alloc | apply pw_below_drewN | apply below_drew1) | exact HB.out)))); have n6_ := Aside0.mk (below_step (by repeat (first | (with_reducible first | exact HB.out | apply below_alloc | apply pw_below_drewN | apply below_drew1) | exact HB.out)) hb); clear HO_5; clear HO_7; clear HO_9; clear HO119; clear HO124; clear HB; have HO_5 := n0_; have HO_7 := n1_; have HO_9 := n2_; have HO119 := n3_; have HO124 := n4_; have HO128 := n5_; have HB := n6_; clear n0_ n1_ n2_ n3_ n4_ n5_ n6_; (try clear hb); (try clear hb2); (try clear hk); (try clear hi); (try clear ho0); obtain ⟨Ao57, co57, eo57⟩ := Kd.V_slice HO128.out; subst eo57) | ((with_reducible refine gate_callee (f := 25) rfl ?_); refine goesL_ (some 93) rfl rfl Tryz.func25 (by kernel_rfl) rfl #[.slice Ao57 t126.length co57, .string (t102.extract (t125 : Int).toNat t102.size)] rfl (by (try simp only [List.map_toArray, List.map_cons, List.map_nil]); first | done | rfl | (simp only [List.length_drop, List.length_take]; rfl)) ?_; (with_reducible refine (impl_MapTextOut.calls kj8 (fun k_ => some k_ ≠ (v107 : Value).ownBlock) _ _ t126 (t102.extract (t125 : Int).toNat t102.size) t130 t133 _ ?side1 ?side2 A45.out).mono ?_); (case side1 => exact HO128.out); (case side2 => exact hV.next (by repeat (first | (with_reducible first | exact HB.out | apply below_alloc | apply pw_below_drewN | apply below_drew1) | exact HB.out))); rintro e w58 ⟨v131, rfl, ho0, hb⟩; refine ⟨_, rfl, ?_⟩; have n0_ := Aside0.mk (Kd.Q_below (by (with_reducible repeat (first | apply Kd.Q_alloc | apply Kd.Q_drewN | apply Kd.Q_drew)); exact HO_5.out) hb); have n1_ := Aside0.mk (Kd.R_below (by (with_reducible repeat (first | apply Kd.R_alloc | apply Kd.R_drewN | apply Kd.R_drew)); exact HO_7.out) hb); have n2_ := Aside0.mk (Kd.V_below (by (with_reducible repeat (first | apply Kd.V_alloc | apply Kd.V_drewN | apply Kd.V_drew)); exact HO_9.out) hb); have n3_ := Aside0.mk (Kd.V_below (by (with_reducible repeat (first | apply Kd.V_alloc | apply Kd.V_drewN | apply Kd.V_drew)); exact HO119.out) hb); have n4_ := Aside0.mk (Kd.V_below (by (with_reducible repeat (first | apply Kd.V_alloc | apply Kd.V_drewN | apply Kd.V_drew)); exact HO124.out) hb); have n5_ := Aside0.mk (Kd.V_below (by (with_reducible repeat (first | apply Kd.V_alloc | apply Kd.V_drewN | apply Kd.V_drew)); exact HO128.out) hb); have n6_ := Aside0.mk (Kd.V_lower (Kd.V_mono (ok' := fun k_ => some k_ ≠ (v107 : Value).ownBlock) ho0 (fun k_ hk_ => Or.elim hk_ (fun hs_ => hs_) (fun hn_ => (Kd.fresh' (Kd.R_lt (by (with_reducible repeat (first | apply Kd.R_alloc | apply Kd.R_drewN | apply Kd.R_drew)); exact HO_7.out)) k_ hn_)))) (below_size (by repeat (first | (with_reducible first | exact HB.out | apply below_alloc | apply pw_below_drewN | apply below_drew1) | exact HB.out)))); have n7_ := Aside0.mk (below_step (by repeat (first | (with_reducible first | exact HB.out | apply below_alloc | apply pw_below_drewN | apply below_drew1) | exact HB.out)) hb); clear HO_5; clear HO_7; clear HO_9; clear HO119; clear HO124; clear HO128; clear HB; have HO_5 := n0_; have HO_7 := n1_; have HO_9 := n2_; have HO119 := n3_; have HO124 := n4_; have HO128 := n5_; have HO132 := n6_; have HB := n7_; clear n0_ n1_ n2_ n3_ n4_ n5_ n6_ n7_; (try clear hb); (try clear hb2); (try clear hk); (try clear hi); (try clear ho0)) | ((with_reducible refine gate_callee (f := 17) rfl ?_); refine goesL_ (some 99) rfl rfl Tryz.func17 (by kernel_rfl) rfl #[.string (t102.extract 0 (t125 : Int).toNat)] rfl (by (try simp only [List.map_toArray, List.map_cons, List.map_nil]); first | done | rfl | (simp only [List.length_drop, List.length_take]; rfl)) ?_; (with_reducible refine (impl_TextHeld.calls (t102.extract 0 (t125 : Int).toNat) t134 _ A48.out).mono ?_); rintro e w59 ⟨rfl, hb⟩; refine ⟨_, rfl, ?_⟩; have n0_ := Aside0.mk (Kd.Q_below (by (with_reducible repeat (first | apply Kd.Q_alloc | apply Kd.Q_drewN | apply Kd.Q_drew)); exact HO_5.out) hb); have n1_ := Aside0.mk (Kd.R_below (by (with_reducible repeat (first | apply Kd.R_alloc | apply Kd.R_drewN | apply Kd.R_drew)); exact HO_7.out) hb); have n2_ := Aside0.mk (Kd.V_below (by (with_reducible repeat (first | apply Kd.V_alloc | apply Kd.V_drewN | apply Kd.V_drew)); exact HO_9.out) hb); have n3_ := Aside0.mk (Kd.V_below (by (with_reducible repeat (first | apply Kd.V_alloc | apply Kd.V_drewN | apply Kd.V_drew)); exact HO119.out) hb); have n4_ := Aside0.mk (Kd.V_below (by (with_reducible repeat (first | apply Kd.V_alloc | apply Kd.V_drewN | apply Kd.V_drew)); exact HO124.out) hb); have n5_ := Aside0.mk (Kd.V_below (by (with_reducible repeat (first | apply Kd.V_alloc | apply Kd.V_drewN | apply Kd.V_drew)); exact HO128.out) hb); have n6_ := Aside0.mk (Kd.V_below (by (with_reducible repeat (first | apply Kd.V_alloc | apply Kd.V_drewN | apply Kd.V_drew)); exact HO132.out) hb); have n7_ := Aside0.mk (below_step (by repeat (first | (with_reducible first | exact HB.out | apply below_alloc | apply pw_below_drewN | apply below_drew1) | exact HB.out)) hb); clear HO_5; clear HO_7; clear HO_9; clear HO119; clear HO124; clear HO128; clear HO132; clear HB; have HO_5 := n0_; have HO_7 := n1_; have HO_9 := n2_; have HO119 := n3_; have HO124 := n4_; have HO128 := n5_; have HO132 := n6_; have HB := n7_; clear n0_ n1_ n2_ n3_ n4_ n5_ n6_ n7_; (try clear hb); (try clear hb2); (try clear hk); (try clear hi)))
                              go_ret
                              exact ⟨by first | rfl | (simp [errW_none, errW_some] <;> rfl) | (simp only [← hji36]; first | rfl | (simp [errW_none, errW_some] <;> rfl)) | (simp [*, errW_none, errW_some] <;> rfl), by repeat (first | (with_reducible first | exact HB.out | apply below_alloc | apply pw_below_drewN | apply below_drew1) | exact HB.out)⟩
                            · rw [if_neg c51] at H
                              exact absurd H (by simp)
                          · rw [if_neg c50] at H
                            have c50b0 : decide ((t129.size : Int) ≤ (t112.size : Int)) = false := decide_eq_false c50
                            have c50b1 : decide (t129.size ≤ t112.size) = false := decide_eq_false (fun h => c50 (Int.ofNat_le.mpr h))
                            clear c50
                            obtain rfl := Option.some.inj H
                            go_wp2_with (first | ((with_reducible refine gate_callee (f := 39) rfl ?_); refine goesL_ (some 70) rfl rfl Tryz.func39 (by kernel_rfl) rfl #[.string t102] rfl (by (try simp only [List.map_toArray, List.map_cons, List.map_nil]); first | done | rfl | (simp only [List.length_drop, List.length_take]; rfl)) ?_; (with_reducible refine (impl_TextPieces.calls kj8 t102 t117 _ ?side1 A34.out).mono ?_); (case side1 => exact hV.next (by repeat (first | (with_reducible first | exact HB.out | apply below_alloc | apply pw_below_drewN | apply below_drew1) | exact HB.out))); rintro e w60 ⟨v118, rfl, ho0, hb⟩; refine ⟨_, rfl, ?_⟩; have n0_ := Aside0.mk (Kd.Q_below (by (with_reducible repeat (first | apply Kd.Q_alloc | apply Kd.Q_drewN | apply Kd.Q_drew)); exact HO_5.out) hb); have n1_ := Aside0.mk (Kd.R_below (by (with_reducible repeat (first | apply Kd.R_alloc | apply Kd.R_drewN | apply Kd.R_drew)); exact HO_7.out) hb); have n2_ := Aside0.mk (Kd.V_below (by (with_reducible repeat (first | apply Kd.V_alloc | apply Kd.V_drewN | apply Kd.V_drew)); exact HO_9.out) hb); have n3_ := Aside0.mk (Kd.V_lower (Kd.V_mono (ok' := fun k_ => some k_ ≠ (.slice Ao11 t101.length co11 : Value).ownBlock ∧ some k_ ≠ (v107 : Value).ownBlock) ho0 (fun k_ hk_ => ⟨(Kd.fresh' (Kd.Q_lt (by (with_reducible repeat (first | apply Kd.Q_alloc | apply Kd.Q_drewN | apply Kd.Q_drew)); exact HO_5.out)) k_ hk_), (Kd.fresh' (Kd.R_lt (by (with_reducible repeat (first | apply Kd.R_alloc | apply Kd.R_drewN | apply Kd.R_drew)); exact HO_7.out)) k_ hk_)⟩)) (below_size (by repeat (first | (with_reducible first | exact HB.out | apply below_alloc | apply pw_below_drewN | apply below_drew1) | exact HB.out)))); have n4_ := Aside0.mk (below_step (by repeat (first | (with_reducible first | exact HB.out | apply below_alloc | apply pw_below_drewN | apply below_drew1) | exact HB.out)) hb); clear HO_5; clear HO_7; clear HO_9; clear HB; have HO_5 := n0_; have HO_7 := n1_; have HO_9 := n2_; have HO119 := n3_; have HB := n4_; clear n0_ n1_ n2_ n3_ n4_; (try clear hb); (try clear hb2); (try clear hk); (try clear hi); (try clear ho0); obtain ⟨Ao61, co61, eo61⟩ := Kd.V_slice HO119.out; subst eo61; have q62 : ((ji36) : Int) ≤ ((t117.length : Int) : Int) := of_decide_eq_true (by first | (with_reducible assumption) | assumption); obtain ⟨i062, hi062, _, hsz62, _⟩ := info_parts info67; have hroom62 : t117.length ≤ co61 := (Kd.V_reads' HO119.out).2.1; have hC62 : Kd.F k67 _ _ Ao61 t117.length t117 := (Kd.V_at (base := w.heap.size) HO119.out).2.2; have hcut62 := cut_to (P := Tryz.prog) 54 67 .i64 Tryz.underlying54 hi062 Ao61 t117.length co61 (ji36) (of_decide_eq_true (by first | (with_reducible assumption) | assumption)) q62 hroom62; have hr62 := Kd.F_take (m := ((ji36) : Int).toNat) hC62 (by omega); have hy62 : y120.length = ((ji36) : Int).toNat := (by rw [Ny120.out, List.length_take]; omega); rw [← Ny120.out] at hr62; rw [← hy62] at hcut62; have HO124 := Aside0.mk (show Kd.V k67 67 _ w.heap.size _ (.slice Ao61 y120.length co61) y120 from Kd.V_mk (by omega) hr62); have HC124 := Aside0.mk (show y120.length ≤ co61 from by omega); clear hr62 hC62 hroom62 hi062 hsz62; have KY62 := Aside0.mk hy62; clear hy62; replace q62 := eq_true q62) | ((with_reducible refine gate_callee (f := 40) rfl ?_); refine goesL_ (some 79) rfl rfl Tryz.func40 (by kernel_rfl) rfl #[.slice Ao61 y120.length co61] rfl (by (try simp only [List.map_toArray, List.map_cons, List.map_nil]); first | done | rfl | (simp only [List.length_drop, List.length_take]; rfl)) ?_; (with_reducible refine (laws_lzSize.calls kj8 _ _ y120 t125 _ ?side1 ?side2 A39.out).mono ?_); (case side1 => repeat (first | exact (Kd.V_reads' HO124.out).2.2 | (with_reducible refine Kd.C_alloc ?_ _) | (with_reducible refine Kd.C_drewN ?_ _) | (with_reducible refine Kd.C_drew ?_))); (case side2 => exact (Kd.V_reads' HO124.out).2.1); rintro e w' ⟨rfl, ⟨nd, rfl⟩⟩; refine ⟨_, rfl, ?_⟩) | ((with_reducible refine gate_callee (f := 25) rfl ?_); refine goesL_ (some 85) rfl rfl Tryz.func25 (by kernel_rfl) rfl #[.slice Ao11 t101.length co11, .string (t102.extract 0 (t125 : Int).toNat)] rfl (by (try simp only [List.map_toArray, List.map_cons, List.map_nil]); first | done | rfl | (simp only [List.length_drop, List.length_take]; rfl)) ?_; (with_reducible refine (impl_MapTextOut.calls kj8 (fun k_ => some k_ = (.slice Ao11 t101.length co11 : Value).ownBlock) _ _ t101 (t102.extract 0 (t125 : Int).toNat) t126 t129 _ ?side1 ?side2 A42.out).mono ?_); (case side1 => exact Kd.Q_V (Kd.Q_tight rfl (HO_5.out))); (case side2 => exact hV.next (by repeat (first | (with_reducible first | exact HB.out | apply below_alloc | apply pw_below_drewN | apply below_drew1) | exact HB.out))); rintro e w63 ⟨v127, rfl, ho0, hb⟩; refine ⟨_, rfl, ?_⟩; have n0_ := Aside0.mk (Kd.Q_below (by (with_reducible repeat (first | apply Kd.Q_alloc | apply Kd.Q_drewN | apply Kd.Q_drew)); exact HO_5.out) hb); have n1_ := Aside0.mk (Kd.R_below (by (with_reducible repeat (first | apply Kd.R_alloc | apply Kd.R_drewN | apply Kd.R_drew)); exact HO_7.out) hb); have n2_ := Aside0.mk (Kd.V_below (by (with_reducible repeat (first | apply Kd.V_alloc | apply Kd.V_drewN | apply Kd.V_drew)); exact HO_9.out) hb); have n3_ := Aside0.mk (Kd.V_below (by (with_reducible repeat (first | apply Kd.V_alloc | apply Kd.V_drewN | apply Kd.V_drew)); exact HO119.out) hb); have n4_ := Aside0.mk (Kd.V_below (by (with_reducible repeat (first | apply Kd.V_alloc | apply Kd.V_drewN | apply Kd.V_drew)); exact HO124.out) hb); have n5_ := Aside0.mk (Kd.V_lower (Kd.V_mono (ok' := fun k_ => some k_ ≠ (v107 : Value).ownBlock) ho0 (fun k_ hk_ => Or.elim hk_ (fun hs_ => ((HO_5.out).1 k_ hs_.symm)) (fun hn_ => (Kd.fresh' (Kd.R_lt (by (with_reducible repeat (first | apply Kd.R_alloc | apply Kd.R_drewN | apply Kd.R_drew)); exact HO_7.out)) k_ hn_)))) (below_size (by repeat (first | (with_reducible first | exact HB.out | apply below_alloc | apply pw_below_drewN | apply below_drew1) | exact HB.out)))); have n6_ := Aside0.mk (below_step (by repeat (first | (with_reducible first | exact HB.out | apply below_alloc | apply pw_below_drewN | apply below_drew1) | exact HB.out)) hb); clear HO_5; clear HO_7; clear HO_9; clear HO119; clear HO124; clear HB; have HO_5 := n0_; have HO_7 := n1_; have HO_9 := n2_; have HO119 := n3_; have HO124 := n4_; have HO128 := n5_; have HB := n6_; clear n0_ n1_ n2_ n3_ n4_ n5_ n6_; (try clear hb); (try clear hb2); (try clear hk); (try clear hi); (try clear ho0); obtain ⟨Ao64, co64, eo64⟩ := Kd.V_slice HO128.out; subst eo64) | ((with_reducible refine gate_callee (f := 25) rfl ?_); refine goesL_ (some 93) rfl rfl Tryz.func25 (by kernel_rfl) rfl #[.slice Ao64 t126.length co64, .string (t102.extract (t125 : Int).toNat t102.size)] rfl (by (try simp only [List.map_toArray, List.map_cons, List.map_nil]); first | done | rfl | (simp only [List.length_drop, List.length_take]; rfl)) ?_; (with_reducible refine (impl_MapTextOut.calls kj8 (fun k_ => some k_ ≠ (v107 : Value).ownBlock) _ _ t126 (t102.extract (t125 : Int).toNat t102.size) t130 t133 _ ?side1 ?side2 A45.out).mono ?_); (case side1 => exact HO128.out); (case side2 => exact hV.next (by repeat (first | (with_reducible first | exact HB.out | apply below_alloc | apply pw_below_drewN | apply below_drew1) | exact HB.out))); rintro e w65 ⟨v131, rfl, ho0, hb⟩; refine ⟨_, rfl, ?_⟩; have n0_ := Aside0.mk (Kd.Q_below (by (with_reducible repeat (first | apply Kd.Q_alloc | apply Kd.Q_drewN | apply Kd.Q_drew)); exact HO_5.out) hb); have n1_ := Aside0.mk (Kd.R_below (by (with_reducible repeat (first | apply Kd.R_alloc | apply Kd.R_drewN | apply Kd.R_drew)); exact HO_7.out) hb); have n2_ := Aside0.mk (Kd.V_below (by (with_reducible repeat (first | apply Kd.V_alloc | apply Kd.V_drewN | apply Kd.V_drew)); exact HO_9.out) hb); have n3_ := Aside0.mk (Kd.V_below (by (with_reducible repeat (first | apply Kd.V_alloc | apply Kd.V_drewN | apply Kd.V_drew)); exact HO119.out) hb); have n4_ := Aside0.mk (Kd.V_below (by (with_reducible repeat (first | apply Kd.V_alloc | apply Kd.V_drewN | apply Kd.V_drew)); exact HO124.out) hb); have n5_ := Aside0.mk (Kd.V_below (by (with_reducible repeat (first | apply Kd.V_alloc | apply Kd.V_drewN | apply Kd.V_drew)); exact HO128.out) hb); have n6_ := Aside0.mk (Kd.V_lower (Kd.V_mono (ok' := fun k_ => some k_ ≠ (v107 : Value).ownBlock) ho0 (fun k_ hk_ => Or.elim hk_ (fun hs_ => hs_) (fun hn_ => (Kd.fresh' (Kd.R_lt (by (with_reducible repeat (first | apply Kd.R_alloc | apply Kd.R_drewN | apply Kd.R_drew)); exact HO_7.out)) k_ hn_)))) (below_size (by repeat (first | (with_reducible first | exact HB.out | apply below_alloc | apply pw_below_drewN | apply below_drew1) | exact HB.out)))); have n7_ := Aside0.mk (below_step (by repeat (first | (with_reducible first | exact HB.out | apply below_alloc | apply pw_below_drewN | apply below_drew1) | exact HB.out)) hb); clear HO_5; clear HO_7; clear HO_9; clear HO119; clear HO124; clear HO128; clear HB; have HO_5 := n0_; have HO_7 := n1_; have HO_9 := n2_; have HO119 := n3_; have HO124 := n4_; have HO128 := n5_; have HO132 := n6_; have HB := n7_; clear n0_ n1_ n2_ n3_ n4_ n5_ n6_ n7_; (try clear hb); (try clear hb2); (try clear hk); (try clear hi); (try clear ho0)) | ((with_reducible refine gate_callee (f := 17) rfl ?_); refine goesL_ (some 99) rfl rfl Tryz.func17 (by kernel_rfl) rfl #[.string (t102.extract 0 (t125 : Int).toNat)] rfl (by (try simp only [List.map_toArray, List.map_cons, List.map_nil]); first | done | rfl | (simp only [List.length_drop, List.length_take]; rfl)) ?_; (with_reducible refine (impl_TextHeld.calls (t102.extract 0 (t125 : Int).toNat) t134 _ A48.out).mono ?_); rintro e w66 ⟨rfl, hb⟩; refine ⟨_, rfl, ?_⟩; have n0_ := Aside0.mk (Kd.Q_below (by (with_reducible repeat (first | apply Kd.Q_alloc | apply Kd.Q_drewN | apply Kd.Q_drew)); exact HO_5.out) hb); have n1_ := Aside0.mk (Kd.R_below (by (with_reducible repeat (first | apply Kd.R_alloc | apply Kd.R_drewN | apply Kd.R_drew)); exact HO_7.out) hb); have n2_ := Aside0.mk (Kd.V_below (by (with_reducible repeat (first | apply Kd.V_alloc | apply Kd.V_drewN | apply Kd.V_drew)); exact HO_9.out) hb); have n3_ := Aside0.mk (Kd.V_below (by (with_reducible repeat (first | apply Kd.V_alloc | apply Kd.V_drewN | apply Kd.V_drew)); exact HO119.out) hb); have n4_ := Aside0.mk (Kd.V_below (by (with_reducible repeat (first | apply Kd.V_alloc | apply Kd.V_drewN | apply Kd.V_drew)); exact HO124.out) hb); have n5_ := Aside0.mk (Kd.V_below (by (with_reducible repeat (first | apply Kd.V_alloc | apply Kd.V_drewN | apply Kd.V_drew)); exact HO128.out) hb); have n6_ := Aside0.mk (Kd.V_below (by (with_reducible repeat (first | apply Kd.V_alloc | apply Kd.V_drewN | apply Kd.V_drew)); exact HO132.out) hb); have n7_ := Aside0.mk (below_step (by repeat (first | (with_reducible first | exact HB.out | apply below_alloc | apply pw_below_drewN | apply below_drew1) | exact HB.out)) hb); clear HO_5; clear HO_7; clear HO_9; clear HO119; clear HO124; clear HO128; clear HO132; clear HB; have HO_5 := n0_; have HO_7 := n1_; have HO_9 := n2_; have HO119 := n3_; have HO124 := n4_; have HO128 := n5_; have HO132 := n6_; have HB := n7_; clear n0_ n1_ n2_ n3_ n4_ n5_ n6_ n7_; (try clear hb); (try clear hb2); (try clear hk); (try clear hi)))
                            go_ret
                            exact ⟨by first | rfl | (simp [errW_none, errW_some] <;> rfl) | (simp only [← hji36]; first | rfl | (simp [errW_none, errW_some] <;> rfl)) | (simp [*, errW_none, errW_some] <;> rfl), by repeat (first | (with_reducible first | exact HB.out | apply below_alloc | apply pw_below_drewN | apply below_drew1) | exact HB.out)⟩
                        · rw [if_neg c49] at H
                          have c49b0 : decide (0 < t134) = false := decide_eq_false c49
                          clear c49
                          by_cases c67 : t129.size + t133.size ≤ 9223372036854775807
                          · rw [if_pos c67] at H
                            have c67b0 := eq_true c67
                            have c67b1 : decide (t129.size + t133.size ≤ 9223372036854775807) = true := decide_eq_true c67
                            try have c67b2 : (9223372036854775807 < t129.size + t133.size) = False := eq_false (Nat.not_lt.2 c67)
                            by_cases c68 : (t129 ++ t133).toList = t112.toList
                            · rw [if_pos c68] at H
                              have c68b0 : ((t129 ++ t133).toList == t112.toList) = true := beq_iff_eq.mpr c68
                              have c68b1 : ((t129 ++ t133).toList != t112.toList) = false := bne_eq_false_iff_eq.mpr c68
                              clear c68
                              replace H := Option.bind_eq_some_iff.mp H
                              obtain ⟨t135, A690, H⟩ := H
                              replace H : (some t135) = some r := H
                              have A69 := Aside0.mk A690
                              clear A690
                              obtain rfl := Option.some.inj H
                              go_wp2_with (first | ((with_reducible refine gate_callee (f := 39) rfl ?_); refine goesL_ (some 70) rfl rfl Tryz.func39 (by kernel_rfl) rfl #[.string t102] rfl (by (try simp only [List.map_toArray, List.map_cons, List.map_nil]); first | done | rfl | (simp only [List.length_drop, List.length_take]; rfl)) ?_; (with_reducible refine (impl_TextPieces.calls kj8 t102 t117 _ ?side1 A34.out).mono ?_); (case side1 => exact hV.next (by repeat (first | (with_reducible first | exact HB.out | apply below_alloc | apply pw_below_drewN | apply below_drew1) | exact HB.out))); rintro e w70 ⟨v118, rfl, ho0, hb⟩; refine ⟨_, rfl, ?_⟩; have n0_ := Aside0.mk (Kd.Q_below (by (with_reducible repeat (first | apply Kd.Q_alloc | apply Kd.Q_drewN | apply Kd.Q_drew)); exact HO_5.out) hb); have n1_ := Aside0.mk (Kd.R_below (by (with_reducible repeat (first | apply Kd.R_alloc | apply Kd.R_drewN | apply Kd.R_drew)); exact HO_7.out) hb); have n2_ := Aside0.mk (Kd.V_below (by (with_reducible repeat (first | apply Kd.V_alloc | apply Kd.V_drewN | apply Kd.V_drew)); exact HO_9.out) hb); have n3_ := Aside0.mk (Kd.V_lower (Kd.V_mono (ok' := fun k_ => some k_ ≠ (.slice Ao11 t101.length co11 : Value).ownBlock ∧ some k_ ≠ (v107 : Value).ownBlock) ho0 (fun k_ hk_ => ⟨(Kd.fresh' (Kd.Q_lt (by (with_reducible repeat (first | apply Kd.Q_alloc | apply Kd.Q_drewN | apply Kd.Q_drew)); exact HO_5.out)) k_ hk_), (Kd.fresh' (Kd.R_lt (by (with_reducible repeat (first | apply Kd.R_alloc | apply Kd.R_drewN | apply Kd.R_drew)); exact HO_7.out)) k_ hk_)⟩)) (below_size (by repeat (first | (with_reducible first | exact HB.out | apply below_alloc | apply pw_below_drewN | apply below_drew1) | exact HB.out)))); have n4_ := Aside0.mk (below_step (by repeat (first | (with_reducible first | exact HB.out | apply below_alloc | apply pw_below_drewN | apply below_drew1) | exact HB.out)) hb); clear HO_5; clear HO_7; clear HO_9; clear HB; have HO_5 := n0_; have HO_7 := n1_; have HO_9 := n2_; have HO119 := n3_; have HB := n4_; clear n0_ n1_ n2_ n3_ n4_; (try clear hb); (try clear hb2); (try clear hk); (try clear hi); (try clear ho0); obtain ⟨Ao71, co71, eo71⟩ := Kd.V_slice HO119.out; subst eo71; have q72 : ((ji36) : Int) ≤ ((t117.length : Int) : Int) := of_decide_eq_true (by first | (with_reducible assumption) | assumption); obtain ⟨i072, hi072, _, hsz72, _⟩ := info_parts info67; have hroom72 : t117.length ≤ co71 := (Kd.V_reads' HO119.out).2.1; have hC72 : Kd.F k67 _ _ Ao71 t117.length t117 := (Kd.V_at (base := w.heap.size) HO119.out).2.2; have hcut72 := cut_to (P := Tryz.prog) 54 67 .i64 Tryz.underlying54 hi072 Ao71 t117.length co71 (ji36) (of_decide_eq_true (by first | (with_reducible assumption) | assumption)) q72 hroom72; have hr72 := Kd.F_take (m := ((ji36) : Int).toNat) hC72 (by omega); have hy72 : y120.length = ((ji36) : Int).toNat := (by rw [Ny120.out, List.length_take]; omega); rw [← Ny120.out] at hr72; rw [← hy72] at hcut72; have HO124 := Aside0.mk (show Kd.V k67 67 _ w.heap.size _ (.slice Ao71 y120.length co71) y120 from Kd.V_mk (by omega) hr72); have HC124 := Aside0.mk (show y120.length ≤ co71 from by omega); clear hr72 hC72 hroom72 hi072 hsz72; have KY72 := Aside0.mk hy72; clear hy72; replace q72 := eq_true q72) | ((with_reducible refine gate_callee (f := 40) rfl ?_); refine goesL_ (some 79) rfl rfl Tryz.func40 (by kernel_rfl) rfl #[.slice Ao71 y120.length co71] rfl (by (try simp only [List.map_toArray, List.map_cons, List.map_nil]); first | done | rfl | (simp only [List.length_drop, List.length_take]; rfl)) ?_; (with_reducible refine (laws_lzSize.calls kj8 _ _ y120 t125 _ ?side1 ?side2 A39.out).mono ?_); (case side1 => repeat (first | exact (Kd.V_reads' HO124.out).2.2 | (with_reducible refine Kd.C_alloc ?_ _) | (with_reducible refine Kd.C_drewN ?_ _) | (with_reducible refine Kd.C_drew ?_))); (case side2 => exact (Kd.V_reads' HO124.out).2.1); rintro e w' ⟨rfl, ⟨nd, rfl⟩⟩; refine ⟨_, rfl, ?_⟩) | ((with_reducible refine gate_callee (f := 25) rfl ?_); refine goesL_ (some 85) rfl rfl Tryz.func25 (by kernel_rfl) rfl #[.slice Ao11 t101.length co11, .string (t102.extract 0 (t125 : Int).toNat)] rfl (by (try simp only [List.map_toArray, List.map_cons, List.map_nil]); first | done | rfl | (simp only [List.length_drop, List.length_take]; rfl)) ?_; (with_reducible refine (impl_MapTextOut.calls kj8 (fun k_ => some k_ = (.slice Ao11 t101.length co11 : Value).ownBlock) _ _ t101 (t102.extract 0 (t125 : Int).toNat) t126 t129 _ ?side1 ?side2 A42.out).mono ?_); (case side1 => exact Kd.Q_V (Kd.Q_tight rfl (HO_5.out))); (case side2 => exact hV.next (by repeat (first | (with_reducible first | exact HB.out | apply below_alloc | apply pw_below_drewN | apply below_drew1) | exact HB.out))); rintro e w73 ⟨v127, rfl, ho0, hb⟩; refine ⟨_, rfl, ?_⟩; have n0_ := Aside0.mk (Kd.Q_below (by (with_reducible repeat (first | apply Kd.Q_alloc | apply Kd.Q_drewN | apply Kd.Q_drew)); exact HO_5.out) hb); have n1_ := Aside0.mk (Kd.R_below (by (with_reducible repeat (first | apply Kd.R_alloc | apply Kd.R_drewN | apply Kd.R_drew)); exact HO_7.out) hb); have n2_ := Aside0.mk (Kd.V_below (by (with_reducible repeat (first | apply Kd.V_alloc | apply Kd.V_drewN | apply Kd.V_drew)); exact HO_9.out) hb); have n3_ := Aside0.mk (Kd.V_below (by (with_reducible repeat (first | apply Kd.V_alloc | apply Kd.V_drewN | apply Kd.V_drew)); exact HO119.out) hb); have n4_ := Aside0.mk (Kd.V_below (by (with_reducible repeat (first | apply Kd.V_alloc | apply Kd.V_drewN | apply Kd.V_drew)); exact HO124.out) hb); have n5_ := Aside0.mk (Kd.V_lower (Kd.V_mono (ok' := fun k_ => some k_ ≠ (v107 : Value).ownBlock) ho0 (fun k_ hk_ => Or.elim hk_ (fun hs_ => ((HO_5.out).1 k_ hs_.symm)) (fun hn_ => (Kd.fresh' (Kd.R_lt (by (with_reducible repeat (first | apply Kd.R_alloc | apply Kd.R_drewN | apply Kd.R_drew)); exact HO_7.out)) k_ hn_)))) (below_size (by repeat (first | (with_reducible first | exact HB.out | apply below_alloc | apply pw_below_drewN | apply below_drew1) | exact HB.out)))); have n6_ := Aside0.mk (below_step (by repeat (first | (with_reducible first | exact HB.out | apply below_alloc | apply pw_below_drewN | apply below_drew1) | exact HB.out)) hb); clear HO_5; clear HO_7; clear HO_9; clear HO119; clear HO124; clear HB; have HO_5 := n0_; have HO_7 := n1_; have HO_9 := n2_; have HO119 := n3_; have HO124 := n4_; have HO128 := n5_; have HB := n6_; clear n0_ n1_ n2_ n3_ n4_ n5_ n6_; (try clear hb); (try clear hb2); (try clear hk); (try clear hi); (try clear ho0); obtain ⟨Ao74, co74, eo74⟩ := Kd.V_slice HO128.out; subst eo74) | ((with_reducible refine gate_callee (f := 25) rfl ?_); refine goesL_ (some 93) rfl rfl Tryz.func25 (by kernel_rfl) rfl #[.slice Ao74 t126.length co74, .string (t102.extract (t125 : Int).toNat t102.size)] rfl (by (try simp only [List.map_toArray, List.map_cons, List.map_nil]); first | done | rfl | (simp only [List.length_drop, List.length_take]; rfl)) ?_; (with_reducible refine (impl_MapTextOut.calls kj8 (fun k_ => some k_ ≠ (v107 : Value).ownBlock) _ _ t126 (t102.extract (t125 : Int).toNat t102.size) t130 t133 _ ?side1 ?side2 A45.out).mono ?_); (case side1 => exact HO128.out); (case side2 => exact hV.next (by repeat (first | (with_reducible first | exact HB.out | apply below_alloc | apply pw_below_drewN | apply below_drew1) | exact HB.out))); rintro e w75 ⟨v131, rfl, ho0, hb⟩; refine ⟨_, rfl, ?_⟩; have n0_ := Aside0.mk (Kd.Q_below (by (with_reducible repeat (first | apply Kd.Q_alloc | apply Kd.Q_drewN | apply Kd.Q_drew)); exact HO_5.out) hb); have n1_ := Aside0.mk (Kd.R_below (by (with_reducible repeat (first | apply Kd.R_alloc | apply Kd.R_drewN | apply Kd.R_drew)); exact HO_7.out) hb); have n2_ := Aside0.mk (Kd.V_below (by (with_reducible repeat (first | apply Kd.V_alloc | apply Kd.V_drewN | apply Kd.V_drew)); exact HO_9.out) hb); have n3_ := Aside0.mk (Kd.V_below (by (with_reducible repeat (first | apply Kd.V_alloc | apply Kd.V_drewN | apply Kd.V_drew)); exact HO119.out) hb); have n4_ := Aside0.mk (Kd.V_below (by (with_reducible repeat (first | apply Kd.V_alloc | apply Kd.V_drewN | apply Kd.V_drew)); exact HO124.out) hb); have n5_ := Aside0.mk (Kd.V_below (by (with_reducible repeat (first | apply Kd.V_alloc | apply Kd.V_drewN | apply Kd.V_drew)); exact HO128.out) hb); have n6_ := Aside0.mk (Kd.V_lower (Kd.V_mono (ok' := fun k_ => some k_ ≠ (v107 : Value).ownBlock) ho0 (fun k_ hk_ => Or.elim hk_ (fun hs_ => hs_) (fun hn_ => (Kd.fresh' (Kd.R_lt (by (with_reducible repeat (first | apply Kd.R_alloc | apply Kd.R_drewN | apply Kd.R_drew)); exact HO_7.out)) k_ hn_)))) (below_size (by repeat (first | (with_reducible first | exact HB.out | apply below_alloc | apply pw_below_drewN | apply below_drew1) | exact HB.out)))); have n7_ := Aside0.mk (below_step (by repeat (first | (with_reducible first | exact HB.out | apply below_alloc | apply pw_below_drewN | apply below_drew1) | exact HB.out)) hb); clear HO_5; clear HO_7; clear HO_9; clear HO119; clear HO124; clear HO128; clear HB; have HO_5 := n0_; have HO_7 := n1_; have HO_9 := n2_; have HO119 := n3_; have HO124 := n4_; have HO128 := n5_; have HO132 := n6_; have HB := n7_; clear n0_ n1_ n2_ n3_ n4_ n5_ n6_ n7_; (try clear hb); (try clear hb2); (try clear hk); (try clear hi); (try clear ho0)) | ((with_reducible refine gate_callee (f := 17) rfl ?_); refine goesL_ (some 99) rfl rfl Tryz.func17 (by kernel_rfl) rfl #[.string (t102.extract 0 (t125 : Int).toNat)] rfl (by (try simp only [List.map_toArray, List.map_cons, List.map_nil]); first | done | rfl | (simp only [List.length_drop, List.length_take]; rfl)) ?_; (with_reducible refine (impl_TextHeld.calls (t102.extract 0 (t125 : Int).toNat) t134 _ A48.out).mono ?_); rintro e w76 ⟨rfl, hb⟩; refine ⟨_, rfl, ?_⟩; have n0_ := Aside0.mk (Kd.Q_below (by (with_reducible repeat (first | apply Kd.Q_alloc | apply Kd.Q_drewN | apply Kd.Q_drew)); exact HO_5.out) hb); have n1_ := Aside0.mk (Kd.R_below (by (with_reducible repeat (first | apply Kd.R_alloc | apply Kd.R_drewN | apply Kd.R_drew)); exact HO_7.out) hb); have n2_ := Aside0.mk (Kd.V_below (by (with_reducible repeat (first | apply Kd.V_alloc | apply Kd.V_drewN | apply Kd.V_drew)); exact HO_9.out) hb); have n3_ := Aside0.mk (Kd.V_below (by (with_reducible repeat (first | apply Kd.V_alloc | apply Kd.V_drewN | apply Kd.V_drew)); exact HO119.out) hb); have n4_ := Aside0.mk (Kd.V_below (by (with_reducible repeat (first | apply Kd.V_alloc | apply Kd.V_drewN | apply Kd.V_drew)); exact HO124.out) hb); have n5_ := Aside0.mk (Kd.V_below (by (with_reducible repeat (first | apply Kd.V_alloc | apply Kd.V_drewN | apply Kd.V_drew)); exact HO128.out) hb); have n6_ := Aside0.mk (Kd.V_below (by (with_reducible repeat (first | apply Kd.V_alloc | apply Kd.V_drewN | apply Kd.V_drew)); exact HO132.out) hb); have n7_ := Aside0.mk (below_step (by repeat (first | (with_reducible first | exact HB.out | apply below_alloc | apply pw_below_drewN | apply below_drew1) | exact HB.out)) hb); clear HO_5; clear HO_7; clear HO_9; clear HO119; clear HO124; clear HO128; clear HO132; clear HB; have HO_5 := n0_; have HO_7 := n1_; have HO_9 := n2_; have HO119 := n3_; have HO124 := n4_; have HO128 := n5_; have HO132 := n6_; have HB := n7_; clear n0_ n1_ n2_ n3_ n4_ n5_ n6_ n7_; (try clear hb); (try clear hb2); (try clear hk); (try clear hi); obtain ⟨Ao77, co77, eo77⟩ := Kd.V_slice HO132.out; subst eo77; obtain ⟨Ao78, co78, eo78⟩ := Kd.V_slice HO_9.out; subst eo78) | (go_at_call 29; (with_reducible refine (laws_lzMap.calls kj8 _ _ t130 _ _ t109 t135 _ ?side1 ?side2 ?side3 ?side4 A69.out).mono ?_); (case side1 => repeat (first | exact (Kd.V_reads' HO132.out).2.2 | (with_reducible refine Kd.C_alloc ?_ _) | (with_reducible refine Kd.C_drewN ?_ _) | (with_reducible refine Kd.C_drew ?_))); (case side2 => exact (Kd.V_reads' HO132.out).2.1); (case side3 => repeat (first | exact (Kd.V_reads' HO_9.out).2.2 | (with_reducible refine Kd.C_alloc ?_ _) | (with_reducible refine Kd.C_drewN ?_ _) | (with_reducible refine Kd.C_drew ?_))); (case side4 => exact (Kd.V_reads' HO_9.out).2.1); rintro e w' ⟨rfl, ⟨nd, rfl⟩⟩))
                              go_ret
                              exact ⟨by first | rfl | (simp [errW_none, errW_some] <;> rfl) | (simp only [← hji36]; first | rfl | (simp [errW_none, errW_some] <;> rfl)) | (simp [*, errW_none, errW_some] <;> rfl), by repeat (first | (with_reducible first | exact HB.out | apply below_alloc | apply pw_below_drewN | apply below_drew1) | exact HB.out)⟩
                            · rw [if_neg c68] at H
                              have c68b0 : ((t129 ++ t133).toList == t112.toList) = false := beq_eq_false_iff_ne.mpr c68
                              have c68b1 : ((t129 ++ t133).toList != t112.toList) = true := bne_iff_ne.mpr c68
                              obtain rfl := Option.some.inj H
                              go_wp2_with (first | ((with_reducible refine gate_callee (f := 39) rfl ?_); refine goesL_ (some 70) rfl rfl Tryz.func39 (by kernel_rfl) rfl #[.string t102] rfl (by (try simp only [List.map_toArray, List.map_cons, List.map_nil]); first | done | rfl | (simp only [List.length_drop, List.length_take]; rfl)) ?_; (with_reducible refine (impl_TextPieces.calls kj8 t102 t117 _ ?side1 A34.out).mono ?_); (case side1 => exact hV.next (by repeat (first | (with_reducible first | exact HB.out | apply below_alloc | apply pw_below_drewN | apply below_drew1) | exact HB.out))); rintro e w79 ⟨v118, rfl, ho0, hb⟩; refine ⟨_, rfl, ?_⟩; have n0_ := Aside0.mk (Kd.Q_below (by (with_reducible repeat (first | apply Kd.Q_alloc | apply Kd.Q_drewN | apply Kd.Q_drew)); exact HO_5.out) hb); have n1_ := Aside0.mk (Kd.R_below (by (with_reducible repeat (first | apply Kd.R_alloc | apply Kd.R_drewN | apply Kd.R_drew)); exact HO_7.out) hb); have n2_ := Aside0.mk (Kd.V_below (by (with_reducible repeat (first | apply Kd.V_alloc | apply Kd.V_drewN | apply Kd.V_drew)); exact HO_9.out) hb); have n3_ := Aside0.mk (Kd.V_lower (Kd.V_mono (ok' := fun k_ => some k_ ≠ (.slice Ao11 t101.length co11 : Value).ownBlock ∧ some k_ ≠ (v107 : Value).ownBlock) ho0 (fun k_ hk_ => ⟨(Kd.fresh' (Kd.Q_lt (by (with_reducible repeat (first | apply Kd.Q_alloc | apply Kd.Q_drewN | apply Kd.Q_drew)); exact HO_5.out)) k_ hk_), (Kd.fresh' (Kd.R_lt (by (with_reducible repeat (first | apply Kd.R_alloc | apply Kd.R_drewN | apply Kd.R_drew)); exact HO_7.out)) k_ hk_)⟩)) (below_size (by repeat (first | (with_reducible first | exact HB.out | apply below_alloc | apply pw_below_drewN | apply below_drew1) | exact HB.out)))); have n4_ := Aside0.mk (below_step (by repeat (first | (with_reducible first | exact HB.out | apply below_alloc | apply pw_below_drewN | apply below_drew1) | exact HB.out)) hb); clear HO_5; clear HO_7; clear HO_9; clear HB; have HO_5 := n0_; have HO_7 := n1_; have HO_9 := n2_; have HO119 := n3_; have HB := n4_; clear n0_ n1_ n2_ n3_ n4_; (try clear hb); (try clear hb2); (try clear hk); (try clear hi); (try clear ho0); obtain ⟨Ao80, co80, eo80⟩ := Kd.V_slice HO119.out; subst eo80; have q81 : ((ji36) : Int) ≤ ((t117.length : Int) : Int) := of_decide_eq_true (by first | (with_reducible assumption) | assumption); obtain ⟨i081, hi081, _, hsz81, _⟩ := info_parts info67; have hroom81 : t117.length ≤ co80 := (Kd.V_reads' HO119.out).2.1; have hC81 : Kd.F k67 _ _ Ao80 t117.length t117 := (Kd.V_at (base := w.heap.size) HO119.out).2.2; have hcut81 := cut_to (P := Tryz.prog) 54 67 .i64 Tryz.underlying54 hi081 Ao80 t117.length co80 (ji36) (of_decide_eq_true (by first | (with_reducible assumption) | assumption)) q81 hroom81; have hr81 := Kd.F_take (m := ((ji36) : Int).toNat) hC81 (by omega); have hy81 : y120.length = ((ji36) : Int).toNat := (by rw [Ny120.out, List.length_take]; omega); rw [← Ny120.out] at hr81; rw [← hy81] at hcut81; have HO124 := Aside0.mk (show Kd.V k67 67 _ w.heap.size _ (.slice Ao80 y120.length co80) y120 from Kd.V_mk (by omega) hr81); have HC124 := Aside0.mk (show y120.length ≤ co80 from by omega); clear hr81 hC81 hroom81 hi081 hsz81; have KY81 := Aside0.mk hy81; clear hy81; replace q81 := eq_true q81) | ((with_reducible refine gate_callee (f := 40) rfl ?_); refine goesL_ (some 79) rfl rfl Tryz.func40 (by kernel_rfl) rfl #[.slice Ao80 y120.length co80] rfl (by (try simp only [List.map_toArray, List.map_cons, List.map_nil]); first | done | rfl | (simp only [List.length_drop, List.length_take]; rfl)) ?_; (with_reducible refine (laws_lzSize.calls kj8 _ _ y120 t125 _ ?side1 ?side2 A39.out).mono ?_); (case side1 => repeat (first | exact (Kd.V_reads' HO124.out).2.2 | (with_reducible refine Kd.C_alloc ?_ _) | (with_reducible refine Kd.C_drewN ?_ _) | (with_reducible refine Kd.C_drew ?_))); (case side2 => exact (Kd.V_reads' HO124.out).2.1); rintro e w' ⟨rfl, ⟨nd, rfl⟩⟩; refine ⟨_, rfl, ?_⟩) | ((with_reducible refine gate_callee (f := 25) rfl ?_); refine goesL_ (some 85) rfl rfl Tryz.func25 (by kernel_rfl) rfl #[.slice Ao11 t101.length co11, .string (t102.extract 0 (t125 : Int).toNat)] rfl (by (try simp only [List.map_toArray, List.map_cons, List.map_nil]); first | done | rfl | (simp only [List.length_drop, List.length_take]; rfl)) ?_; (with_reducible refine (impl_MapTextOut.calls kj8 (fun k_ => some k_ = (.slice Ao11 t101.length co11 : Value).ownBlock) _ _ t101 (t102.extract 0 (t125 : Int).toNat) t126 t129 _ ?side1 ?side2 A42.out).mono ?_); (case side1 => exact Kd.Q_V (Kd.Q_tight rfl (HO_5.out))); (case side2 => exact hV.next (by repeat (first | (with_reducible first | exact HB.out | apply below_alloc | apply pw_below_drewN | apply below_drew1) | exact HB.out))); rintro e w82 ⟨v127, rfl, ho0, hb⟩; refine ⟨_, rfl, ?_⟩; have n0_ := Aside0.mk (Kd.Q_below (by (with_reducible repeat (first | apply Kd.Q_alloc | apply Kd.Q_drewN | apply Kd.Q_drew)); exact HO_5.out) hb); have n1_ := Aside0.mk (Kd.R_below (by (with_reducible repeat (first | apply Kd.R_alloc | apply Kd.R_drewN | apply Kd.R_drew)); exact HO_7.out) hb); have n2_ := Aside0.mk (Kd.V_below (by (with_reducible repeat (first | apply Kd.V_alloc | apply Kd.V_drewN | apply Kd.V_drew)); exact HO_9.out) hb); have n3_ := Aside0.mk (Kd.V_below (by (with_reducible repeat (first | apply Kd.V_alloc | apply Kd.V_drewN | apply Kd.V_drew)); exact HO119.out) hb); have n4_ := Aside0.mk (Kd.V_below (by (with_reducible repeat (first | apply Kd.V_alloc | apply Kd.V_drewN | apply Kd.V_drew)); exact HO124.out) hb); have n5_ := Aside0.mk (Kd.V_lower (Kd.V_mono (ok' := fun k_ => some k_ ≠ (v107 : Value).ownBlock) ho0 (fun k_ hk_ => Or.elim hk_ (fun hs_ => ((HO_5.out).1 k_ hs_.symm)) (fun hn_ => (Kd.fresh' (Kd.R_lt (by (with_reducible repeat (first | apply Kd.R_alloc | apply Kd.R_drewN | apply Kd.R_drew)); exact HO_7.out)) k_ hn_)))) (below_size (by repeat (first | (with_reducible first | exact HB.out | apply below_alloc | apply pw_below_drewN | apply below_drew1) | exact HB.out)))); have n6_ := Aside0.mk (below_step (by repeat (first | (with_reducible first | exact HB.out | apply below_alloc | apply pw_below_drewN | apply below_drew1) | exact HB.out)) hb); clear HO_5; clear HO_7; clear HO_9; clear HO119; clear HO124; clear HB; have HO_5 := n0_; have HO_7 := n1_; have HO_9 := n2_; have HO119 := n3_; have HO124 := n4_; have HO128 := n5_; have HB := n6_; clear n0_ n1_ n2_ n3_ n4_ n5_ n6_; (try clear hb); (try clear hb2); (try clear hk); (try clear hi); (try clear ho0); obtain ⟨Ao83, co83, eo83⟩ := Kd.V_slice HO128.out; subst eo83) | ((with_reducible refine gate_callee (f := 25) rfl ?_); refine goesL_ (some 93) rfl rfl Tryz.func25 (by kernel_rfl) rfl #[.slice Ao83 t126.length co83, .string (t102.extract (t125 : Int).toNat t102.size)] rfl (by (try simp only [List.map_toArray, List.map_cons, List.map_nil]); first | done | rfl | (simp only [List.length_drop, List.length_take]; rfl)) ?_; (with_reducible refine (impl_MapTextOut.calls kj8 (fun k_ => some k_ ≠ (v107 : Value).ownBlock) _ _ t126 (t102.extract (t125 : Int).toNat t102.size) t130 t133 _ ?side1 ?side2 A45.out).mono ?_); (case side1 => exact HO128.out); (case side2 => exact hV.next (by repeat (first | (with_reducible first | exact HB.out | apply below_alloc | apply pw_below_drewN | apply below_drew1) | exact HB.out))); rintro e w84 ⟨v131, rfl, ho0, hb⟩; refine ⟨_, rfl, ?_⟩; have n0_ := Aside0.mk (Kd.Q_below (by (with_reducible repeat (first | apply Kd.Q_alloc | apply Kd.Q_drewN | apply Kd.Q_drew)); exact HO_5.out) hb); have n1_ := Aside0.mk (Kd.R_below (by (with_reducible repeat (first | apply Kd.R_alloc | apply Kd.R_drewN | apply Kd.R_drew)); exact HO_7.out) hb); have n2_ := Aside0.mk (Kd.V_below (by (with_reducible repeat (first | apply Kd.V_alloc | apply Kd.V_drewN | apply Kd.V_drew)); exact HO_9.out) hb); have n3_ := Aside0.mk (Kd.V_below (by (with_reducible repeat (first | apply Kd.V_alloc | apply Kd.V_drewN | apply Kd.V_drew)); exact HO119.out) hb); have n4_ := Aside0.mk (Kd.V_below (by (with_reducible repeat (first | apply Kd.V_alloc | apply Kd.V_drewN | apply Kd.V_drew)); exact HO124.out) hb); have n5_ := Aside0.mk (Kd.V_below (by (with_reducible repeat (first | apply Kd.V_alloc | apply Kd.V_drewN | apply Kd.V_drew)); exact HO128.out) hb); have n6_ := Aside0.mk (Kd.V_lower (Kd.V_mono (ok' := fun k_ => some k_ ≠ (v107 : Value).ownBlock) ho0 (fun k_ hk_ => Or.elim hk_ (fun hs_ => hs_) (fun hn_ => (Kd.fresh' (Kd.R_lt (by (with_reducible repeat (first | apply Kd.R_alloc | apply Kd.R_drewN | apply Kd.R_drew)); exact HO_7.out)) k_ hn_)))) (below_size (by repeat (first | (with_reducible first | exact HB.out | apply below_alloc | apply pw_below_drewN | apply below_drew1) | exact HB.out)))); have n7_ := Aside0.mk (below_step (by repeat (first | (with_reducible first | exact HB.out | apply below_alloc | apply pw_below_drewN | apply below_drew1) | exact HB.out)) hb); clear HO_5; clear HO_7; clear HO_9; clear HO119; clear HO124; clear HO128; clear HB; have HO_5 := n0_; have HO_7 := n1_; have HO_9 := n2_; have HO119 := n3_; have HO124 := n4_; have HO128 := n5_; have HO132 := n6_; have HB := n7_; clear n0_ n1_ n2_ n3_ n4_ n5_ n6_ n7_; (try clear hb); (try clear hb2); (try clear hk); (try clear hi); (try clear ho0)) | ((with_reducible refine gate_callee (f := 17) rfl ?_); refine goesL_ (some 99) rfl rfl Tryz.func17 (by kernel_rfl) rfl #[.string (t102.extract 0 (t125 : Int).toNat)] rfl (by (try simp only [List.map_toArray, List.map_cons, List.map_nil]); first | done | rfl | (simp only [List.length_drop, List.length_take]; rfl)) ?_; (with_reducible refine (impl_TextHeld.calls (t102.extract 0 (t125 : Int).toNat) t134 _ A48.out).mono ?_); rintro e w85 ⟨rfl, hb⟩; refine ⟨_, rfl, ?_⟩; have n0_ := Aside0.mk (Kd.Q_below (by (with_reducible repeat (first | apply Kd.Q_alloc | apply Kd.Q_drewN | apply Kd.Q_drew)); exact HO_5.out) hb); have n1_ := Aside0.mk (Kd.R_below (by (with_reducible repeat (first | apply Kd.R_alloc | apply Kd.R_drewN | apply Kd.R_drew)); exact HO_7.out) hb); have n2_ := Aside0.mk (Kd.V_below (by (with_reducible repeat (first | apply Kd.V_alloc | apply Kd.V_drewN | apply Kd.V_drew)); exact HO_9.out) hb); have n3_ := Aside0.mk (Kd.V_below (by (with_reducible repeat (first | apply Kd.V_alloc | apply Kd.V_drewN | apply Kd.V_drew)); exact HO119.out) hb); have n4_ := Aside0.mk (Kd.V_below (by (with_reducible repeat (first | apply Kd.V_alloc | apply Kd.V_drewN | apply Kd.V_drew)); exact HO124.out) hb); have n5_ := Aside0.mk (Kd.V_below (by (with_reducible repeat (first | apply Kd.V_alloc | apply Kd.V_drewN | apply Kd.V_drew)); exact HO128.out) hb); have n6_ := Aside0.mk (Kd.V_below (by (with_reducible repeat (first | apply Kd.V_alloc | apply Kd.V_drewN | apply Kd.V_drew)); exact HO132.out) hb); have n7_ := Aside0.mk (below_step (by repeat (first | (with_reducible first | exact HB.out | apply below_alloc | apply pw_below_drewN | apply below_drew1) | exact HB.out)) hb); clear HO_5; clear HO_7; clear HO_9; clear HO119; clear HO124; clear HO128; clear HO132; clear HB; have HO_5 := n0_; have HO_7 := n1_; have HO_9 := n2_; have HO119 := n3_; have HO124 := n4_; have HO128 := n5_; have HO132 := n6_; have HB := n7_; clear n0_ n1_ n2_ n3_ n4_ n5_ n6_ n7_; (try clear hb); (try clear hb2); (try clear hk); (try clear hi)))
                              go_ret
                              exact ⟨by first | rfl | (simp [errW_none, errW_some] <;> rfl) | (simp only [← hji36]; first | rfl | (simp [errW_none, errW_some] <;> rfl)) | (simp [*, errW_none, errW_some] <;> rfl), by repeat (first | (with_reducible first | exact HB.out | apply below_alloc | apply pw_below_drewN | apply below_drew1) | exact HB.out)⟩
                          · rw [if_neg c67] at H
                            exact absurd H (by simp)
                      · rw [if_neg c41] at H
                        exact absurd H (by simp)
                    · rw [if_neg c40] at H
                      exact absurd H (by simp)
                  · rw [if_neg c38] at H
                    exact absurd H (by simp)
                · rw [if_neg c37] at H
                  exact absurd H (by simp)
end
end Go.Proofs.YtijompkonaiagaaGreatDoor.Q
namespace Go.Proofs.YtijompkonaiagaaGreatDoor.Q
open Go.RowKit Go.Proofs.YtijompkonaiagaaGreatDoorW.PrintWords Go.Proofs.YtijompkonaiagaaGreatDoorW.PrintMore Go.Proofs.YtijompkonaiagaaGreatDoor.Z
set_option linter.unusedVariables false
set_option linter.unusedSimpArgs false
theorem impl_TextHeld_is (l : List UInt8) (hl : l.length ≤ 140737488355328) : impl_TextHeld.f (mkB l) = some (if textOk l then (heldN l : Int) else 0) := by
  unfold impl_TextHeld.f impl_TextOk.f impl_held.f
  rw [size_mkB, if_pos hl, bl_of, Option.bind_some]
  cases textOk l
  · rfl
  · rw [if_pos rfl, if_pos hl, Option.bind_some]
    rfl
theorem pcOf_sz (t : Tok) : (pcOf t).size = ((tx t).length : Int) := by cases t <;> rfl
theorem lzSize_l0 (T : List Tok) (hT : T.length ≤ 1000) (hF : (flat T).length ≤ 1000000) (n : Nat) : ∀ (k i c : Nat), T.length - i ≤ n → n < k → c + (flat (T.drop i)).length = (flat T).length → laws_lzSize.l0 k ((T.map pcOf).map pcTo) c i = some ((flat T).length : Int) := by
  induction n with
  | zero =>
    intro k i c hn hk hc
    obtain ⟨k, rfl⟩ : ∃ m, k = m + 1 := ⟨k - 1, by omega⟩
    simp only [laws_lzSize.l0]
    rw [if_neg (by rw [List.length_map, List.length_map]; omega), ← hc, List.drop_of_length_le (by omega)]
    rfl
  | succ n ih =>
    intro k i c hn hk hc
    obtain ⟨k, rfl⟩ : ∃ m, k = m + 1 := ⟨k - 1, by omega⟩
    simp only [laws_lzSize.l0]
    by_cases hlt : i < T.length
    · obtain ⟨t, ht⟩ : ∃ t, T[i]? = some t := ⟨_, List.getElem?_eq_getElem hlt⟩
      rw [drop_of ht, flat_cons, List.length_append] at hc
      have ih2 := ih k (i + 1) (c + (tx t).length) (by omega) (by omega) (by omega)
      have hw3 : wrap64 ((i : Int) + 1) = ((i + 1 : Nat) : Int) := by rw [w64 (by omega)]; omega
      have hw4 : wrap64 ((c : Int) + ((tx t).length : Int)) = ((c + (tx t).length : Nat) : Int) := by rw [w64 (by omega)]; omega
      have q0 : (i : Int) < (((T.map pcOf).map pcTo).length : Int) := by rw [List.length_map, List.length_map]; omega
      have q1 : (0 : Int) ≤ (i : Int) := by omega
      have hp : (T.map pcOf)[i]? = some (pcOf t) := by rw [List.getElem?_map, ht]; rfl
      have hf0 : (rd_T67 ((T.map pcOf).map pcTo) (i : Int)).f0 = ((tx t).length : Int) := by rw [rd_pc _ i _ hp]; exact pcOf_sz t
      rw [if_pos q0, if_pos q1, hf0, hw3, hw4]
      exact ih2
    · rw [if_neg (by rw [List.length_map, List.length_map]; omega), ← hc, List.drop_of_length_le (by omega)]
      rfl
theorem lzSize_is (k : Nat) (T : List Tok) (hT : T.length ≤ 1000) (hk : 1000 < k) (hF : (flat T).length ≤ 1000000) : laws_lzSize.f k ((T.map pcOf).map pcTo) = some ((flat T).length : Int) := by
  unfold laws_lzSize.f
  exact lzSize_l0 T hT hF 1000 k 0 0 (by omega) hk (by rw [List.drop_zero, Nat.zero_add])
theorem FnTextStep_true (code : List Int) (hc : ∀ b ∈ code, (0 : Int) ≤ b ∧ b ≤ 255) (more : List Int) (hmore : ∀ b ∈ more, (0 : Int) ≤ b ∧ b ≤ 255) : ∃ k, laws_FnTextStep.f k code more = some true := by
  obtain ⟨k, hk⟩ : ∃ k, 300000 < k := ⟨300001, by omega⟩
  refine ⟨k + 2, ?_⟩
  unfold laws_FnTextStep.f
  have h0 : laws_FnTextStep.j0 (k + 2) code more true = some true := by simp only [laws_FnTextStep.j0, if_true]
  by_cases hlen : (code.length : Int) > 1048576
  · rw [if_pos hlen]
    exact h0
  · rw [if_neg hlen]
    by_cases hlen2 : (more.length : Int) > 1048576
    · rw [decide_eq_true hlen2]
      exact h0
    · rw [decide_eq_false hlen2]
      obtain ⟨m, l, hD, hm, hl⟩ := drawOut_to (k + 1) (by omega) hc
      obtain ⟨x, t, hF⟩ : ∃ x t, mapOutT m l = (x, t) := ⟨_, _, rfl⟩
      have hS := spec_MapTextOut_to (k + 1) (by omega) m (by omega) l (by omega)
      have hI := impl_MapTextOut_to (k + 1) (by omega) m (by omega) l (by omega)
      have hxl := mapOutT_len m l
      rw [hF] at hS hI hxl
      simp only at hS hI hxl
      have hZ := lzMap_same (k + 1) (x.map prTo) (by rw [map_pr]; omega) (by omega)
      have hZ2 := lzMap_same k (x.map prTo) (by rw [map_pr]; omega) (by omega)
      have hO := spec_MapOk_is m (by omega)
      have hX := spec_TextOk_is l (by omega)
      simp only [laws_FnTextStep.j0, Bool.false_eq_true, if_false, hD, hS, hI, hZ, hO, hX, Option.bind_some, if_true]
      clear hD hS hI hZ hO hX hlen h0
      have hj : ∀ b, b = true → laws_FnTextStep.j1 (k + 1) more (m.map prTo) (mkB l) (x.map prTo) (mkB t) (x.map prTo) (mkB t) b = some true := by
        intro b hb
        simp only [laws_FnTextStep.j1, hb, hZ2, Option.bind_some, if_true]
      cases e1 : mapOkB m
      · simp only [Bool.false_eq_true, if_false]
        exact hj _ rfl
      · cases e2 : textOk l
        · simp only [if_true]
          exact hj _ rfl
        · simp only [if_true, Bool.not_true]
          clear hj
          have hP := impl_TextPieces_to k (by omega) l (by omega)
          have hpe : pieces l = (toks (body l)).map pcOf := by unfold pieces; rw [e2, if_pos rfl, pcL_toks]
          have hpl := pieces_len l
          rw [hpe] at hP hpl
          rw [List.length_map] at hpl
          obtain ⟨T, hT⟩ : ∃ T, toks (body l) = T := ⟨_, rfl⟩
          rw [hT] at hP hpl
          obtain ⟨j, hj1, hj2⟩ : ∃ j : Nat, (more.length : Int) % ((T.length : Int) + 1) = (j : Int) ∧ j ≤ T.length := by
            have h1 := Int.emod_nonneg (more.length : Int) (show (T.length : Int) + 1 ≠ 0 by omega)
            have h2 := Int.emod_lt_of_pos (more.length : Int) (show (0 : Int) < (T.length : Int) + 1 by omega)
            exact ⟨((more.length : Int) % ((T.length : Int) + 1)).toNat, by omega, by omega⟩
          have HJ := Aside0.mk hj1
          clear hj1
          have hsplit : toks (body l) = T.take j ++ T.drop j := by rw [hT, List.take_append_drop]
          obtain ⟨A, hA⟩ : ∃ A, T.take j = A := ⟨_, rfl⟩
          rw [hA] at hsplit
          obtain ⟨c1, c2, c3, c4⟩ := text_cut hsplit
          have hAl : A.length ≤ 1000 := by rw [← hA, List.length_take]; omega
          have hL := lzSize_is k A hAl (by omega) (by omega)
          obtain ⟨a, ha⟩ : ∃ a, (flat A).length = a := ⟨_, rfl⟩
          rw [ha] at hL c1 c2
          obtain ⟨y, b, hb⟩ : ∃ y b, mapOutT m (l.take a) = (y, b) := ⟨_, _, rfl⟩
          obtain ⟨z, d, hd⟩ : ∃ z d, mapOutT y (l.drop a) = (z, d) := ⟨_, _, rfl⟩
          have hta : (l.take a).length ≤ 100 := by rw [List.length_take]; omega
          have hda : (l.drop a).length ≤ 100 := by rw [List.length_drop]; omega
          have hB := impl_MapTextOut_to k (by omega) m (by omega) (l.take a) (Nat.le_trans hta (by omega))
          have hyl := mapOutT_len m (l.take a)
          rw [hb] at hB hyl
          simp only at hB hyl
          have hD := impl_MapTextOut_to k (by omega) y (by omega) (l.drop a) (Nat.le_trans hda (by omega))
          have hzl := mapOutT_len y (l.drop a)
          rw [hd] at hD hzl
          simp only at hD hzl
          have hH := impl_TextHeld_is (l.take a) (Nat.le_trans hta (by omega))
          rw [textOk_take e2, if_pos rfl] at hH
          have q0 : ¬ ((T.length : Int) + 1 = 0) := by omega
          have q1 : (0 : Int) ≤ (j : Int) := by omega
          have q2 : (j : Int) ≤ (T.length : Int) := by omega
          have q3 : (0 : Int) ≤ (a : Int) := by omega
          have q4 : (a : Int) ≤ (l.length : Int) := by omega
          have hwn : wrap64 ((T.length : Int) + 1) = (T.length : Int) + 1 := w64 (by omega)
          have hln : ((((T.map pcOf).map pcTo).length : Int)) = (T.length : Int) := by rw [List.length_map, List.length_map]
          simp only [laws_FnTextStep.j1, Bool.false_eq_true, if_false]
          rw [hP, Option.bind_some, hln, hwn, if_neg q0, HJ.out, if_pos q1, if_pos q2, Int.toNat_natCast, ← List.map_take, ← List.map_take, hA, hL, Option.bind_some, if_pos q3, size_mkB, if_pos q4, Int.toNat_natCast, ext0, extE, hB, Option.bind_some]
          simp only
          rw [hD, Option.bind_some]
          simp only
          rw [hH, Option.bind_some]
          simp only [size_mkB, Int.toNat_natCast, ext0]
          clear hP hwn hL hB hD hH hT
          by_cases hh : heldN (l.take a) = 0
          · rw [if_neg (by omega)]
            rw [← ha] at hb hd hh
            obtain ⟨f1, f2⟩ := text_step e1 e2 hF hsplit hh hb hd
            have e : mkB b ++ mkB d = mkB (b ++ d) := bytes_append _ _
            rw [if_pos (by omega), e, f1, f2, hZ2]
            simp
          · rw [if_pos (by omega)]
            rw [← ha] at hb
            obtain ⟨r, hr⟩ := text_step_held e1 e2 hF hsplit hb
            have hbl : b.length ≤ t.length := by rw [hr, List.length_append]; omega
            rw [if_pos (by omega), if_pos (by omega)]
            rw [show t.take b.length = b from by rw [hr, List.take_left], beq_self_eq_true]
end Go.Proofs.YtijompkonaiagaaGreatDoor.Q
namespace Go.Proofs.YtijompkonaiagaaGreatDoor.fnTextStep
open Go.ChangeShapes Go.WideShapes Go.ChangeAt Go.RowKit Go.Proofs.YtijompkonaiagaaGreatDoorW.PrintWords
open Go.ChangeMaps (open_string shut_string)
set_option linter.unusedVariables false
theorem own : ownKnob Tryz.prog.godebug = none := by kernel_rfl
theorem laidOut : laidOutB Tryz.prog = true := by kernel_rfl
set_option maxRecDepth 100000 in
theorem lifted (os : Os) (started : os.Started) (H : Type) (enc : TypeId × Value → H) :
    ReturnsInHanded {} Tryz.checked os 11 .any (fun w args => (Rows.fnTextStepSpec.pre enc Tryz.prog Tryz.f11 Rows.fnTextStepRow.domain false w args ∧ laidMetH Tryz.prog Z.laidL w) ∧ sizedMet enc Tryz.prog Tryz.f11 (OpenSpec.ofChange Rows.fnTextStepSpec) false w args)
      (Rows.fnTextStepSpec.post enc Tryz.prog Tryz.f11 false true false false) := by
  refine Z.wrap_laid (C := Tryz.checked) (X := fun w _ => laidMetH Tryz.prog Z.laidL w) (fun _ _ _ hh h => h.of_heap hh) own started (by kernel_rfl) Tryz.func11
    (ChangeSpec.witness_shaped (enc := enc) (C := Tryz.checked) (os := os) (X := fun w _ => laidMetH Tryz.prog Z.laidL w) false (World.laidAll Tryz.prog os Z.laidL) #[.slice none 0 0, .slice none 0 0] 8 (World.laidAll_os _ _ _)
      (World.shaped_of_ZipB (by kernel_rfl) (by kernel_rfl)) (by kernel_rfl) (by kernel_rfl) (by kernel_rfl) (Z.laid_met os _)) ?_
  intro W base args ds gs before hval0 hW hL hsh
  have hvars := Z.vars_of hL hsh
  have hval : ∀ (j : Nat) t v, Tryz.f11.params[j]? = some t → args[j]? = some v → Value.okWide Tryz.prog W .any base t v := hval0
  have hW' := hW
  obtain ⟨p, q, hA0, hV, rfl, hfz, hnd⟩ := hW
  have hA : DataW.TrodAll enc Tryz.prog W 0 (fun _ => true) true Tryz.f11.params.toList args.toList ds p := hA0
  rw [Tryz.params11] at hA hval
  obtain ⟨v0, vs0, d0, ds0, p0, q0, hargs, rfl, rfl, h0, r0⟩ := trodAll_cons hA
  obtain ⟨v1, vs1, d1, ds1, p1, q1, rfl, rfl, rfl, h1, r1⟩ := trodAll_cons r0
  obtain ⟨rfl, rfl, rfl⟩ := trodAll_nil r1
  obtain rfl : args = #[v0, v1] := by cases args; simp_all
  obtain ⟨rfl, rfl⟩ := trodVars_none hV
  obtain ⟨a0, len0, cap0, rfl⟩ := okWide_slice Tryz.underlying22 (hval 0 22 v0 rfl rfl)
  have k0 := h0
  have lt0 : ∀ x ∈ p0, x.block < W.heap.size := by obtain ⟨m, hm⟩ := k0; exact DataW.trod_lt m _ _ _ hm
  obtain ⟨fuel0, hf0⟩ := h0
  obtain ⟨xs0, ⟨A0, c0, hcs0, hl0, hC0⟩, hg0⟩ := Z.openBytes.2 _ _ _ _ _ _ _ _ _ hf0
  simp [Value.cells] at hcs0
  obtain ⟨rfl, rfl, rfl⟩ := hcs0
  obtain ⟨a1, len1, cap1, rfl⟩ := okWide_slice Tryz.underlying22 (hval 1 22 v1 rfl rfl)
  have k1 := h1
  have lt1 : ∀ x ∈ p1, x.block < W.heap.size := by obtain ⟨m, hm⟩ := k1; exact DataW.trod_lt m _ _ _ hm
  obtain ⟨fuel1, hf1⟩ := h1
  obtain ⟨xs1, ⟨A1, c1, hcs1, hl1, hC1⟩, hg1⟩ := Z.openBytes.2 _ _ _ _ _ _ _ _ _ hf1
  simp [Value.cells] at hcs1
  obtain ⟨rfl, rfl, rfl⟩ := hcs1
  clear hA0 hval0
  obtain ⟨k, hk⟩ := Q.FnTextStep_true xs0 (Z.bytes_le hg0) xs1 (Z.bytes_le hg1)
  refine (Q.laws_FnTextStep.calls k a0 cap0 xs0 a1 cap1 xs1 true W hC0 hl0 hC1 hl1 hvars hk).mono ?_
  rintro e W' ⟨rfl, bel⟩
  exact ⟨_, rfl, _, _, _, [], _, [], hW', trodAll_mk1 (shut_bool Tryz.underlying4 _), (trodAll_cons_mk (Below.trod laidOut (by kernel_rfl) (of_decide_eq_true (by kernel_rfl)) k0 bel lt0) (trodAll_cons_mk (Below.trod laidOut (by kernel_rfl) (of_decide_eq_true (by kernel_rfl)) k1 bel lt1) trodAll_mk0)), rfl, bel.frame _, fun h => by cases h⟩
theorem over : Rows.fnTextStepRow.holds Tryz.pinned (OpenSpec.ofChange Rows.fnTextStepSpec) :=
  OpenClaim.holds_of_wide 11 Tryz.f11 rfl rfl rfl rfl rfl rfl rfl ⟨rfl, rfl, rfl, rfl, rfl⟩ rfl rfl rfl rfl rfl (by kernel_rfl) Tryz.func11 (by kernel_rfl)
    (of_decide_eq_true (by kernel_rfl)) (by unfold Func.isWrapper; first | (rw [if_pos (by decide +kernel)]; kernel_rfl) | (rw [if_neg (by decide +kernel)]; exact ⟨rfl, rfl⟩))
    (fun os started H enc _ => lifted os started H enc)
end Go.Proofs.YtijompkonaiagaaGreatDoor.fnTextStep
namespace Go.Proofs.YtijompkonaiagaaGreatDoor
theorem fnTextStep_card : Rows.FnTextStepCardSaid :=
  Claim7.holds_tied_plain_at .later [] Rows.fnTextStepCard.laidKinds true Rows.fnTextStepCard.stood.harness true
    fnTextStep.over (fun _ h => by cases h) (by kernel_rfl) (fun _ h => by cases h) fnTextStep_row_tie rfl ⟨rfl, rfl⟩ (by kernel_rfl) rfl
    (fun f fn hf hfn => by
      obtain rfl : f = 11 := Option.some.inj ((show Tryz.prog.funcNamed Rows.fnTextStepRow.func = some 11 by kernel_rfl).symm.trans hf) |>.symm
      obtain rfl : fn = Tryz.f11 := (Option.some.inj (Tryz.func11.symm.trans hfn)).symm
      exact ⟨by kernel_rfl, fun j t ht => by
        rw [Tryz.params11] at ht
        have hm : t ∈ [22, 22] := by simpa using Array.mem_of_getElem? ht
        have hall : ([22, 22].all fun u => !Tryz.prog.wantsStandIn u) = true := by kernel_rfl
        exact (show Tryz.prog.wantsStandIn t = false by simpa using List.all_eq_true.1 hall t hm)⟩)
    (by kernel_rfl)
#print axioms fnTextStep_card
end Go.Proofs.YtijompkonaiagaaGreatDoor
