/- Plain laws of the printed functions: draws are within bounds, and end. The law FnTextPlain, plainly: its Lean function answers true at every code. How a row's argument, read as data, is a value of one of our kinds. How a row's code, a slice of bytes, is a list of small numbers. For every input FnTextPlain returns true and leaves its argument as it was. -/
import Derived.Test.YtjflklgoimdopaaGreatDoorRows
import Derived.Test.YtjflklgoimdopaaGreatDoorTie
import Derived.Test.YtjflklgoimdopaaGreatDoorCards
import Derived.Test.YtjflklgoimdopaaGreatDoorBt3
import Derived.Deep.Slices
import Derived.ChangeArms
import Derived.SevenTiedAt
import Derived.WalkKit
import Derived.ProofKit
import Derived.OpenShut
import Derived.ShutString
import Derived.ChangeOld
import Derived.Below
import Derived.SizedLaws
namespace Go.Proofs.YtjflklgoimdopaaGreatDoor.Q
open Go.RowKit Go.Proofs.YtjflklgoimdopaaGreatDoorW.PrintWords Go.Proofs.YtjflklgoimdopaaGreatDoorW.PrintLast Go.Proofs.YtjflklgoimdopaaGreatDoorW.PrintMore
attribute [local go_sem] max2_int min2_int max_two min_two max_three min_three max_four min_four   -- for this text's walks alone
set_option linter.unusedVariables false
set_option linter.unusedSimpArgs false

noncomputable section
/-! ### spec_l71Text: function 84 -/
def spec_l71Text.l0 : Nat → Int → ByteArray → Int → List Int → Int → Option (ByteArray × Int)
  | 0, _, _, _, _, _ => none
  | k + 1, x1, x5, x6, x1000, x1001 => if x6 > 0 then ((spec_l6Rd_of.f k x1000 x1001 (([(⟨#[97]⟩ : ByteArray), (⟨#[98, 99]⟩ : ByteArray), (⟨#[64]⟩ : ByteArray), (⟨#[64, 49]⟩ : ByteArray), (⟨#[59]⟩ : ByteArray), (⟨#[58, 53]⟩ : ByteArray), (⟨#[120, 49]⟩ : ByteArray), (⟨#[64, 64]⟩ : ByteArray), (⟨#[64, 49, 58]⟩ : ByteArray), (⟨#[55]⟩ : ByteArray)] : List ByteArray))).bind fun bt106 => ((spec_l6Rd_pick.f k x1000 bt106.2 5).bind fun bt108 => (if bt108.1 < 3 then ((spec_l71End.f k x1000 bt108.2).bind fun bt110 => ((spec_EndText.f bt110.1 bt110.2.1).bind fun t113 => (if 1 + t113.size ≤ 9223372036854775807 then (if ((⟨#[64]⟩ : ByteArray) ++ t113).size + 1 ≤ 9223372036854775807 then (if (wrap64 ((x5.size : Int) + ((((⟨#[64]⟩ : ByteArray) ++ t113) ++ (⟨#[59]⟩ : ByteArray)).size : Int))) ≤ x1 then (if x5.size + (((⟨#[64]⟩ : ByteArray) ++ t113) ++ (⟨#[59]⟩ : ByteArray)).size ≤ 9223372036854775807 then (spec_l71Text.l0 k x1 (x5 ++ (((⟨#[64]⟩ : ByteArray) ++ t113) ++ (⟨#[59]⟩ : ByteArray))) (wrap64 (x6 - 1)) x1000 bt110.2.2) else (none)) else (spec_l71Text.l0 k x1 x5 (wrap64 (x6 - 1)) x1000 bt110.2.2)) else (none)) else (none)))) else (if (wrap64 ((x5.size : Int) + (bt106.1.size : Int))) ≤ x1 then (if x5.size + bt106.1.size ≤ 9223372036854775807 then (spec_l71Text.l0 k x1 (x5 ++ bt106.1) (wrap64 (x6 - 1)) x1000 bt108.2) else (none)) else (spec_l71Text.l0 k x1 x5 (wrap64 (x6 - 1)) x1000 bt108.2))))) else (some (x5, x1001))
def spec_l71Text.f (k : Nat) (s0_0 : List Int) (s0_1 : Int) (a1 : Int) : Option (ByteArray × Int) := (spec_l6Rd_pick.f k s0_0 s0_1 7).bind fun bt101 => (spec_l71Text.l0 k a1 (⟨#[]⟩ : ByteArray) bt101.1 s0_0 bt101.2)
set_option maxHeartbeats 8000000 in
set_option maxRecDepth 100000 in
theorem spec_l71Text.calls (k : Nat) (g : Nat) (s0_0 : List Int) (s0_1 : Int) (a1 : Int) (r1 : ByteArray) (r2 : Int) (w0 w : World) (hI : IsS185 w0 w g s0_0 s0_1) (hB : Below w0.heap.size w0 w) (h : spec_l71Text.f k s0_0 s0_1 a1 = some (r1, r2)) :
    Calls Tryz.prog 84 #[.pointer (some ⟨g, 0, none⟩), .int .i64 a1] w fun e w' => e = .returned (.string r1) ∧ IsS185 w0 w' g s0_0 r2 ∧ Below w0.heap.size w0 w' ∧ KeepBut w w' g none := by
  have HI0 := Aside0.mk hI
  have HK := Aside0.mk (KeepBut.refl w g none)
  have HL := Aside0.mk hB.size
  clear hI
  have HW0 := Aside0.mk hB.size
  have HB := Aside0.mk hB
  clear hB
  have H : ((spec_l6Rd_pick.f k s0_0 s0_1 7).bind fun bt101 => (spec_l71Text.l0 k a1 (⟨#[]⟩ : ByteArray) bt101.1 s0_0 bt101.2)) = some (r1, r2) := h
  clear h
  replace H := Option.bind_eq_some_iff.mp H
  obtain ⟨⟨t101, t102⟩, A30, H⟩ := H
  replace H : (spec_l71Text.l0 k a1 (⟨#[]⟩ : ByteArray) t101 s0_0 t102) = some (r1, r2) := H
  have A3 := Aside0.mk A30
  clear A30
  have H' := Aside0.mk H
  clear H
  go_enter Tryz.func84, Tryz.ntmps84
  go_wp2_with (first | ((with_reducible refine gate_callee (f := 74) rfl ?_); refine goesL_ (some 9) rfl rfl Tryz.func74 (by kernel_rfl) rfl #[.pointer (some ⟨g, 0, none⟩), .int .i64 7] rfl (by (try simp only [List.map_toArray, List.map_cons, List.map_nil]); first | done | rfl | (simp only [List.length_drop, List.length_take]; rfl)) ?_; (with_reducible refine (spec_l6Rd_pick.calls k g s0_0 s0_1 7 t101 t102 w0 _ ?side1 ?side2 A3.out).mono ?_); (case side1 => repeat (first | (with_reducible first | exact HI0.out | apply IsS185.alloc | apply IsS185.drewN | apply IsS185.drew | apply IsS185.set_1) | exact HI0.out)); (case side2 => repeat (first | (with_reducible first | exact HB.out | apply below_alloc | apply pw_below_drewN | apply below_drew1 | refine below_set ?_ (IsS185.ge HI0.out)) | exact HB.out)); rintro e w4 ⟨rfl, hi, hb, hk⟩; refine ⟨_, rfl, ?_⟩; have n0_ := Aside0.mk (KeepBut.trans (by repeat (first | (with_reducible first | exact HK.out | apply KeepBut.set_ | apply keep_drewN | apply keep_drew | apply keep_alloc) | exact HK.out)) hk (.inl rfl)); have n1_ := Aside0.mk (hb); have n2_ := Aside0.mk (hi); clear HK; clear HB; clear HI0; have HK := n0_; have HB := n1_; have HI0 := n2_; clear n0_ n1_ n2_; (try clear hb); (try clear hb2); (try clear hk); (try clear hi)))
  go_loopg [5, 6] k (fun kq v5 v6 w' => ∃ (x5_1 : ByteArray) (x6_1 : Int) (x1001_1 : Int), v5 = .string x5_1 ∧ v6 = .int .i64 x6_1 ∧ Aside0 (spec_l71Text.l0 kq a1 x5_1 x6_1 s0_0 x1001_1 = some (r1, r2)) ∧ Aside0 (kq ≤ k) ∧ Aside0 (IsS185 w0 w' g s0_0 x1001_1) ∧ Aside0 (KeepBut w w' g none) ∧ Aside0 (Below w0.heap.size w0 w'))
  case atStart => exact ⟨((⟨#[]⟩ : ByteArray)), (t101), (t102), (by first | rfl | (simp; done) | (simp [*]; done)), (by first | rfl | (simp; done) | (simp [*]; done)), H', ⟨Nat.le_refl _⟩, ⟨by repeat (first | (with_reducible first | exact HI0.out | apply IsS185.alloc | apply IsS185.drewN | apply IsS185.drew | apply IsS185.set_1) | exact HI0.out)⟩, ⟨by repeat (first | (with_reducible first | exact HK.out | apply KeepBut.set_ | apply keep_drewN | apply keep_drew | apply keep_alloc) | exact HK.out)⟩, ⟨by repeat (first | (with_reducible first | exact HB.out | apply below_alloc | apply pw_below_drewN | apply below_drew1 | refine below_set ?_ (IsS185.ge HI0.out)) | exact HB.out)⟩⟩
  case round =>
    clear H'
    try clear p2
    obtain ⟨x5_1, x6_1, x1001_1, rfl, rfl, HA, HK1, HI0, HK, HB⟩ := hrel
    cases gk with
    | zero => exact absurd HA.out (by simp [spec_l71Text.l0])
    | succ k1 =>
      have H := HA.out
      clear HA
      simp only [spec_l71Text.l0] at H
      by_cases c5 : x6_1 > 0
      · rw [if_pos c5] at H
        have c5b0 : decide (0 < x6_1) = true := decide_eq_true c5
        clear c5
        obtain ⟨y103, hy103⟩ : ∃ y_ : List ByteArray, y_ = (([(⟨#[97]⟩ : ByteArray), (⟨#[98, 99]⟩ : ByteArray), (⟨#[64]⟩ : ByteArray), (⟨#[64, 49]⟩ : ByteArray), (⟨#[59]⟩ : ByteArray), (⟨#[58, 53]⟩ : ByteArray), (⟨#[120, 49]⟩ : ByteArray), (⟨#[64, 64]⟩ : ByteArray), (⟨#[64, 49, 58]⟩ : ByteArray), (⟨#[55]⟩ : ByteArray)] : List ByteArray)) := ⟨_, rfl⟩
        replace H : ((spec_l6Rd_of.f k1 s0_0 x1001_1 y103).bind fun bt106 => ((spec_l6Rd_pick.f k1 s0_0 bt106.2 5).bind fun bt108 => (if bt108.1 < 3 then ((spec_l71End.f k1 s0_0 bt108.2).bind fun bt110 => ((spec_EndText.f bt110.1 bt110.2.1).bind fun t113 => (if 1 + t113.size ≤ 9223372036854775807 then (if ((⟨#[64]⟩ : ByteArray) ++ t113).size + 1 ≤ 9223372036854775807 then (if (wrap64 ((x5_1.size : Int) + ((((⟨#[64]⟩ : ByteArray) ++ t113) ++ (⟨#[59]⟩ : ByteArray)).size : Int))) ≤ a1 then (if x5_1.size + (((⟨#[64]⟩ : ByteArray) ++ t113) ++ (⟨#[59]⟩ : ByteArray)).size ≤ 9223372036854775807 then (spec_l71Text.l0 k1 a1 (x5_1 ++ (((⟨#[64]⟩ : ByteArray) ++ t113) ++ (⟨#[59]⟩ : ByteArray))) (wrap64 (x6_1 - 1)) s0_0 bt110.2.2) else (none)) else (spec_l71Text.l0 k1 a1 x5_1 (wrap64 (x6_1 - 1)) s0_0 bt110.2.2)) else (none)) else (none)))) else (if (wrap64 ((x5_1.size : Int) + (bt106.1.size : Int))) ≤ a1 then (if x5_1.size + bt106.1.size ≤ 9223372036854775807 then (spec_l71Text.l0 k1 a1 (x5_1 ++ bt106.1) (wrap64 (x6_1 - 1)) s0_0 bt108.2) else (none)) else (spec_l71Text.l0 k1 a1 x5_1 (wrap64 (x6_1 - 1)) s0_0 bt108.2))))) = some (r1, r2) := by first | (rw [hy103]; with_reducible exact H) | (have H2_ := (Option.bind_some _ _).symm.trans H; rw [hy103]; with_reducible exact H2_) | (have H2_ := (Option.bind_some _ _).symm.trans H; with_reducible exact H2_) | with_reducible exact H | (rw [hy103]; exact H) | exact H
        have Ny103 := Aside0.mk hy103
        clear hy103
        replace H := Option.bind_eq_some_iff.mp H
        obtain ⟨⟨t106, t107⟩, A60, H⟩ := H
        replace H : ((spec_l6Rd_pick.f k1 s0_0 t107 5).bind fun bt108 => (if bt108.1 < 3 then ((spec_l71End.f k1 s0_0 bt108.2).bind fun bt110 => ((spec_EndText.f bt110.1 bt110.2.1).bind fun t113 => (if 1 + t113.size ≤ 9223372036854775807 then (if ((⟨#[64]⟩ : ByteArray) ++ t113).size + 1 ≤ 9223372036854775807 then (if (wrap64 ((x5_1.size : Int) + ((((⟨#[64]⟩ : ByteArray) ++ t113) ++ (⟨#[59]⟩ : ByteArray)).size : Int))) ≤ a1 then (if x5_1.size + (((⟨#[64]⟩ : ByteArray) ++ t113) ++ (⟨#[59]⟩ : ByteArray)).size ≤ 9223372036854775807 then (spec_l71Text.l0 k1 a1 (x5_1 ++ (((⟨#[64]⟩ : ByteArray) ++ t113) ++ (⟨#[59]⟩ : ByteArray))) (wrap64 (x6_1 - 1)) s0_0 bt110.2.2) else (none)) else (spec_l71Text.l0 k1 a1 x5_1 (wrap64 (x6_1 - 1)) s0_0 bt110.2.2)) else (none)) else (none)))) else (if (wrap64 ((x5_1.size : Int) + (t106.size : Int))) ≤ a1 then (if x5_1.size + t106.size ≤ 9223372036854775807 then (spec_l71Text.l0 k1 a1 (x5_1 ++ t106) (wrap64 (x6_1 - 1)) s0_0 bt108.2) else (none)) else (spec_l71Text.l0 k1 a1 x5_1 (wrap64 (x6_1 - 1)) s0_0 bt108.2)))) = some (r1, r2) := H
        have A6 := Aside0.mk A60
        clear A60
        replace H := Option.bind_eq_some_iff.mp H
        obtain ⟨⟨t108, t109⟩, A70, H⟩ := H
        replace H : (if t108 < 3 then ((spec_l71End.f k1 s0_0 t109).bind fun bt110 => ((spec_EndText.f bt110.1 bt110.2.1).bind fun t113 => (if 1 + t113.size ≤ 9223372036854775807 then (if ((⟨#[64]⟩ : ByteArray) ++ t113).size + 1 ≤ 9223372036854775807 then (if (wrap64 ((x5_1.size : Int) + ((((⟨#[64]⟩ : ByteArray) ++ t113) ++ (⟨#[59]⟩ : ByteArray)).size : Int))) ≤ a1 then (if x5_1.size + (((⟨#[64]⟩ : ByteArray) ++ t113) ++ (⟨#[59]⟩ : ByteArray)).size ≤ 9223372036854775807 then (spec_l71Text.l0 k1 a1 (x5_1 ++ (((⟨#[64]⟩ : ByteArray) ++ t113) ++ (⟨#[59]⟩ : ByteArray))) (wrap64 (x6_1 - 1)) s0_0 bt110.2.2) else (none)) else (spec_l71Text.l0 k1 a1 x5_1 (wrap64 (x6_1 - 1)) s0_0 bt110.2.2)) else (none)) else (none)))) else (if (wrap64 ((x5_1.size : Int) + (t106.size : Int))) ≤ a1 then (if x5_1.size + t106.size ≤ 9223372036854775807 then (spec_l71Text.l0 k1 a1 (x5_1 ++ t106) (wrap64 (x6_1 - 1)) s0_0 t109) else (none)) else (spec_l71Text.l0 k1 a1 x5_1 (wrap64 (x6_1 - 1)) s0_0 t109))) = some (r1, r2) := H
        have A7 := Aside0.mk A70
        clear A70
        by_cases c8 : t108 < 3
        · rw [if_pos c8] at H
          have c8b0 : decide (t108 < 3) = true := decide_eq_true c8
          clear c8
          replace H := Option.bind_eq_some_iff.mp H
          obtain ⟨⟨t110, t111, t112⟩, A90, H⟩ := H
          replace H : ((spec_EndText.f t110 t111).bind fun t113 => (if 1 + t113.size ≤ 9223372036854775807 then (if ((⟨#[64]⟩ : ByteArray) ++ t113).size + 1 ≤ 9223372036854775807 then (if (wrap64 ((x5_1.size : Int) + ((((⟨#[64]⟩ : ByteArray) ++ t113) ++ (⟨#[59]⟩ : ByteArray)).size : Int))) ≤ a1 then (if x5_1.size + (((⟨#[64]⟩ : ByteArray) ++ t113) ++ (⟨#[59]⟩ : ByteArray)).size ≤ 9223372036854775807 then (spec_l71Text.l0 k1 a1 (x5_1 ++ (((⟨#[64]⟩ : ByteArray) ++ t113) ++ (⟨#[59]⟩ : ByteArray))) (wrap64 (x6_1 - 1)) s0_0 t112) else (none)) else (spec_l71Text.l0 k1 a1 x5_1 (wrap64 (x6_1 - 1)) s0_0 t112)) else (none)) else (none))) = some (r1, r2) := H
          have A9 := Aside0.mk A90
          clear A90
          replace H := Option.bind_eq_some_iff.mp H
          obtain ⟨t113, A100, H⟩ := H
          replace H : (if 1 + t113.size ≤ 9223372036854775807 then (if ((⟨#[64]⟩ : ByteArray) ++ t113).size + 1 ≤ 9223372036854775807 then (if (wrap64 ((x5_1.size : Int) + ((((⟨#[64]⟩ : ByteArray) ++ t113) ++ (⟨#[59]⟩ : ByteArray)).size : Int))) ≤ a1 then (if x5_1.size + (((⟨#[64]⟩ : ByteArray) ++ t113) ++ (⟨#[59]⟩ : ByteArray)).size ≤ 9223372036854775807 then (spec_l71Text.l0 k1 a1 (x5_1 ++ (((⟨#[64]⟩ : ByteArray) ++ t113) ++ (⟨#[59]⟩ : ByteArray))) (wrap64 (x6_1 - 1)) s0_0 t112) else (none)) else (spec_l71Text.l0 k1 a1 x5_1 (wrap64 (x6_1 - 1)) s0_0 t112)) else (none)) else (none)) = some (r1, r2) := H
          have A10 := Aside0.mk A100
          clear A100
          by_cases c11 : 1 + t113.size ≤ 9223372036854775807
          · rw [if_pos c11] at H
            have c11b0 := eq_true c11
            have c11b1 : decide (1 + t113.size ≤ 9223372036854775807) = true := decide_eq_true c11
            try have c11b2 : (9223372036854775807 < 1 + t113.size) = False := eq_false (Nat.not_lt.2 c11)
            by_cases c12 : ((⟨#[64]⟩ : ByteArray) ++ t113).size + 1 ≤ 9223372036854775807
            · rw [if_pos c12] at H
              have c12b0 := eq_true c12
              have c12b1 : decide (((⟨#[64]⟩ : ByteArray) ++ t113).size + 1 ≤ 9223372036854775807) = true := decide_eq_true c12
              try have c12b2 : (9223372036854775807 < ((⟨#[64]⟩ : ByteArray) ++ t113).size + 1) = False := eq_false (Nat.not_lt.2 c12)
              try have c12b3 : (9223372036854775807 < 1 + t113.size + 1) = False := eq_false (Nat.not_lt.2 (by have h_ := c12; simp only [ByteArray.size_append] at h_; exact h_))
              by_cases c13 : (wrap64 ((x5_1.size : Int) + ((((⟨#[64]⟩ : ByteArray) ++ t113) ++ (⟨#[59]⟩ : ByteArray)).size : Int))) ≤ a1
              · rw [if_pos c13] at H
                have c13b0 : decide ((wrap64 ((x5_1.size : Int) + ((((⟨#[64]⟩ : ByteArray) ++ t113) ++ (⟨#[59]⟩ : ByteArray)).size : Int))) ≤ a1) = true := decide_eq_true c13
                try have c13b0z : decide ((wrap64 ((x5_1.size : Int) + (1 + (t113.size : Int) + 1))) ≤ a1) = true := by rw [show (1 + (t113.size : Int) + 1) = ((((⟨#[64]⟩ : ByteArray) ++ t113) ++ (⟨#[59]⟩ : ByteArray)).size : Int) from by simp only [ByteArray.size_append, Int.natCast_add]; rfl]; exact c13b0
                clear c13
                by_cases c14 : x5_1.size + (((⟨#[64]⟩ : ByteArray) ++ t113) ++ (⟨#[59]⟩ : ByteArray)).size ≤ 9223372036854775807
                · rw [if_pos c14] at H
                  have c14b0 := eq_true c14
                  have c14b1 : decide (x5_1.size + (((⟨#[64]⟩ : ByteArray) ++ t113) ++ (⟨#[59]⟩ : ByteArray)).size ≤ 9223372036854775807) = true := decide_eq_true c14
                  try have c14b2 : (9223372036854775807 < x5_1.size + (((⟨#[64]⟩ : ByteArray) ++ t113) ++ (⟨#[59]⟩ : ByteArray)).size) = False := eq_false (Nat.not_lt.2 c14)
                  try have c14b3 : (9223372036854775807 < x5_1.size + (1 + t113.size + 1)) = False := eq_false (Nat.not_lt.2 (by have h_ := c14; simp only [ByteArray.size_append] at h_; exact h_))
                  have H' := Aside0.mk H
                  clear H
                  go_wp2_with (first | ((with_reducible refine gate_dst (N := 15) rfl ?_); refine Kd.R_lit Kd.string _ 9 ?hg (N := 15) ?hd (xs := ([(⟨#[97]⟩ : ByteArray), (⟨#[98, 99]⟩ : ByteArray), (⟨#[64]⟩ : ByteArray), (⟨#[64, 49]⟩ : ByteArray), (⟨#[59]⟩ : ByteArray), (⟨#[58, 53]⟩ : ByteArray), (⟨#[120, 49]⟩ : ByteArray), (⟨#[64, 64]⟩ : ByteArray), (⟨#[64, 49, 58]⟩ : ByteArray), (⟨#[55]⟩ : ByteArray)] : List ByteArray)) (inner := [.string (⟨#[97]⟩ : ByteArray), .string (⟨#[98, 99]⟩ : ByteArray), .string (⟨#[64]⟩ : ByteArray), .string (⟨#[64, 49]⟩ : ByteArray), .string (⟨#[59]⟩ : ByteArray), .string (⟨#[58, 53]⟩ : ByteArray), .string (⟨#[120, 49]⟩ : ByteArray), .string (⟨#[64, 64]⟩ : ByteArray), .string (⟨#[64, 49, 58]⟩ : ByteArray), .string (⟨#[55]⟩ : ByteArray)]) (ok := fun _ => True) (okp := fun _ => True) ?hr ?hp (fun _ hk => hk) trivial (Below.refl _ _) (Nat.le_refl _) (by simp) ?_; (case hd => rfl); (case hg => rfl); (case hr => first | (go_simp; done) | (go_simp; rfl)); (case hp => exact (Reps.one (show Kd.M Kd.string _ _ _ (⟨#[97]⟩ : ByteArray) [.string (⟨#[97]⟩ : ByteArray)] from rfl) (Reps.one (show Kd.M Kd.string _ _ _ (⟨#[98, 99]⟩ : ByteArray) [.string (⟨#[98, 99]⟩ : ByteArray)] from rfl) (Reps.one (show Kd.M Kd.string _ _ _ (⟨#[64]⟩ : ByteArray) [.string (⟨#[64]⟩ : ByteArray)] from rfl) (Reps.one (show Kd.M Kd.string _ _ _ (⟨#[64, 49]⟩ : ByteArray) [.string (⟨#[64, 49]⟩ : ByteArray)] from rfl) (Reps.one (show Kd.M Kd.string _ _ _ (⟨#[59]⟩ : ByteArray) [.string (⟨#[59]⟩ : ByteArray)] from rfl) (Reps.one (show Kd.M Kd.string _ _ _ (⟨#[58, 53]⟩ : ByteArray) [.string (⟨#[58, 53]⟩ : ByteArray)] from rfl) (Reps.one (show Kd.M Kd.string _ _ _ (⟨#[120, 49]⟩ : ByteArray) [.string (⟨#[120, 49]⟩ : ByteArray)] from rfl) (Reps.one (show Kd.M Kd.string _ _ _ (⟨#[64, 64]⟩ : ByteArray) [.string (⟨#[64, 64]⟩ : ByteArray)] from rfl) (Reps.one (show Kd.M Kd.string _ _ _ (⟨#[64, 49, 58]⟩ : ByteArray) [.string (⟨#[64, 49, 58]⟩ : ByteArray)] from rfl) (Reps.one (show Kd.M Kd.string _ _ _ (⟨#[55]⟩ : ByteArray) [.string (⟨#[55]⟩ : ByteArray)] from rfl) (Reps.none _ _)))))))))))); intro v104 w15 ho16 hb hg_ hnew_; clear hg_ hnew_; (first | rw [← Ny103.out] at ho16 | (simp only [Int.reduceToNat] at ho16; rw [← Ny103.out] at ho16)); have n0_ := Aside0.mk (Kd.R_lower ho16 (keep_size (w := w) (g := g) (row := none) (by repeat (first | (with_reducible first | exact HK.out | apply KeepBut.set_ | apply keep_drewN | apply keep_drew | apply keep_alloc) | exact HK.out)))); have n1_ := Aside0.mk (IsS185.below (by repeat (first | (with_reducible first | exact HI0.out | apply IsS185.alloc | apply IsS185.drewN | apply IsS185.drew | apply IsS185.set_1) | exact HI0.out)) hb); have n2_ := Aside0.mk (KeepBut.trans (by repeat (first | (with_reducible first | exact HK.out | apply KeepBut.set_ | apply keep_drewN | apply keep_drew | apply keep_alloc) | exact HK.out)) (KeepBut.of_below hb g none) (.inl rfl)); have n3_ := Aside0.mk (below_step (by repeat (first | (with_reducible first | exact HB.out | apply below_alloc | apply pw_below_drewN | apply below_drew1 | refine below_set ?_ (IsS185.ge HI0.out)) | exact HB.out)) hb); clear HI0; clear HK; clear HB; have HO105 := n0_; have HI0 := n1_; have HK := n2_; have HB := n3_; clear n0_ n1_ n2_ n3_; clear hb ho16; obtain ⟨Ao17, co17, eo17⟩ := Kd.R_slice HO105.out; subst eo17) | ((with_reducible refine gate_callee (f := 152) rfl ?_); refine goesL_ (some 16) rfl rfl Tryz.func152 (by kernel_rfl) rfl #[.pointer (some ⟨g, 0, none⟩), .slice Ao17 y103.length co17] rfl (by (try simp only [List.map_toArray, List.map_cons, List.map_nil]); first | done | rfl | (simp only [List.length_drop, List.length_take]; rfl)) ?_; (with_reducible refine (spec_l6Rd_of.calls k1 g s0_0 x1001_1 _ _ y103 t106 t107 w0 _ ?side1 ?side2 ?side3 ?side4 ?side5 A6.out).mono ?_); (case side1 => repeat (first | (with_reducible first | exact HI0.out | apply IsS185.alloc | apply IsS185.drewN | apply IsS185.drew | apply IsS185.set_1) | exact HI0.out)); (case side2 => repeat (first | (with_reducible first | exact HB.out | apply below_alloc | apply pw_below_drewN | apply below_drew1 | refine below_set ?_ (IsS185.ge HI0.out)) | exact HB.out)); (case side3 => repeat (first | exact (Kd.R_reads' HO105.out).2.2 | (with_reducible refine Kd.C_alloc ?_ _) | (with_reducible refine Kd.C_drewN ?_ _) | (with_reducible refine Kd.C_drew ?_))); (case side4 => exact (Kd.R_reads' HO105.out).2.1); (case side5 => exact far_slice (IsS185.own_ne HI0.out HO105.out (by decide))); rintro e w18 ⟨rfl, hi, hb, hk⟩; refine ⟨_, rfl, ?_⟩; have n0_ := Aside0.mk (Kd.R_mono (Kd.R_keep (IsS185.apart (show IsS185 w0 _ g s0_0 x1001_1 from by repeat (first | (with_reducible first | exact HI0.out | apply IsS185.alloc | apply IsS185.drewN | apply IsS185.drew | apply IsS185.set_1) | exact HI0.out)) (by (with_reducible repeat (first | apply Kd.R_alloc | apply Kd.R_drewN | apply Kd.R_drew)); exact HO105.out) (by decide)) hk (fun _ h => h.2)) (fun _ h => h.1)); have n1_ := Aside0.mk (KeepBut.trans (by repeat (first | (with_reducible first | exact HK.out | apply KeepBut.set_ | apply keep_drewN | apply keep_drew | apply keep_alloc) | exact HK.out)) hk (.inl rfl)); have n2_ := Aside0.mk (hb); have n3_ := Aside0.mk (hi); clear HO105; clear HK; clear HB; clear HI0; have HO105 := n0_; have HK := n1_; have HB := n2_; have HI0 := n3_; clear n0_ n1_ n2_ n3_; (try clear hb); (try clear hb2); (try clear hk); (try clear hi)) | ((with_reducible refine gate_callee (f := 74) rfl ?_); refine goesL_ (some 18) rfl rfl Tryz.func74 (by kernel_rfl) rfl #[.pointer (some ⟨g, 0, none⟩), .int .i64 5] rfl (by (try simp only [List.map_toArray, List.map_cons, List.map_nil]); first | done | rfl | (simp only [List.length_drop, List.length_take]; rfl)) ?_; (with_reducible refine (spec_l6Rd_pick.calls k1 g s0_0 t107 5 t108 t109 w0 _ ?side1 ?side2 A7.out).mono ?_); (case side1 => repeat (first | (with_reducible first | exact HI0.out | apply IsS185.alloc | apply IsS185.drewN | apply IsS185.drew | apply IsS185.set_1) | exact HI0.out)); (case side2 => repeat (first | (with_reducible first | exact HB.out | apply below_alloc | apply pw_below_drewN | apply below_drew1 | refine below_set ?_ (IsS185.ge HI0.out)) | exact HB.out)); rintro e w19 ⟨rfl, hi, hb, hk⟩; refine ⟨_, rfl, ?_⟩; have n0_ := Aside0.mk (Kd.R_mono (Kd.R_keep (IsS185.apart (show IsS185 w0 _ g s0_0 t107 from by repeat (first | (with_reducible first | exact HI0.out | apply IsS185.alloc | apply IsS185.drewN | apply IsS185.drew | apply IsS185.set_1) | exact HI0.out)) (by (with_reducible repeat (first | apply Kd.R_alloc | apply Kd.R_drewN | apply Kd.R_drew)); exact HO105.out) (by decide)) hk (fun _ h => h.2)) (fun _ h => h.1)); have n1_ := Aside0.mk (KeepBut.trans (by repeat (first | (with_reducible first | exact HK.out | apply KeepBut.set_ | apply keep_drewN | apply keep_drew | apply keep_alloc) | exact HK.out)) hk (.inl rfl)); have n2_ := Aside0.mk (hb); have n3_ := Aside0.mk (hi); clear HO105; clear HK; clear HB; clear HI0; have HO105 := n0_; have HK := n1_; have HB := n2_; have HI0 := n3_; clear n0_ n1_ n2_ n3_; (try clear hb); (try clear hb2); (try clear hk); (try clear hi)) | ((with_reducible refine gate_callee (f := 154) rfl ?_); refine goesL_ (some 21) rfl rfl Tryz.func154 (by kernel_rfl) rfl #[.pointer (some ⟨g, 0, none⟩)] rfl (by (try simp only [List.map_toArray, List.map_cons, List.map_nil]); first | done | rfl | (simp only [List.length_drop, List.length_take]; rfl)) ?_; (with_reducible refine (spec_l71End.calls k1 g s0_0 t109 t110 t111 t112 w0 _ ?side1 ?side2 A9.out).mono ?_); (case side1 => repeat (first | (with_reducible first | exact HI0.out | apply IsS185.alloc | apply IsS185.drewN | apply IsS185.drew | apply IsS185.set_1) | exact HI0.out)); (case side2 => repeat (first | (with_reducible first | exact HB.out | apply below_alloc | apply pw_below_drewN | apply below_drew1 | refine below_set ?_ (IsS185.ge HI0.out)) | exact HB.out)); rintro e w20 ⟨rfl, hi, hb, hk⟩; refine ⟨_, rfl, ?_⟩; have n0_ := Aside0.mk (Kd.R_mono (Kd.R_keep (IsS185.apart (show IsS185 w0 _ g s0_0 t109 from by repeat (first | (with_reducible first | exact HI0.out | apply IsS185.alloc | apply IsS185.drewN | apply IsS185.drew | apply IsS185.set_1) | exact HI0.out)) (by (with_reducible repeat (first | apply Kd.R_alloc | apply Kd.R_drewN | apply Kd.R_drew)); exact HO105.out) (by decide)) hk (fun _ h => h.2)) (fun _ h => h.1)); have n1_ := Aside0.mk (KeepBut.trans (by repeat (first | (with_reducible first | exact HK.out | apply KeepBut.set_ | apply keep_drewN | apply keep_drew | apply keep_alloc) | exact HK.out)) hk (.inl rfl)); have n2_ := Aside0.mk (hb); have n3_ := Aside0.mk (hi); clear HO105; clear HK; clear HB; clear HI0; have HO105 := n0_; have HK := n1_; have HB := n2_; have HI0 := n3_; clear n0_ n1_ n2_ n3_; (try clear hb); (try clear hb2); (try clear hk); (try clear hi)) | ((with_reducible refine gate_callee (f := 153) rfl ?_); refine goesL_ (some 22) rfl rfl Tryz.func153 (by kernel_rfl) rfl #[.agg #[.int .i64 t110, .int .i64 t111]] rfl (by (try simp only [List.map_toArray, List.map_cons, List.map_nil]); first | done | rfl | (simp only [List.length_drop, List.length_take]; rfl)) ?_; (with_reducible refine (spec_EndText.calls t110 t111 t113 _ A10.out).mono ?_); rintro e w21 ⟨rfl, hb⟩; refine ⟨_, rfl, ?_⟩; have n0_ := Aside0.mk (Kd.R_below (by (with_reducible repeat (first | apply Kd.R_alloc | apply Kd.R_drewN | apply Kd.R_drew)); exact HO105.out) hb); have n1_ := Aside0.mk (IsS185.below (by repeat (first | (with_reducible first | exact HI0.out | apply IsS185.alloc | apply IsS185.drewN | apply IsS185.drew | apply IsS185.set_1) | exact HI0.out)) hb); have n2_ := Aside0.mk (KeepBut.trans (by repeat (first | (with_reducible first | exact HK.out | apply KeepBut.set_ | apply keep_drewN | apply keep_drew | apply keep_alloc) | exact HK.out)) (KeepBut.of_below hb g none) (.inl rfl)); have n3_ := Aside0.mk (below_step (by repeat (first | (with_reducible first | exact HB.out | apply below_alloc | apply pw_below_drewN | apply below_drew1 | refine below_set ?_ (IsS185.ge HI0.out)) | exact HB.out)) hb); clear HO105; clear HI0; clear HK; clear HB; have HO105 := n0_; have HI0 := n1_; have HK := n2_; have HB := n3_; clear n0_ n1_ n2_ n3_; (try clear hb); (try clear hb2); (try clear hk); (try clear hi)))
                  go_roundg k1
                  case measure => have := HK1.out; omega
                  case rel => exact ⟨(x5_1 ++ (((⟨#[64]⟩ : ByteArray) ++ t113) ++ (⟨#[59]⟩ : ByteArray))), (wrap64 (x6_1 - 1)), (t112), (by first | rfl | (simp; done) | (simp [*]; done)), (by first | rfl | (simp; done) | (simp [*]; done)), H', ⟨by have := HK1.out; omega⟩, ⟨by repeat (first | (with_reducible first | exact HI0.out | apply IsS185.alloc | apply IsS185.drewN | apply IsS185.drew | apply IsS185.set_1) | exact HI0.out)⟩, ⟨by repeat (first | (with_reducible first | exact HK.out | apply KeepBut.set_ | apply keep_drewN | apply keep_drew | apply keep_alloc) | exact HK.out)⟩, ⟨by repeat (first | (with_reducible first | exact HB.out | apply below_alloc | apply pw_below_drewN | apply below_drew1 | refine below_set ?_ (IsS185.ge HI0.out)) | exact HB.out)⟩⟩
                · rw [if_neg c14] at H
                  exact absurd H (by simp)
              · rw [if_neg c13] at H
                have c13b0 : decide ((wrap64 ((x5_1.size : Int) + ((((⟨#[64]⟩ : ByteArray) ++ t113) ++ (⟨#[59]⟩ : ByteArray)).size : Int))) ≤ a1) = false := decide_eq_false c13
                try have c13b0z : decide ((wrap64 ((x5_1.size : Int) + (1 + (t113.size : Int) + 1))) ≤ a1) = false := by rw [show (1 + (t113.size : Int) + 1) = ((((⟨#[64]⟩ : ByteArray) ++ t113) ++ (⟨#[59]⟩ : ByteArray)).size : Int) from by simp only [ByteArray.size_append, Int.natCast_add]; rfl]; exact c13b0
                clear c13
                have H' := Aside0.mk H
                clear H
                go_wp2_with (first | ((with_reducible refine gate_dst (N := 15) rfl ?_); refine Kd.R_lit Kd.string _ 9 ?hg (N := 15) ?hd (xs := ([(⟨#[97]⟩ : ByteArray), (⟨#[98, 99]⟩ : ByteArray), (⟨#[64]⟩ : ByteArray), (⟨#[64, 49]⟩ : ByteArray), (⟨#[59]⟩ : ByteArray), (⟨#[58, 53]⟩ : ByteArray), (⟨#[120, 49]⟩ : ByteArray), (⟨#[64, 64]⟩ : ByteArray), (⟨#[64, 49, 58]⟩ : ByteArray), (⟨#[55]⟩ : ByteArray)] : List ByteArray)) (inner := [.string (⟨#[97]⟩ : ByteArray), .string (⟨#[98, 99]⟩ : ByteArray), .string (⟨#[64]⟩ : ByteArray), .string (⟨#[64, 49]⟩ : ByteArray), .string (⟨#[59]⟩ : ByteArray), .string (⟨#[58, 53]⟩ : ByteArray), .string (⟨#[120, 49]⟩ : ByteArray), .string (⟨#[64, 64]⟩ : ByteArray), .string (⟨#[64, 49, 58]⟩ : ByteArray), .string (⟨#[55]⟩ : ByteArray)]) (ok := fun _ => True) (okp := fun _ => True) ?hr ?hp (fun _ hk => hk) trivial (Below.refl _ _) (Nat.le_refl _) (by simp) ?_; (case hd => rfl); (case hg => rfl); (case hr => first | (go_simp; done) | (go_simp; rfl)); (case hp => exact (Reps.one (show Kd.M Kd.string _ _ _ (⟨#[97]⟩ : ByteArray) [.string (⟨#[97]⟩ : ByteArray)] from rfl) (Reps.one (show Kd.M Kd.string _ _ _ (⟨#[98, 99]⟩ : ByteArray) [.string (⟨#[98, 99]⟩ : ByteArray)] from rfl) (Reps.one (show Kd.M Kd.string _ _ _ (⟨#[64]⟩ : ByteArray) [.string (⟨#[64]⟩ : ByteArray)] from rfl) (Reps.one (show Kd.M Kd.string _ _ _ (⟨#[64, 49]⟩ : ByteArray) [.string (⟨#[64, 49]⟩ : ByteArray)] from rfl) (Reps.one (show Kd.M Kd.string _ _ _ (⟨#[59]⟩ : ByteArray) [.string (⟨#[59]⟩ : ByteArray)] from rfl) (Reps.one (show Kd.M Kd.string _ _ _ (⟨#[58, 53]⟩ : ByteArray) [.string (⟨#[58, 53]⟩ : ByteArray)] from rfl) (Reps.one (show Kd.M Kd.string _ _ _ (⟨#[120, 49]⟩ : ByteArray) [.string (⟨#[120, 49]⟩ : ByteArray)] from rfl) (Reps.one (show Kd.M Kd.string _ _ _ (⟨#[64, 64]⟩ : ByteArray) [.string (⟨#[64, 64]⟩ : ByteArray)] from rfl) (Reps.one (show Kd.M Kd.string _ _ _ (⟨#[64, 49, 58]⟩ : ByteArray) [.string (⟨#[64, 49, 58]⟩ : ByteArray)] from rfl) (Reps.one (show Kd.M Kd.string _ _ _ (⟨#[55]⟩ : ByteArray) [.string (⟨#[55]⟩ : ByteArray)] from rfl) (Reps.none _ _)))))))))))); intro v104 w22 ho23 hb hg_ hnew_; clear hg_ hnew_; (first | rw [← Ny103.out] at ho23 | (simp only [Int.reduceToNat] at ho23; rw [← Ny103.out] at ho23)); have n0_ := Aside0.mk (Kd.R_lower ho23 (keep_size (w := w) (g := g) (row := none) (by repeat (first | (with_reducible first | exact HK.out | apply KeepBut.set_ | apply keep_drewN | apply keep_drew | apply keep_alloc) | exact HK.out)))); have n1_ := Aside0.mk (IsS185.below (by repeat (first | (with_reducible first | exact HI0.out | apply IsS185.alloc | apply IsS185.drewN | apply IsS185.drew | apply IsS185.set_1) | exact HI0.out)) hb); have n2_ := Aside0.mk (KeepBut.trans (by repeat (first | (with_reducible first | exact HK.out | apply KeepBut.set_ | apply keep_drewN | apply keep_drew | apply keep_alloc) | exact HK.out)) (KeepBut.of_below hb g none) (.inl rfl)); have n3_ := Aside0.mk (below_step (by repeat (first | (with_reducible first | exact HB.out | apply below_alloc | apply pw_below_drewN | apply below_drew1 | refine below_set ?_ (IsS185.ge HI0.out)) | exact HB.out)) hb); clear HI0; clear HK; clear HB; have HO105 := n0_; have HI0 := n1_; have HK := n2_; have HB := n3_; clear n0_ n1_ n2_ n3_; clear hb ho23; obtain ⟨Ao24, co24, eo24⟩ := Kd.R_slice HO105.out; subst eo24) | ((with_reducible refine gate_callee (f := 152) rfl ?_); refine goesL_ (some 16) rfl rfl Tryz.func152 (by kernel_rfl) rfl #[.pointer (some ⟨g, 0, none⟩), .slice Ao24 y103.length co24] rfl (by (try simp only [List.map_toArray, List.map_cons, List.map_nil]); first | done | rfl | (simp only [List.length_drop, List.length_take]; rfl)) ?_; (with_reducible refine (spec_l6Rd_of.calls k1 g s0_0 x1001_1 _ _ y103 t106 t107 w0 _ ?side1 ?side2 ?side3 ?side4 ?side5 A6.out).mono ?_); (case side1 => repeat (first | (with_reducible first | exact HI0.out | apply IsS185.alloc | apply IsS185.drewN | apply IsS185.drew | apply IsS185.set_1) | exact HI0.out)); (case side2 => repeat (first | (with_reducible first | exact HB.out | apply below_alloc | apply pw_below_drewN | apply below_drew1 | refine below_set ?_ (IsS185.ge HI0.out)) | exact HB.out)); (case side3 => repeat (first | exact (Kd.R_reads' HO105.out).2.2 | (with_reducible refine Kd.C_alloc ?_ _) | (with_reducible refine Kd.C_drewN ?_ _) | (with_reducible refine Kd.C_drew ?_))); (case side4 => exact (Kd.R_reads' HO105.out).2.1); (case side5 => exact far_slice (IsS185.own_ne HI0.out HO105.out (by decide))); rintro e w25 ⟨rfl, hi, hb, hk⟩; refine ⟨_, rfl, ?_⟩; have n0_ := Aside0.mk (Kd.R_mono (Kd.R_keep (IsS185.apart (show IsS185 w0 _ g s0_0 x1001_1 from by repeat (first | (with_reducible first | exact HI0.out | apply IsS185.alloc | apply IsS185.drewN | apply IsS185.drew | apply IsS185.set_1) | exact HI0.out)) (by (with_reducible repeat (first | apply Kd.R_alloc | apply Kd.R_drewN | apply Kd.R_drew)); exact HO105.out) (by decide)) hk (fun _ h => h.2)) (fun _ h => h.1)); have n1_ := Aside0.mk (KeepBut.trans (by repeat (first | (with_reducible first | exact HK.out | apply KeepBut.set_ | apply keep_drewN | apply keep_drew | apply keep_alloc) | exact HK.out)) hk (.inl rfl)); have n2_ := Aside0.mk (hb); have n3_ := Aside0.mk (hi); clear HO105; clear HK; clear HB; clear HI0; have HO105 := n0_; have HK := n1_; have HB := n2_; have HI0 := n3_; clear n0_ n1_ n2_ n3_; (try clear hb); (try clear hb2); (try clear hk); (try clear hi)) | ((with_reducible refine gate_callee (f := 74) rfl ?_); refine goesL_ (some 18) rfl rfl Tryz.func74 (by kernel_rfl) rfl #[.pointer (some ⟨g, 0, none⟩), .int .i64 5] rfl (by (try simp only [List.map_toArray, List.map_cons, List.map_nil]); first | done | rfl | (simp only [List.length_drop, List.length_take]; rfl)) ?_; (with_reducible refine (spec_l6Rd_pick.calls k1 g s0_0 t107 5 t108 t109 w0 _ ?side1 ?side2 A7.out).mono ?_); (case side1 => repeat (first | (with_reducible first | exact HI0.out | apply IsS185.alloc | apply IsS185.drewN | apply IsS185.drew | apply IsS185.set_1) | exact HI0.out)); (case side2 => repeat (first | (with_reducible first | exact HB.out | apply below_alloc | apply pw_below_drewN | apply below_drew1 | refine below_set ?_ (IsS185.ge HI0.out)) | exact HB.out)); rintro e w26 ⟨rfl, hi, hb, hk⟩; refine ⟨_, rfl, ?_⟩; have n0_ := Aside0.mk (Kd.R_mono (Kd.R_keep (IsS185.apart (show IsS185 w0 _ g s0_0 t107 from by repeat (first | (with_reducible first | exact HI0.out | apply IsS185.alloc | apply IsS185.drewN | apply IsS185.drew | apply IsS185.set_1) | exact HI0.out)) (by (with_reducible repeat (first | apply Kd.R_alloc | apply Kd.R_drewN | apply Kd.R_drew)); exact HO105.out) (by decide)) hk (fun _ h => h.2)) (fun _ h => h.1)); have n1_ := Aside0.mk (KeepBut.trans (by repeat (first | (with_reducible first | exact HK.out | apply KeepBut.set_ | apply keep_drewN | apply keep_drew | apply keep_alloc) | exact HK.out)) hk (.inl rfl)); have n2_ := Aside0.mk (hb); have n3_ := Aside0.mk (hi); clear HO105; clear HK; clear HB; clear HI0; have HO105 := n0_; have HK := n1_; have HB := n2_; have HI0 := n3_; clear n0_ n1_ n2_ n3_; (try clear hb); (try clear hb2); (try clear hk); (try clear hi)) | ((with_reducible refine gate_callee (f := 154) rfl ?_); refine goesL_ (some 21) rfl rfl Tryz.func154 (by kernel_rfl) rfl #[.pointer (some ⟨g, 0, none⟩)] rfl (by (try simp only [List.map_toArray, List.map_cons, List.map_nil]); first | done | rfl | (simp only [List.length_drop, List.length_take]; rfl)) ?_; (with_reducible refine (spec_l71End.calls k1 g s0_0 t109 t110 t111 t112 w0 _ ?side1 ?side2 A9.out).mono ?_); (case side1 => repeat (first | (with_reducible first | exact HI0.out | apply IsS185.alloc | apply IsS185.drewN | apply IsS185.drew | apply IsS185.set_1) | exact HI0.out)); (case side2 => repeat (first | (with_reducible first | exact HB.out | apply below_alloc | apply pw_below_drewN | apply below_drew1 | refine below_set ?_ (IsS185.ge HI0.out)) | exact HB.out)); rintro e w27 ⟨rfl, hi, hb, hk⟩; refine ⟨_, rfl, ?_⟩; have n0_ := Aside0.mk (Kd.R_mono (Kd.R_keep (IsS185.apart (show IsS185 w0 _ g s0_0 t109 from by repeat (first | (with_reducible first | exact HI0.out | apply IsS185.alloc | apply IsS185.drewN | apply IsS185.drew | apply IsS185.set_1) | exact HI0.out)) (by (with_reducible repeat (first | apply Kd.R_alloc | apply Kd.R_drewN | apply Kd.R_drew)); exact HO105.out) (by decide)) hk (fun _ h => h.2)) (fun _ h => h.1)); have n1_ := Aside0.mk (KeepBut.trans (by repeat (first | (with_reducible first | exact HK.out | apply KeepBut.set_ | apply keep_drewN | apply keep_drew | apply keep_alloc) | exact HK.out)) hk (.inl rfl)); have n2_ := Aside0.mk (hb); have n3_ := Aside0.mk (hi); clear HO105; clear HK; clear HB; clear HI0; have HO105 := n0_; have HK := n1_; have HB := n2_; have HI0 := n3_; clear n0_ n1_ n2_ n3_; (try clear hb); (try clear hb2); (try clear hk); (try clear hi)) | ((with_reducible refine gate_callee (f := 153) rfl ?_); refine goesL_ (some 22) rfl rfl Tryz.func153 (by kernel_rfl) rfl #[.agg #[.int .i64 t110, .int .i64 t111]] rfl (by (try simp only [List.map_toArray, List.map_cons, List.map_nil]); first | done | rfl | (simp only [List.length_drop, List.length_take]; rfl)) ?_; (with_reducible refine (spec_EndText.calls t110 t111 t113 _ A10.out).mono ?_); rintro e w28 ⟨rfl, hb⟩; refine ⟨_, rfl, ?_⟩; have n0_ := Aside0.mk (Kd.R_below (by (with_reducible repeat (first | apply Kd.R_alloc | apply Kd.R_drewN | apply Kd.R_drew)); exact HO105.out) hb); have n1_ := Aside0.mk (IsS185.below (by repeat (first | (with_reducible first | exact HI0.out | apply IsS185.alloc | apply IsS185.drewN | apply IsS185.drew | apply IsS185.set_1) | exact HI0.out)) hb); have n2_ := Aside0.mk (KeepBut.trans (by repeat (first | (with_reducible first | exact HK.out | apply KeepBut.set_ | apply keep_drewN | apply keep_drew | apply keep_alloc) | exact HK.out)) (KeepBut.of_below hb g none) (.inl rfl)); have n3_ := Aside0.mk (below_step (by repeat (first | (with_reducible first | exact HB.out | apply below_alloc | apply pw_below_drewN | apply below_drew1 | refine below_set ?_ (IsS185.ge HI0.out)) | exact HB.out)) hb); clear HO105; clear HI0; clear HK; clear HB; have HO105 := n0_; have HI0 := n1_; have HK := n2_; have HB := n3_; clear n0_ n1_ n2_ n3_; (try clear hb); (try clear hb2); (try clear hk); (try clear hi)))
                go_roundg k1
                case measure => have := HK1.out; omega
                case rel => exact ⟨(x5_1), (wrap64 (x6_1 - 1)), (t112), (by first | rfl | (simp; done) | (simp [*]; done)), (by first | rfl | (simp; done) | (simp [*]; done)), H', ⟨by have := HK1.out; omega⟩, ⟨by repeat (first | (with_reducible first | exact HI0.out | apply IsS185.alloc | apply IsS185.drewN | apply IsS185.drew | apply IsS185.set_1) | exact HI0.out)⟩, ⟨by repeat (first | (with_reducible first | exact HK.out | apply KeepBut.set_ | apply keep_drewN | apply keep_drew | apply keep_alloc) | exact HK.out)⟩, ⟨by repeat (first | (with_reducible first | exact HB.out | apply below_alloc | apply pw_below_drewN | apply below_drew1 | refine below_set ?_ (IsS185.ge HI0.out)) | exact HB.out)⟩⟩
            · rw [if_neg c12] at H
              exact absurd H (by simp)
          · rw [if_neg c11] at H
            exact absurd H (by simp)
        · rw [if_neg c8] at H
          have c8b0 : decide (t108 < 3) = false := decide_eq_false c8
          clear c8
          by_cases c29 : (wrap64 ((x5_1.size : Int) + (t106.size : Int))) ≤ a1
          · rw [if_pos c29] at H
            have c29b0 : decide ((wrap64 ((x5_1.size : Int) + (t106.size : Int))) ≤ a1) = true := decide_eq_true c29
            clear c29
            by_cases c30 : x5_1.size + t106.size ≤ 9223372036854775807
            · rw [if_pos c30] at H
              have c30b0 := eq_true c30
              have c30b1 : decide (x5_1.size + t106.size ≤ 9223372036854775807) = true := decide_eq_true c30
              try have c30b2 : (9223372036854775807 < x5_1.size + t106.size) = False := eq_false (Nat.not_lt.2 c30)
              try have c29b0u : decide (((x5_1.size : Int) + (t106.size : Int)) ≤ a1) = true := by have e_ : wrap64 ((x5_1.size : Int) + (t106.size : Int)) = (x5_1.size : Int) + (t106.size : Int) := (by unfold wrap64; omega); rw [← e_]; exact c29b0
              have H' := Aside0.mk H
              clear H
              go_wp2_with (first | ((with_reducible refine gate_dst (N := 15) rfl ?_); refine Kd.R_lit Kd.string _ 9 ?hg (N := 15) ?hd (xs := ([(⟨#[97]⟩ : ByteArray), (⟨#[98, 99]⟩ : ByteArray), (⟨#[64]⟩ : ByteArray), (⟨#[64, 49]⟩ : ByteArray), (⟨#[59]⟩ : ByteArray), (⟨#[58, 53]⟩ : ByteArray), (⟨#[120, 49]⟩ : ByteArray), (⟨#[64, 64]⟩ : ByteArray), (⟨#[64, 49, 58]⟩ : ByteArray), (⟨#[55]⟩ : ByteArray)] : List ByteArray)) (inner := [.string (⟨#[97]⟩ : ByteArray), .string (⟨#[98, 99]⟩ : ByteArray), .string (⟨#[64]⟩ : ByteArray), .string (⟨#[64, 49]⟩ : ByteArray), .string (⟨#[59]⟩ : ByteArray), .string (⟨#[58, 53]⟩ : ByteArray), .string (⟨#[120, 49]⟩ : ByteArray), .string (⟨#[64, 64]⟩ : ByteArray), .string (⟨#[64, 49, 58]⟩ : ByteArray), .string (⟨#[55]⟩ : ByteArray)]) (ok := fun _ => True) (okp := fun _ => True) ?hr ?hp (fun _ hk => hk) trivial (Below.refl _ _) (Nat.le_refl _) (by simp) ?_; (case hd => rfl); (case hg => rfl); (case hr => first | (go_simp; done) | (go_simp; rfl)); (case hp => exact (Reps.one (show Kd.M Kd.string _ _ _ (⟨#[97]⟩ : ByteArray) [.string (⟨#[97]⟩ : ByteArray)] from rfl) (Reps.one (show Kd.M Kd.string _ _ _ (⟨#[98, 99]⟩ : ByteArray) [.string (⟨#[98, 99]⟩ : ByteArray)] from rfl) (Reps.one (show Kd.M Kd.string _ _ _ (⟨#[64]⟩ : ByteArray) [.string (⟨#[64]⟩ : ByteArray)] from rfl) (Reps.one (show Kd.M Kd.string _ _ _ (⟨#[64, 49]⟩ : ByteArray) [.string (⟨#[64, 49]⟩ : ByteArray)] from rfl) (Reps.one (show Kd.M Kd.string _ _ _ (⟨#[59]⟩ : ByteArray) [.string (⟨#[59]⟩ : ByteArray)] from rfl) (Reps.one (show Kd.M Kd.string _ _ _ (⟨#[58, 53]⟩ : ByteArray) [.string (⟨#[58, 53]⟩ : ByteArray)] from rfl) (Reps.one (show Kd.M Kd.string _ _ _ (⟨#[120, 49]⟩ : ByteArray) [.string (⟨#[120, 49]⟩ : ByteArray)] from rfl) (Reps.one (show Kd.M Kd.string _ _ _ (⟨#[64, 64]⟩ : ByteArray) [.string (⟨#[64, 64]⟩ : ByteArray)] from rfl) (Reps.one (show Kd.M Kd.string _ _ _ (⟨#[64, 49, 58]⟩ : ByteArray) [.string (⟨#[64, 49, 58]⟩ : ByteArray)] from rfl) (Reps.one (show Kd.M Kd.string _ _ _ (⟨#[55]⟩ : ByteArray) [.string (⟨#[55]⟩ : ByteArray)] from rfl) (Reps.none _ _)))))))))))); intro v104 w31 ho32 hb hg_ hnew_; clear hg_ hnew_; (first | rw [← Ny103.out] at ho32 | (simp only [Int.reduceToNat] at ho32; rw [← Ny103.out] at ho32)); have n0_ := Aside0.mk (Kd.R_lower ho32 (keep_size (w := w) (g := g) (row := none) (by repeat (first | (with_reducible first | exact HK.out | apply KeepBut.set_ | apply keep_drewN | apply keep_drew | apply keep_alloc) | exact HK.out)))); have n1_ := Aside0.mk (IsS185.below (by repeat (first | (with_reducible first | exact HI0.out | apply IsS185.alloc | apply IsS185.drewN | apply IsS185.drew | apply IsS185.set_1) | exact HI0.out)) hb); have n2_ := Aside0.mk (KeepBut.trans (by repeat (first | (with_reducible first | exact HK.out | apply KeepBut.set_ | apply keep_drewN | apply keep_drew | apply keep_alloc) | exact HK.out)) (KeepBut.of_below hb g none) (.inl rfl)); have n3_ := Aside0.mk (below_step (by repeat (first | (with_reducible first | exact HB.out | apply below_alloc | apply pw_below_drewN | apply below_drew1 | refine below_set ?_ (IsS185.ge HI0.out)) | exact HB.out)) hb); clear HI0; clear HK; clear HB; have HO105 := n0_; have HI0 := n1_; have HK := n2_; have HB := n3_; clear n0_ n1_ n2_ n3_; clear hb ho32; obtain ⟨Ao33, co33, eo33⟩ := Kd.R_slice HO105.out; subst eo33) | ((with_reducible refine gate_callee (f := 152) rfl ?_); refine goesL_ (some 16) rfl rfl Tryz.func152 (by kernel_rfl) rfl #[.pointer (some ⟨g, 0, none⟩), .slice Ao33 y103.length co33] rfl (by (try simp only [List.map_toArray, List.map_cons, List.map_nil]); first | done | rfl | (simp only [List.length_drop, List.length_take]; rfl)) ?_; (with_reducible refine (spec_l6Rd_of.calls k1 g s0_0 x1001_1 _ _ y103 t106 t107 w0 _ ?side1 ?side2 ?side3 ?side4 ?side5 A6.out).mono ?_); (case side1 => repeat (first | (with_reducible first | exact HI0.out | apply IsS185.alloc | apply IsS185.drewN | apply IsS185.drew | apply IsS185.set_1) | exact HI0.out)); (case side2 => repeat (first | (with_reducible first | exact HB.out | apply below_alloc | apply pw_below_drewN | apply below_drew1 | refine below_set ?_ (IsS185.ge HI0.out)) | exact HB.out)); (case side3 => repeat (first | exact (Kd.R_reads' HO105.out).2.2 | (with_reducible refine Kd.C_alloc ?_ _) | (with_reducible refine Kd.C_drewN ?_ _) | (with_reducible refine Kd.C_drew ?_))); (case side4 => exact (Kd.R_reads' HO105.out).2.1); (case side5 => exact far_slice (IsS185.own_ne HI0.out HO105.out (by decide))); rintro e w34 ⟨rfl, hi, hb, hk⟩; refine ⟨_, rfl, ?_⟩; have n0_ := Aside0.mk (Kd.R_mono (Kd.R_keep (IsS185.apart (show IsS185 w0 _ g s0_0 x1001_1 from by repeat (first | (with_reducible first | exact HI0.out | apply IsS185.alloc | apply IsS185.drewN | apply IsS185.drew | apply IsS185.set_1) | exact HI0.out)) (by (with_reducible repeat (first | apply Kd.R_alloc | apply Kd.R_drewN | apply Kd.R_drew)); exact HO105.out) (by decide)) hk (fun _ h => h.2)) (fun _ h => h.1)); have n1_ := Aside0.mk (KeepBut.trans (by repeat (first | (with_reducible first | exact HK.out | apply KeepBut.set_ | apply keep_drewN | apply keep_drew | apply keep_alloc) | exact HK.out)) hk (.inl rfl)); have n2_ := Aside0.mk (hb); have n3_ := Aside0.mk (hi); clear HO105; clear HK; clear HB; clear HI0; have HO105 := n0_; have HK := n1_; have HB := n2_; have HI0 := n3_; clear n0_ n1_ n2_ n3_; (try clear hb); (try clear hb2); (try clear hk); (try clear hi)) | ((with_reducible refine gate_callee (f := 74) rfl ?_); refine goesL_ (some 18) rfl rfl Tryz.func74 (by kernel_rfl) rfl #[.pointer (some ⟨g, 0, none⟩), .int .i64 5] rfl (by (try simp only [List.map_toArray, List.map_cons, List.map_nil]); first | done | rfl | (simp only [List.length_drop, List.length_take]; rfl)) ?_; (with_reducible refine (spec_l6Rd_pick.calls k1 g s0_0 t107 5 t108 t109 w0 _ ?side1 ?side2 A7.out).mono ?_); (case side1 => repeat (first | (with_reducible first | exact HI0.out | apply IsS185.alloc | apply IsS185.drewN | apply IsS185.drew | apply IsS185.set_1) | exact HI0.out)); (case side2 => repeat (first | (with_reducible first | exact HB.out | apply below_alloc | apply pw_below_drewN | apply below_drew1 | refine below_set ?_ (IsS185.ge HI0.out)) | exact HB.out)); rintro e w35 ⟨rfl, hi, hb, hk⟩; refine ⟨_, rfl, ?_⟩; have n0_ := Aside0.mk (Kd.R_mono (Kd.R_keep (IsS185.apart (show IsS185 w0 _ g s0_0 t107 from by repeat (first | (with_reducible first | exact HI0.out | apply IsS185.alloc | apply IsS185.drewN | apply IsS185.drew | apply IsS185.set_1) | exact HI0.out)) (by (with_reducible repeat (first | apply Kd.R_alloc | apply Kd.R_drewN | apply Kd.R_drew)); exact HO105.out) (by decide)) hk (fun _ h => h.2)) (fun _ h => h.1)); have n1_ := Aside0.mk (KeepBut.trans (by repeat (first | (with_reducible first | exact HK.out | apply KeepBut.set_ | apply keep_drewN | apply keep_drew | apply keep_alloc) | exact HK.out)) hk (.inl rfl)); have n2_ := Aside0.mk (hb); have n3_ := Aside0.mk (hi); clear HO105; clear HK; clear HB; clear HI0; have HO105 := n0_; have HK := n1_; have HB := n2_; have HI0 := n3_; clear n0_ n1_ n2_ n3_; (try clear hb); (try clear hb2); (try clear hk); (try clear hi)))
              go_roundg k1
              case measure => have := HK1.out; omega
              case rel => exact ⟨(x5_1 ++ t106), (wrap64 (x6_1 - 1)), (t109), (by first | rfl | (simp; done) | (simp [*]; done)), (by first | rfl | (simp; done) | (simp [*]; done)), H', ⟨by have := HK1.out; omega⟩, ⟨by repeat (first | (with_reducible first | exact HI0.out | apply IsS185.alloc | apply IsS185.drewN | apply IsS185.drew | apply IsS185.set_1) | exact HI0.out)⟩, ⟨by repeat (first | (with_reducible first | exact HK.out | apply KeepBut.set_ | apply keep_drewN | apply keep_drew | apply keep_alloc) | exact HK.out)⟩, ⟨by repeat (first | (with_reducible first | exact HB.out | apply below_alloc | apply pw_below_drewN | apply below_drew1 | refine below_set ?_ (IsS185.ge HI0.out)) | exact HB.out)⟩⟩
            · rw [if_neg c30] at H
              exact absurd H (by simp)
          · rw [if_neg c29] at H
            have c29b0 : decide ((wrap64 ((x5_1.size : Int) + (t106.size : Int))) ≤ a1) = false := decide_eq_false c29
            clear c29
            have H' := Aside0.mk H
            clear H
            go_wp2_with (first | ((with_reducible refine gate_dst (N := 15) rfl ?_); refine Kd.R_lit Kd.string _ 9 ?hg (N := 15) ?hd (xs := ([(⟨#[97]⟩ : ByteArray), (⟨#[98, 99]⟩ : ByteArray), (⟨#[64]⟩ : ByteArray), (⟨#[64, 49]⟩ : ByteArray), (⟨#[59]⟩ : ByteArray), (⟨#[58, 53]⟩ : ByteArray), (⟨#[120, 49]⟩ : ByteArray), (⟨#[64, 64]⟩ : ByteArray), (⟨#[64, 49, 58]⟩ : ByteArray), (⟨#[55]⟩ : ByteArray)] : List ByteArray)) (inner := [.string (⟨#[97]⟩ : ByteArray), .string (⟨#[98, 99]⟩ : ByteArray), .string (⟨#[64]⟩ : ByteArray), .string (⟨#[64, 49]⟩ : ByteArray), .string (⟨#[59]⟩ : ByteArray), .string (⟨#[58, 53]⟩ : ByteArray), .string (⟨#[120, 49]⟩ : ByteArray), .string (⟨#[64, 64]⟩ : ByteArray), .string (⟨#[64, 49, 58]⟩ : ByteArray), .string (⟨#[55]⟩ : ByteArray)]) (ok := fun _ => True) (okp := fun _ => True) ?hr ?hp (fun _ hk => hk) trivial (Below.refl _ _) (Nat.le_refl _) (by simp) ?_; (case hd => rfl); (case hg => rfl); (case hr => first | (go_simp; done) | (go_simp; rfl)); (case hp => exact (Reps.one (show Kd.M Kd.string _ _ _ (⟨#[97]⟩ : ByteArray) [.string (⟨#[97]⟩ : ByteArray)] from rfl) (Reps.one (show Kd.M Kd.string _ _ _ (⟨#[98, 99]⟩ : ByteArray) [.string (⟨#[98, 99]⟩ : ByteArray)] from rfl) (Reps.one (show Kd.M Kd.string _ _ _ (⟨#[64]⟩ : ByteArray) [.string (⟨#[64]⟩ : ByteArray)] from rfl) (Reps.one (show Kd.M Kd.string _ _ _ (⟨#[64, 49]⟩ : ByteArray) [.string (⟨#[64, 49]⟩ : ByteArray)] from rfl) (Reps.one (show Kd.M Kd.string _ _ _ (⟨#[59]⟩ : ByteArray) [.string (⟨#[59]⟩ : ByteArray)] from rfl) (Reps.one (show Kd.M Kd.string _ _ _ (⟨#[58, 53]⟩ : ByteArray) [.string (⟨#[58, 53]⟩ : ByteArray)] from rfl) (Reps.one (show Kd.M Kd.string _ _ _ (⟨#[120, 49]⟩ : ByteArray) [.string (⟨#[120, 49]⟩ : ByteArray)] from rfl) (Reps.one (show Kd.M Kd.string _ _ _ (⟨#[64, 64]⟩ : ByteArray) [.string (⟨#[64, 64]⟩ : ByteArray)] from rfl) (Reps.one (show Kd.M Kd.string _ _ _ (⟨#[64, 49, 58]⟩ : ByteArray) [.string (⟨#[64, 49, 58]⟩ : ByteArray)] from rfl) (Reps.one (show Kd.M Kd.string _ _ _ (⟨#[55]⟩ : ByteArray) [.string (⟨#[55]⟩ : ByteArray)] from rfl) (Reps.none _ _)))))))))))); intro v104 w36 ho37 hb hg_ hnew_; clear hg_ hnew_; (first | rw [← Ny103.out] at ho37 | (simp only [Int.reduceToNat] at ho37; rw [← Ny103.out] at ho37)); have n0_ := Aside0.mk (Kd.R_lower ho37 (keep_size (w := w) (g := g) (row := none) (by repeat (first | (with_reducible first | exact HK.out | apply KeepBut.set_ | apply keep_drewN | apply keep_drew | apply keep_alloc) | exact HK.out)))); have n1_ := Aside0.mk (IsS185.below (by repeat (first | (with_reducible first | exact HI0.out | apply IsS185.alloc | apply IsS185.drewN | apply IsS185.drew | apply IsS185.set_1) | exact HI0.out)) hb); have n2_ := Aside0.mk (KeepBut.trans (by repeat (first | (with_reducible first | exact HK.out | apply KeepBut.set_ | apply keep_drewN | apply keep_drew | apply keep_alloc) | exact HK.out)) (KeepBut.of_below hb g none) (.inl rfl)); have n3_ := Aside0.mk (below_step (by repeat (first | (with_reducible first | exact HB.out | apply below_alloc | apply pw_below_drewN | apply below_drew1 | refine below_set ?_ (IsS185.ge HI0.out)) | exact HB.out)) hb); clear HI0; clear HK; clear HB; have HO105 := n0_; have HI0 := n1_; have HK := n2_; have HB := n3_; clear n0_ n1_ n2_ n3_; clear hb ho37; obtain ⟨Ao38, co38, eo38⟩ := Kd.R_slice HO105.out; subst eo38) | ((with_reducible refine gate_callee (f := 152) rfl ?_); refine goesL_ (some 16) rfl rfl Tryz.func152 (by kernel_rfl) rfl #[.pointer (some ⟨g, 0, none⟩), .slice Ao38 y103.length co38] rfl (by (try simp only [List.map_toArray, List.map_cons, List.map_nil]); first | done | rfl | (simp only [List.length_drop, List.length_take]; rfl)) ?_; (with_reducible refine (spec_l6Rd_of.calls k1 g s0_0 x1001_1 _ _ y103 t106 t107 w0 _ ?side1 ?side2 ?side3 ?side4 ?side5 A6.out).mono ?_); (case side1 => repeat (first | (with_reducible first | exact HI0.out | apply IsS185.alloc | apply IsS185.drewN | apply IsS185.drew | apply IsS185.set_1) | exact HI0.out)); (case side2 => repeat (first | (with_reducible first | exact HB.out | apply below_alloc | apply pw_below_drewN | apply below_drew1 | refine below_set ?_ (IsS185.ge HI0.out)) | exact HB.out)); (case side3 => repeat (first | exact (Kd.R_reads' HO105.out).2.2 | (with_reducible refine Kd.C_alloc ?_ _) | (with_reducible refine Kd.C_drewN ?_ _) | (with_reducible refine Kd.C_drew ?_))); (case side4 => exact (Kd.R_reads' HO105.out).2.1); (case side5 => exact far_slice (IsS185.own_ne HI0.out HO105.out (by decide))); rintro e w39 ⟨rfl, hi, hb, hk⟩; refine ⟨_, rfl, ?_⟩; have n0_ := Aside0.mk (Kd.R_mono (Kd.R_keep (IsS185.apart (show IsS185 w0 _ g s0_0 x1001_1 from by repeat (first | (with_reducible first | exact HI0.out | apply IsS185.alloc | apply IsS185.drewN | apply IsS185.drew | apply IsS185.set_1) | exact HI0.out)) (by (with_reducible repeat (first | apply Kd.R_alloc | apply Kd.R_drewN | apply Kd.R_drew)); exact HO105.out) (by decide)) hk (fun _ h => h.2)) (fun _ h => h.1)); have n1_ := Aside0.mk (KeepBut.trans (by repeat (first | (with_reducible first | exact HK.out | apply KeepBut.set_ | apply keep_drewN | apply keep_drew | apply keep_alloc) | exact HK.out)) hk (.inl rfl)); have n2_ := Aside0.mk (hb); have n3_ := Aside0.mk (hi); clear HO105; clear HK; clear HB; clear HI0; have HO105 := n0_; have HK := n1_; have HB := n2_; have HI0 := n3_; clear n0_ n1_ n2_ n3_; (try clear hb); (try clear hb2); (try clear hk); (try clear hi)) | ((with_reducible refine gate_callee (f := 74) rfl ?_); refine goesL_ (some 18) rfl rfl Tryz.func74 (by kernel_rfl) rfl #[.pointer (some ⟨g, 0, none⟩), .int .i64 5] rfl (by (try simp only [List.map_toArray, List.map_cons, List.map_nil]); first | done | rfl | (simp only [List.length_drop, List.length_take]; rfl)) ?_; (with_reducible refine (spec_l6Rd_pick.calls k1 g s0_0 t107 5 t108 t109 w0 _ ?side1 ?side2 A7.out).mono ?_); (case side1 => repeat (first | (with_reducible first | exact HI0.out | apply IsS185.alloc | apply IsS185.drewN | apply IsS185.drew | apply IsS185.set_1) | exact HI0.out)); (case side2 => repeat (first | (with_reducible first | exact HB.out | apply below_alloc | apply pw_below_drewN | apply below_drew1 | refine below_set ?_ (IsS185.ge HI0.out)) | exact HB.out)); rintro e w40 ⟨rfl, hi, hb, hk⟩; refine ⟨_, rfl, ?_⟩; have n0_ := Aside0.mk (Kd.R_mono (Kd.R_keep (IsS185.apart (show IsS185 w0 _ g s0_0 t107 from by repeat (first | (with_reducible first | exact HI0.out | apply IsS185.alloc | apply IsS185.drewN | apply IsS185.drew | apply IsS185.set_1) | exact HI0.out)) (by (with_reducible repeat (first | apply Kd.R_alloc | apply Kd.R_drewN | apply Kd.R_drew)); exact HO105.out) (by decide)) hk (fun _ h => h.2)) (fun _ h => h.1)); have n1_ := Aside0.mk (KeepBut.trans (by repeat (first | (with_reducible first | exact HK.out | apply KeepBut.set_ | apply keep_drewN | apply keep_drew | apply keep_alloc) | exact HK.out)) hk (.inl rfl)); have n2_ := Aside0.mk (hb); have n3_ := Aside0.mk (hi); clear HO105; clear HK; clear HB; clear HI0; have HO105 := n0_; have HK := n1_; have HB := n2_; have HI0 := n3_; clear n0_ n1_ n2_ n3_; (try clear hb); (try clear hb2); (try clear hk); (try clear hi)))
            go_roundg k1
            case measure => have := HK1.out; omega
            case rel => exact ⟨(x5_1), (wrap64 (x6_1 - 1)), (t109), (by first | rfl | (simp; done) | (simp [*]; done)), (by first | rfl | (simp; done) | (simp [*]; done)), H', ⟨by have := HK1.out; omega⟩, ⟨by repeat (first | (with_reducible first | exact HI0.out | apply IsS185.alloc | apply IsS185.drewN | apply IsS185.drew | apply IsS185.set_1) | exact HI0.out)⟩, ⟨by repeat (first | (with_reducible first | exact HK.out | apply KeepBut.set_ | apply keep_drewN | apply keep_drew | apply keep_alloc) | exact HK.out)⟩, ⟨by repeat (first | (with_reducible first | exact HB.out | apply below_alloc | apply pw_below_drewN | apply below_drew1 | refine below_set ?_ (IsS185.ge HI0.out)) | exact HB.out)⟩⟩
      · rw [if_neg c5] at H
        have c5b0 : decide (0 < x6_1) = false := decide_eq_false c5
        clear c5
        simp only [Option.some.injEq, Prod.mk.injEq] at H
        obtain ⟨rfl, rfl⟩ := H
        go_wp2
        go_ret
        exact ⟨by first | rfl | (simp [errW_none, errW_some] <;> rfl) | (simp [*, errW_none, errW_some] <;> rfl), by repeat (first | (with_reducible first | exact HI0.out | apply IsS185.alloc | apply IsS185.drewN | apply IsS185.drew | apply IsS185.set_1) | exact HI0.out), by repeat (first | (with_reducible first | exact HB.out | apply below_alloc | apply pw_below_drewN | apply below_drew1 | refine below_set ?_ (IsS185.ge HI0.out)) | exact HB.out), by repeat (first | (with_reducible first | exact HK.out | apply KeepBut.set_ | apply keep_drewN | apply keep_drew | apply keep_alloc) | exact HK.out)⟩

end
end Go.Proofs.YtjflklgoimdopaaGreatDoor.Q
namespace Go.Proofs.YtjflklgoimdopaaGreatDoor.Q
open Go.RowKit Go.Proofs.YtjflklgoimdopaaGreatDoorW.PrintWords Go.Proofs.YtjflklgoimdopaaGreatDoorW.PrintLast Go.Proofs.YtjflklgoimdopaaGreatDoorW.PrintMore
attribute [local go_sem] max2_int min2_int max_two min_two max_three min_three max_four min_four   -- for this text's walks alone
set_option linter.unusedVariables false
set_option linter.unusedSimpArgs false

noncomputable section
/-! ### spec_l6Many: function 174 -/
def spec_l6Many.l0 : Nat → ByteArray → Int → ByteArray → Option (ByteArray)
  | 0, _, _, _ => none
  | k + 1, x0, x1, x5 => if x1 > 0 then (if (Int.tmod x1 2) = 1 then (if x5.size + x0.size ≤ 9223372036854775807 then (if x0.size + x0.size ≤ 9223372036854775807 then (spec_l6Many.l0 k (x0 ++ x0) (wrap64 (Int.tdiv x1 2)) (x5 ++ x0)) else (none)) else (none)) else (if x0.size + x0.size ≤ 9223372036854775807 then (spec_l6Many.l0 k (x0 ++ x0) (wrap64 (Int.tdiv x1 2)) x5) else (none))) else (some x5)
def spec_l6Many.f (k : Nat) (a0 : ByteArray) (a1 : Int) : Option (ByteArray) := spec_l6Many.l0 k a0 a1 (⟨#[]⟩ : ByteArray)
set_option maxHeartbeats 8000000 in
set_option maxRecDepth 100000 in
theorem spec_l6Many.calls (k : Nat) (a0 : ByteArray) (a1 : Int) (r : ByteArray) (w : World) (h : spec_l6Many.f k a0 a1 = some r) :
    Calls Tryz.prog 174 #[.string a0, .int .i64 a1] w fun e w' => e = .returned (.string r) ∧ Drawn0 w w' := by
  have H : (spec_l6Many.l0 k a0 a1 (⟨#[]⟩ : ByteArray)) = some r := h
  clear h
  have H' := Aside0.mk H
  clear H
  go_enter Tryz.func174, Tryz.ntmps174
  go_wp2
  go_loopg [0, 1, 5] k (fun kq v0 v1 v5 w' => ∃ (x0_1 : ByteArray) (x1_1 : Int) (x5_1 : ByteArray), v0 = .string x0_1 ∧ v1 = .int .i64 x1_1 ∧ v5 = .string x5_1 ∧ Aside0 (spec_l6Many.l0 kq x0_1 x1_1 x5_1 = some r) ∧ Aside0 (kq ≤ k) ∧ Drawn0 w w')
  case atStart => exact ⟨(a0), (a1), ((⟨#[]⟩ : ByteArray)), (by first | rfl | (simp; done) | (simp [*]; done)), (by first | rfl | (simp; done) | (simp [*]; done)), (by first | rfl | (simp; done) | (simp [*]; done)), H', ⟨Nat.le_refl _⟩, by repeat (first | exact Drawn0.refl _ | apply Drawn0.step)⟩
  case round =>
    clear H'
    try clear c1
    try clear p2
    obtain ⟨x0_1, x1_1, x5_1, rfl, rfl, rfl, HA, HK1, ⟨m1, rfl⟩⟩ := hrel
    cases gk with
    | zero => exact absurd HA.out (by simp [spec_l6Many.l0])
    | succ k1 =>
      have H := HA.out
      clear HA
      simp only [spec_l6Many.l0] at H
      by_cases c3 : x1_1 > 0
      · rw [if_pos c3] at H
        have c3b0 : decide (0 < x1_1) = true := decide_eq_true c3
        clear c3
        by_cases c4 : (Int.tmod x1_1 2) = 1
        · rw [if_pos c4] at H
          have c4b0 : ((Int.tmod x1_1 2) == 1) = true := beq_iff_eq.mpr c4
          have c4b1 : ((Int.tmod x1_1 2) != 1) = false := bne_eq_false_iff_eq.mpr c4
          clear c4
          by_cases c5 : x5_1.size + x0_1.size ≤ 9223372036854775807
          · rw [if_pos c5] at H
            have c5b0 := eq_true c5
            have c5b1 : decide (x5_1.size + x0_1.size ≤ 9223372036854775807) = true := decide_eq_true c5
            try have c5b2 : (9223372036854775807 < x5_1.size + x0_1.size) = False := eq_false (Nat.not_lt.2 c5)
            by_cases c6 : x0_1.size + x0_1.size ≤ 9223372036854775807
            · rw [if_pos c6] at H
              have c6b0 := eq_true c6
              have c6b1 : decide (x0_1.size + x0_1.size ≤ 9223372036854775807) = true := decide_eq_true c6
              try have c6b2 : (9223372036854775807 < x0_1.size + x0_1.size) = False := eq_false (Nat.not_lt.2 c6)
              have H' := Aside0.mk H
              clear H
              go_wp2
              go_roundg k1
              case measure => have := HK1.out; omega
              case rel => exact ⟨(x0_1 ++ x0_1), (wrap64 (Int.tdiv x1_1 2)), (x5_1 ++ x0_1), (by first | rfl | (simp; done) | (simp [*]; done)), (by first | rfl | (simp; done) | (simp [*]; done)), (by first | rfl | (simp; done) | (simp [*]; done)), H', ⟨by have := HK1.out; omega⟩, by repeat (first | exact Drawn0.refl _ | apply Drawn0.step)⟩
            · rw [if_neg c6] at H
              exact absurd H (by simp)
          · rw [if_neg c5] at H
            exact absurd H (by simp)
        · rw [if_neg c4] at H
          have c4b0 : ((Int.tmod x1_1 2) == 1) = false := beq_eq_false_iff_ne.mpr c4
          have c4b1 : ((Int.tmod x1_1 2) != 1) = true := bne_iff_ne.mpr c4
          by_cases c7 : x0_1.size + x0_1.size ≤ 9223372036854775807
          · rw [if_pos c7] at H
            have c7b0 := eq_true c7
            have c7b1 : decide (x0_1.size + x0_1.size ≤ 9223372036854775807) = true := decide_eq_true c7
            try have c7b2 : (9223372036854775807 < x0_1.size + x0_1.size) = False := eq_false (Nat.not_lt.2 c7)
            have H' := Aside0.mk H
            clear H
            go_wp2
            go_roundg k1
            case measure => have := HK1.out; omega
            case rel => exact ⟨(x0_1 ++ x0_1), (wrap64 (Int.tdiv x1_1 2)), (x5_1), (by first | rfl | (simp; done) | (simp [*]; done)), (by first | rfl | (simp; done) | (simp [*]; done)), (by first | rfl | (simp; done) | (simp [*]; done)), H', ⟨by have := HK1.out; omega⟩, by repeat (first | exact Drawn0.refl _ | apply Drawn0.step)⟩
          · rw [if_neg c7] at H
            exact absurd H (by simp)
      · rw [if_neg c3] at H
        have c3b0 : decide (0 < x1_1) = false := decide_eq_false c3
        clear c3
        obtain rfl := Option.some.inj H
        go_wp2
        go_ret
        exact ⟨by first | rfl | (simp; done) | (simp [*]; done), by repeat (first | exact Drawn0.refl _ | apply Drawn0.step)⟩

end
end Go.Proofs.YtjflklgoimdopaaGreatDoor.Q
namespace Go.Proofs.YtjflklgoimdopaaGreatDoor.Q
open Go.RowKit Go.Proofs.YtjflklgoimdopaaGreatDoorW.PrintWords Go.Proofs.YtjflklgoimdopaaGreatDoorW.PrintLast Go.Proofs.YtjflklgoimdopaaGreatDoorW.PrintMore
attribute [local go_sem] max2_int min2_int max_two min_two max_three min_three max_four min_four   -- for this text's walks alone
set_option linter.unusedVariables false
set_option linter.unusedSimpArgs false

noncomputable section
/-! ### spec_l71Off: function 107 -/
def spec_l71Off.f (k : Nat) (s0_0 : List Int) (s0_1 : Int) : Option (ByteArray × Int) := (spec_l71Text.f k s0_0 s0_1 30).bind fun bt101 => ((spec_l6Rd_pick.f k s0_0 bt101.2 24).bind fun bt103 => (if bt103.1 = 0 then (if bt101.1.size + 1 ≤ 9223372036854775807 then (some (bt101.1 ++ (⟨#[32]⟩ : ByteArray), bt103.2)) else (none)) else (if bt103.1 = 1 then ((spec_l6Rd_pick.f k s0_0 bt103.2 5).bind fun bt105 => ((spec_l6Many.f k (⟨#[97]⟩ : ByteArray) (wrap64 (38 + bt105.1))).bind fun t107 => (some (t107, bt105.2)))) else (some (bt101.1, bt103.2)))))
set_option maxHeartbeats 8000000 in
set_option maxRecDepth 100000 in
theorem spec_l71Off.calls (k : Nat) (g : Nat) (s0_0 : List Int) (s0_1 : Int) (r1 : ByteArray) (r2 : Int) (w0 w : World) (hI : IsS185 w0 w g s0_0 s0_1) (hB : Below w0.heap.size w0 w) (h : spec_l71Off.f k s0_0 s0_1 = some (r1, r2)) :
    Calls Tryz.prog 107 #[.pointer (some ⟨g, 0, none⟩)] w fun e w' => e = .returned (.string r1) ∧ IsS185 w0 w' g s0_0 r2 ∧ Below w0.heap.size w0 w' ∧ KeepBut w w' g none := by
  have HI0 := Aside0.mk hI
  have HK := Aside0.mk (KeepBut.refl w g none)
  have HL := Aside0.mk hB.size
  clear hI
  have HW0 := Aside0.mk hB.size
  have HB := Aside0.mk hB
  clear hB
  have H : ((spec_l71Text.f k s0_0 s0_1 30).bind fun bt101 => ((spec_l6Rd_pick.f k s0_0 bt101.2 24).bind fun bt103 => (if bt103.1 = 0 then (if bt101.1.size + 1 ≤ 9223372036854775807 then (some (bt101.1 ++ (⟨#[32]⟩ : ByteArray), bt103.2)) else (none)) else (if bt103.1 = 1 then ((spec_l6Rd_pick.f k s0_0 bt103.2 5).bind fun bt105 => ((spec_l6Many.f k (⟨#[97]⟩ : ByteArray) (wrap64 (38 + bt105.1))).bind fun t107 => (some (t107, bt105.2)))) else (some (bt101.1, bt103.2)))))) = some (r1, r2) := h
  clear h
  replace H := Option.bind_eq_some_iff.mp H
  obtain ⟨⟨t101, t102⟩, A20, H⟩ := H
  replace H : ((spec_l6Rd_pick.f k s0_0 t102 24).bind fun bt103 => (if bt103.1 = 0 then (if t101.size + 1 ≤ 9223372036854775807 then (some (t101 ++ (⟨#[32]⟩ : ByteArray), bt103.2)) else (none)) else (if bt103.1 = 1 then ((spec_l6Rd_pick.f k s0_0 bt103.2 5).bind fun bt105 => ((spec_l6Many.f k (⟨#[97]⟩ : ByteArray) (wrap64 (38 + bt105.1))).bind fun t107 => (some (t107, bt105.2)))) else (some (t101, bt103.2))))) = some (r1, r2) := H
  have A2 := Aside0.mk A20
  clear A20
  replace H := Option.bind_eq_some_iff.mp H
  obtain ⟨⟨t103, t104⟩, A30, H⟩ := H
  replace H : (if t103 = 0 then (if t101.size + 1 ≤ 9223372036854775807 then (some (t101 ++ (⟨#[32]⟩ : ByteArray), t104)) else (none)) else (if t103 = 1 then ((spec_l6Rd_pick.f k s0_0 t104 5).bind fun bt105 => ((spec_l6Many.f k (⟨#[97]⟩ : ByteArray) (wrap64 (38 + bt105.1))).bind fun t107 => (some (t107, bt105.2)))) else (some (t101, t104)))) = some (r1, r2) := H
  have A3 := Aside0.mk A30
  clear A30
  by_cases c4 : t103 = 0
  · rw [if_pos c4] at H
    have c4b0 : (t103 == 0) = true := beq_iff_eq.mpr c4
    have c4b1 : (t103 != 0) = false := bne_eq_false_iff_eq.mpr c4
    clear c4
    by_cases c5 : t101.size + 1 ≤ 9223372036854775807
    · rw [if_pos c5] at H
      have c5b0 := eq_true c5
      have c5b1 : decide (t101.size + 1 ≤ 9223372036854775807) = true := decide_eq_true c5
      try have c5b2 : (9223372036854775807 < t101.size + 1) = False := eq_false (Nat.not_lt.2 c5)
      simp only [Option.some.injEq, Prod.mk.injEq] at H
      obtain ⟨rfl, rfl⟩ := H
      go_enter Tryz.func107, Tryz.ntmps107
      go_wp2_with (first | ((with_reducible refine gate_callee (f := 84) rfl ?_); refine goesL_ (some 5) rfl rfl Tryz.func84 (by kernel_rfl) rfl #[.pointer (some ⟨g, 0, none⟩), .int .i64 30] rfl (by (try simp only [List.map_toArray, List.map_cons, List.map_nil]); first | done | rfl | (simp only [List.length_drop, List.length_take]; rfl)) ?_; (with_reducible refine (spec_l71Text.calls k g s0_0 s0_1 30 t101 t102 w0 _ ?side1 ?side2 A2.out).mono ?_); (case side1 => repeat (first | (with_reducible first | exact HI0.out | apply IsS185.alloc | apply IsS185.drewN | apply IsS185.drew | apply IsS185.set_1) | exact HI0.out)); (case side2 => repeat (first | (with_reducible first | exact HB.out | apply below_alloc | apply pw_below_drewN | apply below_drew1 | refine below_set ?_ (IsS185.ge HI0.out)) | exact HB.out)); rintro e w6 ⟨rfl, hi, hb, hk⟩; refine ⟨_, rfl, ?_⟩; have n0_ := Aside0.mk (KeepBut.trans (by repeat (first | (with_reducible first | exact HK.out | apply KeepBut.set_ | apply keep_drewN | apply keep_drew | apply keep_alloc) | exact HK.out)) hk (.inl rfl)); have n1_ := Aside0.mk (hb); have n2_ := Aside0.mk (hi); clear HK; clear HB; clear HI0; have HK := n0_; have HB := n1_; have HI0 := n2_; clear n0_ n1_ n2_; (try clear hb); (try clear hb2); (try clear hk); (try clear hi)) | ((with_reducible refine gate_callee (f := 74) rfl ?_); refine goesL_ (some 7) rfl rfl Tryz.func74 (by kernel_rfl) rfl #[.pointer (some ⟨g, 0, none⟩), .int .i64 24] rfl (by (try simp only [List.map_toArray, List.map_cons, List.map_nil]); first | done | rfl | (simp only [List.length_drop, List.length_take]; rfl)) ?_; (with_reducible refine (spec_l6Rd_pick.calls k g s0_0 t102 24 t103 t104 w0 _ ?side1 ?side2 A3.out).mono ?_); (case side1 => repeat (first | (with_reducible first | exact HI0.out | apply IsS185.alloc | apply IsS185.drewN | apply IsS185.drew | apply IsS185.set_1) | exact HI0.out)); (case side2 => repeat (first | (with_reducible first | exact HB.out | apply below_alloc | apply pw_below_drewN | apply below_drew1 | refine below_set ?_ (IsS185.ge HI0.out)) | exact HB.out)); rintro e w7 ⟨rfl, hi, hb, hk⟩; refine ⟨_, rfl, ?_⟩; have n0_ := Aside0.mk (KeepBut.trans (by repeat (first | (with_reducible first | exact HK.out | apply KeepBut.set_ | apply keep_drewN | apply keep_drew | apply keep_alloc) | exact HK.out)) hk (.inl rfl)); have n1_ := Aside0.mk (hb); have n2_ := Aside0.mk (hi); clear HK; clear HB; clear HI0; have HK := n0_; have HB := n1_; have HI0 := n2_; clear n0_ n1_ n2_; (try clear hb); (try clear hb2); (try clear hk); (try clear hi)))
      go_ret
      exact ⟨by first | rfl | (simp [errW_none, errW_some] <;> rfl) | (simp [*, errW_none, errW_some] <;> rfl), by repeat (first | (with_reducible first | exact HI0.out | apply IsS185.alloc | apply IsS185.drewN | apply IsS185.drew | apply IsS185.set_1) | exact HI0.out), by repeat (first | (with_reducible first | exact HB.out | apply below_alloc | apply pw_below_drewN | apply below_drew1 | refine below_set ?_ (IsS185.ge HI0.out)) | exact HB.out), by repeat (first | (with_reducible first | exact HK.out | apply KeepBut.set_ | apply keep_drewN | apply keep_drew | apply keep_alloc) | exact HK.out)⟩
    · rw [if_neg c5] at H
      exact absurd H (by simp)
  · rw [if_neg c4] at H
    have c4b0 : (t103 == 0) = false := beq_eq_false_iff_ne.mpr c4
    have c4b1 : (t103 != 0) = true := bne_iff_ne.mpr c4
    by_cases c8 : t103 = 1
    · rw [if_pos c8] at H
      have c8b0 : (t103 == 1) = true := beq_iff_eq.mpr c8
      have c8b1 : (t103 != 1) = false := bne_eq_false_iff_eq.mpr c8
      clear c8
      replace H := Option.bind_eq_some_iff.mp H
      obtain ⟨⟨t105, t106⟩, A90, H⟩ := H
      replace H : ((spec_l6Many.f k (⟨#[97]⟩ : ByteArray) (wrap64 (38 + t105))).bind fun t107 => (some (t107, t106))) = some (r1, r2) := H
      have A9 := Aside0.mk A90
      clear A90
      replace H := Option.bind_eq_some_iff.mp H
      obtain ⟨t107, A100, H⟩ := H
      replace H : (some (t107, t106)) = some (r1, r2) := H
      have A10 := Aside0.mk A100
      clear A100
      simp only [Option.some.injEq, Prod.mk.injEq] at H
      obtain ⟨rfl, rfl⟩ := H
      go_enter Tryz.func107, Tryz.ntmps107
      go_wp2_with (first | ((with_reducible refine gate_callee (f := 84) rfl ?_); refine goesL_ (some 5) rfl rfl Tryz.func84 (by kernel_rfl) rfl #[.pointer (some ⟨g, 0, none⟩), .int .i64 30] rfl (by (try simp only [List.map_toArray, List.map_cons, List.map_nil]); first | done | rfl | (simp only [List.length_drop, List.length_take]; rfl)) ?_; (with_reducible refine (spec_l71Text.calls k g s0_0 s0_1 30 t101 t102 w0 _ ?side1 ?side2 A2.out).mono ?_); (case side1 => repeat (first | (with_reducible first | exact HI0.out | apply IsS185.alloc | apply IsS185.drewN | apply IsS185.drew | apply IsS185.set_1) | exact HI0.out)); (case side2 => repeat (first | (with_reducible first | exact HB.out | apply below_alloc | apply pw_below_drewN | apply below_drew1 | refine below_set ?_ (IsS185.ge HI0.out)) | exact HB.out)); rintro e w11 ⟨rfl, hi, hb, hk⟩; refine ⟨_, rfl, ?_⟩; have n0_ := Aside0.mk (KeepBut.trans (by repeat (first | (with_reducible first | exact HK.out | apply KeepBut.set_ | apply keep_drewN | apply keep_drew | apply keep_alloc) | exact HK.out)) hk (.inl rfl)); have n1_ := Aside0.mk (hb); have n2_ := Aside0.mk (hi); clear HK; clear HB; clear HI0; have HK := n0_; have HB := n1_; have HI0 := n2_; clear n0_ n1_ n2_; (try clear hb); (try clear hb2); (try clear hk); (try clear hi)) | ((with_reducible refine gate_callee (f := 74) rfl ?_); refine goesL_ (some 7) rfl rfl Tryz.func74 (by kernel_rfl) rfl #[.pointer (some ⟨g, 0, none⟩), .int .i64 24] rfl (by (try simp only [List.map_toArray, List.map_cons, List.map_nil]); first | done | rfl | (simp only [List.length_drop, List.length_take]; rfl)) ?_; (with_reducible refine (spec_l6Rd_pick.calls k g s0_0 t102 24 t103 t104 w0 _ ?side1 ?side2 A3.out).mono ?_); (case side1 => repeat (first | (with_reducible first | exact HI0.out | apply IsS185.alloc | apply IsS185.drewN | apply IsS185.drew | apply IsS185.set_1) | exact HI0.out)); (case side2 => repeat (first | (with_reducible first | exact HB.out | apply below_alloc | apply pw_below_drewN | apply below_drew1 | refine below_set ?_ (IsS185.ge HI0.out)) | exact HB.out)); rintro e w12 ⟨rfl, hi, hb, hk⟩; refine ⟨_, rfl, ?_⟩; have n0_ := Aside0.mk (KeepBut.trans (by repeat (first | (with_reducible first | exact HK.out | apply KeepBut.set_ | apply keep_drewN | apply keep_drew | apply keep_alloc) | exact HK.out)) hk (.inl rfl)); have n1_ := Aside0.mk (hb); have n2_ := Aside0.mk (hi); clear HK; clear HB; clear HI0; have HK := n0_; have HB := n1_; have HI0 := n2_; clear n0_ n1_ n2_; (try clear hb); (try clear hb2); (try clear hk); (try clear hi)) | ((with_reducible refine gate_callee (f := 74) rfl ?_); refine goesL_ (some 15) rfl rfl Tryz.func74 (by kernel_rfl) rfl #[.pointer (some ⟨g, 0, none⟩), .int .i64 5] rfl (by (try simp only [List.map_toArray, List.map_cons, List.map_nil]); first | done | rfl | (simp only [List.length_drop, List.length_take]; rfl)) ?_; (with_reducible refine (spec_l6Rd_pick.calls k g s0_0 t104 5 t105 t106 w0 _ ?side1 ?side2 A9.out).mono ?_); (case side1 => repeat (first | (with_reducible first | exact HI0.out | apply IsS185.alloc | apply IsS185.drewN | apply IsS185.drew | apply IsS185.set_1) | exact HI0.out)); (case side2 => repeat (first | (with_reducible first | exact HB.out | apply below_alloc | apply pw_below_drewN | apply below_drew1 | refine below_set ?_ (IsS185.ge HI0.out)) | exact HB.out)); rintro e w13 ⟨rfl, hi, hb, hk⟩; refine ⟨_, rfl, ?_⟩; have n0_ := Aside0.mk (KeepBut.trans (by repeat (first | (with_reducible first | exact HK.out | apply KeepBut.set_ | apply keep_drewN | apply keep_drew | apply keep_alloc) | exact HK.out)) hk (.inl rfl)); have n1_ := Aside0.mk (hb); have n2_ := Aside0.mk (hi); clear HK; clear HB; clear HI0; have HK := n0_; have HB := n1_; have HI0 := n2_; clear n0_ n1_ n2_; (try clear hb); (try clear hb2); (try clear hk); (try clear hi)) | ((with_reducible refine gate_callee (f := 174) rfl ?_); refine goesL_ (some 17) rfl rfl Tryz.func174 (by kernel_rfl) rfl #[.string (⟨#[97]⟩ : ByteArray), .int .i64 (wrap64 (38 + t105))] rfl (by (try simp only [List.map_toArray, List.map_cons, List.map_nil]); first | done | rfl | (simp only [List.length_drop, List.length_take]; rfl)) ?_; (with_reducible refine (spec_l6Many.calls k (⟨#[97]⟩ : ByteArray) (wrap64 (38 + t105)) t107 _ A10.out).mono ?_); rintro e w' ⟨rfl, ⟨nd, rfl⟩⟩; refine ⟨_, rfl, ?_⟩))
      go_ret
      exact ⟨by first | rfl | (simp [errW_none, errW_some] <;> rfl) | (simp [*, errW_none, errW_some] <;> rfl), by repeat (first | (with_reducible first | exact HI0.out | apply IsS185.alloc | apply IsS185.drewN | apply IsS185.drew | apply IsS185.set_1) | exact HI0.out), by repeat (first | (with_reducible first | exact HB.out | apply below_alloc | apply pw_below_drewN | apply below_drew1 | refine below_set ?_ (IsS185.ge HI0.out)) | exact HB.out), by repeat (first | (with_reducible first | exact HK.out | apply KeepBut.set_ | apply keep_drewN | apply keep_drew | apply keep_alloc) | exact HK.out)⟩
    · rw [if_neg c8] at H
      have c8b0 : (t103 == 1) = false := beq_eq_false_iff_ne.mpr c8
      have c8b1 : (t103 != 1) = true := bne_iff_ne.mpr c8
      simp only [Option.some.injEq, Prod.mk.injEq] at H
      obtain ⟨rfl, rfl⟩ := H
      go_enter Tryz.func107, Tryz.ntmps107
      go_wp2_with (first | ((with_reducible refine gate_callee (f := 84) rfl ?_); refine goesL_ (some 5) rfl rfl Tryz.func84 (by kernel_rfl) rfl #[.pointer (some ⟨g, 0, none⟩), .int .i64 30] rfl (by (try simp only [List.map_toArray, List.map_cons, List.map_nil]); first | done | rfl | (simp only [List.length_drop, List.length_take]; rfl)) ?_; (with_reducible refine (spec_l71Text.calls k g s0_0 s0_1 30 t101 t102 w0 _ ?side1 ?side2 A2.out).mono ?_); (case side1 => repeat (first | (with_reducible first | exact HI0.out | apply IsS185.alloc | apply IsS185.drewN | apply IsS185.drew | apply IsS185.set_1) | exact HI0.out)); (case side2 => repeat (first | (with_reducible first | exact HB.out | apply below_alloc | apply pw_below_drewN | apply below_drew1 | refine below_set ?_ (IsS185.ge HI0.out)) | exact HB.out)); rintro e w14 ⟨rfl, hi, hb, hk⟩; refine ⟨_, rfl, ?_⟩; have n0_ := Aside0.mk (KeepBut.trans (by repeat (first | (with_reducible first | exact HK.out | apply KeepBut.set_ | apply keep_drewN | apply keep_drew | apply keep_alloc) | exact HK.out)) hk (.inl rfl)); have n1_ := Aside0.mk (hb); have n2_ := Aside0.mk (hi); clear HK; clear HB; clear HI0; have HK := n0_; have HB := n1_; have HI0 := n2_; clear n0_ n1_ n2_; (try clear hb); (try clear hb2); (try clear hk); (try clear hi)) | ((with_reducible refine gate_callee (f := 74) rfl ?_); refine goesL_ (some 7) rfl rfl Tryz.func74 (by kernel_rfl) rfl #[.pointer (some ⟨g, 0, none⟩), .int .i64 24] rfl (by (try simp only [List.map_toArray, List.map_cons, List.map_nil]); first | done | rfl | (simp only [List.length_drop, List.length_take]; rfl)) ?_; (with_reducible refine (spec_l6Rd_pick.calls k g s0_0 t102 24 t103 t104 w0 _ ?side1 ?side2 A3.out).mono ?_); (case side1 => repeat (first | (with_reducible first | exact HI0.out | apply IsS185.alloc | apply IsS185.drewN | apply IsS185.drew | apply IsS185.set_1) | exact HI0.out)); (case side2 => repeat (first | (with_reducible first | exact HB.out | apply below_alloc | apply pw_below_drewN | apply below_drew1 | refine below_set ?_ (IsS185.ge HI0.out)) | exact HB.out)); rintro e w15 ⟨rfl, hi, hb, hk⟩; refine ⟨_, rfl, ?_⟩; have n0_ := Aside0.mk (KeepBut.trans (by repeat (first | (with_reducible first | exact HK.out | apply KeepBut.set_ | apply keep_drewN | apply keep_drew | apply keep_alloc) | exact HK.out)) hk (.inl rfl)); have n1_ := Aside0.mk (hb); have n2_ := Aside0.mk (hi); clear HK; clear HB; clear HI0; have HK := n0_; have HB := n1_; have HI0 := n2_; clear n0_ n1_ n2_; (try clear hb); (try clear hb2); (try clear hk); (try clear hi)))
      go_ret
      exact ⟨by first | rfl | (simp [errW_none, errW_some] <;> rfl) | (simp [*, errW_none, errW_some] <;> rfl), by repeat (first | (with_reducible first | exact HI0.out | apply IsS185.alloc | apply IsS185.drewN | apply IsS185.drew | apply IsS185.set_1) | exact HI0.out), by repeat (first | (with_reducible first | exact HB.out | apply below_alloc | apply pw_below_drewN | apply below_drew1 | refine below_set ?_ (IsS185.ge HI0.out)) | exact HB.out), by repeat (first | (with_reducible first | exact HK.out | apply KeepBut.set_ | apply keep_drewN | apply keep_drew | apply keep_alloc) | exact HK.out)⟩

end
end Go.Proofs.YtjflklgoimdopaaGreatDoor.Q
namespace Go.Proofs.YtjflklgoimdopaaGreatDoor.Q
open Go.RowKit Go.Proofs.YtjflklgoimdopaaGreatDoorW.PrintWords Go.Proofs.YtjflklgoimdopaaGreatDoorW.PrintMore Go.Proofs.YtjflklgoimdopaaGreatDoor.Z
set_option linter.unusedVariables false
set_option linter.unusedSimpArgs false

/-- A code's bytes. -/
def isCode (bs : List Int) : Prop := bs.length ≤ 2000 ∧ ∀ b ∈ bs, (0 : Int) ≤ b ∧ b ≤ 255
theorem rd_code {bs : List Int} (h : isCode bs) (i : Int) : 0 ≤ rd bs i ∧ rd bs i ≤ 255 := by
  unfold rd
  rw [List.getD_eq_getElem?_getD]
  cases he : bs[i.toNat]? with
  | none => simp
  | some b => exact h.2 b (List.mem_of_getElem? he)
theorem bits_nonneg (x y : Int) (hx : 0 ≤ x ∧ x < 9223372036854775808) (hy : 0 ≤ y ∧ y < 9223372036854775808) : 0 ≤ Go.bits .xor .i64 x y := by
  obtain ⟨a, rfl⟩ : ∃ a : Nat, x = a := ⟨x.toNat, by omega⟩
  obtain ⟨b, rfl⟩ : ∃ b : Nat, y = b := ⟨y.toNat, by omega⟩
  unfold Go.bits
  simp only [BitVec.toNat_xor, BitVec.toNat_ofInt]
  have e1 : ((a : Int) % ((2 ^ IntKind.i64.bits : Nat) : Int)).toNat = a := by
    have : ((2 ^ IntKind.i64.bits : Nat) : Int) = 18446744073709551616 := by decide
    rw [this]; omega
  have e2 : ((b : Int) % ((2 ^ IntKind.i64.bits : Nat) : Int)).toNat = b := by
    have : ((2 ^ IntKind.i64.bits : Nat) : Int) = 18446744073709551616 := by decide
    rw [this]; omega
  rw [e1, e2]
  have h := Nat.xor_lt_two_pow (n := 63) (x := a) (y := b) (by have : (2 : Nat) ^ 63 = 9223372036854775808 := by decide
                                                               omega) (by have : (2 : Nat) ^ 63 = 9223372036854775808 := by decide
                                                                          omega)
  have h63 : (2 : Nat) ^ 63 = 9223372036854775808 := by decide
  rw [IntWalk.i64_in _ (by omega)]
  omega

theorem pick_to (k : Nat) {bs : List Int} (hb : isCode bs) (p : Int) (hp : 0 ≤ p ∧ p ≤ 100000000) (n : Int) (hn : 1 ≤ n ∧ n ≤ 100000) :
    ∃ r, spec_l6Rd_pick.f (k + 1) bs p n = some (r, p + 1) ∧ 0 ≤ r ∧ r < n := by
  unfold spec_l6Rd_pick.f
  rw [if_neg (by omega)]
  have hw1 : wrap64 (p + 1) = p + 1 := w64 (by omega)
  have hw2 : wrap64 (p + 1 - 1) = p := by rw [w64 (by omega)]; omega
  simp only [spec_l6Rd_pick.j0, hw1, hw2]
  have hl := hb.1
  by_cases h0 : (bs.length : Int) = 0
  · rw [if_pos (by simpa using h0)]
    exact ⟨0, rfl, by omega, by omega⟩
  · rw [if_neg (by simpa using h0)]
    by_cases h1 : p < (bs.length : Int)
    · obtain ⟨r0, r1⟩ := rd_code hb p
      rw [if_pos h1, if_pos hp.1, if_neg (by omega), w64 (by omega)]
      exact ⟨_, rfl, Int.tmod_nonneg _ r0, Int.tmod_lt_of_pos _ (by omega)⟩
    · rw [if_neg h1, if_neg h0]
      have hw3 : wrap64 (p * 7) = p * 7 := w64 (by omega)
      have hw4 : wrap64 (p * 7 + 3) = p * 7 + 3 := w64 (by omega)
      have m1 := Int.tmod_nonneg (bs.length : Int) hp.1
      have m2 := Int.tmod_lt_of_pos p (show (0 : Int) < (bs.length : Int) by omega)
      have m3 := Int.tmod_nonneg (bs.length : Int) (show (0 : Int) ≤ p * 7 + 3 by omega)
      have m4 := Int.tmod_lt_of_pos (p * 7 + 3) (show (0 : Int) < (bs.length : Int) by omega)
      have d0 : 0 ≤ Int.tdiv p (bs.length : Int) := Int.tdiv_nonneg hp.1 (by omega)
      have d1 : Int.tdiv p (bs.length : Int) ≤ p := by
        rw [Int.tdiv_eq_ediv_of_nonneg hp.1]
        exact Int.ediv_le_self _ hp.1
      rw [hw3, hw4, if_pos m1, if_pos m2, if_pos m3, if_pos m4, if_neg (by omega)]
      obtain ⟨a0, a1⟩ := rd_code hb (Int.tmod p (bs.length : Int))
      obtain ⟨b0, b1⟩ := rd_code hb (Int.tmod (p * 7 + 3) (bs.length : Int))
      generalize rd bs (Int.tmod p (bs.length : Int)) = A at *
      generalize rd bs (Int.tmod (p * 7 + 3) (bs.length : Int)) = B at *
      generalize Int.tdiv p (bs.length : Int) = D at *
      clear m1 m2 m3 m4 hw1 hw2 hw3 hw4
      have e1 : wrap64 (wrap64 (wrap64 (wrap64 (wrap64 A * 131) + wrap64 (wrap64 B * 1117)) + wrap64 (p * 29)) + wrap64 (wrap64 D * 53)) = A * 131 + B * 1117 + p * 29 + D * 53 := by
        rw [w64 (x := A) (by omega), w64 (x := B) (by omega), w64 (x := D) (by omega), w64 (x := A * 131) (by omega), w64 (x := B * 1117) (by omega), w64 (x := p * 29) (by omega), w64 (x := D * 53) (by omega), w64 (x := A * 131 + B * 1117) (by omega), w64 (x := A * 131 + B * 1117 + p * 29) (by omega), w64 (by omega)]
      rw [e1]
      have hX : 0 ≤ A * 131 + B * 1117 + p * 29 + D * 53 ∧ A * 131 + B * 1117 + p * 29 + D * 53 ≤ 1000000000000 := by omega
      generalize A * 131 + B * 1117 + p * 29 + D * 53 = X at *
      have hd : Int.tdiv X 64 = X / 64 := Int.tdiv_eq_ediv_of_nonneg hX.1
      rw [hd, w64 (by omega)]
      have hY := bits_nonneg X (X / 64) (by omega) (by omega)
      exact ⟨_, rfl, Int.tmod_nonneg _ hY, Int.tmod_lt_of_pos _ (by omega)⟩
theorem l71End_to (k : Nat) {bs : List Int} (hb : isCode bs) (p : Int) (hp : 0 ≤ p ∧ p ≤ 90000000) :
    ∃ a b q, spec_l71End.f (k + 5) bs p = some (a, b, q) ∧ (0 ≤ a ∧ a ≤ 100 ∧ 0 ≤ b ∧ b ≤ 100) ∧ p ≤ q ∧ q ≤ p + 3 := by
  obtain ⟨r, hr, r0, r1⟩ := pick_to (k + 4) hb p (by omega) 12 (by omega)
  obtain ⟨x3, h3, x30, x31⟩ := pick_to (k + 3) hb (p + 1) (by omega) 3 (by omega)
  obtain ⟨x9, h9, x90, x91⟩ := pick_to (k + 3) hb (p + 1 + 1) (by omega) 9 (by omega)
  obtain ⟨y3, g3, y30, y31⟩ := pick_to (k + 2) hb (p + 1) (by omega) 3 (by omega)
  obtain ⟨y9, g9, y90, y91⟩ := pick_to (k + 2) hb (p + 1 + 1) (by omega) 9 (by omega)
  obtain ⟨z8, i8, z80, z81⟩ := pick_to (k + 1) hb (p + 1) (by omega) 8 (by omega)
  obtain ⟨z12, i12, z120, z121⟩ := pick_to (k + 1) hb (p + 1) (by omega) 12 (by omega)
  obtain ⟨z20, i20, z200, z201⟩ := pick_to (k + 1) hb (p + 1 + 1) (by omega) 20 (by omega)
  have w1 : wrap64 (1 + x3) = 1 + x3 := w64 (by omega)
  have w2 : wrap64 (1 + x9) = 1 + x9 := w64 (by omega)
  have w3 : wrap64 (4 + y3) = 4 + y3 := w64 (by omega)
  have w4 : wrap64 (1 + y9) = 1 + y9 := w64 (by omega)
  have w5 : wrap64 (10 + z8) = 10 + z8 := w64 (by omega)
  have w6 : wrap64 (1 + y3) = 1 + y3 := w64 (by omega)
  have key : spec_l71End.f (k + 5) bs p = some (1 + x3, 1 + x9, p + 1 + 1 + 1) ∨ spec_l71End.f (k + 5) bs p = some (4 + y3, 1 + y9, p + 1 + 1 + 1) ∨ spec_l71End.f (k + 5) bs p = some (9, 10 + z8, p + 1 + 1) ∨ spec_l71End.f (k + 5) bs p = some (z12, z20, p + 1 + 1 + 1) := by
    simp only [spec_l71End.f, spec_l71End.j0, spec_l71End.j1, spec_l71End.j2, hr, h3, h9, g3, g9, i8, i12, i20, Option.bind_some, w1, w2, w3, w4, w5]
    have hc : r = 0 ∨ r = 1 ∨ r = 2 ∨ r = 3 ∨ r = 4 ∨ r = 5 ∨ r = 6 ∨ r = 7 ∨ r = 8 ∨ r = 9 ∨ r = 10 ∨ r = 11 := by omega
    clear hr h3 h9 g3 g9 i8 i12 i20
    rcases hc with rfl | rfl | rfl | rfl | rfl | rfl | rfl | rfl | rfl | rfl | rfl | rfl
    · exact .inl rfl
    · exact .inl rfl
    · exact .inl rfl
    · exact .inl rfl
    · exact .inr (.inl rfl)
    · exact .inr (.inl rfl)
    · exact .inr (.inl rfl)
    · exact .inr (.inr (.inl rfl))
    · exact .inr (.inr (.inl rfl))
    · exact .inr (.inr (.inl rfl))
    · exact .inr (.inr (.inl rfl))
    · exact .inr (.inr (.inr rfl))
  rcases key with h | h | h | h <;> exact ⟨_, _, _, h, by omega, by omega, by omega⟩
theorem l3Out_any (l : List S149) (hl : l.length ≤ 1000) (x y : Int) (n : Nat) : ∀ (k i : Nat), l.length - i ≤ n → n < k → ∃ r1 r2 r3, spec_l3Out.l0 k l i x y = some (r1, r2, r3) ∧ r1.length ≤ l.length + 1 := by
  induction n with
  | zero =>
    intro k i hn hk
    obtain ⟨k, rfl⟩ : ∃ m, k = m + 1 := ⟨k - 1, by omega⟩
    simp only [spec_l3Out.l0]
    rw [if_neg (by omega)]
    split
    · exact ⟨_, _, _, rfl, by omega⟩
    · rw [if_pos (by omega)]
      exact ⟨_, _, _, rfl, by simp⟩
  | succ n ih =>
    intro k i hn hk
    obtain ⟨k, rfl⟩ : ∃ m, k = m + 1 := ⟨k - 1, by omega⟩
    simp only [spec_l3Out.l0]
    by_cases hlt : i < l.length
    · have hw3 : wrap64 ((i : Int) + 1) = ((i + 1 : Nat) : Int) := by rw [w64 (by omega)]; omega
      rw [if_pos (by omega), if_pos (by omega)]
      split
      · exact ⟨_, _, _, rfl, by omega⟩
      · rw [hw3]
        exact ih k (i + 1) (by omega) (by omega)
    · rw [if_neg (by omega)]
      split
      · exact ⟨_, _, _, rfl, by omega⟩
      · rw [if_pos (by omega)]
        exact ⟨_, _, _, rfl, by simp⟩
theorem l71Map_l0 {bs : List Int} (hb : isCode bs) (n : Nat) : ∀ (k : Nat) (l : List S149) (p : Int), n ≤ 20 → l.length + n ≤ 30 → n + 40 < k → 0 ≤ p → p + 3 * n ≤ 80000000 →
    ∃ r q, spec_l71Map.l0 k l n bs p = some (r, q) ∧ r.length ≤ 31 ∧ p ≤ q ∧ q ≤ p + 2 * n + 10 := by
  induction n with
  | zero =>
    intro k l p hn hl hk h0 h1
    obtain ⟨k, rfl⟩ : ∃ m, k = m + 6 := ⟨k - 6, by omega⟩
    simp only [spec_l71Map.l0]
    rw [if_neg (by omega)]
    obtain ⟨a, ha, a0, a1⟩ := pick_to (k + 4) hb p (by omega) 20 (by omega)
    rw [ha, Option.bind_some]
    by_cases c0 : a = 0
    · rw [if_pos c0]
      obtain ⟨b, hbb, b0, b1⟩ := pick_to (k + 4) hb (p + 1) (by omega) 9 (by omega)
      obtain ⟨e1, e2, q, he, _, hq⟩ := l71End_to k hb (p + 1 + 1) (by omega)
      rw [hbb, Option.bind_some, he, Option.bind_some, if_pos (by omega)]
      exact ⟨_, _, rfl, by simp; omega, by (try dsimp only); omega, by (try dsimp only); omega⟩
    · rw [if_neg c0]
      by_cases c1 : a = 1
      · rw [if_pos c1]
        by_cases c2 : (l.length : Int) > 0
        · rw [if_pos c2]
          obtain ⟨b, hbb, b0, b1⟩ := pick_to (k + 4) hb (p + 1) (by omega) (l.length : Int) (by omega)
          obtain ⟨e1, e2, q, he, _, hq⟩ := l71End_to k hb (p + 1 + 1) (by omega)
          rw [hbb, Option.bind_some, he, Option.bind_some, if_pos b0, if_pos b1]
          exact ⟨_, _, rfl, by rw [List.length_set]; omega, by (try dsimp only); omega, by (try dsimp only); omega⟩
        · rw [if_neg c2]
          exact ⟨_, _, rfl, by omega, by omega, by omega⟩
      · rw [if_neg c1]
        by_cases c3 : a = 2
        · rw [if_pos c3]
          by_cases c2 : (l.length : Int) > 0
          · rw [if_pos c2, if_pos (by omega)]
            exact ⟨_, _, rfl, by rw [List.length_drop]; omega, by omega, by omega⟩
          · rw [if_neg c2]
            exact ⟨_, _, rfl, by omega, by omega, by omega⟩
        · rw [if_neg c3]
          exact ⟨_, _, rfl, by omega, by omega, by omega⟩
  | succ n ih =>
    intro k l p hn hl hk h0 h1
    obtain ⟨k, rfl⟩ : ∃ m, k = m + 2 := ⟨k - 2, by omega⟩
    simp only [spec_l71Map.l0]
    rw [if_pos (by omega)]
    obtain ⟨a, ha, a0, a1⟩ := pick_to k hb p (by omega) 3 (by omega)
    obtain ⟨b, hbb, b0, b1⟩ := pick_to k hb (p + 1) (by omega) 9 (by omega)
    rw [ha, Option.bind_some, hbb, Option.bind_some]
    obtain ⟨r1, r2, r3, ho, hr⟩ := l3Out_any l (by omega) (wrap64 (1 + a)) (wrap64 (1 + b)) l.length (k + 1) 0 (by omega) (by omega)
    have ho' : spec_l3Out.f (k + 1) l (wrap64 (1 + a)) (wrap64 (1 + b)) = some (r1, r2, r3) := ho
    have hw : wrap64 (((n + 1 : Nat) : Int) - 1) = (n : Int) := by rw [w64 (by omega)]; omega
    rw [ho', Option.bind_some, hw]
    obtain ⟨r, q, h2, h3, h4, h5⟩ := ih (k + 1) r1 (p + 1 + 1) (by omega) (by omega) (by omega) (by omega) (by omega)
    exact ⟨r, q, h2, h3, by omega, by omega⟩
theorem l71Map_to (k : Nat) (hk : 100 < k) {bs : List Int} (hb : isCode bs) (p : Int) (hp : 0 ≤ p ∧ p ≤ 70000000) :
    ∃ r q, spec_l71Map.f k bs p = some (r, q) ∧ r.length ≤ 31 ∧ p ≤ q ∧ q ≤ p + 100 := by
  obtain ⟨k, rfl⟩ : ∃ m, k = m + 1 := ⟨k - 1, by omega⟩
  obtain ⟨a, ha, a0, a1⟩ := pick_to k hb p (by omega) 10 (by omega)
  obtain ⟨n, rfl⟩ := Int.eq_ofNat_of_zero_le a0
  obtain ⟨r, q, h2, h3, h4, h5⟩ := l71Map_l0 hb n (k + 1) [] (p + 1) (by omega) (by simp; omega) (by omega) (by omega) (by omega)
  refine ⟨r, q, ?_, h3, by omega, by omega⟩
  unfold spec_l71Map.f
  rw [ha, Option.bind_some]
  exact h2
/-! ### texts -/
theorem l6Many_l0 (n : Nat) : ∀ (k : Nat) (x acc : ByteArray) (c : Nat), c ≤ n → n ≤ 100000 → n < k → acc.size + x.size * c ≤ 100000 → ∃ r, spec_l6Many.l0 k x c acc = some r ∧ r.size = acc.size + x.size * c := by
  induction n using Nat.strongRecOn with
  | _ n ih =>
    intro k x acc c hc hn hk h1
    obtain ⟨k, rfl⟩ : ∃ m, k = m + 1 := ⟨k - 1, by omega⟩
    simp only [spec_l6Many.l0]
    by_cases h0 : 0 < c
    · obtain ⟨q, b, e0, hb, hq⟩ : ∃ q b, c = 2 * q + b ∧ b < 2 ∧ q < n := ⟨c / 2, c % 2, by omega, by omega, by omega⟩
      have hm : Int.tmod (c : Int) 2 = (b : Int) := by rw [Int.tmod_eq_emod_of_nonneg (by omega)]; omega
      have hd : wrap64 (Int.tdiv (c : Int) 2) = (q : Int) := by rw [Int.tdiv_eq_ediv_of_nonneg (by omega), w64 (by omega)]; omega
      have hxx : (x ++ x).size = x.size + x.size := ByteArray.size_append
      have hax : (acc ++ x).size = acc.size + x.size := ByteArray.size_append
      have hx1 : x.size ≤ x.size * c := Nat.le_mul_of_pos_right _ h0
      rw [if_pos (by omega), hm, hd]
      clear hm hd
      have e2 : (x ++ x).size * q = 2 * (x.size * q) := by rw [hxx, Nat.add_mul]; omega
      have hcases : b = 0 ∨ b = 1 := by omega
      rcases hcases with rfl | rfl
      · have e1 : x.size * c = 2 * (x.size * q) := by rw [e0, Nat.add_zero, Nat.mul_left_comm]
        rw [if_neg (by omega), if_pos (by omega)]
        obtain ⟨r, hr, hs⟩ := ih q hq k (x ++ x) acc q (Nat.le_refl _) (by omega) (by omega) (by omega)
        exact ⟨r, hr, by omega⟩
      · have e1 : x.size * c = 2 * (x.size * q) + x.size := by rw [e0, Nat.mul_add, Nat.mul_one, Nat.mul_left_comm]
        rw [if_pos (by omega), if_pos (by omega), if_pos (by omega)]
        obtain ⟨r, hr, hs⟩ := ih q hq k (x ++ x) (acc ++ x) q (Nat.le_refl _) (by omega) (by omega) (by omega)
        exact ⟨r, hr, by omega⟩
    · obtain rfl : c = 0 := by omega
      rw [if_neg (by omega)]
      exact ⟨acc, rfl, by simp⟩
theorem of_to (k : Nat) {bs : List Int} (hb : isCode bs) (p : Int) (hp : 0 ≤ p ∧ p ≤ 90000000) (xs : List ByteArray) (hx : 1 ≤ xs.length ∧ xs.length ≤ 1000) (M : Nat) (hM : ∀ x ∈ xs, x.size ≤ M) :
    ∃ r, spec_l6Rd_of.f (k + 1) bs p xs = some (r, p + 1) ∧ r.size ≤ M := by
  obtain ⟨a, ha, a0, a1⟩ := pick_to k hb p (by omega) (xs.length : Int) (by omega)
  unfold spec_l6Rd_of.f
  rw [ha, Option.bind_some, if_pos a0, if_pos a1]
  refine ⟨_, rfl, ?_⟩
  unfold rdOf
  have hi : a.toNat < xs.length := by omega
  rw [List.getD_eq_getElem?_getD, List.getElem?_eq_getElem hi]
  exact hM _ (List.getElem_mem hi)
theorem pick_at (k : Nat) (hk : 0 < k) {bs : List Int} (hb : isCode bs) (p : Int) (hp : 0 ≤ p ∧ p ≤ 100000000) (n : Int) (hn : 1 ≤ n ∧ n ≤ 100000) :
    ∃ r, spec_l6Rd_pick.f k bs p n = some (r, p + 1) ∧ 0 ≤ r ∧ r < n := by
  obtain ⟨k, rfl⟩ : ∃ m, k = m + 1 := ⟨k - 1, by omega⟩
  exact pick_to k hb p hp n hn
theorem l71End_at (k : Nat) (hk : 4 < k) {bs : List Int} (hb : isCode bs) (p : Int) (hp : 0 ≤ p ∧ p ≤ 90000000) :
    ∃ a b q, spec_l71End.f k bs p = some (a, b, q) ∧ (0 ≤ a ∧ a ≤ 100 ∧ 0 ≤ b ∧ b ≤ 100) ∧ p ≤ q ∧ q ≤ p + 3 := by
  obtain ⟨k, rfl⟩ : ∃ m, k = m + 5 := ⟨k - 5, by omega⟩
  exact l71End_to k hb p hp
theorem of_at (k : Nat) (hk : 0 < k) {bs : List Int} (hb : isCode bs) (p : Int) (hp : 0 ≤ p ∧ p ≤ 90000000) (xs : List ByteArray) (hx : 1 ≤ xs.length ∧ xs.length ≤ 1000) (M : Nat) (hM : ∀ x ∈ xs, x.size ≤ M) :
    ∃ r, spec_l6Rd_of.f k bs p xs = some (r, p + 1) ∧ r.size ≤ M := by
  obtain ⟨k, rfl⟩ : ∃ m, k = m + 1 := ⟨k - 1, by omega⟩
  exact of_to k hb p hp xs hx M hM
theorem l71Text_l0 {bs : List Int} (hb : isCode bs) (M : Nat) (hM : M ≤ 1000) (n : Nat) : ∀ (k : Nat) (s : ByteArray) (p : Int), n ≤ 20 → n + 10 < k → 0 ≤ p → p + 10 * n ≤ 80000000 → s.size ≤ M →
    ∃ r q, spec_l71Text.l0 k M s n bs p = some (r, q) ∧ r.size ≤ M ∧ p ≤ q ∧ q ≤ p + 10 * n := by
  induction n with
  | zero =>
    intro k s p hn hk h0 h1 hs
    obtain ⟨k, rfl⟩ : ∃ m, k = m + 1 := ⟨k - 1, by omega⟩
    simp only [spec_l71Text.l0]
    rw [if_neg (by omega)]
    exact ⟨s, p, rfl, hs, by omega, by omega⟩
  | succ n ih =>
    intro k s p hn hk h0 h1 hs
    obtain ⟨k, rfl⟩ : ∃ m, k = m + 1 := ⟨k - 1, by omega⟩
    simp only [spec_l71Text.l0]
    rw [if_pos (by omega)]
    have hw : wrap64 (((n + 1 : Nat) : Int) - 1) = (n : Int) := by rw [w64 (by omega)]; omega
    rw [hw]
    clear hw
    obtain ⟨x, hx, hx2⟩ := of_at k (by omega) hb p (by omega) [(⟨#[97]⟩ : ByteArray), (⟨#[98, 99]⟩ : ByteArray), (⟨#[64]⟩ : ByteArray), (⟨#[64, 49]⟩ : ByteArray), (⟨#[59]⟩ : ByteArray), (⟨#[58, 53]⟩ : ByteArray), (⟨#[120, 49]⟩ : ByteArray), (⟨#[64, 64]⟩ : ByteArray), (⟨#[64, 49, 58]⟩ : ByteArray), (⟨#[55]⟩ : ByteArray)] ⟨by decide, by decide⟩ 3 (by decide)
    obtain ⟨b, hbb, b0, b1⟩ := pick_at k (by omega) hb (p + 1) (by omega) 5 (by omega)
    rw [hx, Option.bind_some]
    simp only
    rw [hbb, Option.bind_some]
    simp only
    by_cases c3 : b < 3
    · rw [if_pos c3]
      obtain ⟨e1, e2, q, he, _, hq⟩ := l71End_at k (by omega) hb (p + 1 + 1) (by omega)
      have hl := endText_len ⟨e1, e2⟩
      obtain ⟨t, ht⟩ : ∃ t, t = mkB (endText ⟨e1, e2⟩) := ⟨_, rfl⟩
      have hE : spec_EndText.f e1 e2 = some t := by rw [ht]; rfl
      have ht2 : t.size ≤ 5 := by rw [ht]; exact hl
      rw [he, Option.bind_some]
      simp only
      rw [hE, Option.bind_some]
      have hsz1 : ((⟨#[64]⟩ : ByteArray) ++ t).size = 1 + t.size := by rw [ByteArray.size_append]; rfl
      have hsz2 : (((⟨#[64]⟩ : ByteArray) ++ t) ++ (⟨#[59]⟩ : ByteArray)).size = 1 + t.size + 1 := by rw [ByteArray.size_append, hsz1]; rfl
      obtain ⟨y, hy⟩ : ∃ y, y = (((⟨#[64]⟩ : ByteArray) ++ t) ++ (⟨#[59]⟩ : ByteArray)) := ⟨_, rfl⟩
      rw [if_pos (by omega), if_pos (by rw [hsz1]; omega), ← hy]
      rw [← hy] at hsz2
      have hw2 : wrap64 ((s.size : Int) + (y.size : Int)) = (s.size : Int) + (y.size : Int) := w64 (by omega)
      rw [hw2]
      clear hw2
      by_cases c4 : (s.size : Int) + (y.size : Int) ≤ (M : Int)
      · rw [if_pos c4, if_pos (by omega)]
        obtain ⟨r, q2, g1, g2, g3, g4⟩ := ih k (s ++ y) q (by omega) (by omega) (by omega) (by omega) (by rw [ByteArray.size_append]; omega)
        exact ⟨r, q2, g1, g2, by omega, by omega⟩
      · rw [if_neg c4]
        obtain ⟨r, q2, g1, g2, g3, g4⟩ := ih k s q (by omega) (by omega) (by omega) (by omega) hs
        exact ⟨r, q2, g1, g2, by omega, by omega⟩
    · rw [if_neg c3]
      have hw2 : wrap64 ((s.size : Int) + (x.size : Int)) = (s.size : Int) + (x.size : Int) := w64 (by omega)
      rw [hw2]
      clear hw2
      by_cases c4 : (s.size : Int) + (x.size : Int) ≤ (M : Int)
      · rw [if_pos c4, if_pos (by omega)]
        obtain ⟨r, q2, g1, g2, g3, g4⟩ := ih k (s ++ x) (p + 1 + 1) (by omega) (by omega) (by omega) (by omega) (by rw [ByteArray.size_append]; omega)
        exact ⟨r, q2, g1, g2, by omega, by omega⟩
      · rw [if_neg c4]
        obtain ⟨r, q2, g1, g2, g3, g4⟩ := ih k s (p + 1 + 1) (by omega) (by omega) (by omega) (by omega) hs
        exact ⟨r, q2, g1, g2, by omega, by omega⟩
theorem l71Text_to (k : Nat) (hk : 100 < k) {bs : List Int} (hb : isCode bs) (p : Int) (hp : 0 ≤ p ∧ p ≤ 70000000) (M : Nat) (hM : M ≤ 1000) :
    ∃ r q, spec_l71Text.f k bs p M = some (r, q) ∧ r.size ≤ M ∧ p ≤ q ∧ q ≤ p + 100 := by
  obtain ⟨k, rfl⟩ : ∃ m, k = m + 1 := ⟨k - 1, by omega⟩
  obtain ⟨a, ha, a0, a1⟩ := pick_to k hb p (by omega) 7 (by omega)
  obtain ⟨n, rfl⟩ := Int.eq_ofNat_of_zero_le a0
  obtain ⟨r, q, h2, h3, h4, h5⟩ := l71Text_l0 hb M hM n (k + 1) ⟨#[]⟩ (p + 1) (by omega) (by omega) (by omega) (by omega) (Nat.zero_le _)
  refine ⟨r, q, ?_, h3, by omega, by omega⟩
  unfold spec_l71Text.f
  rw [ha, Option.bind_some]
  exact h2
theorem l71Off_to (k : Nat) (hk : 200 < k) {bs : List Int} (hb : isCode bs) (p : Int) (hp : 0 ≤ p ∧ p ≤ 60000000) :
    ∃ r q, spec_l71Off.f k bs p = some (r, q) ∧ r.size ≤ 100 ∧ p ≤ q ∧ q ≤ p + 200 := by
  obtain ⟨k, rfl⟩ : ∃ m, k = m + 1 := ⟨k - 1, by omega⟩
  obtain ⟨t, q, ht, ht2, ht3, ht4⟩ := l71Text_to (k + 1) (by omega) hb p (by omega) 30 (by omega)
  obtain ⟨a, ha, a0, a1⟩ := pick_to k hb q (by omega) 24 (by omega)
  unfold spec_l71Off.f
  rw [show spec_l71Text.f (k + 1) bs p 30 = some (t, q) from ht, Option.bind_some]
  simp only
  rw [ha, Option.bind_some]
  simp only
  by_cases c0 : a = 0
  · rw [if_pos c0, if_pos (by omega)]
    exact ⟨_, _, rfl, by rw [ByteArray.size_append]; show t.size + 1 ≤ 100; omega, by (try dsimp only); omega, by (try dsimp only); omega⟩
  · rw [if_neg c0]
    by_cases c1 : a = 1
    · rw [if_pos c1]
      obtain ⟨b, hbb, b0, b1⟩ := pick_to k hb (q + 1) (by omega) 5 (by omega)
      obtain ⟨c, rfl⟩ := Int.eq_ofNat_of_zero_le b0
      have hw : wrap64 (38 + (c : Int)) = ((38 + c : Nat) : Int) := by rw [w64 (by omega)]; omega
      obtain ⟨r, hr, hs⟩ := l6Many_l0 (38 + c) (k + 1) ⟨#[97]⟩ ⟨#[]⟩ (38 + c) (Nat.le_refl _) (by omega) (by omega) (by show 0 + 1 * (38 + c) ≤ _; omega)
      have hr' : spec_l6Many.f (k + 1) (⟨#[97]⟩ : ByteArray) ((38 + c : Nat) : Int) = some r := hr
      rw [hbb, Option.bind_some]
      simp only
      rw [hw, hr', Option.bind_some]
      exact ⟨_, _, rfl, by rw [hs]; show 0 + 1 * (38 + c) ≤ _; omega, by (try dsimp only); omega, by (try dsimp only); omega⟩
    · rw [if_neg c1]
      exact ⟨_, _, rfl, by omega, by (try dsimp only); omega, by (try dsimp only); omega⟩
theorem l6Open_to {code : List Int} (hc : ∀ b ∈ code, (0 : Int) ≤ b ∧ b ≤ 255) : ∃ bs, spec_l6Open.f code = some (bs, 0) ∧ isCode bs := by
  unfold spec_l6Open.f
  by_cases h : (code.length : Int) > 2000
  · rw [if_pos h, if_pos (by omega)]
    exact ⟨_, rfl, by rw [List.length_take]; omega, fun b hb => hc b (List.mem_of_mem_take hb)⟩
  · rw [if_neg h]
    exact ⟨_, rfl, by omega, hc⟩
end Go.Proofs.YtjflklgoimdopaaGreatDoor.Q
namespace Go.Proofs.YtjflklgoimdopaaGreatDoor.Q
open Go.RowKit Go.Proofs.YtjflklgoimdopaaGreatDoorW.PrintWords Go.Proofs.YtjflklgoimdopaaGreatDoorW.PrintLast Go.Proofs.YtjflklgoimdopaaGreatDoorW.PrintMore
attribute [local go_sem] max2_int min2_int max_two min_two max_three min_three max_four min_four   -- for this text's walks alone
set_option linter.unusedVariables false
set_option linter.unusedSimpArgs false

noncomputable section
/-! ### spec_DrawMapTextIn: function 36 -/
def spec_DrawMapTextIn.f (k : Nat) (l0 : List Int) : Option ((List (S149)) × ByteArray) := (spec_l6Open.f l0).bind fun bt101 => ((spec_l71Map.f k bt101.1 bt101.2).bind fun bt104 => ((spec_l71Off.f k bt101.1 bt104.2).bind fun bt108 => (some (bt104.1, bt108.1))))
set_option maxHeartbeats 8000000 in
set_option maxRecDepth 100000 in
theorem spec_DrawMapTextIn.calls (k : Nat) (A0 : Option Addr) (c0 : Nat) (l0 : List Int) (r1 : List (S149)) (r2 : ByteArray) (w : World) (hr0 : Kd.C (Kd.int .u8) w A0 l0.length l0) (hc0 : l0.length ≤ c0) (h : spec_DrawMapTextIn.f k l0 = some (r1, r2)) :
    Calls Tryz.prog 36 #[.slice A0 l0.length c0] w fun e w' => ∃ v0_ : Value, e = .returned (.tuple #[v0_, .string r2]) ∧ Kd.Q k149 149 w' w.heap.size (fun _ => True) v0_ r1 ∧ Below w.heap.size w w' := by
  have HR0 := Aside0.mk hr0
  have HC0 := Aside0.mk hc0
  clear hr0 hc0
  have HB := Aside0.mk (Below.refl w.heap.size w)
  have H : ((spec_l6Open.f l0).bind fun bt101 => ((spec_l71Map.f k bt101.1 bt101.2).bind fun bt104 => ((spec_l71Off.f k bt101.1 bt104.2).bind fun bt108 => (some (bt104.1, bt108.1))))) = some (r1, r2) := h
  clear h
  replace H := Option.bind_eq_some_iff.mp H
  obtain ⟨⟨t101, t102⟩, A20, H⟩ := H
  replace H : ((spec_l71Map.f k t101 t102).bind fun bt104 => ((spec_l71Off.f k t101 bt104.2).bind fun bt108 => (some (bt104.1, bt108.1)))) = some (r1, r2) := H
  have A2 := Aside0.mk A20
  clear A20
  replace H := Option.bind_eq_some_iff.mp H
  obtain ⟨⟨t104, t107⟩, A30, H⟩ := H
  replace H : ((spec_l71Off.f k t101 t107).bind fun bt108 => (some (t104, bt108.1))) = some (r1, r2) := H
  have A3 := Aside0.mk A30
  clear A30
  replace H := Option.bind_eq_some_iff.mp H
  obtain ⟨⟨t108, t109⟩, A40, H⟩ := H
  replace H : (some (t104, t108)) = some (r1, r2) := H
  have A4 := Aside0.mk A40
  clear A40
  simp only [Option.some.injEq, Prod.mk.injEq] at H
  obtain ⟨rfl, rfl⟩ := H
  go_enter Tryz.func36, Tryz.ntmps36
  go_wp2_with (first | ((with_reducible refine gate_callee (f := 72) rfl ?_); refine goesL_ (some 6) rfl rfl Tryz.func72 (by kernel_rfl) rfl #[.slice A0 l0.length c0] rfl (by (try simp only [List.map_toArray, List.map_cons, List.map_nil]); first | done | rfl | (simp only [List.length_drop, List.length_take]; rfl)) ?_; (with_reducible refine (spec_l6Open.calls _ _ l0 t101 t102 w _ ?side1 ?side2 ?side3 A2.out).mono ?_); (case side1 => repeat (first | (with_reducible first | exact HB.out | apply below_alloc | apply pw_below_drewN | apply below_drew1) | exact HB.out)); (case side2 => exact HR0.out); (case side3 => exact HC0.out); rintro e w5 ⟨g103, rfl, hi, hb, hb2⟩; refine ⟨_, rfl, ?_⟩; have n0_ := Aside0.mk (hb); have n1_ := Aside0.mk (hi); clear HB; have HB := n0_; have HI103 := n1_; clear n0_ n1_; (try clear hb); (try clear hb2); (try clear hk); (try clear hi)) | ((with_reducible refine gate_callee (f := 106) rfl ?_); refine goesL_ (some 8) rfl rfl Tryz.func106 (by kernel_rfl) rfl #[.pointer (some ⟨g103, 0, none⟩)] rfl (by (try simp only [List.map_toArray, List.map_cons, List.map_nil]); first | done | rfl | (simp only [List.length_drop, List.length_take]; rfl)) ?_; (with_reducible refine (spec_l71Map.calls k g103 t101 t102 t104 t107 w _ ?side1 ?side2 A3.out).mono ?_); (case side1 => repeat (first | (with_reducible first | exact HI103.out | apply IsS185.alloc | apply IsS185.drewN | apply IsS185.drew | apply IsS185.set_1) | exact HI103.out)); (case side2 => repeat (first | (with_reducible first | exact HB.out | apply below_alloc | apply pw_below_drewN | apply below_drew1 | refine below_set ?_ (IsS185.ge HI103.out)) | exact HB.out)); rintro e w6 ⟨v105, rfl, ho0, hi, hb, hk⟩; refine ⟨_, rfl, ?_⟩; have n0_ := Aside0.mk (Kd.Q_lower ho0 (below_size (by repeat (first | (with_reducible first | exact HB.out | apply below_alloc | apply pw_below_drewN | apply below_drew1 | refine below_set ?_ (IsS185.ge HI103.out)) | exact HB.out)))); have n1_ := Aside0.mk (hb); have n2_ := Aside0.mk (hi); clear HB; clear HI103; have HO106 := n0_; have HB := n1_; have HI103 := n2_; clear n0_ n1_ n2_; (try clear hb); (try clear hb2); (try clear hk); (try clear hi); (try clear ho0)) | ((with_reducible refine gate_callee (f := 107) rfl ?_); refine goesL_ (some 10) rfl rfl Tryz.func107 (by kernel_rfl) rfl #[.pointer (some ⟨g103, 0, none⟩)] rfl (by (try simp only [List.map_toArray, List.map_cons, List.map_nil]); first | done | rfl | (simp only [List.length_drop, List.length_take]; rfl)) ?_; (with_reducible refine (spec_l71Off.calls k g103 t101 t107 t108 t109 w _ ?side1 ?side2 A4.out).mono ?_); (case side1 => repeat (first | (with_reducible first | exact HI103.out | apply IsS185.alloc | apply IsS185.drewN | apply IsS185.drew | apply IsS185.set_1) | exact HI103.out)); (case side2 => repeat (first | (with_reducible first | exact HB.out | apply below_alloc | apply pw_below_drewN | apply below_drew1 | refine below_set ?_ (IsS185.ge HI103.out)) | exact HB.out)); rintro e w7 ⟨rfl, hi, hb, hk⟩; refine ⟨_, rfl, ?_⟩; have n0_ := Aside0.mk (Kd.Q_mono (Kd.Q_keep (IsS185.apartQ (show IsS185 w _ g103 t101 t107 from by repeat (first | (with_reducible first | exact HI103.out | apply IsS185.alloc | apply IsS185.drewN | apply IsS185.drew | apply IsS185.set_1) | exact HI103.out)) (by (with_reducible repeat (first | apply Kd.Q_alloc | apply Kd.Q_drewN | apply Kd.Q_drew)); exact HO106.out) (by decide)) hk (fun _ h => h.2)) (fun _ h => h.1)); have n1_ := Aside0.mk (hb); have n2_ := Aside0.mk (hi); clear HO106; clear HB; clear HI103; have HO106 := n0_; have HB := n1_; have HI103 := n2_; clear n0_ n1_ n2_; (try clear hb); (try clear hb2); (try clear hk); (try clear hi)))
  go_ret2
  exact ⟨_, by first | rfl | (simp [errW_none, errW_some] <;> rfl) | (simp [*, errW_none, errW_some] <;> rfl), by (with_reducible repeat (first | apply Kd.Q_alloc | apply Kd.Q_drewN | apply Kd.Q_drew)); exact HO106.out, by repeat (first | (with_reducible first | exact HB.out | apply below_alloc | apply pw_below_drewN | apply below_drew1 | refine below_set ?_ (IsS185.ge HI103.out)) | exact HB.out)⟩

end
end Go.Proofs.YtjflklgoimdopaaGreatDoor.Q
namespace Go.Proofs.YtjflklgoimdopaaGreatDoor.Q
open Go.RowKit Go.Proofs.YtjflklgoimdopaaGreatDoorW.PrintWords Go.Proofs.YtjflklgoimdopaaGreatDoorW.PrintLast Go.Proofs.YtjflklgoimdopaaGreatDoorW.PrintMore Go.Proofs.YtjflklgoimdopaaGreatDoor.Z
attribute [local go_sem] max2_int min2_int max_two min_two max_three min_three max_four min_four   -- for this text's walks alone
set_option linter.unusedVariables false
set_option linter.unusedSimpArgs false

noncomputable section
/-! ### laws_FnTextPlain: function 7 -/
mutual
def laws_FnTextPlain.j0 : Nat → List (S149) → ByteArray → ByteArray → Bool → Option (Bool)
  | 0, _, _, _, _ => none
  | k + 1, x3, x4, x5, x37 => if x37 = true then ((spec_MapTextIn.f k x3 x4).bind fun t109 => (some (x5.toList == t109.toList))) else ((impl_TextPieces.f k x4).bind fun t110 => (laws_FnTextPlain.l0 k x3 x4 x5 (⟨#[]⟩ : ByteArray) t110 0 0))
def laws_FnTextPlain.l0 : Nat → List (S149) → ByteArray → ByteArray → ByteArray → List (S90) → Int → Int → Option (Bool)
  | 0, _, _, _, _, _, _, _ => none
  | k + 1, x3, x4, x5, x6, x7, x8, x9 => if x9 < (x7.length : Int) then (if 0 ≤ x9 then (if ((rd_T90 x7 x9).f1 = true) then (laws_FnTextPlain.l0 k x3 x4 x5 x6 x7 (wrap64 (x8 + ((rd_T90 x7 x9).f0))) (wrap64 (x9 + 1))) else (if 0 ≤ x8 then (if x8 ≤ (wrap64 (x8 + ((rd_T90 x7 x9).f0))) then (if (wrap64 (x8 + ((rd_T90 x7 x9).f0))) ≤ (x4.size : Int) then (if x6.size + (x4.extract (x8 : Int).toNat ((wrap64 (x8 + ((rd_T90 x7 x9).f0))) : Int).toNat).size ≤ 9223372036854775807 then (laws_FnTextPlain.l0 k x3 x4 x5 (x6 ++ (x4.extract (x8 : Int).toNat ((wrap64 (x8 + ((rd_T90 x7 x9).f0))) : Int).toNat)) x7 (wrap64 (x8 + ((rd_T90 x7 x9).f0))) (wrap64 (x9 + 1))) else (none)) else (none)) else (none)) else (none))) else (none)) else ((impl_TextNames.f k x4).bind fun t117 => (if (t117.length : Int) > 0 then (some (decide ((x5.size : Int) ≥ (x6.size : Int)))) else ((impl_MapTextOut.f k x3 x4).bind fun bt120 => (if x5.toList = x6.toList then (if bt120.2.toList = x6.toList then ((laws_lzMap.f k bt120.1 x3).bind fun t124 => (some t124)) else (some false)) else (some false)))))
end
def laws_FnTextPlain.f (k : Nat) (l0 : List Int) : Option (Bool) := if (l0.length : Int) > 1048576 then (some true) else ((spec_DrawMapTextIn.f k l0).bind fun bt101 => ((impl_MapTextIn.f k bt101.1 bt101.2).bind fun t105 => ((spec_MapTextIn.f k bt101.1 bt101.2).bind fun t106 => (if t105.toList = t106.toList then ((spec_MapOk.f bt101.1).bind fun t107 => (if t107 = true then ((spec_TextOk.f bt101.2).bind fun t108 => (laws_FnTextPlain.j0 k bt101.1 bt101.2 t105 (!t108))) else (laws_FnTextPlain.j0 k bt101.1 bt101.2 t105 true))) else (laws_FnTextPlain.j0 k bt101.1 bt101.2 t105 true)))))
set_option maxHeartbeats 8000000 in
set_option maxRecDepth 100000 in
theorem laws_FnTextPlain.calls (k : Nat) (A0 : Option Addr) (c0 : Nat) (l0 : List Int) (r : Bool) (w : World) (hr0 : Kd.C (Kd.int .u8) w A0 l0.length l0) (hc0 : l0.length ≤ c0) (hV : VarsIn w) (h : laws_FnTextPlain.f k l0 = some r) :
    Calls Tryz.prog 7 #[.slice A0 l0.length c0] w fun e w' => e = .returned (.bool r) ∧ Below w.heap.size w w' := by
  have HR0 := Aside0.mk hr0
  have HC0 := Aside0.mk hc0
  clear hr0 hc0
  have HB := Aside0.mk (Below.refl w.heap.size w)
  have H : (if (l0.length : Int) > 1048576 then (some true) else ((spec_DrawMapTextIn.f k l0).bind fun bt101 => ((impl_MapTextIn.f k bt101.1 bt101.2).bind fun t105 => ((spec_MapTextIn.f k bt101.1 bt101.2).bind fun t106 => (if t105.toList = t106.toList then ((spec_MapOk.f bt101.1).bind fun t107 => (if t107 = true then ((spec_TextOk.f bt101.2).bind fun t108 => (laws_FnTextPlain.j0 k bt101.1 bt101.2 t105 (!t108))) else (laws_FnTextPlain.j0 k bt101.1 bt101.2 t105 true))) else (laws_FnTextPlain.j0 k bt101.1 bt101.2 t105 true)))))) = some r := h
  clear h
  by_cases c2 : (l0.length : Int) > 1048576
  · rw [if_pos c2] at H
    have c2b0 : decide (1048576 < (l0.length : Int)) = true := decide_eq_true c2
    have c2b1 : decide (1048576 < l0.length) = true := decide_eq_true (by omega)
    clear c2
    obtain rfl := Option.some.inj H
    go_enter Tryz.func7, Tryz.ntmps7
    go_wp2
    go_ret
    exact ⟨by first | rfl | (simp [errW_none, errW_some] <;> rfl) | (simp [*, errW_none, errW_some] <;> rfl), by repeat (first | (with_reducible first | exact HB.out | apply below_alloc | apply pw_below_drewN | apply below_drew1) | exact HB.out)⟩
  · rw [if_neg c2] at H
    have c2b0 : decide (1048576 < (l0.length : Int)) = false := decide_eq_false c2
    have c2b1 : decide (1048576 < l0.length) = false := decide_eq_false (by omega)
    clear c2
    replace H := Option.bind_eq_some_iff.mp H
    obtain ⟨⟨t101, t102⟩, A30, H⟩ := H
    replace H : ((impl_MapTextIn.f k t101 t102).bind fun t105 => ((spec_MapTextIn.f k t101 t102).bind fun t106 => (if t105.toList = t106.toList then ((spec_MapOk.f t101).bind fun t107 => (if t107 = true then ((spec_TextOk.f t102).bind fun t108 => (laws_FnTextPlain.j0 k t101 t102 t105 (!t108))) else (laws_FnTextPlain.j0 k t101 t102 t105 true))) else (laws_FnTextPlain.j0 k t101 t102 t105 true)))) = some r := H
    have A3 := Aside0.mk A30
    clear A30
    replace H := Option.bind_eq_some_iff.mp H
    obtain ⟨t105, A40, H⟩ := H
    replace H : ((spec_MapTextIn.f k t101 t102).bind fun t106 => (if t105.toList = t106.toList then ((spec_MapOk.f t101).bind fun t107 => (if t107 = true then ((spec_TextOk.f t102).bind fun t108 => (laws_FnTextPlain.j0 k t101 t102 t105 (!t108))) else (laws_FnTextPlain.j0 k t101 t102 t105 true))) else (laws_FnTextPlain.j0 k t101 t102 t105 true))) = some r := H
    have A4 := Aside0.mk A40
    clear A40
    have HC5 := Aside0.mk H
    clear H
    go_enter Tryz.func7, Tryz.ntmps7
    go_upto_region 5 with (first | ((with_reducible refine gate_callee (f := 36) rfl ?_); refine goesL_ (some 17) rfl rfl Tryz.func36 (by kernel_rfl) rfl #[.slice A0 l0.length c0] rfl (by (try simp only [List.map_toArray, List.map_cons, List.map_nil]); first | done | rfl | (simp only [List.length_drop, List.length_take]; rfl)) ?_; (with_reducible refine (spec_DrawMapTextIn.calls k _ _ l0 t101 t102 _ ?side1 ?side2 A3.out).mono ?_); (case side1 => repeat (first | exact HR0.out | (with_reducible refine Kd.C_alloc ?_ _) | (with_reducible refine Kd.C_drewN ?_ _) | (with_reducible refine Kd.C_drew ?_))); (case side2 => exact HC0.out); rintro e w6 ⟨v103, rfl, ho0, hb⟩; refine ⟨_, rfl, ?_⟩; have n0_ := Aside0.mk (Kd.Q_lower ho0 (below_size (by repeat (first | (with_reducible first | exact HB.out | apply below_alloc | apply pw_below_drewN | apply below_drew1) | exact HB.out)))); have n1_ := Aside0.mk (below_step (by repeat (first | (with_reducible first | exact HB.out | apply below_alloc | apply pw_below_drewN | apply below_drew1) | exact HB.out)) hb); clear HB; have HO104 := n0_; have HB := n1_; clear n0_ n1_; (try clear hb); (try clear hb2); (try clear hk); (try clear hi); (try clear ho0); obtain ⟨Ao7, co7, eo7, _⟩ := Kd.Q_slice HO104.out; subst eo7) | ((with_reducible refine gate_callee (f := 37) rfl ?_); refine goesL_ (some 22) rfl rfl Tryz.func37 (by kernel_rfl) rfl #[.slice Ao7 t101.length co7, .string t102] rfl (by (try simp only [List.map_toArray, List.map_cons, List.map_nil]); first | done | rfl | (simp only [List.length_drop, List.length_take]; rfl)) ?_; (with_reducible refine (impl_MapTextIn.calls k _ _ t101 t102 t105 _ ?side1 ?side2 ?side3 A4.out).mono ?_); (case side1 => repeat (first | exact (Kd.Q_reads' HO104.out).2.2 | (with_reducible refine Kd.C_alloc ?_ _) | (with_reducible refine Kd.C_drewN ?_ _) | (with_reducible refine Kd.C_drew ?_))); (case side2 => exact (Kd.Q_reads' HO104.out).2.1); (case side3 => exact hV.next (by repeat (first | (with_reducible first | exact HB.out | apply below_alloc | apply pw_below_drewN | apply below_drew1) | exact HB.out))); rintro e w8 ⟨rfl, hb⟩; refine ⟨_, rfl, ?_⟩; have n0_ := Aside0.mk (Kd.Q_below (by (with_reducible repeat (first | apply Kd.Q_alloc | apply Kd.Q_drewN | apply Kd.Q_drew)); exact HO104.out) hb); have n1_ := Aside0.mk (below_step (by repeat (first | (with_reducible first | exact HB.out | apply below_alloc | apply pw_below_drewN | apply below_drew1) | exact HB.out)) hb); clear HO104; clear HB; have HO104 := n0_; have HB := n1_; clear n0_ n1_; (try clear hb); (try clear hb2); (try clear hk); (try clear hi)))
    (try simp only [Act.put, List.setIfInBounds_toArray, List.set_cons_zero, List.set_cons_succ])
    go_cut [37] (fun v37 wc => ∃ (kq : Nat) (x37_4 : Bool), v37 = .bool x37_4 ∧ Aside0 (laws_FnTextPlain.j0 kq t101 t102 t105 x37_4 = some r) ∧ Aside0 (kq ≤ k) ∧ Aside0 (Kd.Q k149 149 wc w.heap.size (fun _ => True) (.slice Ao7 t101.length co7) t101) ∧ Aside0 (Below w.heap.size w wc))
    case first =>
      have H := HC5.out
      clear HC5
      replace H := Option.bind_eq_some_iff.mp H
      obtain ⟨t106, A90, H⟩ := H
      replace H : (if t105.toList = t106.toList then ((spec_MapOk.f t101).bind fun t107 => (if t107 = true then ((spec_TextOk.f t102).bind fun t108 => (laws_FnTextPlain.j0 k t101 t102 t105 (!t108))) else (laws_FnTextPlain.j0 k t101 t102 t105 true))) else (laws_FnTextPlain.j0 k t101 t102 t105 true)) = some r := H
      have A9 := Aside0.mk A90
      clear A90
      by_cases c10 : t105.toList = t106.toList
      · rw [if_pos c10] at H
        have c10b0 : (t105.toList == t106.toList) = true := beq_iff_eq.mpr c10
        have c10b1 : (t105.toList != t106.toList) = false := bne_eq_false_iff_eq.mpr c10
        clear c10
        (first | rw [c10b0] | (simp only [i64_w, i32_w]; rw [c10b0]) | skip)
        replace H := Option.bind_eq_some_iff.mp H
        obtain ⟨t107, A110, H⟩ := H
        replace H : (if t107 = true then ((spec_TextOk.f t102).bind fun t108 => (laws_FnTextPlain.j0 k t101 t102 t105 (!t108))) else (laws_FnTextPlain.j0 k t101 t102 t105 true)) = some r := H
        have A11 := Aside0.mk A110
        clear A110
        by_cases c12 : t107 = true
        · subst c12
          have H1 : ((spec_TextOk.f t102).bind fun t108 => (laws_FnTextPlain.j0 k t101 t102 t105 (!t108))) = some r := by rw [if_pos rfl] at H; exact H
          clear H
          have H := H1
          clear H1
          replace H := Option.bind_eq_some_iff.mp H
          obtain ⟨t108, A130, H⟩ := H
          replace H : (laws_FnTextPlain.j0 k t101 t102 t105 (!t108)) = some r := H
          have A13 := Aside0.mk A130
          clear A130
          have H' := Aside0.mk H
          clear H
          go_wp2_with (first | ((with_reducible refine gate_callee (f := 38) rfl ?_); refine goesL_ (some 26) rfl rfl Tryz.func38 (by kernel_rfl) rfl #[.slice Ao7 t101.length co7, .string t102] rfl (by (try simp only [List.map_toArray, List.map_cons, List.map_nil]); first | done | rfl | (simp only [List.length_drop, List.length_take]; rfl)) ?_; (with_reducible refine (spec_MapTextIn.calls k _ _ t101 t102 t106 _ ?side1 ?side2 A9.out).mono ?_); (case side1 => repeat (first | exact (Kd.Q_reads' HO104.out).2.2 | (with_reducible refine Kd.C_alloc ?_ _) | (with_reducible refine Kd.C_drewN ?_ _) | (with_reducible refine Kd.C_drew ?_))); (case side2 => exact (Kd.Q_reads' HO104.out).2.1); rintro e w14 ⟨rfl, hb⟩; refine ⟨_, rfl, ?_⟩; have n0_ := Aside0.mk (Kd.Q_below (by (with_reducible repeat (first | apply Kd.Q_alloc | apply Kd.Q_drewN | apply Kd.Q_drew)); exact HO104.out) hb); have n1_ := Aside0.mk (below_step (by repeat (first | (with_reducible first | exact HB.out | apply below_alloc | apply pw_below_drewN | apply below_drew1) | exact HB.out)) hb); clear HO104; clear HB; have HO104 := n0_; have HB := n1_; clear n0_ n1_; (try clear hb); (try clear hb2); (try clear hk); (try clear hi)) | (go_at_call 39; (with_reducible refine (spec_MapOk.calls _ _ t101 true _ ?side1 ?side2 A11.out).mono ?_); (case side1 => repeat (first | exact (Kd.Q_reads' HO104.out).2.2 | (with_reducible refine Kd.C_alloc ?_ _) | (with_reducible refine Kd.C_drewN ?_ _) | (with_reducible refine Kd.C_drew ?_))); (case side2 => exact (Kd.Q_reads' HO104.out).2.1); rintro e w15 ⟨rfl, hb⟩; have n0_ := Aside0.mk (Kd.Q_below (by (with_reducible repeat (first | apply Kd.Q_alloc | apply Kd.Q_drewN | apply Kd.Q_drew)); exact HO104.out) hb); have n1_ := Aside0.mk (below_step (by repeat (first | (with_reducible first | exact HB.out | apply below_alloc | apply pw_below_drewN | apply below_drew1) | exact HB.out)) hb); clear HO104; clear HB; have HO104 := n0_; have HB := n1_; clear n0_ n1_; (try clear hb); (try clear hb2); (try clear hk); (try clear hi)) | (go_at_call 40; (with_reducible refine (spec_TextOk.calls t102 t108 _ A13.out).mono ?_); rintro e w16 ⟨rfl, hb⟩; have n0_ := Aside0.mk (Kd.Q_below (by (with_reducible repeat (first | apply Kd.Q_alloc | apply Kd.Q_drewN | apply Kd.Q_drew)); exact HO104.out) hb); have n1_ := Aside0.mk (below_step (by repeat (first | (with_reducible first | exact HB.out | apply below_alloc | apply pw_below_drewN | apply below_drew1) | exact HB.out)) hb); clear HO104; clear HB; have HO104 := n0_; have HB := n1_; clear n0_ n1_; (try clear hb); (try clear hb2); (try clear hk); (try clear hi)))
          go_meet
          case rel => exact ⟨_, (!t108), (by first | rfl | (simp; done) | (simp [*]; done)), H', ⟨by first | omega | exact Nat.le_refl _⟩, ⟨by (with_reducible repeat (first | apply Kd.Q_alloc | apply Kd.Q_drewN | apply Kd.Q_drew)); exact HO104.out⟩, ⟨by repeat (first | (with_reducible first | exact HB.out | apply below_alloc | apply pw_below_drewN | apply below_drew1) | exact HB.out)⟩⟩
        · replace c12 := Bool.eq_false_iff.mpr c12
          subst c12
          have H1 : (laws_FnTextPlain.j0 k t101 t102 t105 true) = some r := by rw [if_neg (show ¬ (false = true) by decide)] at H; exact H
          clear H
          have H := H1
          clear H1
          have H' := Aside0.mk H
          clear H
          go_wp2_with (first | ((with_reducible refine gate_callee (f := 38) rfl ?_); refine goesL_ (some 26) rfl rfl Tryz.func38 (by kernel_rfl) rfl #[.slice Ao7 t101.length co7, .string t102] rfl (by (try simp only [List.map_toArray, List.map_cons, List.map_nil]); first | done | rfl | (simp only [List.length_drop, List.length_take]; rfl)) ?_; (with_reducible refine (spec_MapTextIn.calls k _ _ t101 t102 t106 _ ?side1 ?side2 A9.out).mono ?_); (case side1 => repeat (first | exact (Kd.Q_reads' HO104.out).2.2 | (with_reducible refine Kd.C_alloc ?_ _) | (with_reducible refine Kd.C_drewN ?_ _) | (with_reducible refine Kd.C_drew ?_))); (case side2 => exact (Kd.Q_reads' HO104.out).2.1); rintro e w17 ⟨rfl, hb⟩; refine ⟨_, rfl, ?_⟩; have n0_ := Aside0.mk (Kd.Q_below (by (with_reducible repeat (first | apply Kd.Q_alloc | apply Kd.Q_drewN | apply Kd.Q_drew)); exact HO104.out) hb); have n1_ := Aside0.mk (below_step (by repeat (first | (with_reducible first | exact HB.out | apply below_alloc | apply pw_below_drewN | apply below_drew1) | exact HB.out)) hb); clear HO104; clear HB; have HO104 := n0_; have HB := n1_; clear n0_ n1_; (try clear hb); (try clear hb2); (try clear hk); (try clear hi)) | (go_at_call 39; (with_reducible refine (spec_MapOk.calls _ _ t101 false _ ?side1 ?side2 A11.out).mono ?_); (case side1 => repeat (first | exact (Kd.Q_reads' HO104.out).2.2 | (with_reducible refine Kd.C_alloc ?_ _) | (with_reducible refine Kd.C_drewN ?_ _) | (with_reducible refine Kd.C_drew ?_))); (case side2 => exact (Kd.Q_reads' HO104.out).2.1); rintro e w18 ⟨rfl, hb⟩; have n0_ := Aside0.mk (Kd.Q_below (by (with_reducible repeat (first | apply Kd.Q_alloc | apply Kd.Q_drewN | apply Kd.Q_drew)); exact HO104.out) hb); have n1_ := Aside0.mk (below_step (by repeat (first | (with_reducible first | exact HB.out | apply below_alloc | apply pw_below_drewN | apply below_drew1) | exact HB.out)) hb); clear HO104; clear HB; have HO104 := n0_; have HB := n1_; clear n0_ n1_; (try clear hb); (try clear hb2); (try clear hk); (try clear hi)))
          go_meet
          case rel => exact ⟨_, (true), (by first | rfl | (simp; done) | (simp [*]; done)), H', ⟨by first | omega | exact Nat.le_refl _⟩, ⟨by (with_reducible repeat (first | apply Kd.Q_alloc | apply Kd.Q_drewN | apply Kd.Q_drew)); exact HO104.out⟩, ⟨by repeat (first | (with_reducible first | exact HB.out | apply below_alloc | apply pw_below_drewN | apply below_drew1) | exact HB.out)⟩⟩
      · rw [if_neg c10] at H
        have c10b0 : (t105.toList == t106.toList) = false := beq_eq_false_iff_ne.mpr c10
        have c10b1 : (t105.toList != t106.toList) = true := bne_iff_ne.mpr c10
        (first | rw [c10b0] | (simp only [i64_w, i32_w]; rw [c10b0]) | skip)
        have H' := Aside0.mk H
        clear H
        go_wp2_with (first | ((with_reducible refine gate_callee (f := 38) rfl ?_); refine goesL_ (some 26) rfl rfl Tryz.func38 (by kernel_rfl) rfl #[.slice Ao7 t101.length co7, .string t102] rfl (by (try simp only [List.map_toArray, List.map_cons, List.map_nil]); first | done | rfl | (simp only [List.length_drop, List.length_take]; rfl)) ?_; (with_reducible refine (spec_MapTextIn.calls k _ _ t101 t102 t106 _ ?side1 ?side2 A9.out).mono ?_); (case side1 => repeat (first | exact (Kd.Q_reads' HO104.out).2.2 | (with_reducible refine Kd.C_alloc ?_ _) | (with_reducible refine Kd.C_drewN ?_ _) | (with_reducible refine Kd.C_drew ?_))); (case side2 => exact (Kd.Q_reads' HO104.out).2.1); rintro e w19 ⟨rfl, hb⟩; refine ⟨_, rfl, ?_⟩; have n0_ := Aside0.mk (Kd.Q_below (by (with_reducible repeat (first | apply Kd.Q_alloc | apply Kd.Q_drewN | apply Kd.Q_drew)); exact HO104.out) hb); have n1_ := Aside0.mk (below_step (by repeat (first | (with_reducible first | exact HB.out | apply below_alloc | apply pw_below_drewN | apply below_drew1) | exact HB.out)) hb); clear HO104; clear HB; have HO104 := n0_; have HB := n1_; clear n0_ n1_; (try clear hb); (try clear hb2); (try clear hk); (try clear hi)))
        go_meet
        case rel => exact ⟨_, (true), (by first | rfl | (simp; done) | (simp [*]; done)), H', ⟨by first | omega | exact Nat.le_refl _⟩, ⟨by (with_reducible repeat (first | apply Kd.Q_alloc | apply Kd.Q_drewN | apply Kd.Q_drew)); exact HO104.out⟩, ⟨by repeat (first | (with_reducible first | exact HB.out | apply below_alloc | apply pw_below_drewN | apply below_drew1) | exact HB.out)⟩⟩
    case rest =>
      clear HC5
      try clear c1
      try clear c2
      try clear c2b0
      try clear c2b1
      try clear p2
      try clear c3
      try clear c7
      try clear c10
      try clear c10b0
      try clear c10b1
      try clear c12
      obtain ⟨kq, x37_4, rfl, HA, HJ4, HO_3, HB⟩ := hcut
      cases kq with
      | zero => exact absurd HA.out (by simp [laws_FnTextPlain.j0])
      | succ kj4 =>
        have H := HA.out
        clear HA
        simp only [laws_FnTextPlain.j0] at H
        by_cases c20 : x37_4 = true
        · subst c20
          have H1 : ((spec_MapTextIn.f kj4 t101 t102).bind fun t109 => (some (t105.toList == t109.toList))) = some r := by rw [if_pos rfl] at H; exact H
          clear H
          have H := H1
          clear H1
          replace H := Option.bind_eq_some_iff.mp H
          obtain ⟨t109, A210, H⟩ := H
          replace H : (some (t105.toList == t109.toList)) = some r := H
          have A21 := Aside0.mk A210
          clear A210
          obtain rfl := Option.some.inj H
          go_wp2_with (first | ((with_reducible refine gate_callee (f := 38) rfl ?_); refine goesL_ (some 41) rfl rfl Tryz.func38 (by kernel_rfl) rfl #[.slice Ao7 t101.length co7, .string t102] rfl (by (try simp only [List.map_toArray, List.map_cons, List.map_nil]); first | done | rfl | (simp only [List.length_drop, List.length_take]; rfl)) ?_; (with_reducible refine (spec_MapTextIn.calls kj4 _ _ t101 t102 t109 _ ?side1 ?side2 A21.out).mono ?_); (case side1 => repeat (first | exact (Kd.Q_reads' HO_3.out).2.2 | (with_reducible refine Kd.C_alloc ?_ _) | (with_reducible refine Kd.C_drewN ?_ _) | (with_reducible refine Kd.C_drew ?_))); (case side2 => exact (Kd.Q_reads' HO_3.out).2.1); rintro e w22 ⟨rfl, hb⟩; refine ⟨_, rfl, ?_⟩; have n0_ := Aside0.mk (Kd.Q_below (by (with_reducible repeat (first | apply Kd.Q_alloc | apply Kd.Q_drewN | apply Kd.Q_drew)); exact HO_3.out) hb); have n1_ := Aside0.mk (below_step (by repeat (first | (with_reducible first | exact HB.out | apply below_alloc | apply pw_below_drewN | apply below_drew1) | exact HB.out)) hb); clear HO_3; clear HB; have HO_3 := n0_; have HB := n1_; clear n0_ n1_; (try clear hb); (try clear hb2); (try clear hk); (try clear hi)))
          go_ret
          exact ⟨by first | rfl | (simp [errW_none, errW_some] <;> rfl) | (simp [*, errW_none, errW_some] <;> rfl), by repeat (first | (with_reducible first | exact HB.out | apply below_alloc | apply pw_below_drewN | apply below_drew1) | exact HB.out)⟩
        · replace c20 := Bool.eq_false_iff.mpr c20
          subst c20
          have H1 : ((impl_TextPieces.f kj4 t102).bind fun t110 => (laws_FnTextPlain.l0 kj4 t101 t102 t105 (⟨#[]⟩ : ByteArray) t110 0 0)) = some r := by rw [if_neg (show ¬ (false = true) by decide)] at H; exact H
          clear H
          have H := H1
          clear H1
          replace H := Option.bind_eq_some_iff.mp H
          obtain ⟨t110, A230, H⟩ := H
          replace H : (laws_FnTextPlain.l0 kj4 t101 t102 t105 (⟨#[]⟩ : ByteArray) t110 0 0) = some r := H
          have A23 := Aside0.mk A230
          clear A230
          have H' := Aside0.mk H
          clear H
          go_wp2_with (first | ((with_reducible refine gate_callee (f := 41) rfl ?_); refine goesL_ (some 44) rfl rfl Tryz.func41 (by kernel_rfl) rfl #[.string t102] rfl (by (try simp only [List.map_toArray, List.map_cons, List.map_nil]); first | done | rfl | (simp only [List.length_drop, List.length_take]; rfl)) ?_; (with_reducible refine (impl_TextPieces.calls kj4 t102 t110 _ ?side1 A23.out).mono ?_); (case side1 => exact hV.next (by repeat (first | (with_reducible first | exact HB.out | apply below_alloc | apply pw_below_drewN | apply below_drew1) | exact HB.out))); rintro e w24 ⟨v111, rfl, ho0, hb⟩; refine ⟨_, rfl, ?_⟩; have n0_ := Aside0.mk (Kd.Q_below (by (with_reducible repeat (first | apply Kd.Q_alloc | apply Kd.Q_drewN | apply Kd.Q_drew)); exact HO_3.out) hb); have n1_ := Aside0.mk (Kd.V_lower (Kd.V_mono (ok' := fun k_ => some k_ ≠ (.slice Ao7 t101.length co7 : Value).ownBlock) ho0 (fun k_ hk_ => (Kd.fresh' (Kd.Q_lt (by (with_reducible repeat (first | apply Kd.Q_alloc | apply Kd.Q_drewN | apply Kd.Q_drew)); exact HO_3.out)) k_ hk_))) (below_size (by repeat (first | (with_reducible first | exact HB.out | apply below_alloc | apply pw_below_drewN | apply below_drew1) | exact HB.out)))); have n2_ := Aside0.mk (below_step (by repeat (first | (with_reducible first | exact HB.out | apply below_alloc | apply pw_below_drewN | apply below_drew1) | exact HB.out)) hb); clear HO_3; clear HB; have HO_3 := n0_; have HO112 := n1_; have HB := n2_; clear n0_ n1_ n2_; (try clear hb); (try clear hb2); (try clear hk); (try clear hi); (try clear ho0)))
          go_loopg [6, 8, 9] kj4 (fun kq v6 v8 v9 w' => ∃ (x6_2 : ByteArray) (x8_2 : Int) (x9_2 : Int), v6 = .string x6_2 ∧ v8 = .int .i64 x8_2 ∧ v9 = .int .i64 x9_2 ∧ Aside0 (laws_FnTextPlain.l0 kq t101 t102 t105 x6_2 t110 x8_2 x9_2 = some r) ∧ Aside0 (kq ≤ kj4) ∧ Aside0 (Kd.Q k149 149 w' w.heap.size (fun _ => True) (.slice Ao7 t101.length co7) t101) ∧ Aside0 (Kd.V k90 90 w' w.heap.size (fun k_ => some k_ ≠ ((.slice Ao7 t101.length co7) : Value).ownBlock) v111 t110) ∧ Aside0 (Below w.heap.size w w'))
          case atStart => exact ⟨((⟨#[]⟩ : ByteArray)), (0), (0), (by first | rfl | (simp; done) | (simp [*]; done)), (by first | rfl | (simp; done) | (simp [*]; done)), (by first | rfl | (simp; done) | (simp [*]; done)), H', ⟨Nat.le_refl _⟩, ⟨by (with_reducible repeat (first | apply Kd.Q_alloc | apply Kd.Q_drewN | apply Kd.Q_drew)); exact HO_3.out⟩, ⟨by (with_reducible repeat (first | apply Kd.V_alloc | apply Kd.V_drewN | apply Kd.V_drew)); exact HO112.out⟩, ⟨by repeat (first | (with_reducible first | exact HB.out | apply below_alloc | apply pw_below_drewN | apply below_drew1) | exact HB.out)⟩⟩
          case round =>
            clear H'
            try clear c1
            try clear c2
            try clear c2b0
            try clear c2b1
            try clear p2
            try clear c3
            try clear c4
            try clear c7
            try clear c10
            try clear c10b0
            try clear c10b1
            try clear c12
            try clear c20
            try clear p2
            obtain ⟨x6_2, x8_2, x9_2, rfl, rfl, rfl, HA, HK2, HO_3, HO_7, HB⟩ := hrel
            cases gk with
            | zero => exact absurd HA.out (by simp [laws_FnTextPlain.l0])
            | succ k2 =>
              have H := HA.out
              clear HA
              simp only [laws_FnTextPlain.l0] at H
              by_cases c25 : x9_2 < (t110.length : Int)
              · rw [if_pos c25] at H
                have c25b0 : decide (x9_2 < (t110.length : Int)) = true := decide_eq_true c25
                clear c25
                by_cases c26 : 0 ≤ x9_2
                · rw [if_pos c26] at H
                  have c26b0 : decide (0 ≤ x9_2) = true := decide_eq_true c26
                  clear c26
                  obtain ⟨bq27, hbq27⟩ : ∃ b_ : Bool, b_ = ((rd_T90 t110 x9_2).f1) := ⟨_, rfl⟩
                  replace H : (if (bq27 = true) then (laws_FnTextPlain.l0 k2 t101 t102 t105 x6_2 t110 (wrap64 (x8_2 + ((rd_T90 t110 x9_2).f0))) (wrap64 (x9_2 + 1))) else (if 0 ≤ x8_2 then (if x8_2 ≤ (wrap64 (x8_2 + ((rd_T90 t110 x9_2).f0))) then (if (wrap64 (x8_2 + ((rd_T90 t110 x9_2).f0))) ≤ (t102.size : Int) then (if x6_2.size + (t102.extract (x8_2 : Int).toNat ((wrap64 (x8_2 + ((rd_T90 t110 x9_2).f0))) : Int).toNat).size ≤ 9223372036854775807 then (laws_FnTextPlain.l0 k2 t101 t102 t105 (x6_2 ++ (t102.extract (x8_2 : Int).toNat ((wrap64 (x8_2 + ((rd_T90 t110 x9_2).f0))) : Int).toNat)) t110 (wrap64 (x8_2 + ((rd_T90 t110 x9_2).f0))) (wrap64 (x9_2 + 1))) else (none)) else (none)) else (none)) else (none))) = some r := by rw [← hbq27] at H; exact H
                  have Nbq27 := Aside0.mk hbq27
                  clear hbq27
                  by_cases c28 : (bq27 = true)
                  · subst c28
                    have H1 : (laws_FnTextPlain.l0 k2 t101 t102 t105 x6_2 t110 (wrap64 (x8_2 + ((rd_T90 t110 x9_2).f0))) (wrap64 (x9_2 + 1))) = some r := by rw [if_pos rfl] at H; exact H
                    clear H
                    have H := H1
                    clear H1
                    have H' := Aside0.mk H
                    clear H
                    obtain ⟨Ao29, co29, eo29⟩ := Kd.V_slice HO_7.out
                    subst eo29
                    have p113 : 0 ≤ (x9_2 : Int) := of_decide_eq_true (by first | (with_reducible assumption) | assumption)
                    have q113 : x9_2 < (t110.length : Int) := of_decide_eq_true (by first | (with_reducible assumption) | assumption)
                    obtain ⟨ad113, e113, hx113_0, hx113_1, hx113_2, hx113_3⟩ := at_T90 (Kd.V_reads' HO_7.out).2.2 x9_2 p113 q113
                    (try rw [← Nbq27.out] at hx113_1)
                    cases e113
                    replace p113 := eq_true p113
                    replace q113 := eq_true q113
                    have p114 : 0 ≤ (x9_2 : Int) := of_decide_eq_true (by first | (with_reducible assumption) | assumption)
                    have q114 : x9_2 < (t110.length : Int) := of_decide_eq_true (by first | (with_reducible assumption) | assumption)
                    obtain ⟨ad114, e114, hx114_0, hx114_1, hx114_2, hx114_3⟩ := at_T90 (Kd.V_reads' HO_7.out).2.2 x9_2 p114 q114
                    (try rw [← Nbq27.out] at hx114_1)
                    obtain rfl : ad113 = ad114 := (by injection e114)
                    replace p114 := eq_true p114
                    replace q114 := eq_true q114
                    go_wp2
                    go_roundg k2
                    case measure => have := HJ4.out; have := HK2.out; omega
                    case rel => exact ⟨(x6_2), (wrap64 (x8_2 + ((rd_T90 t110 x9_2).f0))), (wrap64 (x9_2 + 1)), (by first | rfl | (simp; done) | (simp [*]; done)), (by first | rfl | (simp; done) | (simp [*]; done)), (by first | rfl | (simp; done) | (simp [*]; done)), H', ⟨by have := HJ4.out; have := HK2.out; omega⟩, ⟨by (with_reducible repeat (first | apply Kd.Q_alloc | apply Kd.Q_drewN | apply Kd.Q_drew)); exact HO_3.out⟩, ⟨by (with_reducible repeat (first | apply Kd.V_alloc | apply Kd.V_drewN | apply Kd.V_drew)); exact HO_7.out⟩, ⟨by repeat (first | (with_reducible first | exact HB.out | apply below_alloc | apply pw_below_drewN | apply below_drew1) | exact HB.out)⟩⟩
                  · replace c28 := Bool.eq_false_iff.mpr c28
                    subst c28
                    have H1 : (if 0 ≤ x8_2 then (if x8_2 ≤ (wrap64 (x8_2 + ((rd_T90 t110 x9_2).f0))) then (if (wrap64 (x8_2 + ((rd_T90 t110 x9_2).f0))) ≤ (t102.size : Int) then (if x6_2.size + (t102.extract (x8_2 : Int).toNat ((wrap64 (x8_2 + ((rd_T90 t110 x9_2).f0))) : Int).toNat).size ≤ 9223372036854775807 then (laws_FnTextPlain.l0 k2 t101 t102 t105 (x6_2 ++ (t102.extract (x8_2 : Int).toNat ((wrap64 (x8_2 + ((rd_T90 t110 x9_2).f0))) : Int).toNat)) t110 (wrap64 (x8_2 + ((rd_T90 t110 x9_2).f0))) (wrap64 (x9_2 + 1))) else (none)) else (none)) else (none)) else (none)) = some r := by rw [if_neg (show ¬ (false = true) by decide)] at H; exact H
                    clear H
                    have H := H1
                    clear H1
                    by_cases c30 : 0 ≤ x8_2
                    · rw [if_pos c30] at H
                      have c30b0 := eq_true c30
                      have c30b1 : decide (0 ≤ x8_2) = true := decide_eq_true c30
                      clear c30
                      by_cases c31 : x8_2 ≤ (wrap64 (x8_2 + ((rd_T90 t110 x9_2).f0)))
                      · rw [if_pos c31] at H
                        have c31b0 := eq_true c31
                        have c31b1 : decide (x8_2 ≤ (wrap64 (x8_2 + ((rd_T90 t110 x9_2).f0)))) = true := decide_eq_true c31
                        by_cases c32 : (wrap64 (x8_2 + ((rd_T90 t110 x9_2).f0))) ≤ (t102.size : Int)
                        · rw [if_pos c32] at H
                          have c32b0 := eq_true c32
                          have c32b1 : decide ((wrap64 (x8_2 + ((rd_T90 t110 x9_2).f0))) ≤ (t102.size : Int)) = true := decide_eq_true c32
                          by_cases c33 : x6_2.size + (t102.extract (x8_2 : Int).toNat ((wrap64 (x8_2 + ((rd_T90 t110 x9_2).f0))) : Int).toNat).size ≤ 9223372036854775807
                          · rw [if_pos c33] at H
                            have c33b0 := eq_true c33
                            have c33b1 : decide (x6_2.size + (t102.extract (x8_2 : Int).toNat ((wrap64 (x8_2 + ((rd_T90 t110 x9_2).f0))) : Int).toNat).size ≤ 9223372036854775807) = true := decide_eq_true c33
                            try have c33b2 : (9223372036854775807 < x6_2.size + (t102.extract (x8_2 : Int).toNat ((wrap64 (x8_2 + ((rd_T90 t110 x9_2).f0))) : Int).toNat).size) = False := eq_false (Nat.not_lt.2 c33)
                            have H' := Aside0.mk H
                            clear H
                            obtain ⟨Ao34, co34, eo34⟩ := Kd.V_slice HO_7.out
                            subst eo34
                            have p113 : 0 ≤ (x9_2 : Int) := of_decide_eq_true (by first | (with_reducible assumption) | assumption)
                            have q113 : x9_2 < (t110.length : Int) := of_decide_eq_true (by first | (with_reducible assumption) | assumption)
                            obtain ⟨ad113, e113, hx113_0, hx113_1, hx113_2, hx113_3⟩ := at_T90 (Kd.V_reads' HO_7.out).2.2 x9_2 p113 q113
                            (try rw [← Nbq27.out] at hx113_1)
                            cases e113
                            replace p113 := eq_true p113
                            replace q113 := eq_true q113
                            have p115 : 0 ≤ (x9_2 : Int) := of_decide_eq_true (by first | (with_reducible assumption) | assumption)
                            have q115 : x9_2 < (t110.length : Int) := of_decide_eq_true (by first | (with_reducible assumption) | assumption)
                            obtain ⟨ad115, e115, hx115_0, hx115_1, hx115_2, hx115_3⟩ := at_T90 (Kd.V_reads' HO_7.out).2.2 x9_2 p115 q115
                            (try rw [← Nbq27.out] at hx115_1)
                            obtain rfl : ad113 = ad115 := (by injection e115)
                            replace p115 := eq_true p115
                            replace q115 := eq_true q115
                            have p116 : 0 ≤ (x9_2 : Int) := of_decide_eq_true (by first | (with_reducible assumption) | assumption)
                            have q116 : x9_2 < (t110.length : Int) := of_decide_eq_true (by first | (with_reducible assumption) | assumption)
                            obtain ⟨ad116, e116, hx116_0, hx116_1, hx116_2, hx116_3⟩ := at_T90 (Kd.V_reads' HO_7.out).2.2 x9_2 p116 q116
                            (try rw [← Nbq27.out] at hx116_1)
                            obtain rfl : ad113 = ad116 := (by injection e116)
                            replace p116 := eq_true p116
                            replace q116 := eq_true q116
                            go_wp2
                            go_roundg k2
                            case measure => have := HJ4.out; have := HK2.out; omega
                            case rel => exact ⟨(x6_2 ++ (t102.extract (x8_2 : Int).toNat ((wrap64 (x8_2 + ((rd_T90 t110 x9_2).f0))) : Int).toNat)), (wrap64 (x8_2 + ((rd_T90 t110 x9_2).f0))), (wrap64 (x9_2 + 1)), (by first | rfl | (simp; done) | (simp [*]; done)), (by first | rfl | (simp; done) | (simp [*]; done)), (by first | rfl | (simp; done) | (simp [*]; done)), H', ⟨by have := HJ4.out; have := HK2.out; omega⟩, ⟨by (with_reducible repeat (first | apply Kd.Q_alloc | apply Kd.Q_drewN | apply Kd.Q_drew)); exact HO_3.out⟩, ⟨by (with_reducible repeat (first | apply Kd.V_alloc | apply Kd.V_drewN | apply Kd.V_drew)); exact HO_7.out⟩, ⟨by repeat (first | (with_reducible first | exact HB.out | apply below_alloc | apply pw_below_drewN | apply below_drew1) | exact HB.out)⟩⟩
                          · rw [if_neg c33] at H
                            exact absurd H (by simp)
                        · rw [if_neg c32] at H
                          exact absurd H (by simp)
                      · rw [if_neg c31] at H
                        exact absurd H (by simp)
                    · rw [if_neg c30] at H
                      exact absurd H (by simp)
                · rw [if_neg c26] at H
                  exact absurd H (by simp)
              · rw [if_neg c25] at H
                have c25b0 : decide (x9_2 < (t110.length : Int)) = false := decide_eq_false c25
                clear c25
                replace H := Option.bind_eq_some_iff.mp H
                obtain ⟨t117, A350, H⟩ := H
                replace H : (if (t117.length : Int) > 0 then (some (decide ((t105.size : Int) ≥ (x6_2.size : Int)))) else ((impl_MapTextOut.f k2 t101 t102).bind fun bt120 => (if t105.toList = x6_2.toList then (if bt120.2.toList = x6_2.toList then ((laws_lzMap.f k2 bt120.1 t101).bind fun t124 => (some t124)) else (some false)) else (some false)))) = some r := H
                have A35 := Aside0.mk A350
                clear A350
                by_cases c36 : (t117.length : Int) > 0
                · rw [if_pos c36] at H
                  have c36b0 : decide (0 < (t117.length : Int)) = true := decide_eq_true c36
                  have c36b1 : decide (0 < t117.length) = true := decide_eq_true (by omega)
                  clear c36
                  obtain rfl := Option.some.inj H
                  obtain ⟨Ao37, co37, eo37⟩ := Kd.V_slice HO_7.out
                  subst eo37
                  go_wp2_with (first | ((with_reducible refine gate_callee (f := 42) rfl ?_); refine goesL_ (some 77) rfl rfl Tryz.func42 (by kernel_rfl) rfl #[.string t102] rfl (by (try simp only [List.map_toArray, List.map_cons, List.map_nil]); first | done | rfl | (simp only [List.length_drop, List.length_take]; rfl)) ?_; (with_reducible refine (impl_TextNames.calls k2 t102 t117 _ ?side1 A35.out).mono ?_); (case side1 => exact hV.next (by repeat (first | (with_reducible first | exact HB.out | apply below_alloc | apply pw_below_drewN | apply below_drew1) | exact HB.out))); rintro e w38 ⟨v118, rfl, ho0, hb⟩; refine ⟨_, rfl, ?_⟩; have n0_ := Aside0.mk (Kd.Q_below (by (with_reducible repeat (first | apply Kd.Q_alloc | apply Kd.Q_drewN | apply Kd.Q_drew)); exact HO_3.out) hb); have n1_ := Aside0.mk (Kd.V_below (by (with_reducible repeat (first | apply Kd.V_alloc | apply Kd.V_drewN | apply Kd.V_drew)); exact HO_7.out) hb); have n2_ := Aside0.mk (Kd.V_lower (Kd.V_mono (ok' := fun k_ => some k_ ≠ (.slice Ao7 t101.length co7 : Value).ownBlock) ho0 (fun k_ hk_ => (Kd.fresh' (Kd.Q_lt (by (with_reducible repeat (first | apply Kd.Q_alloc | apply Kd.Q_drewN | apply Kd.Q_drew)); exact HO_3.out)) k_ hk_))) (below_size (by repeat (first | (with_reducible first | exact HB.out | apply below_alloc | apply pw_below_drewN | apply below_drew1) | exact HB.out)))); have n3_ := Aside0.mk (below_step (by repeat (first | (with_reducible first | exact HB.out | apply below_alloc | apply pw_below_drewN | apply below_drew1) | exact HB.out)) hb); clear HO_3; clear HO_7; clear HB; have HO_3 := n0_; have HO_7 := n1_; have HO119 := n2_; have HB := n3_; clear n0_ n1_ n2_ n3_; (try clear hb); (try clear hb2); (try clear hk); (try clear hi); (try clear ho0); obtain ⟨Ao39, co39, eo39⟩ := Kd.V_slice HO119.out; subst eo39))
                  go_ret
                  exact ⟨by first | rfl | (simp [errW_none, errW_some] <;> rfl) | (simp [*, errW_none, errW_some] <;> rfl), by repeat (first | (with_reducible first | exact HB.out | apply below_alloc | apply pw_below_drewN | apply below_drew1) | exact HB.out)⟩
                · rw [if_neg c36] at H
                  have c36b0 : decide (0 < (t117.length : Int)) = false := decide_eq_false c36
                  have c36b1 : decide (0 < t117.length) = false := decide_eq_false (by omega)
                  clear c36
                  replace H := Option.bind_eq_some_iff.mp H
                  obtain ⟨⟨t120, t123⟩, A400, H⟩ := H
                  replace H : (if t105.toList = x6_2.toList then (if t123.toList = x6_2.toList then ((laws_lzMap.f k2 t120 t101).bind fun t124 => (some t124)) else (some false)) else (some false)) = some r := H
                  have A40 := Aside0.mk A400
                  clear A400
                  by_cases c41 : t105.toList = x6_2.toList
                  · rw [if_pos c41] at H
                    have c41b0 : (t105.toList == x6_2.toList) = true := beq_iff_eq.mpr c41
                    have c41b1 : (t105.toList != x6_2.toList) = false := bne_eq_false_iff_eq.mpr c41
                    clear c41
                    by_cases c42 : t123.toList = x6_2.toList
                    · rw [if_pos c42] at H
                      have c42b0 : (t123.toList == x6_2.toList) = true := beq_iff_eq.mpr c42
                      have c42b1 : (t123.toList != x6_2.toList) = false := bne_eq_false_iff_eq.mpr c42
                      clear c42
                      replace H := Option.bind_eq_some_iff.mp H
                      obtain ⟨t124, A430, H⟩ := H
                      replace H : (some t124) = some r := H
                      have A43 := Aside0.mk A430
                      clear A430
                      obtain rfl := Option.some.inj H
                      obtain ⟨Ao44, co44, eo44⟩ := Kd.V_slice HO_7.out
                      subst eo44
                      go_wp2_with (first | ((with_reducible refine gate_callee (f := 42) rfl ?_); refine goesL_ (some 77) rfl rfl Tryz.func42 (by kernel_rfl) rfl #[.string t102] rfl (by (try simp only [List.map_toArray, List.map_cons, List.map_nil]); first | done | rfl | (simp only [List.length_drop, List.length_take]; rfl)) ?_; (with_reducible refine (impl_TextNames.calls k2 t102 t117 _ ?side1 A35.out).mono ?_); (case side1 => exact hV.next (by repeat (first | (with_reducible first | exact HB.out | apply below_alloc | apply pw_below_drewN | apply below_drew1) | exact HB.out))); rintro e w45 ⟨v118, rfl, ho0, hb⟩; refine ⟨_, rfl, ?_⟩; have n0_ := Aside0.mk (Kd.Q_below (by (with_reducible repeat (first | apply Kd.Q_alloc | apply Kd.Q_drewN | apply Kd.Q_drew)); exact HO_3.out) hb); have n1_ := Aside0.mk (Kd.V_below (by (with_reducible repeat (first | apply Kd.V_alloc | apply Kd.V_drewN | apply Kd.V_drew)); exact HO_7.out) hb); have n2_ := Aside0.mk (Kd.V_lower (Kd.V_mono (ok' := fun k_ => some k_ ≠ (.slice Ao7 t101.length co7 : Value).ownBlock) ho0 (fun k_ hk_ => (Kd.fresh' (Kd.Q_lt (by (with_reducible repeat (first | apply Kd.Q_alloc | apply Kd.Q_drewN | apply Kd.Q_drew)); exact HO_3.out)) k_ hk_))) (below_size (by repeat (first | (with_reducible first | exact HB.out | apply below_alloc | apply pw_below_drewN | apply below_drew1) | exact HB.out)))); have n3_ := Aside0.mk (below_step (by repeat (first | (with_reducible first | exact HB.out | apply below_alloc | apply pw_below_drewN | apply below_drew1) | exact HB.out)) hb); clear HO_3; clear HO_7; clear HB; have HO_3 := n0_; have HO_7 := n1_; have HO119 := n2_; have HB := n3_; clear n0_ n1_ n2_ n3_; (try clear hb); (try clear hb2); (try clear hk); (try clear hi); (try clear ho0); obtain ⟨Ao46, co46, eo46⟩ := Kd.V_slice HO119.out; subst eo46) | ((with_reducible refine gate_callee (f := 43) rfl ?_); refine goesL_ (some 88) rfl rfl Tryz.func43 (by kernel_rfl) rfl #[.slice Ao7 t101.length co7, .string t102] rfl (by (try simp only [List.map_toArray, List.map_cons, List.map_nil]); first | done | rfl | (simp only [List.length_drop, List.length_take]; rfl)) ?_; (with_reducible refine (impl_MapTextOut.calls k2 (fun k_ => some k_ = (.slice Ao7 t101.length co7 : Value).ownBlock) _ _ t101 t102 t120 t123 _ ?side1 ?side2 A40.out).mono ?_); (case side1 => exact Kd.Q_V (Kd.Q_tight rfl (HO_3.out))); (case side2 => exact hV.next (by repeat (first | (with_reducible first | exact HB.out | apply below_alloc | apply pw_below_drewN | apply below_drew1) | exact HB.out))); rintro e w47 ⟨v121, rfl, ho0, hb⟩; refine ⟨_, rfl, ?_⟩; have n0_ := Aside0.mk (Kd.Q_below (by (with_reducible repeat (first | apply Kd.Q_alloc | apply Kd.Q_drewN | apply Kd.Q_drew)); exact HO_3.out) hb); have n1_ := Aside0.mk (Kd.V_below (by (with_reducible repeat (first | apply Kd.V_alloc | apply Kd.V_drewN | apply Kd.V_drew)); exact HO_7.out) hb); have n2_ := Aside0.mk (Kd.V_below (by (with_reducible repeat (first | apply Kd.V_alloc | apply Kd.V_drewN | apply Kd.V_drew)); exact HO119.out) hb); have n3_ := Aside0.mk (Kd.V_lower (Kd.V_mono (ok' := fun k_ => True) ho0 (fun k_ hk_ => trivial)) (below_size (by repeat (first | (with_reducible first | exact HB.out | apply below_alloc | apply pw_below_drewN | apply below_drew1) | exact HB.out)))); have n4_ := Aside0.mk (below_step (by repeat (first | (with_reducible first | exact HB.out | apply below_alloc | apply pw_below_drewN | apply below_drew1) | exact HB.out)) hb); clear HO_3; clear HO_7; clear HO119; clear HB; have HO_3 := n0_; have HO_7 := n1_; have HO119 := n2_; have HO122 := n3_; have HB := n4_; clear n0_ n1_ n2_ n3_ n4_; (try clear hb); (try clear hb2); (try clear hk); (try clear hi); (try clear ho0); obtain ⟨Ao48, co48, eo48⟩ := Kd.V_slice HO122.out; subst eo48) | (go_at_call 33; (with_reducible refine (laws_lzMap.calls k2 _ _ t120 _ _ t101 t124 _ ?side1 ?side2 ?side3 ?side4 A43.out).mono ?_); (case side1 => repeat (first | exact (Kd.V_reads' HO122.out).2.2 | (with_reducible refine Kd.C_alloc ?_ _) | (with_reducible refine Kd.C_drewN ?_ _) | (with_reducible refine Kd.C_drew ?_))); (case side2 => exact (Kd.V_reads' HO122.out).2.1); (case side3 => repeat (first | exact (Kd.Q_reads' HO_3.out).2.2 | (with_reducible refine Kd.C_alloc ?_ _) | (with_reducible refine Kd.C_drewN ?_ _) | (with_reducible refine Kd.C_drew ?_))); (case side4 => exact (Kd.Q_reads' HO_3.out).2.1); rintro e w' ⟨rfl, ⟨nd, rfl⟩⟩))
                      go_ret
                      exact ⟨by first | rfl | (simp [errW_none, errW_some] <;> rfl) | (simp [*, errW_none, errW_some] <;> rfl), by repeat (first | (with_reducible first | exact HB.out | apply below_alloc | apply pw_below_drewN | apply below_drew1) | exact HB.out)⟩
                    · rw [if_neg c42] at H
                      have c42b0 : (t123.toList == x6_2.toList) = false := beq_eq_false_iff_ne.mpr c42
                      have c42b1 : (t123.toList != x6_2.toList) = true := bne_iff_ne.mpr c42
                      obtain rfl := Option.some.inj H
                      obtain ⟨Ao49, co49, eo49⟩ := Kd.V_slice HO_7.out
                      subst eo49
                      go_wp2_with (first | ((with_reducible refine gate_callee (f := 42) rfl ?_); refine goesL_ (some 77) rfl rfl Tryz.func42 (by kernel_rfl) rfl #[.string t102] rfl (by (try simp only [List.map_toArray, List.map_cons, List.map_nil]); first | done | rfl | (simp only [List.length_drop, List.length_take]; rfl)) ?_; (with_reducible refine (impl_TextNames.calls k2 t102 t117 _ ?side1 A35.out).mono ?_); (case side1 => exact hV.next (by repeat (first | (with_reducible first | exact HB.out | apply below_alloc | apply pw_below_drewN | apply below_drew1) | exact HB.out))); rintro e w50 ⟨v118, rfl, ho0, hb⟩; refine ⟨_, rfl, ?_⟩; have n0_ := Aside0.mk (Kd.Q_below (by (with_reducible repeat (first | apply Kd.Q_alloc | apply Kd.Q_drewN | apply Kd.Q_drew)); exact HO_3.out) hb); have n1_ := Aside0.mk (Kd.V_below (by (with_reducible repeat (first | apply Kd.V_alloc | apply Kd.V_drewN | apply Kd.V_drew)); exact HO_7.out) hb); have n2_ := Aside0.mk (Kd.V_lower (Kd.V_mono (ok' := fun k_ => some k_ ≠ (.slice Ao7 t101.length co7 : Value).ownBlock) ho0 (fun k_ hk_ => (Kd.fresh' (Kd.Q_lt (by (with_reducible repeat (first | apply Kd.Q_alloc | apply Kd.Q_drewN | apply Kd.Q_drew)); exact HO_3.out)) k_ hk_))) (below_size (by repeat (first | (with_reducible first | exact HB.out | apply below_alloc | apply pw_below_drewN | apply below_drew1) | exact HB.out)))); have n3_ := Aside0.mk (below_step (by repeat (first | (with_reducible first | exact HB.out | apply below_alloc | apply pw_below_drewN | apply below_drew1) | exact HB.out)) hb); clear HO_3; clear HO_7; clear HB; have HO_3 := n0_; have HO_7 := n1_; have HO119 := n2_; have HB := n3_; clear n0_ n1_ n2_ n3_; (try clear hb); (try clear hb2); (try clear hk); (try clear hi); (try clear ho0); obtain ⟨Ao51, co51, eo51⟩ := Kd.V_slice HO119.out; subst eo51) | ((with_reducible refine gate_callee (f := 43) rfl ?_); refine goesL_ (some 88) rfl rfl Tryz.func43 (by kernel_rfl) rfl #[.slice Ao7 t101.length co7, .string t102] rfl (by (try simp only [List.map_toArray, List.map_cons, List.map_nil]); first | done | rfl | (simp only [List.length_drop, List.length_take]; rfl)) ?_; (with_reducible refine (impl_MapTextOut.calls k2 (fun k_ => some k_ = (.slice Ao7 t101.length co7 : Value).ownBlock) _ _ t101 t102 t120 t123 _ ?side1 ?side2 A40.out).mono ?_); (case side1 => exact Kd.Q_V (Kd.Q_tight rfl (HO_3.out))); (case side2 => exact hV.next (by repeat (first | (with_reducible first | exact HB.out | apply below_alloc | apply pw_below_drewN | apply below_drew1) | exact HB.out))); rintro e w52 ⟨v121, rfl, ho0, hb⟩; refine ⟨_, rfl, ?_⟩; have n0_ := Aside0.mk (Kd.Q_below (by (with_reducible repeat (first | apply Kd.Q_alloc | apply Kd.Q_drewN | apply Kd.Q_drew)); exact HO_3.out) hb); have n1_ := Aside0.mk (Kd.V_below (by (with_reducible repeat (first | apply Kd.V_alloc | apply Kd.V_drewN | apply Kd.V_drew)); exact HO_7.out) hb); have n2_ := Aside0.mk (Kd.V_below (by (with_reducible repeat (first | apply Kd.V_alloc | apply Kd.V_drewN | apply Kd.V_drew)); exact HO119.out) hb); have n3_ := Aside0.mk (Kd.V_lower (Kd.V_mono (ok' := fun k_ => True) ho0 (fun k_ hk_ => trivial)) (below_size (by repeat (first | (with_reducible first | exact HB.out | apply below_alloc | apply pw_below_drewN | apply below_drew1) | exact HB.out)))); have n4_ := Aside0.mk (below_step (by repeat (first | (with_reducible first | exact HB.out | apply below_alloc | apply pw_below_drewN | apply below_drew1) | exact HB.out)) hb); clear HO_3; clear HO_7; clear HO119; clear HB; have HO_3 := n0_; have HO_7 := n1_; have HO119 := n2_; have HO122 := n3_; have HB := n4_; clear n0_ n1_ n2_ n3_ n4_; (try clear hb); (try clear hb2); (try clear hk); (try clear hi); (try clear ho0)))
                      go_ret
                      exact ⟨by first | rfl | (simp [errW_none, errW_some] <;> rfl) | (simp [*, errW_none, errW_some] <;> rfl), by repeat (first | (with_reducible first | exact HB.out | apply below_alloc | apply pw_below_drewN | apply below_drew1) | exact HB.out)⟩
                  · rw [if_neg c41] at H
                    have c41b0 : (t105.toList == x6_2.toList) = false := beq_eq_false_iff_ne.mpr c41
                    have c41b1 : (t105.toList != x6_2.toList) = true := bne_iff_ne.mpr c41
                    obtain rfl := Option.some.inj H
                    obtain ⟨Ao53, co53, eo53⟩ := Kd.V_slice HO_7.out
                    subst eo53
                    go_wp2_with (first | ((with_reducible refine gate_callee (f := 42) rfl ?_); refine goesL_ (some 77) rfl rfl Tryz.func42 (by kernel_rfl) rfl #[.string t102] rfl (by (try simp only [List.map_toArray, List.map_cons, List.map_nil]); first | done | rfl | (simp only [List.length_drop, List.length_take]; rfl)) ?_; (with_reducible refine (impl_TextNames.calls k2 t102 t117 _ ?side1 A35.out).mono ?_); (case side1 => exact hV.next (by repeat (first | (with_reducible first | exact HB.out | apply below_alloc | apply pw_below_drewN | apply below_drew1) | exact HB.out))); rintro e w54 ⟨v118, rfl, ho0, hb⟩; refine ⟨_, rfl, ?_⟩; have n0_ := Aside0.mk (Kd.Q_below (by (with_reducible repeat (first | apply Kd.Q_alloc | apply Kd.Q_drewN | apply Kd.Q_drew)); exact HO_3.out) hb); have n1_ := Aside0.mk (Kd.V_below (by (with_reducible repeat (first | apply Kd.V_alloc | apply Kd.V_drewN | apply Kd.V_drew)); exact HO_7.out) hb); have n2_ := Aside0.mk (Kd.V_lower (Kd.V_mono (ok' := fun k_ => some k_ ≠ (.slice Ao7 t101.length co7 : Value).ownBlock) ho0 (fun k_ hk_ => (Kd.fresh' (Kd.Q_lt (by (with_reducible repeat (first | apply Kd.Q_alloc | apply Kd.Q_drewN | apply Kd.Q_drew)); exact HO_3.out)) k_ hk_))) (below_size (by repeat (first | (with_reducible first | exact HB.out | apply below_alloc | apply pw_below_drewN | apply below_drew1) | exact HB.out)))); have n3_ := Aside0.mk (below_step (by repeat (first | (with_reducible first | exact HB.out | apply below_alloc | apply pw_below_drewN | apply below_drew1) | exact HB.out)) hb); clear HO_3; clear HO_7; clear HB; have HO_3 := n0_; have HO_7 := n1_; have HO119 := n2_; have HB := n3_; clear n0_ n1_ n2_ n3_; (try clear hb); (try clear hb2); (try clear hk); (try clear hi); (try clear ho0); obtain ⟨Ao55, co55, eo55⟩ := Kd.V_slice HO119.out; subst eo55) | ((with_reducible refine gate_callee (f := 43) rfl ?_); refine goesL_ (some 88) rfl rfl Tryz.func43 (by kernel_rfl) rfl #[.slice Ao7 t101.length co7, .string t102] rfl (by (try simp only [List.map_toArray, List.map_cons, List.map_nil]); first | done | rfl | (simp only [List.length_drop, List.length_take]; rfl)) ?_; (with_reducible refine (impl_MapTextOut.calls k2 (fun k_ => some k_ = (.slice Ao7 t101.length co7 : Value).ownBlock) _ _ t101 t102 t120 t123 _ ?side1 ?side2 A40.out).mono ?_); (case side1 => exact Kd.Q_V (Kd.Q_tight rfl (HO_3.out))); (case side2 => exact hV.next (by repeat (first | (with_reducible first | exact HB.out | apply below_alloc | apply pw_below_drewN | apply below_drew1) | exact HB.out))); rintro e w56 ⟨v121, rfl, ho0, hb⟩; refine ⟨_, rfl, ?_⟩; have n0_ := Aside0.mk (Kd.Q_below (by (with_reducible repeat (first | apply Kd.Q_alloc | apply Kd.Q_drewN | apply Kd.Q_drew)); exact HO_3.out) hb); have n1_ := Aside0.mk (Kd.V_below (by (with_reducible repeat (first | apply Kd.V_alloc | apply Kd.V_drewN | apply Kd.V_drew)); exact HO_7.out) hb); have n2_ := Aside0.mk (Kd.V_below (by (with_reducible repeat (first | apply Kd.V_alloc | apply Kd.V_drewN | apply Kd.V_drew)); exact HO119.out) hb); have n3_ := Aside0.mk (Kd.V_lower (Kd.V_mono (ok' := fun k_ => True) ho0 (fun k_ hk_ => trivial)) (below_size (by repeat (first | (with_reducible first | exact HB.out | apply below_alloc | apply pw_below_drewN | apply below_drew1) | exact HB.out)))); have n4_ := Aside0.mk (below_step (by repeat (first | (with_reducible first | exact HB.out | apply below_alloc | apply pw_below_drewN | apply below_drew1) | exact HB.out)) hb); clear HO_3; clear HO_7; clear HO119; clear HB; have HO_3 := n0_; have HO_7 := n1_; have HO119 := n2_; have HO122 := n3_; have HB := n4_; clear n0_ n1_ n2_ n3_ n4_; (try clear hb); (try clear hb2); (try clear hk); (try clear hi); (try clear ho0)))
                    go_ret
                    exact ⟨by first | rfl | (simp [errW_none, errW_some] <;> rfl) | (simp [*, errW_none, errW_some] <;> rfl), by repeat (first | (with_reducible first | exact HB.out | apply below_alloc | apply pw_below_drewN | apply below_drew1) | exact HB.out)⟩

end
end Go.Proofs.YtjflklgoimdopaaGreatDoor.Q
namespace Go.Proofs.YtjflklgoimdopaaGreatDoor.Q
open Go.RowKit Go.Proofs.YtjflklgoimdopaaGreatDoorW.PrintWords Go.Proofs.YtjflklgoimdopaaGreatDoorW.PrintMore Go.Proofs.YtjflklgoimdopaaGreatDoor.Z
set_option linter.unusedVariables false
set_option linter.unusedSimpArgs false

theorem spec_MapOk_to (m : List Pr) (hm : m.length ≤ 1099511627776) : spec_MapOk.f (m.map prTo) = some (mapOkB m) := by
  unfold spec_MapOk.f
  rw [map_pr, if_pos hm, prs_of_to]
theorem spec_TextOk_to (l : List UInt8) (hl : l.length ≤ 140737488355328) : spec_TextOk.f (mkB l) = some (textOk l) := by
  unfold spec_TextOk.f
  rw [size_mkB, if_pos hl, bl_of]
/-- The bytes of those pieces that name nobody. -/
def plainOf : List Pc → List UInt8 → List UInt8
  | [], _ => []
  | p :: ps, t => (if p.named then [] else t.take p.size.toNat) ++ plainOf ps (t.drop p.size.toNat)
theorem plain_none (m : List Pr) : ∀ (ps : List Pc) (t : List UInt8), names ps = [] → (goIn m ps t).flatten = plainOf ps t ∧ (goOut m ps t).1 = m ∧ (goOut m ps t).2.flatten = plainOf ps t
  | [], _, _ => ⟨rfl, rfl, rfl⟩
  | p :: ps, t, h => by
    rw [names_cons] at h
    cases hn : p.named
    · rw [hn] at h
      obtain ⟨h1, h2, h3⟩ := plain_none m ps (t.drop p.size.toNat) (by simpa using h)
      have e1 : inP m p (t.take p.size.toNat) = t.take p.size.toNat := by unfold inP; rw [hn]; rfl
      have e2 : outP m p (t.take p.size.toNat) = (m, t.take p.size.toNat) := by unfold outP; rw [hn]; rfl
      simp only [goIn, goOut, plainOf, hn, e1, e2, List.flatten_cons, h1, h2, h3]
      simp
    · rw [hn] at h
      simp at h
theorem plain_len (m : List Pr) : ∀ (ps : List Pc) (t : List UInt8), (plainOf ps t).length ≤ (goIn m ps t).flatten.length
  | [], _ => Nat.le_refl _
  | p :: ps, t => by
    have h := plain_len m ps (t.drop p.size.toNat)
    simp only [goIn, plainOf, List.flatten_cons, List.length_append]
    cases hn : p.named
    · have e1 : inP m p (t.take p.size.toNat) = t.take p.size.toNat := by unfold inP; rw [hn]; rfl
      rw [e1]
      simp only [Bool.false_eq_true, if_false]
      omega
    · simp only [if_true, List.length_nil]
      omega
theorem plain_l0 (m : List Pr) (l : List UInt8) (h1 : mapOkB m = true) (h2 : textOk l = true) (n : Nat) : ∀ (k : Nat) (acc : List UInt8) (off i : Nat), (pieces l).length - i ≤ n → n + 200000 < k → i ≤ (pieces l).length → off ≤ l.length → fits ((pieces l).drop i) (l.drop off) →
    acc.length ≤ off → acc ++ plainOf ((pieces l).drop i) (l.drop off) = plainOf (pieces l) l →
    laws_FnTextPlain.l0 k (m.map prTo) (mkB l) (mkB (mapIn m l)) (mkB acc) ((pieces l).map pcTo) off i = some true := by
  have hl := textOk_len h2
  have hm := mapOk_len h1
  have hps := pieces_len l
  have hend : ∀ (k : Nat) (acc : List UInt8) (off i : Nat), 199999 < k → ¬ i < (pieces l).length → acc = plainOf (pieces l) l →
      laws_FnTextPlain.l0 (k + 1) (m.map prTo) (mkB l) (mkB (mapIn m l)) (mkB acc) ((pieces l).map pcTo) off i = some true := by
    intro k acc off i hk hi ha
    simp only [laws_FnTextPlain.l0]
    rw [if_neg (by rw [List.length_map]; omega), impl_TextNames_to k (by omega) l (by omega), Option.bind_some, List.length_map]
    have hin : mapIn m l = (goIn m (pieces l) l).flatten := by unfold mapIn pieces; rw [h1, h2]; rfl
    by_cases hn : ((names (pieces l)).length : Int) > 0
    · rw [if_pos hn]
      have := plain_len m (pieces l) l
      rw [size_mkB, size_mkB, hin, ha, decide_eq_true (by omega)]
    · rw [if_neg hn]
      obtain ⟨e1, e2, e3⟩ := plain_none m (pieces l) l (List.length_eq_zero_iff.1 (by omega))
      have hout : mapOutT m l = ((goOut m (pieces l) l).1, (goOut m (pieces l) l).2.flatten) := by unfold mapOutT pieces; rw [h1, h2]; rfl
      rw [impl_MapTextOut_to k (by omega) m (by omega) l (by omega), Option.bind_some, hout, hin, e1, e2, e3, ha]
      simp only
      rw [if_pos trivial, if_pos trivial, lzMap_same k (m.map prTo) (by rw [map_pr]; omega) (by omega)]
      rfl
  induction n with
  | zero =>
    intro k acc off i hn hk hi ho hf hac ha
    obtain ⟨k, rfl⟩ : ∃ m, k = m + 1 := ⟨k - 1, by omega⟩
    exact hend k acc off i (by omega) (by omega) (by rw [← ha, List.drop_of_length_le (by omega)]; simp [plainOf])
  | succ n ih =>
    intro k acc off i hn hk hi ho hf hac ha
    obtain ⟨k, rfl⟩ : ∃ m, k = m + 1 := ⟨k - 1, by omega⟩
    by_cases hlt : i < (pieces l).length
    · simp only [laws_FnTextPlain.l0]
      obtain ⟨p, hp⟩ : ∃ p, (pieces l)[i]? = some p := ⟨_, List.getElem?_eq_getElem hlt⟩
      rw [drop_of hp] at hf ha
      obtain ⟨g0, g1, g2, hf⟩ := hf
      rw [List.length_drop] at g1
      have q0 : (i : Int) < ((pieces l).length : Int) := by omega
      have q1 : (0 : Int) ≤ (i : Int) := by omega
      have q2 : (0 : Int) ≤ (off : Int) := by omega
      have q3 : (off : Int) ≤ ((off + p.size.toNat : Nat) : Int) := by omega
      have q4 : ((off + p.size.toNat : Nat) : Int) ≤ (l.length : Int) := by omega
      have q5 : acc.length + ((l.drop off).take p.size.toNat).length ≤ 9223372036854775807 := by rw [List.length_take, List.length_drop]; omega
      have hf' : fits ((pieces l).drop (i + 1)) (l.drop (off + p.size.toNat)) := by have h5 := hf; rw [List.drop_drop] at h5; exact h5
      have ih1 := ih k acc (off + p.size.toNat) (i + 1) (by omega) (by omega) (by omega) (by omega) hf' (by omega)
      have ih2 := ih k (acc ++ (l.drop off).take p.size.toNat) (off + p.size.toNat) (i + 1) (by omega) (by omega) (by omega) (by omega) hf' (by rw [List.length_append, List.length_take, List.length_drop]; omega)
      have hw : wrap64 ((off : Int) + p.size) = ((off + p.size.toNat : Nat) : Int) := by rw [w64 (by omega)]; omega
      have hw3 : wrap64 ((i : Int) + 1) = ((i + 1 : Nat) : Int) := by rw [w64 (by omega)]; omega
      have hr := rd_pc (pieces l) i p hp
      have hf0 : (rd_T90 ((pieces l).map pcTo) (i : Int)).f0 = p.size := by rw [hr]; rfl
      have hf1 : (rd_T90 ((pieces l).map pcTo) (i : Int)).f1 = p.named := by rw [hr]; rfl
      simp only [hf0, hf1, hw, hw3, List.length_map, Int.toNat_natCast, extM, Nat.add_sub_cancel_left, size_mkB, q0, q1, q2, q3, q4, q5, if_true]
      simp only [plainOf] at ha
      rw [List.drop_drop] at ha
      cases hn : p.named
      · rw [if_neg (by simp)]
        rw [hn] at ha
        have e : mkB acc ++ mkB ((l.drop off).take p.size.toNat) = mkB (acc ++ (l.drop off).take p.size.toNat) := bytes_append _ _
        rw [e]
        exact ih2 (by rw [← ha]; simp)
      · rw [if_pos rfl]
        rw [hn] at ha
        exact ih1 (by rw [← ha]; simp)
    · exact hend k acc off i (by omega) hlt (by rw [← ha, List.drop_of_length_le (by omega)]; simp [plainOf])
theorem FnTextPlain_true (code : List Int) (hc : ∀ b ∈ code, (0 : Int) ≤ b ∧ b ≤ 255) : ∃ k, laws_FnTextPlain.f k code = some true := by
  obtain ⟨k, hk⟩ : ∃ k, 300000 < k := ⟨300001, by omega⟩
  refine ⟨k + 1, ?_⟩
  unfold laws_FnTextPlain.f
  by_cases hlen : (code.length : Int) > 1048576
  · rw [if_pos hlen]
  · rw [if_neg hlen]
    obtain ⟨bs, h1, hb⟩ := l6Open_to hc
    obtain ⟨r, q, h2, hr, hq, hq2⟩ := l71Map_to (k + 1) (by omega) hb 0 (by omega)
    obtain ⟨s, q2, h3, hs, _, _⟩ := l71Off_to (k + 1) (by omega) hb q (by omega)
    have hD : spec_DrawMapTextIn.f (k + 1) code = some (r, s) := by
      unfold spec_DrawMapTextIn.f
      rw [h1, Option.bind_some]
      simp only
      rw [h2, Option.bind_some]
      simp only
      rw [h3, Option.bind_some]
    obtain ⟨m, hm⟩ : ∃ m, m = r.map prOf := ⟨_, rfl⟩
    have hrm : r = m.map prTo := by rw [hm, prs_to_of]
    obtain ⟨l, hl⟩ : ∃ l, l = bl s := ⟨_, rfl⟩
    have hsl : s = mkB l := by rw [hl, mkB_bl]
    have hml : m.length ≤ 31 := by rw [hm, List.length_map]; exact hr
    have hll : l.length ≤ 100 := by rw [hl, bl_len]; exact hs
    rw [hD, Option.bind_some]
    simp only
    rw [hrm, hsl, impl_MapTextIn_to (k + 1) (by omega) m (by omega) l (by omega), Option.bind_some, spec_MapTextIn_to (k + 1) (by omega) m (by omega) l (by omega), Option.bind_some, if_pos rfl]
    rw [spec_MapOk_to m (by omega), Option.bind_some]
    have hj : ∀ b, b = true → laws_FnTextPlain.j0 (k + 1) (m.map prTo) (mkB l) (mkB (mapIn m l)) b = some true := by
      intro b hb
      simp only [laws_FnTextPlain.j0]
      rw [if_pos hb, spec_MapTextIn_to k (by omega) m (by omega) l (by omega), Option.bind_some, beq_self_eq_true]
    cases e1 : mapOkB m
    · rw [if_neg (by simp)]
      exact hj true rfl
    · rw [if_pos rfl, spec_TextOk_to l (by omega), Option.bind_some]
      cases e2 : textOk l
      · exact hj _ rfl
      · simp only [laws_FnTextPlain.j0]
        have hpl := pieces_len l
        rw [if_neg (by simp), impl_TextPieces_to k (by omega) l (by omega), Option.bind_some]
        have hpc : pieces l = pcL (body l) := by unfold pieces; rw [e2]; rfl
        exact plain_l0 m l e1 e2 1000 k [] 0 0 (by omega) (by omega) (by omega) (by omega) (by rw [List.drop_zero, List.drop_zero, hpc]; exact fits_body l) (by simp) (by rw [List.drop_zero, List.drop_zero, List.nil_append])
end Go.Proofs.YtjflklgoimdopaaGreatDoor.Q
namespace Go.Proofs.YtjflklgoimdopaaGreatDoor.Z
open Go.RowKit Go.Proofs.YtjflklgoimdopaaGreatDoorW.PrintWords
set_option linter.unusedVariables false

/-- What reads as data of type t is of kind d, and good. -/
def Opens {α : Type} (P : Program) (t : TypeId) (d : Kd α) (good : α → Prop) : Prop := P.cellsOf t = d.sz ∧
  ∀ (H : Type) (enc : TypeId × Value → H) (w : World) (base : Nat) (spare : Nat → Bool) (held : Bool) (fuel : Nat) (cs : List Value) (x : DataW H × List MemPlace), DataW.trod enc P w base spare held fuel t cs = some x → ∃ v, d.K w v cs ∧ good v
section
variable {P : Program} {t e : TypeId}
theorem Opens.int {k : IntKind} (ht : P.underlying t = some (.int k)) (hc : P.cellsOf t = 1) : Opens P t (Kd.int k) (fun n => (Lit.int k n).wf = true) :=
  ⟨hc, fun H enc w base spare held fuel cs x h => let ⟨n, e, _, g⟩ := DataW.trod_int ht h; ⟨n, e, g⟩⟩
theorem Opens.bool (ht : P.underlying t = some .bool) (hc : P.cellsOf t = 1) : Opens P t Kd.bool (fun _ => True) :=
  ⟨hc, fun H enc w base spare held fuel cs x h => let ⟨n, e, _⟩ := DataW.trod_bool ht h; ⟨n, e, trivial⟩⟩
theorem Opens.string (ht : P.underlying t = some .string) (hc : P.cellsOf t = 1) : Opens P t Kd.string (fun s => s.size ≤ maxLen) :=
  ⟨hc, fun H enc w base spare held fuel cs x h => let ⟨n, e, _, g⟩ := DataW.trod_string ht h; ⟨n, e, g⟩⟩
theorem Opens.slice {α : Type} [Inhabited α] {d : Kd α} {good : α → Prop} (ht : P.underlying t = some (.slice e)) (hc : P.cellsOf t = 1) (he : Opens P e d good) : Opens P t (Kd.slice e d) (fun xs => ∀ x ∈ xs, good x) := by
  refine ⟨hc, fun H enc w base spare held fuel cs x h => ?_⟩
  rcases Deep.open_slice ht h with ⟨rfl, _⟩ | ⟨a, len, cap, m, n, D, Pl, rfl, _, hl, hm, hmm, _, hx⟩
  · exact ⟨[], ⟨none, 0, rfl, Nat.le_refl _, rfl, by simp, fun h => absurd h (Nat.lt_irrefl _)⟩, fun x hx => by cases hx⟩
  · have hlm : len ≤ m := by rw [hmm]; split <;> omega
    have each : ∀ i, i < len → ∃ v, ∃ cs', cs'.length = d.sz ∧ d.K w v cs' ∧ good v ∧ ∀ j u, cs'[j]? = some u → w.cell? (a.add (i * d.sz + j)) = some u := fun i hi => by
      obtain ⟨cs', h1, h2⟩ := hx i (by omega)
      rw [he.1] at h1
      obtain ⟨_, hlen, hcell⟩ := World.cells?_some h1
      obtain ⟨v, hK, hg⟩ := he.2 H enc w base spare held n cs' _ h2
      refine ⟨v, cs', hlen, hK, hg, fun j u hu => ?_⟩
      have hj : j < cs'.length := (List.getElem?_eq_some_iff.1 hu).1
      have := hcell j (by omega)
      rw [Deep.add_add] at this
      rw [this, hu]
    obtain ⟨f, hf⟩ := Deep.choose_lt each
    refine ⟨(List.range len).map f, ⟨some a, cap, by simp, by simpa using hl, by simp, ?_, ?_⟩, ?_⟩
    · have := hm; unfold maxLen at this; simp; omega
    · intro _
      refine ⟨a, rfl, fun j p hj => ?_⟩
      obtain ⟨hj1, hj2⟩ := List.getElem?_eq_some_iff.1 hj
      simp at hj1 hj2
      obtain ⟨cs', h1, h2, _, h4⟩ := hf j hj1
      exact ⟨cs', h1, hj2 ▸ h2, h4⟩
    · intro x hx
      obtain ⟨i, hi, rfl⟩ := List.mem_map.1 hx
      obtain ⟨_, _, _, h3, _⟩ := hf i (List.mem_range.1 hi)
      exact h3
/-- The fields of a struct, from one on. -/
def OpensF {α : Type} (P : Program) (fs : List Field) (off : Nat) (d : Kd α) (good : α → Prop) : Prop :=
  ∀ (H : Type) (enc : TypeId × Value → H) (w : World) (base : Nat) (spare : Nat → Bool) (held : Bool) (n : Nat) (cs : List Value) (xs : List (DataW H × List MemPlace)), cs.length = off + d.sz → xs.length = fs.length →
    (∀ (i : Nat) (f : Field), fs[i]? = some f → DataW.trod enc P w base spare held n f.type ((cs.drop f.offset).take (P.cellsOf f.type)) = xs[i]?) → ∃ v, d.K w v (cs.drop off) ∧ good v
theorem OpensF.cons {α β : Type} {f : Field} {fs : List Field} {off off' : Nat} {d : Kd α} {d' : Kd β} {good : α → Prop} {good' : β → Prop} (ho : f.offset = off) (h : Opens P f.type d good) (hoff : off' = off + d.sz) (hr : OpensF P fs off' d' good') :
    OpensF P (f :: fs) off (Kd.pair d d') (fun x => good x.1 ∧ good' x.2) := by
  subst hoff
  intro H enc w base spare held n cs xs hl hx ht
  have hl' : cs.length = off + (d.sz + d'.sz) := hl
  cases xs with
  | nil => simp at hx
  | cons y ys =>
    have h0 := ht 0 f rfl
    rw [ho, h.1] at h0
    obtain ⟨v, hK, hg⟩ := h.2 H enc w base spare held n _ y h0
    obtain ⟨v', hK', hg'⟩ := hr H enc w base spare held n cs ys (by omega) (by simpa using hx) (fun i f hf => ht (i + 1) f (by simpa using hf))
    refine ⟨(v, v'), ⟨(cs.drop off).take d.sz, cs.drop (off + d.sz), ?_, hK, hK'⟩, hg, hg'⟩
    have e := List.take_append_drop d.sz (cs.drop off)
    rw [List.drop_drop] at e
    exact e.symm
theorem Opens.struct {α β : Type} {fs : Array Field} {d : Kd α} {good : α → Prop} (ht : P.underlying t = some (.struct fs)) (hc : P.cellsOf t = d.sz) (hF : OpensF P fs.toList 0 d good) (f : β → α) (g : α → β) (hfg : ∀ a, f (g a) = a) : Opens P t (Kd.iso d f) (fun x => good (f x)) := by
  refine ⟨hc, fun H enc w base spare held fuel cs x h => ?_⟩
  obtain ⟨xs, n, _, _, hl, hx, hf⟩ := DataW.trod_struct ht h
  obtain ⟨v, hK, hg⟩ := hF H enc w base spare held n cs xs (by rw [hl, hc]; omega) (by simpa using hx) (fun i fd hi => hf i fd (by simpa using hi))
  refine ⟨g v, ?_, by show good (f (g v)); rw [hfg]; exact hg⟩
  show d.K w (f (g v)) cs
  rw [hfg]
  simpa using hK
end

/-- A number that an int holds. -/
def i64ok (n : Int) : Prop := (Lit.int .i64 n).wf = true
theorem i64ok.le {n : Int} (h : i64ok n) : -9223372036854775808 ≤ n ∧ n ≤ 9223372036854775807 := by
  unfold i64ok at h
  simpa [Lit.wf, IntKind.has, IntKind.min, IntKind.signed, IntKind.bits] using h
end Go.Proofs.YtjflklgoimdopaaGreatDoor.Z
namespace Go.Proofs.YtjflklgoimdopaaGreatDoor.Z
open Go.RowKit Go.Proofs.YtjflklgoimdopaaGreatDoorW.PrintWords
set_option linter.unusedVariables false
/-- A number that a byte holds. -/
def byteOk (n : Int) : Prop := (Lit.int .u8 n).wf = true
theorem byteOk.le {n : Int} (h : byteOk n) : 0 ≤ n ∧ n ≤ 255 := by
  unfold byteOk at h
  simpa [Lit.wf, IntKind.has, IntKind.min, IntKind.max, IntKind.signed, IntKind.bits] using h
theorem openByte : Opens Tryz.prog 5 (Kd.int .u8) byteOk := Opens.int Tryz.underlying5 (by kernel_rfl)
theorem openBytes : Opens Tryz.prog 47 (Kd.slice 5 (Kd.int .u8)) (fun xs => ∀ x ∈ xs, byteOk x) := Opens.slice Tryz.underlying47 (by kernel_rfl) openByte
theorem bytes_le {bs : List Int} (h : ∀ x ∈ bs, byteOk x) : ∀ b ∈ bs, (0 : Int) ≤ b ∧ b ≤ 255 := fun b hb => (h b hb).le
end Go.Proofs.YtjflklgoimdopaaGreatDoor.Z
namespace Go.Proofs.YtjflklgoimdopaaGreatDoor.fnTextPlain
open Go.ChangeShapes Go.WideShapes Go.ChangeAt Go.RowKit Go.Proofs.YtjflklgoimdopaaGreatDoorW.PrintWords
open Go.ChangeMaps (open_string shut_string)
set_option linter.unusedVariables false
theorem own : ownKnob Tryz.prog.godebug = none := by kernel_rfl
theorem laidOut : laidOutB Tryz.prog = true := by kernel_rfl
set_option maxRecDepth 100000 in
theorem lifted (os : Os) (started : os.Started) (H : Type) (enc : TypeId × Value → H) :
    ReturnsInHanded {} Tryz.checked os 7 .any (fun w args => (Rows.fnTextPlainSpec.pre enc Tryz.prog Tryz.f7 Rows.fnTextPlainRow.domain false w args ∧ laidMetH Tryz.prog Z.laidL w) ∧ sizedMet enc Tryz.prog Tryz.f7 (OpenSpec.ofChange Rows.fnTextPlainSpec) false w args)
      (Rows.fnTextPlainSpec.post enc Tryz.prog Tryz.f7 false true false false) := by
  refine Z.wrap_laid (C := Tryz.checked) (X := fun w _ => laidMetH Tryz.prog Z.laidL w) (fun _ _ _ hh h => h.of_heap hh) own started (by kernel_rfl) Tryz.func7
    (ChangeSpec.witness_shaped (enc := enc) (C := Tryz.checked) (os := os) (X := fun w _ => laidMetH Tryz.prog Z.laidL w) false (World.laidAll Tryz.prog os Z.laidL) #[.slice none 0 0] 8 (World.laidAll_os _ _ _)
      (World.shaped_of_ZipB (by kernel_rfl) (by kernel_rfl)) (by kernel_rfl) (by kernel_rfl) (by kernel_rfl) (Z.laid_met os _)) ?_
  intro W base args ds gs before hval0 hW hL hsh
  have hvars := Z.vars_of hL hsh
  have hval : ∀ (j : Nat) t v, Tryz.f7.params[j]? = some t → args[j]? = some v → Value.okWide Tryz.prog W .any base t v := hval0
  have hW' := hW
  obtain ⟨p, q, hA0, hV, rfl, hfz, hnd⟩ := hW
  have hA : DataW.TrodAll enc Tryz.prog W 0 (fun _ => true) true Tryz.f7.params.toList args.toList ds p := hA0
  rw [Tryz.params7] at hA hval
  obtain ⟨v0, vs0, d0, ds0, p0, q0, hargs, rfl, rfl, h0, r0⟩ := trodAll_cons hA
  obtain ⟨rfl, rfl, rfl⟩ := trodAll_nil r0
  obtain rfl : args = #[v0] := by cases args; simp_all
  obtain ⟨rfl, rfl⟩ := trodVars_none hV
  obtain ⟨a0, len0, cap0, rfl⟩ := okWide_slice Tryz.underlying47 (hval 0 47 v0 rfl rfl)
  have k0 := h0
  have lt0 : ∀ x ∈ p0, x.block < W.heap.size := by obtain ⟨m, hm⟩ := k0; exact DataW.trod_lt m _ _ _ hm
  obtain ⟨fuel0, hf0⟩ := h0
  obtain ⟨xs0, ⟨A0, c0, hcs0, hl0, hC0⟩, hg0⟩ := Z.openBytes.2 _ _ _ _ _ _ _ _ _ hf0
  simp [Value.cells] at hcs0
  obtain ⟨rfl, rfl, rfl⟩ := hcs0
  clear hA0 hval0
  obtain ⟨k, hk⟩ := Q.FnTextPlain_true xs0 (Z.bytes_le hg0)
  refine (Q.laws_FnTextPlain.calls k a0 cap0 xs0 true W hC0 hl0 hvars hk).mono ?_
  rintro e W' ⟨rfl, bel⟩
  exact ⟨_, rfl, _, _, _, [], _, [], hW', trodAll_mk1 (shut_bool Tryz.underlying4 _), (trodAll_cons_mk (Below.trod laidOut (by kernel_rfl) (of_decide_eq_true (by kernel_rfl)) k0 bel lt0) trodAll_mk0), rfl, bel.frame _, fun h => by cases h⟩
theorem over : Rows.fnTextPlainRow.holds Tryz.pinned (OpenSpec.ofChange Rows.fnTextPlainSpec) :=
  OpenClaim.holds_of_wide 7 Tryz.f7 rfl rfl rfl rfl rfl rfl rfl ⟨rfl, rfl, rfl, rfl, rfl⟩ rfl rfl rfl rfl rfl (by kernel_rfl) Tryz.func7 (by kernel_rfl)
    (of_decide_eq_true (by kernel_rfl)) (by unfold Func.isWrapper; first | (rw [if_pos (by decide +kernel)]; kernel_rfl) | (rw [if_neg (by decide +kernel)]; exact ⟨rfl, rfl⟩))
    (fun os started H enc _ => lifted os started H enc)
end Go.Proofs.YtjflklgoimdopaaGreatDoor.fnTextPlain
namespace Go.Proofs.YtjflklgoimdopaaGreatDoor
theorem fnTextPlain_card : Rows.FnTextPlainCardSaid :=
  Claim7.holds_tied_plain_at .later [] Rows.fnTextPlainCard.laidKinds true Rows.fnTextPlainCard.stood.harness true
    fnTextPlain.over (fun _ h => by cases h) (by kernel_rfl) (fun _ h => by cases h) fnTextPlain_row_tie rfl ⟨rfl, rfl⟩ (by kernel_rfl) rfl
    (fun f fn hf hfn => by
      obtain rfl : f = 7 := Option.some.inj ((show Tryz.prog.funcNamed Rows.fnTextPlainRow.func = some 7 by kernel_rfl).symm.trans hf) |>.symm
      obtain rfl : fn = Tryz.f7 := (Option.some.inj (Tryz.func7.symm.trans hfn)).symm
      exact ⟨by kernel_rfl, fun j t ht => by
        rw [Tryz.params7] at ht
        have hm : t ∈ [47] := by simpa using Array.mem_of_getElem? ht
        have hall : ([47].all fun u => !Tryz.prog.wantsStandIn u) = true := by kernel_rfl
        exact (show Tryz.prog.wantsStandIn t = false by simpa using List.all_eq_true.1 hall t hm)⟩)
    (by kernel_rfl)
#print axioms fnTextPlain_card
end Go.Proofs.YtjflklgoimdopaaGreatDoor
