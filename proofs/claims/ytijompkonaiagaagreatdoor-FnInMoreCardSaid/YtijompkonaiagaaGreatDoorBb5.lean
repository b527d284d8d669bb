/- Plain laws of the printed functions: draws are within bounds, and end. The reference's l3Out once more: where there was no room the row handed back is the row handed in. The reference's l3Out plainly; its l3PieceOut: a contract of mine in the print's own form. Plain laws of the printed functions: the reference's text out; what the laws of texts draw. Texts as names and single bytes, plainly: what is written anew is read back as it was written. Texts as names and single bytes: how they go in and out over a map, plainly. What is held of a text, and texts over maps: the laws of texts, plainly. A law over variables of Go's library that are laid by the program's text: the wrap that keeps the world's shape beside them; what the walks want of them. How a row's argument, read as data, is a value of one of our kinds. How a row's code, a slice of bytes, is a list of small numbers. -/
import Derived.Test.YtijompkonaiagaaGreatDoorRows
import Derived.Test.YtijompkonaiagaaGreatDoorBb4
import Derived.Handed
import Derived.LaidMore
import Derived.Lay
import Derived.LaidOnce
import Derived.Shelf.Vars
import Derived.Stop.Joined
import Derived.ProofKit
import Derived.Deep.Slices
import Derived.ChangeArms
namespace Go.Proofs.YtijompkonaiagaaGreatDoor.Q
open Go.RowKit Go.Proofs.YtijompkonaiagaaGreatDoorW.PrintWords Go.Proofs.YtijompkonaiagaaGreatDoorW.PrintLast Go.Proofs.YtijompkonaiagaaGreatDoorW.PrintMore
attribute [local go_sem] max2_int min2_int max_two min_two max_three min_three max_four min_four
set_option linter.unusedVariables false
set_option linter.unusedSimpArgs false
noncomputable section
def spec_l71Text.l0 : Nat → Int → ByteArray → Int → List Int → Int → Option (ByteArray × Int)
  | 0, _, _, _, _, _ => none
  | k + 1, x1, x5, x6, x1000, x1001 => if x6 > 0 then ((spec_l6Rd_of.f k x1000 x1001 (([(⟨#[97]⟩ : ByteArray), (⟨#[98, 99]⟩ : ByteArray), (⟨#[64]⟩ : ByteArray), (⟨#[64, 49]⟩ : ByteArray), (⟨#[59]⟩ : ByteArray), (⟨#[58, 53]⟩ : ByteArray), (⟨#[120, 49]⟩ : ByteArray), (⟨#[64, 64]⟩ : ByteArray), (⟨#[64, 49, 58]⟩ : ByteArray), (⟨#[55]⟩ : ByteArray)] : List ByteArray))).bind fun bt106 => ((spec_l6Rd_pick.f k x1000 bt106.2 5).bind fun bt108 => (if bt108.1 < 3 then ((spec_l71End.f k x1000 bt108.2).bind fun bt110 => ((spec_EndText.f bt110.1 bt110.2.1).bind fun t113 => (if 1 + t113.size ≤ 9223372036854775807 then (if ((⟨#[64]⟩ : ByteArray) ++ t113).size + 1 ≤ 9223372036854775807 then (if (wrap64 ((x5.size : Int) + ((((⟨#[64]⟩ : ByteArray) ++ t113) ++ (⟨#[59]⟩ : ByteArray)).size : Int))) ≤ x1 then (if x5.size + (((⟨#[64]⟩ : ByteArray) ++ t113) ++ (⟨#[59]⟩ : ByteArray)).size ≤ 9223372036854775807 then (spec_l71Text.l0 k x1 (x5 ++ (((⟨#[64]⟩ : ByteArray) ++ t113) ++ (⟨#[59]⟩ : ByteArray))) (wrap64 (x6 - 1)) x1000 bt110.2.2) else (none)) else (spec_l71Text.l0 k x1 x5 (wrap64 (x6 - 1)) x1000 bt110.2.2)) else (none)) else (none)))) else (if (wrap64 ((x5.size : Int) + (bt106.1.size : Int))) ≤ x1 then (if x5.size + bt106.1.size ≤ 9223372036854775807 then (spec_l71Text.l0 k x1 (x5 ++ bt106.1) (wrap64 (x6 - 1)) x1000 bt108.2) else (none)) else (spec_l71Text.l0 k x1 x5 (wrap64 (x6 - 1)) x1000 bt108.2))))) else (some (x5, x1001))
def spec_l71Text.f (k : Nat) (s0_0 : List Int) (s0_1 : Int) (a1 : Int) : Option (ByteArray × Int) := (spec_l6Rd_pick.f k s0_0 s0_1 7).bind fun bt101 => (spec_l71Text.l0 k a1 (⟨#[]⟩ : ByteArray) bt101.1 s0_0 bt101.2)
theorem spec_l71Text.mono_l : ∀ k, (∀ y0 y1 y2 y3 y4, LeO (spec_l71Text.l0 k y0 y1 y2 y3 y4) (spec_l71Text.l0 (k + 1) y0 y1 y2 y3 y4))
  | 0 => fun _ _ _ _ _ r h => by simp [spec_l71Text.l0] at h
  | k + 1 => by
    have ih0 := spec_l71Text.mono_l k
    · intro y0 y1 y2 y3 y4
      unfold spec_l71Text.l0
      repeat' first
      | (with_reducible exact ih0 _ _ _ _ _)
      | (with_reducible exact spec_l6Rd_of.mono _ _ _ _)
      | (with_reducible exact spec_l6Rd_pick.mono _ _ _ _)
      | (with_reducible exact spec_l71End.mono _ _ _)
      | (with_reducible exact LeO.refl _)
      | (with_reducible exact LeO.none _)
      | (with_reducible refine LeO.ite ?_ ?_)
      | (with_reducible refine LeO.bind ?_ (fun _ => ?_))
      | exact ih0 _ _ _ _ _
      | exact spec_l6Rd_of.mono _ _ _ _
      | exact spec_l6Rd_pick.mono _ _ _ _
      | exact spec_l71End.mono _ _ _
      | exact LeO.none _
      | refine LeO.ite ?_ ?_
      | refine LeO.bind ?_ (fun _ => ?_)
theorem spec_l71Text.mono : ∀ a0 a1 a2 k, LeO (spec_l71Text.f k a0 a1 a2) (spec_l71Text.f (k + 1) a0 a1 a2) := by
  intro a0 a1 a2 k
  have ih0 := spec_l71Text.mono_l k
  unfold spec_l71Text.f
  repeat' first
      | (with_reducible exact ih0 _ _ _ _ _)
      | (with_reducible exact spec_l6Rd_of.mono _ _ _ _)
      | (with_reducible exact spec_l6Rd_pick.mono _ _ _ _)
      | (with_reducible exact spec_l71End.mono _ _ _)
      | (with_reducible exact LeO.refl _)
      | (with_reducible exact LeO.none _)
      | (with_reducible refine LeO.ite ?_ ?_)
      | (with_reducible refine LeO.bind ?_ (fun _ => ?_))
      | exact ih0 _ _ _ _ _
      | exact spec_l6Rd_of.mono _ _ _ _
      | exact spec_l6Rd_pick.mono _ _ _ _
      | exact spec_l71End.mono _ _ _
      | exact LeO.none _
      | refine LeO.ite ?_ ?_
      | refine LeO.bind ?_ (fun _ => ?_)
set_option maxHeartbeats 8000000 in
set_option maxRecDepth 100000 in
theorem spec_l71Text.calls (k : Nat) (g : Nat) (s0_0 : List Int) (s0_1 : Int) (a1 : Int) (r1 : ByteArray) (r2 : Int) (w0 w : World) (hI : IsS91 w0 w g s0_0 s0_1) (hB : Below w0.heap.size w0 w) (h : spec_l71Text.f k s0_0 s0_1 a1 = some (r1, r2)) :
    Calls Tryz.prog 73 #[.pointer (some ⟨g, 0, none⟩), .int .i64 a1] w fun e w' => e = .returned (.string r1) ∧ IsS91 w0 w' g s0_0 r2 ∧ Below w0.heap.size w0 w' ∧ KeepBut w w' g none := by
  have HI0 := Aside0.mk hI
  have HK := Aside0.mk (KeepBut.refl w g none)
  have HL := Aside0.mk hB.size
  clear hI
  have HW0 := Aside0.mk hB.size
  have HB := Aside0.mk hB
  clear hB
  have H : ((spec_l6Rd_pick.f k s0_0 s0_1 7).bind fun bt101 => (spec_l71Text.l0 k a1 (⟨#[]⟩ : ByteArray) bt101.1 s0_0 bt101.2)) = some (r1, r2) := h
  clear h
  replace H := Option.bind_eq_some_iff.mp H
  obtain ⟨⟨t101, t102⟩, A30, H⟩ := H
  replace H : (spec_l71Text.l0 k a1 (⟨#[]⟩ : ByteArray) t101 s0_0 t102) = some (r1, r2) := H
  have A3 := Aside0.mk A30
  clear A30
  have H' := Aside0.mk H
  clear H
  go_enter Tryz.func73, Tryz.ntmps73
  go_wp2_with (first | ((with_reducible refine gate_callee (f := 43) rfl ?_); refine goesL_ (some 9) rfl rfl Tryz.func43 (by kernel_rfl) rfl #[.pointer (some ⟨g, 0, none⟩), .int .i64 7] rfl (by (try simp only [List.map_toArray, List.map_cons, List.map_nil]); first | done | rfl | (simp only [List.length_drop, List.length_take]; rfl)) ?_; (with_reducible refine (spec_l6Rd_pick.calls k g s0_0 s0_1 7 t101 t102 w0 _ ?side1 ?side2 A3.out).mono ?_); (case side1 => repeat (first | (with_reducible first | exact HI0.out | apply IsS91.alloc | apply IsS91.drewN | apply IsS91.drew | apply IsS91.set_1) | exact HI0.out)); (case side2 => repeat (first | (with_reducible first | exact HB.out | apply below_alloc | apply pw_below_drewN | apply below_drew1 | refine below_set ?_ (IsS91.ge HI0.out)) | exact HB.out)); rintro e w4 ⟨rfl, hi, hb, hk⟩; refine ⟨_, rfl, ?_⟩; have n0_ := Aside0.mk (KeepBut.trans (by repeat (first | (with_reducible first | exact HK.out | apply KeepBut.set_ | apply keep_drewN | apply keep_drew | apply keep_alloc) | exact HK.out)) hk (.inl rfl)); have n1_ := Aside0.mk (hb); have n2_ := Aside0.mk (hi); clear HK; clear HB; clear HI0; have HK := n0_; have HB := n1_; have HI0 := n2_; clear n0_ n1_ n2_; (try clear hb); (try clear hb2); (try clear hk); (try clear hi)))
  go_loopg [5, 6] k (fun kq v5 v6 w' => ∃ (x5_1 : ByteArray) (x6_1 : Int) (x1001_1 : Int), v5 = .string x5_1 ∧ v6 = .int .i64 x6_1 ∧ Aside0 (spec_l71Text.l0 kq a1 x5_1 x6_1 s0_0 x1001_1 = some (r1, r2)) ∧ Aside0 (kq ≤ k) ∧ Aside0 (IsS91 w0 w' g s0_0 x1001_1) ∧ Aside0 (KeepBut w w' g none) ∧ Aside0 (Below w0.heap.size w0 w'))
  case atStart => exact ⟨((⟨#[]⟩ : ByteArray)), (t101), (t102), (by first | rfl | (simp; done) | (simp [*]; done)), (by first | rfl | (simp; done) | (simp [*]; done)), H', ⟨Nat.le_refl _⟩, ⟨by repeat (first | (with_reducible first | exact HI0.out | apply IsS91.alloc | apply IsS91.drewN | apply IsS91.drew | apply IsS91.set_1) | exact HI0.out)⟩, ⟨by repeat (first | (with_reducible first | exact HK.out | apply KeepBut.set_ | apply keep_drewN | apply keep_drew | apply keep_alloc) | exact HK.out)⟩, ⟨by repeat (first | (with_reducible first | exact HB.out | apply below_alloc | apply pw_below_drewN | apply below_drew1 | refine below_set ?_ (IsS91.ge HI0.out)) | exact HB.out)⟩⟩
  case round =>
    clear H'
    try clear p2
    try clear c4
    obtain ⟨x5_1, x6_1, x1001_1, rfl, rfl, HA, HK1, HI0, HK, HB⟩ := hrel
    cases gk with
    | zero => exact absurd HA.out (by simp [spec_l71Text.l0])
    | succ k1 =>
      have H := HA.out
      clear HA
      simp only [spec_l71Text.l0] at H
      by_cases c5 : x6_1 > 0
      · rw [if_pos c5] at H
        have c5b0 : decide (0 < x6_1) = true := decide_eq_true c5
        clear c5
        obtain ⟨y103, hy103⟩ : ∃ y_ : List ByteArray, y_ = (([(⟨#[97]⟩ : ByteArray), (⟨#[98, 99]⟩ : ByteArray), (⟨#[64]⟩ : ByteArray), (⟨#[64, 49]⟩ : ByteArray), (⟨#[59]⟩ : ByteArray), (⟨#[58, 53]⟩ : ByteArray), (⟨#[120, 49]⟩ : ByteArray), (⟨#[64, 64]⟩ : ByteArray), (⟨#[64, 49, 58]⟩ : ByteArray), (⟨#[55]⟩ : ByteArray)] : List ByteArray)) := ⟨_, rfl⟩
        replace H : ((spec_l6Rd_of.f k1 s0_0 x1001_1 y103).bind fun bt106 => ((spec_l6Rd_pick.f k1 s0_0 bt106.2 5).bind fun bt108 => (if bt108.1 < 3 then ((spec_l71End.f k1 s0_0 bt108.2).bind fun bt110 => ((spec_EndText.f bt110.1 bt110.2.1).bind fun t113 => (if 1 + t113.size ≤ 9223372036854775807 then (if ((⟨#[64]⟩ : ByteArray) ++ t113).size + 1 ≤ 9223372036854775807 then (if (wrap64 ((x5_1.size : Int) + ((((⟨#[64]⟩ : ByteArray) ++ t113) ++ (⟨#[59]⟩ : ByteArray)).size : Int))) ≤ a1 then (if x5_1.size + (((⟨#[64]⟩ : ByteArray) ++ t113) ++ (⟨#[59]⟩ : ByteArray)).size ≤ 9223372036854775807 then (spec_l71Text.l0 k1 a1 (x5_1 ++ (((⟨#[64]⟩ : ByteArray) ++ t113) ++ (⟨#[59]⟩ : ByteArray))) (wrap64 (x6_1 - 1)) s0_0 bt110.2.2) else (none)) else (spec_l71Text.l0 k1 a1 x5_1 (wrap64 (x6_1 - 1)) s0_0 bt110.2.2)) else (none)) else (none)))) else (if (wrap64 ((x5_1.size : Int) + (bt106.1.size : Int))) ≤ a1 then (if x5_1.size + bt106.1.size ≤ 9223372036854775807 then (spec_l71Text.l0 k1 a1 (x5_1 ++ bt106.1) (wrap64 (x6_1 - 1)) s0_0 bt108.2) else (none)) else (spec_l71Text.l0 k1 a1 x5_1 (wrap64 (x6_1 - 1)) s0_0 bt108.2))))) = some (r1, r2) := by first | (rw [hy103]; with_reducible exact H) | (have H2_ := (Option.bind_some _ _).symm.trans H; rw [hy103]; with_reducible exact H2_) | (have H2_ := (Option.bind_some _ _).symm.trans H; with_reducible exact H2_) | with_reducible exact H | (rw [hy103]; exact H) | exact H
        have Ny103 := Aside0.mk hy103
        clear hy103
        replace H := Option.bind_eq_some_iff.mp H
        obtain ⟨⟨t106, t107⟩, A60, H⟩ := H
        replace H : ((spec_l6Rd_pick.f k1 s0_0 t107 5).bind fun bt108 => (if bt108.1 < 3 then ((spec_l71End.f k1 s0_0 bt108.2).bind fun bt110 => ((spec_EndText.f bt110.1 bt110.2.1).bind fun t113 => (if 1 + t113.size ≤ 9223372036854775807 then (if ((⟨#[64]⟩ : ByteArray) ++ t113).size + 1 ≤ 9223372036854775807 then (if (wrap64 ((x5_1.size : Int) + ((((⟨#[64]⟩ : ByteArray) ++ t113) ++ (⟨#[59]⟩ : ByteArray)).size : Int))) ≤ a1 then (if x5_1.size + (((⟨#[64]⟩ : ByteArray) ++ t113) ++ (⟨#[59]⟩ : ByteArray)).size ≤ 9223372036854775807 then (spec_l71Text.l0 k1 a1 (x5_1 ++ (((⟨#[64]⟩ : ByteArray) ++ t113) ++ (⟨#[59]⟩ : ByteArray))) (wrap64 (x6_1 - 1)) s0_0 bt110.2.2) else (none)) else (spec_l71Text.l0 k1 a1 x5_1 (wrap64 (x6_1 - 1)) s0_0 bt110.2.2)) else (none)) else (none)))) else (if (wrap64 ((x5_1.size : Int) + (t106.size : Int))) ≤ a1 then (if x5_1.size + t106.size ≤ 9223372036854775807 then (spec_l71Text.l0 k1 a1 (x5_1 ++ t106) (wrap64 (x6_1 - 1)) s0_0 bt108.2) else (none)) else (spec_l71Text.l0 k1 a1 x5_1 (wrap64 (x6_1 - 1)) s0_0 bt108.2)))) = some (r1, r2) := H
        have A6 := Aside0.mk A60
        clear A60
        replace H := Option.bind_eq_some_iff.mp H
        obtain ⟨⟨t108, t109⟩, A70, H⟩ := H
        replace H : (if t108 < 3 then ((spec_l71End.f k1 s0_0 t109).bind fun bt110 => ((spec_EndText.f bt110.1 bt110.2.1).bind fun t113 => (if 1 + t113.size ≤ 9223372036854775807 then (if ((⟨#[64]⟩ : ByteArray) ++ t113).size + 1 ≤ 9223372036854775807 then (if (wrap64 ((x5_1.size : Int) + ((((⟨#[64]⟩ : ByteArray) ++ t113) ++ (⟨#[59]⟩ : ByteArray)).size : Int))) ≤ a1 then (if x5_1.size + (((⟨#[64]⟩ : ByteArray) ++ t113) ++ (⟨#[59]⟩ : ByteArray)).size ≤ 9223372036854775807 then (spec_l71Text.l0 k1 a1 (x5_1 ++ (((⟨#[64]⟩ : ByteArray) ++ t113) ++ (⟨#[59]⟩ : ByteArray))) (wrap64 (x6_1 - 1)) s0_0 bt110.2.2) else (none)) else (spec_l71Text.l0 k1 a1 x5_1 (wrap64 (x6_1 - 1)) s0_0 bt110.2.2)) else (none)) else (none)))) else (if (wrap64 ((x5_1.size : Int) + (t106.size : Int))) ≤ a1 then (if x5_1.size + t106.size ≤ 9223372036854775807 then (spec_l71Text.l0 k1 a1 (x5_1 ++ t106) (wrap64 (x6_1 - 1)) s0_0 t109) else (none)) else (spec_l71Text.l0 k1 a1 x5_1 (wrap64 (x6_1 - 1)) s0_0 t109))) = some (r1, r2) := H
        have A7 := Aside0.mk A70
        clear A70
        by_cases c8 : t108 < 3
        · rw [if_pos c8] at H
          have c8b0 : decide (t108 < 3) = true := decide_eq_true c8
          clear c8
          replace H := Option.bind_eq_some_iff.mp H
          obtain ⟨⟨t110, t111, t112⟩, A90, H⟩ := H
          replace H : ((spec_EndText.f t110 t111).bind fun t113 => (if 1 + t113.size ≤ 9223372036854775807 then (if ((⟨#[64]⟩ : ByteArray) ++ t113).size + 1 ≤ 9223372036854775807 then (if (wrap64 ((x5_1.size : Int) + ((((⟨#[64]⟩ : ByteArray) ++ t113) ++ (⟨#[59]⟩ : ByteArray)).size : Int))) ≤ a1 then (if x5_1.size + (((⟨#[64]⟩ : ByteArray) ++ t113) ++ (⟨#[59]⟩ : ByteArray)).size ≤ 9223372036854775807 then (spec_l71Text.l0 k1 a1 (x5_1 ++ (((⟨#[64]⟩ : ByteArray) ++ t113) ++ (⟨#[59]⟩ : ByteArray))) (wrap64 (x6_1 - 1)) s0_0 t112) else (none)) else (spec_l71Text.l0 k1 a1 x5_1 (wrap64 (x6_1 - 1)) s0_0 t112)) else (none)) else (none))) = some (r1, r2) := H
          have A9 := Aside0.mk A90
          clear A90
          replace H := Option.bind_eq_some_iff.mp H
          obtain ⟨t113, A100, H⟩ := H
          replace H : (if 1 + t113.size ≤ 9223372036854775807 then (if ((⟨#[64]⟩ : ByteArray) ++ t113).size + 1 ≤ 9223372036854775807 then (if (wrap64 ((x5_1.size : Int) + ((((⟨#[64]⟩ : ByteArray) ++ t113) ++ (⟨#[59]⟩ : ByteArray)).size : Int))) ≤ a1 then (if x5_1.size + (((⟨#[64]⟩ : ByteArray) ++ t113) ++ (⟨#[59]⟩ : ByteArray)).size ≤ 9223372036854775807 then (spec_l71Text.l0 k1 a1 (x5_1 ++ (((⟨#[64]⟩ : ByteArray) ++ t113) ++ (⟨#[59]⟩ : ByteArray))) (wrap64 (x6_1 - 1)) s0_0 t112) else (none)) else (spec_l71Text.l0 k1 a1 x5_1 (wrap64 (x6_1 - 1)) s0_0 t112)) else (none)) else (none)) = some (r1, r2) := H
          have A10 := Aside0.mk A100
          clear A100
          by_cases c11 : 1 + t113.size ≤ 9223372036854775807
          · rw [if_pos c11] at H
            have c11b0 := eq_true c11
            have c11b1 : decide (1 + t113.size ≤ 9223372036854775807) = true := decide_eq_true c11
            try have c11b2 : (9223372036854775807 < 1 + t113.size) = False := eq_false (Nat.not_lt.2 c11)
            by_cases c12 : ((⟨#[64]⟩ : ByteArray) ++ t113).size + 1 ≤ 9223372036854775807
            · rw [if_pos c12] at H
              have c12b0 := eq_true c12
              have c12b1 : decide (((⟨#[64]⟩ : ByteArray) ++ t113).size + 1 ≤ 9223372036854775807) = true := decide_eq_true c12
              try (have c12z := c12; simp only [ByteArray.size_append, ByteArray.size_extract, Nat.min_self, Int.natCast_add] at c12z; have c12b3 := eq_true c12z; clear c12z)
              try have c12b2 : (9223372036854775807 < ((⟨#[64]⟩ : ByteArray) ++ t113).size + 1) = False := eq_false (Nat.not_lt.2 c12)
              try have c12b3 : (9223372036854775807 < 1 + t113.size + 1) = False := eq_false (Nat.not_lt.2 (by have h_ := c12; simp only [ByteArray.size_append] at h_; exact h_))
              by_cases c13 : (wrap64 ((x5_1.size : Int) + ((((⟨#[64]⟩ : ByteArray) ++ t113) ++ (⟨#[59]⟩ : ByteArray)).size : Int))) ≤ a1
              · rw [if_pos c13] at H
                have c13b0 : decide ((wrap64 ((x5_1.size : Int) + ((((⟨#[64]⟩ : ByteArray) ++ t113) ++ (⟨#[59]⟩ : ByteArray)).size : Int))) ≤ a1) = true := decide_eq_true c13
                try have c13b0z : decide ((wrap64 ((x5_1.size : Int) + (1 + (t113.size : Int) + 1))) ≤ a1) = true := by rw [show (1 + (t113.size : Int) + 1) = ((((⟨#[64]⟩ : ByteArray) ++ t113) ++ (⟨#[59]⟩ : ByteArray)).size : Int) from by simp only [ByteArray.size_append, Int.natCast_add]; rfl]; exact c13b0
                clear c13
                by_cases c14 : x5_1.size + (((⟨#[64]⟩ : ByteArray) ++ t113) ++ (⟨#[59]⟩ : ByteArray)).size ≤ 9223372036854775807
                · rw [if_pos c14] at H
                  have c14b0 := eq_true c14
                  have c14b1 : decide (x5_1.size + (((⟨#[64]⟩ : ByteArray) ++ t113) ++ (⟨#[59]⟩ : ByteArray)).size ≤ 9223372036854775807) = true := decide_eq_true c14
                  try (have c14z := c14; simp only [ByteArray.size_append, ByteArray.size_extract, Nat.min_self, Int.natCast_add] at c14z; have c14b3 := eq_true c14z; clear c14z)
                  try have c14b2 : (9223372036854775807 < x5_1.size + (((⟨#[64]⟩ : ByteArray) ++ t113) ++ (⟨#[59]⟩ : ByteArray)).size) = False := eq_false (Nat.not_lt.2 c14)
                  try have c14b3 : (9223372036854775807 < x5_1.size + (1 + t113.size + 1)) = False := eq_false (Nat.not_lt.2 (by have h_ := c14; simp only [ByteArray.size_append] at h_; exact h_))
                  have H' := Aside0.mk H
                  clear H
                  go_wp2_with (first | ((with_reducible refine gate_dst (N := 15) rfl ?_); refine Kd.R_lit Kd.string _ 9 ?hg (N := 15) ?hd (xs := ([(⟨#[97]⟩ : ByteArray), (⟨#[98, 99]⟩ : ByteArray), (⟨#[64]⟩ : ByteArray), (⟨#[64, 49]⟩ : ByteArray), (⟨#[59]⟩ : ByteArray), (⟨#[58, 53]⟩ : ByteArray), (⟨#[120, 49]⟩ : ByteArray), (⟨#[64, 64]⟩ : ByteArray), (⟨#[64, 49, 58]⟩ : ByteArray), (⟨#[55]⟩ : ByteArray)] : List ByteArray)) (inner := [.string (⟨#[97]⟩ : ByteArray), .string (⟨#[98, 99]⟩ : ByteArray), .string (⟨#[64]⟩ : ByteArray), .string (⟨#[64, 49]⟩ : ByteArray), .string (⟨#[59]⟩ : ByteArray), .string (⟨#[58, 53]⟩ : ByteArray), .string (⟨#[120, 49]⟩ : ByteArray), .string (⟨#[64, 64]⟩ : ByteArray), .string (⟨#[64, 49, 58]⟩ : ByteArray), .string (⟨#[55]⟩ : ByteArray)]) (ok := fun _ => True) (okp := fun _ => True) ?hr ?hp (fun _ hk => hk) trivial (Below.refl _ _) (Nat.le_refl _) (by simp) ?_; (case hd => rfl); (case hg => rfl); (case hr => first | (go_simp; done) | (go_simp; rfl)); (case hp => exact (Reps.one (show Kd.M Kd.string _ _ _ (⟨#[97]⟩ : ByteArray) [.string (⟨#[97]⟩ : ByteArray)] from rfl) (Reps.one (show Kd.M Kd.string _ _ _ (⟨#[98, 99]⟩ : ByteArray) [.string (⟨#[98, 99]⟩ : ByteArray)] from rfl) (Reps.one (show Kd.M Kd.string _ _ _ (⟨#[64]⟩ : ByteArray) [.string (⟨#[64]⟩ : ByteArray)] from rfl) (Reps.one (show Kd.M Kd.string _ _ _ (⟨#[64, 49]⟩ : ByteArray) [.string (⟨#[64, 49]⟩ : ByteArray)] from rfl) (Reps.one (show Kd.M Kd.string _ _ _ (⟨#[59]⟩ : ByteArray) [.string (⟨#[59]⟩ : ByteArray)] from rfl) (Reps.one (show Kd.M Kd.string _ _ _ (⟨#[58, 53]⟩ : ByteArray) [.string (⟨#[58, 53]⟩ : ByteArray)] from rfl) (Reps.one (show Kd.M Kd.string _ _ _ (⟨#[120, 49]⟩ : ByteArray) [.string (⟨#[120, 49]⟩ : ByteArray)] from rfl) (Reps.one (show Kd.M Kd.string _ _ _ (⟨#[64, 64]⟩ : ByteArray) [.string (⟨#[64, 64]⟩ : ByteArray)] from rfl) (Reps.one (show Kd.M Kd.string _ _ _ (⟨#[64, 49, 58]⟩ : ByteArray) [.string (⟨#[64, 49, 58]⟩ : ByteArray)] from rfl) (Reps.one (show Kd.M Kd.string _ _ _ (⟨#[55]⟩ : ByteArray) [.string (⟨#[55]⟩ : ByteArray)] from rfl) (Reps.none _ _)))))))))))); intro v104 w15 ho16 hb hg_ hnew_; clear hg_ hnew_; (first | rw [← Ny103.out] at ho16 | (simp only [Int.reduceToNat] at ho16; rw [← Ny103.out] at ho16)); have n0_ := Aside0.mk (Kd.R_lower ho16 (keep_size (w := w) (g := g) (row := none) (by repeat (first | (with_reducible first | exact HK.out | apply KeepBut.set_ | apply keep_drewN | apply keep_drew | apply keep_alloc) | exact HK.out)))); have n1_ := Aside0.mk (IsS91.below (by repeat (first | (with_reducible first | exact HI0.out | apply IsS91.alloc | apply IsS91.drewN | apply IsS91.drew | apply IsS91.set_1) | exact HI0.out)) hb); have n2_ := Aside0.mk (KeepBut.trans (by repeat (first | (with_reducible first | exact HK.out | apply KeepBut.set_ | apply keep_drewN | apply keep_drew | apply keep_alloc) | exact HK.out)) (KeepBut.of_below hb g none) (.inl rfl)); have n3_ := Aside0.mk (below_step (by repeat (first | (with_reducible first | exact HB.out | apply below_alloc | apply pw_below_drewN | apply below_drew1 | refine below_set ?_ (IsS91.ge HI0.out)) | exact HB.out)) hb); clear HI0; clear HK; clear HB; have HO105 := n0_; have HI0 := n1_; have HK := n2_; have HB := n3_; clear n0_ n1_ n2_ n3_; clear hb ho16; obtain ⟨Ao17, co17, eo17⟩ := Kd.R_slice HO105.out; subst eo17) | ((with_reducible refine gate_callee (f := 98) rfl ?_); refine goesL_ (some 16) rfl rfl Tryz.func98 (by kernel_rfl) rfl #[.pointer (some ⟨g, 0, none⟩), .slice Ao17 y103.length co17] rfl (by (try simp only [List.map_toArray, List.map_cons, List.map_nil]); first | done | rfl | (simp only [List.length_drop, List.length_take]; rfl)) ?_; (with_reducible refine (spec_l6Rd_of.calls k1 g s0_0 x1001_1 _ _ y103 t106 t107 w0 _ ?side1 ?side2 ?side3 ?side4 ?side5 A6.out).mono ?_); (case side1 => repeat (first | (with_reducible first | exact HI0.out | apply IsS91.alloc | apply IsS91.drewN | apply IsS91.drew | apply IsS91.set_1) | exact HI0.out)); (case side2 => repeat (first | (with_reducible first | exact HB.out | apply below_alloc | apply pw_below_drewN | apply below_drew1 | refine below_set ?_ (IsS91.ge HI0.out)) | exact HB.out)); (case side3 => repeat (first | exact (Kd.R_reads' HO105.out).2.2 | (with_reducible refine Kd.C_alloc ?_ _) | (with_reducible refine Kd.C_drewN ?_ _) | (with_reducible refine Kd.C_drew ?_))); (case side4 => exact (Kd.R_reads' HO105.out).2.1); (case side5 => exact far_slice (IsS91.own_ne HI0.out HO105.out (by decide))); rintro e w18 ⟨rfl, hi, hb, hk⟩; refine ⟨_, rfl, ?_⟩; have n0_ := Aside0.mk (Kd.R_mono (Kd.R_keep (IsS91.apart (show IsS91 w0 _ g s0_0 x1001_1 from by repeat (first | (with_reducible first | exact HI0.out | apply IsS91.alloc | apply IsS91.drewN | apply IsS91.drew | apply IsS91.set_1) | exact HI0.out)) (by (with_reducible repeat (first | apply Kd.R_alloc | apply Kd.R_drewN | apply Kd.R_drew)); exact HO105.out) (by decide)) hk (fun _ h => h.2)) (fun _ h => h.1)); have n1_ := Aside0.mk (KeepBut.trans (by repeat (first | (with_reducible first | exact HK.out | apply KeepBut.set_ | apply keep_drewN | apply keep_drew | apply keep_alloc) | exact HK.out)) hk (.inl rfl)); have n2_ := Aside0.mk (hb); have n3_ := Aside0.mk (hi); clear HO105; clear HK; clear HB; clear HI0; have HO105 := n0_; have HK := n1_; have HB := n2_; have HI0 := n3_; clear n0_ n1_ n2_ n3_; (try clear hb); (try clear hb2); (try clear hk); (try clear hi)) | ((with_reducible refine gate_callee (f := 43) rfl ?_); refine goesL_ (some 18) rfl rfl Tryz.func43 (by kernel_rfl) rfl #[.pointer (some ⟨g, 0, none⟩), .int .i64 5] rfl (by (try simp only [List.map_toArray, List.map_cons, List.map_nil]); first | done | rfl | (simp only [List.length_drop, List.length_take]; rfl)) ?_; (with_reducible refine (spec_l6Rd_pick.calls k1 g s0_0 t107 5 t108 t109 w0 _ ?side1 ?side2 A7.out).mono ?_); (case side1 => repeat (first | (with_reducible first | exact HI0.out | apply IsS91.alloc | apply IsS91.drewN | apply IsS91.drew | apply IsS91.set_1) | exact HI0.out)); (case side2 => repeat (first | (with_reducible first | exact HB.out | apply below_alloc | apply pw_below_drewN | apply below_drew1 | refine below_set ?_ (IsS91.ge HI0.out)) | exact HB.out)); rintro e w19 ⟨rfl, hi, hb, hk⟩; refine ⟨_, rfl, ?_⟩; have n0_ := Aside0.mk (Kd.R_mono (Kd.R_keep (IsS91.apart (show IsS91 w0 _ g s0_0 t107 from by repeat (first | (with_reducible first | exact HI0.out | apply IsS91.alloc | apply IsS91.drewN | apply IsS91.drew | apply IsS91.set_1) | exact HI0.out)) (by (with_reducible repeat (first | apply Kd.R_alloc | apply Kd.R_drewN | apply Kd.R_drew)); exact HO105.out) (by decide)) hk (fun _ h => h.2)) (fun _ h => h.1)); have n1_ := Aside0.mk (KeepBut.trans (by repeat (first | (with_reducible first | exact HK.out | apply KeepBut.set_ | apply keep_drewN | apply keep_drew | apply keep_alloc) | exact HK.out)) hk (.inl rfl)); have n2_ := Aside0.mk (hb); have n3_ := Aside0.mk (hi); clear HO105; clear HK; clear HB; clear HI0; have HO105 := n0_; have HK := n1_; have HB := n2_; have HI0 := n3_; clear n0_ n1_ n2_ n3_; (try clear hb); (try clear hb2); (try clear hk); (try clear hi)) | ((with_reducible refine gate_callee (f := 44) rfl ?_); refine goesL_ (some 21) rfl rfl Tryz.func44 (by kernel_rfl) rfl #[.pointer (some ⟨g, 0, none⟩)] rfl (by (try simp only [List.map_toArray, List.map_cons, List.map_nil]); first | done | rfl | (simp only [List.length_drop, List.length_take]; rfl)) ?_; (with_reducible refine (spec_l71End.calls k1 g s0_0 t109 t110 t111 t112 w0 _ ?side1 ?side2 A9.out).mono ?_); (case side1 => repeat (first | (with_reducible first | exact HI0.out | apply IsS91.alloc | apply IsS91.drewN | apply IsS91.drew | apply IsS91.set_1) | exact HI0.out)); (case side2 => repeat (first | (with_reducible first | exact HB.out | apply below_alloc | apply pw_below_drewN | apply below_drew1 | refine below_set ?_ (IsS91.ge HI0.out)) | exact HB.out)); rintro e w20 ⟨rfl, hi, hb, hk⟩; refine ⟨_, rfl, ?_⟩; have n0_ := Aside0.mk (Kd.R_mono (Kd.R_keep (IsS91.apart (show IsS91 w0 _ g s0_0 t109 from by repeat (first | (with_reducible first | exact HI0.out | apply IsS91.alloc | apply IsS91.drewN | apply IsS91.drew | apply IsS91.set_1) | exact HI0.out)) (by (with_reducible repeat (first | apply Kd.R_alloc | apply Kd.R_drewN | apply Kd.R_drew)); exact HO105.out) (by decide)) hk (fun _ h => h.2)) (fun _ h => h.1)); have n1_ := Aside0.mk (KeepBut.trans (by repeat (first | (with_reducible first | exact HK.out | apply KeepBut.set_ | apply keep_drewN | apply keep_drew | apply keep_alloc) | exact HK.out)) hk (.inl rfl)); have n2_ := Aside0.mk (hb); have n3_ := Aside0.mk (hi); clear HO105; clear HK; clear HB; clear HI0; have HO105 := n0_; have HK := n1_; have HB := n2_; have HI0 := n3_; clear n0_ n1_ n2_ n3_; (try clear hb); (try clear hb2); (try clear hk); (try clear hi)) | ((with_reducible refine gate_callee (f := 85) rfl ?_); refine goesL_ (some 22) rfl rfl Tryz.func85 (by kernel_rfl) rfl #[.agg #[.int .i64 t110, .int .i64 t111]] rfl (by (try simp only [List.map_toArray, List.map_cons, List.map_nil]); first | done | rfl | (simp only [List.length_drop, List.length_take]; rfl)) ?_; (with_reducible refine (spec_EndText.calls t110 t111 t113 _ A10.out).mono ?_); rintro e w21 ⟨rfl, hb⟩; refine ⟨_, rfl, ?_⟩; have n0_ := Aside0.mk (Kd.R_below (by (with_reducible repeat (first | apply Kd.R_alloc | apply Kd.R_drewN | apply Kd.R_drew)); exact HO105.out) hb); have n1_ := Aside0.mk (IsS91.below (by repeat (first | (with_reducible first | exact HI0.out | apply IsS91.alloc | apply IsS91.drewN | apply IsS91.drew | apply IsS91.set_1) | exact HI0.out)) hb); have n2_ := Aside0.mk (KeepBut.trans (by repeat (first | (with_reducible first | exact HK.out | apply KeepBut.set_ | apply keep_drewN | apply keep_drew | apply keep_alloc) | exact HK.out)) (KeepBut.of_below hb g none) (.inl rfl)); have n3_ := Aside0.mk (below_step (by repeat (first | (with_reducible first | exact HB.out | apply below_alloc | apply pw_below_drewN | apply below_drew1 | refine below_set ?_ (IsS91.ge HI0.out)) | exact HB.out)) hb); clear HO105; clear HI0; clear HK; clear HB; have HO105 := n0_; have HI0 := n1_; have HK := n2_; have HB := n3_; clear n0_ n1_ n2_ n3_; (try clear hb); (try clear hb2); (try clear hk); (try clear hi)))
                  go_roundg k1
                  case measure => have := HK1.out; omega
                  case rel => exact ⟨(x5_1 ++ (((⟨#[64]⟩ : ByteArray) ++ t113) ++ (⟨#[59]⟩ : ByteArray))), (wrap64 (x6_1 - 1)), (t112), (by first | rfl | (simp; done) | (simp [*]; done)), (by first | rfl | (simp; done) | (simp [*]; done)), H', ⟨by have := HK1.out; omega⟩, ⟨by repeat (first | (with_reducible first | exact HI0.out | apply IsS91.alloc | apply IsS91.drewN | apply IsS91.drew | apply IsS91.set_1) | exact HI0.out)⟩, ⟨by repeat (first | (with_reducible first | exact HK.out | apply KeepBut.set_ | apply keep_drewN | apply keep_drew | apply keep_alloc) | exact HK.out)⟩, ⟨by repeat (first | (with_reducible first | exact HB.out | apply below_alloc | apply pw_below_drewN | apply below_drew1 | refine below_set ?_ (IsS91.ge HI0.out)) | exact HB.out)⟩⟩
                · rw [if_neg c14] at H
                  exact absurd H (by simp)
              · rw [if_neg c13] at H
                have c13b0 : decide ((wrap64 ((x5_1.size : Int) + ((((⟨#[64]⟩ : ByteArray) ++ t113) ++ (⟨#[59]⟩ : ByteArray)).size : Int))) ≤ a1) = false := decide_eq_false c13
                try have c13b0z : decide ((wrap64 ((x5_1.size : Int) + (1 + (t113.size : Int) + 1))) ≤ a1) = false := by rw [show (1 + (t113.size : Int) + 1) = ((((⟨#[64]⟩ : ByteArray) ++ t113) ++ (⟨#[59]⟩ : ByteArray)).size : Int) from by simp only [ByteArray.size_append, Int.natCast_add]; rfl]; exact c13b0
                clear c13
                have H' := Aside0.mk H
                clear H
                go_wp2_with (first | ((with_reducible refine gate_dst (N := 15) rfl ?_); refine Kd.R_lit Kd.string _ 9 ?hg (N := 15) ?hd (xs := ([(⟨#[97]⟩ : ByteArray), (⟨#[98, 99]⟩ : ByteArray), (⟨#[64]⟩ : ByteArray), (⟨#[64, 49]⟩ : ByteArray), (⟨#[59]⟩ : ByteArray), (⟨#[58, 53]⟩ : ByteArray), (⟨#[120, 49]⟩ : ByteArray), (⟨#[64, 64]⟩ : ByteArray), (⟨#[64, 49, 58]⟩ : ByteArray), (⟨#[55]⟩ : ByteArray)] : List ByteArray)) (inner := [.string (⟨#[97]⟩ : ByteArray), .string (⟨#[98, 99]⟩ : ByteArray), .string (⟨#[64]⟩ : ByteArray), .string (⟨#[64, 49]⟩ : ByteArray), .string (⟨#[59]⟩ : ByteArray), .string (⟨#[58, 53]⟩ : ByteArray), .string (⟨#[120, 49]⟩ : ByteArray), .string (⟨#[64, 64]⟩ : ByteArray), .string (⟨#[64, 49, 58]⟩ : ByteArray), .string (⟨#[55]⟩ : ByteArray)]) (ok := fun _ => True) (okp := fun _ => True) ?hr ?hp (fun _ hk => hk) trivial (Below.refl _ _) (Nat.le_refl _) (by simp) ?_; (case hd => rfl); (case hg => rfl); (case hr => first | (go_simp; done) | (go_simp; rfl)); (case hp => exact (Reps.one (show Kd.M Kd.string _ _ _ (⟨#[97]⟩ : ByteArray) [.string (⟨#[97]⟩ : ByteArray)] from rfl) (Reps.one (show Kd.M Kd.string _ _ _ (⟨#[98, 99]⟩ : ByteArray) [.string (⟨#[98, 99]⟩ : ByteArray)] from rfl) (Reps.one (show Kd.M Kd.string _ _ _ (⟨#[64]⟩ : ByteArray) [.string (⟨#[64]⟩ : ByteArray)] from rfl) (Reps.one (show Kd.M Kd.string _ _ _ (⟨#[64, 49]⟩ : ByteArray) [.string (⟨#[64, 49]⟩ : ByteArray)] from rfl) (Reps.one (show Kd.M Kd.string _ _ _ (⟨#[59]⟩ : ByteArray) [.string (⟨#[59]⟩ : ByteArray)] from rfl) (Reps.one (show Kd.M Kd.string _ _ _ (⟨#[58, 53]⟩ : ByteArray) [.string (⟨#[58, 53]⟩ : ByteArray)] from rfl) (Reps.one (show Kd.M Kd.string _ _ _ (⟨#[120, 49]⟩ : ByteArray) [.string (⟨#[120, 49]⟩ : ByteArray)] from rfl) (Reps.one (show Kd.M Kd.string _ _ _ (⟨#[64, 64]⟩ : ByteArray) [.string (⟨#[64, 64]⟩ : ByteArray)] from rfl) (Reps.one (show Kd.M Kd.string _ _ _ (⟨#[64, 49, 58]⟩ : ByteArray) [.string (⟨#[64, 49, 58]⟩ : ByteArray)] from rfl) (Reps.one (show Kd.M Kd.string _ _ _ (⟨#[55]⟩ : ByteArray) [.string (⟨#[55]⟩ : ByteArray)] from rfl) (Reps.none _ _)))))))))))); intro v104 w22 ho23 hb hg_ hnew_; clear hg_ hnew_; (first | rw [← Ny103.out] at ho23 | (simp only [Int.reduceToNat] at ho23; rw [← Ny103.out] at ho23)); have n0_ := Aside0.mk (Kd.R_lower ho23 (keep_size (w := w) (g := g) (row := none) (by repeat (first | (with_reducible first | exact HK.out | apply KeepBut.set_ | apply keep_drewN | apply keep_drew | apply keep_alloc) | exact HK.out)))); have n1_ := Aside0.mk (IsS91.below (by repeat (first | (with_reducible first | exact HI0.out | apply IsS91.alloc | apply IsS91.drewN | apply IsS91.drew | apply IsS91.set_1) | exact HI0.out)) hb); have n2_ := Aside0.mk (KeepBut.trans (by repeat (first | (with_reducible first | exact HK.out | apply KeepBut.set_ | apply keep_drewN | apply keep_drew | apply keep_alloc) | exact HK.out)) (KeepBut.of_below hb g none) (.inl rfl)); have n3_ := Aside0.mk (below_step (by repeat (first | (with_reducible first | exact HB.out | apply below_alloc | apply pw_below_drewN | apply below_drew1 | refine below_set ?_ (IsS91.ge HI0.out)) | exact HB.out)) hb); clear HI0; clear HK; clear HB; have HO105 := n0_; have HI0 := n1_; have HK := n2_; have HB := n3_; clear n0_ n1_ n2_ n3_; clear hb ho23; obtain ⟨Ao24, co24, eo24⟩ := Kd.R_slice HO105.out; subst eo24) | ((with_reducible refine gate_callee (f := 98) rfl ?_); refine goesL_ (some 16) rfl rfl Tryz.func98 (by kernel_rfl) rfl #[.pointer (some ⟨g, 0, none⟩), .slice Ao24 y103.length co24] rfl (by (try simp only [List.map_toArray, List.map_cons, List.map_nil]); first | done | rfl | (simp only [List.length_drop, List.length_take]; rfl)) ?_; (with_reducible refine (spec_l6Rd_of.calls k1 g s0_0 x1001_1 _ _ y103 t106 t107 w0 _ ?side1 ?side2 ?side3 ?side4 ?side5 A6.out).mono ?_); (case side1 => repeat (first | (with_reducible first | exact HI0.out | apply IsS91.alloc | apply IsS91.drewN | apply IsS91.drew | apply IsS91.set_1) | exact HI0.out)); (case side2 => repeat (first | (with_reducible first | exact HB.out | apply below_alloc | apply pw_below_drewN | apply below_drew1 | refine below_set ?_ (IsS91.ge HI0.out)) | exact HB.out)); (case side3 => repeat (first | exact (Kd.R_reads' HO105.out).2.2 | (with_reducible refine Kd.C_alloc ?_ _) | (with_reducible refine Kd.C_drewN ?_ _) | (with_reducible refine Kd.C_drew ?_))); (case side4 => exact (Kd.R_reads' HO105.out).2.1); (case side5 => exact far_slice (IsS91.own_ne HI0.out HO105.out (by decide))); rintro e w25 ⟨rfl, hi, hb, hk⟩; refine ⟨_, rfl, ?_⟩; have n0_ := Aside0.mk (Kd.R_mono (Kd.R_keep (IsS91.apart (show IsS91 w0 _ g s0_0 x1001_1 from by repeat (first | (with_reducible first | exact HI0.out | apply IsS91.alloc | apply IsS91.drewN | apply IsS91.drew | apply IsS91.set_1) | exact HI0.out)) (by (with_reducible repeat (first | apply Kd.R_alloc | apply Kd.R_drewN | apply Kd.R_drew)); exact HO105.out) (by decide)) hk (fun _ h => h.2)) (fun _ h => h.1)); have n1_ := Aside0.mk (KeepBut.trans (by repeat (first | (with_reducible first | exact HK.out | apply KeepBut.set_ | apply keep_drewN | apply keep_drew | apply keep_alloc) | exact HK.out)) hk (.inl rfl)); have n2_ := Aside0.mk (hb); have n3_ := Aside0.mk (hi); clear HO105; clear HK; clear HB; clear HI0; have HO105 := n0_; have HK := n1_; have HB := n2_; have HI0 := n3_; clear n0_ n1_ n2_ n3_; (try clear hb); (try clear hb2); (try clear hk); (try clear hi)) | ((with_reducible refine gate_callee (f := 43) rfl ?_); refine goesL_ (some 18) rfl rfl Tryz.func43 (by kernel_rfl) rfl #[.pointer (some ⟨g, 0, none⟩), .int .i64 5] rfl (by (try simp only [List.map_toArray, List.map_cons, List.map_nil]); first | done | rfl | (simp only [List.length_drop, List.length_take]; rfl)) ?_; (with_reducible refine (spec_l6Rd_pick.calls k1 g s0_0 t107 5 t108 t109 w0 _ ?side1 ?side2 A7.out).mono ?_); (case side1 => repeat (first | (with_reducible first | exact HI0.out | apply IsS91.alloc | apply IsS91.drewN | apply IsS91.drew | apply IsS91.set_1) | exact HI0.out)); (case side2 => repeat (first | (with_reducible first | exact HB.out | apply below_alloc | apply pw_below_drewN | apply below_drew1 | refine below_set ?_ (IsS91.ge HI0.out)) | exact HB.out)); rintro e w26 ⟨rfl, hi, hb, hk⟩; refine ⟨_, rfl, ?_⟩; have n0_ := Aside0.mk (Kd.R_mono (Kd.R_keep (IsS91.apart (show IsS91 w0 _ g s0_0 t107 from by repeat (first | (with_reducible first | exact HI0.out | apply IsS91.alloc | apply IsS91.drewN | apply IsS91.drew | apply IsS91.set_1) | exact HI0.out)) (by (with_reducible repeat (first | apply Kd.R_alloc | apply Kd.R_drewN | apply Kd.R_drew)); exact HO105.out) (by decide)) hk (fun _ h => h.2)) (fun _ h => h.1)); have n1_ := Aside0.mk (KeepBut.trans (by repeat (first | (with_reducible first | exact HK.out | apply KeepBut.set_ | apply keep_drewN | apply keep_drew | apply keep_alloc) | exact HK.out)) hk (.inl rfl)); have n2_ := Aside0.mk (hb); have n3_ := Aside0.mk (hi); clear HO105; clear HK; clear HB; clear HI0; have HO105 := n0_; have HK := n1_; have HB := n2_; have HI0 := n3_; clear n0_ n1_ n2_ n3_; (try clear hb); (try clear hb2); (try clear hk); (try clear hi)) | ((with_reducible refine gate_callee (f := 44) rfl ?_); refine goesL_ (some 21) rfl rfl Tryz.func44 (by kernel_rfl) rfl #[.pointer (some ⟨g, 0, none⟩)] rfl (by (try simp only [List.map_toArray, List.map_cons, List.map_nil]); first | done | rfl | (simp only [List.length_drop, List.length_take]; rfl)) ?_; (with_reducible refine (spec_l71End.calls k1 g s0_0 t109 t110 t111 t112 w0 _ ?side1 ?side2 A9.out).mono ?_); (case side1 => repeat (first | (with_reducible first | exact HI0.out | apply IsS91.alloc | apply IsS91.drewN | apply IsS91.drew | apply IsS91.set_1) | exact HI0.out)); (case side2 => repeat (first | (with_reducible first | exact HB.out | apply below_alloc | apply pw_below_drewN | apply below_drew1 | refine below_set ?_ (IsS91.ge HI0.out)) | exact HB.out)); rintro e w27 ⟨rfl, hi, hb, hk⟩; refine ⟨_, rfl, ?_⟩; have n0_ := Aside0.mk (Kd.R_mono (Kd.R_keep (IsS91.apart (show IsS91 w0 _ g s0_0 t109 from by repeat (first | (with_reducible first | exact HI0.out | apply IsS91.alloc | apply IsS91.drewN | apply IsS91.drew | apply IsS91.set_1) | exact HI0.out)) (by (with_reducible repeat (first | apply Kd.R_alloc | apply Kd.R_drewN | apply Kd.R_drew)); exact HO105.out) (by decide)) hk (fun _ h => h.2)) (fun _ h => h.1)); have n1_ := Aside0.mk (KeepBut.trans (by repeat (first | (with_reducible first | exact HK.out | apply KeepBut.set_ | apply keep_drewN | apply keep_drew | apply keep_alloc) | exact HK.out)) hk (.inl rfl)); have n2_ := Aside0.mk (hb); have n3_ := Aside0.mk (hi); clear HO105; clear HK; clear HB; clear HI0; have HO105 := n0_; have HK := n1_; have HB := n2_; have HI0 := n3_; clear n0_ n1_ n2_ n3_; (try clear hb); (try clear hb2); (try clear hk); (try clear hi)) | ((with_reducible refine gate_callee (f := 85) rfl ?_); refine goesL_ (some 22) rfl rfl Tryz.func85 (by kernel_rfl) rfl #[.agg #[.int .i64 t110, .int .i64 t111]] rfl (by (try simp only [List.map_toArray, List.map_cons, List.map_nil]); first | done | rfl | (simp only [List.length_drop, List.length_take]; rfl)) ?_; (with_reducible refine (spec_EndText.calls t110 t111 t113 _ A10.out).mono ?_); rintro e w28 ⟨rfl, hb⟩; refine ⟨_, rfl, ?_⟩; have n0_ := Aside0.mk (Kd.R_below (by (with_reducible repeat (first | apply Kd.R_alloc | apply Kd.R_drewN | apply Kd.R_drew)); exact HO105.out) hb); have n1_ := Aside0.mk (IsS91.below (by repeat (first | (with_reducible first | exact HI0.out | apply IsS91.alloc | apply IsS91.drewN | apply IsS91.drew | apply IsS91.set_1) | exact HI0.out)) hb); have n2_ := Aside0.mk (KeepBut.trans (by repeat (first | (with_reducible first | exact HK.out | apply KeepBut.set_ | apply keep_drewN | apply keep_drew | apply keep_alloc) | exact HK.out)) (KeepBut.of_below hb g none) (.inl rfl)); have n3_ := Aside0.mk (below_step (by repeat (first | (with_reducible first | exact HB.out | apply below_alloc | apply pw_below_drewN | apply below_drew1 | refine below_set ?_ (IsS91.ge HI0.out)) | exact HB.out)) hb); clear HO105; clear HI0; clear HK; clear HB; have HO105 := n0_; have HI0 := n1_; have HK := n2_; have HB := n3_; clear n0_ n1_ n2_ n3_; (try clear hb); (try clear hb2); (try clear hk); (try clear hi)))
                go_roundg k1
                case measure => have := HK1.out; omega
                case rel => exact ⟨(x5_1), (wrap64 (x6_1 - 1)), (t112), (by first | rfl | (simp; done) | (simp [*]; done)), (by first | rfl | (simp; done) | (simp [*]; done)), H', ⟨by have := HK1.out; omega⟩, ⟨by repeat (first | (with_reducible first | exact HI0.out | apply IsS91.alloc | apply IsS91.drewN | apply IsS91.drew | apply IsS91.set_1) | exact HI0.out)⟩, ⟨by repeat (first | (with_reducible first | exact HK.out | apply KeepBut.set_ | apply keep_drewN | apply keep_drew | apply keep_alloc) | exact HK.out)⟩, ⟨by repeat (first | (with_reducible first | exact HB.out | apply below_alloc | apply pw_below_drewN | apply below_drew1 | refine below_set ?_ (IsS91.ge HI0.out)) | exact HB.out)⟩⟩
            · rw [if_neg c12] at H
              exact absurd H (by simp)
          · rw [if_neg c11] at H
            exact absurd H (by simp)
        · rw [if_neg c8] at H
          have c8b0 : decide (t108 < 3) = false := decide_eq_false c8
          clear c8
          by_cases c29 : (wrap64 ((x5_1.size : Int) + (t106.size : Int))) ≤ a1
          · rw [if_pos c29] at H
            have c29b0 : decide ((wrap64 ((x5_1.size : Int) + (t106.size : Int))) ≤ a1) = true := decide_eq_true c29
            clear c29
            by_cases c30 : x5_1.size + t106.size ≤ 9223372036854775807
            · rw [if_pos c30] at H
              have c30b0 := eq_true c30
              have c30b1 : decide (x5_1.size + t106.size ≤ 9223372036854775807) = true := decide_eq_true c30
              try have c30b2 : (9223372036854775807 < x5_1.size + t106.size) = False := eq_false (Nat.not_lt.2 c30)
              try have c29b0u : decide (((x5_1.size : Int) + (t106.size : Int)) ≤ a1) = true := by have e_ : wrap64 ((x5_1.size : Int) + (t106.size : Int)) = (x5_1.size : Int) + (t106.size : Int) := (by unfold wrap64; omega); rw [← e_]; exact c29b0
              have H' := Aside0.mk H
              clear H
              go_wp2_with (first | ((with_reducible refine gate_dst (N := 15) rfl ?_); refine Kd.R_lit Kd.string _ 9 ?hg (N := 15) ?hd (xs := ([(⟨#[97]⟩ : ByteArray), (⟨#[98, 99]⟩ : ByteArray), (⟨#[64]⟩ : ByteArray), (⟨#[64, 49]⟩ : ByteArray), (⟨#[59]⟩ : ByteArray), (⟨#[58, 53]⟩ : ByteArray), (⟨#[120, 49]⟩ : ByteArray), (⟨#[64, 64]⟩ : ByteArray), (⟨#[64, 49, 58]⟩ : ByteArray), (⟨#[55]⟩ : ByteArray)] : List ByteArray)) (inner := [.string (⟨#[97]⟩ : ByteArray), .string (⟨#[98, 99]⟩ : ByteArray), .string (⟨#[64]⟩ : ByteArray), .string (⟨#[64, 49]⟩ : ByteArray), .string (⟨#[59]⟩ : ByteArray), .string (⟨#[58, 53]⟩ : ByteArray), .string (⟨#[120, 49]⟩ : ByteArray), .string (⟨#[64, 64]⟩ : ByteArray), .string (⟨#[64, 49, 58]⟩ : ByteArray), .string (⟨#[55]⟩ : ByteArray)]) (ok := fun _ => True) (okp := fun _ => True) ?hr ?hp (fun _ hk => hk) trivial (Below.refl _ _) (Nat.le_refl _) (by simp) ?_; (case hd => rfl); (case hg => rfl); (case hr => first | (go_simp; done) | (go_simp; rfl)); (case hp => exact (Reps.one (show Kd.M Kd.string _ _ _ (⟨#[97]⟩ : ByteArray) [.string (⟨#[97]⟩ : ByteArray)] from rfl) (Reps.one (show Kd.M Kd.string _ _ _ (⟨#[98, 99]⟩ : ByteArray) [.string (⟨#[98, 99]⟩ : ByteArray)] from rfl) (Reps.one (show Kd.M Kd.string _ _ _ (⟨#[64]⟩ : ByteArray) [.string (⟨#[64]⟩ : ByteArray)] from rfl) (Reps.one (show Kd.M Kd.string _ _ _ (⟨#[64, 49]⟩ : ByteArray) [.string (⟨#[64, 49]⟩ : ByteArray)] from rfl) (Reps.one (show Kd.M Kd.string _ _ _ (⟨#[59]⟩ : ByteArray) [.string (⟨#[59]⟩ : ByteArray)] from rfl) (Reps.one (show Kd.M Kd.string _ _ _ (⟨#[58, 53]⟩ : ByteArray) [.string (⟨#[58, 53]⟩ : ByteArray)] from rfl) (Reps.one (show Kd.M Kd.string _ _ _ (⟨#[120, 49]⟩ : ByteArray) [.string (⟨#[120, 49]⟩ : ByteArray)] from rfl) (Reps.one (show Kd.M Kd.string _ _ _ (⟨#[64, 64]⟩ : ByteArray) [.string (⟨#[64, 64]⟩ : ByteArray)] from rfl) (Reps.one (show Kd.M Kd.string _ _ _ (⟨#[64, 49, 58]⟩ : ByteArray) [.string (⟨#[64, 49, 58]⟩ : ByteArray)] from rfl) (Reps.one (show Kd.M Kd.string _ _ _ (⟨#[55]⟩ : ByteArray) [.string (⟨#[55]⟩ : ByteArray)] from rfl) (Reps.none _ _)))))))))))); intro v104 w31 ho32 hb hg_ hnew_; clear hg_ hnew_; (first | rw [← Ny103.out] at ho32 | (simp only [Int.reduceToNat] at ho32; rw [← Ny103.out] at ho32)); have n0_ := Aside0.mk (Kd.R_lower ho32 (keep_size (w := w) (g := g) (row := none) (by repeat (first | (with_reducible first | exact HK.out | apply KeepBut.set_ | apply keep_drewN | apply keep_drew | apply keep_alloc) | exact HK.out)))); have n1_ := Aside0.mk (IsS91.below (by repeat (first | (with_reducible first | exact HI0.out | apply IsS91.alloc | apply IsS91.drewN | apply IsS91.drew | apply IsS91.set_1) | exact HI0.out)) hb); have n2_ := Aside0.mk (KeepBut.trans (by repeat (first | (with_reducible first | exact HK.out | apply KeepBut.set_ | apply keep_drewN | apply keep_drew | apply keep_alloc) | exact HK.out)) (KeepBut.of_below hb g none) (.inl rfl)); have n3_ := Aside0.mk (below_step (by repeat (first | (with_reducible first | exact HB.out | apply below_alloc | apply pw_below_drewN | apply below_drew1 | refine below_set ?_ (IsS91.ge HI0.out)) | exact HB.out)) hb); clear HI0; clear HK; clear HB; have HO105 := n0_; have HI0 := n1_; have HK := n2_; have HB := n3_; clear n0_ n1_ n2_ n3_; clear hb ho32; obtain ⟨Ao33, co33, eo33⟩ := Kd.R_slice HO105.out; subst eo33) | ((with_reducible refine gate_callee (f := 98) rfl ?_); refine goesL_ (some 16) rfl rfl Tryz.func98 (by kernel_rfl) rfl #[.pointer (some ⟨g, 0, none⟩), .slice Ao33 y103.length co33] rfl (by (try simp only [List.map_toArray, List.map_cons, List.map_nil]); first | done | rfl | (simp only [List.length_drop, List.length_take]; rfl)) ?_; (with_reducible refine (spec_l6Rd_of.calls k1 g s0_0 x1001_1 _ _ y103 t106 t107 w0 _ ?side1 ?side2 ?side3 ?side4 ?side5 A6.out).mono ?_); (case side1 => repeat (first | (with_reducible first | exact HI0.out | apply IsS91.alloc | apply IsS91.drewN | apply IsS91.drew | apply IsS91.set_1) | exact HI0.out)); (case side2 => repeat (first | (with_reducible first | exact HB.out | apply below_alloc | apply pw_below_drewN | apply below_drew1 | refine below_set ?_ (IsS91.ge HI0.out)) | exact HB.out)); (case side3 => repeat (first | exact (Kd.R_reads' HO105.out).2.2 | (with_reducible refine Kd.C_alloc ?_ _) | (with_reducible refine Kd.C_drewN ?_ _) | (with_reducible refine Kd.C_drew ?_))); (case side4 => exact (Kd.R_reads' HO105.out).2.1); (case side5 => exact far_slice (IsS91.own_ne HI0.out HO105.out (by decide))); rintro e w34 ⟨rfl, hi, hb, hk⟩; refine ⟨_, rfl, ?_⟩; have n0_ := Aside0.mk (Kd.R_mono (Kd.R_keep (IsS91.apart (show IsS91 w0 _ g s0_0 x1001_1 from by repeat (first | (with_reducible first | exact HI0.out | apply IsS91.alloc | apply IsS91.drewN | apply IsS91.drew | apply IsS91.set_1) | exact HI0.out)) (by (with_reducible repeat (first | apply Kd.R_alloc | apply Kd.R_drewN | apply Kd.R_drew)); exact HO105.out) (by decide)) hk (fun _ h => h.2)) (fun _ h => h.1)); have n1_ := Aside0.mk (KeepBut.trans (by repeat (first | (with_reducible first | exact HK.out | apply KeepBut.set_ | apply keep_drewN | apply keep_drew | apply keep_alloc) | exact HK.out)) hk (.inl rfl)); have n2_ := Aside0.mk (hb); have n3_ := Aside0.mk (hi); clear HO105; clear HK; clear HB; clear HI0; have HO105 := n0_; have HK := n1_; have HB := n2_; have HI0 := n3_; clear n0_ n1_ n2_ n3_; (try clear hb); (try clear hb2); (try clear hk); (try clear hi)) | ((with_reducible refine gate_callee (f := 43) rfl ?_); refine goesL_ (some 18) rfl rfl Tryz.func43 (by kernel_rfl) rfl #[.pointer (some ⟨g, 0, none⟩), .int .i64 5] rfl (by (try simp only [List.map_toArray, List.map_cons, List.map_nil]); first | done | rfl | (simp only [List.length_drop, List.length_take]; rfl)) ?_; (with_reducible refine (spec_l6Rd_pick.calls k1 g s0_0 t107 5 t108 t109 w0 _ ?side1 ?side2 A7.out).mono ?_); (case side1 => repeat (first | (with_reducible first | exact HI0.out | apply IsS91.alloc | apply IsS91.drewN | apply IsS91.drew | apply IsS91.set_1) | exact HI0.out)); (case side2 => repeat (first | (with_reducible first | exact HB.out | apply below_alloc | apply pw_below_drewN | apply below_drew1 | refine below_set ?_ (IsS91.ge HI0.out)) | exact HB.out)); rintro e w35 ⟨rfl, hi, hb, hk⟩; refine ⟨_, rfl, ?_⟩; have n0_ := Aside0.mk (Kd.R_mono (Kd.R_keep (IsS91.apart (show IsS91 w0 _ g s0_0 t107 from by repeat (first | (with_reducible first | exact HI0.out | apply IsS91.alloc | apply IsS91.drewN | apply IsS91.drew | apply IsS91.set_1) | exact HI0.out)) (by (with_reducible repeat (first | apply Kd.R_alloc | apply Kd.R_drewN | apply Kd.R_drew)); exact HO105.out) (by decide)) hk (fun _ h => h.2)) (fun _ h => h.1)); have n1_ := Aside0.mk (KeepBut.trans (by repeat (first | (with_reducible first | exact HK.out | apply KeepBut.set_ | apply keep_drewN | apply keep_drew | apply keep_alloc) | exact HK.out)) hk (.inl rfl)); have n2_ := Aside0.mk (hb); have n3_ := Aside0.mk (hi); clear HO105; clear HK; clear HB; clear HI0; have HO105 := n0_; have HK := n1_; have HB := n2_; have HI0 := n3_; clear n0_ n1_ n2_ n3_; (try clear hb); (try clear hb2); (try clear hk); (try clear hi)))
              go_roundg k1
              case measure => have := HK1.out; omega
              case rel => exact ⟨(x5_1 ++ t106), (wrap64 (x6_1 - 1)), (t109), (by first | rfl | (simp; done) | (simp [*]; done)), (by first | rfl | (simp; done) | (simp [*]; done)), H', ⟨by have := HK1.out; omega⟩, ⟨by repeat (first | (with_reducible first | exact HI0.out | apply IsS91.alloc | apply IsS91.drewN | apply IsS91.drew | apply IsS91.set_1) | exact HI0.out)⟩, ⟨by repeat (first | (with_reducible first | exact HK.out | apply KeepBut.set_ | apply keep_drewN | apply keep_drew | apply keep_alloc) | exact HK.out)⟩, ⟨by repeat (first | (with_reducible first | exact HB.out | apply below_alloc | apply pw_below_drewN | apply below_drew1 | refine below_set ?_ (IsS91.ge HI0.out)) | exact HB.out)⟩⟩
            · rw [if_neg c30] at H
              exact absurd H (by simp)
          · rw [if_neg c29] at H
            have c29b0 : decide ((wrap64 ((x5_1.size : Int) + (t106.size : Int))) ≤ a1) = false := decide_eq_false c29
            clear c29
            have H' := Aside0.mk H
            clear H
            go_wp2_with (first | ((with_reducible refine gate_dst (N := 15) rfl ?_); refine Kd.R_lit Kd.string _ 9 ?hg (N := 15) ?hd (xs := ([(⟨#[97]⟩ : ByteArray), (⟨#[98, 99]⟩ : ByteArray), (⟨#[64]⟩ : ByteArray), (⟨#[64, 49]⟩ : ByteArray), (⟨#[59]⟩ : ByteArray), (⟨#[58, 53]⟩ : ByteArray), (⟨#[120, 49]⟩ : ByteArray), (⟨#[64, 64]⟩ : ByteArray), (⟨#[64, 49, 58]⟩ : ByteArray), (⟨#[55]⟩ : ByteArray)] : List ByteArray)) (inner := [.string (⟨#[97]⟩ : ByteArray), .string (⟨#[98, 99]⟩ : ByteArray), .string (⟨#[64]⟩ : ByteArray), .string (⟨#[64, 49]⟩ : ByteArray), .string (⟨#[59]⟩ : ByteArray), .string (⟨#[58, 53]⟩ : ByteArray), .string (⟨#[120, 49]⟩ : ByteArray), .string (⟨#[64, 64]⟩ : ByteArray), .string (⟨#[64, 49, 58]⟩ : ByteArray), .string (⟨#[55]⟩ : ByteArray)]) (ok := fun _ => True) (okp := fun _ => True) ?hr ?hp (fun _ hk => hk) trivial (Below.refl _ _) (Nat.le_refl _) (by simp) ?_; (case hd => rfl); (case hg => rfl); (case hr => first | (go_simp; done) | (go_simp; rfl)); (case hp => exact (Reps.one (show Kd.M Kd.string _ _ _ (⟨#[97]⟩ : ByteArray) [.string (⟨#[97]⟩ : ByteArray)] from rfl) (Reps.one (show Kd.M Kd.string _ _ _ (⟨#[98, 99]⟩ : ByteArray) [.string (⟨#[98, 99]⟩ : ByteArray)] from rfl) (Reps.one (show Kd.M Kd.string _ _ _ (⟨#[64]⟩ : ByteArray) [.string (⟨#[64]⟩ : ByteArray)] from rfl) (Reps.one (show Kd.M Kd.string _ _ _ (⟨#[64, 49]⟩ : ByteArray) [.string (⟨#[64, 49]⟩ : ByteArray)] from rfl) (Reps.one (show Kd.M Kd.string _ _ _ (⟨#[59]⟩ : ByteArray) [.string (⟨#[59]⟩ : ByteArray)] from rfl) (Reps.one (show Kd.M Kd.string _ _ _ (⟨#[58, 53]⟩ : ByteArray) [.string (⟨#[58, 53]⟩ : ByteArray)] from rfl) (Reps.one (show Kd.M Kd.string _ _ _ (⟨#[120, 49]⟩ : ByteArray) [.string (⟨#[120, 49]⟩ : ByteArray)] from rfl) (Reps.one (show Kd.M Kd.string _ _ _ (⟨#[64, 64]⟩ : ByteArray) [.string (⟨#[64, 64]⟩ : ByteArray)] from rfl) (Reps.one (show Kd.M Kd.string _ _ _ (⟨#[64, 49, 58]⟩ : ByteArray) [.string (⟨#[64, 49, 58]⟩ : ByteArray)] from rfl) (Reps.one (show Kd.M Kd.string _ _ _ (⟨#[55]⟩ : ByteArray) [.string (⟨#[55]⟩ : ByteArray)] from rfl) (Reps.none _ _)))))))))))); intro v104 w36 ho37 hb hg_ hnew_; clear hg_ hnew_; (first | rw [← Ny103.out] at ho37 | (simp only [Int.reduceToNat] at ho37; rw [← Ny103.out] at ho37)); have n0_ := Aside0.mk (Kd.R_lower ho37 (keep_size (w := w) (g := g) (row := none) (by repeat (first | (with_reducible first | exact HK.out | apply KeepBut.set_ | apply keep_drewN | apply keep_drew | apply keep_alloc) | exact HK.out)))); have n1_ := Aside0.mk (IsS91.below (by repeat (first | (with_reducible first | exact HI0.out | apply IsS91.alloc | apply IsS91.drewN | apply IsS91.drew | apply IsS91.set_1) | exact HI0.out)) hb); have n2_ := Aside0.mk (KeepBut.trans (by repeat (first | (with_reducible first | exact HK.out | apply KeepBut.set_ | apply keep_drewN | apply keep_drew | apply keep_alloc) | exact HK.out)) (KeepBut.of_below hb g none) (.inl rfl)); have n3_ := Aside0.mk (below_step (by repeat (first | (with_reducible first | exact HB.out | apply below_alloc | apply pw_below_drewN | apply below_drew1 | refine below_set ?_ (IsS91.ge HI0.out)) | exact HB.out)) hb); clear HI0; clear HK; clear HB; have HO105 := n0_; have HI0 := n1_; have HK := n2_; have HB := n3_; clear n0_ n1_ n2_ n3_; clear hb ho37; obtain ⟨Ao38, co38, eo38⟩ := Kd.R_slice HO105.out; subst eo38) | ((with_reducible refine gate_callee (f := 98) rfl ?_); refine goesL_ (some 16) rfl rfl Tryz.func98 (by kernel_rfl) rfl #[.pointer (some ⟨g, 0, none⟩), .slice Ao38 y103.length co38] rfl (by (try simp only [List.map_toArray, List.map_cons, List.map_nil]); first | done | rfl | (simp only [List.length_drop, List.length_take]; rfl)) ?_; (with_reducible refine (spec_l6Rd_of.calls k1 g s0_0 x1001_1 _ _ y103 t106 t107 w0 _ ?side1 ?side2 ?side3 ?side4 ?side5 A6.out).mono ?_); (case side1 => repeat (first | (with_reducible first | exact HI0.out | apply IsS91.alloc | apply IsS91.drewN | apply IsS91.drew | apply IsS91.set_1) | exact HI0.out)); (case side2 => repeat (first | (with_reducible first | exact HB.out | apply below_alloc | apply pw_below_drewN | apply below_drew1 | refine below_set ?_ (IsS91.ge HI0.out)) | exact HB.out)); (case side3 => repeat (first | exact (Kd.R_reads' HO105.out).2.2 | (with_reducible refine Kd.C_alloc ?_ _) | (with_reducible refine Kd.C_drewN ?_ _) | (with_reducible refine Kd.C_drew ?_))); (case side4 => exact (Kd.R_reads' HO105.out).2.1); (case side5 => exact far_slice (IsS91.own_ne HI0.out HO105.out (by decide))); rintro e w39 ⟨rfl, hi, hb, hk⟩; refine ⟨_, rfl, ?_⟩; have n0_ := Aside0.mk (Kd.R_mono (Kd.R_keep (IsS91.apart (show IsS91 w0 _ g s0_0 x1001_1 from by repeat (first | (with_reducible first | exact HI0.out | apply IsS91.alloc | apply IsS91.drewN | apply IsS91.drew | apply IsS91.set_1) | exact HI0.out)) (by (with_reducible repeat (first | apply Kd.R_alloc | apply Kd.R_drewN | apply Kd.R_drew)); exact HO105.out) (by decide)) hk (fun _ h => h.2)) (fun _ h => h.1)); have n1_ := Aside0.mk (KeepBut.trans (by repeat (first | (with_reducible first | exact HK.out | apply KeepBut.set_ | apply keep_drewN | apply keep_drew | apply keep_alloc) | exact HK.out)) hk (.inl rfl)); have n2_ := Aside0.mk (hb); have n3_ := Aside0.mk (hi); clear HO105; clear HK; clear HB; clear HI0; have HO105 := n0_; have HK := n1_; have HB := n2_; have HI0 := n3_; clear n0_ n1_ n2_ n3_; (try clear hb); (try clear hb2); (try clear hk); (try clear hi)) | ((with_reducible refine gate_callee (f := 43) rfl ?_); refine goesL_ (some 18) rfl rfl Tryz.func43 (by kernel_rfl) rfl #[.pointer (some ⟨g, 0, none⟩), .int .i64 5] rfl (by (try simp only [List.map_toArray, List.map_cons, List.map_nil]); first | done | rfl | (simp only [List.length_drop, List.length_take]; rfl)) ?_; (with_reducible refine (spec_l6Rd_pick.calls k1 g s0_0 t107 5 t108 t109 w0 _ ?side1 ?side2 A7.out).mono ?_); (case side1 => repeat (first | (with_reducible first | exact HI0.out | apply IsS91.alloc | apply IsS91.drewN | apply IsS91.drew | apply IsS91.set_1) | exact HI0.out)); (case side2 => repeat (first | (with_reducible first | exact HB.out | apply below_alloc | apply pw_below_drewN | apply below_drew1 | refine below_set ?_ (IsS91.ge HI0.out)) | exact HB.out)); rintro e w40 ⟨rfl, hi, hb, hk⟩; refine ⟨_, rfl, ?_⟩; have n0_ := Aside0.mk (Kd.R_mono (Kd.R_keep (IsS91.apart (show IsS91 w0 _ g s0_0 t107 from by repeat (first | (with_reducible first | exact HI0.out | apply IsS91.alloc | apply IsS91.drewN | apply IsS91.drew | apply IsS91.set_1) | exact HI0.out)) (by (with_reducible repeat (first | apply Kd.R_alloc | apply Kd.R_drewN | apply Kd.R_drew)); exact HO105.out) (by decide)) hk (fun _ h => h.2)) (fun _ h => h.1)); have n1_ := Aside0.mk (KeepBut.trans (by repeat (first | (with_reducible first | exact HK.out | apply KeepBut.set_ | apply keep_drewN | apply keep_drew | apply keep_alloc) | exact HK.out)) hk (.inl rfl)); have n2_ := Aside0.mk (hb); have n3_ := Aside0.mk (hi); clear HO105; clear HK; clear HB; clear HI0; have HO105 := n0_; have HK := n1_; have HB := n2_; have HI0 := n3_; clear n0_ n1_ n2_ n3_; (try clear hb); (try clear hb2); (try clear hk); (try clear hi)))
            go_roundg k1
            case measure => have := HK1.out; omega
            case rel => exact ⟨(x5_1), (wrap64 (x6_1 - 1)), (t109), (by first | rfl | (simp; done) | (simp [*]; done)), (by first | rfl | (simp; done) | (simp [*]; done)), H', ⟨by have := HK1.out; omega⟩, ⟨by repeat (first | (with_reducible first | exact HI0.out | apply IsS91.alloc | apply IsS91.drewN | apply IsS91.drew | apply IsS91.set_1) | exact HI0.out)⟩, ⟨by repeat (first | (with_reducible first | exact HK.out | apply KeepBut.set_ | apply keep_drewN | apply keep_drew | apply keep_alloc) | exact HK.out)⟩, ⟨by repeat (first | (with_reducible first | exact HB.out | apply below_alloc | apply pw_below_drewN | apply below_drew1 | refine below_set ?_ (IsS91.ge HI0.out)) | exact HB.out)⟩⟩
      · rw [if_neg c5] at H
        have c5b0 : decide (0 < x6_1) = false := decide_eq_false c5
        clear c5
        simp only [Option.some.injEq, Prod.mk.injEq] at H
        obtain ⟨rfl, rfl⟩ := H
        go_wp2
        go_ret
        exact ⟨by first | rfl | (simp [errW_none, errW_some] <;> rfl) | (simp [*, errW_none, errW_some] <;> rfl), by repeat (first | (with_reducible first | exact HI0.out | apply IsS91.alloc | apply IsS91.drewN | apply IsS91.drew | apply IsS91.set_1) | exact HI0.out), by repeat (first | (with_reducible first | exact HB.out | apply below_alloc | apply pw_below_drewN | apply below_drew1 | refine below_set ?_ (IsS91.ge HI0.out)) | exact HB.out), by repeat (first | (with_reducible first | exact HK.out | apply KeepBut.set_ | apply keep_drewN | apply keep_drew | apply keep_alloc) | exact HK.out)⟩
end
end Go.Proofs.YtijompkonaiagaaGreatDoor.Q
namespace Go.Proofs.YtijompkonaiagaaGreatDoor.Q
open Go.RowKit Go.Proofs.YtijompkonaiagaaGreatDoorW.PrintWords Go.Proofs.YtijompkonaiagaaGreatDoorW.PrintLast Go.Proofs.YtijompkonaiagaaGreatDoorW.PrintMore
attribute [local go_sem] max2_int min2_int max_two min_two max_three min_three max_four min_four
set_option linter.unusedVariables false
set_option linter.unusedSimpArgs false
noncomputable section
def spec_l6Many.l0 : Nat → ByteArray → Int → ByteArray → Option (ByteArray)
  | 0, _, _, _ => none
  | k + 1, x0, x1, x5 => if x1 > 0 then (if (Int.tmod x1 2) = 1 then (if x5.size + x0.size ≤ 9223372036854775807 then (if x0.size + x0.size ≤ 9223372036854775807 then (spec_l6Many.l0 k (x0 ++ x0) (wrap64 (Int.tdiv x1 2)) (x5 ++ x0)) else (none)) else (none)) else (if x0.size + x0.size ≤ 9223372036854775807 then (spec_l6Many.l0 k (x0 ++ x0) (wrap64 (Int.tdiv x1 2)) x5) else (none))) else (some x5)
def spec_l6Many.f (k : Nat) (a0 : ByteArray) (a1 : Int) : Option (ByteArray) := spec_l6Many.l0 k a0 a1 (⟨#[]⟩ : ByteArray)
theorem spec_l6Many.mono_l : ∀ k, (∀ y0 y1 y2, LeO (spec_l6Many.l0 k y0 y1 y2) (spec_l6Many.l0 (k + 1) y0 y1 y2))
  | 0 => fun _ _ _ r h => by simp [spec_l6Many.l0] at h
  | k + 1 => by
    have ih0 := spec_l6Many.mono_l k
    · intro y0 y1 y2
      unfold spec_l6Many.l0
      repeat' first
      | (with_reducible exact ih0 _ _ _)
      | (with_reducible exact LeO.refl _)
      | (with_reducible exact LeO.none _)
      | (with_reducible refine LeO.ite ?_ ?_)
      | (with_reducible refine LeO.bind ?_ (fun _ => ?_))
      | exact ih0 _ _ _
      | exact LeO.none _
      | refine LeO.ite ?_ ?_
      | refine LeO.bind ?_ (fun _ => ?_)
theorem spec_l6Many.mono : ∀ a0 a1 k, LeO (spec_l6Many.f k a0 a1) (spec_l6Many.f (k + 1) a0 a1) := by
  intro a0 a1 k
  have ih0 := spec_l6Many.mono_l k
  unfold spec_l6Many.f
  repeat' first
      | (with_reducible exact ih0 _ _ _)
      | (with_reducible exact LeO.refl _)
      | (with_reducible exact LeO.none _)
      | (with_reducible refine LeO.ite ?_ ?_)
      | (with_reducible refine LeO.bind ?_ (fun _ => ?_))
      | exact ih0 _ _ _
      | exact LeO.none _
      | refine LeO.ite ?_ ?_
      | refine LeO.bind ?_ (fun _ => ?_)
set_option maxHeartbeats 8000000 in
set_option maxRecDepth 100000 in
theorem spec_l6Many.calls (k : Nat) (a0 : ByteArray) (a1 : Int) (r : ByteArray) (w : World) (h : spec_l6Many.f k a0 a1 = some r) :
    Calls Tryz.prog 74 #[.string a0, .int .i64 a1] w fun e w' => e = .returned (.string r) ∧ Drawn0 w w' := by
  have H : (spec_l6Many.l0 k a0 a1 (⟨#[]⟩ : ByteArray)) = some r := h
  clear h
  have H' := Aside0.mk H
  clear H
  go_enter Tryz.func74, Tryz.ntmps74
  go_wp2
  go_loopg [0, 1, 5] k (fun kq v0 v1 v5 w' => ∃ (x0_1 : ByteArray) (x1_1 : Int) (x5_1 : ByteArray), v0 = .string x0_1 ∧ v1 = .int .i64 x1_1 ∧ v5 = .string x5_1 ∧ Aside0 (spec_l6Many.l0 kq x0_1 x1_1 x5_1 = some r) ∧ Aside0 (kq ≤ k) ∧ Drawn0 w w')
  case atStart => exact ⟨(a0), (a1), ((⟨#[]⟩ : ByteArray)), (by first | rfl | (simp; done) | (simp [*]; done)), (by first | rfl | (simp; done) | (simp [*]; done)), (by first | rfl | (simp; done) | (simp [*]; done)), H', ⟨Nat.le_refl _⟩, by repeat (first | exact Drawn0.refl _ | apply Drawn0.step)⟩
  case round =>
    clear H'
    try clear p2
    obtain ⟨x0_1, x1_1, x5_1, rfl, rfl, rfl, HA, HK1, ⟨m1, rfl⟩⟩ := hrel
    cases gk with
    | zero => exact absurd HA.out (by simp [spec_l6Many.l0])
    | succ k1 =>
      have H := HA.out
      clear HA
      simp only [spec_l6Many.l0] at H
      by_cases c3 : x1_1 > 0
      · rw [if_pos c3] at H
        have c3b0 : decide (0 < x1_1) = true := decide_eq_true c3
        clear c3
        by_cases c4 : (Int.tmod x1_1 2) = 1
        · rw [if_pos c4] at H
          have c4b0 : ((Int.tmod x1_1 2) == 1) = true := beq_iff_eq.mpr c4
          have c4b1 : ((Int.tmod x1_1 2) != 1) = false := bne_eq_false_iff_eq.mpr c4
          clear c4
          by_cases c5 : x5_1.size + x0_1.size ≤ 9223372036854775807
          · rw [if_pos c5] at H
            have c5b0 := eq_true c5
            have c5b1 : decide (x5_1.size + x0_1.size ≤ 9223372036854775807) = true := decide_eq_true c5
            try have c5b2 : (9223372036854775807 < x5_1.size + x0_1.size) = False := eq_false (Nat.not_lt.2 c5)
            by_cases c6 : x0_1.size + x0_1.size ≤ 9223372036854775807
            · rw [if_pos c6] at H
              have c6b0 := eq_true c6
              have c6b1 : decide (x0_1.size + x0_1.size ≤ 9223372036854775807) = true := decide_eq_true c6
              try have c6b2 : (9223372036854775807 < x0_1.size + x0_1.size) = False := eq_false (Nat.not_lt.2 c6)
              have H' := Aside0.mk H
              clear H
              go_wp2
              go_roundg k1
              case measure => have := HK1.out; omega
              case rel => exact ⟨(x0_1 ++ x0_1), (wrap64 (Int.tdiv x1_1 2)), (x5_1 ++ x0_1), (by first | rfl | (simp; done) | (simp [*]; done)), (by first | rfl | (simp; done) | (simp [*]; done)), (by first | rfl | (simp; done) | (simp [*]; done)), H', ⟨by have := HK1.out; omega⟩, by repeat (first | exact Drawn0.refl _ | apply Drawn0.step)⟩
            · rw [if_neg c6] at H
              exact absurd H (by simp)
          · rw [if_neg c5] at H
            exact absurd H (by simp)
        · rw [if_neg c4] at H
          have c4b0 : ((Int.tmod x1_1 2) == 1) = false := beq_eq_false_iff_ne.mpr c4
          have c4b1 : ((Int.tmod x1_1 2) != 1) = true := bne_iff_ne.mpr c4
          by_cases c7 : x0_1.size + x0_1.size ≤ 9223372036854775807
          · rw [if_pos c7] at H
            have c7b0 := eq_true c7
            have c7b1 : decide (x0_1.size + x0_1.size ≤ 9223372036854775807) = true := decide_eq_true c7
            try have c7b2 : (9223372036854775807 < x0_1.size + x0_1.size) = False := eq_false (Nat.not_lt.2 c7)
            have H' := Aside0.mk H
            clear H
            go_wp2
            go_roundg k1
            case measure => have := HK1.out; omega
            case rel => exact ⟨(x0_1 ++ x0_1), (wrap64 (Int.tdiv x1_1 2)), (x5_1), (by first | rfl | (simp; done) | (simp [*]; done)), (by first | rfl | (simp; done) | (simp [*]; done)), (by first | rfl | (simp; done) | (simp [*]; done)), H', ⟨by have := HK1.out; omega⟩, by repeat (first | exact Drawn0.refl _ | apply Drawn0.step)⟩
          · rw [if_neg c7] at H
            exact absurd H (by simp)
      · rw [if_neg c3] at H
        have c3b0 : decide (0 < x1_1) = false := decide_eq_false c3
        clear c3
        obtain rfl := Option.some.inj H
        go_wp2
        go_ret
        exact ⟨by first | rfl | (simp; done) | (simp [*]; done), by repeat (first | exact Drawn0.refl _ | apply Drawn0.step)⟩
end
end Go.Proofs.YtijompkonaiagaaGreatDoor.Q
namespace Go.Proofs.YtijompkonaiagaaGreatDoor.Q
open Go.RowKit Go.Proofs.YtijompkonaiagaaGreatDoorW.PrintWords Go.Proofs.YtijompkonaiagaaGreatDoorW.PrintLast Go.Proofs.YtijompkonaiagaaGreatDoorW.PrintMore
attribute [local go_sem] max2_int min2_int max_two min_two max_three min_three max_four min_four
set_option linter.unusedVariables false
set_option linter.unusedSimpArgs false
noncomputable section
def spec_l71Off.f (k : Nat) (s0_0 : List Int) (s0_1 : Int) : Option (ByteArray × Int) := (spec_l71Text.f k s0_0 s0_1 30).bind fun bt101 => ((spec_l6Rd_pick.f k s0_0 bt101.2 24).bind fun bt103 => (if bt103.1 = 0 then (if bt101.1.size + 1 ≤ 9223372036854775807 then (some (bt101.1 ++ (⟨#[32]⟩ : ByteArray), bt103.2)) else (none)) else (if bt103.1 = 1 then ((spec_l6Rd_pick.f k s0_0 bt103.2 5).bind fun bt105 => ((spec_l6Many.f k (⟨#[97]⟩ : ByteArray) (wrap64 (38 + bt105.1))).bind fun t107 => (some (t107, bt105.2)))) else (some (bt101.1, bt103.2)))))
theorem spec_l71Off.mono : ∀ a0 a1 k, LeO (spec_l71Off.f k a0 a1) (spec_l71Off.f (k + 1) a0 a1) := by
  intro a0 a1 k
  unfold spec_l71Off.f
  repeat' first
      | (with_reducible exact spec_l6Many.mono _ _ _)
      | (with_reducible exact spec_l6Rd_pick.mono _ _ _ _)
      | (with_reducible exact spec_l71Text.mono _ _ _ _)
      | (with_reducible exact LeO.refl _)
      | (with_reducible exact LeO.none _)
      | (with_reducible refine LeO.ite ?_ ?_)
      | (with_reducible refine LeO.bind ?_ (fun _ => ?_))
      | exact spec_l6Many.mono _ _ _
      | exact spec_l6Rd_pick.mono _ _ _ _
      | exact spec_l71Text.mono _ _ _ _
      | exact LeO.none _
      | refine LeO.ite ?_ ?_
      | refine LeO.bind ?_ (fun _ => ?_)
set_option maxHeartbeats 8000000 in
set_option maxRecDepth 100000 in
theorem spec_l71Off.calls (k : Nat) (g : Nat) (s0_0 : List Int) (s0_1 : Int) (r1 : ByteArray) (r2 : Int) (w0 w : World) (hI : IsS91 w0 w g s0_0 s0_1) (hB : Below w0.heap.size w0 w) (h : spec_l71Off.f k s0_0 s0_1 = some (r1, r2)) :
    Calls Tryz.prog 45 #[.pointer (some ⟨g, 0, none⟩)] w fun e w' => e = .returned (.string r1) ∧ IsS91 w0 w' g s0_0 r2 ∧ Below w0.heap.size w0 w' ∧ KeepBut w w' g none := by
  have HI0 := Aside0.mk hI
  have HK := Aside0.mk (KeepBut.refl w g none)
  have HL := Aside0.mk hB.size
  clear hI
  have HW0 := Aside0.mk hB.size
  have HB := Aside0.mk hB
  clear hB
  have H : ((spec_l71Text.f k s0_0 s0_1 30).bind fun bt101 => ((spec_l6Rd_pick.f k s0_0 bt101.2 24).bind fun bt103 => (if bt103.1 = 0 then (if bt101.1.size + 1 ≤ 9223372036854775807 then (some (bt101.1 ++ (⟨#[32]⟩ : ByteArray), bt103.2)) else (none)) else (if bt103.1 = 1 then ((spec_l6Rd_pick.f k s0_0 bt103.2 5).bind fun bt105 => ((spec_l6Many.f k (⟨#[97]⟩ : ByteArray) (wrap64 (38 + bt105.1))).bind fun t107 => (some (t107, bt105.2)))) else (some (bt101.1, bt103.2)))))) = some (r1, r2) := h
  clear h
  replace H := Option.bind_eq_some_iff.mp H
  obtain ⟨⟨t101, t102⟩, A20, H⟩ := H
  replace H : ((spec_l6Rd_pick.f k s0_0 t102 24).bind fun bt103 => (if bt103.1 = 0 then (if t101.size + 1 ≤ 9223372036854775807 then (some (t101 ++ (⟨#[32]⟩ : ByteArray), bt103.2)) else (none)) else (if bt103.1 = 1 then ((spec_l6Rd_pick.f k s0_0 bt103.2 5).bind fun bt105 => ((spec_l6Many.f k (⟨#[97]⟩ : ByteArray) (wrap64 (38 + bt105.1))).bind fun t107 => (some (t107, bt105.2)))) else (some (t101, bt103.2))))) = some (r1, r2) := H
  have A2 := Aside0.mk A20
  clear A20
  replace H := Option.bind_eq_some_iff.mp H
  obtain ⟨⟨t103, t104⟩, A30, H⟩ := H
  replace H : (if t103 = 0 then (if t101.size + 1 ≤ 9223372036854775807 then (some (t101 ++ (⟨#[32]⟩ : ByteArray), t104)) else (none)) else (if t103 = 1 then ((spec_l6Rd_pick.f k s0_0 t104 5).bind fun bt105 => ((spec_l6Many.f k (⟨#[97]⟩ : ByteArray) (wrap64 (38 + bt105.1))).bind fun t107 => (some (t107, bt105.2)))) else (some (t101, t104)))) = some (r1, r2) := H
  have A3 := Aside0.mk A30
  clear A30
  by_cases c4 : t103 = 0
  · rw [if_pos c4] at H
    have c4b0 : (t103 == 0) = true := beq_iff_eq.mpr c4
    have c4b1 : (t103 != 0) = false := bne_eq_false_iff_eq.mpr c4
    clear c4
    by_cases c5 : t101.size + 1 ≤ 9223372036854775807
    · rw [if_pos c5] at H
      have c5b0 := eq_true c5
      have c5b1 : decide (t101.size + 1 ≤ 9223372036854775807) = true := decide_eq_true c5
      try have c5b2 : (9223372036854775807 < t101.size + 1) = False := eq_false (Nat.not_lt.2 c5)
      simp only [Option.some.injEq, Prod.mk.injEq] at H
      obtain ⟨rfl, rfl⟩ := H
      go_enter Tryz.func45, Tryz.ntmps45
      go_wp2_with (first | ((with_reducible refine gate_callee (f := 73) rfl ?_); refine goesL_ (some 5) rfl rfl Tryz.func73 (by kernel_rfl) rfl #[.pointer (some ⟨g, 0, none⟩), .int .i64 30] rfl (by (try simp only [List.map_toArray, List.map_cons, List.map_nil]); first | done | rfl | (simp only [List.length_drop, List.length_take]; rfl)) ?_; (with_reducible refine (spec_l71Text.calls k g s0_0 s0_1 30 t101 t102 w0 _ ?side1 ?side2 A2.out).mono ?_); (case side1 => repeat (first | (with_reducible first | exact HI0.out | apply IsS91.alloc | apply IsS91.drewN | apply IsS91.drew | apply IsS91.set_1) | exact HI0.out)); (case side2 => repeat (first | (with_reducible first | exact HB.out | apply below_alloc | apply pw_below_drewN | apply below_drew1 | refine below_set ?_ (IsS91.ge HI0.out)) | exact HB.out)); rintro e w6 ⟨rfl, hi, hb, hk⟩; refine ⟨_, rfl, ?_⟩; have n0_ := Aside0.mk (KeepBut.trans (by repeat (first | (with_reducible first | exact HK.out | apply KeepBut.set_ | apply keep_drewN | apply keep_drew | apply keep_alloc) | exact HK.out)) hk (.inl rfl)); have n1_ := Aside0.mk (hb); have n2_ := Aside0.mk (hi); clear HK; clear HB; clear HI0; have HK := n0_; have HB := n1_; have HI0 := n2_; clear n0_ n1_ n2_; (try clear hb); (try clear hb2); (try clear hk); (try clear hi)) | ((with_reducible refine gate_callee (f := 43) rfl ?_); refine goesL_ (some 7) rfl rfl Tryz.func43 (by kernel_rfl) rfl #[.pointer (some ⟨g, 0, none⟩), .int .i64 24] rfl (by (try simp only [List.map_toArray, List.map_cons, List.map_nil]); first | done | rfl | (simp only [List.length_drop, List.length_take]; rfl)) ?_; (with_reducible refine (spec_l6Rd_pick.calls k g s0_0 t102 24 t103 t104 w0 _ ?side1 ?side2 A3.out).mono ?_); (case side1 => repeat (first | (with_reducible first | exact HI0.out | apply IsS91.alloc | apply IsS91.drewN | apply IsS91.drew | apply IsS91.set_1) | exact HI0.out)); (case side2 => repeat (first | (with_reducible first | exact HB.out | apply below_alloc | apply pw_below_drewN | apply below_drew1 | refine below_set ?_ (IsS91.ge HI0.out)) | exact HB.out)); rintro e w7 ⟨rfl, hi, hb, hk⟩; refine ⟨_, rfl, ?_⟩; have n0_ := Aside0.mk (KeepBut.trans (by repeat (first | (with_reducible first | exact HK.out | apply KeepBut.set_ | apply keep_drewN | apply keep_drew | apply keep_alloc) | exact HK.out)) hk (.inl rfl)); have n1_ := Aside0.mk (hb); have n2_ := Aside0.mk (hi); clear HK; clear HB; clear HI0; have HK := n0_; have HB := n1_; have HI0 := n2_; clear n0_ n1_ n2_; (try clear hb); (try clear hb2); (try clear hk); (try clear hi)))
      go_ret
      exact ⟨by first | rfl | (simp [errW_none, errW_some] <;> rfl) | (simp [*, errW_none, errW_some] <;> rfl), by repeat (first | (with_reducible first | exact HI0.out | apply IsS91.alloc | apply IsS91.drewN | apply IsS91.drew | apply IsS91.set_1) | exact HI0.out), by repeat (first | (with_reducible first | exact HB.out | apply below_alloc | apply pw_below_drewN | apply below_drew1 | refine below_set ?_ (IsS91.ge HI0.out)) | exact HB.out), by repeat (first | (with_reducible first | exact HK.out | apply KeepBut.set_ | apply keep_drewN | apply keep_drew | apply keep_alloc) | exact HK.out)⟩
    · rw [if_neg c5] at H
      exact absurd H (by simp)
  · rw [if_neg c4] at H
    have c4b0 : (t103 == 0) = false := beq_eq_false_iff_ne.mpr c4
    have c4b1 : (t103 != 0) = true := bne_iff_ne.mpr c4
    by_cases c8 : t103 = 1
    · rw [if_pos c8] at H
      have c8b0 : (t103 == 1) = true := beq_iff_eq.mpr c8
      have c8b1 : (t103 != 1) = false := bne_eq_false_iff_eq.mpr c8
      clear c8
      replace H := Option.bind_eq_some_iff.mp H
      obtain ⟨⟨t105, t106⟩, A90, H⟩ := H
      replace H : ((spec_l6Many.f k (⟨#[97]⟩ : ByteArray) (wrap64 (38 + t105))).bind fun t107 => (some (t107, t106))) = some (r1, r2) := H
      have A9 := Aside0.mk A90
      clear A90
      replace H := Option.bind_eq_some_iff.mp H
      obtain ⟨t107, A100, H⟩ := H
      replace H : (some (t107, t106)) = some (r1, r2) := H
      have A10 := Aside0.mk A100
      clear A100
      simp only [Option.some.injEq, Prod.mk.injEq] at H
      obtain ⟨rfl, rfl⟩ := H
      go_enter Tryz.func45, Tryz.ntmps45
      go_wp2_with (first | ((with_reducible refine gate_callee (f := 73) rfl ?_); refine goesL_ (some 5) rfl rfl Tryz.func73 (by kernel_rfl) rfl #[.pointer (some ⟨g, 0, none⟩), .int .i64 30] rfl (by (try simp only [List.map_toArray, List.map_cons, List.map_nil]); first | done | rfl | (simp only [List.length_drop, List.length_take]; rfl)) ?_; (with_reducible refine (spec_l71Text.calls k g s0_0 s0_1 30 t101 t102 w0 _ ?side1 ?side2 A2.out).mono ?_); (case side1 => repeat (first | (with_reducible first | exact HI0.out | apply IsS91.alloc | apply IsS91.drewN | apply IsS91.drew | apply IsS91.set_1) | exact HI0.out)); (case side2 => repeat (first | (with_reducible first | exact HB.out | apply below_alloc | apply pw_below_drewN | apply below_drew1 | refine below_set ?_ (IsS91.ge HI0.out)) | exact HB.out)); rintro e w11 ⟨rfl, hi, hb, hk⟩; refine ⟨_, rfl, ?_⟩; have n0_ := Aside0.mk (KeepBut.trans (by repeat (first | (with_reducible first | exact HK.out | apply KeepBut.set_ | apply keep_drewN | apply keep_drew | apply keep_alloc) | exact HK.out)) hk (.inl rfl)); have n1_ := Aside0.mk (hb); have n2_ := Aside0.mk (hi); clear HK; clear HB; clear HI0; have HK := n0_; have HB := n1_; have HI0 := n2_; clear n0_ n1_ n2_; (try clear hb); (try clear hb2); (try clear hk); (try clear hi)) | ((with_reducible refine gate_callee (f := 43) rfl ?_); refine goesL_ (some 7) rfl rfl Tryz.func43 (by kernel_rfl) rfl #[.pointer (some ⟨g, 0, none⟩), .int .i64 24] rfl (by (try simp only [List.map_toArray, List.map_cons, List.map_nil]); first | done | rfl | (simp only [List.length_drop, List.length_take]; rfl)) ?_; (with_reducible refine (spec_l6Rd_pick.calls k g s0_0 t102 24 t103 t104 w0 _ ?side1 ?side2 A3.out).mono ?_); (case side1 => repeat (first | (with_reducible first | exact HI0.out | apply IsS91.alloc | apply IsS91.drewN | apply IsS91.drew | apply IsS91.set_1) | exact HI0.out)); (case side2 => repeat (first | (with_reducible first | exact HB.out | apply below_alloc | apply pw_below_drewN | apply below_drew1 | refine below_set ?_ (IsS91.ge HI0.out)) | exact HB.out)); rintro e w12 ⟨rfl, hi, hb, hk⟩; refine ⟨_, rfl, ?_⟩; have n0_ := Aside0.mk (KeepBut.trans (by repeat (first | (with_reducible first | exact HK.out | apply KeepBut.set_ | apply keep_drewN | apply keep_drew | apply keep_alloc) | exact HK.out)) hk (.inl rfl)); have n1_ := Aside0.mk (hb); have n2_ := Aside0.mk (hi); clear HK; clear HB; clear HI0; have HK := n0_; have HB := n1_; have HI0 := n2_; clear n0_ n1_ n2_; (try clear hb); (try clear hb2); (try clear hk); (try clear hi)) | ((with_reducible refine gate_callee (f := 43) rfl ?_); refine goesL_ (some 15) rfl rfl Tryz.func43 (by kernel_rfl) rfl #[.pointer (some ⟨g, 0, none⟩), .int .i64 5] rfl (by (try simp only [List.map_toArray, List.map_cons, List.map_nil]); first | done | rfl | (simp only [List.length_drop, List.length_take]; rfl)) ?_; (with_reducible refine (spec_l6Rd_pick.calls k g s0_0 t104 5 t105 t106 w0 _ ?side1 ?side2 A9.out).mono ?_); (case side1 => repeat (first | (with_reducible first | exact HI0.out | apply IsS91.alloc | apply IsS91.drewN | apply IsS91.drew | apply IsS91.set_1) | exact HI0.out)); (case side2 => repeat (first | (with_reducible first | exact HB.out | apply below_alloc | apply pw_below_drewN | apply below_drew1 | refine below_set ?_ (IsS91.ge HI0.out)) | exact HB.out)); rintro e w13 ⟨rfl, hi, hb, hk⟩; refine ⟨_, rfl, ?_⟩; have n0_ := Aside0.mk (KeepBut.trans (by repeat (first | (with_reducible first | exact HK.out | apply KeepBut.set_ | apply keep_drewN | apply keep_drew | apply keep_alloc) | exact HK.out)) hk (.inl rfl)); have n1_ := Aside0.mk (hb); have n2_ := Aside0.mk (hi); clear HK; clear HB; clear HI0; have HK := n0_; have HB := n1_; have HI0 := n2_; clear n0_ n1_ n2_; (try clear hb); (try clear hb2); (try clear hk); (try clear hi)) | ((with_reducible refine gate_callee (f := 74) rfl ?_); refine goesL_ (some 17) rfl rfl Tryz.func74 (by kernel_rfl) rfl #[.string (⟨#[97]⟩ : ByteArray), .int .i64 (wrap64 (38 + t105))] rfl (by (try simp only [List.map_toArray, List.map_cons, List.map_nil]); first | done | rfl | (simp only [List.length_drop, List.length_take]; rfl)) ?_; (with_reducible refine (spec_l6Many.calls k (⟨#[97]⟩ : ByteArray) (wrap64 (38 + t105)) t107 _ A10.out).mono ?_); rintro e w' ⟨rfl, ⟨nd, rfl⟩⟩; refine ⟨_, rfl, ?_⟩))
      go_ret
      exact ⟨by first | rfl | (simp [errW_none, errW_some] <;> rfl) | (simp [*, errW_none, errW_some] <;> rfl), by repeat (first | (with_reducible first | exact HI0.out | apply IsS91.alloc | apply IsS91.drewN | apply IsS91.drew | apply IsS91.set_1) | exact HI0.out), by repeat (first | (with_reducible first | exact HB.out | apply below_alloc | apply pw_below_drewN | apply below_drew1 | refine below_set ?_ (IsS91.ge HI0.out)) | exact HB.out), by repeat (first | (with_reducible first | exact HK.out | apply KeepBut.set_ | apply keep_drewN | apply keep_drew | apply keep_alloc) | exact HK.out)⟩
    · rw [if_neg c8] at H
      have c8b0 : (t103 == 1) = false := beq_eq_false_iff_ne.mpr c8
      have c8b1 : (t103 != 1) = true := bne_iff_ne.mpr c8
      simp only [Option.some.injEq, Prod.mk.injEq] at H
      obtain ⟨rfl, rfl⟩ := H
      go_enter Tryz.func45, Tryz.ntmps45
      go_wp2_with (first | ((with_reducible refine gate_callee (f := 73) rfl ?_); refine goesL_ (some 5) rfl rfl Tryz.func73 (by kernel_rfl) rfl #[.pointer (some ⟨g, 0, none⟩), .int .i64 30] rfl (by (try simp only [List.map_toArray, List.map_cons, List.map_nil]); first | done | rfl | (simp only [List.length_drop, List.length_take]; rfl)) ?_; (with_reducible refine (spec_l71Text.calls k g s0_0 s0_1 30 t101 t102 w0 _ ?side1 ?side2 A2.out).mono ?_); (case side1 => repeat (first | (with_reducible first | exact HI0.out | apply IsS91.alloc | apply IsS91.drewN | apply IsS91.drew | apply IsS91.set_1) | exact HI0.out)); (case side2 => repeat (first | (with_reducible first | exact HB.out | apply below_alloc | apply pw_below_drewN | apply below_drew1 | refine below_set ?_ (IsS91.ge HI0.out)) | exact HB.out)); rintro e w14 ⟨rfl, hi, hb, hk⟩; refine ⟨_, rfl, ?_⟩; have n0_ := Aside0.mk (KeepBut.trans (by repeat (first | (with_reducible first | exact HK.out | apply KeepBut.set_ | apply keep_drewN | apply keep_drew | apply keep_alloc) | exact HK.out)) hk (.inl rfl)); have n1_ := Aside0.mk (hb); have n2_ := Aside0.mk (hi); clear HK; clear HB; clear HI0; have HK := n0_; have HB := n1_; have HI0 := n2_; clear n0_ n1_ n2_; (try clear hb); (try clear hb2); (try clear hk); (try clear hi)) | ((with_reducible refine gate_callee (f := 43) rfl ?_); refine goesL_ (some 7) rfl rfl Tryz.func43 (by kernel_rfl) rfl #[.pointer (some ⟨g, 0, none⟩), .int .i64 24] rfl (by (try simp only [List.map_toArray, List.map_cons, List.map_nil]); first | done | rfl | (simp only [List.length_drop, List.length_take]; rfl)) ?_; (with_reducible refine (spec_l6Rd_pick.calls k g s0_0 t102 24 t103 t104 w0 _ ?side1 ?side2 A3.out).mono ?_); (case side1 => repeat (first | (with_reducible first | exact HI0.out | apply IsS91.alloc | apply IsS91.drewN | apply IsS91.drew | apply IsS91.set_1) | exact HI0.out)); (case side2 => repeat (first | (with_reducible first | exact HB.out | apply below_alloc | apply pw_below_drewN | apply below_drew1 | refine below_set ?_ (IsS91.ge HI0.out)) | exact HB.out)); rintro e w15 ⟨rfl, hi, hb, hk⟩; refine ⟨_, rfl, ?_⟩; have n0_ := Aside0.mk (KeepBut.trans (by repeat (first | (with_reducible first | exact HK.out | apply KeepBut.set_ | apply keep_drewN | apply keep_drew | apply keep_alloc) | exact HK.out)) hk (.inl rfl)); have n1_ := Aside0.mk (hb); have n2_ := Aside0.mk (hi); clear HK; clear HB; clear HI0; have HK := n0_; have HB := n1_; have HI0 := n2_; clear n0_ n1_ n2_; (try clear hb); (try clear hb2); (try clear hk); (try clear hi)))
      go_ret
      exact ⟨by first | rfl | (simp [errW_none, errW_some] <;> rfl) | (simp [*, errW_none, errW_some] <;> rfl), by repeat (first | (with_reducible first | exact HI0.out | apply IsS91.alloc | apply IsS91.drewN | apply IsS91.drew | apply IsS91.set_1) | exact HI0.out), by repeat (first | (with_reducible first | exact HB.out | apply below_alloc | apply pw_below_drewN | apply below_drew1 | refine below_set ?_ (IsS91.ge HI0.out)) | exact HB.out), by repeat (first | (with_reducible first | exact HK.out | apply KeepBut.set_ | apply keep_drewN | apply keep_drew | apply keep_alloc) | exact HK.out)⟩
end
end Go.Proofs.YtijompkonaiagaaGreatDoor.Q
namespace Go.Proofs.YtijompkonaiagaaGreatDoor.Q
open Go.RowKit Go.Proofs.YtijompkonaiagaaGreatDoorW.PrintWords Go.Proofs.YtijompkonaiagaaGreatDoorW.PrintMore Go.Proofs.YtijompkonaiagaaGreatDoor.Z
set_option linter.unusedVariables false
set_option linter.unusedSimpArgs false
def isCode (bs : List Int) : Prop := bs.length ≤ 2000 ∧ ∀ b ∈ bs, (0 : Int) ≤ b ∧ b ≤ 255
theorem rd_code {bs : List Int} (h : isCode bs) (i : Int) : 0 ≤ rd bs i ∧ rd bs i ≤ 255 := by
  unfold rd
  rw [List.getD_eq_getElem?_getD]
  cases he : bs[i.toNat]? with
  | none => simp
  | some b => exact h.2 b (List.mem_of_getElem? he)
theorem bits_nonneg (x y : Int) (hx : 0 ≤ x ∧ x < 9223372036854775808) (hy : 0 ≤ y ∧ y < 9223372036854775808) : 0 ≤ Go.bits .xor .i64 x y := by
  obtain ⟨a, rfl⟩ : ∃ a : Nat, x = a := ⟨x.toNat, by omega⟩
  obtain ⟨b, rfl⟩ : ∃ b : Nat, y = b := ⟨y.toNat, by omega⟩
  unfold Go.bits
  simp only [BitVec.toNat_xor, BitVec.toNat_ofInt]
  have e1 : ((a : Int) % ((2 ^ IntKind.i64.bits : Nat) : Int)).toNat = a := by
    have : ((2 ^ IntKind.i64.bits : Nat) : Int) = 18446744073709551616 := by decide
    rw [this]; omega
  have e2 : ((b : Int) % ((2 ^ IntKind.i64.bits : Nat) : Int)).toNat = b := by
    have : ((2 ^ IntKind.i64.bits : Nat) : Int) = 18446744073709551616 := by decide
    rw [this]; omega
  rw [e1, e2]
  have h := Nat.xor_lt_two_pow (n := 63) (x := a) (y := b) (by have : (2 : Nat) ^ 63 = 9223372036854775808 := by decide
                                                               omega) (by have : (2 : Nat) ^ 63 = 9223372036854775808 := by decide
                                                                          omega)
  have h63 : (2 : Nat) ^ 63 = 9223372036854775808 := by decide
  rw [IntWalk.i64_in _ (by omega)]
  omega
theorem pick_to (k : Nat) {bs : List Int} (hb : isCode bs) (p : Int) (hp : 0 ≤ p ∧ p ≤ 100000000) (n : Int) (hn : 1 ≤ n ∧ n ≤ 100000) :
    ∃ r, spec_l6Rd_pick.f (k + 1) bs p n = some (r, p + 1) ∧ 0 ≤ r ∧ r < n := by
  unfold spec_l6Rd_pick.f
  rw [if_neg (by omega)]
  have hw1 : wrap64 (p + 1) = p + 1 := w64 (by omega)
  have hw2 : wrap64 (p + 1 - 1) = p := by rw [w64 (by omega)]; omega
  simp only [spec_l6Rd_pick.j0, hw1, hw2]
  have hl := hb.1
  by_cases h0 : (bs.length : Int) = 0
  · rw [if_pos (by simpa using h0)]
    exact ⟨0, rfl, by omega, by omega⟩
  · rw [if_neg (by simpa using h0)]
    by_cases h1 : p < (bs.length : Int)
    · obtain ⟨r0, r1⟩ := rd_code hb p
      rw [if_pos h1, if_pos hp.1, if_neg (by omega), w64 (by omega)]
      exact ⟨_, rfl, Int.tmod_nonneg _ r0, Int.tmod_lt_of_pos _ (by omega)⟩
    · rw [if_neg h1, if_neg h0]
      have hw3 : wrap64 (p * 7) = p * 7 := w64 (by omega)
      have hw4 : wrap64 (p * 7 + 3) = p * 7 + 3 := w64 (by omega)
      have m1 := Int.tmod_nonneg (bs.length : Int) hp.1
      have m2 := Int.tmod_lt_of_pos p (show (0 : Int) < (bs.length : Int) by omega)
      have m3 := Int.tmod_nonneg (bs.length : Int) (show (0 : Int) ≤ p * 7 + 3 by omega)
      have m4 := Int.tmod_lt_of_pos (p * 7 + 3) (show (0 : Int) < (bs.length : Int) by omega)
      have d0 : 0 ≤ Int.tdiv p (bs.length : Int) := Int.tdiv_nonneg hp.1 (by omega)
      have d1 : Int.tdiv p (bs.length : Int) ≤ p := by
        rw [Int.tdiv_eq_ediv_of_nonneg hp.1]
        exact Int.ediv_le_self _ hp.1
      rw [hw3, hw4, if_pos m1, if_pos m2, if_pos m3, if_pos m4, if_neg (by omega)]
      obtain ⟨a0, a1⟩ := rd_code hb (Int.tmod p (bs.length : Int))
      obtain ⟨b0, b1⟩ := rd_code hb (Int.tmod (p * 7 + 3) (bs.length : Int))
      generalize rd bs (Int.tmod p (bs.length : Int)) = A at *
      generalize rd bs (Int.tmod (p * 7 + 3) (bs.length : Int)) = B at *
      generalize Int.tdiv p (bs.length : Int) = D at *
      clear m1 m2 m3 m4 hw1 hw2 hw3 hw4
      have e1 : wrap64 (wrap64 (wrap64 (wrap64 (wrap64 A * 131) + wrap64 (wrap64 B * 1117)) + wrap64 (p * 29)) + wrap64 (wrap64 D * 53)) = A * 131 + B * 1117 + p * 29 + D * 53 := by
        rw [w64 (x := A) (by omega), w64 (x := B) (by omega), w64 (x := D) (by omega), w64 (x := A * 131) (by omega), w64 (x := B * 1117) (by omega), w64 (x := p * 29) (by omega), w64 (x := D * 53) (by omega), w64 (x := A * 131 + B * 1117) (by omega), w64 (x := A * 131 + B * 1117 + p * 29) (by omega), w64 (by omega)]
      rw [e1]
      have hX : 0 ≤ A * 131 + B * 1117 + p * 29 + D * 53 ∧ A * 131 + B * 1117 + p * 29 + D * 53 ≤ 1000000000000 := by omega
      generalize A * 131 + B * 1117 + p * 29 + D * 53 = X at *
      have hd : Int.tdiv X 64 = X / 64 := Int.tdiv_eq_ediv_of_nonneg hX.1
      rw [hd, w64 (by omega)]
      have hY := bits_nonneg X (X / 64) (by omega) (by omega)
      exact ⟨_, rfl, Int.tmod_nonneg _ hY, Int.tmod_lt_of_pos _ (by omega)⟩
theorem l71End_to (k : Nat) {bs : List Int} (hb : isCode bs) (p : Int) (hp : 0 ≤ p ∧ p ≤ 90000000) :
    ∃ a b q, spec_l71End.f (k + 5) bs p = some (a, b, q) ∧ (0 ≤ a ∧ a ≤ 100 ∧ 0 ≤ b ∧ b ≤ 100) ∧ p ≤ q ∧ q ≤ p + 3 := by
  obtain ⟨r, hr, r0, r1⟩ := pick_to (k + 4) hb p (by omega) 12 (by omega)
  obtain ⟨x3, h3, x30, x31⟩ := pick_to (k + 3) hb (p + 1) (by omega) 3 (by omega)
  obtain ⟨x9, h9, x90, x91⟩ := pick_to (k + 3) hb (p + 1 + 1) (by omega) 9 (by omega)
  obtain ⟨y3, g3, y30, y31⟩ := pick_to (k + 2) hb (p + 1) (by omega) 3 (by omega)
  obtain ⟨y9, g9, y90, y91⟩ := pick_to (k + 2) hb (p + 1 + 1) (by omega) 9 (by omega)
  obtain ⟨z8, i8, z80, z81⟩ := pick_to (k + 1) hb (p + 1) (by omega) 8 (by omega)
  obtain ⟨z12, i12, z120, z121⟩ := pick_to (k + 1) hb (p + 1) (by omega) 12 (by omega)
  obtain ⟨z20, i20, z200, z201⟩ := pick_to (k + 1) hb (p + 1 + 1) (by omega) 20 (by omega)
  have w1 : wrap64 (1 + x3) = 1 + x3 := w64 (by omega)
  have w2 : wrap64 (1 + x9) = 1 + x9 := w64 (by omega)
  have w3 : wrap64 (4 + y3) = 4 + y3 := w64 (by omega)
  have w4 : wrap64 (1 + y9) = 1 + y9 := w64 (by omega)
  have w5 : wrap64 (10 + z8) = 10 + z8 := w64 (by omega)
  have w6 : wrap64 (1 + y3) = 1 + y3 := w64 (by omega)
  have key : spec_l71End.f (k + 5) bs p = some (1 + x3, 1 + x9, p + 1 + 1 + 1) ∨ spec_l71End.f (k + 5) bs p = some (4 + y3, 1 + y9, p + 1 + 1 + 1) ∨ spec_l71End.f (k + 5) bs p = some (9, 10 + z8, p + 1 + 1) ∨ spec_l71End.f (k + 5) bs p = some (z12, z20, p + 1 + 1 + 1) := by
    simp only [spec_l71End.f, spec_l71End.j0, spec_l71End.j1, spec_l71End.j2, hr, h3, h9, g3, g9, i8, i12, i20, Option.bind_some, w1, w2, w3, w4, w5]
    have hc : r = 0 ∨ r = 1 ∨ r = 2 ∨ r = 3 ∨ r = 4 ∨ r = 5 ∨ r = 6 ∨ r = 7 ∨ r = 8 ∨ r = 9 ∨ r = 10 ∨ r = 11 := by omega
    clear hr h3 h9 g3 g9 i8 i12 i20
    rcases hc with rfl | rfl | rfl | rfl | rfl | rfl | rfl | rfl | rfl | rfl | rfl | rfl
    · exact .inl rfl
    · exact .inl rfl
    · exact .inl rfl
    · exact .inl rfl
    · exact .inr (.inl rfl)
    · exact .inr (.inl rfl)
    · exact .inr (.inl rfl)
    · exact .inr (.inr (.inl rfl))
    · exact .inr (.inr (.inl rfl))
    · exact .inr (.inr (.inl rfl))
    · exact .inr (.inr (.inl rfl))
    · exact .inr (.inr (.inr rfl))
  rcases key with h | h | h | h <;> exact ⟨_, _, _, h, by omega, by omega, by omega⟩
theorem l3Out_any (l : List S69) (hl : l.length ≤ 1000) (x y : Int) (n : Nat) : ∀ (k i : Nat), l.length - i ≤ n → n < k → ∃ r1 r2 r3, spec_l3Out.l0 k l i x y = some (r1, r2, r3) ∧ r1.length ≤ l.length + 1 := by
  induction n with
  | zero =>
    intro k i hn hk
    obtain ⟨k, rfl⟩ : ∃ m, k = m + 1 := ⟨k - 1, by omega⟩
    simp only [spec_l3Out.l0]
    rw [if_neg (by omega)]
    split
    · exact ⟨_, _, _, rfl, by omega⟩
    · rw [if_pos (by omega)]
      exact ⟨_, _, _, rfl, by simp⟩
  | succ n ih =>
    intro k i hn hk
    obtain ⟨k, rfl⟩ : ∃ m, k = m + 1 := ⟨k - 1, by omega⟩
    simp only [spec_l3Out.l0]
    by_cases hlt : i < l.length
    · have hw3 : wrap64 ((i : Int) + 1) = ((i + 1 : Nat) : Int) := by rw [w64 (by omega)]; omega
      rw [if_pos (by omega), if_pos (by omega)]
      split
      · exact ⟨_, _, _, rfl, by omega⟩
      · rw [hw3]
        exact ih k (i + 1) (by omega) (by omega)
    · rw [if_neg (by omega)]
      split
      · exact ⟨_, _, _, rfl, by omega⟩
      · rw [if_pos (by omega)]
        exact ⟨_, _, _, rfl, by simp⟩
theorem l71Map_l0 {bs : List Int} (hb : isCode bs) (n : Nat) : ∀ (k : Nat) (l : List S69) (p : Int), n ≤ 20 → l.length + n ≤ 30 → n + 40 < k → 0 ≤ p → p + 3 * n ≤ 80000000 →
    ∃ r q, spec_l71Map.l0 k l n bs p = some (r, q) ∧ r.length ≤ 31 ∧ p ≤ q ∧ q ≤ p + 2 * n + 10 := by
  induction n with
  | zero =>
    intro k l p hn hl hk h0 h1
    obtain ⟨k, rfl⟩ : ∃ m, k = m + 6 := ⟨k - 6, by omega⟩
    simp only [spec_l71Map.l0]
    rw [if_neg (by omega)]
    obtain ⟨a, ha, a0, a1⟩ := pick_to (k + 4) hb p (by omega) 20 (by omega)
    rw [ha, Option.bind_some]
    by_cases c0 : a = 0
    · rw [if_pos c0]
      obtain ⟨b, hbb, b0, b1⟩ := pick_to (k + 4) hb (p + 1) (by omega) 9 (by omega)
      obtain ⟨e1, e2, q, he, _, hq⟩ := l71End_to k hb (p + 1 + 1) (by omega)
      rw [hbb, Option.bind_some, he, Option.bind_some, if_pos (by omega)]
      exact ⟨_, _, rfl, by simp; omega, by (try dsimp only); omega, by (try dsimp only); omega⟩
    · rw [if_neg c0]
      by_cases c1 : a = 1
      · rw [if_pos c1]
        by_cases c2 : (l.length : Int) > 0
        · rw [if_pos c2]
          obtain ⟨b, hbb, b0, b1⟩ := pick_to (k + 4) hb (p + 1) (by omega) (l.length : Int) (by omega)
          obtain ⟨e1, e2, q, he, _, hq⟩ := l71End_to k hb (p + 1 + 1) (by omega)
          rw [hbb, Option.bind_some, he, Option.bind_some, if_pos b0, if_pos b1]
          exact ⟨_, _, rfl, by rw [List.length_set]; omega, by (try dsimp only); omega, by (try dsimp only); omega⟩
        · rw [if_neg c2]
          exact ⟨_, _, rfl, by omega, by omega, by omega⟩
      · rw [if_neg c1]
        by_cases c3 : a = 2
        · rw [if_pos c3]
          by_cases c2 : (l.length : Int) > 0
          · rw [if_pos c2, if_pos (by omega)]
            exact ⟨_, _, rfl, by rw [List.length_drop]; omega, by omega, by omega⟩
          · rw [if_neg c2]
            exact ⟨_, _, rfl, by omega, by omega, by omega⟩
        · rw [if_neg c3]
          exact ⟨_, _, rfl, by omega, by omega, by omega⟩
  | succ n ih =>
    intro k l p hn hl hk h0 h1
    obtain ⟨k, rfl⟩ : ∃ m, k = m + 2 := ⟨k - 2, by omega⟩
    simp only [spec_l71Map.l0]
    rw [if_pos (by omega)]
    obtain ⟨a, ha, a0, a1⟩ := pick_to k hb p (by omega) 3 (by omega)
    obtain ⟨b, hbb, b0, b1⟩ := pick_to k hb (p + 1) (by omega) 9 (by omega)
    rw [ha, Option.bind_some, hbb, Option.bind_some]
    obtain ⟨r1, r2, r3, ho, hr⟩ := l3Out_any l (by omega) (wrap64 (1 + a)) (wrap64 (1 + b)) l.length (k + 1) 0 (by omega) (by omega)
    have ho' : spec_l3Out.f (k + 1) l (wrap64 (1 + a)) (wrap64 (1 + b)) = some (r1, r2, r3) := ho
    have hw : wrap64 (((n + 1 : Nat) : Int) - 1) = (n : Int) := by rw [w64 (by omega)]; omega
    rw [ho', Option.bind_some, hw]
    obtain ⟨r, q, h2, h3, h4, h5⟩ := ih (k + 1) r1 (p + 1 + 1) (by omega) (by omega) (by omega) (by omega) (by omega)
    exact ⟨r, q, h2, h3, by omega, by omega⟩
theorem l71Map_to (k : Nat) (hk : 100 < k) {bs : List Int} (hb : isCode bs) (p : Int) (hp : 0 ≤ p ∧ p ≤ 70000000) :
    ∃ r q, spec_l71Map.f k bs p = some (r, q) ∧ r.length ≤ 31 ∧ p ≤ q ∧ q ≤ p + 100 := by
  obtain ⟨k, rfl⟩ : ∃ m, k = m + 1 := ⟨k - 1, by omega⟩
  obtain ⟨a, ha, a0, a1⟩ := pick_to k hb p (by omega) 10 (by omega)
  obtain ⟨n, rfl⟩ := Int.eq_ofNat_of_zero_le a0
  obtain ⟨r, q, h2, h3, h4, h5⟩ := l71Map_l0 hb n (k + 1) [] (p + 1) (by omega) (by simp; omega) (by omega) (by omega) (by omega)
  refine ⟨r, q, ?_, h3, by omega, by omega⟩
  unfold spec_l71Map.f
  rw [ha, Option.bind_some]
  exact h2
theorem l6Many_l0 (n : Nat) : ∀ (k : Nat) (x acc : ByteArray) (c : Nat), c ≤ n → n ≤ 100000 → n < k → acc.size + x.size * c ≤ 100000 → ∃ r, spec_l6Many.l0 k x c acc = some r ∧ r.size = acc.size + x.size * c := by
  induction n using Nat.strongRecOn with
  | _ n ih =>
    intro k x acc c hc hn hk h1
    obtain ⟨k, rfl⟩ : ∃ m, k = m + 1 := ⟨k - 1, by omega⟩
    simp only [spec_l6Many.l0]
    by_cases h0 : 0 < c
    · obtain ⟨q, b, e0, hb, hq⟩ : ∃ q b, c = 2 * q + b ∧ b < 2 ∧ q < n := ⟨c / 2, c % 2, by omega, by omega, by omega⟩
      have hm : Int.tmod (c : Int) 2 = (b : Int) := by rw [Int.tmod_eq_emod_of_nonneg (by omega)]; omega
      have hd : wrap64 (Int.tdiv (c : Int) 2) = (q : Int) := by rw [Int.tdiv_eq_ediv_of_nonneg (by omega), w64 (by omega)]; omega
      have hxx : (x ++ x).size = x.size + x.size := ByteArray.size_append
      have hax : (acc ++ x).size = acc.size + x.size := ByteArray.size_append
      have hx1 : x.size ≤ x.size * c := Nat.le_mul_of_pos_right _ h0
      rw [if_pos (by omega), hm, hd]
      clear hm hd
      have e2 : (x ++ x).size * q = 2 * (x.size * q) := by rw [hxx, Nat.add_mul]; omega
      have hcases : b = 0 ∨ b = 1 := by omega
      rcases hcases with rfl | rfl
      · have e1 : x.size * c = 2 * (x.size * q) := by rw [e0, Nat.add_zero, Nat.mul_left_comm]
        rw [if_neg (by omega), if_pos (by omega)]
        obtain ⟨r, hr, hs⟩ := ih q hq k (x ++ x) acc q (Nat.le_refl _) (by omega) (by omega) (by omega)
        exact ⟨r, hr, by omega⟩
      · have e1 : x.size * c = 2 * (x.size * q) + x.size := by rw [e0, Nat.mul_add, Nat.mul_one, Nat.mul_left_comm]
        rw [if_pos (by omega), if_pos (by omega), if_pos (by omega)]
        obtain ⟨r, hr, hs⟩ := ih q hq k (x ++ x) (acc ++ x) q (Nat.le_refl _) (by omega) (by omega) (by omega)
        exact ⟨r, hr, by omega⟩
    · obtain rfl : c = 0 := by omega
      rw [if_neg (by omega)]
      exact ⟨acc, rfl, by simp⟩
theorem of_to (k : Nat) {bs : List Int} (hb : isCode bs) (p : Int) (hp : 0 ≤ p ∧ p ≤ 90000000) (xs : List ByteArray) (hx : 1 ≤ xs.length ∧ xs.length ≤ 1000) (M : Nat) (hM : ∀ x ∈ xs, x.size ≤ M) :
    ∃ r, spec_l6Rd_of.f (k + 1) bs p xs = some (r, p + 1) ∧ r.size ≤ M := by
  obtain ⟨a, ha, a0, a1⟩ := pick_to k hb p (by omega) (xs.length : Int) (by omega)
  unfold spec_l6Rd_of.f
  rw [ha, Option.bind_some, if_pos a0, if_pos a1]
  refine ⟨_, rfl, ?_⟩
  unfold rdOf
  have hi : a.toNat < xs.length := by omega
  rw [List.getD_eq_getElem?_getD, List.getElem?_eq_getElem hi]
  exact hM _ (List.getElem_mem hi)
theorem pick_at (k : Nat) (hk : 0 < k) {bs : List Int} (hb : isCode bs) (p : Int) (hp : 0 ≤ p ∧ p ≤ 100000000) (n : Int) (hn : 1 ≤ n ∧ n ≤ 100000) :
    ∃ r, spec_l6Rd_pick.f k bs p n = some (r, p + 1) ∧ 0 ≤ r ∧ r < n := by
  obtain ⟨k, rfl⟩ : ∃ m, k = m + 1 := ⟨k - 1, by omega⟩
  exact pick_to k hb p hp n hn
theorem l71End_at (k : Nat) (hk : 4 < k) {bs : List Int} (hb : isCode bs) (p : Int) (hp : 0 ≤ p ∧ p ≤ 90000000) :
    ∃ a b q, spec_l71End.f k bs p = some (a, b, q) ∧ (0 ≤ a ∧ a ≤ 100 ∧ 0 ≤ b ∧ b ≤ 100) ∧ p ≤ q ∧ q ≤ p + 3 := by
  obtain ⟨k, rfl⟩ : ∃ m, k = m + 5 := ⟨k - 5, by omega⟩
  exact l71End_to k hb p hp
theorem of_at (k : Nat) (hk : 0 < k) {bs : List Int} (hb : isCode bs) (p : Int) (hp : 0 ≤ p ∧ p ≤ 90000000) (xs : List ByteArray) (hx : 1 ≤ xs.length ∧ xs.length ≤ 1000) (M : Nat) (hM : ∀ x ∈ xs, x.size ≤ M) :
    ∃ r, spec_l6Rd_of.f k bs p xs = some (r, p + 1) ∧ r.size ≤ M := by
  obtain ⟨k, rfl⟩ : ∃ m, k = m + 1 := ⟨k - 1, by omega⟩
  exact of_to k hb p hp xs hx M hM
theorem l71Text_l0 {bs : List Int} (hb : isCode bs) (M : Nat) (hM : M ≤ 1000) (n : Nat) : ∀ (k : Nat) (s : ByteArray) (p : Int), n ≤ 20 → n + 10 < k → 0 ≤ p → p + 10 * n ≤ 80000000 → s.size ≤ M →
    ∃ r q, spec_l71Text.l0 k M s n bs p = some (r, q) ∧ r.size ≤ M ∧ p ≤ q ∧ q ≤ p + 10 * n := by
  induction n with
  | zero =>
    intro k s p hn hk h0 h1 hs
    obtain ⟨k, rfl⟩ : ∃ m, k = m + 1 := ⟨k - 1, by omega⟩
    simp only [spec_l71Text.l0]
    rw [if_neg (by omega)]
    exact ⟨s, p, rfl, hs, by omega, by omega⟩
  | succ n ih =>
    intro k s p hn hk h0 h1 hs
    obtain ⟨k, rfl⟩ : ∃ m, k = m + 1 := ⟨k - 1, by omega⟩
    simp only [spec_l71Text.l0]
    rw [if_pos (by omega)]
    have hw : wrap64 (((n + 1 : Nat) : Int) - 1) = (n : Int) := by rw [w64 (by omega)]; omega
    rw [hw]
    clear hw
    obtain ⟨x, hx, hx2⟩ := of_at k (by omega) hb p (by omega) [(⟨#[97]⟩ : ByteArray), (⟨#[98, 99]⟩ : ByteArray), (⟨#[64]⟩ : ByteArray), (⟨#[64, 49]⟩ : ByteArray), (⟨#[59]⟩ : ByteArray), (⟨#[58, 53]⟩ : ByteArray), (⟨#[120, 49]⟩ : ByteArray), (⟨#[64, 64]⟩ : ByteArray), (⟨#[64, 49, 58]⟩ : ByteArray), (⟨#[55]⟩ : ByteArray)] ⟨by decide, by decide⟩ 3 (by decide)
    obtain ⟨b, hbb, b0, b1⟩ := pick_at k (by omega) hb (p + 1) (by omega) 5 (by omega)
    rw [hx, Option.bind_some]
    simp only
    rw [hbb, Option.bind_some]
    simp only
    by_cases c3 : b < 3
    · rw [if_pos c3]
      obtain ⟨e1, e2, q, he, _, hq⟩ := l71End_at k (by omega) hb (p + 1 + 1) (by omega)
      have hl := endText_len ⟨e1, e2⟩
      obtain ⟨t, ht⟩ : ∃ t, t = mkB (endText ⟨e1, e2⟩) := ⟨_, rfl⟩
      have hE : spec_EndText.f e1 e2 = some t := by rw [ht]; rfl
      have ht2 : t.size ≤ 5 := by rw [ht]; exact hl
      rw [he, Option.bind_some]
      simp only
      rw [hE, Option.bind_some]
      have hsz1 : ((⟨#[64]⟩ : ByteArray) ++ t).size = 1 + t.size := by rw [ByteArray.size_append]; rfl
      have hsz2 : (((⟨#[64]⟩ : ByteArray) ++ t) ++ (⟨#[59]⟩ : ByteArray)).size = 1 + t.size + 1 := by rw [ByteArray.size_append, hsz1]; rfl
      obtain ⟨y, hy⟩ : ∃ y, y = (((⟨#[64]⟩ : ByteArray) ++ t) ++ (⟨#[59]⟩ : ByteArray)) := ⟨_, rfl⟩
      rw [if_pos (by omega), if_pos (by rw [hsz1]; omega), ← hy]
      rw [← hy] at hsz2
      have hw2 : wrap64 ((s.size : Int) + (y.size : Int)) = (s.size : Int) + (y.size : Int) := w64 (by omega)
      rw [hw2]
      clear hw2
      by_cases c4 : (s.size : Int) + (y.size : Int) ≤ (M : Int)
      · rw [if_pos c4, if_pos (by omega)]
        obtain ⟨r, q2, g1, g2, g3, g4⟩ := ih k (s ++ y) q (by omega) (by omega) (by omega) (by omega) (by rw [ByteArray.size_append]; omega)
        exact ⟨r, q2, g1, g2, by omega, by omega⟩
      · rw [if_neg c4]
        obtain ⟨r, q2, g1, g2, g3, g4⟩ := ih k s q (by omega) (by omega) (by omega) (by omega) hs
        exact ⟨r, q2, g1, g2, by omega, by omega⟩
    · rw [if_neg c3]
      have hw2 : wrap64 ((s.size : Int) + (x.size : Int)) = (s.size : Int) + (x.size : Int) := w64 (by omega)
      rw [hw2]
      clear hw2
      by_cases c4 : (s.size : Int) + (x.size : Int) ≤ (M : Int)
      · rw [if_pos c4, if_pos (by omega)]
        obtain ⟨r, q2, g1, g2, g3, g4⟩ := ih k (s ++ x) (p + 1 + 1) (by omega) (by omega) (by omega) (by omega) (by rw [ByteArray.size_append]; omega)
        exact ⟨r, q2, g1, g2, by omega, by omega⟩
      · rw [if_neg c4]
        obtain ⟨r, q2, g1, g2, g3, g4⟩ := ih k s (p + 1 + 1) (by omega) (by omega) (by omega) (by omega) hs
        exact ⟨r, q2, g1, g2, by omega, by omega⟩
theorem l71Text_to (k : Nat) (hk : 100 < k) {bs : List Int} (hb : isCode bs) (p : Int) (hp : 0 ≤ p ∧ p ≤ 70000000) (M : Nat) (hM : M ≤ 1000) :
    ∃ r q, spec_l71Text.f k bs p M = some (r, q) ∧ r.size ≤ M ∧ p ≤ q ∧ q ≤ p + 100 := by
  obtain ⟨k, rfl⟩ : ∃ m, k = m + 1 := ⟨k - 1, by omega⟩
  obtain ⟨a, ha, a0, a1⟩ := pick_to k hb p (by omega) 7 (by omega)
  obtain ⟨n, rfl⟩ := Int.eq_ofNat_of_zero_le a0
  obtain ⟨r, q, h2, h3, h4, h5⟩ := l71Text_l0 hb M hM n (k + 1) ⟨#[]⟩ (p + 1) (by omega) (by omega) (by omega) (by omega) (Nat.zero_le _)
  refine ⟨r, q, ?_, h3, by omega, by omega⟩
  unfold spec_l71Text.f
  rw [ha, Option.bind_some]
  exact h2
theorem l71Off_to (k : Nat) (hk : 200 < k) {bs : List Int} (hb : isCode bs) (p : Int) (hp : 0 ≤ p ∧ p ≤ 60000000) :
    ∃ r q, spec_l71Off.f k bs p = some (r, q) ∧ r.size ≤ 100 ∧ p ≤ q ∧ q ≤ p + 200 := by
  obtain ⟨k, rfl⟩ : ∃ m, k = m + 1 := ⟨k - 1, by omega⟩
  obtain ⟨t, q, ht, ht2, ht3, ht4⟩ := l71Text_to (k + 1) (by omega) hb p (by omega) 30 (by omega)
  obtain ⟨a, ha, a0, a1⟩ := pick_to k hb q (by omega) 24 (by omega)
  unfold spec_l71Off.f
  rw [show spec_l71Text.f (k + 1) bs p 30 = some (t, q) from ht, Option.bind_some]
  simp only
  rw [ha, Option.bind_some]
  simp only
  by_cases c0 : a = 0
  · rw [if_pos c0, if_pos (by omega)]
    exact ⟨_, _, rfl, by rw [ByteArray.size_append]; show t.size + 1 ≤ 100; omega, by (try dsimp only); omega, by (try dsimp only); omega⟩
  · rw [if_neg c0]
    by_cases c1 : a = 1
    · rw [if_pos c1]
      obtain ⟨b, hbb, b0, b1⟩ := pick_to k hb (q + 1) (by omega) 5 (by omega)
      obtain ⟨c, rfl⟩ := Int.eq_ofNat_of_zero_le b0
      have hw : wrap64 (38 + (c : Int)) = ((38 + c : Nat) : Int) := by rw [w64 (by omega)]; omega
      obtain ⟨r, hr, hs⟩ := l6Many_l0 (38 + c) (k + 1) ⟨#[97]⟩ ⟨#[]⟩ (38 + c) (Nat.le_refl _) (by omega) (by omega) (by show 0 + 1 * (38 + c) ≤ _; omega)
      have hr' : spec_l6Many.f (k + 1) (⟨#[97]⟩ : ByteArray) ((38 + c : Nat) : Int) = some r := hr
      rw [hbb, Option.bind_some]
      simp only
      rw [hw, hr', Option.bind_some]
      exact ⟨_, _, rfl, by rw [hs]; show 0 + 1 * (38 + c) ≤ _; omega, by (try dsimp only); omega, by (try dsimp only); omega⟩
    · rw [if_neg c1]
      exact ⟨_, _, rfl, by omega, by (try dsimp only); omega, by (try dsimp only); omega⟩
theorem l6Open_to {code : List Int} (hc : ∀ b ∈ code, (0 : Int) ≤ b ∧ b ≤ 255) : ∃ bs, spec_l6Open.f code = some (bs, 0) ∧ isCode bs := by
  unfold spec_l6Open.f
  by_cases h : (code.length : Int) > 2000
  · rw [if_pos h, if_pos (by omega)]
    exact ⟨_, rfl, by rw [List.length_take]; omega, fun b hb => hc b (List.mem_of_mem_take hb)⟩
  · rw [if_neg h]
    exact ⟨_, rfl, by omega, hc⟩
end Go.Proofs.YtijompkonaiagaaGreatDoor.Q
namespace Go.Proofs.YtijompkonaiagaaGreatDoor.Q
open Go.RowKit Go.Proofs.YtijompkonaiagaaGreatDoorW.PrintWords Go.Proofs.YtijompkonaiagaaGreatDoorW.PrintLast Go.Proofs.YtijompkonaiagaaGreatDoorW.PrintMore
attribute [local go_sem] max2_int min2_int max_two min_two max_three min_three max_four min_four
set_option linter.unusedVariables false
set_option linter.unusedSimpArgs false
noncomputable section
def spec_l3Copy.f (l0 : List (S69)) : Option ((List (S69))) := (some (([] : List (S69)) : List (S69))).bind fun y101 => (if y101.length + l0.length < 5864062014805 then (some (y101 ++ l0)) else (none))
set_option maxHeartbeats 8000000 in
set_option maxRecDepth 100000 in
theorem spec_l3Copy.calls (A0 : Option Addr) (c0 : Nat) (l0 : List (S69)) (r : List (S69)) (w : World) (hr0 : Kd.C k69 w A0 l0.length l0) (hc0 : l0.length ≤ c0) (h : spec_l3Copy.f l0 = some r) :
    Calls Tryz.prog 62 #[.slice A0 l0.length c0] w fun e w' => ∃ v0_ : Value, e = .returned (v0_) ∧ Kd.R k69 69 w' w.heap.size (fun _ => True) v0_ r ∧ Below w.heap.size w w' := by
  have HR0 := Aside0.mk hr0
  have HC0 := Aside0.mk hc0
  clear hr0 hc0
  have HB := Aside0.mk (Below.refl w.heap.size w)
  have H : ((some (([] : List (S69)) : List (S69))).bind fun y101 => (if y101.length + l0.length < 5864062014805 then (some (y101 ++ l0)) else (none))) = some r := h
  clear h
  obtain ⟨y101, hy101⟩ : ∃ y_ : List (S69), y_ = (([] : List (S69))) := ⟨_, rfl⟩
  replace H : (if y101.length + l0.length < 5864062014805 then (some (y101 ++ l0)) else (none)) = some r := by first | (rw [hy101]; with_reducible exact H) | (have H2_ := (Option.bind_some _ _).symm.trans H; rw [hy101]; with_reducible exact H2_) | (have H2_ := (Option.bind_some _ _).symm.trans H; with_reducible exact H2_) | with_reducible exact H | (rw [hy101]; exact H) | exact H
  have Ny101 := Aside0.mk hy101
  clear hy101
  by_cases c2 : y101.length + l0.length < 5864062014805
  · rw [if_pos c2] at H
    have LMc2 := Aside0.mk c2
    clear c2
    obtain ⟨y104, hy104⟩ : ∃ y_ : List (S69), y_ = (y101 ++ l0) := ⟨_, rfl⟩
    replace H : (some y104) = some r := by first | (rw [hy104]; with_reducible exact H) | (have H2_ := (Option.bind_some _ _).symm.trans H; rw [hy104]; with_reducible exact H2_) | (have H2_ := (Option.bind_some _ _).symm.trans H; with_reducible exact H2_) | with_reducible exact H | (rw [hy104]; exact H) | exact H
    have Ny104 := Aside0.mk hy104
    clear hy104
    obtain rfl := Option.some.inj H
    go_enter Tryz.func62, Tryz.ntmps62
    go_wp2_with (first | ((with_reducible refine gate_dst (N := 3) rfl ?_); refine Kd.R_lit k69 _ 69 ?hg (N := 3) ?hd (xs := ([] : List (S69))) (inner := []) (ok := fun _ => True) (okp := fun _ => True) ?hr ?hp (fun _ hk => hk) trivial (Below.refl _ _) (Nat.le_refl _) (by simp) ?_; (case hd => rfl); (case hg => rfl); (case hr => first | (go_simp; done) | (go_simp; rfl)); (case hp => exact (Reps.none _ _)); intro v102 w3 ho4 hb hg_ hnew_; clear hg_ hnew_; (first | rw [← Ny101.out] at ho4 | (simp only [Int.reduceToNat] at ho4; rw [← Ny101.out] at ho4)); have n0_ := Aside0.mk (Kd.R_lower ho4 (below_size (by repeat (first | (with_reducible first | exact HB.out | apply below_alloc | apply pw_below_drewN | apply below_drew1) | exact HB.out)))); have n1_ := Aside0.mk (below_step (by repeat (first | (with_reducible first | exact HB.out | apply below_alloc | apply pw_below_drewN | apply below_drew1) | exact HB.out)) hb); clear HB; have HO103 := n0_; have HB := n1_; clear n0_ n1_; clear hb ho4) | ((with_reducible refine gate_builtin (b := .append) (xs := #[.tmp 3, .tmp 4]) rfl ?_); at_builtin; refine Kd.R_append_rows k69 (w0 := w) w.heap.size rfl (.tmp 3) (.tmp 4) 37 69 (.agg #[(.int .i64 0), (.int .i64 0), (.int .i64 0)]) 24 rfl Tryz.underlying37 info69 rfl (by decide) (by omega) v102 y101 l0 _ _ _ (fun _ => True) (fun _ => False) rfl rfl ?aO ?aR (fun _ _ h => h) (fun _ h => h.elim) ?aF ?aB ?aS ?aL ?_; (case aR => repeat (first | exact (Kd.C_below HR0.out HB.out) | (with_reducible refine Kd.C_alloc ?_ _) | (with_reducible refine Kd.C_drewN ?_ _) | (with_reducible refine Kd.C_drew ?_))); (case aB => exact (by repeat (first | (with_reducible first | exact HB.out | apply below_alloc | apply pw_below_drewN | apply below_drew1) | exact HB.out))); (case aF => exact (fun _ _ => trivial)); (case aO => exact (by (with_reducible repeat (first | apply Kd.R_alloc | apply Kd.R_drewN | apply Kd.R_drew)); exact HO103.out)); (case aS => exact (below_size (by repeat (first | (with_reducible first | exact HB.out | apply below_alloc | apply pw_below_drewN | apply below_drew1) | exact HB.out)))); (case aL => have := LMc2.out; omega); intro v105 w5 ho hb hg hat; rw [← Ny104.out] at ho; have n0_ := Aside0.mk (hb); have n1_ := Aside0.mk (ho); clear HB; clear HO103; have HB := n0_; have HO106 := n1_; clear n0_ n1_; clear ho hb hg hat))
    go_ret
    exact ⟨_, by first | rfl | (simp [errW_none, errW_some] <;> rfl) | (simp [*, errW_none, errW_some] <;> rfl), by (with_reducible repeat (first | apply Kd.R_alloc | apply Kd.R_drewN | apply Kd.R_drew)); exact HO106.out, by repeat (first | (with_reducible first | exact HB.out | apply below_alloc | apply pw_below_drewN | apply below_drew1) | exact HB.out)⟩
  · rw [if_neg c2] at H
    exact absurd H (by simp)
end
end Go.Proofs.YtijompkonaiagaaGreatDoor.Q
namespace Go.Proofs.YtijompkonaiagaaGreatDoor.Q
open Go.RowKit Go.Proofs.YtijompkonaiagaaGreatDoorW.PrintWords Go.Proofs.YtijompkonaiagaaGreatDoorW.PrintLast Go.Proofs.YtijompkonaiagaaGreatDoorW.PrintMore
attribute [local go_sem] max2_int min2_int max_two min_two max_three min_three max_four min_four
set_option linter.unusedVariables false
set_option linter.unusedSimpArgs false
noncomputable section
attribute [local go_sem high] eqA24
set_option maxHeartbeats 8000000 in
set_option maxRecDepth 100000 in
theorem spec_l3Out.calls2 (k : Nat) (P0_ : Nat → Prop) (u9000_ : Value) (l0 : List (S69)) (a1_0 : Int) (a1_1 : Int) (r1 : List (S69)) (r2 : Int) (r3 : Bool) (w0 w : World) (hB : Below w0.heap.size w0 w) (ho0 : Kd.R k69 69 w w0.heap.size P0_ u9000_ l0) (h : spec_l3Out.f k l0 a1_0 a1_1 = some (r1, r2, r3)) :
    Calls Tryz.prog 95 #[u9000_, .agg #[.int .i64 a1_0, .int .i64 a1_1]] w fun e w' => ∃ v0_ : Value, e = .returned (.tuple #[v0_, .int .i64 r2, .bool r3]) ∧ Kd.R k69 69 w' w0.heap.size (fun k_ => (P0_ k_ ∨ w.heap.size ≤ k_)) v0_ r1 ∧ Below w0.heap.size w0 w' ∧ Kept w w' (fun k_ => P0_ k_) ∧ (r3 = false → v0_ = u9000_) := by
  have hu24 := Tryz.underlying24
  have hu69 := Tryz.underlying69
  have HO0 := Aside0.mk (show Kd.R k69 69 w w0.heap.size (fun k_ => (P0_ k_ ∨ w.heap.size ≤ k_)) u9000_ l0 from Kd.R_mono ho0 (fun k_ hk => (.inl hk)))
  have HK := Aside0.mk (Kept.refl w (fun k_ => P0_ k_))
  have HW0 := Aside0.mk hB.size
  have HB := Aside0.mk hB
  clear hB
  have H : (spec_l3Out.l0 k l0 0 a1_0 a1_1) = some (r1, r2, r3) := h
  clear h
  have H' := Aside0.mk H
  clear H
  go_enter Tryz.func95, Tryz.ntmps95
  go_wp2_with (first | ((with_reducible refine gate_dst (N := 3) rfl ?_); refine box_event ?hg (N := 3) ?hd (cs := #[.int .i64 a1_0, .int .i64 a1_1]) (t := 24) ?hr ?_; (case hd => rfl); (case hg => rfl); (case hr => first | (go_simp; done) | (go_simp; rfl)); intro gb101 hg w3 hbox hb; have n0_ := Aside0.mk (Kd.R_below (by (with_reducible repeat (first | apply Kd.R_alloc | apply Kd.R_drewN | apply Kd.R_drew)); exact HO0.out) hb); have n1_ := Aside0.mk (Kept.below (S := (fun k_ => P0_ k_)) (by repeat (first | (with_reducible first | exact HK.out | apply Kept.alloc | apply Kept.drewN | apply Kept.drew) | exact HK.out)) hb); have n2_ := Aside0.mk (below_step (by repeat (first | (with_reducible first | exact HB.out | apply below_alloc | apply pw_below_drewN | apply below_drew1) | exact HB.out)) hb); have n3_ := Aside0.mk (hbox); have n4_ := Aside0.mk ((by rw [hg]; exact (by first | exact HK.out.1 | exact (show Kept w _ (fun k_ => P0_ k_) from by repeat (first | (with_reducible first | exact HK.out | apply Kept.alloc | apply Kept.drewN | apply Kept.drew) | exact HK.out)).1) : w.heap.size ≤ gb101)); have n5_ := Aside0.mk ((by rw [hg]; exact (below_size (by repeat (first | (with_reducible first | exact HB.out | apply below_alloc | apply pw_below_drewN | apply below_drew1) | exact HB.out))) : w0.heap.size ≤ gb101)); clear HO0; clear HK; clear HB; have HO0 := n0_; have HK := n1_; have HB := n2_; have BK101 := n3_; have GW101 := n4_; have GE101 := n5_; clear n0_ n1_ n2_ n3_ n4_ n5_; clear hb hbox hg))
  repeat (go_quiet (first | ((with_reducible refine gate_dst (N := 3) rfl ?_); refine box_event ?hg (N := 3) ?hd (cs := #[.int .i64 a1_0, .int .i64 a1_1]) (t := 24) ?hr ?_; (case hd => rfl); (case hg => rfl); (case hr => first | (go_simp; done) | (go_simp; rfl)); intro gb101 hg w3 hbox hb; have n0_ := Aside0.mk (Kd.R_below (by (with_reducible repeat (first | apply Kd.R_alloc | apply Kd.R_drewN | apply Kd.R_drew)); exact HO0.out) hb); have n1_ := Aside0.mk (Kept.below (S := (fun k_ => P0_ k_)) (by repeat (first | (with_reducible first | exact HK.out | apply Kept.alloc | apply Kept.drewN | apply Kept.drew) | exact HK.out)) hb); have n2_ := Aside0.mk (below_step (by repeat (first | (with_reducible first | exact HB.out | apply below_alloc | apply pw_below_drewN | apply below_drew1) | exact HB.out)) hb); have n3_ := Aside0.mk (hbox); have n4_ := Aside0.mk ((by rw [hg]; exact (by first | exact HK.out.1 | exact (show Kept w _ (fun k_ => P0_ k_) from by repeat (first | (with_reducible first | exact HK.out | apply Kept.alloc | apply Kept.drewN | apply Kept.drew) | exact HK.out)).1) : w.heap.size ≤ gb101)); have n5_ := Aside0.mk ((by rw [hg]; exact (below_size (by repeat (first | (with_reducible first | exact HB.out | apply below_alloc | apply pw_below_drewN | apply below_drew1) | exact HB.out))) : w0.heap.size ≤ gb101)); clear HO0; clear HK; clear HB; have HO0 := n0_; have HK := n1_; have HB := n2_; have BK101 := n3_; have GW101 := n4_; have GE101 := n5_; clear n0_ n1_ n2_ n3_ n4_ n5_; clear hb hbox hg)); try go_wp2_with (first | ((with_reducible refine gate_dst (N := 3) rfl ?_); refine box_event ?hg (N := 3) ?hd (cs := #[.int .i64 a1_0, .int .i64 a1_1]) (t := 24) ?hr ?_; (case hd => rfl); (case hg => rfl); (case hr => first | (go_simp; done) | (go_simp; rfl)); intro gb101 hg w3 hbox hb; have n0_ := Aside0.mk (Kd.R_below (by (with_reducible repeat (first | apply Kd.R_alloc | apply Kd.R_drewN | apply Kd.R_drew)); exact HO0.out) hb); have n1_ := Aside0.mk (Kept.below (S := (fun k_ => P0_ k_)) (by repeat (first | (with_reducible first | exact HK.out | apply Kept.alloc | apply Kept.drewN | apply Kept.drew) | exact HK.out)) hb); have n2_ := Aside0.mk (below_step (by repeat (first | (with_reducible first | exact HB.out | apply below_alloc | apply pw_below_drewN | apply below_drew1) | exact HB.out)) hb); have n3_ := Aside0.mk (hbox); have n4_ := Aside0.mk ((by rw [hg]; exact (by first | exact HK.out.1 | exact (show Kept w _ (fun k_ => P0_ k_) from by repeat (first | (with_reducible first | exact HK.out | apply Kept.alloc | apply Kept.drewN | apply Kept.drew) | exact HK.out)).1) : w.heap.size ≤ gb101)); have n5_ := Aside0.mk ((by rw [hg]; exact (below_size (by repeat (first | (with_reducible first | exact HB.out | apply below_alloc | apply pw_below_drewN | apply below_drew1) | exact HB.out))) : w0.heap.size ≤ gb101)); clear HO0; clear HK; clear HB; have HO0 := n0_; have HK := n1_; have HB := n2_; have BK101 := n3_; have GW101 := n4_; have GE101 := n5_; clear n0_ n1_ n2_ n3_ n4_ n5_; clear hb hbox hg)))
  go_loopg [7] k (fun kq v7 w' => ∃ (x7_1 : Int), v7 = .int .i64 x7_1 ∧ Aside0 (spec_l3Out.l0 kq l0 x7_1 a1_0 a1_1 = some (r1, r2, r3)) ∧ Aside0 (kq ≤ k) ∧ Aside0 (Kd.R k69 69 w' w0.heap.size (fun k_ => (P0_ k_ ∨ w.heap.size ≤ k_)) u9000_ l0) ∧ Aside0 (w'.heap[gb101]? = some (.cells #[.int .i64 a1_0, .int .i64 a1_1] 24 (0, 0))) ∧ Aside0 (Kept w w' (fun k_ => P0_ k_)) ∧ Aside0 (Below w0.heap.size w0 w'))
  case atStart => exact ⟨(0), (by first | rfl | (simp; done) | (simp [*]; done)), H', ⟨Nat.le_refl _⟩, ⟨by (with_reducible repeat (first | apply Kd.R_alloc | apply Kd.R_drewN | apply Kd.R_drew)); exact HO0.out⟩, ⟨by (with_reducible repeat (first | refine blk_drewN ?_ _ | refine blk_drew ?_ | refine blk_alloc ?_ _)); exact BK101.out⟩, ⟨by repeat (first | (with_reducible first | exact HK.out | apply Kept.alloc | apply Kept.drewN | apply Kept.drew | refine Kept.setCell ?_ (.inr GW101.out) _) | exact HK.out)⟩, ⟨by repeat (first | (with_reducible first | exact HB.out | apply below_alloc | apply pw_below_drewN | apply below_drew1 | refine below_set ?_ GE101.out) | exact HB.out)⟩⟩
  case round =>
    clear H'
    try clear p2
    obtain ⟨x7_1, rfl, HA, HK1, HO_0, BK101, HK, HB⟩ := hrel
    cases gk with
    | zero => exact absurd HA.out (by simp [spec_l3Out.l0])
    | succ k1 =>
      have H := HA.out
      clear HA
      simp only [spec_l3Out.l0] at H
      by_cases c4 : x7_1 < (l0.length : Int)
      · rw [if_pos c4] at H
        have c4b0 : decide (x7_1 < (l0.length : Int)) = true := decide_eq_true c4
        clear c4
        by_cases c5 : 0 ≤ x7_1
        · rw [if_pos c5] at H
          have c5b0 : decide (0 ≤ x7_1) = true := decide_eq_true c5
          clear c5
          by_cases c6 : (((rd_T69 l0 x7_1).f1.f0) == a1_0 && (((rd_T69 l0 x7_1).f1.f1) == a1_1)) = true
          · rw [if_pos c6] at H
            have c6b0 : (((rd_T69 l0 x7_1).f1.f0) == a1_0 && (((rd_T69 l0 x7_1).f1.f1) == a1_1)) = true := c6
            (try (have c6b1 : decide (((rd_T69 l0 x7_1).f1.f0) = a1_0 && (((rd_T69 l0 x7_1).f1.f1) == a1_1)) = true := by simpa using c6))
            (try (have c6b2 : (((rd_T69 l0 x7_1).f1.f0) == a1_0 && (((rd_T69 l0 x7_1).f1.f1) == a1_1)) = true := by simpa using c6))
            clear c6
            simp only [Option.some.injEq, Prod.mk.injEq] at H
            obtain ⟨rfl, rfl, rfl⟩ := H
            obtain ⟨Ao7, co7, eo7⟩ := Kd.R_slice HO_0.out
            subst eo7
            have p102 : 0 ≤ (x7_1 : Int) := of_decide_eq_true (by first | (with_reducible assumption) | assumption)
            have q102 : x7_1 < (l0.length : Int) := of_decide_eq_true (by first | (with_reducible assumption) | assumption)
            obtain ⟨ad102, e102, hx102_0, hx102_1, hx102_2⟩ := at_T69 (Kd.R_reads' HO_0.out).2.2 x7_1 p102 q102
            cases e102
            replace p102 := eq_true p102
            replace q102 := eq_true q102
            have hcz8_0 : wr.cell? ⟨gb101, 0, none⟩ = some (.int .i64 a1_0) := (blk_cell BK101.out 0).trans rfl
            have hcz8_1 : wr.cell? ⟨gb101, 1, none⟩ = some (.int .i64 a1_1) := (blk_cell BK101.out 1).trans rfl
            have hfz8_0 := blk_frozen BK101.out 0
            have hfz8_1 := blk_frozen BK101.out 1
            have p103 : 0 ≤ (x7_1 : Int) := of_decide_eq_true (by first | (with_reducible assumption) | assumption)
            have q103 : x7_1 < (l0.length : Int) := of_decide_eq_true (by first | (with_reducible assumption) | assumption)
            obtain ⟨ad103, e103, hx103_0, hx103_1, hx103_2⟩ := at_T69 (Kd.R_reads' HO_0.out).2.2 x7_1 p103 q103
            obtain rfl : ad102 = ad103 := (by injection e103)
            replace p103 := eq_true p103
            replace q103 := eq_true q103
            go_wp2
            repeat (go_quiet (fail); try go_wp2)
            go_ret3
            exact ⟨_, by first | rfl | (simp [errW_none, errW_some] <;> rfl) | (simp [*, errW_none, errW_some] <;> rfl), by (with_reducible repeat (first | apply Kd.R_alloc | apply Kd.R_drewN | apply Kd.R_drew)); exact HO_0.out, by repeat (first | (with_reducible first | exact HB.out | apply below_alloc | apply pw_below_drewN | apply below_drew1 | refine below_set ?_ GE101.out) | exact HB.out), by repeat (first | (with_reducible first | exact HK.out | apply Kept.alloc | apply Kept.drewN | apply Kept.drew | refine Kept.setCell ?_ (.inr GW101.out) _) | exact HK.out), by first | trivial | rfl | (intro hq_; rfl) | (intro hq_; cases hq_)⟩
          · rw [if_neg c6] at H
            have c6b0 : (((rd_T69 l0 x7_1).f1.f0) == a1_0 && (((rd_T69 l0 x7_1).f1.f1) == a1_1)) = false := by simpa using c6
            (try (have c6b1 : decide (((rd_T69 l0 x7_1).f1.f0) = a1_0 && (((rd_T69 l0 x7_1).f1.f1) == a1_1)) = false := by simpa using c6))
            (try (have c6b2 : (((rd_T69 l0 x7_1).f1.f0) == a1_0 && (((rd_T69 l0 x7_1).f1.f1) == a1_1)) = false := by simpa using c6))
            (try (have c6b3 : ¬ (((rd_T69 l0 x7_1).f1.f0) = a1_0 && (((rd_T69 l0 x7_1).f1.f1) == a1_1)) := by simpa using c6))
            clear c6
            have H' := Aside0.mk H
            clear H
            obtain ⟨Ao9, co9, eo9⟩ := Kd.R_slice HO_0.out
            subst eo9
            have p102 : 0 ≤ (x7_1 : Int) := of_decide_eq_true (by first | (with_reducible assumption) | assumption)
            have q102 : x7_1 < (l0.length : Int) := of_decide_eq_true (by first | (with_reducible assumption) | assumption)
            obtain ⟨ad102, e102, hx102_0, hx102_1, hx102_2⟩ := at_T69 (Kd.R_reads' HO_0.out).2.2 x7_1 p102 q102
            cases e102
            replace p102 := eq_true p102
            replace q102 := eq_true q102
            have hcz10_0 : wr.cell? ⟨gb101, 0, none⟩ = some (.int .i64 a1_0) := (blk_cell BK101.out 0).trans rfl
            have hcz10_1 : wr.cell? ⟨gb101, 1, none⟩ = some (.int .i64 a1_1) := (blk_cell BK101.out 1).trans rfl
            have hfz10_0 := blk_frozen BK101.out 0
            have hfz10_1 := blk_frozen BK101.out 1
            go_wp2
            repeat (go_quiet (fail); try go_wp2)
            go_roundg k1
            case measure => have := HK1.out; omega
            case rel => exact ⟨(wrap64 (x7_1 + 1)), (by first | rfl | (simp; done) | (simp [*]; done)), H', ⟨by have := HK1.out; omega⟩, ⟨by (with_reducible repeat (first | apply Kd.R_alloc | apply Kd.R_drewN | apply Kd.R_drew)); exact HO_0.out⟩, ⟨by (with_reducible repeat (first | refine blk_drewN ?_ _ | refine blk_drew ?_ | refine blk_alloc ?_ _)); exact BK101.out⟩, ⟨by repeat (first | (with_reducible first | exact HK.out | apply Kept.alloc | apply Kept.drewN | apply Kept.drew | refine Kept.setCell ?_ (.inr GW101.out) _) | exact HK.out)⟩, ⟨by repeat (first | (with_reducible first | exact HB.out | apply below_alloc | apply pw_below_drewN | apply below_drew1 | refine below_set ?_ GE101.out) | exact HB.out)⟩⟩
        · rw [if_neg c5] at H
          exact absurd H (by simp)
      · rw [if_neg c4] at H
        have c4b0 : decide (x7_1 < (l0.length : Int)) = false := decide_eq_false c4
        clear c4
        by_cases c11 : (l0.length : Int) > 7
        · rw [if_pos c11] at H
          have c11b0 : decide (7 < (l0.length : Int)) = true := decide_eq_true c11
          have c11b1 : decide (7 < l0.length) = true := decide_eq_true (by omega)
          clear c11
          simp only [Option.some.injEq, Prod.mk.injEq] at H
          obtain ⟨rfl, rfl, rfl⟩ := H
          obtain ⟨Ao12, co12, eo12⟩ := Kd.R_slice HO_0.out
          subst eo12
          go_wp2
          repeat (go_quiet (fail); try go_wp2)
          go_ret3
          exact ⟨_, by first | rfl | (simp [errW_none, errW_some] <;> rfl) | (simp [*, errW_none, errW_some] <;> rfl), by (with_reducible repeat (first | apply Kd.R_alloc | apply Kd.R_drewN | apply Kd.R_drew)); exact HO_0.out, by repeat (first | (with_reducible first | exact HB.out | apply below_alloc | apply pw_below_drewN | apply below_drew1 | refine below_set ?_ GE101.out) | exact HB.out), by repeat (first | (with_reducible first | exact HK.out | apply Kept.alloc | apply Kept.drewN | apply Kept.drew | refine Kept.setCell ?_ (.inr GW101.out) _) | exact HK.out), by first | trivial | rfl | (intro hq_; rfl) | (intro hq_; cases hq_)⟩
        · rw [if_neg c11] at H
          have c11b0 : decide (7 < (l0.length : Int)) = false := decide_eq_false c11
          have c11b1 : decide (7 < l0.length) = false := decide_eq_false (by omega)
          clear c11
          by_cases c13 : l0.length < 5864062014805
          · rw [if_pos c13] at H
            have LMc13 := Aside0.mk c13
            clear c13
            obtain ⟨y104, hy104⟩ : ∃ y_ : List (S69), y_ = (l0 ++ [(⟨wrap64 (10 + (l0.length : Int)), (⟨a1_0, a1_1⟩ : S24)⟩ : S69)]) := ⟨_, rfl⟩
            replace H : (some (y104, wrap64 (10 + (l0.length : Int)), true)) = some (r1, r2, r3) := by first | (rw [hy104]; with_reducible exact H) | (have H2_ := (Option.bind_some _ _).symm.trans H; rw [hy104]; with_reducible exact H2_) | (have H2_ := (Option.bind_some _ _).symm.trans H; with_reducible exact H2_) | with_reducible exact H | (rw [hy104]; exact H) | exact H
            have Ny104 := Aside0.mk hy104
            clear hy104
            simp only [Option.some.injEq, Prod.mk.injEq] at H
            obtain ⟨rfl, rfl, rfl⟩ := H
            obtain ⟨Ao14, co14, eo14⟩ := Kd.R_slice HO_0.out
            subst eo14
            have hcz15_0 : wr.cell? ⟨gb101, 0, none⟩ = some (.int .i64 a1_0) := (blk_cell BK101.out 0).trans rfl
            have hcz15_1 : wr.cell? ⟨gb101, 1, none⟩ = some (.int .i64 a1_1) := (blk_cell BK101.out 1).trans rfl
            have hfz15_0 := blk_frozen BK101.out 0
            have hfz15_1 := blk_frozen BK101.out 1
            go_wp2_with (first | ((with_reducible refine gate_builtin (b := .append) (xs := #[.tmp 35, .tmp 39]) rfl ?_); at_builtin; refine Kd.R_append k69 (w0 := w0) w0.heap.size rfl (.tmp 35) (.tmp 39) 37 69 (.agg #[(.int .i64 0), (.int .i64 0), (.int .i64 0)]) 24 rfl Tryz.underlying37 info69 rfl (by decide) (by omega) (.slice Ao14 l0.length co14) l0 (⟨wrap64 (10 + (l0.length : Int)), (⟨a1_0, a1_1⟩ : S24)⟩ : S69) [.int .i64 (wrap64 (10 + (l0.length : Int))), .int .i64 a1_0, .int .i64 a1_1] (fun k_ => (P0_ k_ ∨ w.heap.size ≤ k_)) (fun _ => False) rfl rfl ?aP (fun _ hk => hk.elim) ?aF ?aO ?aB ?aS ?aL ?_; (case aP => exact k69_mkM _ _ _ (⟨wrap64 (10 + (l0.length : Int)), (⟨a1_0, a1_1⟩ : S24)⟩ : S69)); (case aB => exact (by repeat (first | (with_reducible first | exact HB.out | apply below_alloc | apply pw_below_drewN | apply below_drew1 | refine below_set ?_ GE101.out) | exact HB.out))); (case aF => exact (fun k_ hk => (.inr (Nat.le_trans (by first | exact HK.out.1 | exact (show Kept w _ (fun k_ => P0_ k_) from by repeat (first | (with_reducible first | exact HK.out | apply Kept.alloc | apply Kept.drewN | apply Kept.drew | refine Kept.setCell ?_ (.inr GW101.out) _) | exact HK.out)).1) hk)))); (case aO => exact (by (with_reducible repeat (first | apply Kd.R_alloc | apply Kd.R_drewN | apply Kd.R_drew)); exact HO_0.out)); (case aS => exact (below_size (by repeat (first | (with_reducible first | exact HB.out | apply below_alloc | apply pw_below_drewN | apply below_drew1 | refine below_set ?_ GE101.out) | exact HB.out)))); (case aL => have := LMc13.out; omega); intro v105 w16 ho hb hg hat; rw [← Ny104.out] at ho; have n0_ := Aside0.mk (blk_grown (g := gb101) (o := .cells #[.int .i64 a1_0, .int .i64 a1_1] 24 (0, 0)) (by (with_reducible repeat (first | refine blk_drewN ?_ _ | refine blk_drew ?_ | refine blk_alloc ?_ _)); exact BK101.out) hg (Kd.R_ne HO_0.out BK101.out (by decide))); have n1_ := Aside0.mk (hb); have n2_ := Aside0.mk (Kept.of_grown (S := (fun k_ => P0_ k_)) hg (by repeat (first | (with_reducible first | exact HK.out | apply Kept.alloc | apply Kept.drewN | apply Kept.drew | refine Kept.setCell ?_ (.inr GW101.out) _) | exact HK.out)) (fun k_ e_ => (HO_0.out.1 k_ e_))); have n3_ := Aside0.mk (ho); clear BK101; clear HB; clear HK; clear HO_0; have BK101 := n0_; have HB := n1_; have HK := n2_; have HO106 := n3_; clear n0_ n1_ n2_ n3_; clear ho hb hg hat))
            repeat (go_quiet (first | ((with_reducible refine gate_builtin (b := .append) (xs := #[.tmp 35, .tmp 39]) rfl ?_); at_builtin; refine Kd.R_append k69 (w0 := w0) w0.heap.size rfl (.tmp 35) (.tmp 39) 37 69 (.agg #[(.int .i64 0), (.int .i64 0), (.int .i64 0)]) 24 rfl Tryz.underlying37 info69 rfl (by decide) (by omega) (.slice Ao14 l0.length co14) l0 (⟨wrap64 (10 + (l0.length : Int)), (⟨a1_0, a1_1⟩ : S24)⟩ : S69) [.int .i64 (wrap64 (10 + (l0.length : Int))), .int .i64 a1_0, .int .i64 a1_1] (fun k_ => (P0_ k_ ∨ w.heap.size ≤ k_)) (fun _ => False) rfl rfl ?aP (fun _ hk => hk.elim) ?aF ?aO ?aB ?aS ?aL ?_; (case aP => exact k69_mkM _ _ _ (⟨wrap64 (10 + (l0.length : Int)), (⟨a1_0, a1_1⟩ : S24)⟩ : S69)); (case aB => exact (by repeat (first | (with_reducible first | exact HB.out | apply below_alloc | apply pw_below_drewN | apply below_drew1 | refine below_set ?_ GE101.out) | exact HB.out))); (case aF => exact (fun k_ hk => (.inr (Nat.le_trans (by first | exact HK.out.1 | exact (show Kept w _ (fun k_ => P0_ k_) from by repeat (first | (with_reducible first | exact HK.out | apply Kept.alloc | apply Kept.drewN | apply Kept.drew | refine Kept.setCell ?_ (.inr GW101.out) _) | exact HK.out)).1) hk)))); (case aO => exact (by (with_reducible repeat (first | apply Kd.R_alloc | apply Kd.R_drewN | apply Kd.R_drew)); exact HO_0.out)); (case aS => exact (below_size (by repeat (first | (with_reducible first | exact HB.out | apply below_alloc | apply pw_below_drewN | apply below_drew1 | refine below_set ?_ GE101.out) | exact HB.out)))); (case aL => have := LMc13.out; omega); intro v105 w16 ho hb hg hat; rw [← Ny104.out] at ho; have n0_ := Aside0.mk (blk_grown (g := gb101) (o := .cells #[.int .i64 a1_0, .int .i64 a1_1] 24 (0, 0)) (by (with_reducible repeat (first | refine blk_drewN ?_ _ | refine blk_drew ?_ | refine blk_alloc ?_ _)); exact BK101.out) hg (Kd.R_ne HO_0.out BK101.out (by decide))); have n1_ := Aside0.mk (hb); have n2_ := Aside0.mk (Kept.of_grown (S := (fun k_ => P0_ k_)) hg (by repeat (first | (with_reducible first | exact HK.out | apply Kept.alloc | apply Kept.drewN | apply Kept.drew | refine Kept.setCell ?_ (.inr GW101.out) _) | exact HK.out)) (fun k_ e_ => (HO_0.out.1 k_ e_))); have n3_ := Aside0.mk (ho); clear BK101; clear HB; clear HK; clear HO_0; have BK101 := n0_; have HB := n1_; have HK := n2_; have HO106 := n3_; clear n0_ n1_ n2_ n3_; clear ho hb hg hat)); try go_wp2_with (first | ((with_reducible refine gate_builtin (b := .append) (xs := #[.tmp 35, .tmp 39]) rfl ?_); at_builtin; refine Kd.R_append k69 (w0 := w0) w0.heap.size rfl (.tmp 35) (.tmp 39) 37 69 (.agg #[(.int .i64 0), (.int .i64 0), (.int .i64 0)]) 24 rfl Tryz.underlying37 info69 rfl (by decide) (by omega) (.slice Ao14 l0.length co14) l0 (⟨wrap64 (10 + (l0.length : Int)), (⟨a1_0, a1_1⟩ : S24)⟩ : S69) [.int .i64 (wrap64 (10 + (l0.length : Int))), .int .i64 a1_0, .int .i64 a1_1] (fun k_ => (P0_ k_ ∨ w.heap.size ≤ k_)) (fun _ => False) rfl rfl ?aP (fun _ hk => hk.elim) ?aF ?aO ?aB ?aS ?aL ?_; (case aP => exact k69_mkM _ _ _ (⟨wrap64 (10 + (l0.length : Int)), (⟨a1_0, a1_1⟩ : S24)⟩ : S69)); (case aB => exact (by repeat (first | (with_reducible first | exact HB.out | apply below_alloc | apply pw_below_drewN | apply below_drew1 | refine below_set ?_ GE101.out) | exact HB.out))); (case aF => exact (fun k_ hk => (.inr (Nat.le_trans (by first | exact HK.out.1 | exact (show Kept w _ (fun k_ => P0_ k_) from by repeat (first | (with_reducible first | exact HK.out | apply Kept.alloc | apply Kept.drewN | apply Kept.drew | refine Kept.setCell ?_ (.inr GW101.out) _) | exact HK.out)).1) hk)))); (case aO => exact (by (with_reducible repeat (first | apply Kd.R_alloc | apply Kd.R_drewN | apply Kd.R_drew)); exact HO_0.out)); (case aS => exact (below_size (by repeat (first | (with_reducible first | exact HB.out | apply below_alloc | apply pw_below_drewN | apply below_drew1 | refine below_set ?_ GE101.out) | exact HB.out)))); (case aL => have := LMc13.out; omega); intro v105 w16 ho hb hg hat; rw [← Ny104.out] at ho; have n0_ := Aside0.mk (blk_grown (g := gb101) (o := .cells #[.int .i64 a1_0, .int .i64 a1_1] 24 (0, 0)) (by (with_reducible repeat (first | refine blk_drewN ?_ _ | refine blk_drew ?_ | refine blk_alloc ?_ _)); exact BK101.out) hg (Kd.R_ne HO_0.out BK101.out (by decide))); have n1_ := Aside0.mk (hb); have n2_ := Aside0.mk (Kept.of_grown (S := (fun k_ => P0_ k_)) hg (by repeat (first | (with_reducible first | exact HK.out | apply Kept.alloc | apply Kept.drewN | apply Kept.drew | refine Kept.setCell ?_ (.inr GW101.out) _) | exact HK.out)) (fun k_ e_ => (HO_0.out.1 k_ e_))); have n3_ := Aside0.mk (ho); clear BK101; clear HB; clear HK; clear HO_0; have BK101 := n0_; have HB := n1_; have HK := n2_; have HO106 := n3_; clear n0_ n1_ n2_ n3_; clear ho hb hg hat)))
            go_ret3
            exact ⟨_, by first | rfl | (simp [errW_none, errW_some] <;> rfl) | (simp [*, errW_none, errW_some] <;> rfl), by (with_reducible repeat (first | apply Kd.R_alloc | apply Kd.R_drewN | apply Kd.R_drew)); exact HO106.out, by repeat (first | (with_reducible first | exact HB.out | apply below_alloc | apply pw_below_drewN | apply below_drew1 | refine below_set ?_ GE101.out) | exact HB.out), by repeat (first | (with_reducible first | exact HK.out | apply Kept.alloc | apply Kept.drewN | apply Kept.drew | refine Kept.setCell ?_ (.inr GW101.out) _) | exact HK.out), by first | trivial | rfl | (intro hq_; rfl) | (intro hq_; cases hq_)⟩
          · rw [if_neg c13] at H
            exact absurd H (by simp)
end
end Go.Proofs.YtijompkonaiagaaGreatDoor.Q
namespace Go.Proofs.YtijompkonaiagaaGreatDoor.Q
open Go.RowKit Go.Proofs.YtijompkonaiagaaGreatDoorW.PrintWords Go.Proofs.YtijompkonaiagaaGreatDoorW.PrintMore Go.Proofs.YtijompkonaiagaaGreatDoor.Z
set_option linter.unusedVariables false
set_option linter.unusedSimpArgs false
attribute [local go_sem ↓] Go.wp_at_zero Go.wp_at_succ
theorem w64f {x : Int} (h : -9223372036854775808 ≤ x ∧ x ≤ 9223372036854775807) : wrap64 x = x := by unfold wrap64; omega
theorem rd_prTo (m : List Pr) (i : Nat) (p : Pr) (h : m[i]? = some p) : rd_T69 (m.map prTo) (i : Int) = prTo p := by
  unfold rd_T69
  rw [Int.toNat_natCast, List.getD_eq_getElem?_getD, List.getElem?_map, h]
  rfl
theorem l3Out_at (m : List Pr) (hm : m.length ≤ 1099511627776) (e : En) (n : Nat) : ∀ (k i : Nat), m.length - i ≤ n → n < k → i ≤ m.length →
    spec_l3Out.l0 k (m.map prTo) i e.addr e.port = some (match outAt m e i with
      | some p => (m.map prTo, p.port, true)
      | none => if 7 < m.length then (m.map prTo, 0, false) else ((m ++ [(⟨10 + (m.length : Int), e⟩ : Pr)]).map prTo, 10 + (m.length : Int), true)) := by
  induction n with
  | zero =>
    intro k i hn hk hi
    obtain ⟨k, rfl⟩ : ∃ m, k = m + 1 := ⟨k - 1, by omega⟩
    simp only [spec_l3Out.l0, List.length_map]
    rw [if_neg (by omega), outAt_end m e i (by omega)]
    simp only
    by_cases h7 : 7 < m.length
    · rw [if_pos (by omega), if_pos h7]
    · rw [if_neg (by omega), if_neg h7, if_pos (by omega), w64f (by omega), List.map_append]
      rfl
  | succ n ih =>
    intro k i hn hk hi
    obtain ⟨k, rfl⟩ : ∃ m, k = m + 1 := ⟨k - 1, by omega⟩
    by_cases hlt : i < m.length
    · simp only [spec_l3Out.l0, List.length_map]
      rw [if_pos (by omega), if_pos (by omega)]
      obtain ⟨p, hp⟩ : ∃ p, m[i]? = some p := ⟨_, List.getElem?_eq_getElem hlt⟩
      have hpd : m.getD i zPr = p := by rw [List.getD_eq_getElem?_getD, hp]; rfl
      rw [rd_prTo m i p hp]
      by_cases he : p.inside = e
      · rw [if_pos (by show (p.inside.addr == e.addr && p.inside.port == e.port) = true; rw [he]; simp), outAt_hit hlt ⟨hpd⟩ he]
        rfl
      · rw [if_neg (by
          show ¬ (p.inside.addr == e.addr && p.inside.port == e.port) = true
          rw [Bool.and_eq_true, beq_iff_eq, beq_iff_eq]
          rintro ⟨h1, h2⟩
          apply he
          cases hx : p.inside
          cases e
          rw [hx] at h1 h2
          simp only at h1 h2
          rw [h1, h2]), w64f (by omega)]
        have := ih k (i + 1) (by omega) (by omega) (by omega)
        rw [show ((i + 1 : Nat) : Int) = (i : Int) + 1 from by omega] at this
        rw [this, outAt_miss hlt ⟨hpd⟩ he]
    · obtain rfl : i = m.length := by omega
      simp only [spec_l3Out.l0, List.length_map]
      rw [if_neg (by omega), outAt_end m e _ (Nat.le_refl _)]
      simp only
      by_cases h7 : 7 < m.length
      · rw [if_pos (by omega), if_pos h7]
      · rw [if_neg (by omega), if_neg h7, if_pos (by omega), w64f (by omega), List.map_append]
        rfl
theorem l3Out_to (k : Nat) (m : List Pr) (hm : m.length ≤ 1099511627776) (hk : m.length < k) (e : En) : spec_l3Out.f k (m.map prTo) e.addr e.port = some ((outS m e).1.map prTo, (outS m e).2.1, (outS m e).2.2) := by
  unfold spec_l3Out.f
  have := l3Out_at m hm e m.length k 0 (by omega) hk (Nat.zero_le _)
  rw [show ((0 : Nat) : Int) = 0 from rfl] at this
  rw [this, outS_of]
  cases outAt m e 0 with
  | some p => rfl
  | none => simp only; split <;> rfl
def pieceOut (m : List Pr) (named : Bool) (e : En) (t : List UInt8) : List Pr × List UInt8 := if named && insideB e then (if (outS m e).2.2 then ((outS m e).1, nameOf ⟨9, (outS m e).2.1⟩) else (m, t)) else (m, t)
def spec_l3PieceOut.f (l0 : List S69) (a1_0 : Int) (a1_1 : Bool) (a1_2 : Int) (a1_3 : Int) (a2 : ByteArray) : Option (List S69 × ByteArray) :=
  if l0.length ≤ 1099511627776 then some ((pieceOut (l0.map prOf) a1_1 ⟨a1_2, a1_3⟩ (bl a2)).1.map prTo, ⟨(pieceOut (l0.map prOf) a1_1 ⟨a1_2, a1_3⟩ (bl a2)).2.toArray⟩) else none
set_option maxHeartbeats 1000000 in
theorem spec_l3PieceOut.calls (P0_ : Nat → Prop) (u9000_ : Value) (l0 : List (S69)) (a1_0 : Int) (a1_1 : Bool) (a1_2 : Int) (a1_3 : Int) (a2 : ByteArray) (r1 : List (S69)) (r2 : ByteArray) (w0 w : World) (hB : Below w0.heap.size w0 w) (ho0 : Kd.R k69 69 w w0.heap.size P0_ u9000_ l0) (h : spec_l3PieceOut.f l0 a1_0 a1_1 a1_2 a1_3 a2 = some (r1, r2)) :
    Calls Tryz.prog 63 #[u9000_, .agg #[.int .i64 a1_0, .bool a1_1, .int .i64 a1_2, .int .i64 a1_3], .string a2] w fun e w' => ∃ v0_ : Value, e = .returned (.tuple #[v0_, .string r2]) ∧ Kd.R k69 69 w' w0.heap.size (fun k_ => (P0_ k_ ∨ w.heap.size ≤ k_)) v0_ r1 ∧ Below w0.heap.size w0 w' ∧ Kept w w' (fun k_ => P0_ k_) := by
  unfold spec_l3PieceOut.f at h
  split at h
  · rename_i hs
    have h2 := Option.some.inj h
    simp only [Prod.mk.injEq] at h2
    obtain ⟨h3, h4⟩ := h2
    have HO := Aside0.mk ho0
    have HB := Aside0.mk hB
    clear h ho0 hB
    have hin : (⟨a1_2, a1_3⟩ : En) = ⟨a1_2, a1_3⟩ := rfl
    obtain ⟨A, c, e9⟩ := Kd.R_slice HO.out
    subst e9
    have hstay : ∀ n : Bool, (n && insideB ⟨a1_2, a1_3⟩ && (outS (l0.map prOf) ⟨a1_2, a1_3⟩).2.2) = false → (pieceOut (l0.map prOf) n ⟨a1_2, a1_3⟩ (bl a2)).1.map prTo = l0 ∧ (⟨(pieceOut (l0.map prOf) n ⟨a1_2, a1_3⟩ (bl a2)).2.toArray⟩ : ByteArray) = a2 := by
      intro n hn
      unfold pieceOut
      cases hc : (n && insideB ⟨a1_2, a1_3⟩)
      · exact ⟨prs_to_of l0, rfl⟩
      · rw [hc, Bool.true_and] at hn
        rw [hn]
        exact ⟨prs_to_of l0, rfl⟩
    cases a1_1 with
    | false =>
      obtain ⟨e1, e2⟩ := hstay false rfl
      rw [e1] at h3
      rw [e2] at h4
      subst h3 h4
      clear hstay e1 e2
      go_enter Tryz.func63, Tryz.ntmps63
      go_wp2
      go_ret2
      exact ⟨_, rfl, Kd.R_alloc (Kd.R_mono HO.out (fun _ hk => .inl hk)) _, below_alloc HB.out _, (Kept.refl w _).alloc _⟩
    | true =>
      cases hi : insideB ⟨a1_2, a1_3⟩ with
      | false =>
        obtain ⟨e1, e2⟩ := hstay true (by rw [hi]; rfl)
        rw [e1] at h3
        rw [e2] at h4
        subst h3 h4
        have HI := Aside0.mk (show spec_EndInside.f a1_2 a1_3 = some false from congrArg some hi)
        clear hstay e1 e2 hi
        go_enter Tryz.func63, Tryz.ntmps63
        go_wp2_with (go_at_call 46; refine (spec_EndInside.calls a1_2 a1_3 false _ HI.out).mono ?_; rintro e w2 ⟨rfl, hb⟩; have HB2 := Aside0.mk hb; clear hb)
        go_ret2
        exact ⟨_, rfl, Kd.R_below (Kd.R_alloc (Kd.R_mono HO.out (fun _ hk => .inl hk)) _) HB2.out, below_step (below_alloc HB.out _) HB2.out, ((Kept.refl w _).alloc _).below HB2.out⟩
      | true =>
        have HI := Aside0.mk (show spec_EndInside.f a1_2 a1_3 = some true from congrArg some hi)
        have HL := Aside0.mk (l3Out_to (l0.length + 1) (l0.map prOf) (by rw [List.length_map]; exact hs) (by rw [List.length_map]; omega) ⟨a1_2, a1_3⟩)
        rw [prs_to_of] at HL
        obtain ⟨x1, x2, x3, hx⟩ : ∃ x1 x2 x3, outS (l0.map prOf) ⟨a1_2, a1_3⟩ = (x1, x2, x3) := ⟨_, _, _, rfl⟩
        rw [hx] at HL
        have hk2 : ∀ w2 : World, Below (w.alloc (.cells #[.int .i64 a1_0, .bool true, .int .i64 a1_2, .int .i64 a1_3] 67 (0, 0))).heap.size (w.alloc (.cells #[.int .i64 a1_0, .bool true, .int .i64 a1_2, .int .i64 a1_3] 67 (0, 0))) w2 → w.heap.size ≤ w2.heap.size ∧ Kept w w2 (fun k_ => P0_ k_) := fun w2 hb => ⟨(((Kept.refl w (fun k_ => P0_ k_)).alloc _).below hb).1, ((Kept.refl w _).alloc _).below hb⟩
        cases x3 with
        | false =>
          obtain ⟨e1, e2⟩ := hstay true (by rw [hx]; simp)
          rw [e1] at h3
          rw [e2] at h4
          have hx1 : x1.map prTo = l0 := by
            have h8 := congrArg (fun t : List Pr × Int × Bool => (t.2.2, t.1)) hx
            simp only [Prod.mk.injEq] at h8
            have h9 : (outS (l0.map prOf) ⟨a1_2, a1_3⟩).1 = l0.map prOf := by
              have h10 := h8.1
              rw [outS_of] at h10 ⊢
              cases hq : outAt (l0.map prOf) ⟨a1_2, a1_3⟩ 0 with
              | some p => rfl
              | none =>
                rw [hq] at h10
                simp only at h10 ⊢
                split at h10
                · rename_i h7; rw [if_pos h7]
                · cases h10
            rw [← h8.2, h9, prs_to_of]
          rw [hx1] at HL
          subst h3 h4
          clear hstay e1 e2 hi hx hx1
          go_enter Tryz.func63, Tryz.ntmps63
          go_wp2_with (first
            | (go_at_call 46; refine (spec_EndInside.calls a1_2 a1_3 true _ HI.out).mono ?_; rintro e w2 ⟨rfl, hb⟩; have BK := blk_below (g := w.heap.size) (o := .cells #[.int .i64 a1_0, .bool true, .int .i64 a1_2, .int .i64 a1_3] 67 (0, 0)) (heap_alloc_new w _) hb; have c2 : w2.cell? ⟨w.heap.size, 2, none⟩ = some (.int .i64 a1_2) := (blk_cell BK 2).trans rfl; have c3 : w2.cell? ⟨w.heap.size, 3, none⟩ = some (.int .i64 a1_3) := (blk_cell BK 3).trans rfl; have z2 := blk_frozen BK 2; have z3 := blk_frozen BK 3; have HB2 := Aside0.mk hb; clear hb BK)
            | (go_at_call 95; refine (spec_l3Out.calls2 (l0.length + 1) P0_ (.slice A l0.length c) l0 a1_2 a1_3 _ _ _ w0 _ ?hB ?hR HL.out).mono ?_; (case hB => exact below_step (below_alloc HB.out _) HB2.out); (case hR => exact Kd.R_below (Kd.R_alloc HO.out _) HB2.out); rintro e w3 ⟨v3, rfl, hR3, hB3, hK3, hv3⟩; have HR3 := Aside0.mk hR3; have HB3 := Aside0.mk hB3; have HK3 := Aside0.mk hK3; have HV3 := Aside0.mk (hv3 rfl); clear hR3 hB3 hK3 hv3))
          obtain ⟨hs2, hK2⟩ := hk2 _ HB2.out
          go_ret2
          exact ⟨_, rfl, by rw [← HV3.out]; exact Kd.R_mono HR3.out (fun k hk => hk.elim .inl (fun h9 => .inr (Nat.le_trans hs2 h9))), HB3.out, hK2.then_ HK3.out (fun _ hk => .inl hk)⟩
        | true =>
          have hm : pieceOut (l0.map prOf) true ⟨a1_2, a1_3⟩ (bl a2) = (x1, nameOf ⟨9, x2⟩) := by
            unfold pieceOut
            rw [hi, hx]
            rfl
          rw [hm] at h3 h4
          simp only at h3 h4
          subst h3
          have hl := endText_len ⟨9, x2⟩
          have HE := Aside0.mk (show spec_EndText.f 9 x2 = some ⟨(endText ⟨9, x2⟩).toArray⟩ from rfl)
          have H4 := Aside0.mk (show ((⟨#[64]⟩ : ByteArray) ++ ⟨(endText ⟨9, x2⟩).toArray⟩) ++ (⟨#[59]⟩ : ByteArray) = r2 by
            rw [← h4]
            apply ByteArray.ext
            simp [nameOf])
          have s1 : ((⟨#[64]⟩ : ByteArray) ++ ⟨(endText ⟨9, x2⟩).toArray⟩).size = 1 + (endText ⟨9, x2⟩).length := by rw [ByteArray.size_append]; rfl
          have s2 : (⟨(endText ⟨9, x2⟩).toArray⟩ : ByteArray).size = (endText ⟨9, x2⟩).length := rfl
          have t1 : ¬ (9223372036854775807 < 1 + (endText ⟨9, x2⟩).length) := by omega
          have t2 : ¬ (9223372036854775807 < 1 + (endText ⟨9, x2⟩).length + 1) := by omega
          clear hstay hi hx h4 hm hl
          go_enter Tryz.func63, Tryz.ntmps63
          go_wp2_with (first
            | (go_at_call 46; refine (spec_EndInside.calls a1_2 a1_3 true _ HI.out).mono ?_; rintro e w2 ⟨rfl, hb⟩; have BK := blk_below (g := w.heap.size) (o := .cells #[.int .i64 a1_0, .bool true, .int .i64 a1_2, .int .i64 a1_3] 67 (0, 0)) (heap_alloc_new w _) hb; have c2 : w2.cell? ⟨w.heap.size, 2, none⟩ = some (.int .i64 a1_2) := (blk_cell BK 2).trans rfl; have c3 : w2.cell? ⟨w.heap.size, 3, none⟩ = some (.int .i64 a1_3) := (blk_cell BK 3).trans rfl; have z2 := blk_frozen BK 2; have z3 := blk_frozen BK 3; have HB2 := Aside0.mk hb; clear hb BK)
            | (go_at_call 95; refine (spec_l3Out.calls2 (l0.length + 1) P0_ (.slice A l0.length c) l0 a1_2 a1_3 _ _ _ w0 _ ?hB ?hR HL.out).mono ?_; (case hB => exact below_step (below_alloc HB.out _) HB2.out); (case hR => exact Kd.R_below (Kd.R_alloc HO.out _) HB2.out); rintro e w3 ⟨v3, rfl, hR3, hB3, hK3, hv3⟩; have HR3 := Aside0.mk hR3; have HB3 := Aside0.mk hB3; have HK3 := Aside0.mk hK3; skip; clear hR3 hB3 hK3 hv3)
            | (go_at_call 85; refine (spec_EndText.calls 9 x2 _ _ HE.out).mono ?_; rintro e w4 ⟨rfl, hb⟩; have HB4 := Aside0.mk hb; clear hb))
          obtain ⟨hs2, hK2⟩ := hk2 _ HB2.out
          go_ret2
          refine ⟨_, ?_, Kd.R_below (Kd.R_mono HR3.out (fun k hk => hk.elim .inl (fun h9 => .inr (Nat.le_trans hs2 h9)))) HB4.out, below_step HB3.out HB4.out, (hK2.then_ HK3.out (fun _ hk => .inl hk)).below HB4.out⟩
          rw [← H4.out]
          rfl
  · cases h
end Go.Proofs.YtijompkonaiagaaGreatDoor.Q
namespace Go.Proofs.YtijompkonaiagaaGreatDoor.Q
open Go.RowKit Go.Proofs.YtijompkonaiagaaGreatDoorW.PrintWords Go.Proofs.YtijompkonaiagaaGreatDoorW.PrintLast Go.Proofs.YtijompkonaiagaaGreatDoorW.PrintMore
attribute [local go_sem] max2_int min2_int max_two min_two max_three min_three max_four min_four
set_option linter.unusedVariables false
set_option linter.unusedSimpArgs false
noncomputable section
mutual
def spec_MapTextOut.j0 : Nat → List (S69) → ByteArray → Bool → Option ((List (S69)) × ByteArray)
  | 0, _, _, _ => none
  | k + 1, x0, x1, x20 => if x20 = true then (some ((([] : List (S69))), (⟨#[]⟩ : ByteArray))) else ((spec_l3Copy.f x0).bind fun t106 => ((spec_l2Pieces.f k x1).bind fun t109 => (spec_MapTextOut.l0 k x1 t106 (⟨#[]⟩ : ByteArray) 0 t109 0)))
def spec_MapTextOut.l0 : Nat → ByteArray → List (S69) → ByteArray → Int → List (S67) → Int → Option ((List (S69)) × ByteArray)
  | 0, _, _, _, _, _, _ => none
  | k + 1, x1, x6, x7, x8, x9, x10 => if x10 < (x9.length : Int) then (if 0 ≤ x10 then (if 0 ≤ x8 then (if x8 ≤ (wrap64 (x8 + ((rd_T67 x9 x10).f0))) then (if (wrap64 (x8 + ((rd_T67 x9 x10).f0))) ≤ (x1.size : Int) then ((spec_l3PieceOut.f x6 ((rd_T67 x9 x10).f0) ((rd_T67 x9 x10).f1) ((rd_T67 x9 x10).f2.f0) ((rd_T67 x9 x10).f2.f1) (x1.extract (x8 : Int).toNat ((wrap64 (x8 + ((rd_T67 x9 x10).f0))) : Int).toNat)).bind fun bt114 => (if x7.size + bt114.2.size ≤ 9223372036854775807 then (spec_MapTextOut.l0 k x1 bt114.1 (x7 ++ bt114.2) (wrap64 (x8 + ((rd_T67 x9 x10).f0))) x9 (wrap64 (x10 + 1))) else (none))) else (none)) else (none)) else (none)) else (none)) else (some (x6, x7))
end
def spec_MapTextOut.f (k : Nat) (l0 : List (S69)) (a1 : ByteArray) : Option ((List (S69)) × ByteArray) := (spec_MapOk.f l0).bind fun t101 => (if t101 = true then ((spec_TextOk.f a1).bind fun t102 => (spec_MapTextOut.j0 k l0 a1 (!t102))) else (spec_MapTextOut.j0 k l0 a1 true))
theorem spec_MapTextOut.mono_l : ∀ k, (∀ y0 y1 y2, LeO (spec_MapTextOut.j0 k y0 y1 y2) (spec_MapTextOut.j0 (k + 1) y0 y1 y2)) ∧ (∀ y0 y1 y2 y3 y4 y5, LeO (spec_MapTextOut.l0 k y0 y1 y2 y3 y4 y5) (spec_MapTextOut.l0 (k + 1) y0 y1 y2 y3 y4 y5))
  | 0 => ⟨fun _ _ _ r h => by simp [spec_MapTextOut.j0] at h, fun _ _ _ _ _ _ r h => by simp [spec_MapTextOut.l0] at h⟩
  | k + 1 => by
    obtain ⟨ih0, ih1⟩ := spec_MapTextOut.mono_l k
    refine ⟨?_, ?_⟩
    · intro y0 y1 y2
      unfold spec_MapTextOut.j0
      repeat' first
      | (with_reducible exact ih0 _ _ _)
      | (with_reducible exact ih1 _ _ _ _ _ _)
      | (with_reducible exact spec_l2Pieces.mono _ _)
      | (with_reducible exact LeO.refl _)
      | (with_reducible exact LeO.none _)
      | (with_reducible refine LeO.ite ?_ ?_)
      | (with_reducible refine LeO.bind ?_ (fun _ => ?_))
      | exact ih0 _ _ _
      | exact ih1 _ _ _ _ _ _
      | exact spec_l2Pieces.mono _ _
      | exact LeO.none _
      | refine LeO.ite ?_ ?_
      | refine LeO.bind ?_ (fun _ => ?_)
    · intro y0 y1 y2 y3 y4 y5
      unfold spec_MapTextOut.l0
      repeat' first
      | (with_reducible exact ih0 _ _ _)
      | (with_reducible exact ih1 _ _ _ _ _ _)
      | (with_reducible exact spec_l2Pieces.mono _ _)
      | (with_reducible exact LeO.refl _)
      | (with_reducible exact LeO.none _)
      | (with_reducible refine LeO.ite ?_ ?_)
      | (with_reducible refine LeO.bind ?_ (fun _ => ?_))
      | exact ih0 _ _ _
      | exact ih1 _ _ _ _ _ _
      | exact spec_l2Pieces.mono _ _
      | exact LeO.none _
      | refine LeO.ite ?_ ?_
      | refine LeO.bind ?_ (fun _ => ?_)
theorem spec_MapTextOut.mono : ∀ a0 a1 k, LeO (spec_MapTextOut.f k a0 a1) (spec_MapTextOut.f (k + 1) a0 a1) := by
  intro a0 a1 k
  obtain ⟨ih0, ih1⟩ := spec_MapTextOut.mono_l k
  unfold spec_MapTextOut.f
  repeat' first
      | (with_reducible exact ih0 _ _ _)
      | (with_reducible exact ih1 _ _ _ _ _ _)
      | (with_reducible exact spec_l2Pieces.mono _ _)
      | (with_reducible exact LeO.refl _)
      | (with_reducible exact LeO.none _)
      | (with_reducible refine LeO.ite ?_ ?_)
      | (with_reducible refine LeO.bind ?_ (fun _ => ?_))
      | exact ih0 _ _ _
      | exact ih1 _ _ _ _ _ _
      | exact spec_l2Pieces.mono _ _
      | exact LeO.none _
      | refine LeO.ite ?_ ?_
      | refine LeO.bind ?_ (fun _ => ?_)
def spec_MapTextOut.T10 : Bool × List (List Nat × List Nat) := (true, [([], []), ([], []), ([], []), ([1, 2], [1, 2]), ([3], [3]), ([], []), ([], []), ([], []), ([], []), ([], []), ([8, 9], [8, 9]), ([10], [10]), ([11], [11]), ([7, 12], [7, 12]), ([5, 6, 13], [5, 6, 13]), ([0, 4, 14], [0, 4, 14]), ([15], [15]), ([16], [16]), ([16], [16]), ([17, 15, 0, 1, 2, 3, 4, 5, 6, 7, 8, 9, 10, 11, 12, 13, 14, 15, 16, 17], [17]), ([18, 19, 0, 1, 2, 3, 4, 5, 6, 7, 8, 9, 10, 11, 12, 13, 14, 15, 16, 17, 18, 19], [18])])
def spec_MapTextOut.B10 : List Nat := [0, 0, 0, 6, 14, 0, 0, 0, 0, 0, 768, 1792, 3840, 8064, 16352, 32767, 65535, 131071, 131071, 262143, 1048575]
theorem spec_MapTextOut.tab10 : rtab .any (opsOf Tryz.f24 10) = spec_MapTextOut.T10 := by kernel_rfl
theorem spec_MapTextOut.bits10 : waitsOk spec_MapTextOut.T10.2 spec_MapTextOut.B10 = true := by kernel_rfl
set_option maxHeartbeats 8000000 in
set_option maxRecDepth 100000 in
theorem spec_MapTextOut.calls (k : Nat) (A0 : Option Addr) (c0 : Nat) (l0 : List (S69)) (a1 : ByteArray) (r1 : List (S69)) (r2 : ByteArray) (w : World) (hr0 : Kd.C k69 w A0 l0.length l0) (hc0 : l0.length ≤ c0) (h : spec_MapTextOut.f k l0 a1 = some (r1, r2)) :
    Calls Tryz.prog 24 #[.slice A0 l0.length c0, .string a1] w fun e w' => ∃ v0_ : Value, e = .returned (.tuple #[v0_, .string r2]) ∧ Kd.R k69 69 w' w.heap.size (fun _ => True) v0_ r1 ∧ Below w.heap.size w w' := by
  have hu67 := Tryz.underlying67
  have HR0 := Aside0.mk hr0
  have HC0 := Aside0.mk hc0
  clear hr0 hc0
  have HB := Aside0.mk (Below.refl w.heap.size w)
  have H : ((spec_MapOk.f l0).bind fun t101 => (if t101 = true then ((spec_TextOk.f a1).bind fun t102 => (spec_MapTextOut.j0 k l0 a1 (!t102))) else (spec_MapTextOut.j0 k l0 a1 true))) = some (r1, r2) := h
  clear h
  have HC3 := Aside0.mk H
  clear H
  go_enter Tryz.func24, Tryz.ntmps24
  go_upto_region 1 with (fail)
  go_cut [20] (fun v20 wc => ∃ (kq : Nat) (x20_2 : Bool), v20 = .bool x20_2 ∧ Aside0 (spec_MapTextOut.j0 kq l0 a1 x20_2 = some (r1, r2)) ∧ Aside0 (kq ≤ k) ∧ Aside0 (Below w.heap.size w wc))
  case first =>
    have H := HC3.out
    clear HC3
    replace H := Option.bind_eq_some_iff.mp H
    obtain ⟨t101, A40, H⟩ := H
    replace H : (if t101 = true then ((spec_TextOk.f a1).bind fun t102 => (spec_MapTextOut.j0 k l0 a1 (!t102))) else (spec_MapTextOut.j0 k l0 a1 true)) = some (r1, r2) := H
    have A4 := Aside0.mk A40
    clear A40
    by_cases c5 : t101 = true
    · subst c5
      have H1 : ((spec_TextOk.f a1).bind fun t102 => (spec_MapTextOut.j0 k l0 a1 (!t102))) = some (r1, r2) := by rw [if_pos rfl] at H; exact H
      clear H
      have H := H1
      clear H1
      replace H := Option.bind_eq_some_iff.mp H
      obtain ⟨t102, A60, H⟩ := H
      replace H : (spec_MapTextOut.j0 k l0 a1 (!t102)) = some (r1, r2) := H
      have A6 := Aside0.mk A60
      clear A60
      have H' := Aside0.mk H
      clear H
      go_wp2_with (first | ((with_reducible refine gate_callee (f := 30) rfl ?_); refine goesL_ (some 14) rfl rfl Tryz.func30 (by kernel_rfl) rfl #[.slice A0 l0.length c0] rfl (by (try simp only [List.map_toArray, List.map_cons, List.map_nil]); first | done | rfl | (simp only [List.length_drop, List.length_take]; rfl)) ?_; (with_reducible refine (spec_MapOk.calls _ _ l0 true _ ?side1 ?side2 A4.out).mono ?_); (case side1 => repeat (first | exact (Kd.C_below HR0.out HB.out) | (with_reducible refine Kd.C_alloc ?_ _) | (with_reducible refine Kd.C_drewN ?_ _) | (with_reducible refine Kd.C_drew ?_))); (case side2 => exact HC0.out); rintro e w7 ⟨rfl, hb⟩; refine ⟨_, rfl, ?_⟩; have n0_ := Aside0.mk (below_step (by repeat (first | (with_reducible first | exact HB.out | apply below_alloc | apply pw_below_drewN | apply below_drew1) | exact HB.out)) hb); clear HB; have HB := n0_; clear n0_; (try clear hb); (try clear hb2); (try clear hk); (try clear hi)) | (go_at_call 31; (with_reducible refine (spec_TextOk.calls a1 t102 _ A6.out).mono ?_); rintro e w8 ⟨rfl, hb⟩; have n0_ := Aside0.mk (below_step (by repeat (first | (with_reducible first | exact HB.out | apply below_alloc | apply pw_below_drewN | apply below_drew1) | exact HB.out)) hb); clear HB; have HB := n0_; clear n0_; (try clear hb); (try clear hb2); (try clear hk); (try clear hi)))
      go_meet
      case rel => exact ⟨_, (!t102), (by first | rfl | (simp; done) | (simp [*]; done)), H', ⟨by first | omega | exact Nat.le_refl _⟩, ⟨by repeat (first | (with_reducible first | exact HB.out | apply below_alloc | apply pw_below_drewN | apply below_drew1) | exact HB.out)⟩⟩
    · replace c5 := Bool.eq_false_iff.mpr c5
      subst c5
      have H1 : (spec_MapTextOut.j0 k l0 a1 true) = some (r1, r2) := by rw [if_neg (show ¬ (false = true) by decide)] at H; exact H
      clear H
      have H := H1
      clear H1
      have H' := Aside0.mk H
      clear H
      go_wp2_with (first | ((with_reducible refine gate_callee (f := 30) rfl ?_); refine goesL_ (some 14) rfl rfl Tryz.func30 (by kernel_rfl) rfl #[.slice A0 l0.length c0] rfl (by (try simp only [List.map_toArray, List.map_cons, List.map_nil]); first | done | rfl | (simp only [List.length_drop, List.length_take]; rfl)) ?_; (with_reducible refine (spec_MapOk.calls _ _ l0 false _ ?side1 ?side2 A4.out).mono ?_); (case side1 => repeat (first | exact (Kd.C_below HR0.out HB.out) | (with_reducible refine Kd.C_alloc ?_ _) | (with_reducible refine Kd.C_drewN ?_ _) | (with_reducible refine Kd.C_drew ?_))); (case side2 => exact HC0.out); rintro e w9 ⟨rfl, hb⟩; refine ⟨_, rfl, ?_⟩; have n0_ := Aside0.mk (below_step (by repeat (first | (with_reducible first | exact HB.out | apply below_alloc | apply pw_below_drewN | apply below_drew1) | exact HB.out)) hb); clear HB; have HB := n0_; clear n0_; (try clear hb); (try clear hb2); (try clear hk); (try clear hi)))
      go_meet
      case rel => exact ⟨_, (true), (by first | rfl | (simp; done) | (simp [*]; done)), H', ⟨by first | omega | exact Nat.le_refl _⟩, ⟨by repeat (first | (with_reducible first | exact HB.out | apply below_alloc | apply pw_below_drewN | apply below_drew1) | exact HB.out)⟩⟩
  case rest =>
    clear HC3
    try clear c2
    try clear p2
    try clear c3
    try clear c5
    obtain ⟨kq, x20_2, rfl, HA, HJ2, HB⟩ := hcut
    cases kq with
    | zero => exact absurd HA.out (by simp [spec_MapTextOut.j0])
    | succ kj2 =>
      have H := HA.out
      clear HA
      simp only [spec_MapTextOut.j0] at H
      by_cases c10 : x20_2 = true
      · subst c10
        have H1 : (some ((([] : List (S69))), (⟨#[]⟩ : ByteArray))) = some (r1, r2) := by rw [if_pos rfl] at H; exact H
        clear H
        have H := H1
        clear H1
        obtain ⟨y103, hy103⟩ : ∃ y_ : List (S69), y_ = (([] : List (S69))) := ⟨_, rfl⟩
        replace H : (some (y103, (⟨#[]⟩ : ByteArray))) = some (r1, r2) := by first | (rw [hy103]; with_reducible exact H) | (have H2_ := (Option.bind_some _ _).symm.trans H; rw [hy103]; with_reducible exact H2_) | (have H2_ := (Option.bind_some _ _).symm.trans H; with_reducible exact H2_) | with_reducible exact H | (rw [hy103]; exact H) | exact H
        have Ny103 := Aside0.mk hy103
        clear hy103
        simp only [Option.some.injEq, Prod.mk.injEq] at H
        obtain ⟨rfl, rfl⟩ := H
        go_wp2_with (first | ((with_reducible refine gate_dst (N := 21) rfl ?_); refine Kd.R_lit k69 _ 69 ?hg (N := 21) ?hd (xs := ([] : List (S69))) (inner := []) (ok := fun _ => True) (okp := fun _ => True) ?hr ?hp (fun _ hk => hk) trivial (Below.refl _ _) (Nat.le_refl _) (by simp) ?_; (case hd => rfl); (case hg => rfl); (case hr => first | (go_simp; done) | (go_simp; rfl)); (case hp => exact (Reps.none _ _)); intro v104 w11 ho12 hb hg_ hnew_; clear hg_ hnew_; (first | rw [← Ny103.out] at ho12 | (simp only [Int.reduceToNat] at ho12; rw [← Ny103.out] at ho12)); have n0_ := Aside0.mk (Kd.R_lower ho12 (below_size (by repeat (first | (with_reducible first | exact HB.out | apply below_alloc | apply pw_below_drewN | apply below_drew1) | exact HB.out)))); have n1_ := Aside0.mk (below_step (by repeat (first | (with_reducible first | exact HB.out | apply below_alloc | apply pw_below_drewN | apply below_drew1) | exact HB.out)) hb); clear HB; have HO105 := n0_; have HB := n1_; clear n0_ n1_; clear hb ho12))
        go_ret2
        exact ⟨_, by first | rfl | (simp [errW_none, errW_some] <;> rfl) | (simp [*, errW_none, errW_some] <;> rfl), by (with_reducible repeat (first | apply Kd.R_alloc | apply Kd.R_drewN | apply Kd.R_drew)); exact HO105.out, by repeat (first | (with_reducible first | exact HB.out | apply below_alloc | apply pw_below_drewN | apply below_drew1) | exact HB.out)⟩
      · replace c10 := Bool.eq_false_iff.mpr c10
        subst c10
        have H1 : ((spec_l3Copy.f l0).bind fun t106 => ((spec_l2Pieces.f kj2 a1).bind fun t109 => (spec_MapTextOut.l0 kj2 a1 t106 (⟨#[]⟩ : ByteArray) 0 t109 0))) = some (r1, r2) := by rw [if_neg (show ¬ (false = true) by decide)] at H; exact H
        clear H
        have H := H1
        clear H1
        replace H := Option.bind_eq_some_iff.mp H
        obtain ⟨t106, A130, H⟩ := H
        replace H : ((spec_l2Pieces.f kj2 a1).bind fun t109 => (spec_MapTextOut.l0 kj2 a1 t106 (⟨#[]⟩ : ByteArray) 0 t109 0)) = some (r1, r2) := H
        have A13 := Aside0.mk A130
        clear A130
        replace H := Option.bind_eq_some_iff.mp H
        obtain ⟨t109, A140, H⟩ := H
        replace H : (spec_MapTextOut.l0 kj2 a1 t106 (⟨#[]⟩ : ByteArray) 0 t109 0) = some (r1, r2) := H
        have A14 := Aside0.mk A140
        clear A140
        have H' := Aside0.mk H
        clear H
        go_wp2_with (first | ((with_reducible refine gate_callee (f := 62) rfl ?_); refine goesL_ (some 23) rfl rfl Tryz.func62 (by kernel_rfl) rfl #[.slice A0 l0.length c0] rfl (by (try simp only [List.map_toArray, List.map_cons, List.map_nil]); first | done | rfl | (simp only [List.length_drop, List.length_take]; rfl)) ?_; (with_reducible refine (spec_l3Copy.calls _ _ l0 t106 _ ?side1 ?side2 A13.out).mono ?_); (case side1 => repeat (first | exact (Kd.C_below HR0.out HB.out) | (with_reducible refine Kd.C_alloc ?_ _) | (with_reducible refine Kd.C_drewN ?_ _) | (with_reducible refine Kd.C_drew ?_))); (case side2 => exact HC0.out); rintro e w15 ⟨v107, rfl, ho0, hb⟩; refine ⟨_, rfl, ?_⟩; have n0_ := Aside0.mk (Kd.R_lower ho0 (below_size (by repeat (first | (with_reducible first | exact HB.out | apply below_alloc | apply pw_below_drewN | apply below_drew1) | exact HB.out)))); have n1_ := Aside0.mk (below_step (by repeat (first | (with_reducible first | exact HB.out | apply below_alloc | apply pw_below_drewN | apply below_drew1) | exact HB.out)) hb); clear HB; have HO108 := n0_; have HB := n1_; clear n0_ n1_; (try clear hb); (try clear hb2); (try clear hk); (try clear hi); (try clear ho0)) | ((with_reducible refine gate_callee (f := 55) rfl ?_); refine goesL_ (some 25) rfl rfl Tryz.func55 (by kernel_rfl) rfl #[.string a1] rfl (by (try simp only [List.map_toArray, List.map_cons, List.map_nil]); first | done | rfl | (simp only [List.length_drop, List.length_take]; rfl)) ?_; (with_reducible refine (spec_l2Pieces.calls kj2 a1 t109 _ A14.out).mono ?_); rintro e w16 ⟨v110, rfl, ho0, hb⟩; refine ⟨_, rfl, ?_⟩; have n0_ := Aside0.mk (Kd.R_below (by (with_reducible repeat (first | apply Kd.R_alloc | apply Kd.R_drewN | apply Kd.R_drew)); exact HO108.out) hb); have n1_ := Aside0.mk (Kd.R_lower ho0 (below_size (by repeat (first | (with_reducible first | exact HB.out | apply below_alloc | apply pw_below_drewN | apply below_drew1) | exact HB.out)))); have n2_ := Aside0.mk (below_step (by repeat (first | (with_reducible first | exact HB.out | apply below_alloc | apply pw_below_drewN | apply below_drew1) | exact HB.out)) hb); clear HO108; clear HB; have HO108 := n0_; have HO111 := n1_; have HB := n2_; clear n0_ n1_ n2_; (try clear hb); (try clear hb2); (try clear hk); (try clear hi); (try clear ho0)))
        go_loopg [6, 7, 8, 10] kj2 (fun kq v6 v7 v8 v10 w' => ∃ (x6_2 : List (S69)) (x7_2 : ByteArray) (x8_2 : Int) (x10_2 : Int), v7 = .string x7_2 ∧ v8 = .int .i64 x8_2 ∧ v10 = .int .i64 x10_2 ∧ Aside0 (spec_MapTextOut.l0 kq a1 x6_2 x7_2 x8_2 t109 x10_2 = some (r1, r2)) ∧ Aside0 (kq ≤ kj2) ∧ Aside0 (Kd.R k69 69 w' w.heap.size (fun _ => True) v6 x6_2) ∧ Aside0 (Kd.R k67 67 w' w.heap.size (fun _ => True) v110 t109) ∧ Aside0 (Below w.heap.size w w'))
        case atStart => exact ⟨(t106), ((⟨#[]⟩ : ByteArray)), (0), (0), (by first | rfl | (simp; done) | (simp [*]; done)), (by first | rfl | (simp; done) | (simp [*]; done)), (by first | rfl | (simp; done) | (simp [*]; done)), H', ⟨Nat.le_refl _⟩, ⟨by (with_reducible repeat (first | apply Kd.R_alloc | apply Kd.R_drewN | apply Kd.R_drew)); exact HO108.out⟩, ⟨by (with_reducible repeat (first | apply Kd.R_alloc | apply Kd.R_drewN | apply Kd.R_drew)); exact HO111.out⟩, ⟨by repeat (first | (with_reducible first | exact HB.out | apply below_alloc | apply pw_below_drewN | apply below_drew1) | exact HB.out)⟩⟩
        case round =>
          clear H'
          try clear c1
          try clear c2
          try clear p2
          try clear c3
          try clear c5
          try clear c6
          try clear c10
          try clear p2
          obtain ⟨x6_2, x7_2, x8_2, x10_2, rfl, rfl, rfl, HA, HK2, HO_6, HO_9, HB⟩ := hrel
          cases gk with
          | zero => exact absurd HA.out (by simp [spec_MapTextOut.l0])
          | succ k2 =>
            have H := HA.out
            clear HA
            simp only [spec_MapTextOut.l0] at H
            by_cases c17 : x10_2 < (t109.length : Int)
            · rw [if_pos c17] at H
              have c17b0 : decide (x10_2 < (t109.length : Int)) = true := decide_eq_true c17
              clear c17
              by_cases c18 : 0 ≤ x10_2
              · rw [if_pos c18] at H
                have c18b0 : decide (0 ≤ x10_2) = true := decide_eq_true c18
                clear c18
                by_cases c19 : 0 ≤ x8_2
                · rw [if_pos c19] at H
                  have c19b0 := eq_true c19
                  have c19b1 : decide (0 ≤ x8_2) = true := decide_eq_true c19
                  clear c19
                  by_cases c20 : x8_2 ≤ (wrap64 (x8_2 + ((rd_T67 t109 x10_2).f0)))
                  · rw [if_pos c20] at H
                    have c20b0 := eq_true c20
                    have c20b1 : decide (x8_2 ≤ (wrap64 (x8_2 + ((rd_T67 t109 x10_2).f0)))) = true := decide_eq_true c20
                    by_cases c21 : (wrap64 (x8_2 + ((rd_T67 t109 x10_2).f0))) ≤ (a1.size : Int)
                    · rw [if_pos c21] at H
                      have c21b0 := eq_true c21
                      have c21b1 : decide ((wrap64 (x8_2 + ((rd_T67 t109 x10_2).f0))) ≤ (a1.size : Int)) = true := decide_eq_true c21
                      replace H := Option.bind_eq_some_iff.mp H
                      obtain ⟨⟨t114, t117⟩, A220, H⟩ := H
                      replace H : (if x7_2.size + t117.size ≤ 9223372036854775807 then (spec_MapTextOut.l0 k2 a1 t114 (x7_2 ++ t117) (wrap64 (x8_2 + ((rd_T67 t109 x10_2).f0))) t109 (wrap64 (x10_2 + 1))) else (none)) = some (r1, r2) := H
                      have A22 := Aside0.mk A220
                      clear A220
                      by_cases c23 : x7_2.size + t117.size ≤ 9223372036854775807
                      · rw [if_pos c23] at H
                        have c23b0 := eq_true c23
                        have c23b1 : decide (x7_2.size + t117.size ≤ 9223372036854775807) = true := decide_eq_true c23
                        try have c23b2 : (9223372036854775807 < x7_2.size + t117.size) = False := eq_false (Nat.not_lt.2 c23)
                        have H' := Aside0.mk H
                        clear H
                        obtain ⟨Ao24, co24, eo24⟩ := Kd.R_slice HO_9.out
                        subst eo24
                        try go_wp2
                        have n0_ := Aside0.mk (Kd.R_drew HO_6.out)
                        have n1_ := Aside0.mk (Kd.R_drew HO_9.out)
                        have n2_ := Aside0.mk (below_drew1 HB.out)
                        clear HO_6
                        clear HO_9
                        clear HB
                        have HO_6 := n0_
                        have HO_9 := n1_
                        have HB := n2_
                        clear n0_ n1_ n2_
                        have p112 : 0 ≤ (x10_2 : Int) := of_decide_eq_true (by first | (with_reducible assumption) | assumption)
                        have q112 : x10_2 < (t109.length : Int) := of_decide_eq_true (by first | (with_reducible assumption) | assumption)
                        obtain ⟨ad112, e112, hx112_0, hx112_1, hx112_2, hx112_3⟩ := at_T67 (Kd.R_reads' HO_9.out).2.2 x10_2 p112 q112
                        cases e112
                        replace p112 := eq_true p112
                        replace q112 := eq_true q112
                        have p113 : 0 ≤ (x10_2 : Int) := of_decide_eq_true (by first | (with_reducible assumption) | assumption)
                        have q113 : x10_2 < (t109.length : Int) := of_decide_eq_true (by first | (with_reducible assumption) | assumption)
                        obtain ⟨ad113, e113, hx113_0, hx113_1, hx113_2, hx113_3⟩ := at_T67 (Kd.R_reads' HO_9.out).2.2 x10_2 p113 q113
                        obtain rfl : ad112 = ad113 := (by injection e113)
                        replace p113 := eq_true p113
                        replace q113 := eq_true q113
                        obtain ⟨Ao26, co26, eo26⟩ := Kd.R_slice HO_6.out
                        (first | subst eo26 | (injection eo26 with f1_ f2_ f3_; have f4_ := f1_.symm; have f5_ := f3_.symm; clear f1_ f2_ f3_; subst f4_; subst f5_))
                        refine start_ (n := 21) (S := fun w' => w'.cell? (ad112.add ((x10_2).toNat * 4)) = some (.int .i64 ((rd_T67 t109 x10_2).f0)) ∧ w'.cell? ⟨(ad112.add ((x10_2).toNat * 4)).block, (ad112.add ((x10_2).toNat * 4)).off + 1, none⟩ = some (.bool ((rd_T67 t109 x10_2).f1)) ∧ w'.cell? ⟨(ad112.add ((x10_2).toNat * 4)).block, (ad112.add ((x10_2).toNat * 4)).off + 2, none⟩ = some (.int .i64 ((rd_T67 t109 x10_2).f2.f0)) ∧ w'.cell? ⟨(ad112.add ((x10_2).toNat * 4)).block, (ad112.add ((x10_2).toNat * 4)).off + 3, none⟩ = some (.int .i64 ((rd_T67 t109 x10_2).f2.f1)) ∧ w'.cell? (ad112.add ((x10_2).toNat * 4)) = some (.int .i64 ((rd_T67 t109 x10_2).f0)) ∧ w'.cell? ⟨(ad112.add ((x10_2).toNat * 4)).block, (ad112.add ((x10_2).toNat * 4)).off + 1, none⟩ = some (.bool ((rd_T67 t109 x10_2).f1)) ∧ w'.cell? ⟨(ad112.add ((x10_2).toNat * 4)).block, (ad112.add ((x10_2).toNat * 4)).off + 2, none⟩ = some (.int .i64 ((rd_T67 t109 x10_2).f2.f0)) ∧ w'.cell? ⟨(ad112.add ((x10_2).toNat * 4)).block, (ad112.add ((x10_2).toNat * 4)).off + 3, none⟩ = some (.int .i64 ((rd_T67 t109 x10_2).f2.f1))) (ds := []) #[false, false, false, false, false, false, false, false, false, false, false, false, false, false, false, false, false, false, false, false, false] (by kernel_rfl) rfl rfl ⟨hx112_0, hx112_1, hx112_2, hx112_3, hx113_0, hx113_1, hx113_2, hx113_3⟩ (fun hHeld => ?_); refine with_tabW spec_MapTextOut.tab10 spec_MapTextOut.bits10 (fun HT_ HW_ => ?_)
                        generalize wr.drew = w25 at HO_6 HO_9 HB hx112_0 hx112_1 hx112_2 hx112_3 hx113_0 hx113_1 hx113_2 hx113_3 hHeld ⊢
                        refine pure_ (i := 0) (N := some 33) (v := ?_) (a' := ?_) #[true, false, false, false, false, false, false, false, false, false, false, false, false, false, false, false, false, false, false, false, false] rfl rfl (any_of HT_.out (by kernel_rfl)) (fun _ _ _ h => h) (Or.inl ⟨by rfl, ?_⟩) ?_ ?_
                        rotate_left
                        · intro w'
                          go_simp
                          with_reducible rfl
                        rotate_left
                        · simp only [Act.put, List.setIfInBounds_toArray, List.set_cons_zero, List.set_cons_succ, i64_w, i32_w]
                          rfl
                        refine pure_ (i := 1) (N := some 34) (v := ?_) (a' := ?_) #[true, true, false, false, false, false, false, false, false, false, false, false, false, false, false, false, false, false, false, false, false] rfl rfl (any_of HT_.out (by kernel_rfl)) (fun _ _ _ h => h) (Or.inl ⟨by rfl, ?_⟩) ?_ ?_
                        rotate_left
                        · intro w'
                          go_simp
                          with_reducible rfl
                        rotate_left
                        · simp only [Act.put, List.setIfInBounds_toArray, List.set_cons_zero, List.set_cons_succ, i64_w, i32_w]
                          rfl
                        refine pure_ (i := 2) (N := some 35) (v := ?_) (a' := ?_) #[true, true, true, false, false, false, false, false, false, false, false, false, false, false, false, false, false, false, false, false, false] rfl rfl (any_of HT_.out (by kernel_rfl)) (fun _ _ _ h => h) (Or.inl ⟨by rfl, ?_⟩) ?_ ?_
                        rotate_left
                        · intro w'
                          go_simp
                          with_reducible rfl
                        rotate_left
                        · simp only [Act.put, List.setIfInBounds_toArray, List.set_cons_zero, List.set_cons_succ, i64_w, i32_w]
                          rfl
                        refine pure_ (i := 3) (N := some 36) (v := ?_) (a' := ?_) #[true, true, true, true, false, false, false, false, false, false, false, false, false, false, false, false, false, false, false, false, false] rfl rfl (any_of HT_.out (by kernel_rfl)) (fun _ _ _ h => h) (Or.inl ⟨by rfl, ?_⟩) ?_ ?_
                        rotate_left
                        · intro w'
                          go_simp
                          with_reducible rfl
                        rotate_left
                        · simp only [Act.put, List.setIfInBounds_toArray, List.set_cons_zero, List.set_cons_succ, i64_w, i32_w]
                          rfl
                        refine pure_ (i := 5) (N := some 38) (v := ?_) (a' := ?_) #[true, true, true, true, false, true, false, false, false, false, false, false, false, false, false, false, false, false, false, false, false] rfl rfl (any_of HT_.out (by kernel_rfl)) (fun _ _ _ h => h) (Or.inl ⟨by rfl, ?_⟩) ?_ ?_
                        rotate_left
                        · intro w'
                          go_simp
                          with_reducible rfl
                        rotate_left
                        · simp only [Act.put, List.setIfInBounds_toArray, List.set_cons_zero, List.set_cons_succ, i64_w, i32_w]
                          rfl
                        refine pure_ (i := 6) (N := some 39) (v := ?_) (a' := ?_) #[true, true, true, true, false, true, true, false, false, false, false, false, false, false, false, false, false, false, false, false, false] rfl rfl (any_of HT_.out (by kernel_rfl)) (fun _ _ _ h => h) (Or.inl ⟨by rfl, ?_⟩) ?_ ?_
                        rotate_left
                        · intro w'
                          go_simp
                          with_reducible rfl
                        rotate_left
                        · simp only [Act.put, List.setIfInBounds_toArray, List.set_cons_zero, List.set_cons_succ, i64_w, i32_w]
                          rfl
                        refine pure_ (i := 7) (N := some 40) (v := ?_) (a' := ?_) #[true, true, true, true, false, true, true, true, false, false, false, false, false, false, false, false, false, false, false, false, false] rfl rfl (any_of HT_.out (by kernel_rfl)) (fun _ _ _ h => h) (Or.inl ⟨by rfl, ?_⟩) ?_ ?_
                        rotate_left
                        · intro w'
                          go_simp
                          with_reducible rfl
                        rotate_left
                        · simp only [Act.put, List.setIfInBounds_toArray, List.set_cons_zero, List.set_cons_succ, i64_w, i32_w]
                          rfl
                        refine pure_ (i := 8) (N := some 41) (v := ?_) (a' := ?_) #[true, true, true, true, false, true, true, true, true, false, false, false, false, false, false, false, false, false, false, false, false] rfl rfl (any_of HT_.out (by kernel_rfl)) (fun _ _ _ h => h) (Or.inl ⟨by rfl, ?_⟩) ?_ ?_
                        rotate_left
                        · intro w'
                          go_simp
                          with_reducible rfl
                        rotate_left
                        · simp only [Act.put, List.setIfInBounds_toArray, List.set_cons_zero, List.set_cons_succ, i64_w, i32_w]
                          rfl
                        refine pure_ (i := 9) (N := some 42) (v := ?_) (a' := ?_) #[true, true, true, true, false, true, true, true, true, true, false, false, false, false, false, false, false, false, false, false, false] rfl rfl (any_of HT_.out (by kernel_rfl)) (fun _ _ _ h => h) (Or.inl ⟨by rfl, ?_⟩) ?_ ?_
                        rotate_left
                        · intro w'
                          go_simp
                          with_reducible rfl
                        rotate_left
                        · simp only [Act.put, List.setIfInBounds_toArray, List.set_cons_zero, List.set_cons_succ, i64_w, i32_w]
                          rfl
                        refine pure_ (i := 10) (N := some 43) (v := ?_) (a' := ?_) #[true, true, true, true, false, true, true, true, true, true, true, false, false, false, false, false, false, false, false, false, false] rfl rfl (any_of HT_.out (by kernel_rfl)) (fun _ _ _ h => h) (Or.inl ⟨by rfl, ?_⟩) ?_ ?_
                        rotate_left
                        · intro w'
                          go_simp
                          with_reducible rfl
                        rotate_left
                        · simp only [Act.put, List.setIfInBounds_toArray, List.set_cons_zero, List.set_cons_succ, i64_w, i32_w]
                          rfl
                        refine pure_ (i := 11) (N := some 44) (v := ?_) (a' := ?_) #[true, true, true, true, false, true, true, true, true, true, true, true, false, false, false, false, false, false, false, false, false] rfl rfl (any_of HT_.out (by kernel_rfl)) (fun _ _ _ h => h) (Or.inl ⟨by rfl, ?_⟩) ?_ ?_
                        rotate_left
                        · intro w'
                          go_simp
                          with_reducible rfl
                        rotate_left
                        · simp only [Act.put, List.setIfInBounds_toArray, List.set_cons_zero, List.set_cons_succ, i64_w, i32_w]
                          rfl
                        refine take_ (i := 4) (N := some 37) (v := ?_) (a' := ?_) #[true, true, true, true, true, true, true, true, true, true, true, true, false, false, false, false, false, false, false, false, false] rfl rfl (take_ofW HT_.out HW_.out (by kernel_rfl)) (fun _ _ _ h => h) (Or.inl ⟨by rfl, ?_⟩) hHeld ?_ ?_
                        rotate_left
                        · rintro w' ⟨s0, s1, s2, s3, s4, s5, s6, s7⟩
                          go_simp
                          with_reducible rfl
                        rotate_left
                        · simp only [Act.put, List.setIfInBounds_toArray, List.set_cons_zero, List.set_cons_succ, i64_w, i32_w]
                          rfl
                        refine take_ (i := 12) (N := some 45) (v := ?_) (a' := ?_) #[true, true, true, true, true, true, true, true, true, true, true, true, true, false, false, false, false, false, false, false, false] rfl rfl (take_ofW HT_.out HW_.out (by kernel_rfl)) (fun _ _ _ h => h) (Or.inl ⟨by rfl, ?_⟩) hHeld ?_ ?_
                        rotate_left
                        · rintro w' ⟨s0, s1, s2, s3, s4, s5, s6, s7⟩
                          go_simp
                          with_reducible rfl
                        rotate_left
                        · simp only [Act.put, List.setIfInBounds_toArray, List.set_cons_zero, List.set_cons_succ, i64_w, i32_w]
                          rfl
                        refine pure_ (i := 13) (N := some 46) (v := ?_) (a' := ?_) #[true, true, true, true, true, true, true, true, true, true, true, true, true, true, false, false, false, false, false, false, false] rfl rfl (any_of HT_.out (by kernel_rfl)) (fun _ _ _ h => h) (Or.inl ⟨by rfl, ?_⟩) ?_ ?_
                        rotate_left
                        · intro w'
                          go_simp
                          with_reducible rfl
                        rotate_left
                        · simp only [Act.put, List.setIfInBounds_toArray, List.set_cons_zero, List.set_cons_succ, i64_w, i32_w]
                          rfl
                        refine pure_ (i := 14) (N := some 47) (v := ?_) (a' := ?_) #[true, true, true, true, true, true, true, true, true, true, true, true, true, true, true, false, false, false, false, false, false] rfl rfl (any_of HT_.out (by kernel_rfl)) (fun _ _ _ h => h) (Or.inl ⟨by rfl, ?_⟩) ?_ ?_
                        rotate_left
                        · intro w'
                          go_simp
                          with_reducible rfl
                        rotate_left
                        · simp only [Act.put, List.setIfInBounds_toArray, List.set_cons_zero, List.set_cons_succ, i64_w, i32_w]
                          rfl
                        refine one_ (i := 15) (N := some 48) #[true, true, true, true, true, true, true, true, true, true, true, true, true, true, true, true, false, false, false, false, false] rfl rfl (one_of HT_.out (by kernel_rfl)) (by decide) (fun K hK => ?_)
                        refine goes_ Tryz.func63 (by kernel_rfl) rfl #[.slice Ao26 x6_2.length co26, .agg #[.int .i64 ((rd_T67 t109 x10_2).f0), .bool ((rd_T67 t109 x10_2).f1), .int .i64 ((rd_T67 t109 x10_2).f2.f0), .int .i64 ((rd_T67 t109 x10_2).f2.f1)], .string (a1.extract (x8_2 : Int).toNat ((wrap64 (x8_2 + ((rd_T67 t109 x10_2).f0))) : Int).toNat)] (by rfl) rfl rfl (by (try simp only [List.map_toArray, List.map_cons, List.map_nil]); first | done | rfl | (simp only [List.length_drop, List.length_take]; rfl)) ?_
                        with_reducible refine (spec_l3PieceOut.calls (fun k_ => some k_ = (.slice Ao26 x6_2.length co26 : Value).ownBlock) (.slice Ao26 x6_2.length co26) x6_2 ((rd_T67 t109 x10_2).f0) ((rd_T67 t109 x10_2).f1) ((rd_T67 t109 x10_2).f2.f0) ((rd_T67 t109 x10_2).f2.f1) (a1.extract (x8_2 : Int).toNat ((wrap64 (x8_2 + ((rd_T67 t109 x10_2).f0))) : Int).toNat) t114 t117 w _ ?side1 ?side2 A22.out).mono ?_
                        (case side1 => repeat (first | (with_reducible first | exact HB.out | apply below_alloc | apply pw_below_drewN | apply below_drew1) | exact HB.out))
                        (case side2 => exact Kd.R_tight rfl HO_6.out)
                        rintro e w27 ⟨v115, rfl, ho0, hb, hkp⟩
                        have HS0_ := cell_kept (hHeld.1) hkp (by first | (rw [add_block]; exact (fun hs_ => ((((Kd.R_apart' HO_9.out (Kd.R_typed HO_6.out) (by decide))).1 _ rfl).2) hs_)) | (show ¬ _; simp only [add_block]; exact (fun hs_ => ((((Kd.R_apart' HO_9.out (Kd.R_typed HO_6.out) (by decide))).1 _ rfl).2) hs_)) | exact (fun hs_ => ((((Kd.R_apart' HO_9.out (Kd.R_typed HO_6.out) (by decide))).1 _ rfl).2) hs_))
                        have HS1_ := cell_kept (hHeld.2.1) hkp (by first | (rw [add_block]; exact (fun hs_ => ((((Kd.R_apart' HO_9.out (Kd.R_typed HO_6.out) (by decide))).1 _ rfl).2) hs_)) | (show ¬ _; simp only [add_block]; exact (fun hs_ => ((((Kd.R_apart' HO_9.out (Kd.R_typed HO_6.out) (by decide))).1 _ rfl).2) hs_)) | exact (fun hs_ => ((((Kd.R_apart' HO_9.out (Kd.R_typed HO_6.out) (by decide))).1 _ rfl).2) hs_))
                        have HS2_ := cell_kept (hHeld.2.2.1) hkp (by first | (rw [add_block]; exact (fun hs_ => ((((Kd.R_apart' HO_9.out (Kd.R_typed HO_6.out) (by decide))).1 _ rfl).2) hs_)) | (show ¬ _; simp only [add_block]; exact (fun hs_ => ((((Kd.R_apart' HO_9.out (Kd.R_typed HO_6.out) (by decide))).1 _ rfl).2) hs_)) | exact (fun hs_ => ((((Kd.R_apart' HO_9.out (Kd.R_typed HO_6.out) (by decide))).1 _ rfl).2) hs_))
                        have HS3_ := cell_kept (hHeld.2.2.2.1) hkp (by first | (rw [add_block]; exact (fun hs_ => ((((Kd.R_apart' HO_9.out (Kd.R_typed HO_6.out) (by decide))).1 _ rfl).2) hs_)) | (show ¬ _; simp only [add_block]; exact (fun hs_ => ((((Kd.R_apart' HO_9.out (Kd.R_typed HO_6.out) (by decide))).1 _ rfl).2) hs_)) | exact (fun hs_ => ((((Kd.R_apart' HO_9.out (Kd.R_typed HO_6.out) (by decide))).1 _ rfl).2) hs_))
                        have HS4_ := cell_kept (hHeld.2.2.2.2.1) hkp (by first | (rw [add_block]; exact (fun hs_ => ((((Kd.R_apart' HO_9.out (Kd.R_typed HO_6.out) (by decide))).1 _ rfl).2) hs_)) | (show ¬ _; simp only [add_block]; exact (fun hs_ => ((((Kd.R_apart' HO_9.out (Kd.R_typed HO_6.out) (by decide))).1 _ rfl).2) hs_)) | exact (fun hs_ => ((((Kd.R_apart' HO_9.out (Kd.R_typed HO_6.out) (by decide))).1 _ rfl).2) hs_))
                        have HS5_ := cell_kept (hHeld.2.2.2.2.2.1) hkp (by first | (rw [add_block]; exact (fun hs_ => ((((Kd.R_apart' HO_9.out (Kd.R_typed HO_6.out) (by decide))).1 _ rfl).2) hs_)) | (show ¬ _; simp only [add_block]; exact (fun hs_ => ((((Kd.R_apart' HO_9.out (Kd.R_typed HO_6.out) (by decide))).1 _ rfl).2) hs_)) | exact (fun hs_ => ((((Kd.R_apart' HO_9.out (Kd.R_typed HO_6.out) (by decide))).1 _ rfl).2) hs_))
                        have HS6_ := cell_kept (hHeld.2.2.2.2.2.2.1) hkp (by first | (rw [add_block]; exact (fun hs_ => ((((Kd.R_apart' HO_9.out (Kd.R_typed HO_6.out) (by decide))).1 _ rfl).2) hs_)) | (show ¬ _; simp only [add_block]; exact (fun hs_ => ((((Kd.R_apart' HO_9.out (Kd.R_typed HO_6.out) (by decide))).1 _ rfl).2) hs_)) | exact (fun hs_ => ((((Kd.R_apart' HO_9.out (Kd.R_typed HO_6.out) (by decide))).1 _ rfl).2) hs_))
                        have HS7_ := cell_kept (hHeld.2.2.2.2.2.2.2) hkp (by first | (rw [add_block]; exact (fun hs_ => ((((Kd.R_apart' HO_9.out (Kd.R_typed HO_6.out) (by decide))).1 _ rfl).2) hs_)) | (show ¬ _; simp only [add_block]; exact (fun hs_ => ((((Kd.R_apart' HO_9.out (Kd.R_typed HO_6.out) (by decide))).1 _ rfl).2) hs_)) | exact (fun hs_ => ((((Kd.R_apart' HO_9.out (Kd.R_typed HO_6.out) (by decide))).1 _ rfl).2) hs_))
                        refine ⟨_, rfl, ?_⟩
                        have n0_ := Aside0.mk (Kd.R_mono (ok' := fun k_ => True) (Kd.R_keptB ((Kd.R_apart' HO_9.out (Kd.R_typed HO_6.out) (by decide))) hkp (fun k_ hk_ hs_ => (hk_.2) hs_)) (fun k_ hk_ => trivial))
                        have n1_ := Aside0.mk (Kd.R_mono (ok' := fun k_ => True) ho0 (fun k_ hk_ => trivial))
                        have n2_ := Aside0.mk (hb)
                        clear HO_9
                        clear HB
                        clear HO_6
                        have HO_9 := n0_
                        have HO116 := n1_
                        have HB := n2_
                        clear n0_ n1_ n2_
                        (try clear hb)
                        (try clear hkp)
                        (try clear ho0)
                        refine hK.out _ _ ⟨HS0_, HS1_, HS2_, HS3_, HS4_, HS5_, HS6_, HS7_⟩ (fun hHeld => ?_)
                        clear hK K
                        refine norm_ (a' := ?_) ?_ ?_
                        rotate_left
                        · show Act.put _ (some 48) _ = _
                          simp only [Act.put, List.setIfInBounds_toArray, List.set_cons_zero, List.set_cons_succ, i64_w, i32_w]
                          rfl
                        refine pure_ (i := 16) (N := some 32) (v := ?_) (a' := ?_) #[true, true, true, true, true, true, true, true, true, true, true, true, true, true, true, true, true, false, false, false, false] rfl rfl (any_of HT_.out (by kernel_rfl)) (fun _ _ _ h => h) (Or.inl ⟨by rfl, ?_⟩) ?_ ?_
                        rotate_left
                        · intro w'
                          go_simp
                          with_reducible rfl
                        rotate_left
                        · simp only [Act.put, List.setIfInBounds_toArray, List.set_cons_zero, List.set_cons_succ, i64_w, i32_w]
                          rfl
                        refine pure_ (i := 17) (N := some 49) (v := ?_) (a' := ?_) #[true, true, true, true, true, true, true, true, true, true, true, true, true, true, true, true, true, true, false, false, false] rfl rfl (any_of HT_.out (by kernel_rfl)) (fun _ _ _ h => h) (Or.inl ⟨by rfl, ?_⟩) ?_ ?_
                        rotate_left
                        · intro w'
                          go_simp
                          with_reducible rfl
                        rotate_left
                        · simp only [Act.put, List.setIfInBounds_toArray, List.set_cons_zero, List.set_cons_succ, i64_w, i32_w]
                          rfl
                        refine pure_ (i := 18) (N := some 50) (v := ?_) (a' := ?_) #[true, true, true, true, true, true, true, true, true, true, true, true, true, true, true, true, true, true, true, false, false] rfl rfl (any_of HT_.out (by kernel_rfl)) (fun _ _ _ h => h) (Or.inl ⟨by rfl, ?_⟩) ?_ ?_
                        rotate_left
                        · intro w'
                          go_simp
                          with_reducible rfl
                        rotate_left
                        · simp only [Act.put, List.setIfInBounds_toArray, List.set_cons_zero, List.set_cons_succ, i64_w, i32_w]
                          rfl
                        refine pure_ (i := 19) (N := some 11) (v := ?_) (a' := ?_) #[true, true, true, true, true, true, true, true, true, true, true, true, true, true, true, true, true, true, true, true, false] rfl rfl (any_of HT_.out (by kernel_rfl)) (fun _ _ _ h => h) (Or.inl ⟨by rfl, ?_⟩) ?_ ?_
                        rotate_left
                        · intro w'
                          go_simp
                          with_reducible rfl
                        rotate_left
                        · simp only [Act.put, List.setIfInBounds_toArray, List.set_cons_zero, List.set_cons_succ, i64_w, i32_w]
                          rfl
                        refine pure_ (i := 20) (N := some 12) (v := ?_) (a' := ?_) #[true, true, true, true, true, true, true, true, true, true, true, true, true, true, true, true, true, true, true, true, true] rfl rfl (any_of HT_.out (by kernel_rfl)) (fun _ _ _ h => h) (Or.inl ⟨by rfl, ?_⟩) ?_ ?_
                        rotate_left
                        · intro w'
                          go_simp
                          with_reducible rfl
                        rotate_left
                        · simp only [Act.put, List.setIfInBounds_toArray, List.set_cons_zero, List.set_cons_succ, i64_w, i32_w]
                          rfl
                        refine done_ (done_of HT_.out (by kernel_rfl)) ?_
                        have p118 : 0 ≤ (x10_2 : Int) := of_decide_eq_true (by first | (with_reducible assumption) | assumption)
                        have q118 : x10_2 < (t109.length : Int) := of_decide_eq_true (by first | (with_reducible assumption) | assumption)
                        obtain ⟨ad118, e118, hx118_0, hx118_1, hx118_2, hx118_3⟩ := at_T67 (Kd.R_reads' HO_9.out).2.2 x10_2 p118 q118
                        obtain rfl : ad112 = ad118 := (by injection e118)
                        replace p118 := eq_true p118
                        replace q118 := eq_true q118
                        try go_wp2
                        go_roundg k2
                        case measure => have := HJ2.out; have := HK2.out; omega
                        case rel => exact ⟨(t114), (x7_2 ++ t117), (wrap64 (x8_2 + ((rd_T67 t109 x10_2).f0))), (wrap64 (x10_2 + 1)), (by first | rfl | (simp; done) | (simp [*]; done)), (by first | rfl | (simp; done) | (simp [*]; done)), (by first | rfl | (simp; done) | (simp [*]; done)), H', ⟨by have := HJ2.out; have := HK2.out; omega⟩, ⟨by (with_reducible repeat (first | apply Kd.R_alloc | apply Kd.R_drewN | apply Kd.R_drew)); exact HO116.out⟩, ⟨by (with_reducible repeat (first | apply Kd.R_alloc | apply Kd.R_drewN | apply Kd.R_drew)); exact HO_9.out⟩, ⟨by repeat (first | (with_reducible first | exact HB.out | apply below_alloc | apply pw_below_drewN | apply below_drew1) | exact HB.out)⟩⟩
                      · rw [if_neg c23] at H
                        exact absurd H (by simp)
                    · rw [if_neg c21] at H
                      exact absurd H (by simp)
                  · rw [if_neg c20] at H
                    exact absurd H (by simp)
                · rw [if_neg c19] at H
                  exact absurd H (by simp)
              · rw [if_neg c18] at H
                exact absurd H (by simp)
            · rw [if_neg c17] at H
              have c17b0 : decide (x10_2 < (t109.length : Int)) = false := decide_eq_false c17
              clear c17
              simp only [Option.some.injEq, Prod.mk.injEq] at H
              obtain ⟨rfl, rfl⟩ := H
              obtain ⟨Ao28, co28, eo28⟩ := Kd.R_slice HO_9.out
              subst eo28
              go_wp2
              go_ret2
              exact ⟨_, by first | rfl | (simp [errW_none, errW_some] <;> rfl) | (simp [*, errW_none, errW_some] <;> rfl), by (with_reducible repeat (first | apply Kd.R_alloc | apply Kd.R_drewN | apply Kd.R_drew)); exact HO_6.out, by repeat (first | (with_reducible first | exact HB.out | apply below_alloc | apply pw_below_drewN | apply below_drew1) | exact HB.out)⟩
end
end Go.Proofs.YtijompkonaiagaaGreatDoor.Q
namespace Go.Proofs.YtijompkonaiagaaGreatDoor.Q
open Go.RowKit Go.Proofs.YtijompkonaiagaaGreatDoorW.PrintWords Go.Proofs.YtijompkonaiagaaGreatDoorW.PrintLast Go.Proofs.YtijompkonaiagaaGreatDoorW.PrintMore
attribute [local go_sem] max2_int min2_int max_two min_two max_three min_three max_four min_four
set_option linter.unusedVariables false
set_option linter.unusedSimpArgs false
noncomputable section
def spec_DrawMapTextOut.f (k : Nat) (l0 : List Int) : Option ((List (S69)) × ByteArray) := (spec_l6Open.f l0).bind fun bt101 => ((spec_l71Map.f k bt101.1 bt101.2).bind fun bt104 => ((spec_l71Off.f k bt101.1 bt104.2).bind fun bt108 => (some (bt104.1, bt108.1))))
theorem spec_DrawMapTextOut.mono : ∀ a0 k, LeO (spec_DrawMapTextOut.f k a0) (spec_DrawMapTextOut.f (k + 1) a0) := by
  intro a0 k
  unfold spec_DrawMapTextOut.f
  repeat' first
      | (with_reducible exact spec_l71Map.mono _ _ _)
      | (with_reducible exact spec_l71Off.mono _ _ _)
      | (with_reducible exact LeO.refl _)
      | (with_reducible exact LeO.none _)
      | (with_reducible refine LeO.ite ?_ ?_)
      | (with_reducible refine LeO.bind ?_ (fun _ => ?_))
      | exact spec_l71Map.mono _ _ _
      | exact spec_l71Off.mono _ _ _
      | exact LeO.none _
      | refine LeO.ite ?_ ?_
      | refine LeO.bind ?_ (fun _ => ?_)
set_option maxHeartbeats 8000000 in
set_option maxRecDepth 100000 in
theorem spec_DrawMapTextOut.calls (k : Nat) (A0 : Option Addr) (c0 : Nat) (l0 : List Int) (r1 : List (S69)) (r2 : ByteArray) (w : World) (hr0 : Kd.C (Kd.int .u8) w A0 l0.length l0) (hc0 : l0.length ≤ c0) (h : spec_DrawMapTextOut.f k l0 = some (r1, r2)) :
    Calls Tryz.prog 28 #[.slice A0 l0.length c0] w fun e w' => ∃ v0_ : Value, e = .returned (.tuple #[v0_, .string r2]) ∧ Kd.Q k69 69 w' w.heap.size (fun _ => True) v0_ r1 ∧ Below w.heap.size w w' := by
  have HR0 := Aside0.mk hr0
  have HC0 := Aside0.mk hc0
  clear hr0 hc0
  have HB := Aside0.mk (Below.refl w.heap.size w)
  have H : ((spec_l6Open.f l0).bind fun bt101 => ((spec_l71Map.f k bt101.1 bt101.2).bind fun bt104 => ((spec_l71Off.f k bt101.1 bt104.2).bind fun bt108 => (some (bt104.1, bt108.1))))) = some (r1, r2) := h
  clear h
  replace H := Option.bind_eq_some_iff.mp H
  obtain ⟨⟨t101, t102⟩, A20, H⟩ := H
  replace H : ((spec_l71Map.f k t101 t102).bind fun bt104 => ((spec_l71Off.f k t101 bt104.2).bind fun bt108 => (some (bt104.1, bt108.1)))) = some (r1, r2) := H
  have A2 := Aside0.mk A20
  clear A20
  replace H := Option.bind_eq_some_iff.mp H
  obtain ⟨⟨t104, t107⟩, A30, H⟩ := H
  replace H : ((spec_l71Off.f k t101 t107).bind fun bt108 => (some (t104, bt108.1))) = some (r1, r2) := H
  have A3 := Aside0.mk A30
  clear A30
  replace H := Option.bind_eq_some_iff.mp H
  obtain ⟨⟨t108, t109⟩, A40, H⟩ := H
  replace H : (some (t104, t108)) = some (r1, r2) := H
  have A4 := Aside0.mk A40
  clear A40
  simp only [Option.some.injEq, Prod.mk.injEq] at H
  obtain ⟨rfl, rfl⟩ := H
  go_enter Tryz.func28, Tryz.ntmps28
  go_wp2_with (first | ((with_reducible refine gate_callee (f := 41) rfl ?_); refine goesL_ (some 6) rfl rfl Tryz.func41 (by kernel_rfl) rfl #[.slice A0 l0.length c0] rfl (by (try simp only [List.map_toArray, List.map_cons, List.map_nil]); first | done | rfl | (simp only [List.length_drop, List.length_take]; rfl)) ?_; (with_reducible refine (spec_l6Open.calls _ _ l0 t101 t102 w _ ?side1 ?side2 ?side3 A2.out).mono ?_); (case side1 => repeat (first | (with_reducible first | exact HB.out | apply below_alloc | apply pw_below_drewN | apply below_drew1) | exact HB.out)); (case side2 => exact HR0.out); (case side3 => exact HC0.out); rintro e w5 ⟨g103, rfl, hi, hb, hb2⟩; refine ⟨_, rfl, ?_⟩; have n0_ := Aside0.mk (hb); have n1_ := Aside0.mk (hi); clear HB; have HB := n0_; have HI103 := n1_; clear n0_ n1_; (try clear hb); (try clear hb2); (try clear hk); (try clear hi)) | ((with_reducible refine gate_callee (f := 65) rfl ?_); refine goesL_ (some 8) rfl rfl Tryz.func65 (by kernel_rfl) rfl #[.pointer (some ⟨g103, 0, none⟩)] rfl (by (try simp only [List.map_toArray, List.map_cons, List.map_nil]); first | done | rfl | (simp only [List.length_drop, List.length_take]; rfl)) ?_; (with_reducible refine (spec_l71Map.calls k g103 t101 t102 t104 t107 w _ ?side1 ?side2 A3.out).mono ?_); (case side1 => repeat (first | (with_reducible first | exact HI103.out | apply IsS91.alloc | apply IsS91.drewN | apply IsS91.drew | apply IsS91.set_1) | exact HI103.out)); (case side2 => repeat (first | (with_reducible first | exact HB.out | apply below_alloc | apply pw_below_drewN | apply below_drew1 | refine below_set ?_ (IsS91.ge HI103.out)) | exact HB.out)); rintro e w6 ⟨v105, rfl, ho0, hi, hb, hk⟩; refine ⟨_, rfl, ?_⟩; have n0_ := Aside0.mk (Kd.Q_lower ho0 (below_size (by repeat (first | (with_reducible first | exact HB.out | apply below_alloc | apply pw_below_drewN | apply below_drew1 | refine below_set ?_ (IsS91.ge HI103.out)) | exact HB.out)))); have n1_ := Aside0.mk (hb); have n2_ := Aside0.mk (hi); clear HB; clear HI103; have HO106 := n0_; have HB := n1_; have HI103 := n2_; clear n0_ n1_ n2_; (try clear hb); (try clear hb2); (try clear hk); (try clear hi); (try clear ho0)) | ((with_reducible refine gate_callee (f := 45) rfl ?_); refine goesL_ (some 10) rfl rfl Tryz.func45 (by kernel_rfl) rfl #[.pointer (some ⟨g103, 0, none⟩)] rfl (by (try simp only [List.map_toArray, List.map_cons, List.map_nil]); first | done | rfl | (simp only [List.length_drop, List.length_take]; rfl)) ?_; (with_reducible refine (spec_l71Off.calls k g103 t101 t107 t108 t109 w _ ?side1 ?side2 A4.out).mono ?_); (case side1 => repeat (first | (with_reducible first | exact HI103.out | apply IsS91.alloc | apply IsS91.drewN | apply IsS91.drew | apply IsS91.set_1) | exact HI103.out)); (case side2 => repeat (first | (with_reducible first | exact HB.out | apply below_alloc | apply pw_below_drewN | apply below_drew1 | refine below_set ?_ (IsS91.ge HI103.out)) | exact HB.out)); rintro e w7 ⟨rfl, hi, hb, hk⟩; refine ⟨_, rfl, ?_⟩; have n0_ := Aside0.mk (Kd.Q_mono (Kd.Q_keep (IsS91.apartQ (show IsS91 w _ g103 t101 t107 from by repeat (first | (with_reducible first | exact HI103.out | apply IsS91.alloc | apply IsS91.drewN | apply IsS91.drew | apply IsS91.set_1) | exact HI103.out)) (by (with_reducible repeat (first | apply Kd.Q_alloc | apply Kd.Q_drewN | apply Kd.Q_drew)); exact HO106.out) (by decide)) hk (fun _ h => h.2)) (fun _ h => h.1)); have n1_ := Aside0.mk (hb); have n2_ := Aside0.mk (hi); clear HO106; clear HB; clear HI103; have HO106 := n0_; have HB := n1_; have HI103 := n2_; clear n0_ n1_ n2_; (try clear hb); (try clear hb2); (try clear hk); (try clear hi)))
  go_ret2
  exact ⟨_, by first | rfl | (simp [errW_none, errW_some] <;> rfl) | (simp [*, errW_none, errW_some] <;> rfl), by (with_reducible repeat (first | apply Kd.Q_alloc | apply Kd.Q_drewN | apply Kd.Q_drew)); exact HO106.out, by repeat (first | (with_reducible first | exact HB.out | apply below_alloc | apply pw_below_drewN | apply below_drew1 | refine below_set ?_ (IsS91.ge HI103.out)) | exact HB.out)⟩
end
end Go.Proofs.YtijompkonaiagaaGreatDoor.Q
namespace Go.Proofs.YtijompkonaiagaaGreatDoor.Q
open Go.RowKit Go.Proofs.YtijompkonaiagaaGreatDoorW.PrintWords Go.Proofs.YtijompkonaiagaaGreatDoorW.PrintLast Go.Proofs.YtijompkonaiagaaGreatDoorW.PrintMore
attribute [local go_sem] max2_int min2_int max_two min_two max_three min_three max_four min_four
set_option linter.unusedVariables false
set_option linter.unusedSimpArgs false
noncomputable section
def spec_DrawMapTextIn.f (k : Nat) (l0 : List Int) : Option ((List (S69)) × ByteArray) := (spec_l6Open.f l0).bind fun bt101 => ((spec_l71Map.f k bt101.1 bt101.2).bind fun bt104 => ((spec_l71Off.f k bt101.1 bt104.2).bind fun bt108 => (some (bt104.1, bt108.1))))
theorem spec_DrawMapTextIn.mono : ∀ a0 k, LeO (spec_DrawMapTextIn.f k a0) (spec_DrawMapTextIn.f (k + 1) a0) := by
  intro a0 k
  unfold spec_DrawMapTextIn.f
  repeat' first
      | (with_reducible exact spec_l71Map.mono _ _ _)
      | (with_reducible exact spec_l71Off.mono _ _ _)
      | (with_reducible exact LeO.refl _)
      | (with_reducible exact LeO.none _)
      | (with_reducible refine LeO.ite ?_ ?_)
      | (with_reducible refine LeO.bind ?_ (fun _ => ?_))
      | exact spec_l71Map.mono _ _ _
      | exact spec_l71Off.mono _ _ _
      | exact LeO.none _
      | refine LeO.ite ?_ ?_
      | refine LeO.bind ?_ (fun _ => ?_)
set_option maxHeartbeats 8000000 in
set_option maxRecDepth 100000 in
theorem spec_DrawMapTextIn.calls (k : Nat) (A0 : Option Addr) (c0 : Nat) (l0 : List Int) (r1 : List (S69)) (r2 : ByteArray) (w : World) (hr0 : Kd.C (Kd.int .u8) w A0 l0.length l0) (hc0 : l0.length ≤ c0) (h : spec_DrawMapTextIn.f k l0 = some (r1, r2)) :
    Calls Tryz.prog 33 #[.slice A0 l0.length c0] w fun e w' => ∃ v0_ : Value, e = .returned (.tuple #[v0_, .string r2]) ∧ Kd.Q k69 69 w' w.heap.size (fun _ => True) v0_ r1 ∧ Below w.heap.size w w' := by
  have HR0 := Aside0.mk hr0
  have HC0 := Aside0.mk hc0
  clear hr0 hc0
  have HB := Aside0.mk (Below.refl w.heap.size w)
  have H : ((spec_l6Open.f l0).bind fun bt101 => ((spec_l71Map.f k bt101.1 bt101.2).bind fun bt104 => ((spec_l71Off.f k bt101.1 bt104.2).bind fun bt108 => (some (bt104.1, bt108.1))))) = some (r1, r2) := h
  clear h
  replace H := Option.bind_eq_some_iff.mp H
  obtain ⟨⟨t101, t102⟩, A20, H⟩ := H
  replace H : ((spec_l71Map.f k t101 t102).bind fun bt104 => ((spec_l71Off.f k t101 bt104.2).bind fun bt108 => (some (bt104.1, bt108.1)))) = some (r1, r2) := H
  have A2 := Aside0.mk A20
  clear A20
  replace H := Option.bind_eq_some_iff.mp H
  obtain ⟨⟨t104, t107⟩, A30, H⟩ := H
  replace H : ((spec_l71Off.f k t101 t107).bind fun bt108 => (some (t104, bt108.1))) = some (r1, r2) := H
  have A3 := Aside0.mk A30
  clear A30
  replace H := Option.bind_eq_some_iff.mp H
  obtain ⟨⟨t108, t109⟩, A40, H⟩ := H
  replace H : (some (t104, t108)) = some (r1, r2) := H
  have A4 := Aside0.mk A40
  clear A40
  simp only [Option.some.injEq, Prod.mk.injEq] at H
  obtain ⟨rfl, rfl⟩ := H
  go_enter Tryz.func33, Tryz.ntmps33
  go_wp2_with (first | ((with_reducible refine gate_callee (f := 41) rfl ?_); refine goesL_ (some 6) rfl rfl Tryz.func41 (by kernel_rfl) rfl #[.slice A0 l0.length c0] rfl (by (try simp only [List.map_toArray, List.map_cons, List.map_nil]); first | done | rfl | (simp only [List.length_drop, List.length_take]; rfl)) ?_; (with_reducible refine (spec_l6Open.calls _ _ l0 t101 t102 w _ ?side1 ?side2 ?side3 A2.out).mono ?_); (case side1 => repeat (first | (with_reducible first | exact HB.out | apply below_alloc | apply pw_below_drewN | apply below_drew1) | exact HB.out)); (case side2 => exact HR0.out); (case side3 => exact HC0.out); rintro e w5 ⟨g103, rfl, hi, hb, hb2⟩; refine ⟨_, rfl, ?_⟩; have n0_ := Aside0.mk (hb); have n1_ := Aside0.mk (hi); clear HB; have HB := n0_; have HI103 := n1_; clear n0_ n1_; (try clear hb); (try clear hb2); (try clear hk); (try clear hi)) | ((with_reducible refine gate_callee (f := 65) rfl ?_); refine goesL_ (some 8) rfl rfl Tryz.func65 (by kernel_rfl) rfl #[.pointer (some ⟨g103, 0, none⟩)] rfl (by (try simp only [List.map_toArray, List.map_cons, List.map_nil]); first | done | rfl | (simp only [List.length_drop, List.length_take]; rfl)) ?_; (with_reducible refine (spec_l71Map.calls k g103 t101 t102 t104 t107 w _ ?side1 ?side2 A3.out).mono ?_); (case side1 => repeat (first | (with_reducible first | exact HI103.out | apply IsS91.alloc | apply IsS91.drewN | apply IsS91.drew | apply IsS91.set_1) | exact HI103.out)); (case side2 => repeat (first | (with_reducible first | exact HB.out | apply below_alloc | apply pw_below_drewN | apply below_drew1 | refine below_set ?_ (IsS91.ge HI103.out)) | exact HB.out)); rintro e w6 ⟨v105, rfl, ho0, hi, hb, hk⟩; refine ⟨_, rfl, ?_⟩; have n0_ := Aside0.mk (Kd.Q_lower ho0 (below_size (by repeat (first | (with_reducible first | exact HB.out | apply below_alloc | apply pw_below_drewN | apply below_drew1 | refine below_set ?_ (IsS91.ge HI103.out)) | exact HB.out)))); have n1_ := Aside0.mk (hb); have n2_ := Aside0.mk (hi); clear HB; clear HI103; have HO106 := n0_; have HB := n1_; have HI103 := n2_; clear n0_ n1_ n2_; (try clear hb); (try clear hb2); (try clear hk); (try clear hi); (try clear ho0)) | ((with_reducible refine gate_callee (f := 45) rfl ?_); refine goesL_ (some 10) rfl rfl Tryz.func45 (by kernel_rfl) rfl #[.pointer (some ⟨g103, 0, none⟩)] rfl (by (try simp only [List.map_toArray, List.map_cons, List.map_nil]); first | done | rfl | (simp only [List.length_drop, List.length_take]; rfl)) ?_; (with_reducible refine (spec_l71Off.calls k g103 t101 t107 t108 t109 w _ ?side1 ?side2 A4.out).mono ?_); (case side1 => repeat (first | (with_reducible first | exact HI103.out | apply IsS91.alloc | apply IsS91.drewN | apply IsS91.drew | apply IsS91.set_1) | exact HI103.out)); (case side2 => repeat (first | (with_reducible first | exact HB.out | apply below_alloc | apply pw_below_drewN | apply below_drew1 | refine below_set ?_ (IsS91.ge HI103.out)) | exact HB.out)); rintro e w7 ⟨rfl, hi, hb, hk⟩; refine ⟨_, rfl, ?_⟩; have n0_ := Aside0.mk (Kd.Q_mono (Kd.Q_keep (IsS91.apartQ (show IsS91 w _ g103 t101 t107 from by repeat (first | (with_reducible first | exact HI103.out | apply IsS91.alloc | apply IsS91.drewN | apply IsS91.drew | apply IsS91.set_1) | exact HI103.out)) (by (with_reducible repeat (first | apply Kd.Q_alloc | apply Kd.Q_drewN | apply Kd.Q_drew)); exact HO106.out) (by decide)) hk (fun _ h => h.2)) (fun _ h => h.1)); have n1_ := Aside0.mk (hb); have n2_ := Aside0.mk (hi); clear HO106; clear HB; clear HI103; have HO106 := n0_; have HB := n1_; have HI103 := n2_; clear n0_ n1_ n2_; (try clear hb); (try clear hb2); (try clear hk); (try clear hi)))
  go_ret2
  exact ⟨_, by first | rfl | (simp [errW_none, errW_some] <;> rfl) | (simp [*, errW_none, errW_some] <;> rfl), by (with_reducible repeat (first | apply Kd.Q_alloc | apply Kd.Q_drewN | apply Kd.Q_drew)); exact HO106.out, by repeat (first | (with_reducible first | exact HB.out | apply below_alloc | apply pw_below_drewN | apply below_drew1 | refine below_set ?_ (IsS91.ge HI103.out)) | exact HB.out)⟩
end
end Go.Proofs.YtijompkonaiagaaGreatDoor.Q
namespace Go.Proofs.YtijompkonaiagaaGreatDoor.Q
open Go.RowKit Go.Proofs.YtijompkonaiagaaGreatDoorW.PrintWords Go.Proofs.YtijompkonaiagaaGreatDoorW.PrintMore Go.Proofs.YtijompkonaiagaaGreatDoor.Z
set_option linter.unusedVariables false
set_option linter.unusedSimpArgs false
theorem spec_MapOk_is (m : List Pr) (hm : m.length ≤ 1099511627776) : spec_MapOk.f (m.map prTo) = some (mapOkB m) := by
  unfold spec_MapOk.f
  rw [map_pr, if_pos hm, prs_of_to]
theorem impl_MapOk_is (m : List Pr) (hm : m.length ≤ 1099511627776) : impl_MapOk.f (m.map prTo) = some (mapOkB m) := by
  unfold impl_MapOk.f
  rw [map_pr, if_pos hm, prs_of_to]
theorem spec_TextOk_is (l : List UInt8) (hl : l.length ≤ 140737488355328) : spec_TextOk.f (mkB l) = some (textOk l) := by
  unfold spec_TextOk.f
  rw [size_mkB, if_pos hl, bl_of]
theorem pieceOut_to (m : List Pr) (hm : m.length ≤ 1000) (p : Pc) (t : List UInt8) : spec_l3PieceOut.f (m.map prTo) p.size p.named p.fin.addr p.fin.port (mkB t) = some ((outP m p t).1.map prTo, mkB (outP m p t).2) := by
  unfold spec_l3PieceOut.f
  rw [map_pr, if_pos (by omega), prs_of_to]
  rfl
theorem outP_len (m : List Pr) (p : Pc) (t : List UInt8) : (outP m p t).2.length ≤ t.length + 10 := by
  unfold outP
  split
  · split
    · have := nameOf_len ⟨9, (outS m p.fin).2.1⟩
      simp only
      omega
    · simp
  · simp
theorem spec_MapTextOut_l0 (l : List UInt8) (hl : l.length ≤ 1000) (ps : List Pc) (hps : ps.length ≤ 1000) (n : Nat) : ∀ (k : Nat) (m : List Pr) (acc : List UInt8) (off i : Nat), mapOkB m = true → ps.length - i ≤ n → n + 3 < k → i ≤ ps.length → off ≤ l.length → fits (ps.drop i) (l.drop off) → acc.length ≤ 1010 * i →
    spec_MapTextOut.l0 k (mkB l) (m.map prTo) (mkB acc) off (ps.map pcTo) i = some ((goOut m (ps.drop i) (l.drop off)).1.map prTo, mkB (acc ++ (goOut m (ps.drop i) (l.drop off)).2.flatten)) := by
  induction n with
  | zero =>
    intro k m acc off i hm hn hk hi ho hf ha
    obtain ⟨k, rfl⟩ : ∃ m, k = m + 1 := ⟨k - 1, by omega⟩
    simp only [spec_MapTextOut.l0]
    rw [if_neg (by rw [List.length_map]; omega), List.drop_of_length_le (by omega)]
    simp [goOut]
  | succ n ih =>
    intro k m acc off i hm hn hk hi ho hf ha
    obtain ⟨k, rfl⟩ : ∃ m, k = m + 1 := ⟨k - 1, by omega⟩
    simp only [spec_MapTextOut.l0]
    by_cases hlt : i < ps.length
    · obtain ⟨p, hp⟩ : ∃ p, ps[i]? = some p := ⟨_, List.getElem?_eq_getElem hlt⟩
      rw [drop_of hp] at hf ⊢
      obtain ⟨h0, h1, h2, hf⟩ := hf
      rw [List.length_drop] at h1
      have hsz : (mkB l).size = l.length := rfl
      have hm8 := mapOk_len hm
      have hln := outP_len m p ((l.drop off).take p.size.toNat)
      rw [List.length_take, List.length_drop] at hln
      have hok := outP_ok hm p ((l.drop off).take p.size.toNat)
      have hw : wrap64 ((off : Int) + p.size) = ((off + p.size.toNat : Nat) : Int) := by rw [w64 (by omega)]; omega
      have q0 : (i : Int) < (ps.length : Int) := by omega
      have q1 : (0 : Int) ≤ (i : Int) := by omega
      have q2 : (0 : Int) ≤ (off : Int) := by omega
      have q3 : (off : Int) ≤ ((off + p.size.toNat : Nat) : Int) := by omega
      have q4 : ((off + p.size.toNat : Nat) : Int) ≤ (l.length : Int) := by omega
      have q5 : acc.length + (outP m p ((l.drop off).take p.size.toNat)).2.length ≤ 9223372036854775807 := by omega
      have hw3 : wrap64 ((i : Int) + 1) = ((i + 1 : Nat) : Int) := by rw [w64 (by omega)]; omega
      have hf0 : (rd_T67 (ps.map pcTo) (i : Int)).f0 = p.size := by rw [rd_pc ps i p hp]; rfl
      have hf1 : (rd_T67 (ps.map pcTo) (i : Int)).f1 = p.named := by rw [rd_pc ps i p hp]; rfl
      have hf2 : (rd_T67 (ps.map pcTo) (i : Int)).f2.f0 = p.fin.addr := by rw [rd_pc ps i p hp]; rfl
      have hf3 : (rd_T67 (ps.map pcTo) (i : Int)).f2.f1 = p.fin.port := by rw [rd_pc ps i p hp]; rfl
      have hT := pieceOut_to m (by omega) p ((l.drop off).take p.size.toNat)
      simp only [hf0, hf1, hf2, hf3, hw, hw3, Int.toNat_natCast, extM, Nat.add_sub_cancel_left, hT, Option.bind_some, List.length_map, hsz, size_mkB]
      simp only [q0, q1, q2, q3, q4, q5, if_true]
      clear hf0 hf1 hf2 hf3 hw3 hT
      have := ih k (outP m p ((l.drop off).take p.size.toNat)).1 (acc ++ (outP m p ((l.drop off).take p.size.toNat)).2) (off + p.size.toNat) (i + 1) hok (by omega) (by omega) (by omega) (by omega) (by have h5 := hf; rw [List.drop_drop] at h5; exact h5) (by rw [List.length_append]; omega)
      rw [show mkB acc ++ mkB (outP m p ((l.drop off).take p.size.toNat)).2 = mkB (acc ++ (outP m p ((l.drop off).take p.size.toNat)).2) from bytes_append _ _]
      refine this.trans ?_
      simp [goOut, List.drop_drop]
    · rw [if_neg (by rw [List.length_map]; omega), List.drop_of_length_le (by omega)]
      simp [goOut]
theorem l3Copy_to (m : List Pr) (hm : m.length ≤ 1099511627776) : spec_l3Copy.f (m.map prTo) = some (m.map prTo) := by
  unfold spec_l3Copy.f
  rw [Option.bind_some, if_pos (by rw [map_pr, List.length_nil]; omega), List.nil_append]
theorem spec_MapTextOut_to (k : Nat) (hk : 3000 < k) (m : List Pr) (hm : m.length ≤ 1099511627776) (l : List UInt8) (hl : l.length ≤ 140737488355328) : spec_MapTextOut.f k (m.map prTo) (mkB l) = some ((mapOutT m l).1.map prTo, mkB (mapOutT m l).2) := by
  obtain ⟨k, rfl⟩ : ∃ m, k = m + 1 := ⟨k - 1, by omega⟩
  unfold spec_MapTextOut.f mapOutT
  rw [spec_MapOk_is m hm, Option.bind_some, spec_TextOk_is l hl]
  simp only [spec_MapTextOut.j0]
  cases h1 : mapOkB m
  · simp
  · cases h2 : textOk l
    · simp
    · have hl2 := textOk_len h2
      have hm2 := mapOk_len h1
      have hp := pcL_len (body l).length (body l) (Nat.le_refl _)
      have hb := body_len l
      simp only [Bool.and_self, if_true, Option.bind_some, Bool.not_true, Bool.false_eq_true, if_false]
      rw [l3Copy_to m hm, Option.bind_some, spec_pieces_to k l (by omega) (by omega), Option.bind_some]
      have := spec_MapTextOut_l0 l (by omega) (pcL (body l)) (by omega) 1000 k m [] 0 0 h1 (by omega) (by omega) (by omega) (by omega) (by rw [List.drop_zero, List.drop_zero]; exact fits_body l) (by simp)
      rw [List.drop_zero, List.drop_zero, List.nil_append] at this
      exact this
theorem mapOutT_len (m : List Pr) (l : List UInt8) : (mapOutT m l).1.length ≤ 100 ∧ (mapOutT m l).2.length ≤ 50000 := by
  unfold mapOutT
  split
  · rename_i h
    rw [Bool.and_eq_true] at h
    have hl2 := textOk_len h.2
    have hm2 := mapOk_len h.1
    have hp := pcL_len (body l).length (body l) (Nat.le_refl _)
    have hb := body_len l
    have hT := turnAll_len true (pcL (body l)) m l (by omega)
    rw [turnAll_out _ _ _ h.1] at hT
    simp only
    omega
  · simp
theorem drawOut_to (k : Nat) (hk : 1000 < k) {code : List Int} (hc : ∀ b ∈ code, (0 : Int) ≤ b ∧ b ≤ 255) : ∃ (m : List Pr) (l : List UInt8), spec_DrawMapTextOut.f k code = some (m.map prTo, mkB l) ∧ m.length ≤ 31 ∧ l.length ≤ 100 := by
  obtain ⟨bs, h1, hb⟩ := l6Open_to hc
  obtain ⟨r, q, h2, hr, hq, hq2⟩ := l71Map_to k (by omega) hb 0 (by omega)
  obtain ⟨s, q2, h3, hs, _, _⟩ := l71Off_to k (by omega) hb q (by omega)
  refine ⟨r.map prOf, bl s, ?_, by rw [List.length_map]; exact hr, by rw [bl_len]; exact hs⟩
  unfold spec_DrawMapTextOut.f
  rw [h1, Option.bind_some]
  simp only
  rw [h2, Option.bind_some]
  simp only
  rw [h3, Option.bind_some, prs_to_of, mkB_bl]
theorem drawIn_to (k : Nat) (hk : 1000 < k) {code : List Int} (hc : ∀ b ∈ code, (0 : Int) ≤ b ∧ b ≤ 255) : ∃ (m : List Pr) (l : List UInt8), spec_DrawMapTextIn.f k code = some (m.map prTo, mkB l) ∧ m.length ≤ 31 ∧ l.length ≤ 100 := by
  obtain ⟨bs, h1, hb⟩ := l6Open_to hc
  obtain ⟨r, q, h2, hr, hq, hq2⟩ := l71Map_to k (by omega) hb 0 (by omega)
  obtain ⟨s, q2, h3, hs, _, _⟩ := l71Off_to k (by omega) hb q (by omega)
  refine ⟨r.map prOf, bl s, ?_, by rw [List.length_map]; exact hr, by rw [bl_len]; exact hs⟩
  unfold spec_DrawMapTextIn.f
  rw [h1, Option.bind_some]
  simp only
  rw [h2, Option.bind_some]
  simp only
  rw [h3, Option.bind_some, prs_to_of, mkB_bl]
theorem list_beq {a : List UInt8} : (a == a) = true := beq_self_eq_true a
theorem rd_ends (es : List En) (i : Nat) (e : En) (h : es[i]? = some e) : rd_T24 (es.map enTo) (i : Int) = enTo e := by
  unfold rd_T24
  rw [Int.toNat_natCast, List.getD_eq_getElem?_getD, List.getElem?_map, h]
  rfl
theorem names_len40 (l : List UInt8) : (names (pieces l)).length ≤ 40 := by
  have h := pieces_len l
  unfold names
  rw [List.length_map]
  have h9 := List.length_filter_le (fun p : Pc => p.named) (pieces l)
  omega
end Go.Proofs.YtijompkonaiagaaGreatDoor.Q
namespace Go.Proofs.YtijompkonaiagaaGreatDoor.Q
open Go.RowKit Go.Proofs.YtijompkonaiagaaGreatDoorW.PrintWords Go.Proofs.YtijompkonaiagaaGreatDoor.Z
set_option linter.unusedVariables false
set_option linter.unusedSimpArgs false
inductive Tok where
  | b (c : UInt8)
  | n (e : En)
def tx : Tok → List UInt8
  | .b c => [c]
  | .n e => nameOf e
def flat (T : List Tok) : List UInt8 := T.flatMap tx
theorem flat_cons (t : Tok) (T : List Tok) : flat (t :: T) = tx t ++ flat T := by simp [flat]
theorem flat_append (A B : List Tok) : flat (A ++ B) = flat A ++ flat B := by simp [flat]
theorem flat_nil : flat [] = [] := rfl
def tokF : Nat → List UInt8 → List Tok
  | 0, _ => []
  | _ + 1, [] => []
  | k + 1, c :: l => match nm (c :: l) with
    | some e => .n e :: tokF k ((c :: l).drop (nameOf e).length)
    | none => .b c :: tokF k l
def toks (l : List UInt8) : List Tok := tokF l.length l
def pcOf : Tok → Pc
  | .b _ => ⟨1, false, zEn⟩
  | .n e => ⟨(nameOf e).length, true, e⟩
theorem pcs_tokF : ∀ (k : Nat) (l : List UInt8), pcs k l = (tokF k l).map pcOf
  | 0, _ => rfl
  | k + 1, [] => rfl
  | k + 1, c :: l => by
    show (if (c :: l) = [] then [] else pieceAt (c :: l) :: pcs k ((c :: l).drop (pieceAt (c :: l)).size.toNat)) = _
    rw [if_neg (by simp)]
    unfold tokF pieceAt
    cases h : nm (c :: l) with
    | some e =>
      simp only
      rw [pcs_tokF k]
      rfl
    | none =>
      simp only
      rw [pcs_tokF k]
      rfl
theorem pcL_toks (l : List UInt8) : pcL l = (toks l).map pcOf := pcs_tokF _ _
theorem flat_tokF : ∀ (k : Nat) (l : List UInt8), l.length ≤ k → flat (tokF k l) = l
  | 0, l, h => by rw [List.length_eq_zero_iff.1 (Nat.le_zero.1 h)]; rfl
  | k + 1, [], _ => rfl
  | k + 1, c :: l, h => by
    unfold tokF
    cases hn : nm (c :: l) with
    | some e =>
      obtain ⟨_, r, hr⟩ := nm_some hn
      have hl : 0 < (nameOf e).length := by simp [nameOf]
      simp only
      rw [flat_cons, flat_tokF k _ (by rw [List.length_drop]; omega), hr]
      show nameOf e ++ (nameOf e ++ r).drop (nameOf e).length = _
      rw [List.drop_left]
    | none =>
      simp only
      rw [flat_cons, flat_tokF k l (by simpa using h)]
      rfl
theorem flat_toks (l : List UInt8) : flat (toks l) = l := flat_tokF _ _ (Nat.le_refl _)
def run : List Tok → List UInt8
  | .b c :: T => c :: run T
  | _ => []
theorem no64 : ∀ e ∈ allEnds, (endText e).all (fun c => c != 64) = true := by decide +kernel
theorem endRead_64 {l : List UInt8} (h : (64 : UInt8) ∈ l) : endRead l = none := by
  refine endRead_none (fun e he ht => ?_)
  have := no64 e (anyB_mem he)
  rw [ht, List.all_eq_true] at this
  simpa using this 64 h
theorem flat_run (T : List Tok) : ∃ r, flat T = run T ++ r ∧ (r = [] ∨ ∃ q, r = 64 :: q) := by
  induction T with
  | nil => exact ⟨[], rfl, .inl rfl⟩
  | cons t T ih =>
    cases t with
    | b c =>
      obtain ⟨r, h1, h2⟩ := ih
      exact ⟨r, by rw [flat_cons, h1]; rfl, h2⟩
    | n e => exact ⟨flat (.n e :: T), rfl, .inr ⟨_, rfl⟩⟩
theorem takeWhile_app {l r : List UInt8} (h : (59 : UInt8) ∈ l) : upto59 (l ++ r) = upto59 l := by
  induction l with
  | nil => cases h
  | cons c l ih =>
    unfold upto59 at *
    by_cases hc : c = 59
    · subst hc; simp
    · have h2 : (c != 59) = true := by simpa using hc
      rw [List.cons_append, List.takeWhile_cons, h2, List.takeWhile_cons, h2]
      simp only [if_true]
      rw [ih (by rcases List.mem_cons.1 h with h | h; exact absurd h.symm hc; exact h)]
theorem upto59_not {l r : List UInt8} (h : (59 : UInt8) ∉ l) : upto59 (l ++ r) = l ++ upto59 r := by
  unfold upto59
  rw [List.takeWhile_append_of_pos (fun c hc => by simpa using fun e : c = 59 => h (e ▸ hc))]
theorem nm_run (T : List Tok) : nm (64 :: flat T) = if (59 : UInt8) ∈ run T then endRead (upto59 (run T)) else none := by
  obtain ⟨r, h1, h2⟩ := flat_run T
  show (if ((64 : UInt8) == 64 && (flat T).contains 59) = true then endRead (upto59 (flat T)) else none) = _
  rw [beq_self_eq_true, Bool.true_and, h1]
  by_cases hm : (59 : UInt8) ∈ run T
  · rw [if_pos hm, if_pos (by simp [hm]), takeWhile_app hm]
  · rw [if_neg hm]
    rcases h2 with rfl | ⟨q, rfl⟩
    · rw [if_neg (by simpa using hm)]
    · split
      · rw [upto59_not hm]
        refine endRead_64 ?_
        unfold upto59
        rw [List.takeWhile_cons, show ((64 : UInt8) != 59) = true from by decide]
        simp
      · rfl
def good : List Tok → Prop
  | [] => True
  | .n e :: T => anyB e = true ∧ good T
  | .b c :: T => (c = 64 → (59 : UInt8) ∈ run T → endRead (upto59 (run T)) = none) ∧ good T
theorem nm_b {c : UInt8} {T : List Tok} (h : good (.b c :: T)) : nm (c :: flat T) = none := by
  by_cases hc : c = 64
  · subst hc
    rw [nm_run]
    split
    · rename_i hm; exact h.1 rfl hm
    · rfl
  · show (if (c == 64 && (flat T).contains 59) = true then _ else none) = none
    rw [show (c == (64 : UInt8)) = false from beq_eq_false_iff_ne.2 hc, Bool.false_and]
    rfl
theorem tokF_flat : ∀ (T : List Tok) (k : Nat), good T → (flat T).length ≤ k → tokF k (flat T) = T
  | [], k, _, _ => by cases k <;> rfl
  | .n e :: T, k, h, hk => by
    have hl : 0 < (nameOf e).length := by simp [nameOf]
    have hc : flat (.n e :: T) = 64 :: (endText e ++ [59] ++ flat T) := by rw [flat_cons]; rfl
    rw [flat_cons, show tx (.n e) = nameOf e from rfl, List.length_append] at hk
    obtain ⟨k, rfl⟩ : ∃ m, k = m + 1 := ⟨k - 1, by omega⟩
    have hn : nm (64 :: (endText e ++ [59] ++ flat T)) = some e := nm_name h.1 (flat T)
    rw [hc]
    unfold tokF
    rw [hn]
    simp only
    have hd : (64 :: (endText e ++ [59] ++ flat T)).drop (nameOf e).length = flat T := by
      show (nameOf e ++ flat T).drop (nameOf e).length = flat T
      rw [List.drop_left]
    rw [hd, tokF_flat T k h.2 (by omega)]
  | .b c :: T, k, h, hk => by
    have hc : flat (.b c :: T) = c :: flat T := by rw [flat_cons]; rfl
    rw [hc] at hk ⊢
    rw [List.length_cons] at hk
    obtain ⟨k, rfl⟩ : ∃ m, k = m + 1 := ⟨k - 1, by omega⟩
    unfold tokF
    rw [nm_b h]
    simp only
    rw [tokF_flat T k h.2 (by omega)]
theorem toks_flat {T : List Tok} (h : good T) : toks (flat T) = T := tokF_flat T _ h (Nat.le_refl _)
theorem good_tokF : ∀ (k : Nat) (l : List UInt8), l.length ≤ k → good (tokF k l)
  | 0, _, _ => trivial
  | k + 1, [], _ => trivial
  | k + 1, c :: l, h => by
    unfold tokF
    cases hn : nm (c :: l) with
    | some e =>
      have hl : 0 < (nameOf e).length := by simp [nameOf]
      exact ⟨(nm_some hn).1, good_tokF k _ (by rw [List.length_drop]; omega)⟩
    | none =>
      have hl : l.length ≤ k := by simpa using h
      refine ⟨fun hc hm => ?_, good_tokF k l hl⟩
      subst hc
      have := nm_run (tokF k l)
      rw [flat_tokF k l hl, hn, if_pos hm] at this
      exact this.symm
theorem good_toks (l : List UInt8) : good (toks l) := good_tokF _ _ (Nat.le_refl _)
inductive Like : List Tok → List Tok → Prop
  | nil : Like [] []
  | b (c : UInt8) {T U : List Tok} : Like T U → Like (.b c :: T) (.b c :: U)
  | n {d e : En} {T U : List Tok} : anyB e = true → Like T U → Like (.n d :: T) (.n e :: U)
theorem Like.run {T U : List Tok} (h : Like T U) : run T = run U := by
  induction h with
  | nil => rfl
  | b c _ ih => simp only [Q.run, ih]
  | n _ _ _ => rfl
theorem Like.good {T U : List Tok} (h : Like T U) (g : good T) : good U := by
  induction h with
  | nil => trivial
  | b c hl ih => exact ⟨by rw [← hl.run]; exact g.1, ih g.2⟩
  | n ha _ ih => exact ⟨ha, ih g.2⟩
theorem run_snoc : ∀ (T : List Tok) (z : UInt8), run (T ++ [.b z]) = run T ∨ run (T ++ [.b z]) = run T ++ [z]
  | [], z => .inr rfl
  | .n e :: T, z => .inl rfl
  | .b c :: T, z => by
    rcases run_snoc T z with h | h
    · exact .inl (by simp only [List.cons_append, run, h])
    · exact .inr (by simp only [List.cons_append, run, h])
theorem good_snoc {z : UInt8} (h1 : z ≠ 59) (h2 : z ≠ 64) (T : List Tok) (g : good T) : good (T ++ [.b z]) := by
  induction T with
  | nil => exact ⟨fun e => absurd e h2, trivial⟩
  | cons t T ih =>
    cases t with
    | n e => exact ⟨g.1, ih g.2⟩
    | b c =>
      refine ⟨?_, ih g.2⟩
      rcases run_snoc T z with h | h
      · show c = 64 → (59 : UInt8) ∈ run (T ++ [.b z]) → endRead (upto59 (run (T ++ [.b z]))) = none
        rw [h]
        exact g.1
      · show c = 64 → (59 : UInt8) ∈ run (T ++ [.b z]) → endRead (upto59 (run (T ++ [.b z]))) = none
        rw [h]
        intro hc hm
        have hm2 : (59 : UInt8) ∈ run T := by
          rcases List.mem_append.1 hm with h3 | h3
          · exact h3
          · exact absurd (List.mem_singleton.1 h3).symm h1
        rw [takeWhile_app hm2]
        exact g.1 hc hm2
theorem good_left : ∀ {A B : List Tok}, good (A ++ B) → good A
  | [], _, _ => trivial
  | .n e :: A, B, g => ⟨g.1, good_left g.2⟩
  | .b c :: A, B, g => by
    refine ⟨fun hc hm => ?_, good_left g.2⟩
    have hr : ∀ (A B : List Tok), ∃ q, run (A ++ B) = run A ++ q := by
      intro A B
      induction A with
      | nil => exact ⟨run B, rfl⟩
      | cons t A ih =>
        cases t with
        | b c => obtain ⟨q, hq⟩ := ih; exact ⟨q, by simp only [List.cons_append, run, hq]⟩
        | n e => exact ⟨[], by simp [run]⟩
    obtain ⟨q, hq⟩ := hr A B
    have g1 : (59 : UInt8) ∈ run (A ++ B) → endRead (upto59 (run (A ++ B))) = none := g.1 hc
    rw [hq, takeWhile_app hm] at g1
    exact g1 (List.mem_append_left _ hm)
theorem good_right : ∀ {A B : List Tok}, good (A ++ B) → good B
  | [], _, g => g
  | .n e :: A, B, g => good_right g.2
  | .b c :: A, B, g => good_right g.2
end Go.Proofs.YtijompkonaiagaaGreatDoor.Q
namespace Go.Proofs.YtijompkonaiagaaGreatDoor.Q
open Go.RowKit Go.Proofs.YtijompkonaiagaaGreatDoorW.PrintWords Go.Proofs.YtijompkonaiagaaGreatDoor.Z
set_option linter.unusedVariables false
set_option linter.unusedSimpArgs false
theorem inside_any {e : En} (h : insideB e = true) : anyB e = true := by unfold anyB; rw [h]; rfl
theorem inside_door {e : En} (h : insideB e = true) : doorB e = false := by
  unfold insideB inB at h
  simp only [Bool.and_eq_true, decide_eq_true_iff] at h
  unfold doorB
  rw [show (e.addr == 9) = false from beq_eq_false_iff_ne.2 (by omega)]
  rfl
theorem door_inside {e : En} (h : doorB e = true) : insideB e = false := by
  cases hi : insideB e
  · rfl
  · rw [inside_door hi] at h; cases h
theorem door_of {p : Int} (h1 : 10 ≤ p) (h2 : p ≤ 17) : doorB ⟨9, p⟩ = true := by
  unfold doorB inB
  rw [decide_eq_true h1, decide_eq_true h2]
  rfl
theorem door_any {e : En} (h : doorB e = true) : anyB e = true := by unfold anyB; rw [h, Bool.or_true]
theorem mapAt_inside {m : List Pr} (h : mapOkB m = true) {k : Nat} (hk : k < m.length) : insideB (m.getD k zPr).inside = true := ((mapOkB_iff.1 h).1 k hk).2.1
theorem l3InO_inside {m : List Pr} (h : mapOkB m = true) {p : Int} {e : En} (h2 : l3InO m p = some e) : insideB e = true := by
  unfold l3InO at h2
  split at h2
  · rename_i hc
    obtain rfl := Option.some.inj h2
    exact mapAt_inside h (by omega)
  · cases h2
def inE (m : List Pr) (e : En) : En := if doorB e then (l3InO m e.port).getD e else e
def inTok (m : List Pr) : Tok → Tok
  | .b c => .b c
  | .n e => .n (inE m e)
theorem pcOf_size (t : Tok) : (pcOf t).size.toNat = (tx t).length := by cases t <;> rfl
theorem inP_tok (m : List Pr) (t : Tok) : inP m (pcOf t) (tx t) = tx (inTok m t) := by
  cases t with
  | b c => rfl
  | n e =>
    unfold inP
    show (if (true && doorB e) = true then _ else nameOf e) = nameOf (inE m e)
    unfold inE
    cases hd : doorB e
    · simp
    · simp only [Bool.and_self, if_true]
      show (match l3InO m e.port with | some e' => nameOf e' | none => nameOf e) = _
      cases l3InO m e.port <;> rfl
theorem goIn_toks (m : List Pr) : ∀ (T : List Tok) (r : List UInt8), goIn m (T.map pcOf) (flat T ++ r) = (T.map (inTok m)).map tx
  | [], _ => rfl
  | t :: T, r => by
    simp only [List.map_cons, goIn, flat_cons, pcOf_size, List.append_assoc, List.take_left, List.drop_left]
    rw [goIn_toks m T r, inP_tok]
theorem flat_eq (T : List Tok) : (T.map tx).flatten = flat T := by unfold flat; rw [List.flatMap_def]
theorem like_in {m : List Pr} (h : mapOkB m = true) : ∀ {T : List Tok}, good T → Like T (T.map (inTok m))
  | [], _ => .nil
  | .b c :: T, g => .b c (like_in h g.2)
  | .n e :: T, g => by
    refine .n ?_ (like_in h g.2)
    unfold inE
    split
    · cases hi : l3InO m e.port with
      | none => exact g.1
      | some e' => exact inside_any (l3InO_inside h hi)
    · exact g.1
def outTok (m : List Pr) : Tok → List Pr × Tok
  | .b c => (m, .b c)
  | .n e => if insideB e && (outS m e).2.2 then ((outS m e).1, .n ⟨9, (outS m e).2.1⟩) else (m, .n e)
def outToks : List Pr → List Tok → List Pr × List Tok
  | m, [] => (m, [])
  | m, t :: T => ((outToks (outTok m t).1 T).1, (outTok m t).2 :: (outToks (outTok m t).1 T).2)
theorem outP_tok (m : List Pr) (t : Tok) : outP m (pcOf t) (tx t) = ((outTok m t).1, tx (outTok m t).2) := by
  cases t with
  | b c => rfl
  | n e =>
    unfold outP
    show (if (true && insideB e) = true then (if (outS m e).2.2 = true then ((outS m e).1, nameOf ⟨9, (outS m e).2.1⟩) else (m, nameOf e)) else (m, nameOf e)) = _
    unfold outTok
    simp only
    cases insideB e
    · rfl
    · cases (outS m e).2.2 <;> rfl
theorem goOut_toks : ∀ (T : List Tok) (m : List Pr) (r : List UInt8), goOut m (T.map pcOf) (flat T ++ r) = ((outToks m T).1, (outToks m T).2.map tx)
  | [], _, _ => rfl
  | t :: T, m, r => by
    simp only [List.map_cons, goOut, flat_cons, pcOf_size, List.append_assoc, List.take_left, List.drop_left, outToks]
    rw [outP_tok, goOut_toks T _ r]
theorem outS_hit {m : List Pr} {e : En} (h : mapOkB m = true) (hi : insideB e = true) (ho : (outS m e).2.2 = true) :
    mapOkB (outS m e).1 = true ∧ l3InO (outS m e).1 (outS m e).2.1 = some e ∧ (outS m e).1.take m.length = m ∧ m.length ≤ (outS m e).1.length ∧ 10 ≤ (outS m e).2.1 ∧ (outS m e).2.1 ≤ 17 := by
  obtain ⟨h1, h2, h3, h4, h5, h6, h7, h8⟩ := mapOut_ok (m := m) (e := e) (L := (outS m e).1) (pt := (outS m e).2.1) (by rw [mapOutF_of h hi]; exact Prod.ext rfl (Prod.ext rfl ho))
  unfold mapInO at h2
  rw [if_pos h1] at h2
  exact ⟨h1, h2, h6, h4, h7, h8⟩
theorem outTok_ok {m : List Pr} (h : mapOkB m = true) (t : Tok) : mapOkB (outTok m t).1 = true ∧ (outTok m t).1.take m.length = m ∧ m.length ≤ (outTok m t).1.length := by
  cases t with
  | b c => exact ⟨h, List.take_length, Nat.le_refl _⟩
  | n e =>
    unfold outTok
    simp only
    split
    · rename_i hc
      rw [Bool.and_eq_true] at hc
      obtain ⟨h1, _, h3, h4, _⟩ := outS_hit h hc.1 hc.2
      exact ⟨h1, h3, h4⟩
    · exact ⟨h, List.take_length, Nat.le_refl _⟩
theorem pre_trans {a b c : List Pr} (h1 : b.take a.length = a) (h2 : c.take b.length = b) (h3 : a.length ≤ b.length) : c.take a.length = a := by
  have e : (c.take b.length).take a.length = c.take a.length := by rw [List.take_take, Nat.min_eq_left h3]
  rw [← e, h2, h1]
theorem outToks_ok : ∀ (T : List Tok) {m : List Pr}, mapOkB m = true → mapOkB (outToks m T).1 = true ∧ (outToks m T).1.take m.length = m ∧ m.length ≤ (outToks m T).1.length
  | [], m, h => ⟨h, List.take_length, Nat.le_refl _⟩
  | t :: T, m, h => by
    obtain ⟨a1, a2, a3⟩ := outTok_ok h t
    obtain ⟨b1, b2, b3⟩ := outToks_ok T a1
    exact ⟨b1, pre_trans a2 b2 a3, Nat.le_trans a3 b3⟩
theorem like_out : ∀ {T : List Tok} {m : List Pr}, mapOkB m = true → good T → Like T (outToks m T).2
  | [], _, _, _ => .nil
  | .b c :: T, m, h, g => .b c (like_out h g.2)
  | .n e :: T, m, h, g => by
    have h2 := (outTok_ok h (.n e)).1
    obtain ⟨x, u, hu, ha⟩ : ∃ x u, outTok m (.n e) = (x, .n u) ∧ anyB u = true := by
      unfold outTok
      simp only
      split
      · rename_i hc
        rw [Bool.and_eq_true] at hc
        obtain ⟨_, _, _, _, h5, h6⟩ := outS_hit h hc.1 hc.2
        exact ⟨_, _, rfl, door_any (door_of h5 h6)⟩
      · exact ⟨_, _, rfl, g.1⟩
    rw [hu] at h2
    unfold outToks
    rw [hu]
    exact .n ha (like_out h2 g.2)
def Ext (m y : List Pr) : Prop := mapOkB y = true ∧ y.take m.length = m ∧ m.length ≤ y.length
theorem find_ext {m y : List Pr} (h : Ext m y) {e : En} {p : Pr} (hf : m.find? (fun p => decide (p.inside = e)) = some p) : y.find? (fun p => decide (p.inside = e)) = some p := by
  rw [← List.take_append_drop m.length y, h.2.1, List.find?_append, hf]
  rfl
theorem outS_ext {m y : List Pr} {e : En} (hm : mapOkB m = true) (hi : insideB e = true) (ho : (outS m e).2.2 = true) (h : Ext (outS m e).1 y) : outS y e = (y, (outS m e).2.1, true) := by
  have h0 : (outS m e).1.find? (fun p => decide (p.inside = e)) = some ⟨(outS m e).2.1, e⟩ := by
    cases hf : m.find? (fun p => decide (p.inside = e)) with
    | some p =>
      have he : p.inside = e := by simpa using List.find?_some hf
      have h1 : outS m e = (m, p.port, true) := by unfold outS; rw [hf]
      rw [h1]
      simp only
      rw [hf, ← he]
    | none =>
      have h1 : outS m e = if 7 < m.length then (m, (0 : Int), false) else (m ++ [⟨10 + (m.length : Int), e⟩], 10 + (m.length : Int), true) := by unfold outS; rw [hf]
      rw [h1] at ho ⊢
      split at ho
      · cases ho
      · rename_i h7
        rw [if_neg h7]
        simp only
        rw [List.find?_append, hf]
        simp
  have h1 := find_ext h h0
  generalize (outS m e).2.1 = p at h1 ⊢
  unfold outS
  rw [h1]
theorem outTok_ext {m y : List Pr} (hm : mapOkB m = true) (t : Tok) (h : Ext (outTok m t).1 y) : outTok y t = (y, (outTok m t).2) := by
  cases t with
  | b c => rfl
  | n e =>
    unfold outTok at h ⊢
    simp only at h ⊢
    by_cases hc : (insideB e && (outS m e).2.2) = true
    · rw [if_pos hc] at h ⊢
      have hc2 := hc
      rw [Bool.and_eq_true] at hc2
      rw [outS_ext hm hc2.1 hc2.2 h]
      simp only
      rw [if_pos (by rw [hc2.1]; rfl)]
    · rw [if_neg hc] at h ⊢
      cases hi : insideB e
      · simp
      · rw [hi, Bool.true_and] at hc
        have h8 := (mapOkB_iff.1 h.1).2
        have hno : m.find? (fun p => decide (p.inside = e)) = none ∧ 7 < m.length := by
          cases hf : m.find? (fun p => decide (p.inside = e)) with
          | some p => exact absurd (by unfold outS; rw [hf]) hc
          | none =>
            refine ⟨rfl, ?_⟩
            apply Classical.byContradiction
            intro h7
            exact hc (by unfold outS; rw [hf]; simp only; rw [if_neg h7])
        have hy : y = m := by
          have h2 := h.2.1
          simp only at h2
          rw [List.take_of_length_le (by omega)] at h2
          exact h2
        rw [hy]
        rw [if_neg (by rw [Bool.true_and]; exact hc)]
theorem outToks_ext : ∀ (T : List Tok) {m y : List Pr}, mapOkB m = true → Ext (outToks m T).1 y → outToks y T = (y, (outToks m T).2)
  | [], _, _, _, _ => rfl
  | t :: T, m, y, hm, h => by
    obtain ⟨a1, a2, a3⟩ := outTok_ok hm t
    obtain ⟨b1, b2, b3⟩ := outToks_ok T a1
    have h1 : Ext (outTok m t).1 y := ⟨h.1, pre_trans b2 h.2.1 b3, Nat.le_trans b3 h.2.2⟩
    simp only [outToks]
    rw [outTok_ext hm t h1]
    simp only
    rw [outToks_ext T a1 h]
theorem Ext.refl {m : List Pr} (h : mapOkB m = true) : Ext m m := ⟨h, List.take_length, Nat.le_refl _⟩
theorem outToks_again {m : List Pr} (h : mapOkB m = true) (T : List Tok) : outToks (outToks m T).1 T = ((outToks m T).1, (outToks m T).2) :=
  outToks_ext T h (Ext.refl (outToks_ok T h).1)
theorem out_hides : ∀ (T : List Tok) {m : List Pr}, mapOkB m = true → (outToks m T).1.length ≤ 7 → ∀ e, Tok.n e ∈ (outToks m T).2 → insideB e = false
  | [], _, _, _, _, h => by cases h
  | t :: T, m, hm, h7, e, he => by
    obtain ⟨a1, a2, a3⟩ := outTok_ok hm t
    obtain ⟨b1, b2, b3⟩ := outToks_ok T a1
    rcases List.mem_cons.1 he with h1 | h1
    · cases t with
      | b c => cases h1
      | n d =>
        unfold outTok at h1
        simp only at h1
        split at h1
        · rename_i hc
          rw [Bool.and_eq_true] at hc
          obtain ⟨_, _, _, _, h5, h6⟩ := outS_hit hm hc.1 hc.2
          obtain rfl := Tok.n.inj h1
          exact door_inside (door_of h5 h6)
        · rename_i hc
          obtain rfl := Tok.n.inj h1
          cases hi : insideB e
          · rfl
          · exfalso
            rw [hi, Bool.true_and] at hc
            apply hc
            have hlen : m.length ≤ 7 := by have h9 : (outToks (outTok m (.n e)).1 T).1.length ≤ 7 := h7; omega
            unfold outS
            split
            · rfl
            · rw [if_neg (by omega)]
    · exact out_hides T a1 h7 e h1
theorem outToks_none {m : List Pr} : ∀ (T : List Tok), (∀ e, Tok.n e ∈ T → insideB e = false) → outToks m T = (m, T)
  | [], _ => rfl
  | .b c :: T, h => by
    have := outToks_none (m := m) T (fun e he => h e (List.mem_cons_of_mem _ he))
    simp only [outToks, outTok]
    rw [this]
  | .n e :: T, h => by
    have := outToks_none (m := m) T (fun e he => h e (List.mem_cons_of_mem _ he))
    have h0 := h e (List.mem_cons_self ..)
    simp only [outToks, outTok, h0, Bool.false_and, Bool.false_eq_true, if_false]
    rw [this]
theorem out_back : ∀ (T : List Tok) {m y : List Pr}, mapOkB m = true → Ext (outToks m T).1 y → (∀ e, Tok.n e ∈ T → doorB e = false) → (outToks m T).2.map (inTok y) = T
  | [], _, _, _, _, _ => rfl
  | t :: T, m, y, hm, h, hd => by
    obtain ⟨a1, a2, a3⟩ := outTok_ok hm t
    obtain ⟨b1, b2, b3⟩ := outToks_ok T a1
    have h1 : Ext (outTok m t).1 y := ⟨h.1, pre_trans b2 h.2.1 b3, Nat.le_trans b3 h.2.2⟩
    simp only [outToks, List.map_cons]
    rw [out_back T a1 h (fun e he => hd e (List.mem_cons_of_mem _ he))]
    congr 1
    cases t with
    | b c => rfl
    | n e =>
      have he := hd e (List.mem_cons_self ..)
      unfold outTok at h1 ⊢
      simp only at h1 ⊢
      by_cases hc : (insideB e && (outS m e).2.2) = true
      · rw [if_pos hc] at h1 ⊢
        have hc2 := hc
        rw [Bool.and_eq_true] at hc2
        obtain ⟨_, hl, _, _, h5, h6⟩ := outS_hit hm hc2.1 hc2.2
        unfold inTok inE
        simp only
        rw [if_pos (door_of h5 h6)]
        have h7 : l3InO y (outS m e).2.1 = some e := by
          unfold l3InO at hl ⊢
          split at hl
          · rename_i hq
            have hq2 := h1.2.2
            simp only at hq2
            rw [if_pos (by omega), ← hl]
            have hq3 := h1.2.1
            simp only at hq3
            have hq4 : ∀ i, i < (outS m e).1.length → (outS m e).1.getD i zPr = y.getD i zPr := by
              intro i hi
              rw [← hq3] at hi ⊢
              generalize (outS m e).1.length = n at hi ⊢
              rw [List.length_take] at hi
              rw [List.getD_eq_getElem?_getD, List.getD_eq_getElem?_getD, List.getElem?_take, if_pos (by omega)]
            rw [hq4 _ (by omega)]
          · cases hl
        rw [h7]
        rfl
      · rw [if_neg hc]
        unfold inTok inE
        simp only
        rw [he]
        rfl
theorem outToks_append : ∀ (A B : List Tok) (m : List Pr), outToks m (A ++ B) = ((outToks (outToks m A).1 B).1, (outToks m A).2 ++ (outToks (outToks m A).1 B).2)
  | [], B, m => rfl
  | t :: A, B, m => by
    simp only [List.cons_append, outToks]
    rw [outToks_append A B]
end Go.Proofs.YtijompkonaiagaaGreatDoor.Q
namespace Go.Proofs.YtijompkonaiagaaGreatDoor.Q
open Go.RowKit Go.Proofs.YtijompkonaiagaaGreatDoorW.PrintWords Go.Proofs.YtijompkonaiagaaGreatDoor.Z
set_option linter.unusedVariables false
set_option linter.unusedSimpArgs false
theorem chk59 (i : Nat) : chk i 59 = false := by
  unfold chk figB
  split
  · rfl
  · split
    · rfl
    · split
      · rfl
      · split <;> rfl
theorem chk122 (i : Nat) : chk i 122 = false := by
  unfold chk figB
  split
  · rfl
  · split
    · rfl
    · split
      · rfl
      · split <;> rfl
theorem begB_no {l : List UInt8} {c : UInt8} (hc : ∀ i, chk i c = false) (h : begB l = true) : c ∉ l := by
  intro hm
  obtain ⟨i, hi, he⟩ := List.getElem_of_mem hm
  have h2 := beg_no (k := i) hi (by rw [he]; exact hc i)
  rw [h] at h2
  cases h2
theorem heldFrom_beg (l : List UInt8) : ∀ n, heldFrom l n = 0 ∨ begB (l.drop (l.length - heldFrom l n)) = true
  | 0 => .inl rfl
  | n + 1 => by
    unfold heldFrom
    split
    · rename_i h; exact .inr h
    · exact heldFrom_beg l n
theorem heldFrom_max (l : List UInt8) : ∀ n j, heldFrom l n < j → j ≤ n → begB (l.drop (l.length - j)) = false
  | 0, j, h1, h2 => by omega
  | n + 1, j, h1, h2 => by
    unfold heldFrom at h1
    split at h1
    · omega
    · rename_i h
      by_cases hj : j = n + 1
      · rw [hj]; simpa using h
      · exact heldFrom_max l n j h1 (by omega)
theorem held_no59 (l : List UInt8) : (59 : UInt8) ∉ l.drop (l.length - heldN l) := by
  rcases heldFrom_beg l (min 5 l.length) with h | h
  · have h0 : heldN l = 0 := h
    rw [h0, Nat.sub_zero, List.drop_of_length_le (Nat.le_refl _)]
    exact List.not_mem_nil
  · exact begB_no chk59 h
theorem held_uniq {l : List UInt8} {n : Nat} (h1 : n ≤ min 5 l.length) (h2 : n = 0 ∨ begB (l.drop (l.length - n)) = true) (h3 : ∀ j, n < j → j ≤ min 5 l.length → begB (l.drop (l.length - j)) = false) : heldN l = n := by
  rcases Nat.lt_trichotomy (heldN l) n with h | h | h
  · rcases h2 with h2 | h2
    · omega
    · have := heldFrom_max l (min 5 l.length) n h h1
      rw [h2] at this
      cases this
  · exact h
  · have hle : heldN l ≤ min 5 l.length := heldFrom_le l _
    have := h3 (heldN l) h hle
    rcases heldFrom_beg l (min 5 l.length) with h4 | h4
    · have h0 : heldN l = 0 := h4
      omega
    · have h5 : begB (l.drop (l.length - heldN l)) = true := h4
      rw [h5] at this
      cases this
theorem held_z (l : List UInt8) : heldN (l ++ [122]) = 0 := by
  refine held_uniq (Nat.zero_le _) (.inl rfl) (fun j h1 h2 => ?_)
  rw [← Bool.not_eq_true]
  intro hb
  refine begB_no chk122 hb ?_
  rw [List.length_append, List.length_singleton] at h2 ⊢
  rw [List.drop_append_of_le_length (by omega)]
  exact List.mem_append_right _ (List.mem_singleton.2 rfl)
theorem held_drop {l : List UInt8} {a : Nat} (h : a + heldN l ≤ l.length) : heldN (l.drop a) = heldN l := by
  have hle : heldN l ≤ min 5 l.length := heldFrom_le l _
  have e : ∀ j, j ≤ l.length - a → (l.drop a).drop ((l.drop a).length - j) = l.drop (l.length - j) := by
    intro j hj
    rw [List.drop_drop, List.length_drop]
    congr 1
    omega
  refine held_uniq (by rw [List.length_drop]; omega) ?_ (fun j h1 h2 => ?_)
  · rw [e _ (by omega)]
    exact heldFrom_beg l _
  · rw [List.length_drop] at h2
    rw [e _ (by omega)]
    exact heldFrom_max l (min 5 l.length) j h1 (by omega)
theorem body_rest (l : List UInt8) : body l ++ l.drop (l.length - heldN l) = l := List.take_append_drop _ _
theorem body_length (l : List UInt8) : (body l).length = l.length - heldN l := by unfold body; rw [List.length_take]; omega
theorem body_drop {l : List UInt8} {a : Nat} (h : a + heldN l ≤ l.length) : body (l.drop a) = (body l).drop a := by
  unfold body
  rw [held_drop h, List.length_drop, List.drop_take]
  congr 1
  omega
theorem body_of0 {l : List UInt8} (h : heldN l = 0) : body l = l := by unfold body; rw [h, Nat.sub_zero, List.take_length]
theorem flat_ne {T : List Tok} (h : flat T = []) : T = [] := by
  cases T with
  | nil => rfl
  | cons t T =>
    rw [flat_cons] at h
    cases t with
    | b c => cases h
    | n e => cases h
theorem flat_b (S : List UInt8) : flat (S.map Tok.b) = S := by
  induction S with
  | nil => rfl
  | cons c S ih => rw [List.map_cons, flat_cons, ih]; rfl
theorem split59 : ∀ (T : List Tok) (P S : List UInt8), flat T = P ++ S → (59 : UInt8) ∉ S → ∃ A, T = A ++ S.map Tok.b ∧ flat A = P
  | [], P, S, h, _ => by
    have h2 : P ++ S = [] := h.symm
    rw [List.append_eq_nil_iff] at h2
    rw [h2.1, h2.2]
    exact ⟨[], rfl, rfl⟩
  | .b c :: T, [], S, h, hS => by
    have h2 : c :: flat T = S := by rw [flat_cons] at h; exact h
    obtain ⟨A, h3, h4⟩ := split59 T [] (flat T) rfl (fun hm => hS (by rw [← h2]; exact List.mem_cons_of_mem _ hm))
    rw [flat_ne h4, List.nil_append] at h3
    refine ⟨[], ?_, rfl⟩
    rw [← h2, List.map_cons, ← h3]
    rfl
  | .b c :: T, p :: P, S, h, hS => by
    have h2 : c :: flat T = p :: (P ++ S) := by rw [flat_cons] at h; exact h
    rw [List.cons.injEq] at h2
    obtain ⟨A, h3, h4⟩ := split59 T P S h2.2 hS
    refine ⟨.b c :: A, by rw [h3]; rfl, ?_⟩
    rw [flat_cons, h4, ← h2.1]
    rfl
  | .n e :: T, P, S, h, hS => by
    rw [flat_cons] at h
    have h2 : nameOf e ++ flat T = P ++ S := h
    rcases List.append_eq_append_iff.1 h2 with ⟨Q, h3, h4⟩ | ⟨Q, h3, h4⟩
    · obtain ⟨A, h5, h6⟩ := split59 T Q S h4 hS
      refine ⟨.n e :: A, by rw [h5]; rfl, ?_⟩
      rw [flat_cons, h6, h3]
      rfl
    · by_cases hq : Q = []
      · subst hq
        rw [List.append_nil] at h3
        rw [List.nil_append] at h4
        obtain ⟨A, h5, h6⟩ := split59 T [] S (by rw [h4]; rfl) hS
        rw [flat_ne h6, List.nil_append] at h5
        refine ⟨[.n e], by rw [h5]; rfl, ?_⟩
        rw [← h3, flat_cons, flat_nil, List.append_nil]
        rfl
      · exfalso
        apply hS
        rw [h4]
        apply List.mem_append_left
        have h6 : (nameOf e).getLast? = some 59 := by
          show ((64 :: endText e) ++ [59]).getLast? = some 59
          rw [List.getLast?_append]
          rfl
        cases hl : Q.getLast? with
        | none => exact absurd (List.getLast?_eq_none_iff.1 hl) hq
        | some x =>
          rw [h3, List.getLast?_append, hl] at h6
          obtain rfl := Option.some.inj h6
          exact List.mem_of_getLast? hl
theorem toks_body {U : List Tok} (g : good U) : ∃ (A : List Tok) (S : List UInt8), U = A ++ S.map Tok.b ∧ toks (body (flat U)) = A ∧ flat A = body (flat U) := by
  obtain ⟨A, h1, h2⟩ := split59 U (body (flat U)) _ (body_rest _).symm (held_no59 _)
  refine ⟨A, _, h1, ?_, h2⟩
  rw [← h2]
  rw [h1] at g
  exact toks_flat (good_left g)
theorem mapIn_ok {m : List Pr} {l : List UInt8} (h1 : mapOkB m = true) (h2 : textOk l = true) : mapIn m l = flat ((toks (body l)).map (inTok m)) := by
  have e := goIn_toks m (toks (body l)) (l.drop (l.length - heldN l))
  rw [flat_toks, ← pcL_toks, body_rest] at e
  unfold mapIn
  rw [h1, h2, e, flat_eq]
  rfl
theorem mapOutT_ok {m : List Pr} {l : List UInt8} (h1 : mapOkB m = true) (h2 : textOk l = true) : mapOutT m l = ((outToks m (toks (body l))).1, flat (outToks m (toks (body l))).2) := by
  have e := goOut_toks (toks (body l)) m (l.drop (l.length - heldN l))
  rw [flat_toks, ← pcL_toks, body_rest] at e
  unfold mapOutT
  rw [h1, h2, e]
  simp only [Bool.and_self, if_true, flat_eq]
theorem name_ok : ∀ e ∈ allEnds, (nameOf e).all okByte = true := by decide +kernel
theorem name_in : ∀ e ∈ allEnds, insideB e = true → (nameOf e).length = 5 := by decide +kernel
theorem name_door : ∀ e ∈ allEnds, doorB e = true → (nameOf e).length = 6 := by decide +kernel
theorem ok_like {T U : List Tok} (h : Like T U) (h2 : (flat T).all okByte = true) : (flat U).all okByte = true := by
  induction h with
  | nil => rfl
  | b c _ ih =>
    rw [flat_cons, List.all_append, Bool.and_eq_true] at h2 ⊢
    exact ⟨h2.1, ih h2.2⟩
  | n ha _ ih =>
    rw [flat_cons, List.all_append, Bool.and_eq_true] at h2 ⊢
    exact ⟨name_ok _ (anyB_mem ha), ih h2.2⟩
theorem textOk_iff {l : List UInt8} : textOk l = true ↔ l.all okByte = true ∧ l.length ≤ 40 := by
  unfold textOk
  rw [Bool.and_eq_true, decide_eq_true_iff]
  constructor <;> rintro ⟨h1, h2⟩ <;> exact ⟨h1, by omega⟩
theorem body_all {l : List UInt8} (h : l.all okByte = true) : (body l).all okByte = true := by
  rw [← body_rest l, List.all_append, Bool.and_eq_true] at h
  exact h.1
def nms (T : List Tok) : List En := T.filterMap (fun t => match t with | .n e => some e | .b _ => none)
theorem names_toks (T : List Tok) : names (T.map pcOf) = nms T := by
  induction T with
  | nil => rfl
  | cons t T ih =>
    rw [List.map_cons, names_cons, ih]
    cases t <;> rfl
theorem mem_nms {T : List Tok} {e : En} : e ∈ nms T ↔ Tok.n e ∈ T := by
  unfold nms
  rw [List.mem_filterMap]
  constructor
  · rintro ⟨t, h1, h2⟩
    cases t with
    | b c => cases h2
    | n d => obtain rfl := Option.some.inj h2; exact h1
  · intro h
    exact ⟨_, h, rfl⟩
theorem nms_append (A B : List Tok) : nms (A ++ B) = nms A ++ nms B := List.filterMap_append
theorem nms_b (S : List UInt8) : nms (S.map Tok.b) = [] := by
  induction S with
  | nil => rfl
  | cons c S ih => exact ih
theorem nms_like {T U : List Tok} (h : Like T U) : (nms U).length = (nms T).length := by
  induction h with
  | nil => rfl
  | b c _ ih => exact ih
  | n _ _ ih => exact congrArg (· + 1) ih
theorem names_pieces {l : List UInt8} (h : textOk l = true) : names (pieces l) = nms (toks (body l)) := by
  unfold pieces
  rw [h, if_pos rfl, pcL_toks, names_toks]
theorem text_again {m x : List Pr} {s t : List UInt8} (h1 : mapOkB m = true) (h2 : textOk s = true) (h : mapOutT m s = (x, t)) : mapOutT x s = (x, t) ∧ Ext m x ∧ mapOkB x = true := by
  rw [mapOutT_ok h1 h2] at h
  obtain ⟨rfl, rfl⟩ := Prod.mk.inj h
  obtain ⟨a1, a2, a3⟩ := outToks_ok (toks (body s)) h1
  refine ⟨?_, ⟨a1, a2, a3⟩, a1⟩
  rw [mapOutT_ok a1 h2, outToks_again h1]
theorem z_ok : okByte 122 = true := by decide
theorem textOk_z {t : List UInt8} (h : t.all okByte = true) (hl : t.length < 40) : textOk (t ++ [122]) = true := by
  rw [textOk_iff, List.all_append, h, List.length_append, List.length_singleton]
  exact ⟨by simp [z_ok], by omega⟩
theorem toks_z {U : List Tok} (g : good U) : toks (body (flat U ++ [122])) = U ++ [.b 122] := by
  have e : flat U ++ [122] = flat (U ++ [.b 122]) := by rw [flat_append]; rfl
  rw [body_of0 (held_z _), e]
  exact toks_flat (good_snoc (by decide) (by decide) U g)
theorem body_okAll {s : List UInt8} (h2 : textOk s = true) : (flat (toks (body s))).all okByte = true := by
  rw [flat_toks]
  exact body_all (textOk_iff.1 h2).1
theorem text_twice {m x : List Pr} {s t : List UInt8} (h1 : mapOkB m = true) (h2 : textOk s = true) (h : mapOutT m s = (x, t)) (h7 : x.length ≤ 7) (ht : t.length < 40) : mapOutT x (t ++ [122]) = (x, t ++ [122]) := by
  rw [mapOutT_ok h1 h2] at h
  obtain ⟨rfl, rfl⟩ := Prod.mk.inj h
  have g := good_toks (body s)
  have hl := like_out h1 g
  obtain ⟨a1, a2, a3⟩ := outToks_ok (toks (body s)) h1
  rw [mapOutT_ok a1 (textOk_z (ok_like hl (body_okAll h2)) ht), toks_z (hl.good g), outToks_none]
  · simp only
    rw [flat_append]
    rfl
  · intro e he
    rcases List.mem_append.1 he with h3 | h3
    · exact out_hides _ h1 h7 e h3
    · simp at h3
theorem in_len {m : List Pr} (hm : mapOkB m = true) : ∀ (T : List Tok), good T → (flat (T.map (inTok m))).length ≤ (flat T).length
  | [], _ => Nat.le_refl _
  | .b c :: T, g => by
    have := in_len hm T g.2
    rw [List.map_cons, flat_cons, flat_cons, List.length_append, List.length_append]
    show 1 + _ ≤ 1 + _
    omega
  | .n e :: T, g => by
    have := in_len hm T g.2
    have h0 : (nameOf (inE m e)).length ≤ (nameOf e).length := by
      unfold inE
      cases hd : doorB e
      · exact Nat.le_refl _
      · rw [if_pos rfl, name_door e (anyB_mem g.1) hd]
        cases hi : l3InO m e.port with
        | none => rw [Option.getD_none, name_door e (anyB_mem g.1) hd]; exact Nat.le_refl _
        | some e' =>
          have h3 := l3InO_inside hm hi
          rw [Option.getD_some, name_in e' (anyB_mem (inside_any h3)) h3]
          omega
    rw [List.map_cons, flat_cons, flat_cons, List.length_append, List.length_append]
    show (nameOf (inE m e)).length + _ ≤ (nameOf e).length + _
    omega
theorem text_in {m : List Pr} {s : List UInt8} (h1 : mapOkB m = true) (h2 : textOk s = true) : textOk (mapIn m s) = true ∧ (∀ e ∈ names (pieces (mapIn m s)), doorB e = true → mapInO m e.port = none) ∧ (mapIn m s).length ≤ s.length := by
  have g := good_toks (body s)
  have hl := like_in h1 g
  have hs := textOk_iff.1 h2
  have hlen : (mapIn m s).length ≤ s.length := by
    rw [mapIn_ok h1 h2]
    have := in_len h1 _ g
    rw [flat_toks, body_length] at this
    omega
  have hok : textOk (mapIn m s) = true := textOk_iff.2 ⟨by rw [mapIn_ok h1 h2]; exact ok_like hl (body_okAll h2), by omega⟩
  refine ⟨hok, fun e he hd => ?_, hlen⟩
  rw [names_pieces hok, mem_nms, mapIn_ok h1 h2] at he
  obtain ⟨A, S, hU, hA, _⟩ := toks_body (hl.good g)
  rw [hA] at he
  have h3 : Tok.n e ∈ (toks (body s)).map (inTok m) := by rw [hU]; exact List.mem_append_left _ he
  obtain ⟨t, _, h5⟩ := List.mem_map.1 h3
  cases t with
  | b c => cases h5
  | n d =>
    have h6 : inE m d = e := Tok.n.inj h5
    unfold mapInO
    rw [if_pos h1]
    unfold inE at h6
    cases hdd : doorB d
    · rw [hdd, if_neg (by simp)] at h6
      rw [h6, hd] at hdd
      cases hdd
    · rw [hdd, if_pos rfl] at h6
      cases hi : l3InO m d.port with
      | none =>
        rw [hi, Option.getD_none] at h6
        rw [← h6]
        exact hi
      | some e' =>
        rw [hi, Option.getD_some] at h6
        rw [← h6, inside_door (l3InO_inside h1 hi)] at hd
        cases hd
theorem text_hides {m x : List Pr} {s t : List UInt8} (h1 : mapOkB m = true) (h2 : textOk s = true) (h : mapOutT m s = (x, t)) (h7 : x.length ≤ 7) (ht : t.length ≤ 40) :
    textOk t = true ∧ (∀ e ∈ names (pieces t), insideB e = false) ∧ (names (pieces t)).length = (names (pieces s)).length := by
  rw [mapOutT_ok h1 h2] at h
  obtain ⟨rfl, rfl⟩ := Prod.mk.inj h
  have g := good_toks (body s)
  have hl := like_out h1 g
  have hok : textOk (flat (outToks m (toks (body s))).2) = true := textOk_iff.2 ⟨ok_like hl (body_okAll h2), ht⟩
  obtain ⟨A, S, hU, hA, _⟩ := toks_body (hl.good g)
  refine ⟨hok, ?_, ?_⟩
  · intro e he
    rw [names_pieces hok, mem_nms, hA] at he
    exact out_hides _ h1 h7 e (by rw [hU]; exact List.mem_append_left _ he)
  · rw [names_pieces hok, names_pieces h2, hA, ← nms_like hl, hU, nms_append, nms_b, List.append_nil]
theorem l3InO_ext {m x : List Pr} (h : Ext m x) {p : Int} {e : En} (hi : l3InO m p = some e) : l3InO x p = some e := by
  unfold l3InO at hi ⊢
  split at hi
  · rename_i hq
    have h2 := h.2.2
    rw [if_pos (by omega), ← hi]
    have h3 : ∀ i, i < m.length → m.getD i zPr = x.getD i zPr := by
      intro i hlt
      have e : m.getD i zPr = (x.take m.length).getD i zPr := by rw [h.2.1]
      rw [e, List.getD_eq_getElem?_getD, List.getD_eq_getElem?_getD, List.getElem?_take, if_pos hlt]
    rw [h3 _ (by omega)]
  · cases hi
theorem text_more {m x : List Pr} {s : List UInt8} (h1 : mapOkB m = true) (h2 : textOk s = true) (h : Ext m x) (hn : ∀ e ∈ names (pieces s), doorB e = true → (mapInO m e.port).isSome = true) : mapIn x s = mapIn m s := by
  rw [mapIn_ok h1 h2, mapIn_ok h.1 h2]
  congr 1
  apply List.map_congr_left
  intro t ht
  cases t with
  | b c => rfl
  | n e =>
    show Tok.n (inE x e) = Tok.n (inE m e)
    unfold inE
    cases hd : doorB e
    · rfl
    · have h3 := hn e (by rw [names_pieces h2, mem_nms]; exact ht) hd
      unfold mapInO at h3
      rw [if_pos h1] at h3
      obtain ⟨e', h4⟩ := Option.isSome_iff_exists.1 h3
      rw [l3InO_ext h h4, h4]
theorem mapOut_ext {m : List Pr} (h1 : mapOkB m = true) (e : En) : Ext m (mapOutF m e).1 ∨ (mapOutF m e).2.2 = false := by
  cases ho : (mapOutF m e).2.2
  · exact .inr rfl
  · obtain ⟨a1, _, _, a4, _, a6, _⟩ := mapOut_ok (m := m) (e := e) (L := (mapOutF m e).1) (pt := (mapOutF m e).2.1) (Prod.ext rfl (Prod.ext rfl ho))
    exact .inl ⟨a1, a6, a4⟩
theorem out_long : ∀ (T : List Tok) {m : List Pr}, mapOkB m = true → good T → (outToks m T).1.length ≤ 7 → (flat (outToks m T).2).length = (flat T).length + ((nms T).filter insideB).length
  | [], _, _, _, _ => rfl
  | .b c :: T, m, hm, g, h7 => by
    have := out_long T hm g.2 h7
    simp only [outToks, outTok, flat_cons, List.length_append]
    show 1 + _ = 1 + _ + ((nms T).filter insideB).length
    omega
  | .n e :: T, m, hm, g, h7 => by
    have a1 := (outTok_ok hm (.n e)).1
    have a3 := (outTok_ok hm (.n e)).2.2
    have b3 := (outToks_ok T a1).2.2
    have := out_long T a1 g.2 h7
    have hn : nms (.n e :: T) = e :: nms T := rfl
    simp only [outToks, flat_cons, List.length_append, hn, List.filter_cons]
    rw [this]
    have h9 : (outToks (outTok m (.n e)).1 T).1.length ≤ 7 := h7
    cases hi : insideB e
    · have : (outTok m (.n e)).2 = .n e := by unfold outTok; simp only; rw [hi]; rfl
      rw [this]
      simp only [Bool.false_eq_true, if_false]
      omega
    · have ho : (outS m e).2.2 = true := by
        have hlen : m.length ≤ 7 := by omega
        unfold outS
        split
        · rfl
        · rw [if_neg (by omega)]
      have hc : (insideB e && (outS m e).2.2) = true := by rw [hi, ho]; rfl
      have h3 : (outTok m (.n e)).2 = .n ⟨9, (outS m e).2.1⟩ := by unfold outTok; simp only; rw [if_pos hc]
      obtain ⟨_, _, _, _, h5, h6⟩ := outS_hit hm hi ho
      have hd := door_of h5 h6
      have k1 : (tx (.n ⟨9, (outS m e).2.1⟩)).length = 6 := name_door _ (anyB_mem (door_any hd)) hd
      have k2 : (tx (.n e)).length = 5 := name_in e (anyB_mem g.1) hi
      rw [h3, k1, k2]
      simp only [if_true, List.length_cons]
      omega
theorem text_long {m x : List Pr} {s t : List UInt8} (h1 : mapOkB m = true) (h2 : textOk s = true) (h : mapOutT m s = (x, t)) (h7 : x.length ≤ 7) : t.length = s.length - heldN s + ((names (pieces s)).filter insideB).length := by
  rw [mapOutT_ok h1 h2] at h
  obtain ⟨rfl, rfl⟩ := Prod.mk.inj h
  rw [out_long _ h1 (good_toks _) h7, flat_toks, body_length, names_pieces h2]
theorem text_there {m x : List Pr} {s t : List UInt8} (h1 : mapOkB m = true) (h2 : textOk s = true) (h : mapOutT m s = (x, t)) (ht : t.length < 40) (hn : ∀ e ∈ names (pieces s), doorB e = false) : mapIn x (t ++ [122]) = body s ++ [122] := by
  rw [mapOutT_ok h1 h2] at h
  obtain ⟨rfl, rfl⟩ := Prod.mk.inj h
  have g := good_toks (body s)
  have hl := like_out h1 g
  have hx := outToks_ok (toks (body s)) h1
  rw [mapIn_ok hx.1 (textOk_z (ok_like hl (body_okAll h2)) ht), toks_z (hl.good g), List.map_append, out_back _ h1 (Ext.refl hx.1), flat_append, flat_toks]
  · rfl
  · intro e he
    exact hn e (by rw [names_pieces h2, mem_nms]; exact he)
theorem textOk_take {s : List UInt8} (h : textOk s = true) (a : Nat) : textOk (s.take a) = true := by
  rw [textOk_iff] at h ⊢
  refine ⟨?_, by rw [List.length_take]; omega⟩
  rw [List.all_eq_true] at h ⊢
  exact fun c hc => h.1 c (List.mem_of_mem_take hc)
theorem textOk_drop {s : List UInt8} (h : textOk s = true) (a : Nat) : textOk (s.drop a) = true := by
  rw [textOk_iff] at h ⊢
  refine ⟨?_, by rw [List.length_drop]; omega⟩
  rw [List.all_eq_true] at h ⊢
  exact fun c hc => h.1 c (List.mem_of_mem_drop hc)
theorem text_cut {s : List UInt8} {A B : List Tok} (h : toks (body s) = A ++ B) : s.take (flat A).length = flat A ∧ (flat A).length + heldN s ≤ s.length ∧ toks (body (s.drop (flat A).length)) = B ∧ good A := by
  have g := good_toks (body s)
  rw [h] at g
  have hb : body s = flat A ++ flat B := by rw [← flat_append, ← h, flat_toks]
  have hlen : (flat A).length + (flat B).length = s.length - heldN s := by rw [← List.length_append, ← hb, body_length]
  have hle := heldN_le s
  refine ⟨?_, by omega, ?_, good_left g⟩
  · have e := body_rest s
    rw [hb, List.append_assoc] at e
    rw [← e, List.take_left]
  · rw [body_drop (by omega), hb, List.drop_left]
    exact toks_flat (good_right g)
theorem text_step_held {m x : List Pr} {s t a : List UInt8} {A B : List Tok} {y : List Pr} (h1 : mapOkB m = true) (h2 : textOk s = true) (h : mapOutT m s = (x, t)) (hT : toks (body s) = A ++ B) (ha : mapOutT m (s.take (flat A).length) = (y, a)) : ∃ r, t = a ++ r := by
  rw [mapOutT_ok h1 h2] at h
  obtain ⟨rfl, rfl⟩ := Prod.mk.inj h
  obtain ⟨c1, c2, c3, c4⟩ := text_cut hT
  rw [mapOutT_ok h1 (textOk_take h2 _), c1] at ha
  obtain ⟨A', S, hU, hA, _⟩ := toks_body c4
  rw [hA] at ha
  obtain ⟨rfl, rfl⟩ := Prod.mk.inj ha
  rw [hT, hU, List.append_assoc, outToks_append]
  simp only
  rw [flat_append]
  exact ⟨_, rfl⟩
theorem text_step {m x y z : List Pr} {s t a b : List UInt8} {A B : List Tok} (h1 : mapOkB m = true) (h2 : textOk s = true) (h : mapOutT m s = (x, t)) (hT : toks (body s) = A ++ B) (h0 : heldN (s.take (flat A).length) = 0) (ha : mapOutT m (s.take (flat A).length) = (y, a)) (hb : mapOutT y (s.drop (flat A).length) = (z, b)) : a ++ b = t ∧ z = x := by
  rw [mapOutT_ok h1 h2] at h
  obtain ⟨rfl, rfl⟩ := Prod.mk.inj h
  obtain ⟨c1, c2, c3, c4⟩ := text_cut hT
  rw [mapOutT_ok h1 (textOk_take h2 _), body_of0 h0, c1, toks_flat c4] at ha
  obtain ⟨rfl, rfl⟩ := Prod.mk.inj ha
  rw [mapOutT_ok (outToks_ok A h1).1 (textOk_drop h2 _), c3] at hb
  obtain ⟨rfl, rfl⟩ := Prod.mk.inj hb
  rw [hT, outToks_append]
  simp only
  rw [flat_append]
  exact ⟨rfl, trivial⟩
end Go.Proofs.YtijompkonaiagaaGreatDoor.Q
namespace Go.Proofs.YtijompkonaiagaaGreatDoor.Z
open Go.RowKit
set_option linter.unusedVariables false
theorem wrap_laid {H : Type} {enc : TypeId × Value → H} {a : Assume} {C : Checked} {os : Os} {f : FuncId} {fn : Func} {s : ChangeSpec} {conds : List PathCond} {apart fresh handsOn again : Bool} {X : World → Array Value → Prop}
    (hX : ∀ (w w' : World) (args : Array Value), w.heap = w'.heap → X w args → X w' args)
    (own : ownKnob C.prog.godebug = none) (started : os.Started) (noInit : C.prog.inits.idxOf? f = none) (hfn : C.prog.funcs[f]? = some fn)
    (witness : ∃ (w : World) (tape : Tape) (i : Input), w.os = os ∧ (w.forCall tape i).Shaped C.prog ∧ i.vars = [] ∧ Input.okWide C.prog (w.forCall tape i) .any w.heap.size f i ∧
      ((s.pre enc C.prog fn conds apart (w.forCall tape i).memory i.args ∧ X (w.forCall tape i).memory i.args) ∧ sizedMet enc C.prog fn (OpenSpec.ofChange s) apart (w.forCall tape i).memory i.args) ∧ a.holds C.prog (lone (Frame.enter C.prog f i.args .normal) [] (w.forCall tape i)))
    (walk : ∀ (W : World) (base : Nat) (args : Array Value) (ds gs : List (DataW H)) (before : List MemPlace),
      (∀ (j : Nat) t v, fn.params[j]? = some t → args[j]? = some v → Value.okWide C.prog W .any base t v) →
      DataW.Whole enc C.prog fn.params.toList s.vars apart W args.toList ds gs before → X W args → W.ShapedOpen C.prog →
      Calls C.prog f args W fun e W' => ∃ v, e = .returned v ∧ s.post enc C.prog fn apart fresh handsOn again W args v W') :
    ReturnsInHanded a C os f .any (fun w args => (s.pre enc C.prog fn conds apart w args ∧ X w args) ∧ sizedMet enc C.prog fn (OpenSpec.ofChange s) apart w args) (s.post enc C.prog fn apart fresh handsOn again) := by
  refine returnsInHanded_of_calls own started noInit witness (fun w tape i _ shape _ ok pre _ => ?_)
  obtain ⟨_, _, _, fn', e, _, _, _, _, val⟩ := ok
  obtain rfl : fn' = fn := Option.some.inj (e.symm.trans hfn)
  obtain ⟨⟨⟨ds, gs, before, whole, _⟩, x⟩, _⟩ := pre
  refine (walk (w.forCall tape i) w.heap.size i.args ds gs before val (DataW.Whole.of_heap (w' := w.forCall tape i) (by rfl) whole) (hX _ _ _ (by rfl) x) shape).mono ?_
  rintro e W' ⟨v, rfl, post⟩
  exact ChangeSpec.post_blind post
abbrev laidL : List (String × DataW Unit) := [("math/bits.deBruijn32tab", Rows.laid_math_bits_deBruijn32tab), ("math/bits.deBruijn64tab", Rows.laid_math_bits_deBruijn64tab), ("internal/strconv.uint64pow10", Rows.laid_internal_strconv_uint64pow10), ("strconv.ErrRange", Rows.laid_strconv_ErrRange), ("strconv.ErrSyntax", Rows.laid_strconv_ErrSyntax)]
theorem tRange : (Tryz.prog.globals[2]?).map (·.type) = some 110 := by kernel_rfl
theorem tSyntax : (Tryz.prog.globals[1]?).map (·.type) = some 110 := by kernel_rfl
theorem err_of {W : World} {n : String} {g0 g : Nat} {t : TypeId} {cs : Array Value} {fu : Nat} {name : String} {d : DataW Unit} {p : List MemPlace} {enc : TypeId × Value → Unit} (e0 : Tryz.prog.globalNamed n = some g0) (t0 : (Tryz.prog.globals[g0]?).map (·.type) = some 110)
    (hg : Tryz.prog.globalNamed n = some g) (ht : (Tryz.prog.globals[g]?).map (·.type) = some t) (hv : W.var? Tryz.prog n = some cs) {sp : Nat → Bool} (hd : DataW.trod enc Tryz.prog W 0 sp false fu t cs.toList = some (.iface name d, p)) :
    (∃ tp q, W.var? Tryz.prog n = some #[.iface tp q]) ∧ g0 < W.heap.size := by
  obtain rfl := Option.some.inj (e0.symm.trans hg)
  obtain rfl := Option.some.inj (t0.symm.trans ht)
  obtain ⟨l⟩ := cs
  obtain ⟨_, u, v, e, _, _⟩ := iface_of_trod Tryz.underlying110 hd
  have e1 : l = [.iface u v] := e
  subst e1
  refine ⟨⟨u, v, hv⟩, ?_⟩
  have h1 := World.var?_cell hg hv 0
  exact World.block_lt_of_cell? W ⟨g0, 0, none⟩ (h1.trans rfl)
theorem vars_of {W : World} (h : laidMetH Tryz.prog laidL W) (hs : W.ShapedOpen Tryz.prog) : VarsIn W := by
  rw [MakeChecks.laidMetH_plain _ _ _ (by kernel_rfl)] at h
  obtain ⟨ps, ⟨g0, t0, cs0, f0, p0, q0, hg0, ht0, hv0, hd0, ⟨g1, t1, cs1, f1, p1, q1, hg1, ht1, hv1, hd1, ⟨g2, t2, cs2, f2, p2, q2, hg2, ht2, hv2, hd2, ⟨g3, t3, cs3, f3, p3, q3, hg3, ht3, hv3, hd3, ⟨g4, t4, cs4, f4, p4, q4, hg4, ht4, hv4, hd4, _, _⟩, _⟩, _⟩, _⟩, _⟩, _, _⟩ := h
  obtain ⟨r1, r2⟩ := err_of gRange tRange hg3 ht3 hv3 hd3
  obtain ⟨s1, s2⟩ := err_of gSyntax tSyntax hg4 ht4 hv4 hd4
  obtain ⟨m, hm⟩ := cell_of_shapedOpen_int (P := Tryz.prog) (g := 0) (t := 3) (zero := #[.int .i64 0]) hs (of_decide_eq_true (by kernel_rfl)) (by kernel_rfl) rfl (by kernel_rfl) (by kernel_rfl) Tryz.underlying3
  have h3 : 0 < W.heap.size := World.block_lt_of_cell? W ⟨0, 0, none⟩ hm
  exact ⟨⟨⟨m, hm⟩, s1, r1⟩, by unfold gTop; omega⟩
theorem laid_met (os : Os) (args : Array Value) : laidMetH Tryz.prog laidL ((World.laidAll Tryz.prog os laidL).forCall (fun _ _ => 0) ⟨#[], args, []⟩).memory := by
  rw [MakeChecks.laidMetH_plain _ _ _ (by kernel_rfl)]
  exact laidMet_laidAll _ (by kernel_rfl) (by kernel_rfl)
end Go.Proofs.YtijompkonaiagaaGreatDoor.Z
namespace Go.Proofs.YtijompkonaiagaaGreatDoor.Z
open Go.RowKit Go.Proofs.YtijompkonaiagaaGreatDoorW.PrintWords
set_option linter.unusedVariables false
def Opens {α : Type} (P : Program) (t : TypeId) (d : Kd α) (good : α → Prop) : Prop := P.cellsOf t = d.sz ∧
  ∀ (H : Type) (enc : TypeId × Value → H) (w : World) (base : Nat) (spare : Nat → Bool) (held : Bool) (fuel : Nat) (cs : List Value) (x : DataW H × List MemPlace), DataW.trod enc P w base spare held fuel t cs = some x → ∃ v, d.K w v cs ∧ good v
section
variable {P : Program} {t e : TypeId}
theorem Opens.int {k : IntKind} (ht : P.underlying t = some (.int k)) (hc : P.cellsOf t = 1) : Opens P t (Kd.int k) (fun n => (Lit.int k n).wf = true) :=
  ⟨hc, fun H enc w base spare held fuel cs x h => let ⟨n, e, _, g⟩ := DataW.trod_int ht h; ⟨n, e, g⟩⟩
theorem Opens.bool (ht : P.underlying t = some .bool) (hc : P.cellsOf t = 1) : Opens P t Kd.bool (fun _ => True) :=
  ⟨hc, fun H enc w base spare held fuel cs x h => let ⟨n, e, _⟩ := DataW.trod_bool ht h; ⟨n, e, trivial⟩⟩
theorem Opens.string (ht : P.underlying t = some .string) (hc : P.cellsOf t = 1) : Opens P t Kd.string (fun s => s.size ≤ maxLen) :=
  ⟨hc, fun H enc w base spare held fuel cs x h => let ⟨n, e, _, g⟩ := DataW.trod_string ht h; ⟨n, e, g⟩⟩
theorem Opens.slice {α : Type} [Inhabited α] {d : Kd α} {good : α → Prop} (ht : P.underlying t = some (.slice e)) (hc : P.cellsOf t = 1) (he : Opens P e d good) : Opens P t (Kd.slice e d) (fun xs => ∀ x ∈ xs, good x) := by
  refine ⟨hc, fun H enc w base spare held fuel cs x h => ?_⟩
  rcases Deep.open_slice ht h with ⟨rfl, _⟩ | ⟨a, len, cap, m, n, D, Pl, rfl, _, hl, hm, hmm, _, hx⟩
  · exact ⟨[], ⟨none, 0, rfl, Nat.le_refl _, rfl, by simp, fun h => absurd h (Nat.lt_irrefl _)⟩, fun x hx => by cases hx⟩
  · have hlm : len ≤ m := by rw [hmm]; split <;> omega
    have each : ∀ i, i < len → ∃ v, ∃ cs', cs'.length = d.sz ∧ d.K w v cs' ∧ good v ∧ ∀ j u, cs'[j]? = some u → w.cell? (a.add (i * d.sz + j)) = some u := fun i hi => by
      obtain ⟨cs', h1, h2⟩ := hx i (by omega)
      rw [he.1] at h1
      obtain ⟨_, hlen, hcell⟩ := World.cells?_some h1
      obtain ⟨v, hK, hg⟩ := he.2 H enc w base spare held n cs' _ h2
      refine ⟨v, cs', hlen, hK, hg, fun j u hu => ?_⟩
      have hj : j < cs'.length := (List.getElem?_eq_some_iff.1 hu).1
      have := hcell j (by omega)
      rw [Deep.add_add] at this
      rw [this, hu]
    obtain ⟨f, hf⟩ := Deep.choose_lt each
    refine ⟨(List.range len).map f, ⟨some a, cap, by simp, by simpa using hl, by simp, ?_, ?_⟩, ?_⟩
    · have := hm; unfold maxLen at this; simp; omega
    · intro _
      refine ⟨a, rfl, fun j p hj => ?_⟩
      obtain ⟨hj1, hj2⟩ := List.getElem?_eq_some_iff.1 hj
      simp at hj1 hj2
      obtain ⟨cs', h1, h2, _, h4⟩ := hf j hj1
      exact ⟨cs', h1, hj2 ▸ h2, h4⟩
    · intro x hx
      obtain ⟨i, hi, rfl⟩ := List.mem_map.1 hx
      obtain ⟨_, _, _, h3, _⟩ := hf i (List.mem_range.1 hi)
      exact h3
def OpensF {α : Type} (P : Program) (fs : List Field) (off : Nat) (d : Kd α) (good : α → Prop) : Prop :=
  ∀ (H : Type) (enc : TypeId × Value → H) (w : World) (base : Nat) (spare : Nat → Bool) (held : Bool) (n : Nat) (cs : List Value) (xs : List (DataW H × List MemPlace)), cs.length = off + d.sz → xs.length = fs.length →
    (∀ (i : Nat) (f : Field), fs[i]? = some f → DataW.trod enc P w base spare held n f.type ((cs.drop f.offset).take (P.cellsOf f.type)) = xs[i]?) → ∃ v, d.K w v (cs.drop off) ∧ good v
theorem OpensF.last {α : Type} {f : Field} {off : Nat} {d : Kd α} {good : α → Prop} (ho : f.offset = off) (h : Opens P f.type d good) : OpensF P [f] off d good := by
  intro H enc w base spare held n cs xs hl hx ht
  have h0 := ht 0 f rfl
  rw [ho, h.1, List.take_of_length_le (by rw [List.length_drop]; omega), List.getElem?_eq_getElem (by rw [hx]; exact Nat.one_pos)] at h0
  exact h.2 H enc w base spare held n _ _ h0
theorem OpensF.cons {α β : Type} {f : Field} {fs : List Field} {off off' : Nat} {d : Kd α} {d' : Kd β} {good : α → Prop} {good' : β → Prop} (ho : f.offset = off) (h : Opens P f.type d good) (hoff : off' = off + d.sz) (hr : OpensF P fs off' d' good') :
    OpensF P (f :: fs) off (Kd.pair d d') (fun x => good x.1 ∧ good' x.2) := by
  subst hoff
  intro H enc w base spare held n cs xs hl hx ht
  have hl' : cs.length = off + (d.sz + d'.sz) := hl
  cases xs with
  | nil => simp at hx
  | cons y ys =>
    have h0 := ht 0 f rfl
    rw [ho, h.1] at h0
    obtain ⟨v, hK, hg⟩ := h.2 H enc w base spare held n _ y h0
    obtain ⟨v', hK', hg'⟩ := hr H enc w base spare held n cs ys (by omega) (by simpa using hx) (fun i f hf => ht (i + 1) f (by simpa using hf))
    refine ⟨(v, v'), ⟨(cs.drop off).take d.sz, cs.drop (off + d.sz), ?_, hK, hK'⟩, hg, hg'⟩
    have e := List.take_append_drop d.sz (cs.drop off)
    rw [List.drop_drop] at e
    exact e.symm
theorem Opens.struct {α β : Type} {fs : Array Field} {d : Kd α} {good : α → Prop} (ht : P.underlying t = some (.struct fs)) (hc : P.cellsOf t = d.sz) (hF : OpensF P fs.toList 0 d good) (f : β → α) (g : α → β) (hfg : ∀ a, f (g a) = a) : Opens P t (Kd.iso d f) (fun x => good (f x)) := by
  refine ⟨hc, fun H enc w base spare held fuel cs x h => ?_⟩
  obtain ⟨xs, n, _, _, hl, hx, hf⟩ := DataW.trod_struct ht h
  obtain ⟨v, hK, hg⟩ := hF H enc w base spare held n cs xs (by rw [hl, hc]; omega) (by simpa using hx) (fun i fd hi => hf i fd (by simpa using hi))
  refine ⟨g v, ?_, by show good (f (g v)); rw [hfg]; exact hg⟩
  show d.K w (f (g v)) cs
  rw [hfg]
  simpa using hK
end
def i64ok (n : Int) : Prop := (Lit.int .i64 n).wf = true
theorem i64ok.le {n : Int} (h : i64ok n) : -9223372036854775808 ≤ n ∧ n ≤ 9223372036854775807 := by
  unfold i64ok at h
  simpa [Lit.wf, IntKind.has, IntKind.min, IntKind.signed, IntKind.bits] using h
end Go.Proofs.YtijompkonaiagaaGreatDoor.Z
namespace Go.Proofs.YtijompkonaiagaaGreatDoor.Z
open Go.RowKit Go.Proofs.YtijompkonaiagaaGreatDoorW.PrintWords
set_option linter.unusedVariables false
def byteOk (n : Int) : Prop := (Lit.int .u8 n).wf = true
theorem byteOk.le {n : Int} (h : byteOk n) : 0 ≤ n ∧ n ≤ 255 := by
  unfold byteOk at h
  simpa [Lit.wf, IntKind.has, IntKind.min, IntKind.max, IntKind.signed, IntKind.bits] using h
theorem openByte : Opens Tryz.prog 5 (Kd.int .u8) byteOk := Opens.int Tryz.underlying5 (by kernel_rfl)
theorem openBytes : Opens Tryz.prog 22 (Kd.slice 5 (Kd.int .u8)) (fun xs => ∀ x ∈ xs, byteOk x) := Opens.slice Tryz.underlying22 (by kernel_rfl) openByte
theorem bytes_le {bs : List Int} (h : ∀ x ∈ bs, byteOk x) : ∀ b ∈ bs, (0 : Int) ≤ b ∧ b ≤ 255 := fun b hb => (h b hb).le
end Go.Proofs.YtijompkonaiagaaGreatDoor.Z
namespace Go.Proofs.YtijompkonaiagaaGreatDoor.Q
open Go.RowKit Go.Proofs.YtijompkonaiagaaGreatDoorW.PrintWords Go.Proofs.YtijompkonaiagaaGreatDoorW.PrintLast Go.Proofs.YtijompkonaiagaaGreatDoorW.PrintMore
attribute [local go_sem] max2_int min2_int max_two min_two max_three min_three max_four min_four
set_option linter.unusedVariables false
set_option linter.unusedSimpArgs false
noncomputable section
def impl_TextHeld.f (a0 : ByteArray) : Option (Int) := (impl_TextOk.f a0).bind fun t101 => (if t101 = true then ((impl_held.f a0).bind fun t102 => (some t102)) else (some 0))
set_option maxHeartbeats 8000000 in
set_option maxRecDepth 100000 in
theorem impl_TextHeld.calls (a0 : ByteArray) (r : Int) (w : World) (h : impl_TextHeld.f a0 = some r) :
    Calls Tryz.prog 17 #[.string a0] w fun e w' => e = .returned (.int .i64 r) ∧ Below w.heap.size w w' := by
  have HB := Aside0.mk (Below.refl w.heap.size w)
  have H : ((impl_TextOk.f a0).bind fun t101 => (if t101 = true then ((impl_held.f a0).bind fun t102 => (some t102)) else (some 0))) = some r := h
  clear h
  replace H := Option.bind_eq_some_iff.mp H
  obtain ⟨t101, A20, H⟩ := H
  replace H : (if t101 = true then ((impl_held.f a0).bind fun t102 => (some t102)) else (some 0)) = some r := H
  have A2 := Aside0.mk A20
  clear A20
  by_cases c3 : t101 = true
  · subst c3
    have H1 : ((impl_held.f a0).bind fun t102 => (some t102)) = some r := by rw [if_pos rfl] at H; exact H
    clear H
    have H := H1
    clear H1
    replace H := Option.bind_eq_some_iff.mp H
    obtain ⟨t102, A40, H⟩ := H
    replace H : (some t102) = some r := H
    have A4 := Aside0.mk A40
    clear A40
    obtain rfl := Option.some.inj H
    go_enter Tryz.func17, Tryz.ntmps17
    go_wp2_with (first | ((with_reducible refine gate_callee (f := 53) rfl ?_); refine goesL_ (some 4) rfl rfl Tryz.func53 (by kernel_rfl) rfl #[.string a0] rfl (by (try simp only [List.map_toArray, List.map_cons, List.map_nil]); first | done | rfl | (simp only [List.length_drop, List.length_take]; rfl)) ?_; (with_reducible refine (impl_TextOk.calls a0 true _ A2.out).mono ?_); rintro e w5 ⟨rfl, hb⟩; refine ⟨_, rfl, ?_⟩; have n0_ := Aside0.mk (below_step (by repeat (first | (with_reducible first | exact HB.out | apply below_alloc | apply pw_below_drewN | apply below_drew1) | exact HB.out)) hb); clear HB; have HB := n0_; clear n0_; (try clear hb); (try clear hb2); (try clear hk); (try clear hi)) | ((with_reducible refine gate_callee (f := 54) rfl ?_); refine goesL_ (some 7) rfl rfl Tryz.func54 (by kernel_rfl) rfl #[.string a0] rfl (by (try simp only [List.map_toArray, List.map_cons, List.map_nil]); first | done | rfl | (simp only [List.length_drop, List.length_take]; rfl)) ?_; (with_reducible refine (impl_held.calls a0 t102 _ A4.out).mono ?_); rintro e w6 ⟨rfl, hb⟩; refine ⟨_, rfl, ?_⟩; have n0_ := Aside0.mk (below_step (by repeat (first | (with_reducible first | exact HB.out | apply below_alloc | apply pw_below_drewN | apply below_drew1) | exact HB.out)) hb); clear HB; have HB := n0_; clear n0_; (try clear hb); (try clear hb2); (try clear hk); (try clear hi)))
    go_ret
    exact ⟨by first | rfl | (simp [errW_none, errW_some] <;> rfl) | (simp [*, errW_none, errW_some] <;> rfl), by repeat (first | (with_reducible first | exact HB.out | apply below_alloc | apply pw_below_drewN | apply below_drew1) | exact HB.out)⟩
  · replace c3 := Bool.eq_false_iff.mpr c3
    subst c3
    have H1 : (some 0) = some r := by rw [if_neg (show ¬ (false = true) by decide)] at H; exact H
    clear H
    have H := H1
    clear H1
    obtain rfl := Option.some.inj H
    go_enter Tryz.func17, Tryz.ntmps17
    go_wp2_with (first | ((with_reducible refine gate_callee (f := 53) rfl ?_); refine goesL_ (some 4) rfl rfl Tryz.func53 (by kernel_rfl) rfl #[.string a0] rfl (by (try simp only [List.map_toArray, List.map_cons, List.map_nil]); first | done | rfl | (simp only [List.length_drop, List.length_take]; rfl)) ?_; (with_reducible refine (impl_TextOk.calls a0 false _ A2.out).mono ?_); rintro e w7 ⟨rfl, hb⟩; refine ⟨_, rfl, ?_⟩; have n0_ := Aside0.mk (below_step (by repeat (first | (with_reducible first | exact HB.out | apply below_alloc | apply pw_below_drewN | apply below_drew1) | exact HB.out)) hb); clear HB; have HB := n0_; clear n0_; (try clear hb); (try clear hb2); (try clear hk); (try clear hi)))
    go_ret
    exact ⟨by first | rfl | (simp [errW_none, errW_some] <;> rfl) | (simp [*, errW_none, errW_some] <;> rfl), by repeat (first | (with_reducible first | exact HB.out | apply below_alloc | apply pw_below_drewN | apply below_drew1) | exact HB.out)⟩
end
end Go.Proofs.YtijompkonaiagaaGreatDoor.Q
