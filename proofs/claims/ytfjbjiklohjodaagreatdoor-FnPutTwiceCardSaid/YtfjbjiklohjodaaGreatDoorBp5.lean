/- Plain laws of the printed functions: whether a stream is ok, a text put to a stream, of the reference and of the program. Plain laws of the printed functions: a text put to a stream, of the reference and of the program. Draws: a stream and pairs behind it, coarse. Draws: what StreamPut is called with, coarse. Plain laws of the printed functions: the program's put. Contracts of mine in the print's own form: as what a stream went on. Plain laws of the printed functions: as what a stream went on; how much came for what went on. -/
import Derived.Test.YtfjbjiklohjodaaGreatDoorBp4
import Derived.Deep.CutBlock
namespace Go.Proofs.YtfjbjiklohjodaaGreatDoor.Q
open Go.RowKit Go.Proofs.YtfjbjiklohjodaaGreatDoorW.PrintWords Go.Proofs.YtfjbjiklohjodaaGreatDoorW.PrintLast Go.Proofs.YtfjbjiklohjodaaGreatDoorW.PrintMore Go.Proofs.YtfjbjiklohjodaaGreatDoor.Z
attribute [local go_sem] max2_int min2_int max_two min_two max_three min_three max_four min_four
set_option linter.unusedVariables false
set_option linter.unusedSimpArgs false
noncomputable section
def impl_StreamOk.f (k : Nat) (a0_0 : ByteArray) (l0_1 : List (S109)) : Option (Bool) := (impl_TextOk.f a0_0).bind fun t102 => (if t102 = true then ((impl_pieces.f k a0_0).bind fun t103 => ((slices_EqualFunc_Part.f l0_1 t103).bind fun t106 => (some t106))) else (some false))
set_option maxHeartbeats 8000000 in
set_option maxRecDepth 100000 in
theorem impl_StreamOk.calls (k : Nat) (a0_0 : ByteArray) (A0_1 : Option Addr) (c0_1 : Nat) (l0_1 : List (S109)) (r : Bool) (w : World) (hr0_1 : Kd.C k109 w A0_1 l0_1.length l0_1) (hc0_1 : l0_1.length ≤ c0_1) (hV : VarsIn w) (h : impl_StreamOk.f k a0_0 l0_1 = some r) :
  Calls Tryz.prog 25 #[.agg #[.string a0_0, .slice A0_1 l0_1.length c0_1]] w fun e w' => e = .returned (.bool r) ∧ Below w.heap.size w w' := by
 have hu26 := Tryz.underlying26
 have HR0_1 := Aside0.mk hr0_1
 have HC0_1 := Aside0.mk hc0_1
 clear hr0_1 hc0_1
 have HB := Aside0.mk (Below.refl w.heap.size w)
 have H : ((impl_TextOk.f a0_0).bind fun t102 => (if t102 = true then ((impl_pieces.f k a0_0).bind fun t103 => ((slices_EqualFunc_Part.f l0_1 t103).bind fun t106 => (some t106))) else (some false))) = some r := h
 clear h
 obtain ⟨t102, A2, H⟩ := zH_ H
 by_cases c3 : t102 = true
 ·subst c3; rw [if_pos rfl] at H; obtain ⟨t103, A4, H⟩ := zH_ H; obtain ⟨t106, A5, H⟩ := zH_ H; obtain rfl := Option.some.inj H
  go_enter Tryz.func25, Tryz.ntmps25
  try go_wp2_with (first | ((with_reducible refine gate_dst (N := 1) rfl ?_); refine zx_ (N := 1) #[.string a0_0, .slice A0_1 l0_1.length c0_1] 26 ?_; intro gb101 hg w6 hbox hb; have BK101 := A_ hbox; have GW101 := A_ ((d0_ : w.heap.size ≤ gb101)); have GE101 := A_ ((d0_ : w.heap.size ≤ gb101)); replace HB := A_ (below_step (zB_ HB.out) hb); clear hb hbox hg; have hcz7_0 : w6.cell? ⟨gb101, 0, none⟩ = some (.string a0_0) := (blk_cell BK101.out 0).trans rfl; have hcz7_1 : w6.cell? ⟨gb101, 1, none⟩ = some (.slice A0_1 l0_1.length c0_1) := (blk_cell BK101.out 1).trans rfl; have hfz7_0 := blk_frozen BK101.out 0; have hfz7_1 := blk_frozen BK101.out 1) | ((with_reducible refine gate_callee (f := 67) rfl ?_); refine zc_ (some 5) Tryz.func67 #[.string a0_0] ?_; (with_reducible refine (impl_TextOk.calls a0_0 true _ A2.out).mono ?_); rintro e w8 ⟨rfl, hb⟩; refine ⟨_, rfl, ?_⟩; replace BK101 := A_ (blk_below (g := gb101) (o := .cells #[.string a0_0, .slice A0_1 l0_1.length c0_1] 26 (0, 0)) (zb_ BK101.out) hb); replace HB := A_ (below_step d1_ hb); (try clear hb); (try clear hi)))
  have n0_ := Aside0.mk (blk_drew BK101.out); have n1_ := Aside0.mk (below_drew1 HB.out); clear BK101; clear HB; have BK101 := n0_; have HB := n1_; clear n0_ n1_; refine start_ (n := 7) (S := fun w' => w'.cell? ⟨gb101, 0, none⟩ = some (.string a0_0) ∧ w'.cell? ⟨gb101, 1, none⟩ = some (.slice A0_1 l0_1.length c0_1)) (ds := []) #[false, false, false, false, false, false, false] (by kernel_rfl) rfl rfl ⟨(blk_cell BK101.out 0).trans rfl, (blk_cell BK101.out 1).trans rfl⟩ (fun hHeld => ?_); generalize w8.drew = w9 at BK101 HB hHeld ⊢; refine pure_ (i := 0) (N := some 7) (v := ?_) (a' := ?_) #[true, false, false, false, false, false, false] rfl rfl (by kernel_rfl) (fun _ _ _ h => h) (Or.inl ⟨by rfl, ?_⟩) ?_ ?_; rotate_left
  ·intro w'
   go_simp
   with_reducible rfl
  rotate_left
  ·simp only [Act.put, List.setIfInBounds_toArray, List.set_cons_zero, List.set_cons_succ, i64_w, i32_w]; rfl
  refine pure_ (i := 2) (N := some 9) (v := ?_) (a' := ?_) #[true, false, true, false, false, false, false] rfl rfl (by kernel_rfl) (fun _ _ _ h => h) (Or.inl ⟨by rfl, ?_⟩) ?_ ?_; rotate_left
  ·intro w'
   go_simp
   with_reducible rfl
  rotate_left
  ·simp only [Act.put, List.setIfInBounds_toArray, List.set_cons_zero, List.set_cons_succ, i64_w, i32_w]; rfl
  refine take_ (i := 1) (N := some 8) (v := ?_) (a' := ?_) #[true, true, true, false, false, false, false] rfl rfl (by kernel_rfl) (fun _ _ _ h => h) (Or.inl ⟨by rfl, ?_⟩) hHeld ?_ ?_; rotate_left
  ·rintro w' ⟨s0, s1⟩
   go_simp
   with_reducible rfl
  rotate_left
  ·simp only [Act.put, List.setIfInBounds_toArray, List.set_cons_zero, List.set_cons_succ, i64_w, i32_w]; rfl
  refine take_ (i := 3) (N := some 10) (v := ?_) (a' := ?_) #[true, true, true, true, false, false, false] rfl rfl (by kernel_rfl) (fun _ _ _ h => h) (Or.inl ⟨by rfl, ?_⟩) hHeld ?_ ?_; rotate_left
  ·rintro w' ⟨s0, s1⟩
   go_simp
   with_reducible rfl
  rotate_left
  ·simp only [Act.put, List.setIfInBounds_toArray, List.set_cons_zero, List.set_cons_succ, i64_w, i32_w]; rfl
  refine one_ (i := 4) (N := some 11) #[true, true, true, true, true, false, false] rfl rfl (by kernel_rfl) (by decide) (fun K hK => ?_); refine goes_ Tryz.func78 (by kernel_rfl) rfl #[.string a0_0] (by rfl) rfl rfl za_ ?_
  with_reducible refine (impl_pieces.calls k a0_0 t103 _ ?side1 A4.out).mono ?_
  (case side1 => exact d117_); rintro e w10 ⟨v104, rfl, ho0, hb⟩; refine ⟨_, rfl, ?_⟩; have n0_ := Aside0.mk (Kd.V_lower (Kd.V_mono (ok' := fun k_ => k_ ≠ gb101) ho0 (fun k_ hk_ => (Kd.freshB (g := gb101) (o := .cells #[.string a0_0, .slice A0_1 l0_1.length c0_1] 26 (0, 0)) (zb_ BK101.out) k_ hk_))) (below_size d1_)); have n1_ := Aside0.mk (blk_below (g := gb101) (o := .cells #[.string a0_0, .slice A0_1 l0_1.length c0_1] 26 (0, 0)) (zb_ BK101.out) hb); have n2_ := Aside0.mk (below_step d1_ hb); clear BK101; clear HB; have HO105 := n0_; have BK101 := n1_; have HB := n2_; clear n0_ n1_ n2_; (try clear hb); (try clear hb2); (try clear hk); (try clear hi); (try clear ho0); obtain ⟨Ao11, co11, eo11⟩ := Kd.V_slice HO105.out; (first | subst eo11 | (injection eo11 with f1_ f2_ f3_; have f4_ := f1_.symm; have f5_ := f3_.symm; clear f1_ f2_ f3_; subst f4_; subst f5_)); refine hK.out _ _ ⟨(blk_cell BK101.out 0).trans rfl, (blk_cell BK101.out 1).trans rfl⟩ (fun hHeld => ?_); clear hK K; refine norm_ (a' := ?_) ?_ ?_; rotate_left
  ·show Act.put _ (some 11) _ = _
   simp only [Act.put, List.setIfInBounds_toArray, List.set_cons_zero, List.set_cons_succ, i64_w, i32_w]; rfl
  refine one_ (i := 5) (N := some 12) #[true, true, true, true, true, true, false] rfl rfl (by kernel_rfl) (by decide) (fun K hK => ?_); refine goes_ Tryz.func77 (by kernel_rfl) rfl #[.slice A0_1 l0_1.length c0_1, .slice Ao11 t103.length co11, .func (.func 79) #[] #[]] (by rfl) rfl rfl za_ ?_
  with_reducible refine (slices_EqualFunc_Part.calls _ _ l0_1 _ _ t103 t106 _ ?side1 ?side2 ?side3 ?side4 A5.out).mono ?_
  (case side1 => exact d111_); (case side2 => exact HC0_1.out); (case side3 => exact d37_); (case side4 => exact (Kd.V_reads' HO105.out).2.1); rintro e w12 ⟨rfl, hb⟩; refine ⟨_, rfl, ?_⟩; have n0_ := Aside0.mk (Kd.V_below (zv_ HO105.out) hb); have n1_ := Aside0.mk (blk_below (g := gb101) (o := .cells #[.string a0_0, .slice A0_1 l0_1.length c0_1] 26 (0, 0)) (zb_ BK101.out) hb); have n2_ := Aside0.mk (below_step d1_ hb); clear HO105; clear BK101; clear HB; have HO105 := n0_; have BK101 := n1_; have HB := n2_; clear n0_ n1_ n2_; (try clear hb); (try clear hb2); (try clear hk); (try clear hi); refine hK.out _ _ ⟨(blk_cell BK101.out 0).trans rfl, (blk_cell BK101.out 1).trans rfl⟩ (fun hHeld => ?_); clear hK K; refine norm_ (a' := ?_) ?_ ?_; rotate_left
  ·show Act.put _ (some 12) _ = _
   simp only [Act.put, List.setIfInBounds_toArray, List.set_cons_zero, List.set_cons_succ, i64_w, i32_w]; rfl
  refine pure_ (i := 6) (N := some 2) (v := ?_) (a' := ?_) #[true, true, true, true, true, true, true] rfl rfl (by kernel_rfl) (fun _ _ _ h => h) (Or.inl ⟨by rfl, ?_⟩) ?_ ?_; rotate_left
  ·intro w'
   go_simp
   with_reducible rfl
  rotate_left
  ·simp only [Act.put, List.setIfInBounds_toArray, List.set_cons_zero, List.set_cons_succ, i64_w, i32_w]; rfl
  refine done_ (by kernel_rfl) ?_
  try go_wp2
  go_ret
  exact ⟨d4_, d1_⟩
 replace c3 := Bool.eq_false_iff.mpr c3
 subst c3
 rw [if_neg (show ¬ (false = true) by decide)] at H
 obtain rfl := Option.some.inj H
 go_enter Tryz.func25, Tryz.ntmps25
 go_wp2_with (first | ((with_reducible refine gate_dst (N := 1) rfl ?_); refine zx_ (N := 1) #[.string a0_0, .slice A0_1 l0_1.length c0_1] 26 ?_; intro gb101 hg w13 hbox hb; have BK101 := A_ hbox; have GW101 := A_ ((d0_ : w.heap.size ≤ gb101)); have GE101 := A_ ((d0_ : w.heap.size ≤ gb101)); replace HB := A_ (below_step (zB_ HB.out) hb); clear hb hbox hg; have hcz14_0 : w13.cell? ⟨gb101, 0, none⟩ = some (.string a0_0) := (blk_cell BK101.out 0).trans rfl; have hcz14_1 : w13.cell? ⟨gb101, 1, none⟩ = some (.slice A0_1 l0_1.length c0_1) := (blk_cell BK101.out 1).trans rfl; have hfz14_0 := blk_frozen BK101.out 0; have hfz14_1 := blk_frozen BK101.out 1) | ((with_reducible refine gate_callee (f := 67) rfl ?_); refine zc_ (some 5) Tryz.func67 #[.string a0_0] ?_; (with_reducible refine (impl_TextOk.calls a0_0 false _ A2.out).mono ?_); rintro e w15 ⟨rfl, hb⟩; refine ⟨_, rfl, ?_⟩; replace BK101 := A_ (blk_below (g := gb101) (o := .cells #[.string a0_0, .slice A0_1 l0_1.length c0_1] 26 (0, 0)) (zb_ BK101.out) hb); replace HB := A_ (below_step d1_ hb); (try clear hb); (try clear hi)))
 go_ret
 exact ⟨d4_, d1_⟩
end
end Go.Proofs.YtfjbjiklohjodaaGreatDoor.Q
namespace Go.Proofs.YtfjbjiklohjodaaGreatDoor.Q
open Go.RowKit Go.Proofs.YtfjbjiklohjodaaGreatDoorW.PrintWords Go.Proofs.YtfjbjiklohjodaaGreatDoorW.PrintLast Go.Proofs.YtfjbjiklohjodaaGreatDoorW.PrintMore
attribute [local go_sem] max2_int min2_int max_two min_two max_three min_three max_four min_four
set_option linter.unusedVariables false
set_option linter.unusedSimpArgs false
noncomputable section
def impl_within.f (a0 : Int) (a1 : Int) (a2 : Int) : Option (Bool) := if a0 ≥ a1 then (some (decide (a0 ≤ a2))) else (some false)
set_option maxHeartbeats 8000000 in
set_option maxRecDepth 100000 in
theorem impl_within.calls (a0 : Int) (a1 : Int) (a2 : Int) (r : Bool) (w : World) (h : impl_within.f a0 a1 a2 = some r) :
  Calls Tryz.prog 68 #[.int .i64 a0, .int .i64 a1, .int .i64 a2] w fun e w' => e = .returned (.bool r) ∧ Drawn0 w w' := by
 have H : (if a0 ≥ a1 then (some (decide (a0 ≤ a2))) else (some false)) = some r := h
 clear h
 by_cases c4 : a0 ≥ a1
 ·rw [if_pos c4] at H; have c4b0 : decide (a1 ≤ a0) = true := decide_eq_true c4; clear c4; obtain rfl := Option.some.inj H
  go_enter Tryz.func68, Tryz.ntmps68
  go_wp2
  go_ret
  exact ⟨d42_, d41_⟩
 rw [if_neg c4] at H
 have c4b0 : decide (a1 ≤ a0) = false := decide_eq_false c4
 clear c4
 obtain rfl := Option.some.inj H
 go_enter Tryz.func68, Tryz.ntmps68
 go_wp2
 go_ret
 exact ⟨d42_, d41_⟩
end
end Go.Proofs.YtfjbjiklohjodaaGreatDoor.Q
namespace Go.Proofs.YtfjbjiklohjodaaGreatDoor.Q
open Go.RowKit Go.Proofs.YtfjbjiklohjodaaGreatDoorW.PrintWords Go.Proofs.YtfjbjiklohjodaaGreatDoorW.PrintLast Go.Proofs.YtfjbjiklohjodaaGreatDoorW.PrintMore
attribute [local go_sem] max2_int min2_int max_two min_two max_three min_three max_four min_four
set_option linter.unusedVariables false
set_option linter.unusedSimpArgs false
noncomputable section
def impl_behind.j0 : Nat → ByteArray → Int → ByteArray → Bool → Option (ByteArray × Bool)
 | 0, _, _, _, _ => none
 | k + 1, x0, x1, x2, x18 => if x18 = true then (some (x0, false)) else (if (wrap64 (x1 + (x2.size : Int))) ≤ (x0.size : Int) then (some (x0, true)) else (if 0 ≤ (wrap64 ((x0.size : Int) - x1)) then (if (wrap64 ((x0.size : Int) - x1)) ≤ (x2.size : Int) then (if x0.size + (x2.extract ((wrap64 ((x0.size : Int) - x1)) : Int).toNat x2.size).size ≤ 9223372036854775807 then (some (x0 ++ (x2.extract ((wrap64 ((x0.size : Int) - x1)) : Int).toNat x2.size), true)) else (none)) else (none)) else (none)))
def impl_behind.f (k : Nat) (a0 : ByteArray) (a1 : Int) (a2 : ByteArray) : Option (ByteArray × Bool) := if a1 > (a0.size : Int) then (impl_behind.j0 k a0 a1 a2 true) else (impl_behind.j0 k a0 a1 a2 (decide ((wrap64 (a1 + (a2.size : Int))) > 40)))
set_option maxHeartbeats 8000000 in
set_option maxRecDepth 100000 in
theorem impl_behind.calls (k : Nat) (a0 : ByteArray) (a1 : Int) (a2 : ByteArray) (r1 : ByteArray) (r2 : Bool) (w : World) (h : impl_behind.f k a0 a1 a2 = some (r1, r2)) :
  Calls Tryz.prog 125 #[.string a0, .int .i64 a1, .string a2] w fun e w' => e = .returned (.tuple #[.string r1, .bool r2]) ∧ Drawn0 w w' := by
 have H : (if a1 > (a0.size : Int) then (impl_behind.j0 k a0 a1 a2 true) else (impl_behind.j0 k a0 a1 a2 (decide ((wrap64 (a1 + (a2.size : Int))) > 40)))) = some (r1, r2) := h
 clear h
 have HC4 := Aside0.mk H
 clear H
 go_enter Tryz.func125, Tryz.ntmps125
 go_upto_region 1 with (fail)
 go_cut [18] (fun v18 wc => ∃ (kq : Nat) (x18_3 : Bool), v18 = .bool x18_3 ∧ Aside0 (impl_behind.j0 kq a0 a1 a2 x18_3 = some (r1, r2)) ∧ Aside0 (kq ≤ k) ∧ Drawn0 w wc)
 case first =>
  have H := HC4.out; clear HC4
  by_cases c5 : a1 > (a0.size : Int)
  ·rw [if_pos c5] at H; have c5b0 : decide ((a0.size : Int) < a1) = true := decide_eq_true c5; clear c5; (first | rw [c5b0] | (simp only [i64_w, i32_w]; rw [c5b0]) | skip); have H' := Aside0.mk H; clear H
   go_wp2
   go_meet
   case rel => exact ⟨_, (true), zs_, H', ⟨d2_⟩, d41_⟩
  rw [if_neg c5] at H; have c5b0 : decide ((a0.size : Int) < a1) = false := decide_eq_false c5; clear c5; (first | rw [c5b0] | (simp only [i64_w, i32_w]; rw [c5b0]) | skip); have H' := Aside0.mk H; clear H
  go_wp2
  go_meet
  case rel => exact ⟨_, (decide ((wrap64 (a1 + (a2.size : Int))) > 40)), zs_, H', ⟨d2_⟩, d41_⟩
 case rest =>
  clear HC4
  try clear c1
  try clear p2
  try clear c5
  try clear c5b0
  obtain ⟨kq, x18_3, rfl, HA, HJ3, ⟨mc3, rfl⟩⟩ := hcut
  cases kq with
  | zero => exact absurd HA.out (by simp [impl_behind.j0])
  | succ kj3 =>
   have H := HA.out; clear HA; simp only [impl_behind.j0] at H
   by_cases c6 : x18_3 = true
   ·subst c6; rw [if_pos rfl] at H; simp only [Option.some.injEq, Prod.mk.injEq] at H; obtain ⟨rfl, rfl⟩ := H
    go_wp2
    go_ret2
    exact ⟨d42_, d41_⟩
   replace c6 := Bool.eq_false_iff.mpr c6; subst c6; rw [if_neg (show ¬ (false = true) by decide)] at H
   by_cases c7 : (wrap64 (a1 + (a2.size : Int))) ≤ (a0.size : Int)
   ·rw [if_pos c7] at H; have c7b0 : decide ((wrap64 (a1 + (a2.size : Int))) ≤ (a0.size : Int)) = true := decide_eq_true c7; clear c7; simp only [Option.some.injEq, Prod.mk.injEq] at H; obtain ⟨rfl, rfl⟩ := H
    go_wp2
    go_ret2
    exact ⟨d42_, d41_⟩
   rw [if_neg c7] at H; have c7b0 : decide ((wrap64 (a1 + (a2.size : Int))) ≤ (a0.size : Int)) = false := decide_eq_false c7; clear c7; obtain ⟨ji8, hji8⟩ : ∃ j_ : Int, (wrap64 ((a0.size : Int) - a1)) = j_ := ⟨_, rfl⟩
   replace H : (if 0 ≤ (ji8) then (if (ji8) ≤ (a2.size : Int) then (if a0.size + (a2.extract ((ji8) : Int).toNat a2.size).size ≤ 9223372036854775807 then (some (a0 ++ (a2.extract ((ji8) : Int).toNat a2.size), true)) else (none)) else (none)) else (none)) = some (r1, r2) := by first | (rw [hji8] at H; exact H) | (simp only [hji8] at H ⊢; exact H)
   have hji8w : (IntKind.i64.wrap ((a0.size : Int) - a1)) = ji8 := (i64_w _).trans hji8
   by_cases c9 : 0 ≤ (ji8)
   ·rw [if_pos c9] at H; have c9b0 := eq_true c9; have c9b1 : decide (0 ≤ (ji8)) = true := decide_eq_true c9; clear c9
    by_cases c10 : (ji8) ≤ (a2.size : Int)
    ·rw [if_pos c10] at H; have c10b0 := eq_true c10; have c10b1 : decide ((ji8) ≤ (a2.size : Int)) = true := decide_eq_true c10; clear c10
     by_cases c11 : a0.size + (a2.extract ((ji8) : Int).toNat a2.size).size ≤ 9223372036854775807
     ·rw [if_pos c11] at H; have c11b0 := eq_true c11; have c11b1 : decide (a0.size + (a2.extract ((ji8) : Int).toNat a2.size).size ≤ 9223372036854775807) = true := decide_eq_true c11
      try have c11b2 : (9223372036854775807 < a0.size + (a2.extract ((ji8) : Int).toNat a2.size).size) = False := eq_false (Nat.not_lt.2 c11)
      try have c11b4 : (9223372036854775807 < a0.size + (a2.size - ((ji8) : Int).toNat)) = False := eq_false (Nat.not_lt.2 (by have h_ := c11; simp only [ByteArray.size_extract, Nat.min_self] at h_; exact h_))
      simp only [Option.some.injEq, Prod.mk.injEq] at H; obtain ⟨rfl, rfl⟩ := H
      go_wp2
      go_ret2
      exact ⟨by first | rfl | (simp; done) | (simp only [← hji8] <;> (first | rfl | simp)) | (simp [*]; done), d41_⟩
     rw [if_neg c11] at H; exact absurd H (by simp)
    rw [if_neg c10] at H; exact absurd H (by simp)
   rw [if_neg c9] at H; exact absurd H (by simp)
end
end Go.Proofs.YtfjbjiklohjodaaGreatDoor.Q
namespace Go.Proofs.YtfjbjiklohjodaaGreatDoor.Q
open Go.RowKit Go.Proofs.YtfjbjiklohjodaaGreatDoorW.PrintWords Go.Proofs.YtfjbjiklohjodaaGreatDoorW.PrintLast Go.Proofs.YtfjbjiklohjodaaGreatDoorW.PrintMore Go.Proofs.YtfjbjiklohjodaaGreatDoor.Z
attribute [local go_sem] max2_int min2_int max_two min_two max_three min_three max_four min_four
set_option linter.unusedVariables false
set_option linter.unusedSimpArgs false
noncomputable section
mutual
def impl_Stream_put.l0 : Nat → List (S111) → Bool → ByteArray → List (S116) → Int → List (S109) → Int → Int → ByteArray → List (S109) → Option ((List (S111)) × ByteArray × (List (S109)) × Bool)
 | 0, _, _, _, _, _, _, _, _, _, _ => none
 | k + 1, x1, x4, x13, x15, x16, x42, x43, x44, x102000, x102001 => if x44 < x43 then (if 0 ≤ x44 then (if x44 < (x42.length : Int) then (impl_Stream_put.l0 k x1 x4 x13 x15 (wrap64 (x16 + ((rd_T109 x42 x44).f0))) x42 x43 (wrap64 (x44 + 1)) x102000 x102001) else (none)) else (none)) else (if 0 ≤ x16 then (if x16 ≤ (x13.size : Int) then ((impl_pairs_turned.f k x1 x15 (x13.extract (x16 : Int).toNat x13.size) x4).bind fun bt115 => ((slices_Clone_Part.f x102001).bind fun t121 => (impl_Stream_put.l1 k bt115.1 bt115.2 x15 (x15.length : Int) 0 x13 t121))) else (none)) else (none))
def impl_Stream_put.l1 : Nat → List (S111) → List ByteArray → List (S116) → Int → Int → ByteArray → List (S109) → Option ((List (S111)) × ByteArray × (List (S109)) × Bool)
 | 0, _, _, _, _, _, _, _ => none
 | k + 1, x19, x20, x68, x69, x70, x102000, x102001 => if x70 < x69 then (if 0 ≤ x70 then (if x70 < (x68.length : Int) then (if x70 < (x20.length : Int) then (if x102001.length < 5864062014805 then (impl_Stream_put.l1 k x19 x20 x68 x69 (wrap64 (x70 + 1)) x102000 (x102001 ++ [(⟨(rd_T116 x68 x70).f0, rdOf ByteArray.empty x20 x70⟩ : S109)])) else (none)) else (none)) else (none)) else (none)) else (some (x19, x102000, x102001, true))
end
def impl_Stream_put.f (k : Nat) (a0_0 : ByteArray) (l0_1 : List (S109)) (l1 : List (S111)) (a2 : Int) (a3 : ByteArray) (a4 : Bool) : Option ((List (S111)) × ByteArray × (List (S109)) × Bool) := (impl_behind.f k a0_0 a2 a3).bind fun bt103 => (if bt103.2 = true then ((impl_pieces.f k bt103.1).bind fun t105 => (if 0 ≤ (l0_1.length : Int) then (if (l0_1.length : Int) ≤ (t105.length : Int) then (impl_Stream_put.l0 k l1 a4 bt103.1 (t105.drop ((l0_1.length : Int) : Int).toNat) 0 l0_1 (l0_1.length : Int) 0 a0_0 l0_1) else (none)) else (none))) else (some (l1, a0_0, l0_1, false)))
def impl_Stream_put.T16 : Bool × List (List Nat × List Nat) := (true, [([], []), ([0], [0]), ([], []), ([2], [2]), ([], []), ([], []), ([4, 5], [4, 5]), ([6], [6]), ([3, 7], [3, 7]), ([8], [8]), ([1, 9], [1, 9]), ([0, 1, 2, 3, 4, 5, 6, 7, 8, 9, 10], []), ([11, 10, 10, 0, 1, 2, 3, 4, 5, 6, 7, 8, 9, 10], [10, 11])])
def impl_Stream_put.B16 : List Nat := [0, 1, 0, 4, 0, 0, 48, 112, 252, 508, 1023, 2047, 4095]
theorem impl_Stream_put.tab16 : rtab .any (opsOf Tryz.f69 16) = impl_Stream_put.T16 := by kernel_rfl
theorem impl_Stream_put.bits16 : waitsOk impl_Stream_put.T16.2 impl_Stream_put.B16 = true := by kernel_rfl
set_option maxHeartbeats 8000000 in
set_option maxRecDepth 100000 in
theorem impl_Stream_put.calls (k : Nat) (a0_0 : ByteArray) (P0_1_ : Nat → Prop) (A0_1 : Option Addr) (c0_1 : Nat) (l0_1 : List (S109)) (P1_ : Nat → Prop) (A1 : Option Addr) (c1 : Nat) (l1 : List (S111)) (a2 : Int) (a3 : ByteArray) (a4 : Bool) (r1 : List (S111)) (r2 : ByteArray) (r3 : List (S109)) (r4 : Bool) (w : World) (hs0_1 : Kd.V k109 109 w w.heap.size (fun k_ => P0_1_ k_) (.slice A0_1 l0_1.length c0_1) l0_1) (hs1 : Kd.V k111 111 w w.heap.size (fun k_ => P1_ k_) (.slice A1 l1.length c1) l1) (hV : VarsIn w) (h : impl_Stream_put.f k a0_0 l0_1 l1 a2 a3 a4 = some (r1, r2, r3, r4)) :
  Calls Tryz.prog 69 #[.agg #[.string a0_0, .slice A0_1 l0_1.length c0_1], .slice A1 l1.length c1, .int .i64 a2, .string a3, .bool a4] w fun e w' => ∃ v0_ v2_ : Value, e = .returned (.tuple #[v0_, .agg #[.string r2, v2_], .bool r4]) ∧ Kd.V k111 111 w' w.heap.size (fun k_ => ((P0_1_ k_ ∨ P1_ k_) ∨ w.heap.size ≤ k_)) v0_ r1 ∧ Kd.V k109 109 w' w.heap.size (fun k_ => ((P0_1_ k_ ∨ P1_ k_) ∨ w.heap.size ≤ k_)) v2_ r3 ∧ Below w.heap.size w w' := by
 have hu26 := Tryz.underlying26
 have hu109 := Tryz.underlying109
 have hu116 := Tryz.underlying116
 have HO0_1 := Aside0.mk (show Kd.V k109 109 w w.heap.size (fun k_ => ((P0_1_ k_ ∨ P1_ k_) ∨ w.heap.size ≤ k_)) (.slice A0_1 l0_1.length c0_1) l0_1 from Kd.V_mono hs0_1 (fun k_ hk => .inl (.inl hk)))
 have HO1 := Aside0.mk (show Kd.V k111 111 w w.heap.size (fun k_ => ((P0_1_ k_ ∨ P1_ k_) ∨ w.heap.size ≤ k_)) (.slice A1 l1.length c1) l1 from Kd.V_mono hs1 (fun k_ hk => .inl (.inr hk)))
 have HB := Aside0.mk (Below.refl w.heap.size w)
 have H : ((impl_behind.f k a0_0 a2 a3).bind fun bt103 => (if bt103.2 = true then ((impl_pieces.f k bt103.1).bind fun t105 => (if 0 ≤ (l0_1.length : Int) then (if (l0_1.length : Int) ≤ (t105.length : Int) then (impl_Stream_put.l0 k l1 a4 bt103.1 (t105.drop ((l0_1.length : Int) : Int).toNat) 0 l0_1 (l0_1.length : Int) 0 a0_0 l0_1) else (none)) else (none))) else (some (l1, a0_0, l0_1, false)))) = some (r1, r2, r3, r4) := h
 clear h
 obtain ⟨⟨t103, t104⟩, A6, H⟩ := zH_ H
 dsimp only at H
 by_cases c7 : t104 = true
 ·subst c7; rw [if_pos rfl] at H; obtain ⟨t105, A8, H⟩ := zH_ H
  by_cases c9 : 0 ≤ (l0_1.length : Int)
  ·rw [if_pos c9] at H; have c9b0 := eq_true c9; have c9b1 : decide (0 ≤ (l0_1.length : Int)) = true := decide_eq_true c9; clear c9
   by_cases c10 : (l0_1.length : Int) ≤ (t105.length : Int)
   ·rw [if_pos c10] at H; have c10b0 := eq_true c10; have c10b1 : decide ((l0_1.length : Int) ≤ (t105.length : Int)) = true := decide_eq_true c10; clear c10; obtain ⟨y108, hy108⟩ : ∃ y_ : List (S116), y_ = (t105.drop ((l0_1.length : Int) : Int).toNat) := ⟨_, rfl⟩
    replace H : (impl_Stream_put.l0 k l1 a4 t103 y108 0 l0_1 (l0_1.length : Int) 0 a0_0 l0_1) = some (r1, r2, r3, r4) := by first | (rw [hy108]; with_reducible exact H) | (have H2_ := (Option.bind_some _ _).symm.trans H; rw [hy108]; with_reducible exact H2_) | (have H2_ := (Option.bind_some _ _).symm.trans H; with_reducible exact H2_) | with_reducible exact H | (rw [hy108]; exact H) | exact H
    have Ny108 := Aside0.mk hy108; clear hy108; have H' := Aside0.mk H; clear H
    go_enter Tryz.func69, Tryz.ntmps69
    try go_wp2_with (first | ((with_reducible refine gate_dst (N := 5) rfl ?_); refine zx_ (N := 5) #[.string a0_0, .slice A0_1 l0_1.length c0_1] 26 ?_; intro gb101 hg w11 hbox hb; replace HO0_1 := A_ (Kd.V_below (Kd.V_elderB (zv_ HO0_1.out) gb101 (Nat.le_of_eq hg.symm)) hb); replace HO1 := A_ (Kd.V_below (Kd.V_elderB (zv_ HO1.out) gb101 (Nat.le_of_eq hg.symm)) hb); have BK101 := A_ hbox; have GW101 := A_ ((d0_ : w.heap.size ≤ gb101)); have GE101 := A_ ((d0_ : w.heap.size ≤ gb101)); replace HB := A_ (below_step (zB_ HB.out) hb); clear hb hbox hg) | ((with_reducible refine gate_dst (N := 11) rfl ?_); refine zx_ (N := 11) #[.string (⟨#[]⟩ : ByteArray), .slice none 0 0] 26 ?_; intro gb102 hg w12 hbox hb; replace HO0_1 := A_ (Kd.V_below (Kd.V_elderB (zv_ HO0_1.out) gb102 (Nat.le_of_eq hg.symm)) hb); replace HO1 := A_ (Kd.V_below (Kd.V_elderB (zv_ HO1.out) gb102 (Nat.le_of_eq hg.symm)) hb); have BK102 := A_ hbox; have GW102 := A_ ((d6_ : w.heap.size ≤ gb102)); have GE102 := A_ ((d6_ : w.heap.size ≤ gb102)); replace HB := A_ (below_step d1_ hb); have NB101_102 := A_ ((d109_ : gb101 ≠ gb102)); have NB102_101 := A_ ((d110_ : gb102 ≠ gb101)); replace BK101 := A_ (blk_below (g := gb101) (o := .cells #[.string a0_0, .slice A0_1 l0_1.length c0_1] 26 (0, 0)) (zb_ BK101.out) hb); clear hb hbox hg; have hnb13 := NB101_102.out; have hnc13 := NB102_101.out; have hcz14_0 : w12.cell? ⟨gb101, 0, none⟩ = some (.string a0_0) := (blk_cell BK101.out 0).trans rfl; have hcz14_1 : w12.cell? ⟨gb101, 1, none⟩ = some (.slice A0_1 l0_1.length c0_1) := (blk_cell BK101.out 1).trans rfl; have hfz14_0 := blk_frozen BK101.out 0; have hfz14_1 := blk_frozen BK101.out 1) | ((with_reducible refine gate_callee (f := 125) rfl ?_); refine zc_ (some 28) Tryz.func125 #[.string a0_0, .int .i64 a2, .string a3] ?_; (with_reducible refine (impl_behind.calls k a0_0 a2 a3 t103 true _ A6.out).mono ?_); rintro e w' ⟨rfl, ⟨nd, rfl⟩⟩; refine ⟨_, rfl, ?_⟩))
    (try (rw [drewN_self w12]; generalize hq_ : World.drewN w12 _ = w12; have n0_ : Aside0 (Kd.V k109 109 w12 w.heap.size (fun k_ => ((P0_1_ k_ ∨ P1_ k_) ∨ w.heap.size ≤ k_) ∧ k_ ≠ gb101 ∧ k_ ≠ gb102) (.slice A0_1 l0_1.length c0_1) l0_1) := ⟨d118_⟩; have n1_ : Aside0 (Kd.V k111 111 w12 w.heap.size (fun k_ => ((P0_1_ k_ ∨ P1_ k_) ∨ w.heap.size ≤ k_) ∧ k_ ≠ gb101 ∧ k_ ≠ gb102) (.slice A1 l1.length c1) l1) := ⟨d119_⟩; have n2_ : Aside0 (w12.heap[gb101]? = some (.cells #[.string a0_0, .slice A0_1 l0_1.length c0_1] 26 (0, 0))) := ⟨by rw [← hq_]; exact (zb_ BK101.out)⟩; have n3_ : Aside0 (w12.heap[gb102]? = some (.cells #[.string (⟨#[]⟩ : ByteArray), .slice none 0 0] 26 (0, 0))) := ⟨by rw [← hq_]; exact (zb_ BK102.out)⟩; have n4_ : Aside0 (Below w.heap.size w w12) := ⟨d120_⟩; clear HO0_1 HO1 BK101 BK102 HB hq_; have HO0_1 := n0_; have HO1 := n1_; have BK101 := n2_; have BK102 := n3_; have HB := n4_; clear n0_ n1_ n2_ n3_ n4_)); have n0_ := Aside0.mk (Kd.V_drew HO0_1.out); have n1_ := Aside0.mk (Kd.V_drew HO1.out); have n2_ := Aside0.mk (blk_drew BK101.out); have n3_ := Aside0.mk (blk_drew BK102.out); have n4_ := Aside0.mk (below_drew1 HB.out); clear HO0_1; clear HO1; clear BK101; clear BK102; clear HB; have HO0_1 := n0_; have HO1 := n1_; have BK101 := n2_; have BK102 := n3_; have HB := n4_; clear n0_ n1_ n2_ n3_ n4_; refine start_ (n := 7) (S := fun w' => w'.cell? ⟨gb101, 0, none⟩ = some (.string a0_0) ∧ w'.cell? ⟨gb101, 1, none⟩ = some (.slice A0_1 l0_1.length c0_1)) (ds := []) #[false, false, false, false, false, false, false] (by kernel_rfl) rfl rfl ⟨(blk_cell BK101.out 0).trans rfl, (blk_cell BK101.out 1).trans rfl⟩ (fun hHeld => ?_); generalize w12.drew = w15 at HO0_1 HO1 BK101 BK102 HB hHeld ⊢; refine pure_ (i := 0) (N := some 35) (v := ?_) (a' := ?_) #[true, false, false, false, false, false, false] rfl rfl (by kernel_rfl) (fun _ _ _ h => h) (Or.inl ⟨by rfl, ?_⟩) ?_ ?_; rotate_left
    ·intro w'
     go_simp
     with_reducible rfl
    rotate_left
    ·simp only [Act.put, List.setIfInBounds_toArray, List.set_cons_zero, List.set_cons_succ, i64_w, i32_w]; rfl
    refine pure_ (i := 2) (N := some 37) (v := ?_) (a' := ?_) #[true, false, true, false, false, false, false] rfl rfl (by kernel_rfl) (fun _ _ _ h => h) (Or.inl ⟨by rfl, ?_⟩) ?_ ?_; rotate_left
    ·intro w'
     go_simp
     with_reducible rfl
    rotate_left
    ·simp only [Act.put, List.setIfInBounds_toArray, List.set_cons_zero, List.set_cons_succ, i64_w, i32_w]; rfl
    refine take_ (i := 3) (N := some 38) (v := ?_) (a' := ?_) #[true, false, true, true, false, false, false] rfl rfl (by kernel_rfl) (fun _ _ _ h => h) (Or.inl ⟨by rfl, ?_⟩) hHeld ?_ ?_; rotate_left
    ·rintro w' ⟨s0, s1⟩
     go_simp
     with_reducible rfl
    rotate_left
    ·simp only [Act.put, List.setIfInBounds_toArray, List.set_cons_zero, List.set_cons_succ, i64_w, i32_w]; rfl
    refine pure_ (i := 4) (N := some 39) (v := ?_) (a' := ?_) #[true, false, true, true, true, false, false] rfl rfl (by kernel_rfl) (fun _ _ _ h => h) (Or.inl ⟨by rfl, ?_⟩) ?_ ?_; rotate_left
    ·intro w'
     go_simp
     with_reducible rfl
    rotate_left
    ·simp only [Act.put, List.setIfInBounds_toArray, List.set_cons_zero, List.set_cons_succ, i64_w, i32_w]; rfl
    refine one_ (i := 1) (N := some 36) #[true, true, true, true, true, false, false] rfl rfl (by kernel_rfl) (by decide) (fun K hK => ?_); refine goes_ Tryz.func78 (by kernel_rfl) rfl #[.string t103] (by rfl) rfl rfl za_ ?_
    with_reducible refine (impl_pieces.calls k t103 t105 _ ?side1 A8.out).mono ?_
    (case side1 => exact d121_); rintro e w16 ⟨v106, rfl, ho0, hb⟩; refine ⟨_, rfl, ?_⟩; have n0_ := Aside0.mk (Kd.V_below (zv_ HO0_1.out) hb); have n1_ := Aside0.mk (Kd.V_below (zv_ HO1.out) hb); have n2_ := Aside0.mk (Kd.V_lower (Kd.V_mono (ok' := fun k_ => ((P0_1_ k_ ∨ P1_ k_) ∨ w.heap.size ≤ k_) ∧ k_ ≠ gb101 ∧ k_ ≠ gb102) ho0 (fun k_ hk_ => ⟨(.inr (Nat.le_trans (below_size d77_) hk_)), (Kd.freshB (g := gb101) (o := .cells #[.string a0_0, .slice A0_1 l0_1.length c0_1] 26 (0, 0)) (zb_ BK101.out) k_ hk_), (Kd.freshB (g := gb102) (o := .cells #[.string (⟨#[]⟩ : ByteArray), .slice none 0 0] 26 (0, 0)) (zb_ BK102.out) k_ hk_)⟩)) (below_size d77_)); have n3_ := Aside0.mk (blk_below (g := gb101) (o := .cells #[.string a0_0, .slice A0_1 l0_1.length c0_1] 26 (0, 0)) (zb_ BK101.out) hb); have n4_ := Aside0.mk (blk_below (g := gb102) (o := .cells #[.string (⟨#[]⟩ : ByteArray), .slice none 0 0] 26 (0, 0)) (zb_ BK102.out) hb); have n5_ := Aside0.mk (below_step d77_ hb); clear HO0_1; clear HO1; clear BK101; clear BK102; clear HB; have HO0_1 := n0_; have HO1 := n1_; have HO107 := n2_; have BK101 := n3_; have BK102 := n4_; have HB := n5_; clear n0_ n1_ n2_ n3_ n4_ n5_; (try clear hb); (try clear hb2); (try clear hk); (try clear hi); (try clear ho0); obtain ⟨Ao18, co18, eo18⟩ := Kd.V_slice HO107.out; (first | subst eo18 | (injection eo18 with f1_ f2_ f3_; have f4_ := f1_.symm; have f5_ := f3_.symm; clear f1_ f2_ f3_; subst f4_; subst f5_)); have q17 : ((l0_1.length : Int) : Int) ≤ ((t105.length : Int) : Int) := of_decide_eq_true d11_; obtain ⟨i017, hi017, _, hsz17, _⟩ := info_parts info116; have hroom17 : t105.length ≤ co18 := (Kd.V_reads' HO107.out).2.1; have hC17 : Kd.F k116 _ _ Ao18 t105.length t105 := (Kd.V_at (base := w.heap.size) HO107.out).2.2; have q017 : (0 : Int) ≤ ((l0_1.length : Int) : Int) := of_decide_eq_true d11_; have hcut17 := cut_from (P := Tryz.prog) 113 116 .i64 Tryz.underlying113 hi017 4 hsz17 Ao18 t105.length co18 (l0_1.length : Int) q017 q17; have hr17 := Kd.F_cut (m := ((l0_1.length : Int) : Int).toNat) (c := co18) hC17 (by omega) hroom17; obtain ⟨A17, hA17⟩ : ∃ A1, A1 = (if co18 = ((l0_1.length : Int) : Int).toNat then Ao18 else (Ao18 : Option Addr).map (·.add (((l0_1.length : Int) : Int).toNat * 4))) := ⟨_, rfl⟩; obtain ⟨c17, hc17⟩ : ∃ c1, c1 = co18 - ((l0_1.length : Int) : Int).toNat := ⟨_, rfl⟩; have hy17 : y108.length = t105.length - ((l0_1.length : Int) : Int).toNat := (by rw [Ny108.out, List.length_drop] <;> omega); rw [show (t105).drop ((l0_1.length : Int) : Int).toNat = y108 from Ny108.out.symm] at hr17; replace hr17 : Kd.F k116 _ _ A17 y108.length y108 := (by rw [hA17]; exact hr17); rw [← hy17, ← hA17, ← hc17] at hcut17; have HO112 := Aside0.mk (show Kd.V k116 116 _ w.heap.size _ (.slice A17 y108.length c17) y108 from Kd.V_mk (by rw [hy17, hc17]; exact Nat.sub_le_sub_right hroom17 _) hr17); have HC112 := Aside0.mk (show y108.length ≤ c17 from by rw [hy17, hc17]; exact Nat.sub_le_sub_right hroom17 _); clear hr17 hC17 hroom17 hi017 hsz17 hc17; have KY17 := Aside0.mk hy17; have KA17 := Aside0.mk hA17; clear hy17 hA17
    replace q17 := eq_true q17; refine hK.out _ _ ⟨(blk_cell BK101.out 0).trans rfl, (blk_cell BK101.out 1).trans rfl⟩ (fun hHeld => ?_); clear hK K; refine norm_ (a' := ?_) ?_ ?_; rotate_left
    ·show Act.put _ (some 36) _ = _
     simp only [Act.put, List.setIfInBounds_toArray, List.set_cons_zero, List.set_cons_succ, i64_w, i32_w]; rfl
    refine pure_ (i := 5) (N := some 40) (v := ?_) (a' := ?_) #[true, true, true, true, true, true, false] rfl rfl (by kernel_rfl) (fun _ _ _ h => h) (Or.inl ⟨by rfl, ?_⟩) ?_ ?_; rotate_left
    ·intro w'
     go_simp
     with_reducible rfl
    rotate_left
    ·simp only [Act.put, List.setIfInBounds_toArray, List.set_cons_zero, List.set_cons_succ, i64_w, i32_w]; rfl
    refine pure_ (i := 6) (N := some 15) (v := ?_) (a' := ?_) #[true, true, true, true, true, true, true] rfl rfl (by kernel_rfl) (fun _ _ _ h => h) (Or.inl ⟨by rfl, ?_⟩) ?_ ?_; rotate_left
    ·intro w'
     go_simp
     with_reducible rfl
    rotate_left
    ·simp only [Act.put, List.setIfInBounds_toArray, List.set_cons_zero, List.set_cons_succ, i64_w, i32_w]; rfl
    refine done_ (by kernel_rfl) ?_; have hcz19_0 : w16.cell? ⟨gb101, 0, none⟩ = some (.string a0_0) := (blk_cell BK101.out 0).trans rfl; have hcz19_1 : w16.cell? ⟨gb101, 1, none⟩ = some (.slice A0_1 l0_1.length c0_1) := (blk_cell BK101.out 1).trans rfl; have hfz19_0 := blk_frozen BK101.out 0; have hfz19_1 := blk_frozen BK101.out 1
    try go_wp2
    go_loopg [16, 44] k (fun kq v16 v44 w' => ∃ (x16_1 : Int) (x44_1 : Int), v16 = .int .i64 x16_1 ∧ v44 = .int .i64 x44_1 ∧ Aside0 (impl_Stream_put.l0 kq l1 a4 t103 y108 x16_1 l0_1 (l0_1.length : Int) x44_1 a0_0 l0_1 = some (r1, r2, r3, r4)) ∧ Aside0 (kq ≤ k) ∧ Aside0 (Kd.V k111 111 w' w.heap.size (fun k_ => ((P0_1_ k_ ∨ P1_ k_) ∨ w.heap.size ≤ k_) ∧ k_ ≠ gb101 ∧ k_ ≠ gb102) (.slice A1 l1.length c1) l1) ∧ Aside0 (Kd.V k116 116 w' w.heap.size (fun k_ => ((P0_1_ k_ ∨ P1_ k_) ∨ w.heap.size ≤ k_) ∧ k_ ≠ gb101 ∧ k_ ≠ gb102) (.slice A17 y108.length c17) y108) ∧ Aside0 (Kd.V k109 109 w' w.heap.size (fun k_ => ((P0_1_ k_ ∨ P1_ k_) ∨ w.heap.size ≤ k_) ∧ k_ ≠ gb101 ∧ k_ ≠ gb102) (.slice A0_1 l0_1.length c0_1) l0_1) ∧ Aside0 (Kd.V k109 109 w' w.heap.size (fun k_ => ((P0_1_ k_ ∨ P1_ k_) ∨ w.heap.size ≤ k_) ∧ k_ ≠ gb101 ∧ k_ ≠ gb102) (.slice A0_1 l0_1.length c0_1) l0_1) ∧ Aside0 (w'.heap[gb101]? = some (.cells #[.string a0_0, (.slice A0_1 l0_1.length c0_1)] 26 (0, 0))) ∧ Aside0 (w'.heap[gb102]? = some (.cells #[.string (⟨#[]⟩ : ByteArray), (.slice none 0 0)] 26 (0, 0))) ∧ Aside0 (Below w.heap.size w w'))
    case atStart => exact ⟨(0), (0), zs_, zs_, H', ⟨Nat.le_refl _⟩, ⟨by (with_reducible repeat (first | apply Kd.V_alloc | apply Kd.V_drewN | apply Kd.V_drew)); exact Kd.V_mono HO1.out (fun _ hk => by first | exact ⟨hk.1.1, ⟨hk.1.2, hk.2⟩⟩ | exact hk | exact ⟨hk.1, hk.2.2, hk.2.1⟩)⟩, ⟨by (with_reducible repeat (first | apply Kd.V_alloc | apply Kd.V_drewN | apply Kd.V_drew)); exact HO112.out⟩, ⟨d122_⟩, ⟨d122_⟩, ⟨d3_⟩, ⟨d56_⟩, ⟨d77_⟩⟩
    case round =>
     clear H'; (try clear c1); (try clear q1); (try clear p2); (try clear c6); (try clear c7); (try clear c9); (try clear c9b0); (try clear c9b1); (try clear c10); (try clear c10b0); (try clear c10b1); (try clear c12); (try clear c13); (try clear c17); (try clear q17); (try clear hcz14_0); (try clear hcz14_1); (try clear hcz19_0); (try clear hcz19_1); (try clear hfz14_0); (try clear hfz14_1); (try clear hfz19_0); (try clear hfz19_1); (try clear q017); (try clear q17); (try clear HO_1); (try clear HO_15); (try clear HO_42); (try clear HO_102001); obtain ⟨x16_1, x44_1, rfl, rfl, HA, HK1, HO_1, HO_15, HO_42, HO_102001, BK101, BK102, HB⟩ := hrel
     cases gk with
     | zero => exact absurd HA.out (by simp [impl_Stream_put.l0])
     | succ k1 =>
      have H := HA.out; clear HA; simp only [impl_Stream_put.l0] at H
      by_cases c20 : x44_1 < (l0_1.length : Int)
      ·rw [if_pos c20] at H; have c20b0 : decide (x44_1 < (l0_1.length : Int)) = true := decide_eq_true c20; clear c20
       by_cases c21 : 0 ≤ x44_1
       ·rw [if_pos c21] at H; have c21b0 : decide (0 ≤ x44_1) = true := decide_eq_true c21; clear c21
        by_cases c22 : x44_1 < (l0_1.length : Int)
        ·rw [if_pos c22] at H; have c22b0 : decide (x44_1 < (l0_1.length : Int)) = true := decide_eq_true c22; clear c22; have H' := Aside0.mk H; clear H; have p113 : 0 ≤ (x44_1 : Int) := of_decide_eq_true d11_; have q113 : x44_1 < (l0_1.length : Int) := of_decide_eq_true d11_; obtain ⟨ad113, e113, hx113_0, hx113_1⟩ := at_T109 (Kd.V_reads' HO_42.out).2.2 x44_1 p113 q113
         cases e113
         replace p113 := eq_true p113; replace q113 := eq_true q113
         go_wp2_with (first | ((with_reducible refine gate_dst (N := 18) rfl ?_); refine zx_ (N := 18) #[.int .i64 0, .string (⟨#[]⟩ : ByteArray)] 109 ?_; intro gb114 hg w23 hbox hb; replace HO_1 := A_ (Kd.V_below (Kd.V_elderB (zv_ HO_1.out) gb114 (Nat.le_of_eq hg.symm)) hb); replace HO_15 := A_ (Kd.V_below (Kd.V_elderB (zv_ HO_15.out) gb114 (Nat.le_of_eq hg.symm)) hb); replace HO_42 := A_ (Kd.V_below (Kd.V_elderB (zv_ HO_42.out) gb114 (Nat.le_of_eq hg.symm)) hb); replace HO_102001 := A_ (Kd.V_below (Kd.V_elderB (zv_ HO_102001.out) gb114 (Nat.le_of_eq hg.symm)) hb); have BK114 := A_ hbox; have GW114 := A_ ((d87_ : w.heap.size ≤ gb114)); have GE114 := A_ ((d87_ : w.heap.size ≤ gb114)); replace HB := A_ (below_step d77_ hb); have NB101_114 := A_ ((by rw [hg]; exact Nat.ne_of_lt (blk_lt (g := gb101) (o := .cells #[.string a0_0, .slice (some ad113) l0_1.length c0_1] 26 (0, 0)) (zb_ BK101.out)) : gb101 ≠ gb114)); have NB114_101 := A_ ((by rw [hg]; exact Nat.ne_of_gt (blk_lt (g := gb101) (o := .cells #[.string a0_0, .slice (some ad113) l0_1.length c0_1] 26 (0, 0)) (zb_ BK101.out)) : gb114 ≠ gb101)); replace BK101 := A_ (blk_below (g := gb101) (o := .cells #[.string a0_0, .slice (some ad113) l0_1.length c0_1] 26 (0, 0)) (zb_ BK101.out) hb); have NB102_114 := A_ ((d88_ : gb102 ≠ gb114)); have NB114_102 := A_ ((d89_ : gb114 ≠ gb102)); replace BK102 := A_ (blk_below (g := gb102) (o := .cells #[.string (⟨#[]⟩ : ByteArray), .slice none 0 0] 26 (0, 0)) (zb_ BK102.out) hb); clear hb hbox hg; have hnb24 := NB114_101.out; have hnc24 := NB101_114.out; have hnb25 := NB114_102.out; have hnc25 := NB102_114.out; have hcz26_0 : w23.cell? ⟨gb114, 0, none⟩ = some (.int .i64 0) := (blk_cell BK114.out 0).trans rfl; have hcz26_1 : w23.cell? ⟨gb114, 1, none⟩ = some (.string (⟨#[]⟩ : ByteArray)) := (blk_cell BK114.out 1).trans rfl; have hfz26_0 := blk_frozen BK114.out 0; have hfz26_1 := blk_frozen BK114.out 1))
         go_roundg k1
         case measure => have := HK1.out; omega
         case rel => exact ⟨(wrap64 (x16_1 + ((rd_T109 l0_1 x44_1).f0))), (wrap64 (x44_1 + 1)), zs_, zs_, H', ⟨d23_⟩, ⟨by (with_reducible repeat (first | apply Kd.V_alloc | apply Kd.V_drewN | apply Kd.V_drew)); exact Kd.V_mono (Kd.V_far (p := ⟨gb114, 1, none⟩) (Kd.V_far (p := ⟨gb114, 0, none⟩) (Kd.V_mono HO_1.out (fun k_ hk => (⟨hk, hk.2⟩ : _ ∧ k_ ≠ gb114))) (fun _ hk => hk.2) (.int .i64 ((rd_T109 l0_1 x44_1).f0))) (fun _ hk => hk.2) (.string ((rd_T109 l0_1 x44_1).f1))) (fun _ hk => ⟨hk.1.1.1, ⟨hk.1.1.2.1, hk.1.1.2.2⟩⟩)⟩, ⟨by (with_reducible repeat (first | apply Kd.V_alloc | apply Kd.V_drewN | apply Kd.V_drew)); exact Kd.V_mono (Kd.V_far (p := ⟨gb114, 1, none⟩) (Kd.V_far (p := ⟨gb114, 0, none⟩) (Kd.V_mono HO_15.out (fun k_ hk => (⟨hk, hk.2⟩ : _ ∧ k_ ≠ gb114))) (fun _ hk => hk.2) (.int .i64 ((rd_T109 l0_1 x44_1).f0))) (fun _ hk => hk.2) (.string ((rd_T109 l0_1 x44_1).f1))) (fun _ hk => ⟨hk.1.1.1, ⟨hk.1.1.2.1, hk.1.1.2.2⟩⟩)⟩, ⟨by (with_reducible repeat (first | apply Kd.V_alloc | apply Kd.V_drewN | apply Kd.V_drew)); exact Kd.V_mono (Kd.V_far (p := ⟨gb114, 1, none⟩) (Kd.V_far (p := ⟨gb114, 0, none⟩) (Kd.V_mono HO_42.out (fun k_ hk => (⟨hk, hk.2⟩ : _ ∧ k_ ≠ gb114))) (fun _ hk => hk.2) (.int .i64 ((rd_T109 l0_1 x44_1).f0))) (fun _ hk => hk.2) (.string ((rd_T109 l0_1 x44_1).f1))) (fun _ hk => ⟨hk.1.1.1, ⟨hk.1.1.2.1, hk.1.1.2.2⟩⟩)⟩, ⟨by (with_reducible repeat (first | apply Kd.V_alloc | apply Kd.V_drewN | apply Kd.V_drew)); exact Kd.V_mono (Kd.V_far (p := ⟨gb114, 1, none⟩) (Kd.V_far (p := ⟨gb114, 0, none⟩) (Kd.V_mono HO_102001.out (fun k_ hk => (⟨hk, hk.2⟩ : _ ∧ k_ ≠ gb114))) (fun _ hk => hk.2) (.int .i64 ((rd_T109 l0_1 x44_1).f0))) (fun _ hk => hk.2) (.string ((rd_T109 l0_1 x44_1).f1))) (fun _ hk => ⟨hk.1.1.1, ⟨hk.1.1.2.1, hk.1.1.2.2⟩⟩)⟩, ⟨by (with_reducible repeat (first | refine blk_drewN ?_ _ | refine blk_drew ?_ | refine blk_alloc ?_ _)); refine blk_far ?_ NB101_114.out _; (with_reducible repeat (first | refine blk_drewN ?_ _ | refine blk_drew ?_ | refine blk_alloc ?_ _)); refine blk_far ?_ NB101_114.out _; (with_reducible repeat (first | refine blk_drewN ?_ _ | refine blk_drew ?_ | refine blk_alloc ?_ _)); exact BK101.out⟩, ⟨by (with_reducible repeat (first | refine blk_drewN ?_ _ | refine blk_drew ?_ | refine blk_alloc ?_ _)); refine blk_far ?_ NB102_114.out _; (with_reducible repeat (first | refine blk_drewN ?_ _ | refine blk_drew ?_ | refine blk_alloc ?_ _)); refine blk_far ?_ NB102_114.out _; (with_reducible repeat (first | refine blk_drewN ?_ _ | refine blk_drew ?_ | refine blk_alloc ?_ _)); exact BK102.out⟩, ⟨by repeat (first | (with_reducible first | exact HB.out | apply below_alloc | apply pw_below_drewN | apply below_drew1 | refine below_set ?_ GE101.out | refine below_set ?_ GE102.out | refine below_set ?_ GE114.out) | exact HB.out)⟩⟩
        rw [if_neg c22] at H; exact absurd H (by simp)
       rw [if_neg c21] at H; exact absurd H (by simp)
      rw [if_neg c20] at H; have c20b0 : decide (x44_1 < (l0_1.length : Int)) = false := decide_eq_false c20; clear c20
      by_cases c27 : 0 ≤ x16_1
      ·rw [if_pos c27] at H; have c27b0 := eq_true c27; have c27b1 : decide (0 ≤ x16_1) = true := decide_eq_true c27; clear c27
       by_cases c28 : x16_1 ≤ (t103.size : Int)
       ·rw [if_pos c28] at H; have c28b0 := eq_true c28; have c28b1 : decide (x16_1 ≤ (t103.size : Int)) = true := decide_eq_true c28; clear c28; obtain ⟨⟨t115, t118⟩, A29, H⟩ := zH_ H; dsimp only at H; obtain ⟨t121, A30, H⟩ := zH_ H; have H' := Aside0.mk H; clear H
        go_wp2_with (first | ((with_reducible refine gate_callee (f := 82) rfl ?_); refine zc_ (some 60) Tryz.func82 #[.slice A1 l1.length c1, .slice A17 y108.length c17, .string (t103.extract (x16_1 : Int).toNat t103.size), .bool a4] ?_; (with_reducible refine (impl_pairs_turned.calls k1 (fun k_ => (((P0_1_ k_ ∨ P1_ k_) ∨ w.heap.size ≤ k_) ∧ (k_ ≠ gb101 ∧ k_ ≠ gb102))) _ _ l1 _ _ y108 (t103.extract (x16_1 : Int).toNat t103.size) a4 t115 t118 _ ?side1 ?side2 ?side3 A29.out).mono ?_); (case side1 => exact HO_1.out); (case side2 => repeat (first | exact (Kd.V_reads' HO_15.out).2.2 | (with_reducible refine Kd.C_alloc ?_ _) | (with_reducible refine Kd.C_drewN ?_ _) | (with_reducible refine Kd.C_drew ?_))); (case side3 => exact (Kd.V_reads' HO_15.out).2.1); rintro e w31 ⟨v116, v119, rfl, ho0, ho1, hb⟩; refine ⟨_, rfl, ?_⟩; replace HO_1 := A_ (Kd.V_elder' (zv_ HO_1.out) (Kd.R_base ho1) hb); replace HO_15 := A_ (Kd.V_elder' (zv_ HO_15.out) (Kd.R_base ho1) hb); replace HO_42 := A_ (Kd.V_elder' (zv_ HO_42.out) (Kd.R_base ho1) hb); replace HO_102001 := A_ (Kd.V_elder' (zv_ HO_102001.out) (Kd.R_base ho1) hb); have HO117 := A_ (Kd.V_lower (Kd.V_mono (ok' := fun k_ => ((P0_1_ k_ ∨ P1_ k_) ∨ w.heap.size ≤ k_) ∧ some k_ ≠ (v119 : Value).ownBlock ∧ k_ ≠ gb101 ∧ k_ ≠ gb102) ho0 (fun k_ hk_ => ⟨Or.elim hk_.1 (fun hs_ => hs_.1) (fun hn_ => (.inr (Nat.le_trans (below_size d77_) hn_))), hk_.2, Or.elim hk_.1 (fun hs_ => hs_.2.1) (fun hn_ => (Kd.freshB (g := gb101) (o := .cells #[.string a0_0, .slice A0_1 l0_1.length c0_1] 26 (0, 0)) (zb_ BK101.out) k_ hn_)), Or.elim hk_.1 (fun hs_ => hs_.2.2) (fun hn_ => (Kd.freshB (g := gb102) (o := .cells #[.string (⟨#[]⟩ : ByteArray), .slice none 0 0] 26 (0, 0)) (zb_ BK102.out) k_ hn_))⟩)) (below_size d77_)); have HO120 := A_ (Kd.R_lower (Kd.R_newM (M := fun k_ => (w.heap.size ≤ k_)) (Kd.R_mono (ok' := fun k_ => True) ho1 (fun _ hk_ => trivial)) (below_size d77_) (fun k_ h_ => h_)) (below_size d77_)); replace BK101 := A_ (blk_below (g := gb101) (o := .cells #[.string a0_0, .slice A0_1 l0_1.length c0_1] 26 (0, 0)) (zb_ BK101.out) hb); replace BK102 := A_ (blk_below (g := gb102) (o := .cells #[.string (⟨#[]⟩ : ByteArray), .slice none 0 0] 26 (0, 0)) (zb_ BK102.out) hb); replace HB := A_ (below_step d77_ hb); (try clear hb); (try clear ho0); (try clear ho1); have hnb32 := NB101_102.out; have hnc32 := NB102_101.out; have hcz33_0 : w31.cell? ⟨gb101, 0, none⟩ = some (.string a0_0) := (blk_cell BK101.out 0).trans rfl; have hcz33_1 : w31.cell? ⟨gb101, 1, none⟩ = some (.slice A0_1 l0_1.length c0_1) := (blk_cell BK101.out 1).trans rfl; have hfz33_0 := blk_frozen BK101.out 0; have hfz33_1 := blk_frozen BK101.out 1) | ((with_reducible refine gate_callee (f := 126) rfl ?_); refine zc_ (some 66) Tryz.func126 #[.slice A0_1 l0_1.length c0_1] ?_; (with_reducible refine (slices_Clone_Part.calls _ _ l0_1 t121 _ ?side1 ?side2 A30.out).mono ?_); (case side1 => repeat (first | exact (Kd.V_reads' HO_102001.out).2.2 | (with_reducible refine Kd.C_alloc ?_ _) | (with_reducible refine Kd.C_drewN ?_ _) | (with_reducible refine Kd.C_drew ?_))); (case side2 => exact (Kd.V_reads' HO_102001.out).2.1); rintro e w34 ⟨v122, rfl, ho0, hb⟩; refine ⟨_, rfl, ?_⟩; replace HO_1 := A_ (Kd.V_elder' (zv_ HO_1.out) (Kd.R_base ho0) hb); replace HO_15 := A_ (Kd.V_elder' (zv_ HO_15.out) (Kd.R_base ho0) hb); replace HO_42 := A_ (Kd.V_elder' (zv_ HO_42.out) (Kd.R_base ho0) hb); replace HO_102001 := A_ (Kd.V_elder' (zv_ HO_102001.out) (Kd.R_base ho0) hb); replace HO117 := A_ (Kd.V_elder' (zv_ HO117.out) (Kd.R_base ho0) hb); replace HO120 := A_ (Kd.R_below (zR_ HO120.out) hb); have HO123 := A_ (Kd.R_lower (Kd.R_newM (M := fun k_ => (w.heap.size ≤ k_)) ho0 (below_size d77_) (fun k_ h_ => h_)) (below_size d77_)); replace BK101 := A_ (blk_below (g := gb101) (o := .cells #[.string a0_0, .slice A0_1 l0_1.length c0_1] 26 (0, 0)) (zb_ BK101.out) hb); replace BK102 := A_ (blk_below (g := gb102) (o := .cells #[.string (⟨#[]⟩ : ByteArray), .slice none 0 0] 26 (0, 0)) (zb_ BK102.out) hb); replace HB := A_ (below_step d77_ hb); (try clear hb); (try clear ho0); obtain ⟨Ao35, co35, eo35⟩ := Kd.R_slice HO123.out; subst eo35; have hcz36_0 : w34.cell? ⟨gb101, 0, none⟩ = some (.string a0_0) := (blk_cell BK101.out 0).trans rfl; have hcz36_1 : w34.cell? ⟨gb101, 1, none⟩ = some (.slice A0_1 l0_1.length c0_1) := (blk_cell BK101.out 1).trans rfl; have hfz36_0 := blk_frozen BK101.out 0; have hfz36_1 := blk_frozen BK101.out 1))
        go_loopg [70] k1 (fun kq v70 w' => ∃ (x70_2 : Int) (x102001_2 : List (S109)) (u102001 : Value), v70 = .int .i64 x70_2 ∧ Aside0 (impl_Stream_put.l1 kq t115 t118 y108 (y108.length : Int) x70_2 t103 x102001_2 = some (r1, r2, r3, r4)) ∧ Aside0 (kq ≤ k1) ∧ Aside0 (Kd.V k111 111 w' w.heap.size (fun k_ => ((P0_1_ k_ ∨ P1_ k_) ∨ w.heap.size ≤ k_) ∧ some k_ ≠ (v119 : Value).ownBlock ∧ some k_ ≠ (u102001 : Value).ownBlock ∧ k_ ≠ gb101 ∧ k_ ≠ gb102) v116 t115) ∧ Aside0 (Kd.R Kd.string 9 w' w.heap.size (fun k_ => (w.heap.size ≤ k_)) v119 t118) ∧ Aside0 (Kd.V k116 116 w' w.heap.size (fun k_ => ((P0_1_ k_ ∨ P1_ k_) ∨ w.heap.size ≤ k_) ∧ some k_ ≠ (v119 : Value).ownBlock ∧ some k_ ≠ (u102001 : Value).ownBlock ∧ k_ ≠ gb101 ∧ k_ ≠ gb102) (.slice A17 y108.length c17) y108) ∧ Aside0 (Kd.R k109 109 w' w.heap.size (fun k_ => (w.heap.size ≤ k_)) u102001 x102001_2) ∧ Aside0 (w'.heap[gb101]? = some (.cells #[.string t103, u102001] 26 (0, 0))) ∧ Aside0 (w'.heap[gb102]? = some (.cells #[.string (⟨#[]⟩ : ByteArray), (.slice none 0 0)] 26 (0, 0))) ∧ Aside0 (Below w.heap.size w w'))
        case atStart => exact ⟨(0), (t121), (.slice Ao35 t121.length co35), zs_, H', ⟨Nat.le_refl _⟩, ⟨by (with_reducible repeat (first | apply Kd.V_alloc | apply Kd.V_drewN | apply Kd.V_drew)); exact Kd.V_mono (Kd.V_far (p := ⟨gb101, 1, none⟩) (Kd.V_far (p := ⟨gb101, 0, none⟩) (Kd.V_mono HO117.out (fun k_ hk => (⟨hk, hk.1.2.2.1⟩ : _ ∧ k_ ≠ gb101))) (fun _ hk => hk.2) (.string t103)) (fun _ hk => hk.2) (.slice Ao35 t121.length co35)) (fun _ hk => ⟨hk.1.1.1, ⟨hk.1.1.2.1, ⟨hk.1.2, ⟨hk.1.1.2.2.1, hk.1.1.2.2.2⟩⟩⟩⟩)⟩, ⟨by (with_reducible repeat (first | apply Kd.R_alloc | apply Kd.R_drewN | apply Kd.R_drew)); exact Kd.R_mono (Kd.R_far (p := ⟨gb101, 1, none⟩) (Kd.R_far (p := ⟨gb101, 0, none⟩) (Kd.R_types HO120.out BK101.out (by decide)) (fun _ hk => hk.2) (.string t103)) (fun _ hk => hk.2) (.slice Ao35 t121.length co35)) (fun _ hk => hk.1.1)⟩, ⟨by (with_reducible repeat (first | apply Kd.V_alloc | apply Kd.V_drewN | apply Kd.V_drew)); exact Kd.V_mono (Kd.V_far (p := ⟨gb101, 1, none⟩) (Kd.V_far (p := ⟨gb101, 0, none⟩) (Kd.V_mono HO_15.out (fun k_ hk => (⟨hk, hk.1.1.2.1⟩ : _ ∧ k_ ≠ gb101))) (fun _ hk => hk.2) (.string t103)) (fun _ hk => hk.2) (.slice Ao35 t121.length co35)) (fun _ hk => ⟨hk.1.1.1.1, ⟨hk.1.1.2, ⟨hk.1.2, ⟨hk.1.1.1.2.1, hk.1.1.1.2.2⟩⟩⟩⟩)⟩, ⟨by (with_reducible repeat (first | apply Kd.R_alloc | apply Kd.R_drewN | apply Kd.R_drew)); exact Kd.R_mono (Kd.R_far (p := ⟨gb101, 1, none⟩) (Kd.R_far (p := ⟨gb101, 0, none⟩) (Kd.R_types HO123.out BK101.out (by decide)) (fun _ hk => hk.2) (.string t103)) (fun _ hk => hk.2) (.slice Ao35 t121.length co35)) (fun _ hk => hk.1.1)⟩, ⟨by (with_reducible repeat (first | refine blk_drewN ?_ _ | refine blk_drew ?_ | refine blk_alloc ?_ _)); refine blk_put (cs := #[.string t103, .slice A0_1 l0_1.length c0_1]) ?_ 1 _ rfl; (with_reducible repeat (first | refine blk_drewN ?_ _ | refine blk_drew ?_ | refine blk_alloc ?_ _)); refine blk_put (cs := #[.string a0_0, .slice A0_1 l0_1.length c0_1]) ?_ 0 _ rfl; (with_reducible repeat (first | refine blk_drewN ?_ _ | refine blk_drew ?_ | refine blk_alloc ?_ _)); exact BK101.out⟩, ⟨by (with_reducible repeat (first | refine blk_drewN ?_ _ | refine blk_drew ?_ | refine blk_alloc ?_ _)); refine blk_far ?_ NB102_101.out _; (with_reducible repeat (first | refine blk_drewN ?_ _ | refine blk_drew ?_ | refine blk_alloc ?_ _)); refine blk_far ?_ NB102_101.out _; (with_reducible repeat (first | refine blk_drewN ?_ _ | refine blk_drew ?_ | refine blk_alloc ?_ _)); exact BK102.out⟩, ⟨d77_⟩⟩
        case round =>
         clear H'; (try clear c1); (try clear p1); (try clear q1); (try clear hx1); (try clear c2); (try clear p2); (try clear c3); (try clear c6); (try clear p6); (try clear c7); (try clear c8); (try clear c9); (try clear c9b0); (try clear c9b1); (try clear c10); (try clear c10b0); (try clear c10b1); (try clear p11); (try clear q11); (try clear hx11); (try clear c12); (try clear c13); (try clear c17); (try clear q17); (try clear c20); (try clear c20b0); (try clear c21); (try clear c21b0); (try clear c22); (try clear c22b0); (try clear c24); (try clear c25); (try clear c27); (try clear c27b0); (try clear c27b1); (try clear c28); (try clear c28b0); (try clear c28b1); (try clear c32); (try clear hcz14_0); (try clear hcz14_1); (try clear hcz19_0); (try clear hcz19_1); (try clear hcz26_0); (try clear hcz26_1); (try clear hcz33_0); (try clear hcz33_1); (try clear hcz36_0); (try clear hcz36_1); (try clear hfz14_0); (try clear hfz14_1); (try clear hfz19_0); (try clear hfz19_1); (try clear hfz26_0); (try clear hfz26_1); (try clear hfz33_0); (try clear hfz33_1); (try clear hfz36_0); (try clear hfz36_1); (try clear hx113_0); (try clear hx113_1); (try clear p113); (try clear p2); (try clear q017); (try clear q1); (try clear q113); (try clear q17); (try clear HO_19); (try clear HO_20); (try clear HO_68); (try clear HO_102001); obtain ⟨x70_2, x102001_2, u102001, rfl, HA, HK2, HO_19, HO_20, HO_68, HO_102001, BK101, BK102, HB⟩ := hrel
         cases gk with
         | zero => exact absurd HA.out (by simp [impl_Stream_put.l1])
         | succ k2 =>
          have H := HA.out; clear HA; simp only [impl_Stream_put.l1] at H
          by_cases c37 : x70_2 < (y108.length : Int)
          ·rw [if_pos c37] at H; have c37b0 : decide (x70_2 < (y108.length : Int)) = true := decide_eq_true c37; clear c37
           by_cases c38 : 0 ≤ x70_2
           ·rw [if_pos c38] at H; have c38b0 : decide (0 ≤ x70_2) = true := decide_eq_true c38; clear c38
            by_cases c39 : x70_2 < (y108.length : Int)
            ·rw [if_pos c39] at H; have c39b0 : decide (x70_2 < (y108.length : Int)) = true := decide_eq_true c39; clear c39
             by_cases c40 : x70_2 < (t118.length : Int)
             ·rw [if_pos c40] at H; have c40b0 : decide (x70_2 < (t118.length : Int)) = true := decide_eq_true c40; clear c40
              by_cases c41 : x102001_2.length < 5864062014805
              ·rw [if_pos c41] at H; have LMc41 := Aside0.mk c41; clear c41; obtain ⟨y127, hy127⟩ : ∃ y_ : List (S109), y_ = (x102001_2 ++ [(⟨(rd_T116 y108 x70_2).f0, rdOf ByteArray.empty t118 x70_2⟩ : S109)]) := ⟨_, rfl⟩
               replace H : (impl_Stream_put.l1 k2 t115 t118 y108 (y108.length : Int) (wrap64 (x70_2 + 1)) t103 y127) = some (r1, r2, r3, r4) := by first | (rw [hy127]; with_reducible exact H) | (have H2_ := (Option.bind_some _ _).symm.trans H; rw [hy127]; with_reducible exact H2_) | (have H2_ := (Option.bind_some _ _).symm.trans H; with_reducible exact H2_) | with_reducible exact H | (rw [hy127]; exact H) | exact H
               have Ny127 := Aside0.mk hy127; clear hy127; have H' := Aside0.mk H; clear H; have p124 : 0 ≤ (x70_2 : Int) := of_decide_eq_true d11_; have q124 : x70_2 < (y108.length : Int) := of_decide_eq_true d11_; obtain ⟨ad124, e124, hx124_0, hx124_1, hx124_2, hx124_3⟩ := at_T116 (Kd.V_reads' HO_68.out).2.2 x70_2 p124 q124
               cases e124
               replace p124 := eq_true p124; replace q124 := eq_true q124
               try go_wp2_with (first | ((with_reducible refine gate_dst (N := 22) rfl ?_); refine zx_ (N := 22) #[.int .i64 0, .bool false, .int .i64 0, .int .i64 0] 116 ?_; intro gb125 hg w42 hbox hb; replace HO_19 := A_ (Kd.V_below (Kd.V_elderB (zv_ HO_19.out) gb125 (Nat.le_of_eq hg.symm)) hb); replace HO_20 := A_ (Kd.R_below (zR_ HO_20.out) hb); replace HO_68 := A_ (Kd.V_below (Kd.V_elderB (zv_ HO_68.out) gb125 (Nat.le_of_eq hg.symm)) hb); replace HO_102001 := A_ (Kd.R_below (zR_ HO_102001.out) hb); have BK125 := A_ hbox; have GW125 := A_ ((d87_ : w.heap.size ≤ gb125)); have GE125 := A_ ((d87_ : w.heap.size ≤ gb125)); replace HB := A_ (below_step d77_ hb); have NB101_125 := A_ ((by rw [hg]; exact Nat.ne_of_lt (blk_lt (g := gb101) (o := .cells #[.string t103, u102001] 26 (0, 0)) (zb_ BK101.out)) : gb101 ≠ gb125)); have NB125_101 := A_ ((by rw [hg]; exact Nat.ne_of_gt (blk_lt (g := gb101) (o := .cells #[.string t103, u102001] 26 (0, 0)) (zb_ BK101.out)) : gb125 ≠ gb101)); replace BK101 := A_ (blk_below (g := gb101) (o := .cells #[.string t103, u102001] 26 (0, 0)) (zb_ BK101.out) hb); have NB102_125 := A_ ((d88_ : gb102 ≠ gb125)); have NB125_102 := A_ ((d89_ : gb125 ≠ gb102)); replace BK102 := A_ (blk_below (g := gb102) (o := .cells #[.string (⟨#[]⟩ : ByteArray), .slice none 0 0] 26 (0, 0)) (zb_ BK102.out) hb); clear hb hbox hg; have hnb43 := NB125_101.out; have hnc43 := NB101_125.out; have hnb44 := NB125_102.out; have hnc44 := NB102_125.out; have hcz45_0 : w42.cell? ⟨gb125, 0, none⟩ = some (.int .i64 0) := (blk_cell BK125.out 0).trans rfl; have hcz45_1 : w42.cell? ⟨gb125, 1, none⟩ = some (.bool false) := (blk_cell BK125.out 1).trans rfl; have hcz45_2 : w42.cell? ⟨gb125, 2, none⟩ = some (.int .i64 0) := (blk_cell BK125.out 2).trans rfl; have hcz45_3 : w42.cell? ⟨gb125, 3, none⟩ = some (.int .i64 0) := (blk_cell BK125.out 3).trans rfl; have hfz45_0 := blk_frozen BK125.out 0; have hfz45_1 := blk_frozen BK125.out 1; have hfz45_2 := blk_frozen BK125.out 2; have hfz45_3 := blk_frozen BK125.out 3))
               have n0_ : Aside0 (Kd.V k111 111 ((((w42.setCell ⟨gb125, 0, none⟩ (.int .i64 ((rd_T116 y108 x70_2).f0))).setCell ⟨gb125, 1, none⟩ (.bool ((rd_T116 y108 x70_2).f1))).setCell ⟨gb125, 2, none⟩ (.int .i64 ((rd_T116 y108 x70_2).f2.f0))).setCell ⟨gb125, 3, none⟩ (.int .i64 ((rd_T116 y108 x70_2).f2.f1))) w.heap.size (fun k_ => ((P0_1_ k_ ∨ P1_ k_) ∨ w.heap.size ≤ k_) ∧ some k_ ≠ (v119 : Value).ownBlock ∧ some k_ ≠ (u102001 : Value).ownBlock ∧ k_ ≠ gb101 ∧ k_ ≠ gb102 ∧ k_ ≠ gb125) v116 t115) := ⟨by (with_reducible repeat (first | apply Kd.V_alloc | apply Kd.V_drewN | apply Kd.V_drew)); exact Kd.V_mono (Kd.V_far (p := ⟨gb125, 3, none⟩) (Kd.V_far (p := ⟨gb125, 2, none⟩) (Kd.V_far (p := ⟨gb125, 1, none⟩) (Kd.V_far (p := ⟨gb125, 0, none⟩) (Kd.V_mono HO_19.out (fun k_ hk => (⟨hk, hk.2⟩ : _ ∧ k_ ≠ gb125))) (fun _ hk => hk.2) (.int .i64 ((rd_T116 y108 x70_2).f0))) (fun _ hk => hk.2) (.bool ((rd_T116 y108 x70_2).f1))) (fun _ hk => hk.2) (.int .i64 ((rd_T116 y108 x70_2).f2.f0))) (fun _ hk => hk.2) (.int .i64 ((rd_T116 y108 x70_2).f2.f1))) (fun _ hk => ⟨hk.1.1.1, ⟨hk.1.1.2.1, ⟨hk.1.1.2.2.1, ⟨hk.1.1.2.2.2.1, ⟨hk.1.1.2.2.2.2, hk.1.2⟩⟩⟩⟩⟩)⟩; have n1_ : Aside0 (Kd.R Kd.string 9 ((((w42.setCell ⟨gb125, 0, none⟩ (.int .i64 ((rd_T116 y108 x70_2).f0))).setCell ⟨gb125, 1, none⟩ (.bool ((rd_T116 y108 x70_2).f1))).setCell ⟨gb125, 2, none⟩ (.int .i64 ((rd_T116 y108 x70_2).f2.f0))).setCell ⟨gb125, 3, none⟩ (.int .i64 ((rd_T116 y108 x70_2).f2.f1))) w.heap.size (fun k_ => (w.heap.size ≤ k_)) v119 t118) := ⟨by (with_reducible repeat (first | apply Kd.R_alloc | apply Kd.R_drewN | apply Kd.R_drew)); exact Kd.R_mono (Kd.R_far (p := ⟨gb125, 3, none⟩) (Kd.R_far (p := ⟨gb125, 2, none⟩) (Kd.R_far (p := ⟨gb125, 1, none⟩) (Kd.R_far (p := ⟨gb125, 0, none⟩) (Kd.R_types HO_20.out BK125.out (by decide)) (fun _ hk => hk.2) (.int .i64 ((rd_T116 y108 x70_2).f0))) (fun _ hk => hk.2) (.bool ((rd_T116 y108 x70_2).f1))) (fun _ hk => hk.2) (.int .i64 ((rd_T116 y108 x70_2).f2.f0))) (fun _ hk => hk.2) (.int .i64 ((rd_T116 y108 x70_2).f2.f1))) (fun _ hk => hk.1)⟩; have n2_ : Aside0 (Kd.V k116 116 ((((w42.setCell ⟨gb125, 0, none⟩ (.int .i64 ((rd_T116 y108 x70_2).f0))).setCell ⟨gb125, 1, none⟩ (.bool ((rd_T116 y108 x70_2).f1))).setCell ⟨gb125, 2, none⟩ (.int .i64 ((rd_T116 y108 x70_2).f2.f0))).setCell ⟨gb125, 3, none⟩ (.int .i64 ((rd_T116 y108 x70_2).f2.f1))) w.heap.size (fun k_ => ((P0_1_ k_ ∨ P1_ k_) ∨ w.heap.size ≤ k_) ∧ some k_ ≠ (v119 : Value).ownBlock ∧ some k_ ≠ (u102001 : Value).ownBlock ∧ k_ ≠ gb101 ∧ k_ ≠ gb102 ∧ k_ ≠ gb125) (.slice (some ad124) y108.length c17) y108) := ⟨by (with_reducible repeat (first | apply Kd.V_alloc | apply Kd.V_drewN | apply Kd.V_drew)); exact Kd.V_mono (Kd.V_far (p := ⟨gb125, 3, none⟩) (Kd.V_far (p := ⟨gb125, 2, none⟩) (Kd.V_far (p := ⟨gb125, 1, none⟩) (Kd.V_far (p := ⟨gb125, 0, none⟩) (Kd.V_mono HO_68.out (fun k_ hk => (⟨hk, hk.2⟩ : _ ∧ k_ ≠ gb125))) (fun _ hk => hk.2) (.int .i64 ((rd_T116 y108 x70_2).f0))) (fun _ hk => hk.2) (.bool ((rd_T116 y108 x70_2).f1))) (fun _ hk => hk.2) (.int .i64 ((rd_T116 y108 x70_2).f2.f0))) (fun _ hk => hk.2) (.int .i64 ((rd_T116 y108 x70_2).f2.f1))) (fun _ hk => ⟨hk.1.1.1, ⟨hk.1.1.2.1, ⟨hk.1.1.2.2.1, ⟨hk.1.1.2.2.2.1, ⟨hk.1.1.2.2.2.2, hk.1.2⟩⟩⟩⟩⟩)⟩
               have n3_ : Aside0 (Kd.R k109 109 ((((w42.setCell ⟨gb125, 0, none⟩ (.int .i64 ((rd_T116 y108 x70_2).f0))).setCell ⟨gb125, 1, none⟩ (.bool ((rd_T116 y108 x70_2).f1))).setCell ⟨gb125, 2, none⟩ (.int .i64 ((rd_T116 y108 x70_2).f2.f0))).setCell ⟨gb125, 3, none⟩ (.int .i64 ((rd_T116 y108 x70_2).f2.f1))) w.heap.size (fun k_ => (w.heap.size ≤ k_)) u102001 x102001_2) := ⟨by (with_reducible repeat (first | apply Kd.R_alloc | apply Kd.R_drewN | apply Kd.R_drew)); exact Kd.R_mono (Kd.R_far (p := ⟨gb125, 3, none⟩) (Kd.R_far (p := ⟨gb125, 2, none⟩) (Kd.R_far (p := ⟨gb125, 1, none⟩) (Kd.R_far (p := ⟨gb125, 0, none⟩) (Kd.R_types HO_102001.out BK125.out (by decide)) (fun _ hk => hk.2) (.int .i64 ((rd_T116 y108 x70_2).f0))) (fun _ hk => hk.2) (.bool ((rd_T116 y108 x70_2).f1))) (fun _ hk => hk.2) (.int .i64 ((rd_T116 y108 x70_2).f2.f0))) (fun _ hk => hk.2) (.int .i64 ((rd_T116 y108 x70_2).f2.f1))) (fun _ hk => hk.1)⟩; have n4_ : Aside0 (((((w42.setCell ⟨gb125, 0, none⟩ (.int .i64 ((rd_T116 y108 x70_2).f0))).setCell ⟨gb125, 1, none⟩ (.bool ((rd_T116 y108 x70_2).f1))).setCell ⟨gb125, 2, none⟩ (.int .i64 ((rd_T116 y108 x70_2).f2.f0))).setCell ⟨gb125, 3, none⟩ (.int .i64 ((rd_T116 y108 x70_2).f2.f1))).heap[gb101]? = some (.cells #[.string t103, u102001] 26 (0, 0))) := ⟨by (with_reducible repeat (first | refine blk_drewN ?_ _ | refine blk_drew ?_ | refine blk_alloc ?_ _)); refine blk_far ?_ NB101_125.out _; (with_reducible repeat (first | refine blk_drewN ?_ _ | refine blk_drew ?_ | refine blk_alloc ?_ _)); refine blk_far ?_ NB101_125.out _; (with_reducible repeat (first | refine blk_drewN ?_ _ | refine blk_drew ?_ | refine blk_alloc ?_ _)); refine blk_far ?_ NB101_125.out _; (with_reducible repeat (first | refine blk_drewN ?_ _ | refine blk_drew ?_ | refine blk_alloc ?_ _)); refine blk_far ?_ NB101_125.out _; (with_reducible repeat (first | refine blk_drewN ?_ _ | refine blk_drew ?_ | refine blk_alloc ?_ _)); exact BK101.out⟩; have n5_ : Aside0 (((((w42.setCell ⟨gb125, 0, none⟩ (.int .i64 ((rd_T116 y108 x70_2).f0))).setCell ⟨gb125, 1, none⟩ (.bool ((rd_T116 y108 x70_2).f1))).setCell ⟨gb125, 2, none⟩ (.int .i64 ((rd_T116 y108 x70_2).f2.f0))).setCell ⟨gb125, 3, none⟩ (.int .i64 ((rd_T116 y108 x70_2).f2.f1))).heap[gb102]? = some (.cells #[.string (⟨#[]⟩ : ByteArray), .slice none 0 0] 26 (0, 0))) := ⟨by (with_reducible repeat (first | refine blk_drewN ?_ _ | refine blk_drew ?_ | refine blk_alloc ?_ _)); refine blk_far ?_ NB102_125.out _; (with_reducible repeat (first | refine blk_drewN ?_ _ | refine blk_drew ?_ | refine blk_alloc ?_ _)); refine blk_far ?_ NB102_125.out _; (with_reducible repeat (first | refine blk_drewN ?_ _ | refine blk_drew ?_ | refine blk_alloc ?_ _)); refine blk_far ?_ NB102_125.out _; (with_reducible repeat (first | refine blk_drewN ?_ _ | refine blk_drew ?_ | refine blk_alloc ?_ _)); refine blk_far ?_ NB102_125.out _; (with_reducible repeat (first | refine blk_drewN ?_ _ | refine blk_drew ?_ | refine blk_alloc ?_ _)); exact BK102.out⟩
               have n6_ : Aside0 (((((w42.setCell ⟨gb125, 0, none⟩ (.int .i64 ((rd_T116 y108 x70_2).f0))).setCell ⟨gb125, 1, none⟩ (.bool ((rd_T116 y108 x70_2).f1))).setCell ⟨gb125, 2, none⟩ (.int .i64 ((rd_T116 y108 x70_2).f2.f0))).setCell ⟨gb125, 3, none⟩ (.int .i64 ((rd_T116 y108 x70_2).f2.f1))).heap[gb125]? = some (.cells #[.int .i64 ((rd_T116 y108 x70_2).f0), .bool ((rd_T116 y108 x70_2).f1), .int .i64 ((rd_T116 y108 x70_2).f2.f0), .int .i64 ((rd_T116 y108 x70_2).f2.f1)] 116 (0, 0))) := ⟨by (with_reducible repeat (first | refine blk_drewN ?_ _ | refine blk_drew ?_ | refine blk_alloc ?_ _)); refine blk_put (cs := #[.int .i64 ((rd_T116 y108 x70_2).f0), .bool ((rd_T116 y108 x70_2).f1), .int .i64 ((rd_T116 y108 x70_2).f2.f0), .int .i64 0]) ?_ 3 _ rfl; (with_reducible repeat (first | refine blk_drewN ?_ _ | refine blk_drew ?_ | refine blk_alloc ?_ _)); refine blk_put (cs := #[.int .i64 ((rd_T116 y108 x70_2).f0), .bool ((rd_T116 y108 x70_2).f1), .int .i64 0, .int .i64 0]) ?_ 2 _ rfl; (with_reducible repeat (first | refine blk_drewN ?_ _ | refine blk_drew ?_ | refine blk_alloc ?_ _)); refine blk_put (cs := #[.int .i64 ((rd_T116 y108 x70_2).f0), .bool false, .int .i64 0, .int .i64 0]) ?_ 1 _ rfl; (with_reducible repeat (first | refine blk_drewN ?_ _ | refine blk_drew ?_ | refine blk_alloc ?_ _)); refine blk_put (cs := #[.int .i64 0, .bool false, .int .i64 0, .int .i64 0]) ?_ 0 _ rfl; (with_reducible repeat (first | refine blk_drewN ?_ _ | refine blk_drew ?_ | refine blk_alloc ?_ _)); exact BK125.out⟩; have n7_ : Aside0 (Below w.heap.size w ((((w42.setCell ⟨gb125, 0, none⟩ (.int .i64 ((rd_T116 y108 x70_2).f0))).setCell ⟨gb125, 1, none⟩ (.bool ((rd_T116 y108 x70_2).f1))).setCell ⟨gb125, 2, none⟩ (.int .i64 ((rd_T116 y108 x70_2).f2.f0))).setCell ⟨gb125, 3, none⟩ (.int .i64 ((rd_T116 y108 x70_2).f2.f1)))) := ⟨d123_⟩; (try clear HO_19); (try clear HO_20); (try clear HO_68); (try clear HO_102001); (try clear BK101); (try clear BK102); (try clear BK125); (try clear HB); generalize ((((w42.setCell ⟨gb125, 0, none⟩ (.int .i64 ((rd_T116 y108 x70_2).f0))).setCell ⟨gb125, 1, none⟩ (.bool ((rd_T116 y108 x70_2).f1))).setCell ⟨gb125, 2, none⟩ (.int .i64 ((rd_T116 y108 x70_2).f2.f0))).setCell ⟨gb125, 3, none⟩ (.int .i64 ((rd_T116 y108 x70_2).f2.f1))) = w46 at n0_ n1_ n2_ n3_ n4_ n5_ n6_ n7_ ⊢; have HO_19 := n0_; have HO_20 := n1_; have HO_68 := n2_; have HO_102001 := n3_; have BK101 := n4_; have BK102 := n5_; have BK125 := n6_; have HB := n7_; clear n0_ n1_ n2_ n3_ n4_ n5_ n6_ n7_; have n0_ := Aside0.mk (Kd.V_drew HO_19.out); have n1_ := Aside0.mk (Kd.R_drew HO_20.out); have n2_ := Aside0.mk (Kd.V_drew HO_68.out); have n3_ := Aside0.mk (Kd.R_drew HO_102001.out); have n4_ := Aside0.mk (blk_drew BK101.out); have n5_ := Aside0.mk (blk_drew BK102.out); have n6_ := Aside0.mk (blk_drew BK125.out); have n7_ := Aside0.mk (below_drew1 HB.out); clear HO_19; clear HO_20; clear HO_68; clear HO_102001; clear BK101; clear BK102; clear BK125; clear HB; have HO_19 := n0_; have HO_20 := n1_; have HO_68 := n2_; have HO_102001 := n3_; have BK101 := n4_; have BK102 := n5_; have BK125 := n6_; have HB := n7_; clear n0_ n1_ n2_ n3_ n4_ n5_ n6_ n7_; obtain ⟨Ao48, co48, eo48⟩ := Kd.R_slice HO_20.out; (first | subst eo48 | (injection eo48 with f1_ f2_ f3_; have f4_ := f1_.symm; have f5_ := f3_.symm; clear f1_ f2_ f3_; subst f4_; subst f5_)); have p126 : 0 ≤ (x70_2 : Int) := of_decide_eq_true d11_; have q126 : x70_2 < (t118.length : Int) := of_decide_eq_true d11_; obtain ⟨ad126, e126, hx126_0⟩ := Kd.at_string (Kd.R_reads' HO_20.out).2.2 x70_2 p126 q126
               cases e126
               replace p126 := eq_true p126; replace q126 := eq_true q126; refine start_ (n := 13) (S := fun w' => w'.cell? ⟨gb101, 0, none⟩ = some (.string t103) ∧ w'.cell? ⟨gb101, 1, none⟩ = some (u102001) ∧ w'.cell? ⟨gb125, 0, none⟩ = some (.int .i64 ((rd_T116 y108 x70_2).f0)) ∧ w'.cell? ⟨gb125, 1, none⟩ = some (.bool ((rd_T116 y108 x70_2).f1)) ∧ w'.cell? ⟨gb125, 2, none⟩ = some (.int .i64 ((rd_T116 y108 x70_2).f2.f0)) ∧ w'.cell? ⟨gb125, 3, none⟩ = some (.int .i64 ((rd_T116 y108 x70_2).f2.f1)) ∧ w'.cell? (ad126.add (x70_2).toNat) = some (.string (rdOf ByteArray.empty t118 x70_2))) (ds := [10, 12]) #[false, false, false, false, false, false, false, false, false, false, false, false, false] (by kernel_rfl) rfl rfl ⟨(blk_cell BK101.out 0).trans rfl, (blk_cell BK101.out 1).trans rfl, (blk_cell BK125.out 0).trans rfl, (blk_cell BK125.out 1).trans rfl, (blk_cell BK125.out 2).trans rfl, (blk_cell BK125.out 3).trans rfl, hx126_0⟩ (fun hHeld => ?_); refine with_tabW impl_Stream_put.tab16 impl_Stream_put.bits16 (fun HT_ HW_ => ?_); generalize w46.drew = w47 at HO_19 HO_20 HO_68 HO_102001 BK101 BK102 BK125 HB hx126_0 hHeld ⊢; refine zP_ HT_ 0 (some 75) ?_; refine zP_ HT_ 2 (some 77) ?_; refine zP_ HT_ 4 (some 79) ?_; refine zP_ HT_ 5 (some 80) ?_; refine zP_ HT_ 6 (some 81) ?_; refine zT_ HT_ HW_ hHeld 1 (some 76) ?_; refine zT_ HT_ HW_ hHeld 3 (some 78) ?_; refine zT_ HT_ HW_ hHeld 7 (some 82) ?_; refine zP_ HT_ 8 (some 83) ?_; refine one_ (i := 9) (N := some 84) #[true, true, true, true, true, true, true, true, true, true, false, false, false] rfl rfl (one_of HT_.out (by kernel_rfl)) (by decide) (fun K hK => ?_); refine value_ (w1 := ?_) (v := ?_) (by rfl) rfl ?_ ?_; rotate_left 2
               ·go_simp
                constructor
                ·rfl
                rfl
               refine hK.out _ _ ⟨(blk_cell (blk_alloc BK101.out _) 0).trans rfl, (blk_cell (blk_alloc BK101.out _) 1).trans rfl, (blk_cell (blk_alloc BK125.out _) 0).trans rfl, (blk_cell (blk_alloc BK125.out _) 1).trans rfl, (blk_cell (blk_alloc BK125.out _) 2).trans rfl, (blk_cell (blk_alloc BK125.out _) 3).trans rfl, (World.cell?_alloc_lt _ _ _ (World.block_lt_of_cell? _ _ (hHeld.2.2.2.2.2.2))).trans (hHeld.2.2.2.2.2.2)⟩ (fun hHeld => ?_); clear hK K; refine norm_ (a' := ?_) ?_ ?_; rotate_left
               ·show Act.put _ (some 84) _ = _
                simp only [Act.put, List.setIfInBounds_toArray, List.set_cons_zero, List.set_cons_succ, i64_w, i32_w]; rfl
               refine last_ (i := 10) (N := some 85) #[true, true, true, true, true, true, true, true, true, true, true, false, false] rfl rfl (one_of HT_.out (by kernel_rfl)) (by decide) (fun K hK => ?_); refine Kd.R_append_step k109 (w0 := w) w.heap.size (by rfl) (.tmp 76) (.tmp 84) 24 109 (.agg #[(.int .i64 0), (.string ⟨#[]⟩)]) 24 rfl Tryz.underlying24 info109 rfl (by decide) (by omega) u102001 x102001_2 (⟨(rd_T116 y108 x70_2).f0, rdOf ByteArray.empty t118 x70_2⟩ : S109) [.int .i64 ((rd_T116 y108 x70_2).f0), .string (rdOf ByteArray.empty t118 x70_2)] (fun k_ => (w.heap.size ≤ k_)) (fun _ => False) rfl rfl ?aP (fun _ hk => hk.elim) ?aF ?aO ?aB ?aS ?aL ?_; (case aP => exact k109_mkM _ _ _ (⟨(rd_T116 y108 x70_2).f0, rdOf ByteArray.empty t118 x70_2⟩ : S109)); (case aB => exact d123_); (case aF => exact (fun k_ hk => (Nat.le_trans (below_size d123_) hk))); (case aO => exact (zR_ HO_102001.out)); (case aS => exact (below_size d123_)); (case aL => have := LMc41.out; omega); intro v128 w49 ho hb hg hat; rw [← Ny127.out] at ho; have n0_ := Aside0.mk (Kd.V_afterv (ok := (fun k_ => ((P0_1_ k_ ∨ P1_ k_) ∨ w.heap.size ≤ k_) ∧ some k_ ≠ (.slice (some ad126) t118.length co48 : Value).ownBlock ∧ k_ ≠ gb101 ∧ k_ ≠ gb102 ∧ k_ ≠ gb125)) (zv_ (Kd.V_mono HO_19.out (fun _ hk => ⟨⟨hk.1, ⟨hk.2.1, ⟨hk.2.2.2.1, ⟨hk.2.2.2.2.1, hk.2.2.2.2.2⟩⟩⟩⟩, hk.2.2.1⟩))) hg hat); have n1_ := Aside0.mk (Kd.R_over' (zR_ HO_20.out) (Kd.R_typed (zR_ HO_102001.out)) (by decide) hg); have n2_ := Aside0.mk (Kd.V_afterv (ok := (fun k_ => ((P0_1_ k_ ∨ P1_ k_) ∨ w.heap.size ≤ k_) ∧ some k_ ≠ (.slice (some ad126) t118.length co48 : Value).ownBlock ∧ k_ ≠ gb101 ∧ k_ ≠ gb102 ∧ k_ ≠ gb125)) (zv_ (Kd.V_mono HO_68.out (fun _ hk => ⟨⟨hk.1, ⟨hk.2.1, ⟨hk.2.2.2.1, ⟨hk.2.2.2.2.1, hk.2.2.2.2.2⟩⟩⟩⟩, hk.2.2.1⟩))) hg hat); have n3_ := Aside0.mk (blk_grown (g := gb101) (o := .cells #[.string t103, u102001] 26 (0, 0)) (zb_ BK101.out) hg (Kd.R_ne HO_102001.out BK101.out (by decide))); have n4_ := Aside0.mk (blk_grown (g := gb102) (o := .cells #[.string (⟨#[]⟩ : ByteArray), .slice none 0 0] 26 (0, 0)) (zb_ BK102.out) hg (Kd.R_ne HO_102001.out BK102.out (by decide))); have n5_ := Aside0.mk (blk_grown (g := gb125) (o := .cells #[.int .i64 ((rd_T116 y108 x70_2).f0), .bool ((rd_T116 y108 x70_2).f1), .int .i64 ((rd_T116 y108 x70_2).f2.f0), .int .i64 ((rd_T116 y108 x70_2).f2.f1)] 116 (0, 0)) (zb_ BK125.out) hg (Kd.R_ne HO_102001.out BK125.out (by decide))); have n6_ := Aside0.mk (hb); have n7_ := Aside0.mk (ho); clear HO_19; clear HO_20; clear HO_68; clear BK101; clear BK102; clear BK125; clear HB; clear HO_102001; have HO_19 := n0_; have HO_20 := n1_; have HO_68 := n2_; have BK101 := n3_; have BK102 := n4_; have BK125 := n5_; have HB := n6_; have HO129 := n7_; clear n0_ n1_ n2_ n3_ n4_ n5_ n6_ n7_; clear ho hb hg hat; obtain ⟨Ao50, co50, eo50⟩ := Kd.R_slice HO129.out; (first | subst eo50 | (injection eo50 with f1_ f2_ f3_; have f4_ := f1_.symm; have f5_ := f3_.symm; clear f1_ f2_ f3_; subst f4_; subst f5_)); refine hK.out _ _ ?_; clear hK K; refine norm_ (a' := ?_) ?_ ?_; rotate_left
               ·show Act.put _ (some 85) _ = _
                simp only [Act.put, List.setIfInBounds_toArray, List.set_cons_zero, List.set_cons_succ, i64_w, i32_w]; rfl
               refine zP_ HT_ 11 (some 86) ?_; refine last_ (i := 12) (N := none) #[true, true, true, true, true, true, true, true, true, true, true, true, true] rfl rfl (one_of HT_.out (by kernel_rfl)) (by decide) (fun K hK => ?_); have hs51 : w49.cell? ⟨gb101, 1, none⟩ = some (u102001) := (blk_cell BK101.out 1).trans rfl; have hfs51 := blk_frozen BK101.out 1; have hns51_1 := NB102_101.out; have hns51_2 := NB125_101.out; have hms51_1 := NB101_102.out; have hms51_2 := NB101_125.out; refine skip_ (w1 := ?_) (by rfl) rfl ?_ ?_; rotate_left
               ·go_simp
                rfl
               refine hK.out _ _ ?_; clear hK K; refine done_ (done_of HT_.out (by kernel_rfl)) ?_
               try go_wp2
               go_roundg k2
               case measure => have := HK1.out; have := HK2.out; omega
               case rel => exact ⟨(wrap64 (x70_2 + 1)), (y127), (.slice Ao50 y127.length co50), zs_, H', ⟨by have := HK1.out; have := HK2.out; omega⟩, ⟨by (with_reducible repeat (first | apply Kd.V_alloc | apply Kd.V_drewN | apply Kd.V_drew)); exact Kd.V_mono (Kd.V_far (p := ⟨gb101, 1, none⟩) (Kd.V_mono HO_19.out (fun k_ hk => (⟨hk, hk.1.2.2.1⟩ : _ ∧ k_ ≠ gb101))) (fun _ hk => hk.2) (.slice Ao50 y127.length co50)) (fun _ hk => ⟨hk.1.1.1, ⟨hk.1.1.2.1, ⟨hk.1.2, ⟨hk.1.1.2.2.1, hk.1.1.2.2.2.1⟩⟩⟩⟩)⟩, ⟨by (with_reducible repeat (first | apply Kd.R_alloc | apply Kd.R_drewN | apply Kd.R_drew)); exact Kd.R_mono (Kd.R_far (p := ⟨gb101, 1, none⟩) (Kd.R_types HO_20.out BK101.out (by decide)) (fun _ hk => hk.2) (.slice Ao50 y127.length co50)) (fun _ hk => hk.1)⟩, ⟨by (with_reducible repeat (first | apply Kd.V_alloc | apply Kd.V_drewN | apply Kd.V_drew)); exact Kd.V_mono (Kd.V_far (p := ⟨gb101, 1, none⟩) (Kd.V_mono HO_68.out (fun k_ hk => (⟨hk, hk.1.2.2.1⟩ : _ ∧ k_ ≠ gb101))) (fun _ hk => hk.2) (.slice Ao50 y127.length co50)) (fun _ hk => ⟨hk.1.1.1, ⟨hk.1.1.2.1, ⟨hk.1.2, ⟨hk.1.1.2.2.1, hk.1.1.2.2.2.1⟩⟩⟩⟩)⟩, ⟨by (with_reducible repeat (first | apply Kd.R_alloc | apply Kd.R_drewN | apply Kd.R_drew)); exact Kd.R_mono (Kd.R_far (p := ⟨gb101, 1, none⟩) (Kd.R_types HO129.out BK101.out (by decide)) (fun _ hk => hk.2) (.slice Ao50 y127.length co50)) (fun _ hk => hk.1)⟩, ⟨by (with_reducible repeat (first | refine blk_drewN ?_ _ | refine blk_drew ?_ | refine blk_alloc ?_ _)); refine blk_put (cs := #[.string t103, u102001]) ?_ 1 _ rfl; (with_reducible repeat (first | refine blk_drewN ?_ _ | refine blk_drew ?_ | refine blk_alloc ?_ _)); exact BK101.out⟩, ⟨by (with_reducible repeat (first | refine blk_drewN ?_ _ | refine blk_drew ?_ | refine blk_alloc ?_ _)); refine blk_far ?_ NB102_101.out _; (with_reducible repeat (first | refine blk_drewN ?_ _ | refine blk_drew ?_ | refine blk_alloc ?_ _)); exact BK102.out⟩, ⟨d123_⟩⟩
              rw [if_neg c41] at H; exact absurd H (by simp)
             rw [if_neg c40] at H; exact absurd H (by simp)
            rw [if_neg c39] at H; exact absurd H (by simp)
           rw [if_neg c38] at H; exact absurd H (by simp)
          rw [if_neg c37] at H; have c37b0 : decide (x70_2 < (y108.length : Int)) = false := decide_eq_false c37; clear c37; simp only [Option.some.injEq, Prod.mk.injEq] at H; obtain ⟨rfl, rfl, rfl, rfl⟩ := H
          try go_wp2
          have n0_ := Aside0.mk (Kd.V_drew HO_19.out); have n1_ := Aside0.mk (Kd.R_drew HO_20.out); have n2_ := Aside0.mk (Kd.V_drew HO_68.out); have n3_ := Aside0.mk (Kd.R_drew HO_102001.out); have n4_ := Aside0.mk (blk_drew BK101.out); have n5_ := Aside0.mk (blk_drew BK102.out); have n6_ := Aside0.mk (below_drew1 HB.out); clear HO_19; clear HO_20; clear HO_68; clear HO_102001; clear BK101; clear BK102; clear HB; have HO_19 := n0_; have HO_20 := n1_; have HO_68 := n2_; have HO_102001 := n3_; have BK101 := n4_; have BK102 := n5_; have HB := n6_; clear n0_ n1_ n2_ n3_ n4_ n5_ n6_; obtain ⟨Ao54, co54, eo54⟩ := Kd.R_slice HO_102001.out; (first | subst eo54 | (injection eo54 with f1_ f2_ f3_; have f4_ := f1_.symm; have f5_ := f3_.symm; clear f1_ f2_ f3_; subst f4_; subst f5_)); refine start_ (n := 5) (S := fun w' => w'.cell? ⟨gb101, 0, none⟩ = some (.string t103) ∧ w'.cell? ⟨gb101, 1, none⟩ = some (.slice Ao54 x102001_2.length co54)) (ds := []) #[false, false, false, false, false] (by kernel_rfl) rfl rfl ⟨(blk_cell BK101.out 0).trans rfl, (blk_cell BK101.out 1).trans rfl⟩ (fun hHeld => ?_); generalize wr.drew = w52 at HO_19 HO_20 HO_68 HO_102001 BK101 BK102 HB hHeld ⊢; refine pure_ (i := 0) (N := some 88) (v := ?_) (a' := ?_) #[true, false, false, false, false] rfl rfl (by kernel_rfl) (fun _ _ _ h => h) (Or.inl ⟨by rfl, ?_⟩) ?_ ?_; rotate_left
          ·intro w'
           go_simp
           with_reducible rfl
          rotate_left
          ·simp only [Act.put, List.setIfInBounds_toArray, List.set_cons_zero, List.set_cons_succ, i64_w, i32_w]; rfl
          refine pure_ (i := 2) (N := some 10) (v := ?_) (a' := ?_) #[true, false, true, false, false] rfl rfl (by kernel_rfl) (fun _ _ _ h => h) (Or.inl ⟨by rfl, ?_⟩) ?_ ?_; rotate_left
          ·intro w'
           go_simp
           with_reducible rfl
          rotate_left
          ·simp only [Act.put, List.setIfInBounds_toArray, List.set_cons_zero, List.set_cons_succ, i64_w, i32_w]; rfl
          refine take_ (i := 1) (N := some 89) (v := ?_) (a' := ?_) #[true, true, true, false, false] rfl rfl (by kernel_rfl) (fun _ _ _ h => h) (Or.inl ⟨by rfl, ?_⟩) hHeld ?_ ?_; rotate_left
          ·rintro w' ⟨s0, s1⟩
           go_simp
           with_reducible rfl
          rotate_left
          ·simp only [Act.put, List.setIfInBounds_toArray, List.set_cons_zero, List.set_cons_succ, i64_w, i32_w]; rfl
          refine one_ (i := 3) (N := none) #[true, true, true, true, false] rfl rfl (by kernel_rfl) (by decide) (fun K hK => ?_); have hs53 : w52.cell? ⟨gb102, 0, none⟩ = some (.string (⟨#[]⟩ : ByteArray)) := (blk_cell BK102.out 0).trans rfl; have hfs53 := blk_frozen BK102.out 0; have hns53_0 := NB101_102.out; have hms53_0 := NB102_101.out; have hs55 : w52.cell? ⟨gb102, 1, none⟩ = some (.slice none 0 0) := (blk_cell BK102.out 1).trans rfl; have hfs55 := blk_frozen BK102.out 1; have hns55_0 := NB101_102.out; have hms55_0 := NB102_101.out; refine skip_ (w1 := ?_) (by rfl) rfl ?_ ?_; rotate_left
          ·go_simp
           rfl
          refine hK.out _ _ ⟨((cell_far (p := ⟨gb102, _, none⟩) NB101_102.out _).trans (((cell_far (p := ⟨gb102, _, none⟩) NB101_102.out _).trans (hHeld.1)))), ((cell_far (p := ⟨gb102, _, none⟩) NB101_102.out _).trans (((cell_far (p := ⟨gb102, _, none⟩) NB101_102.out _).trans (hHeld.2))))⟩ (fun hHeld => ?_); clear hK K; refine pure_ (i := 4) (N := some 12) (v := ?_) (a' := ?_) #[true, true, true, true, true] rfl rfl (by kernel_rfl) (fun _ _ _ h => h) (Or.inl ⟨by rfl, ?_⟩) ?_ ?_; rotate_left
          ·intro w'
           go_simp
           with_reducible rfl
          rotate_left
          ·simp only [Act.put, List.setIfInBounds_toArray, List.set_cons_zero, List.set_cons_succ, i64_w, i32_w]; rfl
          refine done_ (by kernel_rfl) ?_
          try go_wp2
          refine bodyPost_ret (results_list (rs := [.tmp 10, .cell 11 26, .tmp 12]) rfl (by simp) (.tmp (.cell gb102 26 #[.string t103, .slice Ao54 x102001_2.length co54] (0, 0) _ rfl (by (with_reducible repeat (first | refine blk_drewN ?_ _ | refine blk_drew ?_ | refine blk_alloc ?_ _)); refine blk_put (cs := #[.string t103, .slice none 0 0]) ?_ 1 _ rfl; (with_reducible repeat (first | refine blk_drewN ?_ _ | refine blk_drew ?_ | refine blk_alloc ?_ _)); refine blk_put (cs := #[.string (⟨#[]⟩ : ByteArray), .slice none 0 0]) ?_ 0 _ rfl; (with_reducible repeat (first | refine blk_drewN ?_ _ | refine blk_drew ?_ | refine blk_alloc ?_ _)); exact BK102.out) Tryz.underlying26 rfl (by kernel_rfl) (.tmp .nil)))) rfl ?_; exact ⟨_, _, d4_, by (with_reducible repeat (first | apply Kd.V_alloc | apply Kd.V_drewN | apply Kd.V_drew)); exact Kd.V_mono (Kd.V_far (p := ⟨gb102, 1, none⟩) (Kd.V_far (p := ⟨gb102, 0, none⟩) (Kd.V_mono HO_19.out (fun k_ hk => (⟨hk, hk.2.2.2.2⟩ : _ ∧ k_ ≠ gb102))) (fun _ hk => hk.2) (.string t103)) (fun _ hk => hk.2) (.slice Ao54 x102001_2.length co54)) (fun _ hk => hk.1.1), Kd.V_mono (Kd.R_V (zR_ (Kd.R_mono (Kd.R_far (p := ⟨gb102, 1, none⟩) (Kd.R_far (p := ⟨gb102, 0, none⟩) (Kd.R_types HO_102001.out BK102.out (by decide)) (fun _ hk => hk.2) (.string t103)) (fun _ hk => hk.2) (.slice Ao54 x102001_2.length co54)) (fun _ hk => hk.1)))) (fun k_ hk => by first | exact ⟨(.inr (hk.1)), hk.2⟩ | exact (.inr (hk))), d77_⟩
       rw [if_neg c28] at H; exact absurd H (by simp)
      rw [if_neg c27] at H; exact absurd H (by simp)
   rw [if_neg c10] at H; exact absurd H (by simp)
  rw [if_neg c9] at H; exact absurd H (by simp)
 replace c7 := Bool.eq_false_iff.mpr c7
 subst c7
 rw [if_neg (show ¬ (false = true) by decide)] at H
 simp only [Option.some.injEq, Prod.mk.injEq] at H
 obtain ⟨rfl, rfl, rfl, rfl⟩ := H
 go_enter Tryz.func69, Tryz.ntmps69
 try go_wp2_with (first | ((with_reducible refine gate_dst (N := 5) rfl ?_); refine zx_ (N := 5) #[.string a0_0, .slice A0_1 l0_1.length c0_1] 26 ?_; intro gb101 hg w56 hbox hb; replace HO0_1 := A_ (Kd.V_below (Kd.V_elderB (zv_ HO0_1.out) gb101 (Nat.le_of_eq hg.symm)) hb); replace HO1 := A_ (Kd.V_below (Kd.V_elderB (zv_ HO1.out) gb101 (Nat.le_of_eq hg.symm)) hb); have BK101 := A_ hbox; have GW101 := A_ ((d0_ : w.heap.size ≤ gb101)); have GE101 := A_ ((d0_ : w.heap.size ≤ gb101)); replace HB := A_ (below_step (zB_ HB.out) hb); clear hb hbox hg) | ((with_reducible refine gate_dst (N := 11) rfl ?_); refine zx_ (N := 11) #[.string (⟨#[]⟩ : ByteArray), .slice none 0 0] 26 ?_; intro gb102 hg w57 hbox hb; replace HO0_1 := A_ (Kd.V_below (Kd.V_elderB (zv_ HO0_1.out) gb102 (Nat.le_of_eq hg.symm)) hb); replace HO1 := A_ (Kd.V_below (Kd.V_elderB (zv_ HO1.out) gb102 (Nat.le_of_eq hg.symm)) hb); have BK102 := A_ hbox; have GW102 := A_ ((d6_ : w.heap.size ≤ gb102)); have GE102 := A_ ((d6_ : w.heap.size ≤ gb102)); replace HB := A_ (below_step d1_ hb); have NB101_102 := A_ ((d109_ : gb101 ≠ gb102)); have NB102_101 := A_ ((d110_ : gb102 ≠ gb101)); replace BK101 := A_ (blk_below (g := gb101) (o := .cells #[.string a0_0, .slice A0_1 l0_1.length c0_1] 26 (0, 0)) (zb_ BK101.out) hb); clear hb hbox hg; have hnb58 := NB101_102.out; have hnc58 := NB102_101.out; have hcz59_0 : w57.cell? ⟨gb101, 0, none⟩ = some (.string a0_0) := (blk_cell BK101.out 0).trans rfl; have hcz59_1 : w57.cell? ⟨gb101, 1, none⟩ = some (.slice A0_1 l0_1.length c0_1) := (blk_cell BK101.out 1).trans rfl; have hfz59_0 := blk_frozen BK101.out 0; have hfz59_1 := blk_frozen BK101.out 1) | ((with_reducible refine gate_callee (f := 125) rfl ?_); refine zc_ (some 28) Tryz.func125 #[.string a0_0, .int .i64 a2, .string a3] ?_; (with_reducible refine (impl_behind.calls k a0_0 a2 a3 t103 false _ A6.out).mono ?_); rintro e w' ⟨rfl, ⟨nd, rfl⟩⟩; refine ⟨_, rfl, ?_⟩; (try (rw [drewN_self w57]; generalize hq_ : World.drewN w57 _ = w57; have n0_ : Aside0 (Kd.V k109 109 w57 w.heap.size (fun k_ => ((P0_1_ k_ ∨ P1_ k_) ∨ w.heap.size ≤ k_) ∧ k_ ≠ gb101 ∧ k_ ≠ gb102) (.slice A0_1 l0_1.length c0_1) l0_1) := ⟨d118_⟩; have n1_ : Aside0 (Kd.V k111 111 w57 w.heap.size (fun k_ => ((P0_1_ k_ ∨ P1_ k_) ∨ w.heap.size ≤ k_) ∧ k_ ≠ gb101 ∧ k_ ≠ gb102) (.slice A1 l1.length c1) l1) := ⟨d119_⟩; have n2_ : Aside0 (w57.heap[gb101]? = some (.cells #[.string a0_0, .slice A0_1 l0_1.length c0_1] 26 (0, 0))) := ⟨by rw [← hq_]; exact (zb_ BK101.out)⟩; have n3_ : Aside0 (w57.heap[gb102]? = some (.cells #[.string (⟨#[]⟩ : ByteArray), .slice none 0 0] 26 (0, 0))) := ⟨by rw [← hq_]; exact (zb_ BK102.out)⟩; have n4_ : Aside0 (Below w.heap.size w w57) := ⟨d120_⟩; clear HO0_1 HO1 BK101 BK102 HB hq_; have HO0_1 := n0_; have HO1 := n1_; have BK101 := n2_; have BK102 := n3_; have HB := n4_; clear n0_ n1_ n2_ n3_ n4_))))
 have n0_ := Aside0.mk (Kd.V_drew HO0_1.out)
 have n1_ := Aside0.mk (Kd.V_drew HO1.out)
 have n2_ := Aside0.mk (blk_drew BK101.out)
 have n3_ := Aside0.mk (blk_drew BK102.out)
 have n4_ := Aside0.mk (below_drew1 HB.out)
 clear HO0_1
 clear HO1
 clear BK101
 clear BK102
 clear HB
 have HO0_1 := n0_
 have HO1 := n1_
 have BK101 := n2_
 have BK102 := n3_
 have HB := n4_
 clear n0_ n1_ n2_ n3_ n4_
 refine start_ (n := 5) (S := fun w' => w'.cell? ⟨gb101, 0, none⟩ = some (.string a0_0) ∧ w'.cell? ⟨gb101, 1, none⟩ = some (.slice A0_1 l0_1.length c0_1)) (ds := []) #[false, false, false, false, false] (by kernel_rfl) rfl rfl ⟨(blk_cell BK101.out 0).trans rfl, (blk_cell BK101.out 1).trans rfl⟩ (fun hHeld => ?_)
 generalize w57.drew = w60 at HO0_1 HO1 BK101 BK102 HB hHeld ⊢
 refine pure_ (i := 0) (N := some 33) (v := ?_) (a' := ?_) #[true, false, false, false, false] rfl rfl (by kernel_rfl) (fun _ _ _ h => h) (Or.inl ⟨by rfl, ?_⟩) ?_ ?_
 rotate_left
 ·intro w'
  go_simp
  with_reducible rfl
 rotate_left
 ·simp only [Act.put, List.setIfInBounds_toArray, List.set_cons_zero, List.set_cons_succ, i64_w, i32_w]; rfl
 refine pure_ (i := 2) (N := some 10) (v := ?_) (a' := ?_) #[true, false, true, false, false] rfl rfl (by kernel_rfl) (fun _ _ _ h => h) (Or.inl ⟨by rfl, ?_⟩) ?_ ?_
 rotate_left
 ·intro w'
  go_simp
  with_reducible rfl
 rotate_left
 ·simp only [Act.put, List.setIfInBounds_toArray, List.set_cons_zero, List.set_cons_succ, i64_w, i32_w]; rfl
 refine take_ (i := 1) (N := some 34) (v := ?_) (a' := ?_) #[true, true, true, false, false] rfl rfl (by kernel_rfl) (fun _ _ _ h => h) (Or.inl ⟨by rfl, ?_⟩) hHeld ?_ ?_
 rotate_left
 ·rintro w' ⟨s0, s1⟩
  go_simp
  with_reducible rfl
 rotate_left
 ·simp only [Act.put, List.setIfInBounds_toArray, List.set_cons_zero, List.set_cons_succ, i64_w, i32_w]; rfl
 refine one_ (i := 3) (N := none) #[true, true, true, true, false] rfl rfl (by kernel_rfl) (by decide) (fun K hK => ?_)
 have hs61 : w60.cell? ⟨gb102, 0, none⟩ = some (.string (⟨#[]⟩ : ByteArray)) := (blk_cell BK102.out 0).trans rfl
 have hfs61 := blk_frozen BK102.out 0
 have hns61_0 := NB101_102.out
 have hms61_0 := NB102_101.out
 have hs62 : w60.cell? ⟨gb102, 1, none⟩ = some (.slice none 0 0) := (blk_cell BK102.out 1).trans rfl
 have hfs62 := blk_frozen BK102.out 1
 have hns62_0 := NB101_102.out
 have hms62_0 := NB102_101.out
 refine skip_ (w1 := ?_) (by rfl) rfl ?_ ?_
 rotate_left
 ·go_simp
  rfl
 refine hK.out _ _ ⟨((cell_far (p := ⟨gb102, _, none⟩) NB101_102.out _).trans (((cell_far (p := ⟨gb102, _, none⟩) NB101_102.out _).trans (hHeld.1)))), ((cell_far (p := ⟨gb102, _, none⟩) NB101_102.out _).trans (((cell_far (p := ⟨gb102, _, none⟩) NB101_102.out _).trans (hHeld.2))))⟩ (fun hHeld => ?_)
 clear hK K
 refine pure_ (i := 4) (N := some 12) (v := ?_) (a' := ?_) #[true, true, true, true, true] rfl rfl (by kernel_rfl) (fun _ _ _ h => h) (Or.inl ⟨by rfl, ?_⟩) ?_ ?_
 rotate_left
 ·intro w'
  go_simp
  with_reducible rfl
 rotate_left
 ·simp only [Act.put, List.setIfInBounds_toArray, List.set_cons_zero, List.set_cons_succ, i64_w, i32_w]; rfl
 refine done_ (by kernel_rfl) ?_
 try go_wp2
 refine bodyPost_ret (results_list (rs := [.tmp 10, .cell 11 26, .tmp 12]) rfl (by simp) (.tmp (.cell gb102 26 #[.string a0_0, .slice A0_1 l0_1.length c0_1] (0, 0) _ rfl d112_ Tryz.underlying26 rfl (by kernel_rfl) (.tmp .nil)))) rfl ?_
 exact ⟨_, _, d4_, by (with_reducible repeat (first | apply Kd.V_alloc | apply Kd.V_drewN | apply Kd.V_drew)); exact Kd.V_mono (Kd.V_far (p := ⟨gb102, 1, none⟩) (Kd.V_far (p := ⟨gb102, 0, none⟩) (Kd.V_mono HO1.out (fun k_ hk => (⟨hk, hk.2.2⟩ : _ ∧ k_ ≠ gb102))) (fun _ hk => hk.2) (.string a0_0)) (fun _ hk => hk.2) (.slice A0_1 l0_1.length c0_1)) (fun _ hk => hk.1.1), by (with_reducible repeat (first | apply Kd.V_alloc | apply Kd.V_drewN | apply Kd.V_drew)); exact Kd.V_mono (Kd.V_far (p := ⟨gb102, 1, none⟩) (Kd.V_far (p := ⟨gb102, 0, none⟩) (Kd.V_mono HO0_1.out (fun k_ hk => (⟨hk, hk.2.2⟩ : _ ∧ k_ ≠ gb102))) (fun _ hk => hk.2) (.string a0_0)) (fun _ hk => hk.2) (.slice A0_1 l0_1.length c0_1)) (fun _ hk => hk.1.1), d77_⟩
end
end Go.Proofs.YtfjbjiklohjodaaGreatDoor.Q
namespace Go.Proofs.YtfjbjiklohjodaaGreatDoor.Q
open Go.RowKit Go.Proofs.YtfjbjiklohjodaaGreatDoorW.PrintWords Go.Proofs.YtfjbjiklohjodaaGreatDoorW.PrintLast Go.Proofs.YtfjbjiklohjodaaGreatDoorW.PrintMore
attribute [local go_sem] max2_int min2_int max_two min_two max_three min_three max_four min_four
set_option linter.unusedVariables false
set_option linter.unusedSimpArgs false
noncomputable section
def impl_Stream_copied.f (a0_0 : ByteArray) (l0_1 : List (S109)) : Option (ByteArray × (List (S109))) := (slices_Clone_Part.f l0_1).bind fun t103 => ((slices_Clip_Part.f t103).bind fun t106 => (some (a0_0, t106)))
def impl_Stream_copied.T1 : Bool × List (List Nat × List Nat) := (true, [([], []), ([0], [0]), ([], []), ([2], [2]), ([3], [3]), ([4, 4], [4]), ([1, 5], [1, 5]), ([6, 5, 0, 1, 2, 3, 4, 5, 6], [6])])
def impl_Stream_copied.B1 : List Nat := [0, 1, 0, 4, 12, 28, 63, 127]
theorem impl_Stream_copied.tab1 : rtab .any (opsOf Tryz.f71 1) = impl_Stream_copied.T1 := by kernel_rfl
theorem impl_Stream_copied.bits1 : waitsOk impl_Stream_copied.T1.2 impl_Stream_copied.B1 = true := by kernel_rfl
set_option maxHeartbeats 8000000 in
set_option maxRecDepth 100000 in
theorem impl_Stream_copied.calls (a0_0 : ByteArray) (A0_1 : Option Addr) (c0_1 : Nat) (l0_1 : List (S109)) (r1 : ByteArray) (r2 : List (S109)) (w : World) (hr0_1 : Kd.C k109 w A0_1 l0_1.length l0_1) (hc0_1 : l0_1.length ≤ c0_1) (h : impl_Stream_copied.f a0_0 l0_1 = some (r1, r2)) :
  Calls Tryz.prog 71 #[.agg #[.string a0_0, .slice A0_1 l0_1.length c0_1]] w fun e w' => ∃ v1_ : Value, e = .returned (.agg #[.string r1, v1_]) ∧ Kd.V k109 109 w' w.heap.size (fun k_ => (w.heap.size ≤ k_)) v1_ r2 ∧ Below w.heap.size w w' := by
 have hu26 := Tryz.underlying26
 have HR0_1 := Aside0.mk hr0_1
 have HC0_1 := Aside0.mk hc0_1
 clear hr0_1 hc0_1
 have HB := Aside0.mk (Below.refl w.heap.size w)
 have H : ((slices_Clone_Part.f l0_1).bind fun t103 => ((slices_Clip_Part.f t103).bind fun t106 => (some (a0_0, t106)))) = some (r1, r2) := h
 clear h
 obtain ⟨t103, A2, H⟩ := zH_ H
 obtain ⟨t106, A3, H⟩ := zH_ H
 simp only [Option.some.injEq, Prod.mk.injEq] at H
 obtain ⟨rfl, rfl⟩ := H
 go_enter Tryz.func71, Tryz.ntmps71
 try go_wp2_with (first | ((with_reducible refine gate_dst (N := 1) rfl ?_); refine zx_ (N := 1) #[.string a0_0, .slice A0_1 l0_1.length c0_1] 26 ?_; intro gb101 hg w4 hbox hb; have BK101 := A_ hbox; have GW101 := A_ ((d0_ : w.heap.size ≤ gb101)); have GE101 := A_ ((d0_ : w.heap.size ≤ gb101)); replace HB := A_ (below_step (zB_ HB.out) hb); clear hb hbox hg) | ((with_reducible refine gate_dst (N := 2) rfl ?_); refine zx_ (N := 2) #[.string (⟨#[]⟩ : ByteArray), .slice none 0 0] 26 ?_; intro gb102 hg w5 hbox hb; have BK102 := A_ hbox; have GW102 := A_ ((d6_ : w.heap.size ≤ gb102)); have GE102 := A_ ((d6_ : w.heap.size ≤ gb102)); replace HB := A_ (below_step d1_ hb); have NB101_102 := A_ ((d109_ : gb101 ≠ gb102)); have NB102_101 := A_ ((d110_ : gb102 ≠ gb101)); replace BK101 := A_ (blk_below (g := gb101) (o := .cells #[.string a0_0, .slice A0_1 l0_1.length c0_1] 26 (0, 0)) (zb_ BK101.out) hb); clear hb hbox hg))
 have n0_ := Aside0.mk (blk_drew BK101.out)
 have n1_ := Aside0.mk (blk_drew BK102.out)
 have n2_ := Aside0.mk (below_drew1 HB.out)
 clear BK101
 clear BK102
 clear HB
 have BK101 := n0_
 have BK102 := n1_
 have HB := n2_
 clear n0_ n1_ n2_
 refine start_ (n := 8) (S := fun w' => w'.cell? ⟨gb101, 0, none⟩ = some (.string a0_0) ∧ w'.cell? ⟨gb101, 1, none⟩ = some (.slice A0_1 l0_1.length c0_1)) (ds := []) #[false, false, false, false, false, false, false, false] (by kernel_rfl) rfl rfl ⟨(blk_cell BK101.out 0).trans rfl, (blk_cell BK101.out 1).trans rfl⟩ (fun hHeld => ?_); refine with_tabW impl_Stream_copied.tab1 impl_Stream_copied.bits1 (fun HT_ HW_ => ?_)
 generalize w5.drew = w6 at BK101 BK102 HB hHeld ⊢
 refine zP_ HT_ 0 (some 3) ?_
 refine zP_ HT_ 2 (some 5) ?_
 refine zT_ HT_ HW_ hHeld 1 (some 4) ?_
 refine zT_ HT_ HW_ hHeld 3 (some 6) ?_
 refine one_ (i := 4) (N := some 7) #[true, true, true, true, true, false, false, false] rfl rfl (one_of HT_.out (by kernel_rfl)) (by decide) (fun K hK => ?_)
 refine goes_ Tryz.func126 (by kernel_rfl) rfl #[.slice A0_1 l0_1.length c0_1] (by rfl) rfl rfl za_ ?_
 with_reducible refine (slices_Clone_Part.calls _ _ l0_1 t103 _ ?side1 ?side2 A2.out).mono ?_
 (case side1 => exact d111_)
 (case side2 => exact HC0_1.out)
 rintro e w7 ⟨v104, rfl, ho0, hb⟩
 refine ⟨_, rfl, ?_⟩
 have n0_ := Aside0.mk (Kd.R_lower (Kd.R_newM (M := fun k_ => (w.heap.size ≤ k_)) ho0 (below_size d77_) (fun k_ h_ => h_)) (below_size d77_))
 have n1_ := Aside0.mk (blk_below (g := gb101) (o := .cells #[.string a0_0, .slice A0_1 l0_1.length c0_1] 26 (0, 0)) (zb_ BK101.out) hb)
 have n2_ := Aside0.mk (blk_below (g := gb102) (o := .cells #[.string (⟨#[]⟩ : ByteArray), .slice none 0 0] 26 (0, 0)) (zb_ BK102.out) hb)
 have n3_ := Aside0.mk (below_step d77_ hb)
 clear BK101
 clear BK102
 clear HB
 have HO105 := n0_
 have BK101 := n1_
 have BK102 := n2_
 have HB := n3_
 clear n0_ n1_ n2_ n3_
 (try clear hb)
 (try clear hb2)
 (try clear hk)
 (try clear hi)
 (try clear ho0)
 obtain ⟨Ao8, co8, eo8⟩ := Kd.R_slice HO105.out
 (first | subst eo8 | (injection eo8 with f1_ f2_ f3_; have f4_ := f1_.symm; have f5_ := f3_.symm; clear f1_ f2_ f3_; subst f4_; subst f5_))
 refine hK.out _ _ ⟨(blk_cell BK101.out 0).trans rfl, (blk_cell BK101.out 1).trans rfl⟩ (fun hHeld => ?_)
 clear hK K
 refine norm_ (a' := ?_) ?_ ?_
 rotate_left
 ·show Act.put _ (some 7) _ = _
  simp only [Act.put, List.setIfInBounds_toArray, List.set_cons_zero, List.set_cons_succ, i64_w, i32_w]; rfl
 refine one_ (i := 5) (N := some 8) #[true, true, true, true, true, true, false, false] rfl rfl (one_of HT_.out (by kernel_rfl)) (by decide) (fun K hK => ?_)
 refine goes_ Tryz.func129 (by kernel_rfl) rfl #[.slice Ao8 t103.length co8] (by rfl) rfl rfl za_ ?_
 with_reducible refine (slices_Clip_Part.calls (fun k_ => some k_ = (.slice Ao8 t103.length co8 : Value).ownBlock) _ _ t103 t106 _ ?side1 A3.out).mono ?_
 (case side1 => exact Kd.R_V (Kd.R_tight rfl (Kd.R_types (Kd.R_types (HO105.out) BK101.out (by decide)) BK102.out (by decide))))
 rintro e w9 ⟨v107, rfl, ho0, hb⟩
 refine ⟨_, rfl, ?_⟩
 have n0_ := Aside0.mk (Kd.R_below (zR_ HO105.out) hb)
 have n1_ := Aside0.mk (Kd.V_lower (Kd.V_mono (ok' := fun k_ => (w.heap.size ≤ k_) ∧ k_ ≠ gb101 ∧ k_ ≠ gb102) ho0 (fun k_ hk_ => ⟨Or.elim hk_ (fun hs_ => ((Kd.R_types (Kd.R_types (HO105.out) BK101.out (by decide)) BK102.out (by decide)).1 k_ hs_.symm).1.1.1) (fun hn_ => (Nat.le_trans (below_size d77_) hn_)), Or.elim hk_ (fun hs_ => ((Kd.R_types (Kd.R_types (HO105.out) BK101.out (by decide)) BK102.out (by decide)).1 k_ hs_.symm).1.2) (fun hn_ => (Kd.freshB (g := gb101) (o := .cells #[.string a0_0, .slice A0_1 l0_1.length c0_1] 26 (0, 0)) (zb_ BK101.out) k_ hn_)), Or.elim hk_ (fun hs_ => ((Kd.R_types (Kd.R_types (HO105.out) BK101.out (by decide)) BK102.out (by decide)).1 k_ hs_.symm).2) (fun hn_ => (Kd.freshB (g := gb102) (o := .cells #[.string (⟨#[]⟩ : ByteArray), .slice none 0 0] 26 (0, 0)) (zb_ BK102.out) k_ hn_))⟩)) (below_size d77_))
 have n2_ := Aside0.mk (blk_below (g := gb101) (o := .cells #[.string a0_0, .slice A0_1 l0_1.length c0_1] 26 (0, 0)) (zb_ BK101.out) hb)
 have n3_ := Aside0.mk (blk_below (g := gb102) (o := .cells #[.string (⟨#[]⟩ : ByteArray), .slice none 0 0] 26 (0, 0)) (zb_ BK102.out) hb)
 have n4_ := Aside0.mk (below_step d77_ hb)
 clear HO105
 clear BK101
 clear BK102
 clear HB
 have HO105 := n0_
 have HO108 := n1_
 have BK101 := n2_
 have BK102 := n3_
 have HB := n4_
 clear n0_ n1_ n2_ n3_ n4_
 (try clear hb)
 (try clear hb2)
 (try clear hk)
 (try clear hi)
 (try clear ho0)
 obtain ⟨Ao10, co10, eo10⟩ := Kd.V_slice HO108.out
 (first | subst eo10 | (injection eo10 with f1_ f2_ f3_; have f4_ := f1_.symm; have f5_ := f3_.symm; clear f1_ f2_ f3_; subst f4_; subst f5_))
 refine hK.out _ _ ⟨(blk_cell BK101.out 0).trans rfl, (blk_cell BK101.out 1).trans rfl⟩ (fun hHeld => ?_)
 clear hK K
 refine norm_ (a' := ?_) ?_ ?_
 rotate_left
 ·show Act.put _ (some 8) _ = _
  simp only [Act.put, List.setIfInBounds_toArray, List.set_cons_zero, List.set_cons_succ, i64_w, i32_w]; rfl
 refine zP_ HT_ 6 (some 9) ?_
 refine one_ (i := 7) (N := none) #[true, true, true, true, true, true, true, true] rfl rfl (one_of HT_.out (by kernel_rfl)) (by decide) (fun K hK => ?_)
 have hs11 : w9.cell? ⟨gb102, 0, none⟩ = some (.string (⟨#[]⟩ : ByteArray)) := (blk_cell BK102.out 0).trans rfl
 have hfs11 := blk_frozen BK102.out 0
 have hns11_0 := NB101_102.out
 have hms11_0 := NB102_101.out
 have hs12 : w9.cell? ⟨gb102, 1, none⟩ = some (.slice none 0 0) := (blk_cell BK102.out 1).trans rfl
 have hfs12 := blk_frozen BK102.out 1
 have hns12_0 := NB101_102.out
 have hms12_0 := NB102_101.out
 refine skip_ (w1 := ?_) (by rfl) rfl ?_ ?_
 rotate_left
 ·go_simp
  rfl
 refine hK.out _ _ ⟨((cell_far (p := ⟨gb102, _, none⟩) NB101_102.out _).trans (((cell_far (p := ⟨gb102, _, none⟩) NB101_102.out _).trans (hHeld.1)))), ((cell_far (p := ⟨gb102, _, none⟩) NB101_102.out _).trans (((cell_far (p := ⟨gb102, _, none⟩) NB101_102.out _).trans (hHeld.2))))⟩ (fun hHeld => ?_)
 clear hK K
 refine done_ (done_of HT_.out (by kernel_rfl)) ?_
 try go_wp2
 refine bodyPost_ret (results_cell_row rfl _ _ gb102 26 #[.string a0_0, .slice Ao10 t106.length co10] (0, 0) _ rfl d112_ Tryz.underlying26 rfl (by kernel_rfl)) rfl ?_
 exact ⟨_, d4_, by (with_reducible repeat (first | apply Kd.V_alloc | apply Kd.V_drewN | apply Kd.V_drew)); exact Kd.V_mono (Kd.V_far (p := ⟨gb102, 1, none⟩) (Kd.V_far (p := ⟨gb102, 0, none⟩) (Kd.V_mono HO108.out (fun k_ hk => (⟨hk, hk.2.2⟩ : _ ∧ k_ ≠ gb102))) (fun _ hk => hk.2) (.string a0_0)) (fun _ hk => hk.2) (.slice Ao10 t106.length co10)) (fun _ hk => hk.1.1), d77_⟩
end
end Go.Proofs.YtfjbjiklohjodaaGreatDoor.Q
namespace Go.Proofs.YtfjbjiklohjodaaGreatDoor.Q
open Go.RowKit Go.Proofs.YtfjbjiklohjodaaGreatDoorW.PrintWords Go.Proofs.YtfjbjiklohjodaaGreatDoorW.PrintLast Go.Proofs.YtfjbjiklohjodaaGreatDoorW.PrintMore Go.Proofs.YtfjbjiklohjodaaGreatDoor.Z
attribute [local go_sem] max2_int min2_int max_two min_two max_three min_three max_four min_four
set_option linter.unusedVariables false
set_option linter.unusedSimpArgs false
noncomputable section
def impl_StreamPut.j0 : Nat → List (S111) → Int → ByteArray → Bool → Bool → ByteArray → List (S109) → Option ((List (S111)) × ByteArray × (List (S109)) × Bool)
 | 0, _, _, _, _, _, _, _ => none
 | k + 1, x0, x2, x3, x4, x33, x102000, x102001 => if x33 = true then (some (([] : List (S111)), (⟨#[]⟩ : ByteArray), ([] : List (S109)), false)) else ((impl_Stream_put.f k x102000 x102001 x0 x2 x3 x4).bind fun bt107 => ((impl_pairs_copied.f bt107.1).bind fun t116 => ((impl_Stream_copied.f bt107.2.1 bt107.2.2.1).bind fun bt119 => (some (t116, bt119.1, bt119.2, bt107.2.2.2)))))
def impl_StreamPut.f (k : Nat) (l0 : List (S111)) (a1_0 : ByteArray) (l1_1 : List (S109)) (a2 : Int) (a3 : ByteArray) (a4 : Bool) : Option ((List (S111)) × ByteArray × (List (S109)) × Bool) := (impl_MapOk.f l0).bind fun t103 => (if t103 = true then ((impl_StreamOk.f k a1_0 l1_1).bind fun t104 => (if t104 = true then ((impl_TextOk.f a3).bind fun t105 => (if t105 = true then ((impl_within.f a2 0 40).bind fun t106 => (impl_StreamPut.j0 k l0 a2 a3 a4 (!t106) a1_0 l1_1)) else (impl_StreamPut.j0 k l0 a2 a3 a4 true a1_0 l1_1))) else (impl_StreamPut.j0 k l0 a2 a3 a4 true a1_0 l1_1))) else (impl_StreamPut.j0 k l0 a2 a3 a4 true a1_0 l1_1))
def impl_StreamPut.T4 : Bool × List (List Nat × List Nat) := (true, [([], []), ([0], [0]), ([], []), ([2, 1], [2]), ([], []), ([1, 3, 0, 1], [1]), ([3, 5, 0, 1, 2, 3, 5], [3]), ([4, 6, 0, 1, 2, 3, 4, 5, 6], [4])])
def impl_StreamPut.B4 : List Nat := [0, 1, 0, 7, 0, 15, 47, 127]
theorem impl_StreamPut.tab4 : rtab .any (opsOf Tryz.f17 4) = impl_StreamPut.T4 := by kernel_rfl
theorem impl_StreamPut.bits4 : waitsOk impl_StreamPut.T4.2 impl_StreamPut.B4 = true := by kernel_rfl
set_option maxHeartbeats 8000000 in
set_option maxRecDepth 100000 in
theorem impl_StreamPut.calls (k : Nat) (P0_ : Nat → Prop) (A0 : Option Addr) (c0 : Nat) (l0 : List (S111)) (a1_0 : ByteArray) (P1_1_ : Nat → Prop) (A1_1 : Option Addr) (c1_1 : Nat) (l1_1 : List (S109)) (a2 : Int) (a3 : ByteArray) (a4 : Bool) (r1 : List (S111)) (r2 : ByteArray) (r3 : List (S109)) (r4 : Bool) (w : World) (hs0 : Kd.V k111 111 w w.heap.size (fun k_ => P0_ k_) (.slice A0 l0.length c0) l0) (hs1_1 : Kd.V k109 109 w w.heap.size (fun k_ => P1_1_ k_) (.slice A1_1 l1_1.length c1_1) l1_1) (hV : VarsIn w) (h : impl_StreamPut.f k l0 a1_0 l1_1 a2 a3 a4 = some (r1, r2, r3, r4)) :
  Calls Tryz.prog 17 #[.slice A0 l0.length c0, .agg #[.string a1_0, .slice A1_1 l1_1.length c1_1], .int .i64 a2, .string a3, .bool a4] w fun e w' => ∃ v0_ v2_ : Value, e = .returned (.tuple #[v0_, .agg #[.string r2, v2_], .bool r4]) ∧ Kd.V k111 111 w' w.heap.size (fun k_ => ((P0_ k_ ∨ P1_1_ k_) ∨ w.heap.size ≤ k_)) v0_ r1 ∧ Kd.V k109 109 w' w.heap.size (fun k_ => ((P0_ k_ ∨ P1_1_ k_) ∨ w.heap.size ≤ k_)) v2_ r3 ∧ Below w.heap.size w w' := by
 have hu26 := Tryz.underlying26
 have HO0 := Aside0.mk (show Kd.V k111 111 w w.heap.size (fun k_ => ((P0_ k_ ∨ P1_1_ k_) ∨ w.heap.size ≤ k_)) (.slice A0 l0.length c0) l0 from Kd.V_mono hs0 (fun k_ hk => .inl (.inl hk)))
 have HO1_1 := Aside0.mk (show Kd.V k109 109 w w.heap.size (fun k_ => ((P0_ k_ ∨ P1_1_ k_) ∨ w.heap.size ≤ k_)) (.slice A1_1 l1_1.length c1_1) l1_1 from Kd.V_mono hs1_1 (fun k_ hk => .inl (.inr hk)))
 have HB := Aside0.mk (Below.refl w.heap.size w)
 have H : ((impl_MapOk.f l0).bind fun t103 => (if t103 = true then ((impl_StreamOk.f k a1_0 l1_1).bind fun t104 => (if t104 = true then ((impl_TextOk.f a3).bind fun t105 => (if t105 = true then ((impl_within.f a2 0 40).bind fun t106 => (impl_StreamPut.j0 k l0 a2 a3 a4 (!t106) a1_0 l1_1)) else (impl_StreamPut.j0 k l0 a2 a3 a4 true a1_0 l1_1))) else (impl_StreamPut.j0 k l0 a2 a3 a4 true a1_0 l1_1))) else (impl_StreamPut.j0 k l0 a2 a3 a4 true a1_0 l1_1))) = some (r1, r2, r3, r4) := h
 clear h
 have HC6 := Aside0.mk H
 clear H
 go_enter Tryz.func17, Tryz.ntmps17
 go_upto_region 1 with (first | ((with_reducible refine gate_dst (N := 6) rfl ?_); refine zx_ (N := 6) #[.string a1_0, .slice A1_1 l1_1.length c1_1] 26 ?_; intro gb101 hg w7 hbox hb; replace HO0 := A_ (Kd.V_below (Kd.V_elderB (zv_ HO0.out) gb101 (Nat.le_of_eq hg.symm)) hb); replace HO1_1 := A_ (Kd.V_below (Kd.V_elderB (zv_ HO1_1.out) gb101 (Nat.le_of_eq hg.symm)) hb); have BK101 := A_ hbox; have GW101 := A_ ((d0_ : w.heap.size ≤ gb101)); have GE101 := A_ ((d0_ : w.heap.size ≤ gb101)); replace HB := A_ (below_step (zB_ HB.out) hb); clear hb hbox hg) | ((with_reducible refine gate_dst (N := 11) rfl ?_); refine zx_ (N := 11) #[.string (⟨#[]⟩ : ByteArray), .slice none 0 0] 26 ?_; intro gb102 hg w8 hbox hb; replace HO0 := A_ (Kd.V_below (Kd.V_elderB (zv_ HO0.out) gb102 (Nat.le_of_eq hg.symm)) hb); replace HO1_1 := A_ (Kd.V_below (Kd.V_elderB (zv_ HO1_1.out) gb102 (Nat.le_of_eq hg.symm)) hb); have BK102 := A_ hbox; have GW102 := A_ ((d6_ : w.heap.size ≤ gb102)); have GE102 := A_ ((d6_ : w.heap.size ≤ gb102)); replace HB := A_ (below_step d1_ hb); have NB101_102 := A_ ((d113_ : gb101 ≠ gb102)); have NB102_101 := A_ ((d114_ : gb102 ≠ gb101)); replace BK101 := A_ (blk_below (g := gb101) (o := .cells #[.string a1_0, .slice A1_1 l1_1.length c1_1] 26 (0, 0)) (zb_ BK101.out) hb); clear hb hbox hg))
 (try simp only [Act.put, List.setIfInBounds_toArray, List.set_cons_zero, List.set_cons_succ])
 go_cut [33] (fun v33 wc => ∃ (kq : Nat) (x33_5 : Bool), v33 = .bool x33_5 ∧ Aside0 (impl_StreamPut.j0 kq l0 a2 a3 a4 x33_5 a1_0 l1_1 = some (r1, r2, r3, r4)) ∧ Aside0 (kq ≤ k) ∧ Aside0 (Kd.V k111 111 wc w.heap.size (fun k_ => ((P0_ k_ ∨ P1_1_ k_) ∨ w.heap.size ≤ k_) ∧ k_ ≠ gb101 ∧ k_ ≠ gb102) (.slice A0 l0.length c0) l0) ∧ Aside0 (Kd.V k109 109 wc w.heap.size (fun k_ => ((P0_ k_ ∨ P1_1_ k_) ∨ w.heap.size ≤ k_) ∧ k_ ≠ gb101 ∧ k_ ≠ gb102) (.slice A1_1 l1_1.length c1_1) l1_1) ∧ Aside0 (wc.heap[gb101]? = some (.cells #[.string a1_0, (.slice A1_1 l1_1.length c1_1)] 26 (0, 0))) ∧ Aside0 (wc.heap[gb102]? = some (.cells #[.string (⟨#[]⟩ : ByteArray), (.slice none 0 0)] 26 (0, 0))) ∧ Aside0 (Below w.heap.size w wc))
 case first =>
  have H := HC6.out; clear HC6; obtain ⟨t103, A9, H⟩ := zH_ H
  by_cases c10 : t103 = true
  ·subst c10; rw [if_pos rfl] at H; obtain ⟨t104, A11, H⟩ := zH_ H
   by_cases c12 : t104 = true
   ·subst c12; rw [if_pos rfl] at H; obtain ⟨t105, A13, H⟩ := zH_ H
    by_cases c14 : t105 = true
    ·subst c14; rw [if_pos rfl] at H; obtain ⟨t106, A15, H⟩ := zH_ H; have H' := Aside0.mk H; clear H
     go_wp2_with (first | ((with_reducible refine gate_callee (f := 23) rfl ?_); refine zc_ (some 17) Tryz.func23 #[.slice A0 l0.length c0] ?_; (with_reducible refine (impl_MapOk.calls _ _ l0 true _ ?side1 ?side2 A9.out).mono ?_); (case side1 => exact d39_); (case side2 => exact d40_); rintro e w16 ⟨rfl, hb⟩; refine ⟨_, rfl, ?_⟩; replace HO0 := A_ (Kd.V_below (zv_ HO0.out) hb); replace HO1_1 := A_ (Kd.V_below (zv_ HO1_1.out) hb); replace BK101 := A_ (blk_below (g := gb101) (o := .cells #[.string a1_0, .slice A1_1 l1_1.length c1_1] 26 (0, 0)) (zb_ BK101.out) hb); replace BK102 := A_ (blk_below (g := gb102) (o := .cells #[.string (⟨#[]⟩ : ByteArray), .slice none 0 0] 26 (0, 0)) (zb_ BK102.out) hb); replace HB := A_ (below_step d77_ hb); (try clear hb); have hnb17 := NB101_102.out; have hnc17 := NB102_101.out; have hcz18_0 : w16.cell? ⟨gb101, 0, none⟩ = some (.string a1_0) := (blk_cell BK101.out 0).trans rfl; have hcz18_1 : w16.cell? ⟨gb101, 1, none⟩ = some (.slice A1_1 l1_1.length c1_1) := (blk_cell BK101.out 1).trans rfl; have hfz18_0 := blk_frozen BK101.out 0; have hfz18_1 := blk_frozen BK101.out 1) | (go_at_call 25; (with_reducible refine (impl_StreamOk.calls k a1_0 _ _ l1_1 true _ ?side1 ?side2 ?side3 A11.out).mono ?_); (case side1 => exact d124_); (case side2 => exact (Kd.V_reads' HO1_1.out).2.1); (case side3 => exact d121_); rintro e w19 ⟨rfl, hb⟩; replace HO0 := A_ (Kd.V_below (zv_ HO0.out) hb); replace HO1_1 := A_ (Kd.V_below (zv_ HO1_1.out) hb); replace BK101 := A_ (blk_below (g := gb101) (o := .cells #[.string a1_0, .slice A1_1 l1_1.length c1_1] 26 (0, 0)) (zb_ BK101.out) hb); replace BK102 := A_ (blk_below (g := gb102) (o := .cells #[.string (⟨#[]⟩ : ByteArray), .slice none 0 0] 26 (0, 0)) (zb_ BK102.out) hb); replace HB := A_ (below_step d77_ hb); (try clear hb); (try clear hi)) | (go_at_call 67; (with_reducible refine (impl_TextOk.calls a3 true _ A13.out).mono ?_); rintro e w20 ⟨rfl, hb⟩; replace HO0 := A_ (Kd.V_below (zv_ HO0.out) hb); replace HO1_1 := A_ (Kd.V_below (zv_ HO1_1.out) hb); replace BK101 := A_ (blk_below (g := gb101) (o := .cells #[.string a1_0, .slice A1_1 l1_1.length c1_1] 26 (0, 0)) (zb_ BK101.out) hb); replace BK102 := A_ (blk_below (g := gb102) (o := .cells #[.string (⟨#[]⟩ : ByteArray), .slice none 0 0] 26 (0, 0)) (zb_ BK102.out) hb); replace HB := A_ (below_step d77_ hb); (try clear hb); (try clear hi)) | (go_at_call 68; (with_reducible refine (impl_within.calls a2 0 40 t106 _ A15.out).mono ?_); rintro e w' ⟨rfl, ⟨nd, rfl⟩⟩))
     go_meet
     case rel => exact ⟨_, (!t106), zs_, H', ⟨d2_⟩, ⟨d125_⟩, ⟨d126_⟩, ⟨d3_⟩, ⟨d56_⟩, ⟨d77_⟩⟩
    replace c14 := Bool.eq_false_iff.mpr c14; subst c14; rw [if_neg (show ¬ (false = true) by decide)] at H; have H' := Aside0.mk H; clear H
    go_wp2_with (first | ((with_reducible refine gate_callee (f := 23) rfl ?_); refine zc_ (some 17) Tryz.func23 #[.slice A0 l0.length c0] ?_; (with_reducible refine (impl_MapOk.calls _ _ l0 true _ ?side1 ?side2 A9.out).mono ?_); (case side1 => exact d39_); (case side2 => exact d40_); rintro e w21 ⟨rfl, hb⟩; refine ⟨_, rfl, ?_⟩; replace HO0 := A_ (Kd.V_below (zv_ HO0.out) hb); replace HO1_1 := A_ (Kd.V_below (zv_ HO1_1.out) hb); replace BK101 := A_ (blk_below (g := gb101) (o := .cells #[.string a1_0, .slice A1_1 l1_1.length c1_1] 26 (0, 0)) (zb_ BK101.out) hb); replace BK102 := A_ (blk_below (g := gb102) (o := .cells #[.string (⟨#[]⟩ : ByteArray), .slice none 0 0] 26 (0, 0)) (zb_ BK102.out) hb); replace HB := A_ (below_step d77_ hb); (try clear hb); have hnb22 := NB101_102.out; have hnc22 := NB102_101.out; have hcz23_0 : w21.cell? ⟨gb101, 0, none⟩ = some (.string a1_0) := (blk_cell BK101.out 0).trans rfl; have hcz23_1 : w21.cell? ⟨gb101, 1, none⟩ = some (.slice A1_1 l1_1.length c1_1) := (blk_cell BK101.out 1).trans rfl; have hfz23_0 := blk_frozen BK101.out 0; have hfz23_1 := blk_frozen BK101.out 1) | (go_at_call 25; (with_reducible refine (impl_StreamOk.calls k a1_0 _ _ l1_1 true _ ?side1 ?side2 ?side3 A11.out).mono ?_); (case side1 => exact d124_); (case side2 => exact (Kd.V_reads' HO1_1.out).2.1); (case side3 => exact d121_); rintro e w24 ⟨rfl, hb⟩; replace HO0 := A_ (Kd.V_below (zv_ HO0.out) hb); replace HO1_1 := A_ (Kd.V_below (zv_ HO1_1.out) hb); replace BK101 := A_ (blk_below (g := gb101) (o := .cells #[.string a1_0, .slice A1_1 l1_1.length c1_1] 26 (0, 0)) (zb_ BK101.out) hb); replace BK102 := A_ (blk_below (g := gb102) (o := .cells #[.string (⟨#[]⟩ : ByteArray), .slice none 0 0] 26 (0, 0)) (zb_ BK102.out) hb); replace HB := A_ (below_step d77_ hb); (try clear hb); (try clear hi)) | (go_at_call 67; (with_reducible refine (impl_TextOk.calls a3 false _ A13.out).mono ?_); rintro e w25 ⟨rfl, hb⟩; replace HO0 := A_ (Kd.V_below (zv_ HO0.out) hb); replace HO1_1 := A_ (Kd.V_below (zv_ HO1_1.out) hb); replace BK101 := A_ (blk_below (g := gb101) (o := .cells #[.string a1_0, .slice A1_1 l1_1.length c1_1] 26 (0, 0)) (zb_ BK101.out) hb); replace BK102 := A_ (blk_below (g := gb102) (o := .cells #[.string (⟨#[]⟩ : ByteArray), .slice none 0 0] 26 (0, 0)) (zb_ BK102.out) hb); replace HB := A_ (below_step d77_ hb); (try clear hb); (try clear hi)))
    go_meet
    case rel => exact ⟨_, (true), zs_, H', ⟨d2_⟩, ⟨d125_⟩, ⟨d126_⟩, ⟨d3_⟩, ⟨d56_⟩, ⟨d77_⟩⟩
   replace c12 := Bool.eq_false_iff.mpr c12; subst c12; rw [if_neg (show ¬ (false = true) by decide)] at H; have H' := Aside0.mk H; clear H
   go_wp2_with (first | ((with_reducible refine gate_callee (f := 23) rfl ?_); refine zc_ (some 17) Tryz.func23 #[.slice A0 l0.length c0] ?_; (with_reducible refine (impl_MapOk.calls _ _ l0 true _ ?side1 ?side2 A9.out).mono ?_); (case side1 => exact d39_); (case side2 => exact d40_); rintro e w26 ⟨rfl, hb⟩; refine ⟨_, rfl, ?_⟩; replace HO0 := A_ (Kd.V_below (zv_ HO0.out) hb); replace HO1_1 := A_ (Kd.V_below (zv_ HO1_1.out) hb); replace BK101 := A_ (blk_below (g := gb101) (o := .cells #[.string a1_0, .slice A1_1 l1_1.length c1_1] 26 (0, 0)) (zb_ BK101.out) hb); replace BK102 := A_ (blk_below (g := gb102) (o := .cells #[.string (⟨#[]⟩ : ByteArray), .slice none 0 0] 26 (0, 0)) (zb_ BK102.out) hb); replace HB := A_ (below_step d77_ hb); (try clear hb); have hnb27 := NB101_102.out; have hnc27 := NB102_101.out; have hcz28_0 : w26.cell? ⟨gb101, 0, none⟩ = some (.string a1_0) := (blk_cell BK101.out 0).trans rfl; have hcz28_1 : w26.cell? ⟨gb101, 1, none⟩ = some (.slice A1_1 l1_1.length c1_1) := (blk_cell BK101.out 1).trans rfl; have hfz28_0 := blk_frozen BK101.out 0; have hfz28_1 := blk_frozen BK101.out 1) | (go_at_call 25; (with_reducible refine (impl_StreamOk.calls k a1_0 _ _ l1_1 false _ ?side1 ?side2 ?side3 A11.out).mono ?_); (case side1 => exact d124_); (case side2 => exact (Kd.V_reads' HO1_1.out).2.1); (case side3 => exact d121_); rintro e w29 ⟨rfl, hb⟩; replace HO0 := A_ (Kd.V_below (zv_ HO0.out) hb); replace HO1_1 := A_ (Kd.V_below (zv_ HO1_1.out) hb); replace BK101 := A_ (blk_below (g := gb101) (o := .cells #[.string a1_0, .slice A1_1 l1_1.length c1_1] 26 (0, 0)) (zb_ BK101.out) hb); replace BK102 := A_ (blk_below (g := gb102) (o := .cells #[.string (⟨#[]⟩ : ByteArray), .slice none 0 0] 26 (0, 0)) (zb_ BK102.out) hb); replace HB := A_ (below_step d77_ hb); (try clear hb); (try clear hi)))
   go_meet
   case rel => exact ⟨_, (true), zs_, H', ⟨d2_⟩, ⟨d125_⟩, ⟨d126_⟩, ⟨d3_⟩, ⟨d56_⟩, ⟨d77_⟩⟩
  replace c10 := Bool.eq_false_iff.mpr c10; subst c10; rw [if_neg (show ¬ (false = true) by decide)] at H; have H' := Aside0.mk H; clear H
  go_wp2_with (first | ((with_reducible refine gate_callee (f := 23) rfl ?_); refine zc_ (some 17) Tryz.func23 #[.slice A0 l0.length c0] ?_; (with_reducible refine (impl_MapOk.calls _ _ l0 false _ ?side1 ?side2 A9.out).mono ?_); (case side1 => exact d39_); (case side2 => exact d40_); rintro e w30 ⟨rfl, hb⟩; refine ⟨_, rfl, ?_⟩; replace HO0 := A_ (Kd.V_below (zv_ HO0.out) hb); replace HO1_1 := A_ (Kd.V_below (zv_ HO1_1.out) hb); replace BK101 := A_ (blk_below (g := gb101) (o := .cells #[.string a1_0, .slice A1_1 l1_1.length c1_1] 26 (0, 0)) (zb_ BK101.out) hb); replace BK102 := A_ (blk_below (g := gb102) (o := .cells #[.string (⟨#[]⟩ : ByteArray), .slice none 0 0] 26 (0, 0)) (zb_ BK102.out) hb); replace HB := A_ (below_step d77_ hb); (try clear hb); (try clear hi)))
  go_meet
  case rel => exact ⟨_, (true), zs_, H', ⟨d2_⟩, ⟨d125_⟩, ⟨d126_⟩, ⟨d3_⟩, ⟨d56_⟩, ⟨d77_⟩⟩
 case rest =>
  clear HC6
  try clear c1
  try clear c2
  try clear p2
  try clear c10
  try clear c12
  try clear c14
  try clear c17
  try clear c22
  try clear c23
  try clear c27
  try clear hcz18_0
  try clear hcz18_1
  try clear hcz23_0
  try clear hcz23_1
  try clear hcz28_0
  try clear hcz28_1
  try clear hfz18_0
  try clear hfz18_1
  try clear hfz23_0
  try clear hfz23_1
  try clear hfz28_0
  try clear hfz28_1
  obtain ⟨kq, x33_5, rfl, HA, HJ5, HO_0, HO_102001, BK101, BK102, HB⟩ := hcut
  cases kq with
  | zero => exact absurd HA.out (by simp [impl_StreamPut.j0])
  | succ kj5 =>
   have H := HA.out; clear HA; simp only [impl_StreamPut.j0] at H
   by_cases c31 : x33_5 = true
   ·subst c31; rw [if_pos rfl] at H; simp only [Option.some.injEq, Prod.mk.injEq] at H; obtain ⟨rfl, rfl, rfl, rfl⟩ := H; have hnb32 := NB102_101.out; have hnc32 := NB101_102.out; have hcz33_0 : wc.cell? ⟨gb102, 0, none⟩ = some (.string (⟨#[]⟩ : ByteArray)) := (blk_cell BK102.out 0).trans rfl; have hcz33_1 : wc.cell? ⟨gb102, 1, none⟩ = some (.slice none 0 0) := (blk_cell BK102.out 1).trans rfl; have hfz33_0 := blk_frozen BK102.out 0; have hfz33_1 := blk_frozen BK102.out 1
    go_wp2
    refine bodyPost_ret (results_list (rs := [.tmp 10, .cell 11 26, .tmp 12]) rfl (by simp) (.tmp (.cell gb102 26 #[.string (⟨#[]⟩ : ByteArray), .slice none 0 0] (0, 0) _ rfl d116_ Tryz.underlying26 rfl (by kernel_rfl) (.tmp .nil)))) rfl ?_; exact ⟨_, _, d4_, (Kd.V_nil _ _ _ _ _), (Kd.V_nil _ _ _ _ _), d77_⟩
   replace c31 := Bool.eq_false_iff.mpr c31; subst c31; rw [if_neg (show ¬ (false = true) by decide)] at H; obtain ⟨⟨t107, t110, t111, t114⟩, A34, H⟩ := zH_ H; dsimp only at H; obtain ⟨t116, A35, H⟩ := zH_ H; obtain ⟨⟨t119, t120⟩, A36, H⟩ := zH_ H; dsimp only at H; simp only [Option.some.injEq, Prod.mk.injEq] at H; obtain ⟨rfl, rfl, rfl, rfl⟩ := H; have hnb37 := NB101_102.out; have hnc37 := NB102_101.out; have hcz38_0 : wc.cell? ⟨gb101, 0, none⟩ = some (.string a1_0) := (blk_cell BK101.out 0).trans rfl; have hcz38_1 : wc.cell? ⟨gb101, 1, none⟩ = some (.slice A1_1 l1_1.length c1_1) := (blk_cell BK101.out 1).trans rfl; have hfz38_0 := blk_frozen BK101.out 0; have hfz38_1 := blk_frozen BK101.out 1
   try go_wp2_with (first | ((with_reducible refine gate_callee (f := 69) rfl ?_); refine zc_ (some 41) Tryz.func69 #[.agg #[.string a1_0, .slice A1_1 l1_1.length c1_1], .slice A0 l0.length c0, .int .i64 a2, .string a3, .bool a4] ?_; (with_reducible refine (impl_Stream_put.calls kj5 a1_0 (fun k_ => (((P0_ k_ ∨ P1_1_ k_) ∨ w.heap.size ≤ k_) ∧ (k_ ≠ gb101 ∧ k_ ≠ gb102))) _ _ l1_1 (fun k_ => (((P0_ k_ ∨ P1_1_ k_) ∨ w.heap.size ≤ k_) ∧ (k_ ≠ gb101 ∧ k_ ≠ gb102))) _ _ l0 a2 a3 a4 t107 t110 t111 t114 _ ?side1 ?side2 ?side3 A34.out).mono ?_); (case side1 => exact HO_102001.out); (case side2 => exact HO_0.out); (case side3 => exact d121_); rintro e w39 ⟨v108, v112, rfl, ho0, ho1, hb⟩; refine ⟨_, rfl, ?_⟩; replace HO_0 := A_ (Kd.V_below (zv_ HO_0.out) hb); replace HO_102001 := A_ (Kd.V_below (zv_ HO_102001.out) hb); have HO109 := A_ (Kd.V_lower (Kd.V_mono (ok' := fun k_ => ((P0_ k_ ∨ P1_1_ k_) ∨ w.heap.size ≤ k_) ∧ k_ ≠ gb101 ∧ k_ ≠ gb102) ho0 (fun k_ hk_ => ⟨Or.elim hk_ (fun hs_ => Or.elim hs_ (fun hs_ => hs_.1) (fun hs_ => hs_.1)) (fun hn_ => (.inr (Nat.le_trans (below_size d77_) hn_))), Or.elim hk_ (fun hs_ => Or.elim hs_ (fun hs_ => hs_.2.1) (fun hs_ => hs_.2.1)) (fun hn_ => (Kd.freshB (g := gb101) (o := .cells #[.string a1_0, .slice A1_1 l1_1.length c1_1] 26 (0, 0)) (zb_ BK101.out) k_ hn_)), Or.elim hk_ (fun hs_ => Or.elim hs_ (fun hs_ => hs_.2.2) (fun hs_ => hs_.2.2)) (fun hn_ => (Kd.freshB (g := gb102) (o := .cells #[.string (⟨#[]⟩ : ByteArray), .slice none 0 0] 26 (0, 0)) (zb_ BK102.out) k_ hn_))⟩)) (below_size d77_)); have HO113 := A_ (Kd.V_lower (Kd.V_mono (ok' := fun k_ => ((P0_ k_ ∨ P1_1_ k_) ∨ w.heap.size ≤ k_) ∧ k_ ≠ gb101 ∧ k_ ≠ gb102) ho1 (fun k_ hk_ => ⟨Or.elim hk_ (fun hs_ => Or.elim hs_ (fun hs_ => hs_.1) (fun hs_ => hs_.1)) (fun hn_ => (.inr (Nat.le_trans (below_size d77_) hn_))), Or.elim hk_ (fun hs_ => Or.elim hs_ (fun hs_ => hs_.2.1) (fun hs_ => hs_.2.1)) (fun hn_ => (Kd.freshB (g := gb101) (o := .cells #[.string a1_0, .slice A1_1 l1_1.length c1_1] 26 (0, 0)) (zb_ BK101.out) k_ hn_)), Or.elim hk_ (fun hs_ => Or.elim hs_ (fun hs_ => hs_.2.2) (fun hs_ => hs_.2.2)) (fun hn_ => (Kd.freshB (g := gb102) (o := .cells #[.string (⟨#[]⟩ : ByteArray), .slice none 0 0] 26 (0, 0)) (zb_ BK102.out) k_ hn_))⟩)) (below_size d77_)); replace BK101 := A_ (blk_below (g := gb101) (o := .cells #[.string a1_0, .slice A1_1 l1_1.length c1_1] 26 (0, 0)) (zb_ BK101.out) hb); replace BK102 := A_ (blk_below (g := gb102) (o := .cells #[.string (⟨#[]⟩ : ByteArray), .slice none 0 0] 26 (0, 0)) (zb_ BK102.out) hb); replace HB := A_ (below_step d77_ hb); (try clear hb); (try clear ho0); (try clear ho1)) | ((with_reducible refine gate_dst (N := 14) rfl ?_); refine zx_ (N := 14) #[.string (⟨#[]⟩ : ByteArray), .slice none 0 0] 26 ?_; intro gb115 hg w40 hbox hb; replace HO_0 := A_ (Kd.V_below (Kd.V_elderB (zv_ HO_0.out) gb115 (Nat.le_of_eq hg.symm)) hb); replace HO_102001 := A_ (Kd.V_below (Kd.V_elderB (zv_ HO_102001.out) gb115 (Nat.le_of_eq hg.symm)) hb); replace HO109 := A_ (Kd.V_below (Kd.V_elderB (zv_ HO109.out) gb115 (Nat.le_of_eq hg.symm)) hb); replace HO113 := A_ (Kd.V_below (Kd.V_elderB (zv_ HO113.out) gb115 (Nat.le_of_eq hg.symm)) hb); have BK115 := A_ hbox; have GW115 := A_ ((d87_ : w.heap.size ≤ gb115)); have GE115 := A_ ((d87_ : w.heap.size ≤ gb115)); replace HB := A_ (below_step d77_ hb); have NB101_115 := A_ ((d113_ : gb101 ≠ gb115)); have NB115_101 := A_ ((d114_ : gb115 ≠ gb101)); replace BK101 := A_ (blk_below (g := gb101) (o := .cells #[.string a1_0, .slice A1_1 l1_1.length c1_1] 26 (0, 0)) (zb_ BK101.out) hb); have NB102_115 := A_ ((d88_ : gb102 ≠ gb115)); have NB115_102 := A_ ((d89_ : gb115 ≠ gb102)); replace BK102 := A_ (blk_below (g := gb102) (o := .cells #[.string (⟨#[]⟩ : ByteArray), .slice none 0 0] 26 (0, 0)) (zb_ BK102.out) hb); clear hb hbox hg; have hnb41 := NB115_101.out; have hnc41 := NB101_115.out; have hnb42 := NB115_102.out; have hnc42 := NB102_115.out; have hcz43_0 : w40.cell? ⟨gb115, 0, none⟩ = some (.string (⟨#[]⟩ : ByteArray)) := (blk_cell BK115.out 0).trans rfl; have hcz43_1 : w40.cell? ⟨gb115, 1, none⟩ = some (.slice none 0 0) := (blk_cell BK115.out 1).trans rfl; have hfz43_0 := blk_frozen BK115.out 0; have hfz43_1 := blk_frozen BK115.out 1; obtain ⟨Ao44, co44, eo44⟩ := Kd.V_slice HO113.out; subst eo44))
   have n0_ : Aside0 (Kd.V k111 111 ((w40.setCell ⟨gb115, 0, none⟩ (.string t110)).setCell ⟨gb115, 1, none⟩ (.slice Ao44 t111.length co44)) w.heap.size (fun k_ => ((P0_ k_ ∨ P1_1_ k_) ∨ w.heap.size ≤ k_) ∧ k_ ≠ gb101 ∧ k_ ≠ gb102 ∧ k_ ≠ gb115) (.slice A0 l0.length c0) l0) := ⟨by (with_reducible repeat (first | apply Kd.V_alloc | apply Kd.V_drewN | apply Kd.V_drew)); exact Kd.V_mono (Kd.V_far (p := ⟨gb115, 1, none⟩) (Kd.V_far (p := ⟨gb115, 0, none⟩) (Kd.V_mono HO_0.out (fun k_ hk => (⟨hk, hk.2⟩ : _ ∧ k_ ≠ gb115))) (fun _ hk => hk.2) (.string t110)) (fun _ hk => hk.2) (.slice Ao44 t111.length co44)) (fun _ hk => ⟨hk.1.1.1, ⟨hk.1.1.2.1, ⟨hk.1.1.2.2, hk.1.2⟩⟩⟩)⟩; have n1_ : Aside0 (Kd.V k109 109 ((w40.setCell ⟨gb115, 0, none⟩ (.string t110)).setCell ⟨gb115, 1, none⟩ (.slice Ao44 t111.length co44)) w.heap.size (fun k_ => ((P0_ k_ ∨ P1_1_ k_) ∨ w.heap.size ≤ k_) ∧ k_ ≠ gb101 ∧ k_ ≠ gb102 ∧ k_ ≠ gb115) (.slice A1_1 l1_1.length c1_1) l1_1) := ⟨by (with_reducible repeat (first | apply Kd.V_alloc | apply Kd.V_drewN | apply Kd.V_drew)); exact Kd.V_mono (Kd.V_far (p := ⟨gb115, 1, none⟩) (Kd.V_far (p := ⟨gb115, 0, none⟩) (Kd.V_mono HO_102001.out (fun k_ hk => (⟨hk, hk.2⟩ : _ ∧ k_ ≠ gb115))) (fun _ hk => hk.2) (.string t110)) (fun _ hk => hk.2) (.slice Ao44 t111.length co44)) (fun _ hk => ⟨hk.1.1.1, ⟨hk.1.1.2.1, ⟨hk.1.1.2.2, hk.1.2⟩⟩⟩)⟩; have n2_ : Aside0 (Kd.V k111 111 ((w40.setCell ⟨gb115, 0, none⟩ (.string t110)).setCell ⟨gb115, 1, none⟩ (.slice Ao44 t111.length co44)) w.heap.size (fun k_ => ((P0_ k_ ∨ P1_1_ k_) ∨ w.heap.size ≤ k_) ∧ k_ ≠ gb101 ∧ k_ ≠ gb102 ∧ k_ ≠ gb115) v108 t107) := ⟨by (with_reducible repeat (first | apply Kd.V_alloc | apply Kd.V_drewN | apply Kd.V_drew)); exact Kd.V_mono (Kd.V_far (p := ⟨gb115, 1, none⟩) (Kd.V_far (p := ⟨gb115, 0, none⟩) (Kd.V_mono HO109.out (fun k_ hk => (⟨hk, hk.2⟩ : _ ∧ k_ ≠ gb115))) (fun _ hk => hk.2) (.string t110)) (fun _ hk => hk.2) (.slice Ao44 t111.length co44)) (fun _ hk => ⟨hk.1.1.1, ⟨hk.1.1.2.1, ⟨hk.1.1.2.2, hk.1.2⟩⟩⟩)⟩; have n3_ : Aside0 (Kd.V k109 109 ((w40.setCell ⟨gb115, 0, none⟩ (.string t110)).setCell ⟨gb115, 1, none⟩ (.slice Ao44 t111.length co44)) w.heap.size (fun k_ => ((P0_ k_ ∨ P1_1_ k_) ∨ w.heap.size ≤ k_) ∧ k_ ≠ gb101 ∧ k_ ≠ gb102 ∧ k_ ≠ gb115) (.slice Ao44 t111.length co44) t111) := ⟨by (with_reducible repeat (first | apply Kd.V_alloc | apply Kd.V_drewN | apply Kd.V_drew)); exact Kd.V_mono (Kd.V_far (p := ⟨gb115, 1, none⟩) (Kd.V_far (p := ⟨gb115, 0, none⟩) (Kd.V_mono HO113.out (fun k_ hk => (⟨hk, hk.2⟩ : _ ∧ k_ ≠ gb115))) (fun _ hk => hk.2) (.string t110)) (fun _ hk => hk.2) (.slice Ao44 t111.length co44)) (fun _ hk => ⟨hk.1.1.1, ⟨hk.1.1.2.1, ⟨hk.1.1.2.2, hk.1.2⟩⟩⟩)⟩; have n4_ : Aside0 (((w40.setCell ⟨gb115, 0, none⟩ (.string t110)).setCell ⟨gb115, 1, none⟩ (.slice Ao44 t111.length co44)).heap[gb101]? = some (.cells #[.string a1_0, .slice A1_1 l1_1.length c1_1] 26 (0, 0))) := ⟨by (with_reducible repeat (first | refine blk_drewN ?_ _ | refine blk_drew ?_ | refine blk_alloc ?_ _)); refine blk_far ?_ NB101_115.out _; (with_reducible repeat (first | refine blk_drewN ?_ _ | refine blk_drew ?_ | refine blk_alloc ?_ _)); refine blk_far ?_ NB101_115.out _; (with_reducible repeat (first | refine blk_drewN ?_ _ | refine blk_drew ?_ | refine blk_alloc ?_ _)); exact BK101.out⟩; have n5_ : Aside0 (((w40.setCell ⟨gb115, 0, none⟩ (.string t110)).setCell ⟨gb115, 1, none⟩ (.slice Ao44 t111.length co44)).heap[gb102]? = some (.cells #[.string (⟨#[]⟩ : ByteArray), .slice none 0 0] 26 (0, 0))) := ⟨by (with_reducible repeat (first | refine blk_drewN ?_ _ | refine blk_drew ?_ | refine blk_alloc ?_ _)); refine blk_far ?_ NB102_115.out _; (with_reducible repeat (first | refine blk_drewN ?_ _ | refine blk_drew ?_ | refine blk_alloc ?_ _)); refine blk_far ?_ NB102_115.out _; (with_reducible repeat (first | refine blk_drewN ?_ _ | refine blk_drew ?_ | refine blk_alloc ?_ _)); exact BK102.out⟩
   have n6_ : Aside0 (((w40.setCell ⟨gb115, 0, none⟩ (.string t110)).setCell ⟨gb115, 1, none⟩ (.slice Ao44 t111.length co44)).heap[gb115]? = some (.cells #[.string t110, .slice Ao44 t111.length co44] 26 (0, 0))) := ⟨by (with_reducible repeat (first | refine blk_drewN ?_ _ | refine blk_drew ?_ | refine blk_alloc ?_ _)); refine blk_put (cs := #[.string t110, .slice none 0 0]) ?_ 1 _ rfl; (with_reducible repeat (first | refine blk_drewN ?_ _ | refine blk_drew ?_ | refine blk_alloc ?_ _)); refine blk_put (cs := #[.string (⟨#[]⟩ : ByteArray), .slice none 0 0]) ?_ 0 _ rfl; (with_reducible repeat (first | refine blk_drewN ?_ _ | refine blk_drew ?_ | refine blk_alloc ?_ _)); exact BK115.out⟩; have n7_ : Aside0 (Below w.heap.size w ((w40.setCell ⟨gb115, 0, none⟩ (.string t110)).setCell ⟨gb115, 1, none⟩ (.slice Ao44 t111.length co44))) := ⟨d127_⟩; (try clear HO_0); (try clear HO_102001); (try clear HO109); (try clear HO113); (try clear BK101); (try clear BK102); (try clear BK115); (try clear HB); generalize ((w40.setCell ⟨gb115, 0, none⟩ (.string t110)).setCell ⟨gb115, 1, none⟩ (.slice Ao44 t111.length co44)) = w45 at n0_ n1_ n2_ n3_ n4_ n5_ n6_ n7_ ⊢; have HO_0 := n0_; have HO_102001 := n1_; have HO109 := n2_; have HO113 := n3_; have BK101 := n4_; have BK102 := n5_; have BK115 := n6_; have HB := n7_; clear n0_ n1_ n2_ n3_ n4_ n5_ n6_ n7_; have n0_ := Aside0.mk (Kd.V_drew HO_0.out); have n1_ := Aside0.mk (Kd.V_drew HO_102001.out); have n2_ := Aside0.mk (Kd.V_drew HO109.out); have n3_ := Aside0.mk (Kd.V_drew HO113.out); have n4_ := Aside0.mk (blk_drew BK101.out); have n5_ := Aside0.mk (blk_drew BK102.out); have n6_ := Aside0.mk (blk_drew BK115.out); have n7_ := Aside0.mk (below_drew1 HB.out); clear HO_0; clear HO_102001; clear HO109; clear HO113; clear BK101; clear BK102; clear BK115; clear HB; have HO_0 := n0_; have HO_102001 := n1_; have HO109 := n2_; have HO113 := n3_; have BK101 := n4_; have BK102 := n5_; have BK115 := n6_; have HB := n7_; clear n0_ n1_ n2_ n3_ n4_ n5_ n6_ n7_; obtain ⟨Ao47, co47, eo47⟩ := Kd.V_slice HO109.out; (first | subst eo47 | (injection eo47 with f1_ f2_ f3_; have f4_ := f1_.symm; have f5_ := f3_.symm; clear f1_ f2_ f3_; subst f4_; subst f5_)); refine start_ (n := 8) (S := fun w' => w'.cell? ⟨gb115, 0, none⟩ = some (.string t110) ∧ w'.cell? ⟨gb115, 1, none⟩ = some (.slice Ao44 t111.length co44)) (ds := []) #[false, false, false, false, false, false, false, false] (by kernel_rfl) rfl rfl ⟨(blk_cell BK115.out 0).trans rfl, (blk_cell BK115.out 1).trans rfl⟩ (fun hHeld => ?_); refine with_tabW impl_StreamPut.tab4 impl_StreamPut.bits4 (fun HT_ HW_ => ?_); generalize w45.drew = w46 at HO_0 HO_102001 HO109 HO113 BK101 BK102 BK115 HB hHeld ⊢; refine zP_ HT_ 0 (some 45) ?_; refine zP_ HT_ 4 (some 49) ?_; refine zT_ HT_ HW_ hHeld 2 (some 47) ?_; refine one_ (i := 1) (N := some 46) #[true, true, true, false, true, false, false, false] rfl rfl (one_of HT_.out (by kernel_rfl)) (by decide) (fun K hK => ?_); refine goes_ Tryz.func70 (by kernel_rfl) rfl #[.slice Ao47 t107.length co47] (by rfl) rfl rfl za_ ?_
   with_reducible refine (impl_pairs_copied.calls _ _ t107 t116 _ ?side1 ?side2 A35.out).mono ?_
   (case side1 => repeat (first | exact (Kd.V_reads' HO109.out).2.2 | (with_reducible refine Kd.C_alloc ?_ _) | (with_reducible refine Kd.C_drewN ?_ _) | (with_reducible refine Kd.C_drew ?_))); (case side2 => exact (Kd.V_reads' HO109.out).2.1); rintro e w48 ⟨v117, rfl, ho0, hb⟩; refine ⟨_, rfl, ?_⟩; have n0_ := Aside0.mk (Kd.V_below (zv_ HO_0.out) hb); have n1_ := Aside0.mk (Kd.V_below (zv_ HO_102001.out) hb); have n2_ := Aside0.mk (Kd.V_below (zv_ HO109.out) hb); have n3_ := Aside0.mk (Kd.V_below (zv_ HO113.out) hb); have n4_ := Aside0.mk (Kd.V_lower (Kd.V_mono (ok' := fun k_ => ((P0_ k_ ∨ P1_1_ k_) ∨ w.heap.size ≤ k_) ∧ k_ ≠ gb101 ∧ k_ ≠ gb102 ∧ k_ ≠ gb115) ho0 (fun k_ hk_ => ⟨(.inr (Nat.le_trans (below_size d127_) hk_)), (Kd.freshB (g := gb101) (o := .cells #[.string a1_0, .slice A1_1 l1_1.length c1_1] 26 (0, 0)) (zb_ BK101.out) k_ hk_), (Kd.freshB (g := gb102) (o := .cells #[.string (⟨#[]⟩ : ByteArray), .slice none 0 0] 26 (0, 0)) (zb_ BK102.out) k_ hk_), (Kd.freshB (g := gb115) (o := .cells #[.string t110, .slice Ao44 t111.length co44] 26 (0, 0)) (zb_ BK115.out) k_ hk_)⟩)) (below_size d127_)); have n5_ := Aside0.mk (blk_below (g := gb101) (o := .cells #[.string a1_0, .slice A1_1 l1_1.length c1_1] 26 (0, 0)) (zb_ BK101.out) hb); have n6_ := Aside0.mk (blk_below (g := gb102) (o := .cells #[.string (⟨#[]⟩ : ByteArray), .slice none 0 0] 26 (0, 0)) (zb_ BK102.out) hb); have n7_ := Aside0.mk (blk_below (g := gb115) (o := .cells #[.string t110, .slice Ao44 t111.length co44] 26 (0, 0)) (zb_ BK115.out) hb); have n8_ := Aside0.mk (below_step d127_ hb); clear HO_0; clear HO_102001; clear HO109; clear HO113; clear BK101; clear BK102; clear BK115; clear HB; have HO_0 := n0_; have HO_102001 := n1_; have HO109 := n2_; have HO113 := n3_; have HO118 := n4_; have BK101 := n5_; have BK102 := n6_; have BK115 := n7_; have HB := n8_; clear n0_ n1_ n2_ n3_ n4_ n5_ n6_ n7_ n8_; (try clear hb); (try clear hb2); (try clear hk); (try clear hi); (try clear ho0); refine hK.out _ _ ⟨(blk_cell BK115.out 0).trans rfl, (blk_cell BK115.out 1).trans rfl⟩ (fun hHeld => ?_); clear hK K; refine norm_ (a' := ?_) ?_ ?_; rotate_left
   ·show Act.put _ (some 46) _ = _
    simp only [Act.put, List.setIfInBounds_toArray, List.set_cons_zero, List.set_cons_succ, i64_w, i32_w]; rfl
   refine one_ (i := 3) (N := some 48) #[true, true, true, true, true, false, false, false] rfl rfl (one_of HT_.out (by kernel_rfl)) (by decide) (fun K hK => ?_); refine goes_ Tryz.func71 (by kernel_rfl) rfl #[.agg #[.string t110, .slice Ao44 t111.length co44]] (by rfl) rfl rfl za_ ?_
   with_reducible refine (impl_Stream_copied.calls t110 _ _ t111 t119 t120 _ ?side1 ?side2 A36.out).mono ?_
   (case side1 => repeat (first | exact (Kd.V_reads' HO113.out).2.2 | (with_reducible refine Kd.C_alloc ?_ _) | (with_reducible refine Kd.C_drewN ?_ _) | (with_reducible refine Kd.C_drew ?_))); (case side2 => exact (Kd.V_reads' HO113.out).2.1); rintro e w49 ⟨v121, rfl, ho0, hb⟩; refine ⟨_, rfl, ?_⟩; have n0_ := Aside0.mk (Kd.V_below (zv_ HO_0.out) hb); have n1_ := Aside0.mk (Kd.V_below (zv_ HO_102001.out) hb); have n2_ := Aside0.mk (Kd.V_below (zv_ HO109.out) hb); have n3_ := Aside0.mk (Kd.V_below (zv_ HO113.out) hb); have n4_ := Aside0.mk (Kd.V_below (zv_ HO118.out) hb); have n5_ := Aside0.mk (Kd.V_lower (Kd.V_mono (ok' := fun k_ => ((P0_ k_ ∨ P1_1_ k_) ∨ w.heap.size ≤ k_) ∧ k_ ≠ gb101 ∧ k_ ≠ gb102 ∧ k_ ≠ gb115) ho0 (fun k_ hk_ => ⟨(.inr (Nat.le_trans (below_size d127_) hk_)), (Kd.freshB (g := gb101) (o := .cells #[.string a1_0, .slice A1_1 l1_1.length c1_1] 26 (0, 0)) (zb_ BK101.out) k_ hk_), (Kd.freshB (g := gb102) (o := .cells #[.string (⟨#[]⟩ : ByteArray), .slice none 0 0] 26 (0, 0)) (zb_ BK102.out) k_ hk_), (Kd.freshB (g := gb115) (o := .cells #[.string t110, .slice Ao44 t111.length co44] 26 (0, 0)) (zb_ BK115.out) k_ hk_)⟩)) (below_size d127_)); have n6_ := Aside0.mk (blk_below (g := gb101) (o := .cells #[.string a1_0, .slice A1_1 l1_1.length c1_1] 26 (0, 0)) (zb_ BK101.out) hb); have n7_ := Aside0.mk (blk_below (g := gb102) (o := .cells #[.string (⟨#[]⟩ : ByteArray), .slice none 0 0] 26 (0, 0)) (zb_ BK102.out) hb); have n8_ := Aside0.mk (blk_below (g := gb115) (o := .cells #[.string t110, .slice Ao44 t111.length co44] 26 (0, 0)) (zb_ BK115.out) hb); have n9_ := Aside0.mk (below_step d127_ hb); clear HO_0; clear HO_102001; clear HO109; clear HO113; clear HO118; clear BK101; clear BK102; clear BK115; clear HB; have HO_0 := n0_; have HO_102001 := n1_; have HO109 := n2_; have HO113 := n3_; have HO118 := n4_; have HO122 := n5_; have BK101 := n6_; have BK102 := n7_; have BK115 := n8_; have HB := n9_; clear n0_ n1_ n2_ n3_ n4_ n5_ n6_ n7_ n8_ n9_; (try clear hb); (try clear hb2); (try clear hk); (try clear hi); (try clear ho0); obtain ⟨Ao51, co51, eo51⟩ := Kd.V_slice HO122.out; (first | subst eo51 | (injection eo51 with f1_ f2_ f3_; have f4_ := f1_.symm; have f5_ := f3_.symm; clear f1_ f2_ f3_; subst f4_; subst f5_)); refine hK.out _ _ ⟨(blk_cell BK115.out 0).trans rfl, (blk_cell BK115.out 1).trans rfl⟩ (fun hHeld => ?_); clear hK K; refine norm_ (a' := ?_) ?_ ?_; rotate_left
   ·show Act.put _ (some 48) _ = _
    simp only [Act.put, List.setIfInBounds_toArray, List.set_cons_zero, List.set_cons_succ, i64_w, i32_w]; rfl
   refine zP_ HT_ 5 (some 10) ?_; refine one_ (i := 6) (N := none) #[true, true, true, true, true, true, true, false] rfl rfl (one_of HT_.out (by kernel_rfl)) (by decide) (fun K hK => ?_); have hs50 : w49.cell? ⟨gb102, 0, none⟩ = some (.string (⟨#[]⟩ : ByteArray)) := (blk_cell BK102.out 0).trans rfl; have hfs50 := blk_frozen BK102.out 0; have hns50_0 := NB101_102.out; have hns50_2 := NB115_102.out; have hms50_0 := NB102_101.out; have hms50_2 := NB102_115.out; have hs52 : w49.cell? ⟨gb102, 1, none⟩ = some (.slice none 0 0) := (blk_cell BK102.out 1).trans rfl; have hfs52 := blk_frozen BK102.out 1; have hns52_0 := NB101_102.out; have hns52_2 := NB115_102.out; have hms52_0 := NB102_101.out; have hms52_2 := NB102_115.out; refine skip_ (w1 := ?_) (by rfl) rfl ?_ ?_; rotate_left
   ·go_simp
    rfl
   refine hK.out _ _ ⟨((cell_far (p := ⟨gb102, _, none⟩) NB115_102.out _).trans (((cell_far (p := ⟨gb102, _, none⟩) NB115_102.out _).trans (hHeld.1)))), ((cell_far (p := ⟨gb102, _, none⟩) NB115_102.out _).trans (((cell_far (p := ⟨gb102, _, none⟩) NB115_102.out _).trans (hHeld.2))))⟩ (fun hHeld => ?_); clear hK K; refine zP_ HT_ 7 (some 12) ?_; refine done_ (done_of HT_.out (by kernel_rfl)) ?_
   try go_wp2
   refine bodyPost_ret (results_list (rs := [.tmp 10, .cell 11 26, .tmp 12]) rfl (by simp) (.tmp (.cell gb102 26 #[.string t119, .slice Ao51 t120.length co51] (0, 0) _ rfl (by (with_reducible repeat (first | refine blk_drewN ?_ _ | refine blk_drew ?_ | refine blk_alloc ?_ _)); refine blk_put (cs := #[.string t119, .slice none 0 0]) ?_ 1 _ rfl; (with_reducible repeat (first | refine blk_drewN ?_ _ | refine blk_drew ?_ | refine blk_alloc ?_ _)); refine blk_put (cs := #[.string (⟨#[]⟩ : ByteArray), .slice none 0 0]) ?_ 0 _ rfl; (with_reducible repeat (first | refine blk_drewN ?_ _ | refine blk_drew ?_ | refine blk_alloc ?_ _)); exact BK102.out) Tryz.underlying26 rfl (by kernel_rfl) (.tmp .nil)))) rfl ?_; exact ⟨_, _, d4_, by (with_reducible repeat (first | apply Kd.V_alloc | apply Kd.V_drewN | apply Kd.V_drew)); exact Kd.V_mono (Kd.V_far (p := ⟨gb102, 1, none⟩) (Kd.V_far (p := ⟨gb102, 0, none⟩) (Kd.V_mono HO118.out (fun k_ hk => (⟨hk, hk.2.2.1⟩ : _ ∧ k_ ≠ gb102))) (fun _ hk => hk.2) (.string t119)) (fun _ hk => hk.2) (.slice Ao51 t120.length co51)) (fun _ hk => hk.1.1), by (with_reducible repeat (first | apply Kd.V_alloc | apply Kd.V_drewN | apply Kd.V_drew)); exact Kd.V_mono (Kd.V_far (p := ⟨gb102, 1, none⟩) (Kd.V_far (p := ⟨gb102, 0, none⟩) (Kd.V_mono HO122.out (fun k_ hk => (⟨hk, hk.2.2.1⟩ : _ ∧ k_ ≠ gb102))) (fun _ hk => hk.2) (.string t119)) (fun _ hk => hk.2) (.slice Ao51 t120.length co51)) (fun _ hk => hk.1.1), d127_⟩
end
end Go.Proofs.YtfjbjiklohjodaaGreatDoor.Q
namespace Go.Proofs.YtfjbjiklohjodaaGreatDoor.Q
open Go.RowKit Go.Proofs.YtfjbjiklohjodaaGreatDoorW.PrintWords Go.Proofs.YtfjbjiklohjodaaGreatDoorW.PrintMore Go.Proofs.YtfjbjiklohjodaaGreatDoor.Z
set_option linter.unusedVariables false
set_option linter.unusedSimpArgs false
def spTo (p : Sp) : S109 := ⟨p.size, mkB p.text⟩
def spOf (s : S109) : Sp := ⟨s.f0, bl s.f1⟩
theorem sps_to_of (l : List S109) : (l.map spOf).map spTo = l := by
  rw [List.map_map]
  refine (List.map_congr_left (fun s _ => ?_)).trans (List.map_id l)
  show spTo (spOf s) = id s
  unfold spTo spOf
  rw [mkB_bl]
  rfl
theorem rd_sp (ps : List Sp) (i : Nat) (p : Sp) (h : ps[i]? = some p) : rd_T109 (ps.map spTo) (i : Int) = spTo p := by
  unfold rd_T109
  rw [Int.toNat_natCast, List.getD_eq_getElem?_getD, List.getElem?_map, h]
  rfl
theorem rd_tk (T : List Tok) (i : Nat) (t : Tok) (h : T[i]? = some t) : rd_T116 ((T.map pcOf).map pcTo) (i : Int) = pcTo (pcOf t) := by
  exact rd_pc _ i _ (by rw [List.getElem?_map, h]; rfl)
def sizes : List Sp → Int
  | [] => 0
  | p :: ps => p.size + sizes ps
theorem sizes_nn : ∀ {ps : List Sp}, (∀ p ∈ ps, 0 ≤ p.size) → 0 ≤ sizes ps
  | [], _ => Int.le_refl 0
  | p :: ps, h => by
    have h1 := sizes_nn (ps := ps) (fun q hq => h q (List.mem_cons_of_mem _ hq))
    have h2 := h p List.mem_cons_self
    unfold sizes
    omega
def fitS (ps : List Sp) (T : List Tok) : Prop := ps.map (·.size) = T.map (fun t => ((tx t).length : Int))
theorem fitS_len {ps : List Sp} {T : List Tok} (h : fitS ps T) : ps.length = T.length := by
  have := congrArg List.length h
  simpa using this
theorem fit_S : ∀ {ps : List Sp} {T : List Tok}, fit ps T → fitS ps T
  | [], [], _ => rfl
  | p :: ps, t :: T, h => by
    have := fit_S h.2
    unfold fitS at this ⊢
    rw [List.map_cons, List.map_cons, this, h.1.1]
  | [], _ :: _, h => h.elim
  | _ :: _, [], h => h.elim
theorem fitS_sum : ∀ {ps : List Sp} {T : List Tok}, fitS ps T → sizes ps = ((flat T).length : Int)
  | [], [], _ => rfl
  | p :: ps, t :: T, h => by
    unfold fitS at h
    rw [List.map_cons, List.map_cons, List.cons.injEq] at h
    have := fitS_sum (ps := ps) (T := T) h.2
    have h1 : p.size = ((tx t).length : Int) := h.1
    unfold sizes
    rw [flat_cons, List.length_append, this, h1]
    omega
  | [], _ :: _, h => by have := fitS_len h; simp at this
  | _ :: _, [], h => by have := fitS_len h; simp at this
theorem fitS_nn {ps : List Sp} {T : List Tok} (h : fitS ps T) : ∀ p ∈ ps, 0 ≤ p.size := by
  intro p hp
  have : p.size ∈ ps.map (·.size) := List.mem_map.2 ⟨p, hp, rfl⟩
  rw [h] at this
  obtain ⟨t, _, ht⟩ := List.mem_map.1 this
  omega
theorem fitS_append {ps qs : List Sp} {T U : List Tok} (h : fitS ps T) (h2 : fitS qs U) : fitS (ps ++ qs) (T ++ U) := by
  unfold fitS at *
  rw [List.map_append, List.map_append, h, h2]
theorem fitS_made : ∀ {T U : List Tok}, T.length = U.length → fitS (made T U) T
  | [], [], _ => rfl
  | t :: T, u :: U, h => by
    have := fitS_made (T := T) (U := U) (by simpa using h)
    unfold fitS at this ⊢
    show _ :: (made T U).map _ = _
    rw [this]
    rfl
  | [], _ :: _, h => by simp at h
  | _ :: _, [], h => by simp at h
theorem putS_newS {m : List Pr} {l : List UInt8} {ps : List Sp} {a : Int} {x : List UInt8} {out : Bool} (h1 : a ≤ (l.length : Int)) (h2 : a + (x.length : Int) ≤ 40) (h3 : ¬ a + (x.length : Int) ≤ (l.length : Int)) {B : List Tok} (hB : toks (body (l ++ x.drop (l.length - a.toNat))) = toks (body l) ++ B) (hf : fitS ps (toks (body l))) :
    putS m l ps a x out = ((goTok out m B).1, l ++ x.drop (l.length - a.toNat), ps ++ made B (goTok out m B).2, true) := by
  have hd : (toks (body (l ++ x.drop (l.length - a.toNat)))).drop ps.length = B := by rw [hB, fitS_len hf, List.drop_left]
  unfold putS; rw [if_neg (by omega), if_neg h3, hd]
theorem toks_len (l : List UInt8) : (toks (body l)).length ≤ l.length := by
  have h := pcL_len (body l).length (body l) (Nat.le_refl _)
  have h2 := body_len l
  rw [pcL_toks, List.length_map] at h
  omega
theorem l11Done_l0 (a : ByteArray) (ps : List Sp) (h0 : ∀ p ∈ ps, 0 ≤ p.size) (hps : ps.length ≤ 1000000) (n : Nat) : ∀ (k i : Nat) (acc : Int), ps.length - i ≤ n → n < k → i ≤ ps.length → 0 ≤ acc → acc + sizes (ps.drop i) ≤ 1000000 →
    spec_l11Done.l0 k acc i a (ps.map spTo) = some (acc + sizes (ps.drop i)) := by
  induction n with
  | zero =>
    intro k i acc hn hk hi ha hs
    obtain ⟨k, rfl⟩ : ∃ m, k = m + 1 := ⟨k - 1, by omega⟩
    simp only [spec_l11Done.l0]
    rw [if_neg (by rw [List.length_map]; omega), List.drop_of_length_le (by omega)]
    simp [sizes]
  | succ n ih =>
    intro k i acc hn hk hi ha hs
    obtain ⟨k, rfl⟩ : ∃ m, k = m + 1 := ⟨k - 1, by omega⟩
    by_cases hlt : i < ps.length
    · obtain ⟨p, hp⟩ : ∃ p, ps[i]? = some p := ⟨_, List.getElem?_eq_getElem hlt⟩
      have hpm : p ∈ ps := List.mem_of_getElem? hp
      have hp0 := h0 p hpm
      have hr := sizes_nn (ps := ps.drop (i + 1)) (fun q hq => h0 q (List.mem_of_mem_drop hq))
      have hsz : sizes (ps.drop i) = p.size + sizes (ps.drop (i + 1)) := by rw [drop_of hp]; rfl
      have q1 : (i : Int) < ((ps.map spTo).length : Int) := by rw [List.length_map]; omega
      have q2 : (0 : Int) ≤ (i : Int) := by omega
      have q3 : acc + p.size + sizes (ps.drop (i + 1)) = acc + sizes (ps.drop i) := by omega
      have hih := ih k (i + 1) (acc + p.size) (by omega) (by omega) (by omega) (by omega) (by omega)
      have hw3 : wrap64 ((i : Int) + 1) = ((i + 1 : Nat) : Int) := by rw [w64 (by omega)]; omega
      have hw : wrap64 (acc + p.size) = acc + p.size := w64 (by omega)
      have hf0 : (rd_T109 (ps.map spTo) (i : Int)).f0 = p.size := by rw [rd_sp ps i p hp]; rfl
      simp only [spec_l11Done.l0]
      rw [if_pos q1, if_pos q2, hf0, hw, hw3, hih, q3]
    · simp only [spec_l11Done.l0]
      rw [if_neg (by rw [List.length_map]; omega), List.drop_of_length_le (by omega)]
      simp [sizes]
theorem l11Done_to (k : Nat) (hk : 1000 < k) (l : List UInt8) (hl : l.length ≤ 900) (ps : List Sp) (hf : fitS ps (toks (body l))) : spec_l11Done.f k (mkB l) (ps.map spTo) = some (((body l).length : Nat) : Int) := by
  have h1 := fitS_len hf
  have h2 := toks_len l
  have h3 := fitS_sum hf
  rw [flat_toks] at h3
  have h4 := body_len l
  have := l11Done_l0 (mkB l) ps (fitS_nn hf) (by omega) ps.length k 0 0 (by omega) (by omega) (by omega) (by omega) (by rw [List.drop_zero]; omega)
  rw [List.drop_zero, show ((0 : Nat) : Int) = 0 from rfl] at this
  unfold spec_l11Done.f
  rw [this, h3]
  congr 1
  omega
def partB (p : Sp) (n : Int) : Bool := p.size == n && inB p.text.length 1 6 && textOk p.text
def fitB : List Sp → List Tok → Bool
  | [], [] => true
  | p :: ps, t :: T => partB p ((tx t).length : Int) && fitB ps T
  | _, _ => false
theorem partB_iff {p : Sp} {n : Int} : partB p n = true ↔ p.size = n ∧ 1 ≤ p.text.length ∧ p.text.length ≤ 6 ∧ textOk p.text = true := by
  unfold partB inB
  rw [Bool.and_eq_true, Bool.and_eq_true, Bool.and_eq_true, beq_iff_eq, decide_eq_true_iff, decide_eq_true_iff]
  constructor
  · rintro ⟨⟨h1, h2, h3⟩, h4⟩
    exact ⟨h1, by omega, by omega, h4⟩
  · rintro ⟨h1, h2, h3, h4⟩
    exact ⟨⟨h1, by omega, by omega⟩, h4⟩
theorem fitB_iff : ∀ {ps : List Sp} {T : List Tok}, fitB ps T = true ↔ fit ps T
  | [], [] => Iff.intro (fun _ => trivial) (fun _ => rfl)
  | p :: ps, t :: T => by
    show (partB p ((tx t).length : Int) && fitB ps T) = true ↔ _ ∧ _
    rw [Bool.and_eq_true, partB_iff, fitB_iff]
  | [], _ :: _ => Iff.intro (fun h => by cases h) (fun h => False.elim h)
  | _ :: _, [] => Iff.intro (fun h => by cases h) (fun h => False.elim h)
theorem fitB_len : ∀ {ps : List Sp} {T : List Tok}, ps.length ≠ T.length → fitB ps T = false := by
  intro ps T h
  rw [← Bool.not_eq_true]
  intro hb
  exact h (fit_len (fitB_iff.1 hb))
noncomputable def stOkB (l : List UInt8) (ps : List Sp) : Bool := textOk l && fitB ps (toks (body l))
theorem stOkB_iff {l : List UInt8} {ps : List Sp} : stOkB l ps = true ↔ stOk l ps := by
  unfold stOkB stOk
  rw [Bool.and_eq_true, fitB_iff]
theorem StreamOk_l0 (a : ByteArray) (T : List Tok) (ps : List Sp) (hl : ps.length = T.length) (hps : ps.length ≤ 1000000) (n : Nat) : ∀ (k i : Nat), ps.length - i ≤ n → n < k → i ≤ ps.length →
    spec_StreamOk.l0 k ((T.map pcOf).map pcTo) i a (ps.map spTo) = some (fitB (ps.drop i) (T.drop i)) := by
  induction n with
  | zero =>
    intro k i hn hk hi
    obtain ⟨k, rfl⟩ : ∃ m, k = m + 1 := ⟨k - 1, by omega⟩
    simp only [spec_StreamOk.l0]
    rw [if_neg (by rw [List.length_map, List.length_map]; omega), List.drop_of_length_le (by omega), List.drop_of_length_le (by omega)]
    rfl
  | succ n ih =>
    intro k i hn hk hi
    obtain ⟨k, rfl⟩ : ∃ m, k = m + 1 := ⟨k - 1, by omega⟩
    by_cases hlt : i < ps.length
    · obtain ⟨p, hp⟩ : ∃ p, ps[i]? = some p := ⟨_, List.getElem?_eq_getElem hlt⟩
      obtain ⟨t, ht⟩ : ∃ t, T[i]? = some t := ⟨_, List.getElem?_eq_getElem (by omega)⟩
      have hih := ih k (i + 1) (by omega) (by omega) (by omega)
      have q1 : (i : Int) < (((T.map pcOf).map pcTo).length : Int) := by rw [List.length_map, List.length_map]; omega
      have q2 : (0 : Int) ≤ (i : Int) := by omega
      have q3 : (i : Int) < ((ps.map spTo).length : Int) := by rw [List.length_map]; omega
      have hw3 : wrap64 ((i : Int) + 1) = ((i + 1 : Nat) : Int) := by rw [w64 (by omega)]; omega
      have hf0 : (rd_T109 (ps.map spTo) (i : Int)).f0 = p.size := by rw [rd_sp ps i p hp]; rfl
      have hf1 : (rd_T109 (ps.map spTo) (i : Int)).f1 = mkB p.text := by rw [rd_sp ps i p hp]; rfl
      have hg0 : (rd_T116 ((T.map pcOf).map pcTo) (i : Int)).f0 = ((tx t).length : Int) := by
        rw [rd_tk T i t ht]
        cases t <;> rfl
      have htl : (mkB p.text).toList = p.text := by rw [toList_bl]
      rw [drop_of hp, drop_of ht]
      simp only [spec_StreamOk.l0]
      rw [if_pos q1, if_pos q2, if_pos q3, hf0, hf1, hg0, hw3, htl, hih, size_mkB]
      clear hih hw3 hf0 hf1 hg0 htl ih
      show _ = some (partB p ((tx t).length : Int) && fitB (ps.drop (i + 1)) (T.drop (i + 1)))
      unfold partB inB
      by_cases c1 : p.size = ((tx t).length : Int)
      · rw [if_pos c1, show (p.size == ((tx t).length : Int)) = true from beq_iff_eq.2 c1]
        by_cases c2 : (p.text.length : Int) > 6
        · rw [if_pos c2, show decide ((p.text.length : Int) ≤ 6) = false from decide_eq_false (by omega)]
          simp
        · rw [if_neg c2, show decide ((p.text.length : Int) ≤ 6) = true from decide_eq_true (by omega)]
          by_cases c3 : p.text = []
          · rw [if_pos c3, show decide ((1 : Int) ≤ (p.text.length : Int)) = false from decide_eq_false (by rw [c3]; simp)]
            simp
          · have : 0 < p.text.length := List.length_pos_iff.2 c3
            rw [if_neg c3, show decide ((1 : Int) ≤ (p.text.length : Int)) = true from decide_eq_true (by omega), spec_TextOk_is _ (by omega), Option.bind_some]
            cases textOk p.text <;> simp
      · rw [if_neg c1, show (p.size == ((tx t).length : Int)) = false from beq_eq_false_iff_ne.2 c1]
        simp
    · simp only [spec_StreamOk.l0]
      rw [if_neg (by rw [List.length_map, List.length_map]; omega), List.drop_of_length_le (by omega), List.drop_of_length_le (by omega)]
      rfl
theorem spec_StreamOk_to (k : Nat) (hk : 3000 < k) (l : List UInt8) (hl : l.length ≤ 140737488355328) (ps : List Sp) : spec_StreamOk.f k (mkB l) (ps.map spTo) = some (stOkB l ps) := by
  unfold spec_StreamOk.f
  rw [spec_TextPieces_to k (by omega) l hl, Option.bind_some, spec_TextOk_is l hl, Option.bind_some]
  obtain ⟨k, rfl⟩ : ∃ m, k = m + 1 := ⟨k - 1, by omega⟩
  unfold stOkB
  simp only [spec_StreamOk.j0]
  cases ht : textOk l
  · simp
  · have hl2 := textOk_len ht
    have hp : pieces l = (toks (body l)).map pcOf := by unfold pieces; rw [ht, ← pcL_toks]; simp
    have h9 := toks_len l
    rw [hp, Bool.true_and]
    simp only [if_true, List.length_map]
    by_cases hlen : ps.length = (toks (body l)).length
    · rw [if_neg (by rw [hlen]; simp)]
      have := StreamOk_l0 (mkB l) (toks (body l)) ps hlen (by omega) ps.length k 0 (by omega) (by omega) (by omega)
      rw [List.drop_zero, List.drop_zero] at this
      exact this
    · rw [if_pos (by rw [bne_iff_ne]; omega), fitB_len hlen]
theorem partsOk_fit (T : List Tok) (ps : List Sp) : partsOk (ps.map spTo) ((T.map pcOf).map pcTo) = fitB ps T := by
  unfold partsOk
  simp only [List.length_map]
  by_cases hl : ps.length = T.length
  · rw [decide_eq_true hl, Bool.true_and, List.range_eq_range']
    have : ∀ (n i : Nat), ps.length - i = n → i ≤ ps.length → (List.range' i n).all (fun i => partOk (rd_T109 (ps.map spTo) (i : Int)) (rd_T116 ((T.map pcOf).map pcTo) (i : Int))) = fitB (ps.drop i) (T.drop i) := by
      intro n
      induction n with
      | zero =>
        intro i hn hi
        rw [List.drop_of_length_le (by omega), List.drop_of_length_le (by omega)]
        rfl
      | succ n ih =>
        intro i hn hi
        obtain ⟨p, hp⟩ : ∃ p, ps[i]? = some p := ⟨_, List.getElem?_eq_getElem (by omega)⟩
        obtain ⟨t, ht⟩ : ∃ t, T[i]? = some t := ⟨_, List.getElem?_eq_getElem (by omega)⟩
        rw [List.range'_succ, List.all_cons, ih (i + 1) (by omega) (by omega), drop_of hp, drop_of ht, rd_sp ps i p hp, rd_tk T i t ht]
        show (partOk (spTo p) (pcTo (pcOf t)) && _) = (partB p ((tx t).length : Int) && _)
        congr 1
        unfold partOk partB
        have : (pcTo (pcOf t)).f0 = ((tx t).length : Int) := by cases t <;> rfl
        rw [this]
        rfl
    have := this ps.length 0 (by omega) (by omega)
    rw [List.drop_zero, List.drop_zero] at this
    exact this
  · rw [decide_eq_false hl, fitB_len hl]
    rfl
theorem impl_StreamOk_to (k : Nat) (hk : 3000 < k) (l : List UInt8) (hl : l.length ≤ 140737488355328) (ps : List Sp) (hps : ps.length ≤ 1099511627776) : impl_StreamOk.f k (mkB l) (ps.map spTo) = some (stOkB l ps) := by
  have h1 : impl_TextOk.f (mkB l) = some (textOk l) := by unfold impl_TextOk.f; rw [if_pos (by rw [size_mkB]; exact hl)]
  unfold impl_StreamOk.f stOkB
  rw [h1, Option.bind_some]
  cases ht : textOk l
  · simp
  · have hl2 := textOk_len ht
    rw [if_pos rfl, impl_pieces_to k l (by omega) (by omega), Option.bind_some]
    unfold slices_EqualFunc_Part.f
    rw [if_pos (by rw [List.length_map]; exact hps), Option.bind_some, pcL_toks, partsOk_fit, Bool.true_and]
end Go.Proofs.YtfjbjiklohjodaaGreatDoor.Q
namespace Go.Proofs.YtfjbjiklohjodaaGreatDoor.Q
open Go.RowKit Go.Proofs.YtfjbjiklohjodaaGreatDoorW.PrintWords Go.Proofs.YtfjbjiklohjodaaGreatDoorW.PrintMore Go.Proofs.YtfjbjiklohjodaaGreatDoor.Z
set_option linter.unusedVariables false
set_option linter.unusedSimpArgs false
theorem pcOf_port {T : List Tok} (g : good T) {t : Tok} (ht : t ∈ T) : -9223372036854775808 ≤ (pcOf t).fin.port ∧ (pcOf t).fin.port ≤ 9223372036854775807 := by
  induction T with
  | nil => cases ht
  | cons u T ih =>
    rcases List.mem_cons.1 ht with rfl | h
    · cases t with
      | b c => exact ⟨show (-9223372036854775808 : Int) ≤ 0 by decide, show (0 : Int) ≤ 9223372036854775807 by decide⟩
      | n e =>
        have ha : anyB e = true := g.1
        have := anyB_mem ha
        show -9223372036854775808 ≤ e.port ∧ e.port ≤ 9223372036854775807
        have hall : (allEnds.all (fun e => decide (-9223372036854775808 ≤ e.port ∧ e.port ≤ 9223372036854775807))) = true := by decide +kernel
        exact of_decide_eq_true (List.all_eq_true.1 hall e this)
    · cases u with
      | b c => exact ih g.2 h
      | n e => exact ih g.2 h
theorem outTok_len (m : List Pr) (t : Tok) : (outTok m t).1.length ≤ m.length + 1 := by
  cases t with
  | b c => exact Nat.le_succ _
  | n e =>
    unfold outTok
    simp only
    split
    · have : (outS m e).1.length ≤ m.length + 1 := by
        rw [outS_of]
        split
        · exact Nat.le_succ _
        · split
          · exact Nat.le_succ _
          · rw [List.length_append]; exact Nat.le_refl _
      exact this
    · exact Nat.le_succ _
theorem flat_drop (T : List Tok) (i : Nat) : flat T = flat (T.take i) ++ flat (T.drop i) := by rw [← flat_append, List.take_append_drop]
theorem l11Put_l0 (s : List UInt8) (hs : s.length ≤ 900) (out : Bool) (n : Nat) : ∀ (k i : Nat) (m : List Pr) (qs : List Sp), (toks (body s)).length - i ≤ n → n + 2 < k → i ≤ (toks (body s)).length → m.length + n ≤ 1000 → qs.length ≤ i →
    spec_l11Put.l0 k (m.map prTo) out (mkB s) ((flat ((toks (body s)).take i)).length : Nat) (((toks (body s)).map pcOf).map pcTo) (i : Nat) (mkB s) (qs.map spTo) = some ((goTok out m ((toks (body s)).drop i)).1.map prTo, mkB s, (qs ++ made ((toks (body s)).drop i) (goTok out m ((toks (body s)).drop i)).2).map spTo, true) := by
  have hT := toks_len s
  induction n with
  | zero =>
    intro k i m qs hn hk hi hm hq
    obtain ⟨k, rfl⟩ : ∃ m, k = m + 1 := ⟨k - 1, by omega⟩
    simp only [spec_l11Put.l0]
    rw [if_neg (by rw [List.length_map, List.length_map]; omega), List.drop_of_length_le (by omega)]
    unfold goTok
    cases out <;> simp [made, outToks]
  | succ n ih =>
    intro k i m qs hn hk hi hm hq
    obtain ⟨k, rfl⟩ : ∃ m, k = m + 1 := ⟨k - 1, by omega⟩
    by_cases hlt : i < (toks (body s)).length
    · obtain ⟨t, ht⟩ : ∃ t, (toks (body s))[i]? = some t := ⟨_, List.getElem?_eq_getElem hlt⟩
      have hd := drop_of ht
      have hfl := flat_toks (body s)
      have hf1 := flat_drop (toks (body s)) i
      rw [hfl, hd, flat_cons] at hf1
      have hb := body_len s
      have hbl := congrArg List.length hf1
      rw [List.length_append, List.length_append] at hbl
      have htk : (toks (body s)).take (i + 1) = (toks (body s)).take i ++ [t] := by
        rw [List.take_add_one, ht]
        rfl
      have hfn : (flat ((toks (body s)).take (i + 1))).length = (flat ((toks (body s)).take i)).length + (tx t).length := by
        rw [htk, flat_append, List.length_append, flat_cons]
        simp [flat]
      obtain ⟨F, hF⟩ : ∃ F, (flat ((toks (body s)).take i)).length = F := ⟨_, rfl⟩
      have hsb : s = body s ++ s.drop (body s).length := by
        have h9 : body s = s.take (body s).length := by
          unfold body
          rw [List.length_take, Nat.min_eq_left (by omega)]
        have h10 := List.take_append_drop (body s).length s
        rw [← h9] at h10
        exact h10.symm
      have hx : (s.drop F).take (tx t).length = tx t := by
        rw [hsb, hf1, List.append_assoc, ← hF, List.drop_left, List.append_assoc, List.take_left]
      have hsz : (pcOf t).size = ((tx t).length : Int) := by cases t <;> rfl
      have hmem : t ∈ toks (body s) := List.mem_of_getElem? ht
      rw [hF] at hfn hbl ⊢
      have q1 : (i : Int) < ((((toks (body s)).map pcOf).map pcTo).length : Int) := by rw [List.length_map, List.length_map]; omega
      have q2 : (0 : Int) ≤ (i : Int) := by omega
      have q3 : (0 : Int) ≤ (F : Int) := by omega
      have q4 : (F : Int) ≤ ((F + (tx t).length : Nat) : Int) := by omega
      have q5 : ((F + (tx t).length : Nat) : Int) ≤ (s.length : Int) := by omega
      have q6 : F + (tx t).length - F = (tx t).length := by omega
      have q7 : (qs.map spTo).length < 5864062014805 := by rw [List.length_map]; omega
      have hol := outTok_len m t
      have hih1 := ih k (i + 1) (outTok m t).1 (qs ++ [(⟨((tx t).length : Int), tx (outTok m t).2⟩ : Sp)]) (by omega) (by omega) (by omega) (by omega) (by rw [List.length_append]; show qs.length + 1 ≤ _; omega)
      have hih2 := ih k (i + 1) m (qs ++ [(⟨((tx t).length : Int), tx (inTok m t)⟩ : Sp)]) (by omega) (by omega) (by omega) (by omega) (by rw [List.length_append]; show qs.length + 1 ≤ _; omega)
      rw [hfn] at hih1 hih2
      have hP1 := pieceOut_to m (by omega) (pcOf t) (tx t)
      rw [hsz, outP_tok] at hP1
      have hP2 : spec_l3PieceIn.f k (m.map prTo) ((tx t).length : Int) (pcOf t).named (pcOf t).fin.addr (pcOf t).fin.port (mkB (tx t)) = some (mkB (tx (inTok m t))) := by
        obtain ⟨k2, rfl⟩ : ∃ m, k = m + 1 := ⟨k - 1, by omega⟩
        have := pieceIn_to k2 m (by omega) (pcOf t) (pcOf_port (good_toks _) hmem) (tx t)
        rwa [hsz, inP_tok] at this
      clear ih hol hbl hsb hf1 hb hn hk hm hq
      have hw3 : wrap64 ((i : Int) + 1) = ((i + 1 : Nat) : Int) := by rw [w64 (by omega)]; omega
      have hw : wrap64 ((F : Int) + ((tx t).length : Int)) = ((F + (tx t).length : Nat) : Int) := by rw [w64 (by omega)]; omega
      have hf0 : (rd_T116 (((toks (body s)).map pcOf).map pcTo) (i : Int)).f0 = ((tx t).length : Int) := by
        rw [rd_tk _ i t ht]
        cases t <;> rfl
      have hf1' : (rd_T116 (((toks (body s)).map pcOf).map pcTo) (i : Int)).f1 = (pcOf t).named := by rw [rd_tk _ i t ht]; rfl
      have hf2 : (rd_T116 (((toks (body s)).map pcOf).map pcTo) (i : Int)).f2.f0 = (pcOf t).fin.addr := by rw [rd_tk _ i t ht]; rfl
      have hf3 : (rd_T116 (((toks (body s)).map pcOf).map pcTo) (i : Int)).f2.f1 = (pcOf t).fin.port := by rw [rd_tk _ i t ht]; rfl
      simp only [spec_l11Put.l0]
      rw [if_pos q1, if_pos q2, if_pos q3, hf0, hf1', hf2, hf3, hw, if_pos q4, size_mkB, if_pos q5, Int.toNat_natCast, Int.toNat_natCast, extM, q6, hx, hw3]
      clear hf0 hf1' hf2 hf3 hw hw3
      cases out with
      | true =>
        rw [if_pos rfl, hP1, Option.bind_some]
        simp only
        rw [if_pos q7]
        rw [show (qs.map spTo ++ [(⟨((tx t).length : Int), mkB (tx (outTok m t).2)⟩ : S109)]) = (qs ++ [(⟨((tx t).length : Int), tx (outTok m t).2⟩ : Sp)]).map spTo from by rw [List.map_append]; rfl, hih1, hd]
        simp [goTok, outToks, made]
      | false =>
        rw [if_neg (by decide), hP2, Option.bind_some, if_pos q7]
        rw [show (qs.map spTo ++ [(⟨((tx t).length : Int), mkB (tx (inTok m t))⟩ : S109)]) = (qs ++ [(⟨((tx t).length : Int), tx (inTok m t)⟩ : Sp)]).map spTo from by rw [List.map_append]; rfl, hih2, hd]
        simp [goTok, made]
    · simp only [spec_l11Put.l0]
      rw [if_neg (by rw [List.length_map, List.length_map]; omega), List.drop_of_length_le (by omega)]
      unfold goTok
      cases out <;> simp [made, outToks]
theorem l11Put_to (k : Nat) (hk : 3000 < k) (m : List Pr) (hm : m.length ≤ 500) (l : List UInt8) (hl : l.length ≤ 400) (ps : List Sp) (hf : fitS ps (toks (body l))) (a : Int) (ha : 0 ≤ a ∧ a ≤ 1000000) (x : List UInt8) (hx : x.length ≤ 1000000) (out : Bool) :
    spec_l11Put.f k (m.map prTo) (mkB l) (ps.map spTo) a (mkB x) out = some ((putS m l ps a x out).1.map prTo, mkB (putS m l ps a x out).2.1, (putS m l ps a x out).2.2.1.map spTo, (putS m l ps a x out).2.2.2) := by
  obtain ⟨k, rfl⟩ : ∃ m, k = m + 1 := ⟨k - 1, by omega⟩
  have hw : wrap64 (a + (x.length : Int)) = a + (x.length : Int) := w64 (by omega)
  unfold spec_l11Put.f
  simp only [spec_l11Put.j0, size_mkB, hw]
  by_cases c1 : a > (l.length : Int)
  · rw [if_pos c1, if_pos trivial, putS_no (.inl c1)]
  · rw [if_neg c1]
    by_cases c2 : a + (x.length : Int) > 40
    · rw [if_pos (by first | exact c2 | exact decide_eq_true c2), putS_no (.inr c2)]
    · rw [if_neg (by first | exact c2 | (rw [decide_eq_false c2]; decide))]
      by_cases c3 : a + (x.length : Int) ≤ (l.length : Int)
      · rw [if_pos c3, putS_old (by omega) (by omega) c3]
      · have hw2 : wrap64 ((l.length : Int) - a) = ((l.length - a.toNat : Nat) : Int) := by rw [w64 (by omega)]; omega
        obtain ⟨B, hB⟩ := toks_ext l (x.drop (l.length - a.toNat))
        have hlen := new_len (l := l) (x := x) ha.1 (by omega) c3
        have hfl := fitS_len hf
        rw [if_neg c3, hw2, if_pos (by omega), if_pos (by omega), Int.toNat_natCast, show (mkB x).extract (l.length - a.toNat) x.length = mkB (x.drop (l.length - a.toNat)) from extE x _, size_mkB]
        rw [if_pos (by rw [List.length_append] at hlen; omega), l11Done_to k (by omega) l (by omega) ps hf, Option.bind_some, bytes_append]
        obtain ⟨s, hs⟩ : ∃ s, l ++ x.drop (l.length - a.toNat) = s := ⟨_, rfl⟩
        rw [hs] at hB hlen ⊢
        rw [spec_pieces_to k s (by omega) (by omega), Option.bind_some, Option.bind_some, pcL_toks]
        have h9 := toks_len l
        rw [if_pos (by rw [List.length_nil, List.length_map]; omega), List.nil_append, List.length_map]
        have h10 := l11Put_l0 s (by omega) out 100 k ps.length m ps (by have := toks_len s; omega) (by omega) (by rw [hB, List.length_append]; omega) (by omega) (Nat.le_refl _)
        have e1 : (toks (body s)).take ps.length = toks (body l) := by rw [hB, hfl, List.take_left]
        have e2 : (toks (body s)).drop ps.length = B := by rw [hB, hfl, List.drop_left]
        rw [e1, e2, flat_toks] at h10
        rw [h10, putS_newS (by omega) (by omega) c3 (by rw [hs]; exact hB) hf, hs]
noncomputable def putAll (m : List Pr) (l : List UInt8) (ps : List Sp) (a : Int) (x : List UInt8) (out : Bool) : List Pr × List UInt8 × List Sp × Bool :=
  if mapOkB m && stOkB l ps && textOk x && inB a 0 40 then putS m l ps a x out else ([], [], [], false)
theorem inB40 {a : Int} : inB a 0 40 = true ↔ 0 ≤ a ∧ a ≤ 40 := by
  unfold inB
  rw [Bool.and_eq_true, decide_eq_true_iff, decide_eq_true_iff]
theorem l11Copy_to (l : List UInt8) (ps : List Sp) (hps : ps.length ≤ 1099511627776) : spec_l11Copy.f (mkB l) (ps.map spTo) = some (mkB l, ps.map spTo) := by
  unfold spec_l11Copy.f
  rw [Option.bind_some, if_pos (by rw [List.length_map, List.length_nil]; omega), List.nil_append]
theorem spec_StreamPut_to (k : Nat) (hk : 4000 < k) (m : List Pr) (hm : m.length ≤ 1099511627776) (l : List UInt8) (hl : l.length ≤ 140737488355328) (ps : List Sp) (a : Int) (x : List UInt8) (hx : x.length ≤ 140737488355328) (out : Bool) :
    spec_StreamPut.f k (m.map prTo) (mkB l) (ps.map spTo) a (mkB x) out = some ((putAll m l ps a x out).1.map prTo, mkB (putAll m l ps a x out).2.1, (putAll m l ps a x out).2.2.1.map spTo, (putAll m l ps a x out).2.2.2) := by
  obtain ⟨k, rfl⟩ : ∃ m, k = m + 1 := ⟨k - 1, by omega⟩
  unfold spec_StreamPut.f putAll
  rw [spec_MapOk_is m hm, Option.bind_some, spec_StreamOk_to _ (by omega) l hl, Option.bind_some, spec_TextOk_is x hx, Option.bind_some]
  have hin : spec_l6In.f a 0 40 = some (inB a 0 40) := by
    unfold spec_l6In.f inB
    by_cases c1 : 0 ≤ a <;> by_cases c2 : a ≤ 40 <;> simp [c1, c2]
  rw [hin, Option.bind_some]
  simp only [spec_StreamPut.j0]
  cases h1 : mapOkB m
  · simp
  · cases h2 : stOkB l ps
    · simp
    · cases h3 : textOk x
      · simp
      · cases h4 : inB a 0 40
        · simp
        · have h5 := stOkB_iff.1 h2
          have h6 := inB40.1 h4
          have h7 := mapOk_len h1
          have h8 := textOk_len h3
          have h9 := textOk_len h5.1
          have h10 := fit_len h5.2
          have h11 := toks_len l
          simp only [if_true, Bool.not_true, Bool.false_eq_true, if_false, Bool.and_self]
          rw [l3Copy_to m hm, Option.bind_some, l11Copy_to l ps (by omega), Option.bind_some]
          simp only
          rw [l11Put_to k (by omega) m (by omega) l (by omega) ps (fit_S h5.2) a (by omega) x (by omega) out, Option.bind_some]
end Go.Proofs.YtfjbjiklohjodaaGreatDoor.Q
namespace Go.Proofs.YtfjbjiklohjodaaGreatDoor.Q
open Go Go.RowKit Go.Proofs.YtfjbjiklohjodaaGreatDoorW.PrintWords Go.Proofs.YtfjbjiklohjodaaGreatDoorW.PrintLast Go.Proofs.YtfjbjiklohjodaaGreatDoorW.PrintMore Go.Proofs.YtfjbjiklohjodaaGreatDoor.Z
set_option linter.unusedVariables false
set_option linter.unusedSimpArgs false
attribute [local go_sem ↓] Go.wp_at_zero Go.wp_at_succ
attribute [local go_sem] max2_int min2_int max_two min_two
def trunc (w : World) (n : Nat) : World := { w with heap := w.heap.extract 0 n }
theorem trunc_size {w : World} {n : Nat} (h : n ≤ w.heap.size) : (trunc w n).heap.size = n := by
  show (w.heap.extract 0 n).size = n
  rw [Array.size_extract]
  omega
theorem trunc_get {w : World} {n k : Nat} (h : n ≤ w.heap.size) (hk : k < n) : (trunc w n).heap[k]? = w.heap[k]? := by
  show (w.heap.extract 0 n)[k]? = w.heap[k]?
  rw [Array.getElem?_extract]
  simp
  omega
theorem trunc_below {w : World} {n : Nat} (h : n ≤ w.heap.size) : Below (trunc w n).heap.size (trunc w n) w :=
  ⟨rfl, rfl, rfl, by rw [trunc_size h]; exact h, fun k hk => (trunc_get h (by rwa [trunc_size h] at hk)).symm⟩
theorem of_trunc {w w' : World} {n : Nat} (h : n ≤ w.heap.size) (hb : Below n (trunc w n) w') (hs : w.heap.size ≤ w'.heap.size) : Below n w w' :=
  ⟨hb.os, hb.tape, hb.output, hs, fun k hk => (hb.block k hk).trans (trunc_get h hk)⟩
theorem Q_dr {α : Type} {d : Kd α} {e : Nat} {w w1 : World} {base r : Nat} {v : Value} {xs : List α} (h : Kd.Q d e w base (fun _ => True) v xs) (hd : Dr r w w1) (hr : r < base) : Kd.Q d e w1 base (fun _ => True) v xs :=
  Kd.Q_mono (Kd.Q_step (Kd.Q_bound h) (fun k hk hlt => hd.1.2 k hlt (by have := hk.2.1; omega) (by simp))) (fun _ _ => trivial)
theorem lind_lit {P : Program} {ops : Array Oper} {Q : Exit → Act → World → Prop} {S : World → Prop} {T : Bool × List (List Nat × List Nat)} {ds : List Nat} {n : Nat} {dn rest : List Nat} {i : Nat} {oi : Oper} {N : Tmp} {a : Act} {w : World} {α : Type} (d : Kd α) (e : Nat) {xs : List α} {inner : List Value}
    (hi : ops[i]? = some oi) (hN : oi.dst = some N) (hc : ((readyT T.2 (lst n dn) == [i] && (lst n dn).set i true == lst n (i :: dn)) && !ds.contains i) = true) (hw : Region.wanted oi (yielded ops a.tmps) = true)
    (hrun : S w → (execOp a.eval oi).run P w = .ok (.value (.slice (some ⟨w.heap.size, 0, none⟩) xs.length xs.length)) (w.alloc (.cells inner.toArray e))) (hrep : Reps (d.M w w.heap.size (fun _ => True)) d.sz xs inner) (hm : xs.length ≤ 9223372036854775807)
    (h : ∀ v1 w1, d.R e w1 w.heap.size (fun _ => True) v1 xs → Below w.heap.size w w1 → (∃ b, v1.ownBlock = some b ∧ w.heap.size ≤ b) → S w1 ∧ LinD P ops Q S T ds n (i :: dn) rest (a.put (some N) v1) w1) : LinD P ops Q S T ds n dn (i :: rest) a w := by
  rw [Bool.and_eq_true] at hc
  refine fun hT hS => one_ (lst n (i :: dn)).toArray hi hN (one_of hT.out (by simpa using hc.1)) (by have := hc.2; simpa using this) (fun K hK => ?_)
  have := Kd.R_lit_step d (Q := Q) (w0 := w) w.heap.size e hw hN (hrun hS) hrep (okp := fun _ => True) (ok := fun _ => True) (fun _ h => h) trivial (Below.refl _ _) (Nat.le_refl _) hm (Kc := K) (fun v1 w1 h1 h2 h3 h4 => by
    obtain ⟨q1, q2⟩ := h v1 w1 h1 h2 h4
    rw [hN]
    exact hK.out _ _ q1 (fun h5 => q2 hT h5))
  rwa [hN] at this
theorem put_Tx {w : World} {e base g n cap : Nat} {ok : Nat → Prop} {xs : List S109} (h : Kd.R k109 e w base ok (.slice (some ⟨g, 0, none⟩) n cap) xs) (hn : 0 < n) (x : ByteArray) :
    ∃ q : S109, w.cell? ⟨g, 1, none⟩ = some (.string q.f1) ∧ w.frozen? ⟨g, 1, none⟩ = false ∧ Aside0 (Kd.R k109 e (w.setCell ⟨g, 1, none⟩ (.string x)) base ok (.slice (some ⟨g, 0, none⟩) n cap) (xs.set 0 ⟨q.f0, x⟩)) := by
  obtain ⟨cs, hcl, hM, hcc, hfr⟩ := Kd.R_elem h z109 (0 : Int) (by omega) (by omega)
  obtain rfl := k109_openM hM
  have HP := Kd.R_seg h (0 : Int) (by omega) (by omega) (seg := [.string x]) (j := 1) hcl hcc (show 1 + 1 ≤ 2 from by decide) (x' := ⟨(xs.getD 0 z109).f0, x⟩) (k109_mkM _ _ _ ⟨(xs.getD 0 z109).f0, x⟩) (fun _ hk => hk)
  exact ⟨_, hcc 1 _ rfl, hfr 1, ⟨HP.1⟩⟩
def strLen : Value → Nat
  | .string s => s.size
  | _ => 0
theorem putS_keeps {m : List Pr} {l : List UInt8} {ps : List Sp} {a : Int} {x : List UInt8} {out : Bool} (hm : mapOkB m = true) (hf : fitS ps (toks (body l))) (ha : 0 ≤ a) :
    mapOkB (putS m l ps a x out).1 = true ∧ fitS (putS m l ps a x out).2.2.1 (toks (body (putS m l ps a x out).2.1)) ∧ (putS m l ps a x out).2.1.length ≤ max l.length 40 ∧ l.length ≤ (putS m l ps a x out).2.1.length := by
  by_cases c1 : a > (l.length : Int) ∨ a + (x.length : Int) > 40
  · rw [putS_no c1]
    exact ⟨hm, hf, Nat.le_max_left _ _, Nat.le_refl _⟩
  · by_cases c2 : a + (x.length : Int) ≤ (l.length : Int)
    · rw [putS_old (by omega) (by omega) c2]
      exact ⟨hm, hf, Nat.le_max_left _ _, Nat.le_refl _⟩
    · obtain ⟨B, hB⟩ := toks_ext l (x.drop (l.length - a.toNat))
      have hlen := new_len (l := l) (x := x) ha (by omega) c2
      rw [putS_newS (by omega) (by omega) c2 hB hf]
      refine ⟨(goTok_ext hm B out).1, ?_, ?_, ?_⟩
      · show fitS (ps ++ made B (goTok out m B).2) (toks (body (l ++ x.drop (l.length - a.toNat))))
        rw [hB]
        exact fitS_append hf (fitS_made (goTok_len out m B).symm)
      · show (l ++ x.drop (l.length - a.toNat)).length ≤ _
        have := Nat.le_max_right l.length 40
        omega
      · show l.length ≤ (l ++ x.drop (l.length - a.toNat)).length
        omega
theorem put_grows {m : List Pr} {l : List UInt8} {ps : List Sp} {x : List UInt8} {out : Bool} (hf : fitS ps (toks (body l))) (hx : 0 < x.length) (h40 : l.length + x.length ≤ 40) : (putS m l ps (l.length : Int) x out).2.1.length = l.length + x.length := by
  obtain ⟨B, hB⟩ := toks_ext l (x.drop (l.length - (l.length : Int).toNat))
  rw [putS_newS (by omega) (by omega) (by omega) hB hf]
  have := new_len (l := l) (x := x) (a := (l.length : Int)) (by omega) (by omega) (by omega)
  show (l ++ x.drop (l.length - (l.length : Int).toNat)).length = _
  omega
theorem setFar {w : World} {g : Nat} {o : Obj} (h : w.heap[g]? = some o) (q j : Nat) (u : Value) (hne : g ≠ q) : (w.setCell ⟨q, j, none⟩ u).heap[g]? = some o := (Below.heap_setCell _ _ _ _ hne).trans h
theorem Q_S {α : Type} {d : Kd α} {e : Nat} {w : World} {base g r : Nat} {v : Value} {xs : List α} {c1 c2 : Array Value} {t : Nat} (h : Kd.Q d e w base (fun _ => True) v xs) (h1 : w.heap[g]? = some (.cells c1 t (0, 0))) (h2 : w.heap[r]? = some (.cells c2 t (0, 0))) (ht : ∀ q, q ∈ e :: d.E → q ≠ t) : Kd.Q d e w base (fun k => base ≤ k ∧ k ≠ g ∧ k ≠ r) v xs :=
  Kd.Q_mono (Kd.Q_bound (Kd.Q_types (Kd.Q_types h h1 ht) h2 ht)) (fun k hk => ⟨hk.2.1, hk.1.1.2, hk.1.2⟩)
theorem R_S {α : Type} {d : Kd α} {e : Nat} {w : World} {base g r : Nat} {v : Value} {xs : List α} {c1 c2 : Array Value} {t : Nat} (h : Kd.R d e w base (fun _ => True) v xs) (h1 : w.heap[g]? = some (.cells c1 t (0, 0))) (h2 : w.heap[r]? = some (.cells c2 t (0, 0))) (ht : ∀ q, q ∈ e :: d.E → q ≠ t) : Kd.R d e w base (fun k => base ≤ k ∧ k ≠ g ∧ k ≠ r) v xs :=
  Kd.R_mono (Kd.R_bound (Kd.R_types (Kd.R_types h h1 ht) h2 ht)) (fun k hk => ⟨hk.2.1, hk.1.1.2, hk.1.2⟩)
theorem put_call (w : World) (n : Nat) (hn : n ≤ w.heap.size) (m : List Pr) (hm : m.length ≤ 500) (l : ByteArray) (hl : l.size ≤ 400) (ps : List Sp) (hf : fitS ps (toks (body (bl l)))) (a : Int) (ha : 0 ≤ a ∧ a ≤ 1000000) (x : ByteArray) (hx : x.size ≤ 1000000) (out : Bool) (u v : Value) (S : Nat → Prop)
    (hu : Kd.Q k111 111 w n S u (m.map prTo)) (hv : Kd.R k109 109 w n S v (ps.map spTo)) :
    Calls Tryz.prog 64 #[u, .agg #[.string l, v], .int .i64 a, .string x, .bool out] w fun e w' => ∃ u' v' : Value,
      e = .returned (.tuple #[u', .agg #[.string (mkB (putS m (bl l) ps a (bl x) out).2.1), v'], .bool (putS m (bl l) ps a (bl x) out).2.2.2]) ∧
      Kd.Q k111 111 w' n (fun _ => True) u' ((putS m (bl l) ps a (bl x) out).1.map prTo) ∧ Kd.R k109 109 w' n (fun _ => True) v' ((putS m (bl l) ps a (bl x) out).2.2.1.map spTo) ∧ Below n w w' ∧ Kept w w' S := by
  have hP := l11Put_to 3001 (by omega) m hm (bl l) (by rw [bl_len]; exact hl) ps hf a ha (bl x) (by rw [bl_len]; exact hx) out
  rw [mkB_bl, mkB_bl] at hP
  refine (spec_l11Put.callsQ 3001 S u (m.map prTo) l S v (ps.map spTo) a x out _ _ _ _ (trunc w n) w (trunc_below hn) (by rw [trunc_size hn]; exact RQ_ofQ hu) (by rw [trunc_size hn]; exact RQ_ofR hv) hP).mono ?_
  rintro e w' ⟨v0, v2, rfl, h1, h2, hb, hk⟩
  rw [trunc_size hn] at h1 h2 hb
  exact ⟨v0, v2, rfl, Kd.Q_mono h1 (fun _ _ => trivial), Kd.R_mono h2 (fun _ _ => trivial), of_trunc hn hb hk.1, hk.1, fun i hi hs => hk.2 i hi (fun h => hs (h.elim id id))⟩
set_option maxRecDepth 100000 in
set_option maxHeartbeats 4000000 in
theorem spec_l71StreamC (r : Nat) (B : Int) (w : World) (h : Rd w r B) (hB : B ≤ 100000) :
    Calls Tryz.prog 60 #[.pointer (some ⟨r, 0, none⟩)] w fun e w' => ∃ (u v : Value) (m : List Pr) (l : ByteArray) (ps : List S109), e = .returned (.tuple #[u, .agg #[.string l, v]]) ∧
      Kd.Q k111 111 w' w.heap.size (fun _ => True) u (m.map prTo) ∧ Kd.R k109 109 w' w.heap.size (fun _ => True) v ps ∧ mapOkB m = true ∧ l.size ≤ 40 ∧ ps.length ≤ 40 ∧ Rd w' r (B + 1000) ∧ Dr r w w' := by
  have hr := h.lt
  have bk := heap_alloc_new w (.cells #[.string ⟨#[]⟩, .slice none 0 0] 26)
  have hz0 : (w.alloc (.cells #[.string ⟨#[]⟩, .slice none 0 0] 26)).heap.size = w.heap.size + 1 := by show (w.heap.push _).size = _; simp
  go_enter Tryz.func60, Tryz.ntmps60
  go_wp2_with fail; refine (spec_l71MapQ r B _ (h.alloc _) (by omega)).mono ?_; rintro e w1 ⟨u1, xs, rfl, hQ1, hl1, hR1, hD1⟩
  replace bk := hD1.blk bk (Nat.ne_of_gt hr)
  have HD1 := Aside0.mk (((Dr.refl r w).alloc (Nat.le_of_lt hr) _).trans hD1)
  have hz1 : w.heap.size + 1 ≤ w1.heap.size := by have := hD1.size; rwa [hz0] at this
  have hQ1 := Kd.Q_lower (base' := w.heap.size) hQ1 (by rw [hz0]; exact Nat.le_succ _)
  clear hz0 hD1
  obtain ⟨L1, hL1⟩ : ∃ L1, xs.map prTo = L1 := ⟨_, rfl⟩
  rw [hL1] at hQ1
  obtain ⟨A1, c1, rfl, hlc1, hC1⟩ := Kd.Q_reads hQ1
  have hQ1 := Aside0.mk hQ1
  obtain ⟨q, hq⟩ : ∃ q, mapOkB xs = q := ⟨_, rfl⟩
  have hMO : spec_MapOk.f L1 = some q := by rw [← hL1, spec_MapOk_is xs (by omega), hq]
  have HL1 := Aside0.mk hL1
  clear hL1
  have hlt1 := hR1.lt
  go_upto_if 13 with (go_at_call 20; with_reducible refine (spec_MapOk.calls A1 c1 L1 q _ hC1 hlc1 hMO).mono ?_; rintro e w2 ⟨rfl, hb2⟩)
  have hQ2 := Aside0.mk (Kd.Q_below hQ1.out hb2)
  have hR2 := Aside0.mk (hR1.keeps (hb2.mono hlt1))
  have HD2 := Aside0.mk (HD1.out.thenB hb2 hr)
  have bk2 := Aside0.mk ((hb2.block w.heap.size (by omega)).trans bk)
  have hz2 := hb2.size
  clear hb2 hQ1 HD1 bk hR1 hC1 hMO
  go_cut [4] (fun m wc => ∃ ys : List Pr, Aside0 (Kd.Q k111 111 wc w.heap.size (fun _ => True) m (ys.map prTo)) ∧ mapOkB ys = true ∧ Aside0 (Rd wc r (B + 60)) ∧ Aside0 (Dr r w wc) ∧ Aside0 (wc.heap[w.heap.size]? = some (.cells #[.string ⟨#[]⟩, .slice none 0 0] 26 (0, 0))))
  case first =>
    cases q with
    | true =>
      go_wp2
      go_meet
      case rel => exact ⟨xs, ⟨by rw [HL1.out]; exact hQ2.out⟩, hq, hR2, HD2, bk2⟩
    | false =>
      go_wp2_with (first | ((with_reducible refine gate_dst (N := 14) rfl ?_); refine Kd.R_lit k111 _ 111 ?hg (N := 14) ?hd (xs := ([] : List S111)) (inner := []) (ok := fun _ => True) (okp := fun _ => True) ?hr ?hp (fun _ hk => hk) trivial (Below.refl _ _) (by first | exact Nat.le_refl _ | omega) (by simp) ?_; (case hd => rfl); (case hg => rfl); (case hr => first | (go_simp; done) | (go_simp; rfl)); (case hp => exact (Reps.none _ _)); intro v3 w3 ho3 hb3 _ _) | fail)
      go_meet
      case rel => exact ⟨[], ⟨Kd.Q_of_R (Kd.R_lower ho3 (by omega))⟩, mapOkB_iff.2 ⟨fun k hk => absurd hk (Nat.not_lt_zero _), by decide⟩, ⟨hR2.out.keeps (hb3.mono hR2.out.lt)⟩, ⟨HD2.out.thenB hb3 hr⟩, ⟨(hb3.block w.heap.size (by omega)).trans bk2.out⟩⟩
  case rest =>
    clear hQ2 hR2 HD2 bk2 hq hlc1
    obtain ⟨ms, HQ, hmo, HR, HD, BK⟩ := hcut
    rename_i wc
    have hzc := HD.out.size
    have hltc := HR.out.lt
    go_wp2_with (first | (((with_reducible refine gate_dst (N := 15) rfl ?_); refine Kd.R_lit k109 _ 109 ?hg (N := 15) ?hd (xs := ([] : List S109)) (inner := []) (ok := fun _ => True) (okp := fun _ => True) ?hr ?hp (fun _ hk => hk) trivial (Below.refl _ _) (by first | exact Nat.le_refl _ | omega) (by simp) ?_; (case hd => rfl); (case hg => rfl); (case hr => first | (go_simp; done) | (go_simp; rfl)); (case hp => exact (Reps.none _ _)); intro v4 w4 ho4 hb4 _ _); obtain ⟨A4, c4, e4⟩ := Kd.R_slice ho4; subst e4) | fail)
    have hz4 := hb4.size
    have HQ4 := Kd.Q_below HQ.out hb4
    have HR4 := HR.out.keeps (hb4.mono hltc)
    have HD4 := HD.out.thenB hb4 hr
    have BK4 := (hb4.block w.heap.size (blk_lt BK.out)).trans BK.out
    refine (spec_pick r 2 (B + 60) _ (HR4.keeps (((by repeat (first | (with_reducible exact (Below.refl _ _)) | (with_reducible apply below_alloc) | (with_reducible apply pw_below_drewN) | (with_reducible apply below_drew1) | with_reducible refine below_set ?_ (by first | (with_reducible exact Nat.le_refl _) | (with_reducible assumption) | (simp; done) | omega | (simp; omega)))) : Below w4.heap.size w4 _).mono HR4.lt)) (by omega)).mono ?_
    rintro e w5 ⟨x5, rfl, hx5, _, hR5, hD5⟩
    have hG : w.heap.size < w4.heap.size := blk_lt BK4
    obtain ⟨G, hGe⟩ : ∃ G, G = w4.heap.size := ⟨_, rfl⟩
    have hrG : G ≠ r := by omega
    have hBl : Below w4.heap.size w4 (w4.alloc (.cells #[.string ⟨#[]⟩, .slice A4 0 c4] 26)) := below_alloc (Below.refl _ _) _
    have b5 : w5.heap[G]? = some (.cells #[.string ⟨#[]⟩, .slice A4 0 c4] 26 (0, 0)) := by
      rw [hGe]
      exact hD5.blk (heap_alloc_new w4 _) (by omega)
    have HQ5 := Q_dr (Kd.Q_below HQ4 hBl) hD5 hr
    have HP5 := Dr.R (Kd.R_lower (base' := w.heap.size) (Kd.R_below ho4 hBl) (by omega)) hD5 hr
    have HD5 := (HD4.thenB hBl hr).trans hD5
    have BK5 := hD5.blk ((hBl.block w.heap.size hG).trans BK4) (by omega)
    obtain ⟨out, hout⟩ : ∃ out, (x5 == (0 : Int)) = out := ⟨_, rfl⟩
    have hG5 : w.heap.size < G := by omega
    rw [← hGe]
    clear hx5 hD5 HR4 HD4 HQ4 BK4 ho4 hb4 hBl hGe hG HR HD HQ BK hz4
    go_wp2_with fail; refine (spec_l71Text r 30 _ _ hR5 (by omega) (by omega)).mono ?_; rintro e w6 ⟨t6, rfl, ht6, hR6, hD6⟩
    have b6 := Aside0.mk (hD6.blk b5 hrG)
    have HQ6 := Aside0.mk (Q_dr HQ5 hD6 hr)
    have HP6 := Aside0.mk (Dr.R HP5 hD6 hr)
    have HD6 := Aside0.mk (HD5.trans hD6)
    have BK6 := Aside0.mk (hD6.blk BK5 (by omega))
    have HR6 := Aside0.mk hR6
    have hmo := Aside0.mk hmo
    clear b5 HQ5 HP5 HD5 BK5 hR5 hD6 hR6
    go_wp2
    go_loopw [4, 7] (fun m t w' => ∃ (u : Value) (ys : List Pr) (b l : ByteArray) (ps : List Sp) (v : Value), u = m ∧ t = .string b ∧ l.size ≤ b.size ∧ b.size ≤ 30 ∧ Aside0 (Kd.Q k111 111 w' w.heap.size (fun _ => True) u (ys.map prTo)) ∧ Aside0 (Kd.R k109 109 w' w.heap.size (fun _ => True) v (ps.map spTo)) ∧ Aside0 (w'.heap[G]? = some (.cells #[.string l, v] 26 (0, 0))) ∧ Aside0 (mapOkB ys = true) ∧ Aside0 (fitS ps (toks (body (bl l)))) ∧ Aside0 (Rd w' r (B + 200 - 2 * ((b.size : Int) - (l.size : Int)))) ∧ Aside0 (Dr r w w') ∧ Aside0 (w'.heap[w.heap.size]? = some (.cells #[.string ⟨#[]⟩, .slice none 0 0] 26 (0, 0)))) (fun m t w' => strLen t - strLen ((w'.cell? ⟨G, 0, none⟩).getD undef))
    case atStart => exact ⟨_, ms, t6, ⟨#[]⟩, [], .slice A4 0 c4, rfl, rfl, Nat.zero_le _, by omega, HQ6, HP6, b6, hmo, ⟨rfl⟩, ⟨HR6.out.mono (by show B + 60 + 1 + 60 ≤ B + 200 - 2 * ((t6.size : Int) - ((0 : Nat) : Int)); omega)⟩, HD6, BK6⟩
    case round =>
      clear b6 HQ6 HP6 HD6 BK6 HR6 hmo ht6
      obtain ⟨u, ys, b, l, ps, v, hmu, rfl, hlb, hb30, HQ, HP, BG, HM, HF, HR, HD, BK⟩ := hrel
      subst hmu
      have c0 : wr.cell? ⟨G, 0, none⟩ = some (.string l) := (blk_cell BG.out 0).trans rfl
      have c1 : wr.cell? ⟨G, 1, none⟩ = some v := (blk_cell BG.out 1).trans rfl
      by_cases hlt : l.size < b.size
      · have t0 : decide ((l.size : Int) < (b.size : Int)) = true := decide_eq_true (by omega)
        have HC0 := Aside0.mk c0
        go_wp2_with fail; refine (spec_pick r 8 _ _ HR.out (by omega)).mono ?_; rintro e w1 ⟨x1, rfl, hx1, _, hR1, hD1⟩
        obtain ⟨h1a, h1b⟩ := hx1 (by omega)
        obtain ⟨j, rfl⟩ : ∃ j : Nat, x1 = j := ⟨x1.toNat, by omega⟩
        have bg1 := hD1.blk BG.out hrG
        have HQ1 := Q_dr HQ.out hD1 hr
        have HP1 := Dr.R HP.out hD1 hr
        have HD1 := HD.out.trans hD1
        have BK1 := hD1.blk BK.out (by omega)
        clear c0 c1 hx1 hD1 HQ HP BG HR HD BK
        have c0 : w1.cell? ⟨G, 0, none⟩ = some (.string l) := (blk_cell bg1 0).trans rfl
        have c1 : w1.cell? ⟨G, 1, none⟩ = some v := (blk_cell bg1 1).trans rfl
        have hw1 : IntKind.i64.wrap (1 + (j : Int)) = 1 + (j : Int) := IntWalk.i64_in _ (by omega)
        have hw2 : IntKind.i64.wrap ((l.size : Int) + (1 + (j : Int))) = (l.size : Int) + (1 + (j : Int)) := IntWalk.i64_in _ (by omega)
        obtain ⟨e, he, he1, he2⟩ : ∃ e : Nat, (if (b.size : Int) < (l.size : Int) + (1 + (j : Int)) then (b.size : Int) else (l.size : Int) + (1 + (j : Int))) = (e : Int) ∧ l.size < e ∧ e ≤ b.size := ⟨min (l.size + (1 + j)) b.size, by omega, by omega, by omega⟩
        have s1 : (0 : Int) ≤ (l.size : Int) := by omega
        have s2 : (l.size : Int) ≤ (e : Int) := by omega
        have s3 : (e : Int) ≤ (b.size : Int) := by omega
        go_upto_region 9 with (fail)
        refine lind_start (fun w' => w'.cell? ⟨G, 0, none⟩ = some (.string l) ∧ w'.cell? ⟨G, 1, none⟩ = some v) [25] (true, [([], []), ([], []), ([], []), ([2], [2]), ([3], [3]), ([], []), ([], []), ([6], [6]), ([7], [7]), ([], []), ([9], [9]), ([10], [10]), ([], []), ([11, 12], [11, 12]), ([], []), ([14], [14]), ([13, 15], [13, 15]), ([5, 8, 16], [5, 8, 16]), ([], []), ([0, 1, 4, 17, 18], [0, 1, 4, 17, 18]), ([19], [19]), ([20], [20]), ([20], [20]), ([20], [20]), ([21, 19, 0, 1, 2, 3, 4, 5, 6, 7, 8, 9, 10, 11, 12, 13, 14, 15, 16, 17, 18, 19, 20, 21], [0, 21]), ([22, 24, 0, 1, 2, 3, 4, 5, 6, 7, 8, 9, 10, 11, 12, 13, 14, 15, 16, 17, 18, 19, 20, 21, 22, 24], [22])]) [0, 1, 2, 3, 4, 5, 6, 7, 8, 9, 10, 11, 12, 13, 14, 15, 16, 17, 18, 19, 20, 21, 22, 23, 24, 25] (by kernel_rfl) (by kernel_rfl) (by kernel_rfl) ⟨by go_simp, by go_simp⟩ ?_
        repeat (first | (refine lind_take rfl rfl (by kernel_rfl) (fun _ _ _ h => h) (by rfl) (v := ?_) (a' := ?_) ?_ ?_ ?_; rotate_left 2; (rintro w' ⟨s0, s1⟩; go_simp; with_reducible rfl); (simp only [List.getElem_toArray, List.getElem_cons_zero, List.getElem_cons_succ, Act.put, List.setIfInBounds_toArray, List.set_cons_zero, List.set_cons_succ]; rfl)) | (refine lind_off rfl rfl (by kernel_rfl) (fun _ _ _ h => h) (by rfl) (a' := ?_) ?_ ?_; rotate_left 1; (simp only [List.getElem_toArray, List.getElem_cons_zero, List.getElem_cons_succ, Act.put, List.setIfInBounds_toArray, List.set_cons_zero, List.set_cons_succ]; rfl)))
        refine lind_call rfl rfl rfl Tryz.func64 (by kernel_rfl) (by kernel_rfl) rfl (by rfl) (args := #[u, .agg #[.string l, v], .int .i64 (l.size : Int), .string (b.extract l.size e), .bool out]) (by (try simp only [List.map_toArray, List.map_cons, List.map_nil]); first | done | rfl) (fun hS => ?_)
        obtain ⟨x, hx⟩ : ∃ x, b.extract l.size e = x := ⟨_, rfl⟩
        have hxl : x.size = e - l.size := by rw [← hx, ByteArray.size_extract]; omega
        rw [hx]
        have hG1 : G < w1.heap.size := blk_lt bg1
        have hn1 : w.heap.size ≤ w1.heap.size := HD1.size
        have hm8 := mapOk_len HM.out
        have hKp := putS_keeps (m := ys) (l := bl l) (ps := ps) (a := ((bl l).length : Int)) (x := bl x) (out := out) HM.out HF.out (Int.natCast_nonneg _)
        have hGr := put_grows (m := ys) (l := bl l) (ps := ps) (x := bl x) (out := out) HF.out (by rw [bl_len, hxl]; omega) (by rw [bl_len, bl_len, hxl]; omega)
        rw [bl_len, bl_len, hxl] at hGr
        refine (put_call w1.drew w.heap.size hn1 ys (by omega) l (by omega) ps HF.out (l.size : Int) (by omega) x (by omega) out u v (fun k => w.heap.size ≤ k ∧ k ≠ G ∧ k ≠ w.heap.size) (Kd.Q_drew (Q_S HQ1 bg1 BK1 (by decide))) (Kd.R_drew (R_S HP1 bg1 BK1 (by decide)))).mono ?_
        rintro e2 w2 ⟨u2, v2, rfl, hQ2, hP2, hB2, hK2⟩
        rw [show ((bl l).length : Int) = (l.size : Int) from rfl] at hKp
        obtain ⟨⟨m2, l2, ps2, ok2⟩, hRr⟩ : ∃ R, putS ys (bl l) ps (l.size : Int) (bl x) out = R := ⟨_, rfl⟩
        rw [hRr] at hQ2 hP2 hKp hGr ⊢
        simp only at hQ2 hP2 hKp hGr ⊢
        obtain ⟨hM2, hF2, hl40, hll⟩ := hKp
        obtain ⟨Ap, cp, hvp⟩ := Kd.R_slice hP2
        obtain ⟨np, hnp⟩ : ∃ np, (ps2.map spTo).length = np := ⟨_, rfl⟩
        rw [hnp] at hvp
        subst hvp
        clear hnp
        have bg2 : w2.heap[G]? = some (.cells #[.string l, v] 26 (0, 0)) := (hK2.2 G hG1 (fun h => h.2.1 rfl)).trans bg1
        have BK2 := (hK2.2 w.heap.size (blk_lt BK1) (fun h => h.2.2 rfl)).trans BK1
        have e0 : w2.cell? ⟨G, 0, none⟩ = some (.string l) := (blk_cell bg2 0).trans rfl
        have e1 : w2.cell? ⟨G, 1, none⟩ = some v := (blk_cell bg2 1).trans rfl
        refine ⟨_, rfl, ⟨e0, e1⟩, ?_⟩
        refine lind_norm (a' := ?_) ?_ ?_; rotate_left 1; (simp only [List.getElem_toArray, List.getElem_cons_zero, List.getElem_cons_succ, Act.put, List.setIfInBounds_toArray, List.set_cons_zero, List.set_cons_succ]; rfl)
        repeat (refine lind_any rfl rfl (by kernel_rfl) (fun _ _ _ h => h) (by rfl) (v := ?_) (a' := ?_) ?_ ?_ ?_; rotate_left 2; (intro w'; go_simp; with_reducible rfl); (simp only [List.getElem_toArray, List.getElem_cons_zero, List.getElem_cons_succ, Act.put, List.setIfInBounds_toArray, List.set_cons_zero, List.set_cons_succ]; rfl))
        have z0 := blk_frozen bg2 0
        have z1 := blk_frozen bg2 1
        have b3 := blk_set bg2 0 (.string (mkB l2))
        have e2 : (w2.setCell ⟨G, 0, none⟩ (.string (mkB l2))).cell? ⟨G, 1, none⟩ = some v := (blk_cell b3 1).trans rfl
        have z2 := blk_frozen b3 1
        refine lind_last (w1 := ((w2.setCell ⟨G, 0, none⟩ (.string (mkB l2))).setCell ⟨G, 1, none⟩ (.slice Ap np cp))) rfl rfl (by kernel_rfl) (by kernel_rfl) (by rfl) (fun hS => ?run) (by kernel_rfl) ?rest
        case run => first | (go_simp; done) | (go_simp; rfl)
        have hl2 : (mkB l2).size = e := by rw [size_mkB, hGr]; omega
        have b4 := (blk_set b3 1 (.slice Ap np cp)).trans rfl
        have ht1 : ∀ q, q ∈ 111 :: k111.E → q ≠ 26 := by decide
        have ht2 : ∀ q, q ∈ 109 :: k109.E → q ≠ 26 := by decide
        have HQ3 := Kd.Q_set (Kd.Q_set hQ2 bg2 ht1 0 (.string (mkB l2))) b3 ht1 1 (.slice Ap np cp)
        have HP3 := Kd.R_set (Kd.R_set hP2 bg2 ht2 0 (.string (mkB l2))) b3 ht2 1 (.slice Ap np cp)
        have hrn : r + 1 ≤ w.heap.size := hr
        have HR3 := ((hR1.keeps (below_drew (Below.refl _ _))).keeps (hB2.mono hrn)).far (q := G) (by omega) 0 (.string (mkB l2))
        replace HR3 := HR3.far (q := G) (by omega) 1 (.slice Ap np cp)
        have HD3 := ((HD1.drew.then_below hB2 hr).far (q := G) (by omega) (by omega) 0 (.string (mkB l2))).far (q := G) (by omega) (by omega) 1 (.slice Ap np cp)
        have BK3 := setFar (setFar BK2 G 0 (.string (mkB l2)) (by omega)) G 1 (.slice Ap np cp) (by omega)
        have BG3 : ((w2.setCell ⟨G, 0, none⟩ (.string (mkB l2))).setCell ⟨G, 1, none⟩ (.slice Ap np cp)).heap[G]? = some (.cells #[.string (mkB l2), .slice Ap np cp] 26 (0, 0)) := b4
        obtain ⟨w3, hw3⟩ : ∃ w3, (w2.setCell ⟨G, 0, none⟩ (.string (mkB l2))).setCell ⟨G, 1, none⟩ (.slice Ap np cp) = w3 := ⟨_, rfl⟩
        rw [hw3] at HQ3 HP3 HR3 HD3 BK3 BG3 ⊢
        clear hw3 b3 b4 bg2 BK2 e0 e1 e2 z0 z1 z2 hQ2 hP2 hB2 hK2 bg1 BK1 HQ1 HP1 HD1 hR1 c0 c1 hx hxl hRr he hw1 hw2
        obtain ⟨l3, hl3⟩ : ∃ l3, mkB l2 = l3 := ⟨_, rfl⟩
        have hF3 : fitS ps2 (toks (body (bl l3))) := by rw [← hl3]; exact hF2
        rw [hl3] at BG3 hl2 ⊢
        have hlt3 : l.size < l3.size := by omega
        have hle3 : l3.size ≤ b.size := by omega
        clear hl2 s1 s2 s3 he1 he2 hGr hl3 hll hl40
        have c0 : w3.cell? ⟨G, 0, none⟩ = some (.string l3) := (blk_cell BG3 0).trans rfl
        go_wp2_with fail; refine (spec_pick r 6 _ _ HR3 (by omega)).mono ?_; rintro e5 w5 ⟨x6, rfl, hx6, _, hR6, hD6⟩
        obtain ⟨h6a, h6b⟩ := hx6 (by omega)
        have b5 := hD6.blk BG3 hrG
        have HQ5 := Q_dr HQ3 hD6 hr
        have HP5 := Dr.R HP3 hD6 hr
        have HD5 := HD3.trans hD6
        have BK5 := hD6.blk BK3 (by omega)
        clear c0 hx6 hD6 HQ3 HP3 HR3 HD3 BK3 BG3
        have c0 : w5.cell? ⟨G, 0, none⟩ = some (.string l3) := (blk_cell b5 0).trans rfl
        have s4 : (0 : Int) ≤ (l3.size : Int) := by omega
        have s5 : (l3.size : Int) ≤ (b.size : Int) := by omega
        have hms : strLen ((w5.cell? ⟨G, 0, none⟩).getD undef) = l3.size := by rw [c0]; rfl
        have hmr : strLen ((wr.cell? ⟨G, 0, none⟩).getD undef) = l.size := by rw [HC0.out]; rfl
        have Hms := Aside0.mk hms
        have Hmr := Aside0.mk hmr
        clear hms hmr
        by_cases h6 : x6 = 0
        · subst h6
          have hex : (b.extract 0 l3.size).size = l3.size := by rw [ByteArray.size_extract]; omega
          have Hex := Aside0.mk hex
          clear hex
          go_wp2
          go_roundw
          case rel => exact ⟨u2, m2, b.extract 0 l3.size, l3, ps2, .slice Ap np cp, rfl, rfl, (by rw [Hex.out]; exact Nat.le_refl _), (by rw [Hex.out]; omega), ⟨HQ5⟩, ⟨HP5⟩, ⟨b5⟩, ⟨hM2⟩, ⟨hF3⟩, ⟨hR6.mono (by rw [Hex.out]; omega)⟩, ⟨HD5⟩, ⟨BK5⟩⟩
          case measure => rw [Hms.out, Hmr.out]; show (b.extract 0 l3.size).size - l3.size < b.size - l.size; rw [Hex.out]; omega
        · have t6 : (x6 == 0) = false := beq_eq_false_iff_ne.2 h6
          go_wp2
          go_roundw
          case rel => exact ⟨u2, m2, b, l3, ps2, .slice Ap np cp, rfl, rfl, (by omega), hb30, ⟨HQ5⟩, ⟨HP5⟩, ⟨b5⟩, ⟨hM2⟩, ⟨hF3⟩, ⟨hR6.mono (by omega)⟩, ⟨HD5⟩, ⟨BK5⟩⟩
          case measure => rw [Hms.out, Hmr.out]; show b.size - l3.size < b.size - l.size; omega
      · have t0 : decide ((l.size : Int) < (b.size : Int)) = false := decide_eq_false (by omega)
        go_wp2_with fail; refine (spec_pick r 20 _ _ HR.out (by omega)).mono ?_; rintro e w1 ⟨x1, rfl, hx1, _, hR1, hD1⟩
        obtain ⟨h1a, h1b⟩ := hx1 (by omega)
        have bg1 := Aside0.mk (hD1.blk BG.out hrG)
        have HQ1 := Aside0.mk (Q_dr HQ.out hD1 hr)
        have HP1 := Aside0.mk (Dr.R HP.out hD1 hr)
        have HD1 := Aside0.mk (HD.out.trans hD1)
        have BK1 := Aside0.mk (hD1.blk BK.out (by omega))
        have hps : ps.length ≤ 40 := by
          have h1 := fitS_len HF.out
          have h2 := toks_len (bl l)
          have h3 := bl_len l
          omega
        have HR1 := Aside0.mk (hR1.mono (show B + 200 - 2 * ((b.size : Int) - (l.size : Int)) + 1 ≤ B + 201 by omega))
        clear c0 c1 hx1 hD1 HQ HP BG HR HD BK hR1 t0 hlt HF
        obtain ⟨L, hL⟩ : ∃ L, ps.map spTo = L := ⟨_, rfl⟩
        have hLl : L.length ≤ 40 := by rw [← hL, List.length_map]; exact hps
        rw [hL] at HP1
        clear hL hps
        go_upto_block 2 with (fail)
        go_cut [] (fun wc => ∃ (l : ByteArray) (qs : List S109) (v : Value), l.size ≤ 40 ∧ qs.length ≤ 40 ∧ Aside0 (Kd.Q k111 111 wc w.heap.size (fun _ => True) u (ys.map prTo)) ∧ Aside0 (Kd.R k109 109 wc w.heap.size (fun _ => True) v qs) ∧ Aside0 (wc.heap[G]? = some (.cells #[.string l, v] 26 (0, 0))) ∧ Aside0 (Rd wc r (B + 210)) ∧ Aside0 (Dr r w wc) ∧ Aside0 (wc.heap[w.heap.size]? = some (.cells #[.string ⟨#[]⟩, .slice none 0 0] 26 (0, 0))))
        case first =>
          by_cases h0 : x1 = 0
          · subst h0
            have c0 : w1.cell? ⟨G, 0, none⟩ = some (.string l) := (blk_cell bg1.out 0).trans rfl
            go_upto_region 14 with (fail)
            refine lind_start (fun w' => w'.cell? ⟨G, 0, none⟩ = some (.string l)) [7] (true, [([], []), ([0], [0]), ([], []), ([], []), ([2, 3], [2, 3]), ([1, 4], [1, 4]), ([0, 1, 2, 3, 4, 5], []), ([6, 5, 4, 0, 1, 2, 3, 4, 5], [5, 6])]) [0, 1, 2, 3, 4, 5, 6, 7] (by kernel_rfl) (by kernel_rfl) (by kernel_rfl) (by go_simp) ?_
            repeat (first | (refine lind_take rfl rfl (by kernel_rfl) (fun _ _ _ h => h) (by rfl) (v := ?_) (a' := ?_) ?_ ?_ ?_; rotate_left 2; (intro w' s0; go_simp; with_reducible rfl); (simp only [List.getElem_toArray, List.getElem_cons_zero, List.getElem_cons_succ, Act.put, List.setIfInBounds_toArray, List.set_cons_zero, List.set_cons_succ]; rfl)) | (refine lind_off rfl rfl (by kernel_rfl) (fun _ _ _ h => h) (by rfl) (a' := ?_) ?_ ?_; rotate_left 1; (simp only [List.getElem_toArray, List.getElem_cons_zero, List.getElem_cons_succ, Act.put, List.setIfInBounds_toArray, List.set_cons_zero, List.set_cons_succ]; rfl)))
            refine lind_lit Kd.string 9 (xs := [⟨#[120]⟩, ⟨#[32]⟩, ⟨#[64]⟩]) (inner := [.string ⟨#[120]⟩, .string ⟨#[32]⟩, .string ⟨#[64]⟩]) rfl rfl (by kernel_rfl) (by rfl) (fun hS => ?runA) (reps_str _) (by decide) ?_
            case runA => first | (go_simp; done) | (go_simp; rfl)
            intro v3 w3 ho3 hb3 hn3
            have Hb3 : Below w1.heap.size w1 w3 := below_step (below_drew (Below.refl _ _)) hb3
            have HQ3 := Kd.Q_below HQ1.out Hb3
            have HP3 := Kd.R_below HP1.out Hb3
            have bg3 := (Hb3.block G (blk_lt bg1.out)).trans bg1.out
            have BK3 := (Hb3.block w.heap.size (blk_lt BK1.out)).trans BK1.out
            have HR3 := HR1.out.keeps (Hb3.mono HR1.out.lt)
            have HD3 := HD1.out.thenB Hb3 hr
            have hz3 : w1.heap.size ≤ w3.heap.size := Hb3.size
            have hzw := HD1.out.size
            obtain ⟨A3, c3, rfl, hl3, hC3⟩ := Kd.R_reads ho3
            obtain ⟨bq, hbq, hbl⟩ := hn3
            have hA3 : ∀ ad, A3 = some ad → ad.block ≠ r := by
              rintro ad rfl
              have e : some ad.block = some bq := by simpa [Value.ownBlock] using hbq
              have e2 : ad.block = bq := Option.some.inj e
              have hbl' : w1.heap.size ≤ bq := hbl
              omega
            refine ⟨(blk_cell bg3 0).trans rfl, ?_⟩
            refine lind_norm (a' := ?_) ?_ ?_; rotate_left 1; (simp only [List.getElem_toArray, List.getElem_cons_zero, List.getElem_cons_succ, Act.put, List.setIfInBounds_toArray, List.set_cons_zero, List.set_cons_succ]; rfl)
            refine lind_call rfl rfl rfl Tryz.func117 (by kernel_rfl) (by kernel_rfl) rfl (by rfl) (args := #[.pointer (some ⟨r, 0, none⟩), .slice A3 3 c3]) (by (try simp only [List.map_toArray, List.map_cons, List.map_nil]); first | done | rfl) (fun hS => ?_)
            refine (spec_of r _ A3 c3 _ _ HR3 (by omega) hC3 hl3 (by decide) hA3).mono ?_
            rintro e4 w4 ⟨x, hx, rfl, hR4, hD4⟩
            have hxs : x.size ≤ 8 := by
              simp only [List.mem_cons, List.not_mem_nil, or_false] at hx
              rcases hx with rfl | rfl | rfl <;> decide
            have bg4 := hD4.blk bg3 hrG
            have HQ4 := Q_dr HQ3 hD4 hr
            have HP4 := Dr.R HP3 hD4 hr
            have BK4 := hD4.blk BK3 (by omega)
            have HD4 := HD3.trans hD4
            clear hx hC3 hl3 hA3 ho3 hb3 hbq hbl Hb3 HQ3 HP3 bg3 BK3 HR3 HD3 hD4
            refine ⟨_, rfl, (blk_cell bg4 0).trans rfl, ?_⟩
            refine lind_norm (a' := ?_) ?_ ?_; rotate_left 1; (simp only [List.getElem_toArray, List.getElem_cons_zero, List.getElem_cons_succ, Act.put, List.setIfInBounds_toArray, List.set_cons_zero, List.set_cons_succ]; rfl)
            have q1 : (9223372036854775807 < l.size + x.size) = False := eq_false (by omega)
            repeat (first | (refine lind_take rfl rfl (by kernel_rfl) (fun _ _ _ h => h) (by rfl) (v := ?_) (a' := ?_) ?_ ?_ ?_; rotate_left 2; (intro w' s0; go_simp; with_reducible rfl); (simp only [List.getElem_toArray, List.getElem_cons_zero, List.getElem_cons_succ, Act.put, List.setIfInBounds_toArray, List.set_cons_zero, List.set_cons_succ]; rfl)) | (refine lind_off rfl rfl (by kernel_rfl) (fun _ _ _ h => h) (by rfl) (a' := ?_) ?_ ?_; rotate_left 1; (simp only [List.getElem_toArray, List.getElem_cons_zero, List.getElem_cons_succ, Act.put, List.setIfInBounds_toArray, List.set_cons_zero, List.set_cons_succ]; rfl)))
            have e0 : w4.cell? ⟨G, 0, none⟩ = some (.string l) := (blk_cell bg4 0).trans rfl
            have z0 := blk_frozen bg4 0
            refine lind_last (w1 := w4.setCell ⟨G, 0, none⟩ (.string (l ++ x))) rfl rfl (by kernel_rfl) (by kernel_rfl) (by rfl) (fun hS => ?runB) (by kernel_rfl) ?restB
            case runB => first | (go_simp; done) | (go_simp; rfl)
            have b5 : (w4.setCell ⟨G, 0, none⟩ (.string (l ++ x))).heap[G]? = some (.cells #[.string (l ++ x), v] 26 (0, 0)) := (blk_set bg4 0 (.string (l ++ x))).trans rfl
            have hsz : (l ++ x).size ≤ 40 := by rw [ByteArray.size_append]; omega
            go_wp2
            go_meet
            case rel => exact ⟨l ++ x, L, v, hsz, hLl, ⟨Kd.Q_set HQ4 bg4 (by decide : ∀ q, q ∈ 111 :: k111.E → q ≠ 26) 0 _⟩, ⟨Kd.R_set HP4 bg4 (by decide : ∀ q, q ∈ 109 :: k109.E → q ≠ 26) 0 _⟩, ⟨b5⟩, ⟨(hR4.far (by omega) 0 _).mono (by omega)⟩, ⟨HD4.far (by omega) (by omega) 0 _⟩, ⟨setFar BK4 G 0 _ (by omega)⟩⟩
          · have t1 : (x1 == 0) = false := beq_eq_false_iff_ne.2 h0
            have hl40 : l.size ≤ 40 := by omega
            by_cases h1 : x1 = 1
            · subst h1
              obtain ⟨Av, cv, ev⟩ := Kd.R_slice HP1.out
              subst ev
              have c1 : w1.cell? ⟨G, 1, none⟩ = some (.slice Av L.length cv) := (blk_cell bg1.out 1).trans rfl
              by_cases hn : 0 < L.length
              · have t2 : decide ((L.length : Int) > 0) = true := decide_eq_true (by omega)
                have t3 : decide ((0 : Int) < (L.length : Int)) = true := decide_eq_true (by omega)
                obtain ⟨gp, capp, hv, hg1, hg2, _⟩ := Kd.R_form HP1.out hn
                obtain ⟨rfl, -, rfl⟩ : Av = some ⟨gp, 0, none⟩ ∧ L.length = L.length ∧ cv = capp := by injection hv with a b c; exact ⟨a, b, c⟩
                clear hv
                go_upto_region 17 with (fail)
                refine lind_start (fun w' => w'.cell? ⟨G, 1, none⟩ = some (.slice (some ⟨gp, 0, none⟩) L.length cv)) [7] (true, [([], []), ([0], [0]), ([], []), ([], []), ([2, 3], [2, 3]), ([1, 0, 1, 2, 3, 4], [1]), ([5, 0, 1, 2, 3, 4], [5]), ([6, 4, 4, 0, 1, 2, 3, 4], [4, 6])]) [0, 1, 2, 3, 4, 5, 6, 7] (by kernel_rfl) (by kernel_rfl) (by kernel_rfl) (by go_simp) ?_
                repeat (first | (refine lind_take rfl rfl (by kernel_rfl) (fun _ _ _ h => h) (by rfl) (v := ?_) (a' := ?_) ?_ ?_ ?_; rotate_left 2; (intro w' s0; go_simp; with_reducible rfl); (simp only [List.getElem_toArray, List.getElem_cons_zero, List.getElem_cons_succ, Act.put, List.setIfInBounds_toArray, List.set_cons_zero, List.set_cons_succ]; rfl)) | (refine lind_off rfl rfl (by kernel_rfl) (fun _ _ _ h => h) (by rfl) (a' := ?_) ?_ ?_; rotate_left 1; (simp only [List.getElem_toArray, List.getElem_cons_zero, List.getElem_cons_succ, Act.put, List.setIfInBounds_toArray, List.set_cons_zero, List.set_cons_succ]; rfl)))
                refine lind_lit Kd.string 9 (xs := [⟨#[]⟩, ⟨#[97, 97, 97, 97, 97, 97, 97, 97]⟩, ⟨#[64, 49, 58, 49, 59]⟩, ⟨#[65]⟩]) (inner := [.string ⟨#[]⟩, .string ⟨#[97, 97, 97, 97, 97, 97, 97, 97]⟩, .string ⟨#[64, 49, 58, 49, 59]⟩, .string ⟨#[65]⟩]) rfl rfl (by kernel_rfl) (by rfl) (fun hS => ?runC) (reps_str _) (by decide) ?_
                case runC => first | (go_simp; done) | (go_simp; rfl)
                intro v3 w3 ho3 hb3 hn3
                have Hb3 : Below w1.heap.size w1 w3 := below_step (below_drew (Below.refl _ _)) hb3
                have HQ3 := Kd.Q_below HQ1.out Hb3
                have HP3 := Kd.R_below HP1.out Hb3
                have bg3 := (Hb3.block G (blk_lt bg1.out)).trans bg1.out
                have BK3 := (Hb3.block w.heap.size (blk_lt BK1.out)).trans BK1.out
                have HR3 := HR1.out.keeps (Hb3.mono HR1.out.lt)
                have HD3 := HD1.out.thenB Hb3 hr
                have hz3 : w1.heap.size ≤ w3.heap.size := Hb3.size
                have hzw := HD1.out.size
                obtain ⟨A3, c3, rfl, hl3, hC3⟩ := Kd.R_reads ho3
                obtain ⟨bq, hbq, hbl⟩ := hn3
                have hA3 : ∀ ad, A3 = some ad → ad.block ≠ r := by
                  rintro ad rfl
                  have e : some ad.block = some bq := by simpa [Value.ownBlock] using hbq
                  have e2 : ad.block = bq := Option.some.inj e
                  have hbl' : w1.heap.size ≤ bq := hbl
                  omega
                refine ⟨(blk_cell bg3 1).trans rfl, ?_⟩
                refine lind_norm (a' := ?_) ?_ ?_; rotate_left 1; (simp only [List.getElem_toArray, List.getElem_cons_zero, List.getElem_cons_succ, Act.put, List.setIfInBounds_toArray, List.set_cons_zero, List.set_cons_succ]; rfl)
                refine lind_call rfl rfl rfl Tryz.func117 (by kernel_rfl) (by kernel_rfl) rfl (by rfl) (args := #[.pointer (some ⟨r, 0, none⟩), .slice A3 4 c3]) (by (try simp only [List.map_toArray, List.map_cons, List.map_nil]); first | done | rfl) (fun hS => ?_)
                refine (spec_of r _ A3 c3 _ _ HR3 (by omega) hC3 hl3 (by decide) hA3).mono ?_
                rintro e4 w4 ⟨x, hx, rfl, hR4, hD4⟩
                have hxs : x.size ≤ 8 := by
                  simp only [List.mem_cons, List.not_mem_nil, or_false] at hx
                  rcases hx with rfl | rfl | rfl | rfl <;> decide
                have bg4 := hD4.blk bg3 hrG
                have HQ4 := Q_dr HQ3 hD4 hr
                have HP4 := Dr.R HP3 hD4 hr
                have BK4 := hD4.blk BK3 (by omega)
                have HD4 := HD3.trans hD4
                clear hx hC3 hl3 hA3 ho3 hb3 hbq hbl Hb3 HQ3 HP3 bg3 BK3 HR3 HD3 hD4
                refine ⟨_, rfl, (blk_cell bg4 1).trans rfl, ?_⟩
                refine lind_norm (a' := ?_) ?_ ?_; rotate_left 1; (simp only [List.getElem_toArray, List.getElem_cons_zero, List.getElem_cons_succ, Act.put, List.setIfInBounds_toArray, List.set_cons_zero, List.set_cons_succ]; rfl)
                repeat (first | (refine lind_take rfl rfl (by kernel_rfl) (fun _ _ _ h => h) (by rfl) (v := ?_) (a' := ?_) ?_ ?_ ?_; rotate_left 2; (intro w' s0; go_simp; with_reducible rfl); (simp only [List.getElem_toArray, List.getElem_cons_zero, List.getElem_cons_succ, Act.put, List.setIfInBounds_toArray, List.set_cons_zero, List.set_cons_succ]; rfl)) | (refine lind_off rfl rfl (by kernel_rfl) (fun _ _ _ h => h) (by rfl) (a' := ?_) ?_ ?_; rotate_left 1; (simp only [List.getElem_toArray, List.getElem_cons_zero, List.getElem_cons_succ, Act.put, List.setIfInBounds_toArray, List.set_cons_zero, List.set_cons_succ]; rfl)))
                repeat (refine lind_any rfl rfl (by kernel_rfl) (fun _ _ _ h => h) (by rfl) (v := ?_) (a' := ?_) ?_ ?_ ?_; rotate_left 2; (intro w'; go_simp; with_reducible rfl); (simp only [List.getElem_toArray, List.getElem_cons_zero, List.getElem_cons_succ, Act.put, List.setIfInBounds_toArray, List.set_cons_zero, List.set_cons_succ]; rfl))
                obtain ⟨qo, d1, f1, HPx⟩ := put_Tx HP4 hn x
                refine lind_last (w1 := w4.setCell ⟨gp, 1, none⟩ (.string x)) rfl rfl (by kernel_rfl) (by kernel_rfl) (by rfl) (fun hS => ?runD) (by kernel_rfl) ?restD
                case runD => first | (go_simp; done) | (go_simp; rfl)
                have hgG : gp ≠ G := ((Kd.R_types HP4 bg4 (by decide : ∀ q, q ∈ 109 :: k109.E → q ≠ 26)).1 gp rfl).2
                have hgK : gp ≠ w.heap.size := ((Kd.R_types HP4 BK4 (by decide : ∀ q, q ∈ 109 :: k109.E → q ≠ 26)).1 gp rfl).2
                obtain ⟨g', cap', hv', _, _, cells', hcell⟩ := Kd.R_form HP4 hn
                obtain rfl : gp = g' := by injection hv' with a b c; injection a with a; injection a
                have hlq : (L.set 0 ⟨qo.f0, x⟩).length ≤ 40 := by rw [List.length_set]; exact hLl
                go_wp2
                go_meet
                case rel => exact ⟨l, L.set 0 ⟨qo.f0, x⟩, _, hl40, hlq, ⟨Kd.Q_set HQ4 hcell (by decide : ∀ q, q ∈ 111 :: k111.E → q ≠ 109) 1 _⟩, HPx, ⟨setFar bg4 gp 1 _ (Ne.symm hgG)⟩, ⟨(hR4.far (by omega) 1 _).mono (by omega)⟩, ⟨HD4.far hg1 (by omega) 1 _⟩, ⟨setFar BK4 gp 1 _ (Ne.symm hgK)⟩⟩
              · have t2 : decide ((L.length : Int) > 0) = false := decide_eq_false (by omega)
                have t3 : decide ((0 : Int) < (L.length : Int)) = false := decide_eq_false (by omega)
                go_wp2
                go_meet
                case rel => exact ⟨l, L, _, hl40, hLl, HQ1, HP1, bg1, ⟨HR1.out.mono (by omega)⟩, HD1, BK1⟩
            · have t2 : (x1 == 1) = false := beq_eq_false_iff_ne.2 h1
              go_wp2
              go_meet
              case rel => exact ⟨l, L, v, hl40, hLl, HQ1, HP1, bg1, ⟨HR1.out.mono (by omega)⟩, HD1, BK1⟩
        case rest =>
          clear bg1 HQ1 HP1 HD1 BK1 HR1 hLl
          obtain ⟨l, qs, v, hl, hq40, HQ, HP, BG, HR, HD, BK⟩ := hcut
          obtain ⟨Av, cv, ev⟩ := Kd.R_slice HP.out
          obtain ⟨nq, hnq⟩ : ∃ nq, qs.length = nq := ⟨_, rfl⟩
          rw [hnq] at ev
          subst ev
          have c0 : wc.cell? ⟨G, 0, none⟩ = some (.string l) := (blk_cell BG.out 0).trans rfl
          have c1 : wc.cell? ⟨G, 1, none⟩ = some (.slice Av nq cv) := (blk_cell BG.out 1).trans rfl
          have d0 : wc.cell? ⟨w.heap.size, 0, none⟩ = some (.string ⟨#[]⟩) := (blk_cell BK.out 0).trans rfl
          have z0 := blk_frozen BK.out 0
          have z1 := blk_frozen BK.out 1
          have b1 := blk_set BK.out 0 (.string l)
          have d1 : wc.cell? ⟨w.heap.size, 1, none⟩ = some (.slice none 0 0) := (blk_cell BK.out 1).trans rfl
          go_upto_region 18 with (fail)
          refine lind_start (fun w' => w'.cell? ⟨G, 0, none⟩ = some (.string l) ∧ w'.cell? ⟨G, 1, none⟩ = some (.slice Av nq cv)) [3] (true, [([], []), ([], []), ([0, 0], [0]), ([1, 2, 0, 1, 2], [1])]) [0, 1, 2, 3] (by kernel_rfl) (by kernel_rfl) (by kernel_rfl) ⟨by go_simp, by go_simp⟩ ?_
          repeat (first | (refine lind_take rfl rfl (by kernel_rfl) (fun _ _ _ h => h) (by rfl) (v := ?_) (a' := ?_) ?_ ?_ ?_; rotate_left 2; (rintro w' ⟨s0, s1⟩; go_simp; with_reducible rfl); (simp only [List.getElem_toArray, List.getElem_cons_zero, List.getElem_cons_succ, Act.put, List.setIfInBounds_toArray, List.set_cons_zero, List.set_cons_succ]; rfl)) | (refine lind_off rfl rfl (by kernel_rfl) (fun _ _ _ h => h) (by rfl) (a' := ?_) ?_ ?_; rotate_left 1; (simp only [List.getElem_toArray, List.getElem_cons_zero, List.getElem_cons_succ, Act.put, List.setIfInBounds_toArray, List.set_cons_zero, List.set_cons_succ]; rfl)))
          refine lind_last (w1 := ((wc.setCell ⟨w.heap.size, 0, none⟩ (.string l)).setCell ⟨w.heap.size, 1, none⟩ (.slice Av nq cv)).drew) rfl rfl (by kernel_rfl) (by kernel_rfl) (by rfl) (fun hS => ?runE) (by kernel_rfl) ?restE
          case runE => first | (go_simp; done) | (go_simp; rfl)
          have hQz := Kd.Q_drew (Kd.Q_set (Kd.Q_set HQ.out BK.out (by decide : ∀ q, q ∈ 111 :: k111.E → q ≠ 26) 0 (.string l)) b1 (by decide : ∀ q, q ∈ 111 :: k111.E → q ≠ 26) 1 (.slice Av nq cv))
          have hPz := Kd.R_drew (Kd.R_set (Kd.R_set HP.out BK.out (by decide : ∀ q, q ∈ 109 :: k109.E → q ≠ 26) 0 (.string l)) b1 (by decide : ∀ q, q ∈ 109 :: k109.E → q ≠ 26) 1 (.slice Av nq cv))
          have hRz := (((HR.out.far hr 0 (.string l)).far hr 1 (.slice Av nq cv)).keeps (below_drew (Below.refl _ _))).mono (show B + 210 ≤ B + 1000 by omega)
          have hDz := ((HD.out.far (Nat.le_refl _) (Nat.le_of_lt hr) 0 (.string l)).far (Nat.le_refl _) (Nat.le_of_lt hr) 1 (.slice Av nq cv)).drew
          have bz := (blk_set b1 1 (.slice Av nq cv)).trans rfl
          have bz' : (((wc.setCell ⟨w.heap.size, 0, none⟩ (.string l)).setCell ⟨w.heap.size, 1, none⟩ (.slice Av nq cv)).drew).heap[w.heap.size]? = some (.cells #[.string l, .slice Av nq cv] 26 (0, 0)) := bz
          obtain ⟨wz, hwz⟩ : ∃ wz, ((wc.setCell ⟨w.heap.size, 0, none⟩ (.string l)).setCell ⟨w.heap.size, 1, none⟩ (.slice Av nq cv)).drew = wz := ⟨_, rfl⟩
          rw [hwz] at hQz hPz hRz hDz bz' ⊢
          clear hwz bz c0 c1 d0 d1 z0 z1 b1 HQ HP BG HR HD BK
          have e0 : wz.cell? ⟨w.heap.size, 0, none⟩ = some (.string l) := (blk_cell bz' 0).trans rfl
          have e1 : wz.cell? ⟨w.heap.size, 1, none⟩ = some (.slice Av nq cv) := (blk_cell bz' 1).trans rfl
          go_wp2
          refine bodyPost_ret (v := (.tuple #[u, .agg #[.string l, .slice Av nq cv]])) (by simp [results, Tryz.results60, go_sem, zEn, *]) rfl ⟨u, .slice Av nq cv, ys, l, qs, rfl, hQz, hPz, HM.out, hl, hq40, hRz, hDz⟩
end Go.Proofs.YtfjbjiklohjodaaGreatDoor.Q
namespace Go.Proofs.YtfjbjiklohjodaaGreatDoor.Q
open Go Go.RowKit Go.Proofs.YtfjbjiklohjodaaGreatDoorW.PrintWords Go.Proofs.YtfjbjiklohjodaaGreatDoorW.PrintLast Go.Proofs.YtfjbjiklohjodaaGreatDoorW.PrintMore Go.Proofs.YtfjbjiklohjodaaGreatDoor.Z
set_option linter.unusedVariables false
set_option linter.unusedSimpArgs false
attribute [local go_sem ↓] Go.wp_at_zero Go.wp_at_succ
theorem code_lt2 {w : World} {A : Option Addr} {n : Nat} {bs : List Int} (hC : Kd.C (Kd.int .u8) w A n bs) : ∀ ad, A = some ad → 0 < n → ad.block < w.heap.size := by
  intro ad hA hn
  obtain ⟨ad2, e, hc⟩ := Kd.at_int hC 0 (by omega) (by omega)
  rw [hA] at e
  cases e
  have := World.block_lt_of_cell? w _ hc
  rwa [show (ad.add (0 : Int).toNat).block = ad.block from by unfold Addr.add; split <;> rfl] at this
set_option maxRecDepth 100000 in
set_option maxHeartbeats 4000000 in
theorem spec_DrawStreamPutC (A : Option Addr) (n c : Nat) (bs : List Int) (w : World) (hC : Kd.C (Kd.int .u8) w A n bs) (hb : ∀ b ∈ bs, (0 : Int) ≤ b ∧ b ≤ 255) (hc : n ≤ c) :
    Calls Tryz.prog 15 #[.slice A n c] w fun e w' => ∃ (u v : Value) (m : List Pr) (l : ByteArray) (ps : List S109) (a : Int) (x : ByteArray) (out : Bool), e = .returned (.tuple #[u, .agg #[.string l, v], .int .i64 a, .string x, .bool out]) ∧
      RQ true k111 111 w' w.heap.size (fun _ => True) u (m.map prTo) ∧ RQ false k109 109 w' w.heap.size (fun _ => True) v ps ∧ mapOkB m = true ∧ l.size ≤ 40 ∧ ps.length ≤ 40 ∧ (0 ≤ a ∧ a ≤ 40) ∧ x.size ≤ 40 ∧ Below w.heap.size w w' := by
  have HC := Aside0.mk hC
  clear hC
  have hba : Below w.heap.size w (w.alloc (.cells #[.string ⟨#[]⟩, .slice none 0 0] 26)) := below_alloc (Below.refl _ _) _
  have bk := heap_alloc_new w (.cells #[.string ⟨#[]⟩, .slice none 0 0] 26)
  have hz0 : (w.alloc (.cells #[.string ⟨#[]⟩, .slice none 0 0] 26)).heap.size = w.heap.size + 1 := by show (w.heap.push _).size = _; simp
  go_enter Tryz.func15, Tryz.ntmps15
  go_wp2_with fail; refine (spec_l6Open A n c bs _ (Kd.C_below HC.out hba) hb hc (fun ad hA hn => Nat.lt_of_lt_of_le (code_lt2 HC.out ad hA hn) hba.size)).mono ?_; rintro e w1 ⟨r, rfl, hr0, hR1, hb1⟩
  have hrw : w.heap.size < r := by rw [hz0] at hr0; exact hr0
  have hB1 : Below w.heap.size w w1 := below_step hba hb1
  have bk1 := (hb1.block w.heap.size (by rw [hz0]; exact Nat.lt_succ_self _)).trans bk
  have hr1 := hR1.lt
  clear hz0 hr0 hb1 bk hba
  go_wp2_with fail; refine (spec_l71StreamC r 0 _ hR1 (by omega)).mono ?_; rintro e w2 ⟨u, v, m, l, ps, rfl, hQ2, hP2, hM, hl, hp, hR2, hD2⟩
  have bk2 := hD2.blk bk1 (by omega)
  obtain ⟨Av, cv, ev⟩ := Kd.R_slice hP2
  obtain ⟨np, hnp⟩ : ∃ np, ps.length = np := ⟨_, rfl⟩
  rw [hnp] at ev
  subst ev
  have hz2 := hD2.size
  go_wp2_with fail; refine (spec_l71Text r 12 1000 _ (hR2.alloc _) (by omega) (by omega)).mono ?_; rintro e w3 ⟨x3, rfl, hx3, hR3, hD3⟩
  obtain ⟨G, hGe⟩ : ∃ G, G = w2.heap.size := ⟨_, rfl⟩
  have hGK : w.heap.size < w2.heap.size := blk_lt bk2
  have bG3 : w3.heap[G]? = some (.cells #[.string l, .slice Av np cv] 26 (0, 0)) := by
    rw [hGe]
    exact hD3.blk (heap_alloc_new w2 _) (by omega)
  have HQ3 := Q_dr (Kd.Q_alloc hQ2 _) hD3 hr1
  have HP3 := Dr.R (Kd.R_alloc hP2 _) hD3 hr1
  have HD3 := (hD2.alloc (by omega) _).trans hD3
  have BK3 := hD3.blk (((below_alloc (Below.refl _ _) _ : Below w2.heap.size w2 _).block w.heap.size hGK).trans bk2) (by omega)
  have hGr : G ≠ r := by omega
  have hGw : w.heap.size < G := by omega
  have hG1 : w1.heap.size ≤ G := by omega
  rw [← hGe]
  clear hD3 hQ2 hP2 hR2 bk2 hD2 hGe hGK hz2 bk1 hR1
  go_wp2_with fail; refine (spec_pick r 5 _ _ hR3 (by omega)).mono ?_; rintro e w4 ⟨x4, rfl, hx4, _, hR4, hD4⟩
  have bG4 := hD4.blk bG3 (by omega)
  have HQ4 := Q_dr HQ3 hD4 hr1
  have HP4 := Dr.R HP3 hD4 hr1
  have HD4 := HD3.trans hD4
  have BK4 := hD4.blk BK3 (by omega)
  obtain ⟨h4a, h4b⟩ := hx4 (by omega)
  clear bG3 HQ3 HP3 HD3 BK3 hD4 hR3 hx4
  go_upto_block 0 with (fail)
  go_cut [10, 11] (fun a t wc => ∃ (ai : Int) (x : ByteArray), a = .int .i64 ai ∧ t = .string x ∧ (0 ≤ ai ∧ ai ≤ 100 ∧ x.size ≤ 100) ∧ Aside0 (Kd.Q k111 111 wc w1.heap.size (fun _ => True) u (m.map prTo)) ∧ Aside0 (Kd.R k109 109 wc w1.heap.size (fun _ => True) (.slice Av np cv) ps) ∧ Aside0 (wc.heap[G]? = some (.cells #[.string l, .slice Av np cv] 26 (0, 0))) ∧ Aside0 (Rd wc r 2000) ∧ Aside0 (Dr r w1 wc) ∧ Aside0 (wc.heap[w.heap.size]? = some (.cells #[.string ⟨#[]⟩, .slice none 0 0] 26 (0, 0))))
  case first =>
    have c0 : w4.cell? ⟨G, 0, none⟩ = some (.string l) := (blk_cell bG4 0).trans rfl
    have hw1 : IntKind.i64.wrap ((l.size : Int) + 1) = (l.size : Int) + 1 := IntWalk.i64_in _ (by omega)
    by_cases h0 : x4 = 0
    · subst h0
      go_wp2_with fail; refine (spec_pick r ((l.size : Int) + 1) _ _ hR4 (by omega)).mono ?_; rintro e w5 ⟨x5, rfl, hx5, _, hR5, hD5⟩
      have bG5 := hD5.blk bG4 (by omega)
      have HQ5 := Q_dr HQ4 hD5 hr1
      have HP5 := Dr.R HP4 hD5 hr1
      have HD5 := HD4.trans hD5
      have BK5 := hD5.blk BK4 (by omega)
      obtain ⟨h5a, h5b⟩ := hx5 (by omega)
      obtain ⟨j, rfl⟩ : ∃ j : Nat, x5 = j := ⟨x5.toNat, by omega⟩
      clear c0 hx5 hD5
      have c0 : w5.cell? ⟨G, 0, none⟩ = some (.string l) := (blk_cell bG5 0).trans rfl
      have s1 : (0 : Int) ≤ (j : Int) := by omega
      have s2 : (j : Int) ≤ (l.size : Int) := by omega
      have hex : (l.extract j l.size).size = l.size - j := by rw [ByteArray.size_extract]; omega
      have q1 : (9223372036854775807 < (l.extract j l.size).size + x3.size) = False := eq_false (by omega)
      have q2 : (9223372036854775807 < l.size - j + x3.size) = False := eq_false (by omega)
      have hfin : (l.extract j l.size ++ x3).size ≤ 100 := by rw [ByteArray.size_append, hex]; omega
      have Hfin := Aside0.mk hfin
      clear hfin hex
      go_wp2
      go_meet
      case rel => exact ⟨(j : Int), l.extract j l.size ++ x3, rfl, rfl, ⟨by omega, by omega, Hfin.out⟩, ⟨HQ5⟩, ⟨HP5⟩, ⟨bG5⟩, ⟨hR5.mono (by omega)⟩, ⟨HD5⟩, ⟨BK5⟩⟩
    · have t0 : (x4 == 0) = false := beq_eq_false_iff_ne.2 h0
      by_cases h1 : x4 = 1
      · subst h1
        go_wp2_with fail; refine (spec_pick r ((l.size : Int) + 1) _ _ hR4 (by omega)).mono ?_; rintro e w5 ⟨x5, rfl, hx5, _, hR5, hD5⟩
        have bG5 := hD5.blk bG4 (by omega)
        have HQ5 := Q_dr HQ4 hD5 hr1
        have HP5 := Dr.R HP4 hD5 hr1
        have HD5 := HD4.trans hD5
        have BK5 := hD5.blk BK4 (by omega)
        obtain ⟨h5a, h5b⟩ := hx5 (by omega)
        obtain ⟨j, rfl⟩ : ∃ j : Nat, x5 = j := ⟨x5.toNat, by omega⟩
        clear c0 hx5 hD5
        have c0 : w5.cell? ⟨G, 0, none⟩ = some (.string l) := (blk_cell bG5 0).trans rfl
        have hw2 : IntKind.i64.wrap ((l.size : Int) - (j : Int)) = (l.size : Int) - (j : Int) := IntWalk.i64_in _ (by omega)
        have hw3 : IntKind.i64.wrap ((l.size : Int) - (j : Int) + 1) = (l.size : Int) - (j : Int) + 1 := IntWalk.i64_in _ (by omega)
        go_upto_region 11 with (fail)
        refine lin_start (fun w' => w'.cell? ⟨G, 0, none⟩ = some (.string l)) (true, [([], []), ([0], [0]), ([], []), ([], []), ([], []), ([], []), ([5], [5]), ([6], [6]), ([], []), ([7, 8], [7, 8]), ([9], [9]), ([4, 10], [4, 10]), ([3, 11], [3, 11]), ([1, 2, 12], [1, 2, 12]), ([13, 11, 0, 1, 2, 3, 4, 5, 6, 7, 8, 9, 10, 11, 12, 13], [13])]) [0, 1, 2, 3, 4, 5, 6, 7, 8, 9, 10, 11, 12, 13, 14] (by kernel_rfl) (by kernel_rfl) (by kernel_rfl) (by go_simp) ?_
        repeat (first | (refine lin_take rfl rfl (by kernel_rfl) (fun _ _ _ h => h) (by rfl) (v := ?_) (a' := ?_) ?_ ?_ ?_; rotate_left 2; (intro w' s0; go_simp; with_reducible rfl); (simp only [List.getElem_toArray, List.getElem_cons_zero, List.getElem_cons_succ, Act.put, List.setIfInBounds_toArray, List.set_cons_zero, List.set_cons_succ]; rfl)) | (refine lin_off rfl rfl (by kernel_rfl) (fun _ _ _ h => h) (by rfl) (a' := ?_) ?_ ?_; rotate_left 1; (simp only [List.getElem_toArray, List.getElem_cons_zero, List.getElem_cons_succ, Act.put, List.setIfInBounds_toArray, List.set_cons_zero, List.set_cons_succ]; rfl)))
        refine lin_call rfl rfl rfl Tryz.func62 (by kernel_rfl) (by kernel_rfl) rfl (by rfl) (args := #[.pointer (some ⟨r, 0, none⟩), .int .i64 ((l.size : Int) - (j : Int) + 1)]) (by (try simp only [List.map_toArray, List.map_cons, List.map_nil]); first | done | rfl) (fun hS => ?_)
        refine (spec_pick r ((l.size : Int) - (j : Int) + 1) _ _ (hR5.keeps (below_drew (Below.refl _ _))) (by omega)).mono ?_
        rintro e6 w6 ⟨x6, rfl, hx6, _, hR6, hD6⟩
        have hD6' := (Dr.refl r w5).drew.trans hD6
        have bG6 := hD6'.blk bG5 (by omega)
        have HQ6 := Q_dr HQ5 hD6' hr1
        have HP6 := Dr.R HP5 hD6' hr1
        have HD6 := HD5.trans hD6'
        have BK6 := hD6'.blk BK5 (by omega)
        obtain ⟨h6a, h6b⟩ := hx6 (by omega)
        obtain ⟨e, hee⟩ : ∃ e : Nat, (j : Int) + x6 = e := ⟨((j : Int) + x6).toNat, by omega⟩
        have hw4 : IntKind.i64.wrap ((j : Int) + x6) = (e : Int) := by rw [hee]; exact IntWalk.i64_in _ (by omega)
        have s1 : (0 : Int) ≤ (j : Int) := by omega
        have s2 : (j : Int) ≤ (e : Int) := by omega
        have s3 : (e : Int) ≤ (l.size : Int) := by omega
        clear hee
        refine ⟨_, rfl, (blk_cell bG6 0).trans rfl, ?_⟩
        refine lin_norm (a' := ?_) ?_ ?_; rotate_left 1; (simp only [List.getElem_toArray, List.getElem_cons_zero, List.getElem_cons_succ, Act.put, List.setIfInBounds_toArray, List.set_cons_zero, List.set_cons_succ]; rfl)
        repeat (first | (refine lin_take rfl rfl (by kernel_rfl) (fun _ _ _ h => h) (by rfl) (v := ?_) (a' := ?_) ?_ ?_ ?_; rotate_left 2; (intro w' s0; go_simp; with_reducible rfl); (simp only [List.getElem_toArray, List.getElem_cons_zero, List.getElem_cons_succ, Act.put, List.setIfInBounds_toArray, List.set_cons_zero, List.set_cons_succ]; rfl)) | (refine lin_off rfl rfl (by kernel_rfl) (fun _ _ _ h => h) (by rfl) (a' := ?_) ?_ ?_; rotate_left 1; (simp only [List.getElem_toArray, List.getElem_cons_zero, List.getElem_cons_succ, Act.put, List.setIfInBounds_toArray, List.set_cons_zero, List.set_cons_succ]; rfl)))
        refine lin_done (by kernel_rfl) ?_
        have Hfin : Aside0 ((l.extract j e).size ≤ 100) := ⟨by rw [ByteArray.size_extract]; omega⟩
        clear hw4 s1 s2 s3
        go_wp2
        go_meet
        case rel => exact ⟨(j : Int), l.extract j e, rfl, rfl, ⟨by omega, by omega, Hfin.out⟩, ⟨HQ6⟩, ⟨HP6⟩, ⟨bG6⟩, ⟨hR6.mono (by omega)⟩, ⟨HD6⟩, ⟨BK6⟩⟩
      · have t1 : (x4 == 1) = false := beq_eq_false_iff_ne.2 h1
        by_cases h2 : x4 = 2
        · subst h2
          go_wp2_with fail; refine (spec_pick r 3 _ _ hR4 (by omega)).mono ?_; rintro e w5 ⟨x5, rfl, hx5, _, hR5, hD5⟩
          have bG5 := hD5.blk bG4 (by omega)
          have HQ5 := Q_dr HQ4 hD5 hr1
          have HP5 := Dr.R HP4 hD5 hr1
          have HD5 := HD4.trans hD5
          have BK5 := hD5.blk BK4 (by omega)
          obtain ⟨h5a, h5b⟩ := hx5 (by omega)
          have hw2 : IntKind.i64.wrap ((l.size : Int) + x5) = (l.size : Int) + x5 := IntWalk.i64_in _ (by omega)
          go_wp2
          go_meet
          case rel => exact ⟨(l.size : Int) + x5, x3, rfl, rfl, ⟨by omega, by omega, by omega⟩, ⟨HQ5⟩, ⟨HP5⟩, ⟨bG5⟩, ⟨hR5.mono (by omega)⟩, ⟨HD5⟩, ⟨BK5⟩⟩
        · have t2 : (x4 == 2) = false := beq_eq_false_iff_ne.2 h2
          go_wp2
          go_meet
          case rel => exact ⟨(l.size : Int), x3, rfl, rfl, ⟨by omega, by omega, by omega⟩, ⟨HQ4⟩, ⟨HP4⟩, ⟨bG4⟩, ⟨hR4.mono (by omega)⟩, ⟨HD4⟩, ⟨BK4⟩⟩
  case rest =>
    clear bG4 HQ4 HP4 HD4 BK4 hR4
    obtain ⟨ai, x, rfl, rfl, ⟨ha0, ha1, hx1⟩, HQ, HP, BG, HR, HD, BK⟩ := hcut
    have c0 : wc.cell? ⟨G, 0, none⟩ = some (.string l) := (blk_cell BG.out 0).trans rfl
    have c1 : wc.cell? ⟨G, 1, none⟩ = some (.slice Av np cv) := (blk_cell BG.out 1).trans rfl
    obtain ⟨e, he, he1, he2⟩ : ∃ e : Nat, min (x.size : Int) 40 = (e : Int) ∧ e ≤ 40 ∧ e ≤ x.size := ⟨min x.size 40, by omega, by omega, by omega⟩
    obtain ⟨a2, hae, ha2⟩ : ∃ a2 : Int, min ai 40 = a2 ∧ (0 ≤ a2 ∧ a2 ≤ 40) := ⟨_, rfl, by omega⟩
    have s1 : (0 : Int) ≤ (e : Int) := by omega
    have s2 : (e : Int) ≤ (x.size : Int) := by omega
    go_upto_region 14 with (fail)
    refine lin_start (fun w' => w'.cell? ⟨G, 0, none⟩ = some (.string l) ∧ w'.cell? ⟨G, 1, none⟩ = some (.slice Av np cv)) (true, [([], []), ([], []), ([], []), ([2], [2]), ([], []), ([], []), ([5], [5]), ([6], [6]), ([4, 7], [4, 7]), ([], []), ([9], [9]), ([10], [10]), ([0, 10, 0], [0]), ([1, 12, 0, 1, 12], [1]), ([3, 13, 0, 1, 2, 3, 12, 13], [3]), ([8, 14, 0, 1, 2, 3, 4, 5, 6, 7, 8, 12, 13, 14], [8]), ([11, 15, 0, 1, 2, 3, 4, 5, 6, 7, 8, 9, 10, 11, 12, 13, 14, 15], [11])]) [0, 1, 2, 3, 4, 5, 6, 7, 8, 9, 10, 11, 12, 13, 14, 15, 16] (by kernel_rfl) (by kernel_rfl) (by kernel_rfl) ⟨by go_simp, by go_simp⟩ ?_
    repeat (first | (refine lin_take rfl rfl (by kernel_rfl) (fun _ _ _ h => h) (by rfl) (v := ?_) (a' := ?_) ?_ ?_ ?_; rotate_left 2; (rintro w' ⟨s0, s1⟩; go_simp; with_reducible rfl); (simp only [List.getElem_toArray, List.getElem_cons_zero, List.getElem_cons_succ, Act.put, List.setIfInBounds_toArray, List.set_cons_zero, List.set_cons_succ]; rfl)) | (refine lin_off rfl rfl (by kernel_rfl) (fun _ _ _ h => h) (by rfl) (a' := ?_) ?_ ?_; rotate_left 1; (simp only [List.getElem_toArray, List.getElem_cons_zero, List.getElem_cons_succ, Act.put, List.setIfInBounds_toArray, List.set_cons_zero, List.set_cons_succ]; rfl)))
    refine lin_call rfl rfl rfl Tryz.func62 (by kernel_rfl) (by kernel_rfl) rfl (by rfl) (args := #[.pointer (some ⟨r, 0, none⟩), .int .i64 2]) (by (try simp only [List.map_toArray, List.map_cons, List.map_nil]); first | done | rfl) (fun hS => ?_)
    refine (spec_pick r 2 _ _ (HR.out.keeps (below_drew (Below.refl _ _))) (by omega)).mono ?_
    rintro e6 w6 ⟨x6, rfl, hx6, _, hR6, hD6⟩
    obtain ⟨out, hout⟩ : ∃ out, (x6 == (0 : Int)) = out := ⟨_, rfl⟩
    have hD6' := (Dr.refl r wc).drew.trans hD6
    have bG6 := hD6'.blk BG.out (by omega)
    have HQ6 := Q_dr HQ.out hD6' hr1
    have HP6 := Dr.R HP.out hD6' hr1
    have HD6 := HD.out.trans hD6'
    have BK6 := hD6'.blk BK.out (by omega)
    have c0 : w6.cell? ⟨G, 0, none⟩ = some (.string l) := (blk_cell bG6 0).trans rfl
    have c1 : w6.cell? ⟨G, 1, none⟩ = some (.slice Av np cv) := (blk_cell bG6 1).trans rfl
    have d0 : w6.cell? ⟨w.heap.size, 0, none⟩ = some (.string ⟨#[]⟩) := (blk_cell BK6 0).trans rfl
    have d1 : w6.cell? ⟨w.heap.size, 1, none⟩ = some (.slice none 0 0) := (blk_cell BK6 1).trans rfl
    have z0 := blk_frozen BK6 0
    have z1 := blk_frozen BK6 1
    refine ⟨_, rfl, ⟨c0, c1⟩, ?_⟩
    refine lin_norm (a' := ?_) ?_ ?_; rotate_left 1; (simp only [List.getElem_toArray, List.getElem_cons_zero, List.getElem_cons_succ, Act.put, List.setIfInBounds_toArray, List.set_cons_zero, List.set_cons_succ]; rfl)
    repeat (first | (refine lin_take rfl rfl (by kernel_rfl) (fun _ _ _ h => h) (by rfl) (v := ?_) (a' := ?_) ?_ ?_ ?_; rotate_left 2; (rintro w' ⟨s0, s1⟩; go_simp; with_reducible rfl); (simp only [List.getElem_toArray, List.getElem_cons_zero, List.getElem_cons_succ, Act.put, List.setIfInBounds_toArray, List.set_cons_zero, List.set_cons_succ]; rfl)) | (refine lin_off rfl rfl (by kernel_rfl) (fun _ _ _ h => h) (by rfl) (a' := ?_) ?_ ?_; rotate_left 1; (simp only [List.getElem_toArray, List.getElem_cons_zero, List.getElem_cons_succ, Act.put, List.setIfInBounds_toArray, List.set_cons_zero, List.set_cons_succ]; rfl)))
    have b1 := blk_set BK6 0 (.string l)
    have hcell : ∀ i u, w6.cell? ⟨G, i, none⟩ = some u → ((w6.setCell ⟨w.heap.size, 0, none⟩ (.string l)).setCell ⟨w.heap.size, 1, none⟩ (.slice Av np cv)).cell? ⟨G, i, none⟩ = some u := fun i u hu => (World.cell?_of_block (a := ⟨G, i, none⟩) ((setFar (setFar bG6 w.heap.size 0 (.string l) (by omega)) w.heap.size 1 (.slice Av np cv) (by omega)).trans bG6.symm)).trans hu
    refine lin_skip (w1 := (w6.setCell ⟨w.heap.size, 0, none⟩ (.string l)).setCell ⟨w.heap.size, 1, none⟩ (.slice Av np cv)) rfl rfl (by kernel_rfl) (by rfl) (fun _ => ?runZ) (fun _ => ⟨hcell 0 _ c0, hcell 1 _ c1⟩) ?restZ
    case runZ => first | (go_simp; done) | (go_simp; rfl)
    repeat (first | (refine lin_take rfl rfl (by kernel_rfl) (fun _ _ _ h => h) (by rfl) (v := ?_) (a' := ?_) ?_ ?_ ?_; rotate_left 2; (rintro w' ⟨s0, s1⟩; go_simp; with_reducible rfl); (simp only [List.getElem_toArray, List.getElem_cons_zero, List.getElem_cons_succ, Act.put, List.setIfInBounds_toArray, List.set_cons_zero, List.set_cons_succ]; rfl)) | (refine lin_off rfl rfl (by kernel_rfl) (fun _ _ _ h => h) (by rfl) (a' := ?_) ?_ ?_; rotate_left 1; (simp only [List.getElem_toArray, List.getElem_cons_zero, List.getElem_cons_succ, Act.put, List.setIfInBounds_toArray, List.set_cons_zero, List.set_cons_succ]; rfl)))
    refine lin_done (by kernel_rfl) ?_
    have bz := (blk_set b1 1 (.slice Av np cv)).trans rfl
    have bz' : ((w6.setCell ⟨w.heap.size, 0, none⟩ (.string l)).setCell ⟨w.heap.size, 1, none⟩ (.slice Av np cv)).heap[w.heap.size]? = some (.cells #[.string l, .slice Av np cv] 26 (0, 0)) := bz
    have hQz := Kd.Q_lower (base' := w.heap.size) (Kd.Q_set (Kd.Q_set HQ6 BK6 (by decide : ∀ q, q ∈ 111 :: k111.E → q ≠ 26) 0 (.string l)) b1 (by decide : ∀ q, q ∈ 111 :: k111.E → q ≠ 26) 1 (.slice Av np cv)) hB1.size
    have hPz := Kd.R_lower (base' := w.heap.size) (Kd.R_set (Kd.R_set HP6 BK6 (by decide : ∀ q, q ∈ 109 :: k109.E → q ≠ 26) 0 (.string l)) b1 (by decide : ∀ q, q ∈ 109 :: k109.E → q ≠ 26) 1 (.slice Av np cv)) hB1.size
    have hBz : Below w.heap.size w ((w6.setCell ⟨w.heap.size, 0, none⟩ (.string l)).setCell ⟨w.heap.size, 1, none⟩ (.slice Av np cv)) := ((hB1.trans (HD6.2.mono (Nat.le_of_lt hrw))).setCell (Nat.le_refl _) _).setCell (Nat.le_refl _) _
    obtain ⟨wz, hwz⟩ : ∃ wz, (w6.setCell ⟨w.heap.size, 0, none⟩ (.string l)).setCell ⟨w.heap.size, 1, none⟩ (.slice Av np cv) = wz := ⟨_, rfl⟩
    rw [hwz] at hQz hPz hBz bz' ⊢
    obtain ⟨xr, hxr⟩ : ∃ xr, x.extract 0 e = xr := ⟨_, rfl⟩
    have hxs : xr.size ≤ 40 := by rw [← hxr, ByteArray.size_extract]; omega
    clear hwz bz c0 c1 d0 d1 z0 z1 b1 HQ6 HP6 bG6 hR6 HD6 BK6 hcell HQ HP BG HR HD BK hD6 hD6' he s1 s2 he2
    have e0 : wz.cell? ⟨w.heap.size, 0, none⟩ = some (.string l) := (blk_cell bz' 0).trans rfl
    have e1 : wz.cell? ⟨w.heap.size, 1, none⟩ = some (.slice Av np cv) := (blk_cell bz' 1).trans rfl
    go_wp2
    refine bodyPost_ret (v := (.tuple #[u, .agg #[.string l, .slice Av np cv], .int .i64 a2, .string xr, .bool out])) (by simp [results, Tryz.results15, go_sem, zEn, *]) rfl ⟨u, .slice Av np cv, m, l, ps, a2, xr, out, rfl, RQ_ofQ hQz, RQ_ofR hPz, hM, hl, by omega, ha2, hxs, hBz⟩
end Go.Proofs.YtfjbjiklohjodaaGreatDoor.Q
namespace Go.Proofs.YtfjbjiklohjodaaGreatDoor.Q
open Go.RowKit Go.Proofs.YtfjbjiklohjodaaGreatDoorW.PrintWords Go.Proofs.YtfjbjiklohjodaaGreatDoorW.PrintMore Go.Proofs.YtfjbjiklohjodaaGreatDoor.Z
set_option linter.unusedVariables false
set_option linter.unusedSimpArgs false
def behindP (l : List UInt8) (a : Int) (x : List UInt8) : List UInt8 × Bool := if a > (l.length : Int) ∨ a + (x.length : Int) > 40 then (l, false) else if a + (x.length : Int) ≤ (l.length : Int) then (l, true) else (l ++ x.drop (l.length - a.toNat), true)
theorem behind_to (k : Nat) (hk : 1 < k) (l : List UInt8) (hl : l.length ≤ 1000000) (a : Int) (ha : 0 ≤ a ∧ a ≤ 1000000) (x : List UInt8) (hx : x.length ≤ 1000000) : impl_behind.f k (mkB l) a (mkB x) = some (mkB (behindP l a x).1, (behindP l a x).2) := by
  obtain ⟨k, rfl⟩ : ∃ m, k = m + 1 := ⟨k - 1, by omega⟩
  have hw : wrap64 (a + (x.length : Int)) = a + (x.length : Int) := w64 (by omega)
  unfold impl_behind.f behindP
  simp only [impl_behind.j0, size_mkB, hw]
  by_cases c1 : a > (l.length : Int)
  · rw [if_pos c1, if_pos trivial, if_pos (.inl c1)]
  · rw [if_neg c1]
    by_cases c2 : a + (x.length : Int) > 40
    · rw [if_pos (by first | exact c2 | exact decide_eq_true c2), if_pos (.inr c2)]
    · rw [if_neg (by first | exact c2 | (rw [decide_eq_false c2]; decide)), if_neg (show ¬ (a > (l.length : Int) ∨ a + (x.length : Int) > 40) from fun h => h.elim c1 c2)]
      by_cases c3 : a + (x.length : Int) ≤ (l.length : Int)
      · rw [if_pos c3, if_pos c3]
      · have hw2 : wrap64 ((l.length : Int) - a) = ((l.length - a.toNat : Nat) : Int) := by rw [w64 (by omega)]; omega
        have hlen := new_len (l := l) (x := x) ha.1 (by omega) c3
        rw [if_neg c3, if_neg c3, hw2, if_pos (by omega), if_pos (by omega), Int.toNat_natCast, show (mkB x).extract (l.length - a.toNat) x.length = mkB (x.drop (l.length - a.toNat)) from extE x _, size_mkB]
        rw [if_pos (by rw [List.length_append] at hlen; omega), bytes_append]
theorem pcOf_port100 {T : List Tok} (g : good T) {t : Tok} (ht : t ∈ T) : 0 ≤ (pcOf t).fin.port ∧ (pcOf t).fin.port ≤ 100 := by
  induction T with
  | nil => cases ht
  | cons u T ih =>
    rcases List.mem_cons.1 ht with rfl | h
    · cases t with
      | b c => exact ⟨show (0 : Int) ≤ 0 by decide, show (0 : Int) ≤ 100 by decide⟩
      | n e =>
        have ha : anyB e = true := g.1
        have := anyB_mem ha
        have hall : (allEnds.all (fun e => decide (0 ≤ e.port ∧ e.port ≤ 100))) = true := by decide +kernel
        exact of_decide_eq_true (List.all_eq_true.1 hall e this)
    · cases u with
      | b c => exact ih g.2 h
      | n e => exact ih g.2 h
theorem fits_toks : ∀ {T : List Tok}, good T → ∀ (r : List UInt8), fits (T.map pcOf) (flat T ++ r)
  | [], _, _ => trivial
  | t :: T, g, r => by
    have hp : (pcOf t).size = ((tx t).length : Int) := by cases t <;> rfl
    have g2 : good T := good_right (A := [t]) (B := T) g
    rw [List.map_cons, flat_cons, List.append_assoc]
    refine ⟨by rw [hp]; omega, by rw [hp, List.length_append]; omega, pcOf_port100 g List.mem_cons_self, ?_⟩
    rw [hp, Int.toNat_natCast, List.drop_left]
    exact fits_toks g2 r
theorem turnAll_toks {m : List Pr} (hm : mapOkB m = true) (out : Bool) (T : List Tok) (r : List UInt8) : turnAll out m (T.map pcOf) (flat T ++ r) = ((goTok out m T).1, (goTok out m T).2.map tx) := by
  cases out with
  | true => rw [turnAll_out _ _ _ hm, goOut_toks]; rfl
  | false => rw [turnAll_in hm, goIn_toks]; rfl
theorem put_l0 (M : List S111) (out : Bool) (IN : ByteArray) (L : List S116) (ps : List Sp) (h0 : ∀ p ∈ ps, 0 ≤ p.size) (hps : ps.length ≤ 1000000) (X : ByteArray) (Y : List S109) (K : Nat) (r : Option (List S111 × ByteArray × List S109 × Bool)) (n : Nat) : ∀ (k i : Nat) (acc : Int), ps.length - i ≤ n → n + K < k → i ≤ ps.length → 0 ≤ acc → acc + sizes (ps.drop i) ≤ 1000000 →
    (∀ k', K < k' → impl_Stream_put.l0 k' M out IN L (acc + sizes (ps.drop i)) (ps.map spTo) ps.length ps.length X Y = r) → impl_Stream_put.l0 k M out IN L acc (ps.map spTo) ps.length i X Y = r := by
  induction n with
  | zero =>
    intro k i acc hn hk hi ha hs hr
    obtain rfl : i = ps.length := by omega
    have := hr k (by omega)
    rw [List.drop_of_length_le (Nat.le_refl _)] at this
    simpa [sizes] using this
  | succ n ih =>
    intro k i acc hn hk hi ha hs hr
    by_cases hlt : i < ps.length
    · obtain ⟨k, rfl⟩ : ∃ m, k = m + 1 := ⟨k - 1, by omega⟩
      obtain ⟨p, hp⟩ : ∃ p, ps[i]? = some p := ⟨_, List.getElem?_eq_getElem hlt⟩
      have hpm : p ∈ ps := List.mem_of_getElem? hp
      have hp0 := h0 p hpm
      have hrr := sizes_nn (ps := ps.drop (i + 1)) (fun q hq => h0 q (List.mem_of_mem_drop hq))
      have hsz : sizes (ps.drop i) = p.size + sizes (ps.drop (i + 1)) := by rw [drop_of hp]; rfl
      have q1 : (i : Int) < ((ps.map spTo).length : Int) := by rw [List.length_map]; omega
      have q2 : (0 : Int) ≤ (i : Int) := by omega
      have q4 : (i : Int) < (ps.length : Int) := by omega
      have q3 : acc + p.size + sizes (ps.drop (i + 1)) = acc + sizes (ps.drop i) := by omega
      have hih := ih k (i + 1) (acc + p.size) (by omega) (by omega) (by omega) (by omega) (by omega) (fun k' hk' => by rw [q3]; exact hr k' hk')
      have hw3 : wrap64 ((i : Int) + 1) = ((i + 1 : Nat) : Int) := by rw [w64 (by omega)]; omega
      have hw : wrap64 (acc + p.size) = acc + p.size := w64 (by omega)
      have hf0 : (rd_T109 (ps.map spTo) (i : Int)).f0 = p.size := by rw [rd_sp ps i p hp]; rfl
      simp only [impl_Stream_put.l0]
      rw [if_pos q4, if_pos q2, if_pos q1, hf0, hw, hw3]
      exact hih
    · obtain rfl : i = ps.length := by omega
      have := hr k (by omega)
      rw [List.drop_of_length_le (Nat.le_refl _)] at this
      simpa [sizes] using this
theorem put_l1 (M : List S111) (B U : List Tok) (hU : U.length = B.length) (hB : B.length ≤ 1000) (IN : ByteArray) (n : Nat) : ∀ (k j : Nat) (qs : List Sp), B.length - j ≤ n → n < k → j ≤ B.length → qs.length ≤ 1000000 + j →
    impl_Stream_put.l1 k M ((U.map tx).map mkB) ((B.map pcOf).map pcTo) B.length j IN (qs.map spTo) = some (M, IN, (qs ++ made (B.drop j) (U.drop j)).map spTo, true) := by
  induction n with
  | zero =>
    intro k j qs hn hk hj hq
    obtain ⟨k, rfl⟩ : ∃ m, k = m + 1 := ⟨k - 1, by omega⟩
    simp only [impl_Stream_put.l1]
    rw [if_neg (by omega), List.drop_of_length_le (by omega)]
    simp [made]
  | succ n ih =>
    intro k j qs hn hk hj hq
    obtain ⟨k, rfl⟩ : ∃ m, k = m + 1 := ⟨k - 1, by omega⟩
    by_cases hlt : j < B.length
    · obtain ⟨t, ht⟩ : ∃ t, B[j]? = some t := ⟨_, List.getElem?_eq_getElem hlt⟩
      obtain ⟨u, hu⟩ : ∃ u, U[j]? = some u := ⟨_, List.getElem?_eq_getElem (by omega)⟩
      have hih := ih k (j + 1) (qs ++ [(⟨((tx t).length : Int), tx u⟩ : Sp)]) (by omega) (by omega) (by omega) (by rw [List.length_append]; show qs.length + 1 ≤ _; omega)
      have q1 : (j : Int) < (B.length : Int) := by omega
      have q2 : (0 : Int) ≤ (j : Int) := by omega
      have q3 : (j : Int) < (((B.map pcOf).map pcTo).length : Int) := by rw [List.length_map, List.length_map]; omega
      have q4 : (j : Int) < (((U.map tx).map mkB).length : Int) := by rw [List.length_map, List.length_map]; omega
      have q5 : (qs.map spTo).length < 5864062014805 := by rw [List.length_map]; omega
      have hw3 : wrap64 ((j : Int) + 1) = ((j + 1 : Nat) : Int) := by rw [w64 (by omega)]; omega
      have hf0 : (rd_T116 ((B.map pcOf).map pcTo) (j : Int)).f0 = ((tx t).length : Int) := by
        rw [rd_tk _ j t ht]
        cases t <;> rfl
      have hf1 : rdOf ByteArray.empty ((U.map tx).map mkB) (j : Int) = mkB (tx u) := by
        unfold rdOf
        rw [Int.toNat_natCast, List.getD_eq_getElem?_getD, List.getElem?_map, List.getElem?_map, hu]
        rfl
      simp only [impl_Stream_put.l1]
      rw [if_pos q1, if_pos q2, if_pos q3, if_pos q4, if_pos q5, hf0, hf1, hw3]
      rw [show (qs.map spTo ++ [(⟨((tx t).length : Int), mkB (tx u)⟩ : S109)]) = (qs ++ [(⟨((tx t).length : Int), tx u⟩ : Sp)]).map spTo from by rw [List.map_append]; rfl, hih, drop_of ht, drop_of hu]
      simp [made]
    · simp only [impl_Stream_put.l1]
      rw [if_neg (by omega), List.drop_of_length_le (by omega)]
      simp [made]
theorem impl_put_to (k : Nat) (hk : 5000 < k) (m : List Pr) (hmo : mapOkB m = true) (l : List UInt8) (hl : l.length ≤ 400) (ps : List Sp) (hf : fitS ps (toks (body l))) (a : Int) (ha : 0 ≤ a ∧ a ≤ 1000000) (x : List UInt8) (hx : x.length ≤ 1000000) (out : Bool) :
    impl_Stream_put.f k (mkB l) (ps.map spTo) (m.map prTo) a (mkB x) out = some ((putS m l ps a x out).1.map prTo, mkB (putS m l ps a x out).2.1, (putS m l ps a x out).2.2.1.map spTo, (putS m l ps a x out).2.2.2) := by
  have hm := mapOk_len hmo
  unfold impl_Stream_put.f
  rw [behind_to k (by omega) l (by omega) a ha x hx, Option.bind_some]
  simp only
  by_cases c0 : a > (l.length : Int) ∨ a + (x.length : Int) > 40
  · rw [putS_no c0]
    unfold behindP
    rw [if_pos c0]
    simp
  · have hfl := fitS_len hf
    have hsum := fitS_sum hf
    rw [flat_toks] at hsum
    have hgo : ∀ (s : List UInt8) (B : List Tok), toks (body s) = toks (body l) ++ B → s.length ≤ 400 → (impl_pieces.f k (mkB s)).bind (fun t105 => (if 0 ≤ ((ps.map spTo).length : Int) then (if ((ps.map spTo).length : Int) ≤ (t105.length : Int) then (impl_Stream_put.l0 k (m.map prTo) out (mkB s) (t105.drop (((ps.map spTo).length : Int) : Int).toNat) 0 (ps.map spTo) ((ps.map spTo).length : Int) 0 (mkB l) (ps.map spTo)) else (none)) else (none))) = some ((goTok out m B).1.map prTo, mkB s, (ps ++ made B (goTok out m B).2).map spTo, true) := by
      intro s B hB hs
      have h9 := toks_len s
      have h8 := toks_len l
      have hbs := body_len s
      have hbl := body_len l
      have hlB : (toks (body s)).length = (toks (body l)).length + B.length := by rw [hB, List.length_append]
      rw [impl_pieces_to k s (by omega) (by omega), Option.bind_some, pcL_toks, List.length_map, List.length_map, List.length_map, if_pos (by omega), if_pos (by omega), Int.toNat_natCast]
      rw [← List.map_drop, ← List.map_drop, show (toks (body s)).drop ps.length = B from by rw [hB, hfl, List.drop_left]]
      refine put_l0 (m.map prTo) out (mkB s) _ ps (fitS_nn hf) (by omega) (mkB l) (ps.map spTo) 3000 _ ps.length k 0 0 (by omega) (by omega) (by omega) (by omega) (by rw [List.drop_zero]; omega) (fun k' hk' => ?_)
      obtain ⟨k', rfl⟩ : ∃ m, k' = m + 1 := ⟨k' - 1, by omega⟩
      rw [List.drop_zero, hsum]
      have hsb : s = flat (toks (body l)) ++ (flat B ++ s.drop (body s).length) := by
        have h11 : body s = s.take (body s).length := by
          unfold body
          rw [List.length_take, Nat.min_eq_left (by omega)]
        have h10 := List.take_append_drop (body s).length s
        rw [← h11] at h10
        rw [← List.append_assoc, ← flat_append, ← hB, flat_toks]
        exact h10.symm
      rw [flat_toks] at hsb
      have hd : s.drop (body l).length = flat B ++ s.drop (body s).length := by
        have h12 := congrArg (List.drop (body l).length) hsb
        rw [List.drop_left] at h12
        exact h12
      have hls : (body l).length ≤ s.length := by
        have := congrArg List.length hsb
        rw [List.length_append] at this
        omega
      have hT := turned_to k' (by omega) m (B.map pcOf) (flat B ++ s.drop (body s).length) out (fits_toks (good_right (A := toks (body l)) (by rw [← hB]; exact good_toks _)) _) (by rw [← hd, List.length_drop]; omega) (by omega) (by rw [List.length_map]; omega)
      rw [turnAll_toks hmo] at hT
      simp only [impl_Stream_put.l0]
      rw [if_neg (by omega), show (0 : Int) + ((body l).length : Int) = (((body l).length : Nat) : Int) from by omega, if_pos (by omega), size_mkB, if_pos (by omega), Int.toNat_natCast, show (mkB s).extract (body l).length s.length = mkB (s.drop (body l).length) from extE s _, hd, hT, Option.bind_some]
      unfold slices_Clone_Part.f
      rw [if_pos (by rw [List.length_map]; omega), Option.bind_some]
      have h1 := put_l1 ((goTok out m B).1.map prTo) B (goTok out m B).2 (goTok_len out m B) (by omega) (mkB s) B.length k' 0 ps (by omega) (by omega) (by omega) (by omega)
      rw [List.drop_zero, List.drop_zero, show ((0 : Nat) : Int) = 0 from rfl] at h1
      simp only [List.length_map]
      exact h1
    by_cases c3 : a + (x.length : Int) ≤ (l.length : Int)
    · have hb : behindP l a x = (l, true) := by unfold behindP; rw [if_neg c0, if_pos c3]
      rw [hb]
      simp only [if_true]
      rw [hgo l [] (by rw [List.append_nil]) hl, putS_old (by omega) (by omega) c3]
      cases out <;> simp [goTok, made, outToks]
    · have hb : behindP l a x = (l ++ x.drop (l.length - a.toNat), true) := by unfold behindP; rw [if_neg c0, if_neg c3]
      obtain ⟨B, hB⟩ := toks_ext l (x.drop (l.length - a.toNat))
      have hlen := new_len (l := l) (x := x) ha.1 (by omega) c3
      rw [hb]
      simp only [if_true]
      rw [hgo _ B hB (by omega), putS_newS (by omega) (by omega) c3 hB hf]
theorem impl_StreamPut_to (k : Nat) (hk : 6000 < k) (m : List Pr) (hm : m.length ≤ 1099511627776) (l : List UInt8) (hl : l.length ≤ 140737488355328) (ps : List Sp) (hps : ps.length ≤ 1099511627776) (a : Int) (x : List UInt8) (hx : x.length ≤ 140737488355328) (out : Bool) :
    impl_StreamPut.f k (m.map prTo) (mkB l) (ps.map spTo) a (mkB x) out = some ((putAll m l ps a x out).1.map prTo, mkB (putAll m l ps a x out).2.1, (putAll m l ps a x out).2.2.1.map spTo, (putAll m l ps a x out).2.2.2) := by
  obtain ⟨k, rfl⟩ : ∃ m, k = m + 1 := ⟨k - 1, by omega⟩
  have hx2 : impl_TextOk.f (mkB x) = some (textOk x) := by unfold impl_TextOk.f; rw [if_pos (by rw [size_mkB]; exact hx)]
  have hin : impl_within.f a 0 40 = some (inB a 0 40) := by
    unfold impl_within.f inB
    by_cases c1 : 0 ≤ a <;> by_cases c2 : a ≤ 40 <;> simp [c1, c2]
  unfold impl_StreamPut.f putAll
  rw [impl_MapOk_is m hm, Option.bind_some, impl_StreamOk_to _ (by omega) l hl ps hps, Option.bind_some, hx2, Option.bind_some, hin, Option.bind_some]
  simp only [impl_StreamPut.j0]
  cases h1 : mapOkB m
  · simp
  · cases h2 : stOkB l ps
    · simp
    · cases h3 : textOk x
      · simp
      · cases h4 : inB a 0 40
        · simp
        · have h5 := stOkB_iff.1 h2
          have h6 := inB40.1 h4
          have h8 := textOk_len h3
          have h9 := textOk_len h5.1
          have h10 := fit_len h5.2
          have h11 := toks_len l
          have h7 := mapOk_len h1
          have hI := impl_put_to k (by omega) m h1 l (by omega) ps (fit_S h5.2) a (by omega) x (by omega) out
          obtain ⟨⟨m2, l2, ps2, ok2⟩, hR⟩ : ∃ R, putS m l ps a x out = R := ⟨_, rfl⟩
          have hP := putS_ok (out := out) (x := x) h1 h5 h3 h6.1 hR
          have hm2 := mapOk_len hP.1.1
          have hl2 := fit_len hP.2.1.2
          have hl3 := toks_len l2
          have hl4 := textOk_len hP.2.1.1
          rw [hR] at hI ⊢
          simp only at hI
          simp only [if_true, Bool.not_true, Bool.false_eq_true, if_false, Bool.and_self]
          rw [hI, Option.bind_some]
          simp only
          unfold impl_pairs_copied.f impl_Stream_copied.f slices_Clone_Pair.f slices_Clone_Part.f slices_Clip_Pair.f slices_Clip_Part.f
          rw [if_pos (by rw [List.length_map]; omega), if_pos (by rw [List.length_map]; omega)]
          simp
end Go.Proofs.YtfjbjiklohjodaaGreatDoor.Q
namespace Go.Proofs.YtfjbjiklohjodaaGreatDoor.Q
open Go.RowKit Go.Proofs.YtfjbjiklohjodaaGreatDoorW.PrintWords Go.Proofs.YtfjbjiklohjodaaGreatDoorW.PrintMore Go.Proofs.YtfjbjiklohjodaaGreatDoor.Z
set_option linter.unusedVariables false
set_option linter.unusedSimpArgs false
attribute [local go_sem ↓] Go.wp_at_zero Go.wp_at_succ
def partsText (l : List S109) : List UInt8 := l.flatMap (fun p => bl p.f1)
theorem BuilderAt_alloc {T e : TypeId} {B b : Nat} {p : Value} {bs : List Value} {w : World} (h : Go.Lib.BuilderAt T e B b p bs w) (o : Obj) : Go.Lib.BuilderAt T e B b p bs (w.alloc o) := by
  have hlt := h.lt
  obtain ⟨hB, v, hb, hown, hne⟩ := h
  exact ⟨hB, v, (Go.Lib.alloc_old w o b hlt).trans hb, hown.alloc o, hne⟩
theorem IsBuilder_alloc {T e : TypeId} {B b : Nat} {bs : List Value} {w : World} (h : Go.Lib.IsBuilder T e B b bs w) (o : Obj) : Go.Lib.IsBuilder T e B b bs (w.alloc o) := by
  rcases h with h | h
  · exact .inl (BuilderAt_alloc h o)
  · exact .inr (BuilderAt_alloc h o)
theorem IsBuilder_lt {T e : TypeId} {B b : Nat} {bs : List Value} {w : World} (h : Go.Lib.IsBuilder T e B b bs w) : b < w.heap.size := by
  rcases h with h | h
  · exact h.lt
  · exact h.lt
theorem put_text (B : Nat) (bs : List Value) (s : ByteArray) (w : World) (h : Go.Lib.IsBuilder (Tryz.lays156_ren.t 72) (Tryz.lays156_ren.t 5) B B bs w) (hlen : bs.length + s.size ≤ 140737488355328) (hBw : B ≤ w.heap.size) :
    Calls Tryz.prog 134 #[.pointer (some ⟨B, 0, none⟩), .string s] w fun e w' => e = .returned (.tuple #[.int .i64 s.size, .nilIface]) ∧ Go.Lib.IsBuilder (Tryz.lays156_ren.t 72) (Tryz.lays156_ren.t 5) B B (bs ++ Go.Lib.strCells s) w' ∧ Below B w w' :=
  (Any.Builder_WriteString (P := Tryz.prog) (ρ := Tryz.lays156_ren) { Tryz.lays156 with } Tryz.Builder_Extra_156 B B bs s w h hlen hBw).mono (fun _ _ ⟨h1, h2, h3⟩ => ⟨h1, .inr h2, h3⟩)
theorem got_text (B : Nat) (l : List UInt8) (w : World) (h : Go.Lib.IsBuilder (Tryz.lays156_ren.t 72) (Tryz.lays156_ren.t 5) B B (Go.Lib.byteCells l) w) (hBw : B ≤ w.heap.size) :
    Calls Tryz.prog 135 #[.pointer (some ⟨B, 0, none⟩)] w fun e w' => e = .returned (.string ⟨l.toArray⟩) ∧ Below B w w' :=
  Any.Builder_String_any (P := Tryz.prog) (ρ := Tryz.lays156_ren) { Tryz.lays156 with } Tryz.Builder_Extra_156 B B l w h hBw
theorem parts_cells {l : List S109} {k : Nat} (hk : k < l.length) : Go.Lib.byteCells (partsText (l.take k)) ++ Go.Lib.strCells (rd_T109 l k).f1 = Go.Lib.byteCells (partsText (l.take (k + 1))) := by
  have e : rd_T109 l k = l[k] := by
    unfold rd_T109
    rw [Int.toNat_natCast, List.getD_eq_getElem?_getD, List.getElem?_eq_getElem hk]
    rfl
  rw [e, List.take_succ_eq_append_getElem hk]
  unfold partsText
  rw [List.flatMap_append]
  simp [Go.Lib.byteCells, Go.Lib.strCells, bl]
theorem parts_le {l : List S109} {k : Nat} : (partsText (l.take k)).length ≤ (partsText l).length := by
  have : partsText l = partsText (l.take k) ++ partsText (l.drop k) := by
    unfold partsText
    rw [← List.flatMap_append, List.take_append_drop]
  rw [this, List.length_append]
  omega
set_option maxHeartbeats 1000000 in
theorem stream_out (a0 : ByteArray) (A : Option Addr) (n c : Nat) (l : List S109) (w : World) (hC : Kd.C k109 w A n l) (hn : n ≤ 1099511627776) (hs : (partsText l).length ≤ 140737488355328) :
    Calls Tryz.prog 80 #[.agg #[.string a0, .slice A n c]] w fun r w' => r = .returned (.string ⟨(partsText l).toArray⟩) ∧ Below w.heap.size w w' := by
  have hl : l.length = n := hC.1
  have HC := Aside0.mk hC
  clear hC
  obtain ⟨E, hE⟩ : ∃ E, Tryz.lays156_ren.t 5 = E := ⟨_, rfl⟩
  have hF := Go.Lib.fresh_isBuilder (Tryz.lays156_ren.t 72) (Tryz.lays156_ren.t 5) (w.alloc (.cells #[.string a0, .slice A n c] 26 (0, 0)))
  have hsz : (w.alloc (.cells #[.string a0, .slice A n c] 26 (0, 0))).heap.size = w.heap.size + 1 := by simp
  have hP := put_text (w.heap.size + 1)
  have hG := got_text (w.heap.size + 1)
  rw [hsz] at hF
  rw [hE, show Tryz.lays156_ren.t 72 = 173 from rfl] at hF hP hG
  have HF := Aside0.mk hF
  have HP := Aside0.mk hP
  have HG := Aside0.mk hG
  clear hE hF hP hG hsz
  go_enter Tryz.func80, Tryz.ntmps80
  go_wp2
  go_loopw [9] (fun s9 w' => ∃ k : Nat, k ≤ n ∧ s9 = .int .i64 k ∧ Aside0 (Go.Lib.IsBuilder 173 E (w.heap.size + 1) (w.heap.size + 1) (Go.Lib.byteCells (partsText (l.take k))) w') ∧ Below w.heap.size w w') (fun s9 _ => n - (intOf s9).toNat)
  case atStart => exact ⟨0, Nat.zero_le _, rfl, ⟨HF.out⟩, below_alloc (below_alloc (Below.refl _ _) _) _⟩
  case round =>
    obtain ⟨k, hk, rfl, HI, hb⟩ := hrel
    by_cases hlt : k < n
    · obtain ⟨ad, hA, d0, d1⟩ := at_T109 (Kd.C_below HC.out hb) (k : Int) (by omega) (by omega)
      cases hA
      rw [Int.toNat_natCast] at d0 d1
      have hk0 : (0 : Int) ≤ (k : Int) := Int.natCast_nonneg _
      have hk1 : (k : Int) < (n : Int) := by omega
      have hpc := parts_cells (l := l) (k := k) (by omega)
      have hle := parts_le (l := l) (k := k + 1)
      have hlen : (Go.Lib.byteCells (partsText (l.take k))).length + (rd_T109 l k).f1.size ≤ 140737488355328 := by
        have h9 := congrArg List.length hpc
        rw [List.length_append, Go.Lib.byteCells_length, Go.Lib.byteCells_length, Go.Lib.strCells_length] at h9
        rw [Go.Lib.byteCells_length]
        omega
      have HX := Aside0.mk hlen
      have HY := Aside0.mk hpc
      have HZ := Aside0.mk (IsBuilder_lt HI.out)
      clear hlen hpc hle
      go_wp2_with (go_at_call 134; refine (HP.out _ _ _ (IsBuilder_alloc HI.out _) HX.out (by rw [show ∀ o, (wr.alloc o).heap.size = wr.heap.size + 1 from fun o => by simp]; have := HZ.out; omega)).mono ?_; rintro r w2 ⟨rfl, hi2, hb2⟩; have HI2 := Aside0.mk hi2; have HB2 := Aside0.mk hb2; clear hi2 hb2)
      go_roundw
      case rel => exact ⟨k + 1, by omega, by go_num, ⟨by rw [← HY.out]; exact HI2.out⟩, (below_alloc hb _).trans (HB2.out.mono (by omega))⟩
      case measure => simp [intOf]; omega
    · obtain rfl : k = n := by omega
      have HZ := Aside0.mk (IsBuilder_lt HI.out)
      have HQ : Aside0 (Go.Lib.IsBuilder 173 E (w.heap.size + 1) (w.heap.size + 1) (Go.Lib.byteCells (partsText l)) wr) := ⟨by have h := HI.out; rw [List.take_of_length_le (by omega)] at h; exact h⟩
      go_wp2_with (go_at_call 135; refine (HG.out _ _ HQ.out (by have := HZ.out; omega)).mono ?_; rintro r w2 ⟨rfl, hb2⟩; have HB2 := Aside0.mk hb2; clear hb2)
      go_ret
      exact ⟨rfl, hb.trans (HB2.out.mono (by omega))⟩
def impl_Stream_out.f (a0_0 : ByteArray) (l0_1 : List S109) : Option ByteArray := if l0_1.length ≤ 1099511627776 ∧ (partsText l0_1).length ≤ 140737488355328 then some ⟨(partsText l0_1).toArray⟩ else none
theorem impl_Stream_out.calls (a0_0 : ByteArray) (A0_1 : Option Addr) (c0_1 : Nat) (l0_1 : List (S109)) (r : ByteArray) (w : World) (hr0_1 : Kd.C k109 w A0_1 l0_1.length l0_1) (hc0_1 : l0_1.length ≤ c0_1) (h : impl_Stream_out.f a0_0 l0_1 = some r) :
    Calls Tryz.prog 80 #[.agg #[.string a0_0, .slice A0_1 l0_1.length c0_1]] w fun e w' => e = .returned (.string r) ∧ Below w.heap.size w w' := by
  unfold impl_Stream_out.f at h
  split at h
  · rename_i hs
    obtain rfl := Option.some.inj h
    exact stream_out a0_0 A0_1 l0_1.length c0_1 l0_1 w hr0_1 hs.1 hs.2
  · cases h
end Go.Proofs.YtfjbjiklohjodaaGreatDoor.Q
namespace Go.Proofs.YtfjbjiklohjodaaGreatDoor.Q
open Go.RowKit Go.Proofs.YtfjbjiklohjodaaGreatDoorW.PrintWords Go.Proofs.YtfjbjiklohjodaaGreatDoorW.PrintLast Go.Proofs.YtfjbjiklohjodaaGreatDoorW.PrintMore Go.Proofs.YtfjbjiklohjodaaGreatDoor.Z
attribute [local go_sem] max2_int min2_int max_two min_two max_three min_three max_four min_four
set_option linter.unusedVariables false
set_option linter.unusedSimpArgs false
noncomputable section
def impl_StreamOut.f (k : Nat) (a0_0 : ByteArray) (l0_1 : List (S109)) : Option (ByteArray) := (impl_StreamOk.f k a0_0 l0_1).bind fun t102 => (if t102 = true then ((impl_Stream_out.f a0_0 l0_1).bind fun t103 => (some t103)) else (some (⟨#[]⟩ : ByteArray)))
set_option maxHeartbeats 8000000 in
set_option maxRecDepth 100000 in
theorem impl_StreamOut.calls (k : Nat) (a0_0 : ByteArray) (A0_1 : Option Addr) (c0_1 : Nat) (l0_1 : List (S109)) (r : ByteArray) (w : World) (hr0_1 : Kd.C k109 w A0_1 l0_1.length l0_1) (hc0_1 : l0_1.length ≤ c0_1) (hV : VarsIn w) (h : impl_StreamOut.f k a0_0 l0_1 = some r) :
  Calls Tryz.prog 26 #[.agg #[.string a0_0, .slice A0_1 l0_1.length c0_1]] w fun e w' => e = .returned (.string r) ∧ Below w.heap.size w w' := by
 have hu26 := Tryz.underlying26
 have HR0_1 := Aside0.mk hr0_1
 have HC0_1 := Aside0.mk hc0_1
 clear hr0_1 hc0_1
 have HB := Aside0.mk (Below.refl w.heap.size w)
 have H : ((impl_StreamOk.f k a0_0 l0_1).bind fun t102 => (if t102 = true then ((impl_Stream_out.f a0_0 l0_1).bind fun t103 => (some t103)) else (some (⟨#[]⟩ : ByteArray)))) = some r := h
 clear h
 obtain ⟨t102, A2, H⟩ := zH_ H
 by_cases c3 : t102 = true
 ·subst c3; rw [if_pos rfl] at H; obtain ⟨t103, A4, H⟩ := zH_ H; obtain rfl := Option.some.inj H
  go_enter Tryz.func26, Tryz.ntmps26
  go_wp2_with (first | ((with_reducible refine gate_dst (N := 1) rfl ?_); refine zx_ (N := 1) #[.string a0_0, .slice A0_1 l0_1.length c0_1] 26 ?_; intro gb101 hg w5 hbox hb; have BK101 := A_ hbox; have GW101 := A_ ((d0_ : w.heap.size ≤ gb101)); have GE101 := A_ ((d0_ : w.heap.size ≤ gb101)); replace HB := A_ (below_step (zB_ HB.out) hb); clear hb hbox hg; have hcz6_0 : w5.cell? ⟨gb101, 0, none⟩ = some (.string a0_0) := (blk_cell BK101.out 0).trans rfl; have hcz6_1 : w5.cell? ⟨gb101, 1, none⟩ = some (.slice A0_1 l0_1.length c0_1) := (blk_cell BK101.out 1).trans rfl; have hfz6_0 := blk_frozen BK101.out 0; have hfz6_1 := blk_frozen BK101.out 1) | ((with_reducible refine gate_callee (f := 25) rfl ?_); refine zc_ (some 4) Tryz.func25 #[.agg #[.string a0_0, .slice A0_1 l0_1.length c0_1]] ?_; (with_reducible refine (impl_StreamOk.calls k a0_0 _ _ l0_1 true _ ?side1 ?side2 ?side3 A2.out).mono ?_); (case side1 => exact d111_); (case side2 => exact HC0_1.out); (case side3 => exact d117_); rintro e w7 ⟨rfl, hb⟩; refine ⟨_, rfl, ?_⟩; replace BK101 := A_ (blk_below (g := gb101) (o := .cells #[.string a0_0, .slice A0_1 l0_1.length c0_1] 26 (0, 0)) (zb_ BK101.out) hb); replace HB := A_ (below_step d1_ hb); (try clear hb); have hcz8_0 : w7.cell? ⟨gb101, 0, none⟩ = some (.string a0_0) := (blk_cell BK101.out 0).trans rfl; have hcz8_1 : w7.cell? ⟨gb101, 1, none⟩ = some (.slice A0_1 l0_1.length c0_1) := (blk_cell BK101.out 1).trans rfl; have hfz8_0 := blk_frozen BK101.out 0; have hfz8_1 := blk_frozen BK101.out 1) | ((with_reducible refine gate_callee (f := 80) rfl ?_); refine zc_ (some 7) Tryz.func80 #[.agg #[.string a0_0, .slice A0_1 l0_1.length c0_1]] ?_; (with_reducible refine (impl_Stream_out.calls a0_0 _ _ l0_1 t103 _ ?side1 ?side2 A4.out).mono ?_); (case side1 => exact d111_); (case side2 => exact HC0_1.out); rintro e w9 ⟨rfl, hb⟩; refine ⟨_, rfl, ?_⟩; replace BK101 := A_ (blk_below (g := gb101) (o := .cells #[.string a0_0, .slice A0_1 l0_1.length c0_1] 26 (0, 0)) (zb_ BK101.out) hb); replace HB := A_ (below_step d1_ hb); (try clear hb); (try clear hi)))
  go_ret
  exact ⟨d4_, d1_⟩
 replace c3 := Bool.eq_false_iff.mpr c3
 subst c3
 rw [if_neg (show ¬ (false = true) by decide)] at H
 obtain rfl := Option.some.inj H
 go_enter Tryz.func26, Tryz.ntmps26
 go_wp2_with (first | ((with_reducible refine gate_dst (N := 1) rfl ?_); refine zx_ (N := 1) #[.string a0_0, .slice A0_1 l0_1.length c0_1] 26 ?_; intro gb101 hg w10 hbox hb; have BK101 := A_ hbox; have GW101 := A_ ((d0_ : w.heap.size ≤ gb101)); have GE101 := A_ ((d0_ : w.heap.size ≤ gb101)); replace HB := A_ (below_step (zB_ HB.out) hb); clear hb hbox hg; have hcz11_0 : w10.cell? ⟨gb101, 0, none⟩ = some (.string a0_0) := (blk_cell BK101.out 0).trans rfl; have hcz11_1 : w10.cell? ⟨gb101, 1, none⟩ = some (.slice A0_1 l0_1.length c0_1) := (blk_cell BK101.out 1).trans rfl; have hfz11_0 := blk_frozen BK101.out 0; have hfz11_1 := blk_frozen BK101.out 1) | ((with_reducible refine gate_callee (f := 25) rfl ?_); refine zc_ (some 4) Tryz.func25 #[.agg #[.string a0_0, .slice A0_1 l0_1.length c0_1]] ?_; (with_reducible refine (impl_StreamOk.calls k a0_0 _ _ l0_1 false _ ?side1 ?side2 ?side3 A2.out).mono ?_); (case side1 => exact d111_); (case side2 => exact HC0_1.out); (case side3 => exact d117_); rintro e w12 ⟨rfl, hb⟩; refine ⟨_, rfl, ?_⟩; replace BK101 := A_ (blk_below (g := gb101) (o := .cells #[.string a0_0, .slice A0_1 l0_1.length c0_1] 26 (0, 0)) (zb_ BK101.out) hb); replace HB := A_ (below_step d1_ hb); (try clear hb); (try clear hi)))
 go_ret
 exact ⟨d4_, d1_⟩
end
end Go.Proofs.YtfjbjiklohjodaaGreatDoor.Q
namespace Go.Proofs.YtfjbjiklohjodaaGreatDoor.Q
open Go.RowKit Go.Proofs.YtfjbjiklohjodaaGreatDoorW.PrintWords Go.Proofs.YtfjbjiklohjodaaGreatDoorW.PrintMore Go.Proofs.YtfjbjiklohjodaaGreatDoor.Z
set_option linter.unusedVariables false
set_option linter.unusedSimpArgs false
theorem putAll_ok {m : List Pr} {l : List UInt8} {ps : List Sp} {a : Int} {x : List UInt8} {out : Bool} (hm : mapOkB m = true) (hs : stOkB l ps = true) (hx : textOk x = true) (ha : 0 ≤ a ∧ a ≤ 40) : putAll m l ps a x out = putS m l ps a x out := by
  unfold putAll
  rw [hm, hs, hx, inB40.2 ha]
  rfl
theorem putAll_cases {m : List Pr} {l : List UInt8} {ps : List Sp} {a : Int} {x : List UInt8} {out : Bool} : (mapOkB m = true ∧ stOkB l ps = true ∧ textOk x = true ∧ (0 ≤ a ∧ a ≤ 40) ∧ putAll m l ps a x out = putS m l ps a x out) ∨ putAll m l ps a x out = ([], [], [], false) := by
  cases h1 : mapOkB m
  · exact .inr (by unfold putAll; rw [h1]; rfl)
  · cases h2 : stOkB l ps
    · exact .inr (by unfold putAll; rw [h1, h2]; rfl)
    · cases h3 : textOk x
      · exact .inr (by unfold putAll; rw [h1, h2, h3]; rfl)
      · cases h4 : inB a 0 40
        · exact .inr (by unfold putAll; rw [h1, h2, h3, h4]; rfl)
        · exact .inl ⟨rfl, rfl, rfl, inB40.1 h4, putAll_ok h1 h2 h3 (inB40.1 h4)⟩
theorem putAll_len {m : List Pr} {l : List UInt8} {ps : List Sp} {a : Int} {x : List UInt8} {out : Bool} {m' : List Pr} {l' : List UInt8} {ps' : List Sp} {ok : Bool} (h : putAll m l ps a x out = (m', l', ps', ok)) : m'.length ≤ 8 ∧ l'.length ≤ 40 ∧ ps'.length ≤ 40 := by
  rcases putAll_cases (m := m) (l := l) (ps := ps) (a := a) (x := x) (out := out) with ⟨h1, h2, h3, h4, h5⟩ | h5
  · rw [h5] at h
    have hP := putS_ok h1 (stOkB_iff.1 h2) h3 h4.1 h
    have h6 := mapOk_len hP.1.1
    have h7 := textOk_len hP.2.1.1
    have h8 := fit_len hP.2.1.2
    have h9 := toks_len l'
    omega
  · rw [h5] at h
    simp only [Prod.mk.injEq] at h
    obtain ⟨rfl, rfl, rfl, rfl⟩ := h
    simp
theorem partsText_to : ∀ (ps : List Sp), partsText (ps.map spTo) = outS2 ps
  | [] => rfl
  | p :: ps => by
    have := partsText_to ps
    show bl (mkB p.text) ++ partsText (ps.map spTo) = p.text ++ outS2 ps
    rw [this]
theorem outS2_len : ∀ {ps : List Sp} {T : List Tok}, fit ps T → (outS2 ps).length ≤ 6 * T.length
  | [], [], _ => Nat.le_refl _
  | p :: ps, t :: T, h => by
    have ih := outS2_len h.2
    have h6 := h.1.2.2.1
    show (p.text ++ outS2 ps).length ≤ 6 * (T.length + 1)
    rw [List.length_append]
    omega
  | [], _ :: _, h => h.elim
  | _ :: _, [], h => h.elim
theorem st_len {l : List UInt8} {ps : List Sp} (h : stOk l ps) : l.length ≤ 40 ∧ ps.length ≤ 40 ∧ (outS2 ps).length ≤ 240 := by
  have h1 := textOk_len h.1
  have h2 := fit_len h.2
  have h3 := toks_len l
  have h4 := outS2_len h.2
  omega
theorem streamOut_f {l : List UInt8} {ps : List Sp} (h : stOk l ps) : impl_Stream_out.f (mkB l) (ps.map spTo) = some (mkB (outS2 ps)) := by
  have h1 := st_len h
  unfold impl_Stream_out.f
  rw [partsText_to, if_pos ⟨by rw [List.length_map]; omega, by omega⟩]
theorem impl_StreamOut_to (k : Nat) (hk : 3000 < k) {l : List UInt8} {ps : List Sp} (h : stOk l ps) : impl_StreamOut.f k (mkB l) (ps.map spTo) = some (mkB (outS2 ps)) := by
  have h1 := st_len h
  unfold impl_StreamOut.f
  rw [impl_StreamOk_to k hk l (by omega) ps (by omega), Option.bind_some, stOkB_iff.2 h, if_pos rfl, streamOut_f h, Option.bind_some]
end Go.Proofs.YtfjbjiklohjodaaGreatDoor.Q
namespace Go.Proofs.YtfjbjiklohjodaaGreatDoor.Q
open Go.RowKit Go.Proofs.YtfjbjiklohjodaaGreatDoorW.PrintWords Go.Proofs.YtfjbjiklohjodaaGreatDoorW.PrintLast Go.Proofs.YtfjbjiklohjodaaGreatDoorW.PrintMore
attribute [local go_sem] max2_int min2_int max_two min_two max_three min_three max_four min_four
set_option linter.unusedVariables false
set_option linter.unusedSimpArgs false
noncomputable section
theorem eqA109 (d : Nat) (w : World) (x0 y0 : Int) (x1 y1 : ByteArray) :
    (Op.equalIn (d + 2) 109 (.agg #[.int .i64 x0, .string x1]) (.agg #[.int .i64 y0, .string y1])).run Tryz.prog w = .ok (x0 == y0 && (x1.toList == y1.toList)) w := by
  refine eqA_of Tryz.underlying109 (by kernel_rfl) ?_
  refine eqf_cons (by rfl) (by go_simp; rfl) (by go_simp; rfl) (by go_simp) ?_
  exact eqf_last (by rfl) (by go_simp; rfl) (by go_simp; rfl) (by go_simp)
end
end Go.Proofs.YtfjbjiklohjodaaGreatDoor.Q
namespace Go.Proofs.YtfjbjiklohjodaaGreatDoor.Q
open Go.RowKit Go.Proofs.YtfjbjiklohjodaaGreatDoorW.PrintWords Go.Proofs.YtfjbjiklohjodaaGreatDoorW.PrintLast Go.Proofs.YtfjbjiklohjodaaGreatDoorW.PrintMore
attribute [local go_sem] max2_int min2_int max_two min_two max_three min_three max_four min_four
set_option linter.unusedVariables false
set_option linter.unusedSimpArgs false
noncomputable section
attribute [local go_sem high] eqA109
mutual
def laws_lzStream.j0 : Nat → Bool → ByteArray → List (S109) → ByteArray → List (S109) → Option (Bool)
 | 0, _, _, _, _, _ => none
 | k + 1, x19, x102000, x102001, x103000, x103001 => if x19 = true then (some false) else (laws_lzStream.l0 k 0 x102000 x102001 x103000 x103001)
def laws_lzStream.l0 : Nat → Int → ByteArray → List (S109) → ByteArray → List (S109) → Option (Bool)
 | 0, _, _, _, _, _ => none
 | k + 1, x5, x102000, x102001, x103000, x103001 => if x5 < (x102001.length : Int) then (if 0 ≤ x5 then (if x5 < (x103001.length : Int) then (if (!(((rd_T109 x102001 x5).f0) == ((rd_T109 x103001 x5).f0)) || (!((((rd_T109 x102001 x5).f1).toList) == (((rd_T109 x103001 x5).f1).toList)))) = true then (some false) else (laws_lzStream.l0 k (wrap64 (x5 + 1)) x102000 x102001 x103000 x103001)) else (none)) else (none)) else (some true)
end
def laws_lzStream.f (k : Nat) (a0_0 : ByteArray) (l0_1 : List (S109)) (a1_0 : ByteArray) (l1_1 : List (S109)) : Option (Bool) := if a0_0.toList = a1_0.toList then (laws_lzStream.j0 k ((l0_1.length : Int) != (l1_1.length : Int)) a0_0 l0_1 a1_0 l1_1) else (laws_lzStream.j0 k true a0_0 l0_1 a1_0 l1_1)
set_option maxHeartbeats 8000000 in
set_option maxRecDepth 100000 in
theorem laws_lzStream.calls (k : Nat) (a0_0 : ByteArray) (A0_1 : Option Addr) (c0_1 : Nat) (l0_1 : List (S109)) (a1_0 : ByteArray) (A1_1 : Option Addr) (c1_1 : Nat) (l1_1 : List (S109)) (r : Bool) (w : World) (hr0_1 : Kd.C k109 w A0_1 l0_1.length l0_1) (hc0_1 : l0_1.length ≤ c0_1) (hr1_1 : Kd.C k109 w A1_1 l1_1.length l1_1) (hc1_1 : l1_1.length ≤ c1_1) (h : laws_lzStream.f k a0_0 l0_1 a1_0 l1_1 = some r) :
  Calls Tryz.prog 18 #[.agg #[.string a0_0, .slice A0_1 l0_1.length c0_1], .agg #[.string a1_0, .slice A1_1 l1_1.length c1_1]] w fun e w' => e = .returned (.bool r) ∧ Below w.heap.size w w' := by
 have hu26 := Tryz.underlying26
 have hu109 := Tryz.underlying109
 have HR0_1 := Aside0.mk hr0_1
 have HC0_1 := Aside0.mk hc0_1
 clear hr0_1 hc0_1
 have HR1_1 := Aside0.mk hr1_1
 have HC1_1 := Aside0.mk hc1_1
 clear hr1_1 hc1_1
 have HB := Aside0.mk (Below.refl w.heap.size w)
 have H : (if a0_0.toList = a1_0.toList then (laws_lzStream.j0 k ((l0_1.length : Int) != (l1_1.length : Int)) a0_0 l0_1 a1_0 l1_1) else (laws_lzStream.j0 k true a0_0 l0_1 a1_0 l1_1)) = some r := h
 clear h
 have HC3 := Aside0.mk H
 clear H
 go_enter Tryz.func18, Tryz.ntmps18
 go_upto_region 1 with (first | ((with_reducible refine gate_dst (N := 2) rfl ?_); (try (refine gate_guard (by rfl) ?_; dsimp only)); refine zx_ (N := 2) #[.string a0_0, .slice A0_1 l0_1.length c0_1] 26 ?_; intro gb101 hg w4 hbox hb; have BK101 := A_ hbox; have GW101 := A_ ((d0_ : w.heap.size ≤ gb101)); have GE101 := A_ ((d0_ : w.heap.size ≤ gb101)); replace HB := A_ (below_step (zB_ HB.out) hb); clear hb hbox hg) | ((with_reducible refine gate_dst (N := 3) rfl ?_); (try (refine gate_guard (by rfl) ?_; dsimp only)); refine zx_ (N := 3) #[.string a1_0, .slice A1_1 l1_1.length c1_1] 26 ?_; intro gb102 hg w5 hbox hb; have BK102 := A_ hbox; have GW102 := A_ ((d6_ : w.heap.size ≤ gb102)); have GE102 := A_ ((d6_ : w.heap.size ≤ gb102)); replace HB := A_ (below_step d1_ hb); have NB101_102 := A_ ((d109_ : gb101 ≠ gb102)); have NB102_101 := A_ ((d110_ : gb102 ≠ gb101)); replace BK101 := A_ (blk_below (g := gb101) (o := .cells #[.string a0_0, .slice A0_1 l0_1.length c0_1] 26 (0, 0)) (zb_ BK101.out) hb); clear hb hbox hg))
 repeat (go_quiet (first | ((with_reducible refine gate_dst (N := 2) rfl ?_); (try (refine gate_guard (by rfl) ?_; dsimp only)); refine zx_ (N := 2) #[.string a0_0, .slice A0_1 l0_1.length c0_1] 26 ?_; intro gb101 hg w4 hbox hb; have BK101 := A_ hbox; have GW101 := A_ ((d0_ : w.heap.size ≤ gb101)); have GE101 := A_ ((d0_ : w.heap.size ≤ gb101)); replace HB := A_ (below_step (zB_ HB.out) hb); clear hb hbox hg) | ((with_reducible refine gate_dst (N := 3) rfl ?_); (try (refine gate_guard (by rfl) ?_; dsimp only)); refine zx_ (N := 3) #[.string a1_0, .slice A1_1 l1_1.length c1_1] 26 ?_; intro gb102 hg w5 hbox hb; have BK102 := A_ hbox; have GW102 := A_ ((d6_ : w.heap.size ≤ gb102)); have GE102 := A_ ((d6_ : w.heap.size ≤ gb102)); replace HB := A_ (below_step d1_ hb); have NB101_102 := A_ ((d109_ : gb101 ≠ gb102)); have NB102_101 := A_ ((d110_ : gb102 ≠ gb101)); replace BK101 := A_ (blk_below (g := gb101) (o := .cells #[.string a0_0, .slice A0_1 l0_1.length c0_1] 26 (0, 0)) (zb_ BK101.out) hb); clear hb hbox hg)); go_upto_region 1 with (first | ((with_reducible refine gate_dst (N := 2) rfl ?_); (try (refine gate_guard (by rfl) ?_; dsimp only)); refine zx_ (N := 2) #[.string a0_0, .slice A0_1 l0_1.length c0_1] 26 ?_; intro gb101 hg w4 hbox hb; have BK101 := A_ hbox; have GW101 := A_ ((d0_ : w.heap.size ≤ gb101)); have GE101 := A_ ((d0_ : w.heap.size ≤ gb101)); replace HB := A_ (below_step (zB_ HB.out) hb); clear hb hbox hg) | ((with_reducible refine gate_dst (N := 3) rfl ?_); (try (refine gate_guard (by rfl) ?_; dsimp only)); refine zx_ (N := 3) #[.string a1_0, .slice A1_1 l1_1.length c1_1] 26 ?_; intro gb102 hg w5 hbox hb; have BK102 := A_ hbox; have GW102 := A_ ((d6_ : w.heap.size ≤ gb102)); have GE102 := A_ ((d6_ : w.heap.size ≤ gb102)); replace HB := A_ (below_step d1_ hb); have NB101_102 := A_ ((d109_ : gb101 ≠ gb102)); have NB102_101 := A_ ((d110_ : gb102 ≠ gb101)); replace BK101 := A_ (blk_below (g := gb101) (o := .cells #[.string a0_0, .slice A0_1 l0_1.length c0_1] 26 (0, 0)) (zb_ BK101.out) hb); clear hb hbox hg)))
 (try simp only [Act.put, List.setIfInBounds_toArray, List.set_cons_zero, List.set_cons_succ])
 go_cut [19] (fun v19 wc => ∃ (kq : Nat) (x19_2 : Bool), v19 = .bool x19_2 ∧ Aside0 (laws_lzStream.j0 kq x19_2 a0_0 l0_1 a1_0 l1_1 = some r) ∧ Aside0 (kq ≤ k) ∧ Aside0 (wc.heap[gb101]? = some (.cells #[.string a0_0, (.slice A0_1 l0_1.length c0_1)] 26 (0, 0))) ∧ Aside0 (wc.heap[gb102]? = some (.cells #[.string a1_0, (.slice A1_1 l1_1.length c1_1)] 26 (0, 0))) ∧ Aside0 (Below w.heap.size w wc))
 case first =>
  have H := HC3.out; clear HC3
  by_cases c6 : a0_0.toList = a1_0.toList
  ·rw [if_pos c6] at H; have c6b0 : (a0_0.toList == a1_0.toList) = true := beq_iff_eq.mpr c6; have c6b1 : (a0_0.toList != a1_0.toList) = false := bne_eq_false_iff_eq.mpr c6; clear c6; (first | rw [c6b0] | (simp only [i64_w, i32_w]; rw [c6b0]) | skip); have H' := Aside0.mk H; clear H; have hnb7 := NB101_102.out; have hnc7 := NB102_101.out; have hcz8_0 : w5.cell? ⟨gb101, 0, none⟩ = some (.string a0_0) := (blk_cell BK101.out 0).trans rfl; have hcz8_1 : w5.cell? ⟨gb101, 1, none⟩ = some (.slice A0_1 l0_1.length c0_1) := (blk_cell BK101.out 1).trans rfl; have hfz8_0 := blk_frozen BK101.out 0; have hfz8_1 := blk_frozen BK101.out 1; have hcz9_0 : w5.cell? ⟨gb102, 0, none⟩ = some (.string a1_0) := (blk_cell BK102.out 0).trans rfl; have hcz9_1 : w5.cell? ⟨gb102, 1, none⟩ = some (.slice A1_1 l1_1.length c1_1) := (blk_cell BK102.out 1).trans rfl; have hfz9_0 := blk_frozen BK102.out 0; have hfz9_1 := blk_frozen BK102.out 1
   go_wp2
   repeat (go_quiet (fail); try go_wp2)
   go_meet
   case rel => exact ⟨_, (((l0_1.length : Int) != (l1_1.length : Int))), zs_, H', ⟨d2_⟩, ⟨d3_⟩, ⟨d56_⟩, ⟨d77_⟩⟩
  rw [if_neg c6] at H; have c6b0 : (a0_0.toList == a1_0.toList) = false := beq_eq_false_iff_ne.mpr c6; have c6b1 : (a0_0.toList != a1_0.toList) = true := bne_iff_ne.mpr c6; (first | rw [c6b0] | (simp only [i64_w, i32_w]; rw [c6b0]) | skip); have H' := Aside0.mk H; clear H; have hnb10 := NB101_102.out; have hnc10 := NB102_101.out; have hcz11_0 : w5.cell? ⟨gb101, 0, none⟩ = some (.string a0_0) := (blk_cell BK101.out 0).trans rfl; have hcz11_1 : w5.cell? ⟨gb101, 1, none⟩ = some (.slice A0_1 l0_1.length c0_1) := (blk_cell BK101.out 1).trans rfl; have hfz11_0 := blk_frozen BK101.out 0; have hfz11_1 := blk_frozen BK101.out 1; have hcz12_0 : w5.cell? ⟨gb102, 0, none⟩ = some (.string a1_0) := (blk_cell BK102.out 0).trans rfl; have hcz12_1 : w5.cell? ⟨gb102, 1, none⟩ = some (.slice A1_1 l1_1.length c1_1) := (blk_cell BK102.out 1).trans rfl; have hfz12_0 := blk_frozen BK102.out 0; have hfz12_1 := blk_frozen BK102.out 1
  go_wp2
  repeat (go_quiet (fail); try go_wp2)
  go_meet
  case rel => exact ⟨_, (true), zs_, H', ⟨d2_⟩, ⟨d3_⟩, ⟨d56_⟩, ⟨d77_⟩⟩
 case rest =>
  clear HC3
  try clear c1
  try clear p2
  try clear c6
  try clear c6b0
  try clear c6b1
  try clear c7
  try clear c10
  try clear hcz11_0
  try clear hcz11_1
  try clear hcz12_0
  try clear hcz12_1
  try clear hcz8_0
  try clear hcz8_1
  try clear hcz9_0
  try clear hcz9_1
  try clear hfz11_0
  try clear hfz11_1
  try clear hfz12_0
  try clear hfz12_1
  try clear hfz8_0
  try clear hfz8_1
  try clear hfz9_0
  try clear hfz9_1
  obtain ⟨kq, x19_2, rfl, HA, HJ2, BK101, BK102, HB⟩ := hcut
  cases kq with
  | zero => exact absurd HA.out (by simp [laws_lzStream.j0])
  | succ kj2 =>
   have H := HA.out; clear HA; simp only [laws_lzStream.j0] at H
   by_cases c13 : x19_2 = true
   ·subst c13; rw [if_pos rfl] at H; obtain rfl := Option.some.inj H
    go_wp2
    repeat (go_quiet (fail); try go_wp2)
    go_ret
    exact ⟨d4_, d77_⟩
   replace c13 := Bool.eq_false_iff.mpr c13; subst c13; rw [if_neg (show ¬ (false = true) by decide)] at H; have H' := Aside0.mk H; clear H
   go_wp2
   repeat (go_quiet (fail); try go_wp2)
   go_loopg [5] kj2 (fun kq v5 w' => ∃ (x5_2 : Int), v5 = .int .i64 x5_2 ∧ Aside0 (laws_lzStream.l0 kq x5_2 a0_0 l0_1 a1_0 l1_1 = some r) ∧ Aside0 (kq ≤ kj2) ∧ Aside0 (w'.heap[gb101]? = some (.cells #[.string a0_0, (.slice A0_1 l0_1.length c0_1)] 26 (0, 0))) ∧ Aside0 (w'.heap[gb102]? = some (.cells #[.string a1_0, (.slice A1_1 l1_1.length c1_1)] 26 (0, 0))) ∧ Aside0 (Below w.heap.size w w'))
   case atStart => exact ⟨(0), zs_, H', ⟨Nat.le_refl _⟩, ⟨d3_⟩, ⟨d56_⟩, ⟨d77_⟩⟩
   case round =>
    clear H'; (try clear c1); (try clear p2); (try clear c6); (try clear c6b0); (try clear c6b1); (try clear c7); (try clear c10); (try clear c13); (try clear hcz11_0); (try clear hcz11_1); (try clear hcz12_0); (try clear hcz12_1); (try clear hcz8_0); (try clear hcz8_1); (try clear hcz9_0); (try clear hcz9_1); (try clear hfz11_0); (try clear hfz11_1); (try clear hfz12_0); (try clear hfz12_1); (try clear hfz8_0); (try clear hfz8_1); (try clear hfz9_0); (try clear hfz9_1); (try clear p2); obtain ⟨x5_2, rfl, HA, HK2, BK101, BK102, HB⟩ := hrel
    cases gk with
    | zero => exact absurd HA.out (by simp [laws_lzStream.l0])
    | succ k2 =>
     have H := HA.out; clear HA; simp only [laws_lzStream.l0] at H
     by_cases c14 : x5_2 < (l0_1.length : Int)
     ·rw [if_pos c14] at H; have c14b0 : decide (x5_2 < (l0_1.length : Int)) = true := decide_eq_true c14; clear c14
      by_cases c15 : 0 ≤ x5_2
      ·rw [if_pos c15] at H; have c15b0 : decide (0 ≤ x5_2) = true := decide_eq_true c15; clear c15
       by_cases c16 : x5_2 < (l1_1.length : Int)
       ·rw [if_pos c16] at H; have c16b0 : decide (x5_2 < (l1_1.length : Int)) = true := decide_eq_true c16; clear c16
        by_cases c17 : (!(((rd_T109 l0_1 x5_2).f0) == ((rd_T109 l1_1 x5_2).f0)) || (!((((rd_T109 l0_1 x5_2).f1).toList) == (((rd_T109 l1_1 x5_2).f1).toList)))) = true
        ·rw [if_pos c17] at H; have c17b0 : (!(((rd_T109 l0_1 x5_2).f0) == ((rd_T109 l1_1 x5_2).f0)) || (!((((rd_T109 l0_1 x5_2).f1).toList) == (((rd_T109 l1_1 x5_2).f1).toList)))) = true := c17; clear c17; obtain rfl := Option.some.inj H; have hnb18 := NB101_102.out; have hnc18 := NB102_101.out; have hcz19_0 : wr.cell? ⟨gb101, 0, none⟩ = some (.string a0_0) := (blk_cell BK101.out 0).trans rfl; have hcz19_1 : wr.cell? ⟨gb101, 1, none⟩ = some (.slice A0_1 l0_1.length c0_1) := (blk_cell BK101.out 1).trans rfl; have hfz19_0 := blk_frozen BK101.out 0; have hfz19_1 := blk_frozen BK101.out 1; have p103 : 0 ≤ (x5_2 : Int) := of_decide_eq_true d11_; have q103 : x5_2 < (l0_1.length : Int) := of_decide_eq_true d11_; obtain ⟨ad103, e103, hx103_0, hx103_1⟩ := at_T109 HR0_1.out x5_2 p103 q103
         cases e103
         replace hx103_0 := (HB.out.cell (World.block_lt_of_cell? w _ hx103_0)).trans hx103_0; replace hx103_1 := (HB.out.cell (World.block_lt_of_cell? w _ hx103_1)).trans hx103_1; replace p103 := eq_true p103; replace q103 := eq_true q103; have hcz20_0 : wr.cell? ⟨gb102, 0, none⟩ = some (.string a1_0) := (blk_cell BK102.out 0).trans rfl; have hcz20_1 : wr.cell? ⟨gb102, 1, none⟩ = some (.slice A1_1 l1_1.length c1_1) := (blk_cell BK102.out 1).trans rfl; have hfz20_0 := blk_frozen BK102.out 0; have hfz20_1 := blk_frozen BK102.out 1; have p104 : 0 ≤ (x5_2 : Int) := of_decide_eq_true d11_; have q104 : x5_2 < (l1_1.length : Int) := of_decide_eq_true d11_; obtain ⟨ad104, e104, hx104_0, hx104_1⟩ := at_T109 HR1_1.out x5_2 p104 q104
         cases e104
         replace hx104_0 := (HB.out.cell (World.block_lt_of_cell? w _ hx104_0)).trans hx104_0; replace hx104_1 := (HB.out.cell (World.block_lt_of_cell? w _ hx104_1)).trans hx104_1; replace p104 := eq_true p104; replace q104 := eq_true q104
         go_wp2
         repeat (go_quiet (fail); try go_wp2)
         go_ret
         exact ⟨d4_, d77_⟩
        rw [if_neg c17] at H
        have c17b0 : (!(((rd_T109 l0_1 x5_2).f0) == ((rd_T109 l1_1 x5_2).f0)) || (!((((rd_T109 l0_1 x5_2).f1).toList) == (((rd_T109 l1_1 x5_2).f1).toList)))) = false := by simpa using c17
        clear c17; have H' := Aside0.mk H; clear H; have hnb21 := NB101_102.out; have hnc21 := NB102_101.out; have hcz22_0 : wr.cell? ⟨gb101, 0, none⟩ = some (.string a0_0) := (blk_cell BK101.out 0).trans rfl; have hcz22_1 : wr.cell? ⟨gb101, 1, none⟩ = some (.slice A0_1 l0_1.length c0_1) := (blk_cell BK101.out 1).trans rfl; have hfz22_0 := blk_frozen BK101.out 0; have hfz22_1 := blk_frozen BK101.out 1; have p103 : 0 ≤ (x5_2 : Int) := of_decide_eq_true d11_; have q103 : x5_2 < (l0_1.length : Int) := of_decide_eq_true d11_; obtain ⟨ad103, e103, hx103_0, hx103_1⟩ := at_T109 HR0_1.out x5_2 p103 q103
        cases e103
        replace hx103_0 := (HB.out.cell (World.block_lt_of_cell? w _ hx103_0)).trans hx103_0; replace hx103_1 := (HB.out.cell (World.block_lt_of_cell? w _ hx103_1)).trans hx103_1; replace p103 := eq_true p103; replace q103 := eq_true q103; have hcz23_0 : wr.cell? ⟨gb102, 0, none⟩ = some (.string a1_0) := (blk_cell BK102.out 0).trans rfl; have hcz23_1 : wr.cell? ⟨gb102, 1, none⟩ = some (.slice A1_1 l1_1.length c1_1) := (blk_cell BK102.out 1).trans rfl; have hfz23_0 := blk_frozen BK102.out 0; have hfz23_1 := blk_frozen BK102.out 1; have p104 : 0 ≤ (x5_2 : Int) := of_decide_eq_true d11_; have q104 : x5_2 < (l1_1.length : Int) := of_decide_eq_true d11_; obtain ⟨ad104, e104, hx104_0, hx104_1⟩ := at_T109 HR1_1.out x5_2 p104 q104
        cases e104
        replace hx104_0 := (HB.out.cell (World.block_lt_of_cell? w _ hx104_0)).trans hx104_0; replace hx104_1 := (HB.out.cell (World.block_lt_of_cell? w _ hx104_1)).trans hx104_1; replace p104 := eq_true p104; replace q104 := eq_true q104
        go_wp2
        repeat (go_quiet (fail); try go_wp2)
        go_roundg k2
        case measure => have := HJ2.out; have := HK2.out; omega
        case rel => exact ⟨(wrap64 (x5_2 + 1)), zs_, H', ⟨by have := HJ2.out; have := HK2.out; omega⟩, ⟨d3_⟩, ⟨d56_⟩, ⟨d77_⟩⟩
       rw [if_neg c16] at H; exact absurd H (by simp)
      rw [if_neg c15] at H; exact absurd H (by simp)
     rw [if_neg c14] at H; have c14b0 : decide (x5_2 < (l0_1.length : Int)) = false := decide_eq_false c14; clear c14; obtain rfl := Option.some.inj H; have hnb24 := NB101_102.out; have hnc24 := NB102_101.out; have hcz25_0 : wr.cell? ⟨gb101, 0, none⟩ = some (.string a0_0) := (blk_cell BK101.out 0).trans rfl; have hcz25_1 : wr.cell? ⟨gb101, 1, none⟩ = some (.slice A0_1 l0_1.length c0_1) := (blk_cell BK101.out 1).trans rfl; have hfz25_0 := blk_frozen BK101.out 0; have hfz25_1 := blk_frozen BK101.out 1
     go_wp2
     repeat (go_quiet (fail); try go_wp2)
     go_ret
     exact ⟨d4_, d77_⟩
end
end Go.Proofs.YtfjbjiklohjodaaGreatDoor.Q
