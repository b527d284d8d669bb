/- The law FnPutTwice, walked by hand over what it calls. -/
import Derived.Test.YtfjbjiklohjodaaGreatDoorByTwice5
import Derived.Deep.CutBlock
namespace Go.Proofs.YtfjbjiklohjodaaGreatDoor.Z
open Go Go.RowKit Go.Proofs.YtfjbjiklohjodaaGreatDoorW.PrintWords Go.Proofs.YtfjbjiklohjodaaGreatDoorW.PrintLast Go.Proofs.YtfjbjiklohjodaaGreatDoorW.PrintMore Go.Proofs.YtfjbjiklohjodaaGreatDoor.Q
set_option linter.unusedVariables false
set_option linter.unusedSimpArgs false
attribute [local go_sem ↓] Go.wp_at_zero Go.wp_at_succ
set_option maxRecDepth 100000 in
set_option maxHeartbeats 4000000 in
theorem law_FnPutTwice (A : Option Addr) (n c : Nat) (bs : List Int) (A0 : Option Addr) (n0 c0 : Nat) (bs0 : List Int) (w : World) (hC : Kd.C (Kd.int .u8) w A n bs) (hl : n ≤ c) (hb : ∀ b ∈ bs, (0 : Int) ≤ b ∧ b ≤ 255) (hC0 : Kd.C (Kd.int .u8) w A0 n0 bs0) (hl0 : n0 ≤ c0) (hb0 : ∀ b ∈ bs0, (0 : Int) ≤ b ∧ b ≤ 255) (hV : VarsIn w) :
    Calls Tryz.prog 7 #[.slice A n c, .slice A0 n0 c0] w fun e w' => e = .returned (.bool true) ∧ Below w.heap.size w w' := by
  have HB := Aside0.mk (Below.refl w.heap.size w)
  have HV := Aside0.mk hV
  have HC := Aside0.mk hC
  clear hV hC
  by_cases h0 : n > 1048576
  · have t0 : decide ((n : Int) > 1048576) = true := decide_eq_true (by omega)
    have t1 : decide ((1048576 : Int) < (n : Int)) = true := decide_eq_true (by omega)
    go_enter Tryz.func7, Tryz.ntmps7
    go_wp2
    refine bodyPost_ret (v := (.bool true)) (by simp [results, Tryz.results7, go_sem, zEn, *]) rfl ⟨rfl, HB.out⟩
  have t0 : decide ((n : Int) > 1048576) = false := decide_eq_false (by omega)
  have t1 : decide ((1048576 : Int) < (n : Int)) = false := decide_eq_false (by omega)
  have hm0 : n0 ≤ 9223372036854775807 := by have := hC0.2.1; have := hC0.1; omega
  clear hC0
  by_cases h1 : n0 > 1048576
  · have t2 : decide ((n0 : Int) > 1048576) = true := decide_eq_true (by omega)
    have t3 : decide ((1048576 : Int) < (n0 : Int)) = true := decide_eq_true (by omega)
    go_enter Tryz.func7, Tryz.ntmps7
    go_wp2
    refine bodyPost_ret (v := (.bool true)) (by simp [results, Tryz.results7, go_sem, zEn, *]) rfl ⟨rfl, HB.out⟩
  have t2 : decide ((n0 : Int) > 1048576) = false := decide_eq_false (by omega)
  have t3 : decide ((1048576 : Int) < (n0 : Int)) = false := decide_eq_false (by omega)
  go_enter Tryz.func7, Tryz.ntmps7
  go_wp2_with fail; refine (draw_put A n c bs _ HC.out hb hl).mono ?_; rintro e1 w1 ⟨A1, c1, L, l, A2, c2, P, a, x, out, rfl, hL, hP, hm, hLn, hln, hPn, ha, hx, hb1⟩
  have hx1 := hb1
  replace HB := Aside0.mk (below_step HB.out hx1)
  replace HV := Aside0.mk (HV.out.next hx1)
  clear hx1 hb1
  obtain ⟨⟨L1, l1, P1, ok⟩, hR⟩ : ∃ R, putF L l P a x out = R := ⟨_, rfl⟩
  obtain ⟨hL1n, hl1n, hP1n⟩ := putF_len hR
  have HR := Aside0.mk hR
  clear hR
  have kn_0 : (w1.alloc (.cells #[.string l, .slice A2 P.length c2] 26 (0, 0))).cell? ⟨w1.heap.size, 0, none⟩ = some (.string l) := (blk_cell (heap_alloc_new w1 _) 0).trans rfl
  have kn_1 : (w1.alloc (.cells #[.string l, .slice A2 P.length c2] 26 (0, 0))).cell? ⟨w1.heap.size, 1, none⟩ = some (.slice A2 P.length c2) := (blk_cell (heap_alloc_new w1 _) 1).trans rfl
  go_wp2_with fail; refine (spec_put (hL.below (below_alloc (Below.refl _ _) _)) (hP.below (below_alloc (Below.refl _ _) _)) (by omega) (by omega) (by omega) HR.out).mono ?_; rintro e2 w2 ⟨A3, c3, A4, c4, rfl, hL3, hP3, hb2⟩
  have hx2 : Below w1.heap.size w1 w2 := below_step (below_alloc (Below.refl _ _) _) hb2
  obtain ⟨g1, hg1⟩ : ∃ g, g = w1.heap.size := ⟨_, rfl⟩
  have bg1 : Aside0 (w2.heap[g1]? = some (.cells #[.string l, .slice A2 P.length c2] 26 (0, 0))) := ⟨by rw [hg1]; exact (hb2.block _ (by show w1.heap.size < (w1.heap.push _).size; simp)).trans (heap_alloc_new w1 _)⟩
  rw [← hg1]
  clear hg1
  clear kn_0 kn_1
  replace hL := hL.below hx2
  replace hP := hP.below hx2
  replace HB := Aside0.mk (below_step HB.out hx2)
  replace HV := Aside0.mk (HV.out.next hx2)
  clear hx2 hb2
  have k1_0 : (w2.alloc (.cells #[.string l1, .slice A4 P1.length c4] 26 (0, 0))).cell? ⟨g1, 0, none⟩ = some (.string l) := (blk_cell (blk_alloc bg1.out _) 0).trans rfl
  have k1_1 : (w2.alloc (.cells #[.string l1, .slice A4 P1.length c4] 26 (0, 0))).cell? ⟨g1, 1, none⟩ = some (.slice A2 P.length c2) := (blk_cell (blk_alloc bg1.out _) 1).trans rfl
  have kn_0 : (w2.alloc (.cells #[.string l1, .slice A4 P1.length c4] 26 (0, 0))).cell? ⟨w2.heap.size, 0, none⟩ = some (.string l1) := (blk_cell (heap_alloc_new w2 _) 0).trans rfl
  have kn_1 : (w2.alloc (.cells #[.string l1, .slice A4 P1.length c4] 26 (0, 0))).cell? ⟨w2.heap.size, 1, none⟩ = some (.slice A4 P1.length c4) := (blk_cell (heap_alloc_new w2 _) 1).trans rfl
  go_wp2_with fail; refine (impl_put (hL.below (below_alloc (Below.refl _ _) _)) (hP.below (below_alloc (Below.refl _ _) _)) (by omega) (by omega) (by omega) (by omega) HR.out (HV.out.next (below_alloc (Below.refl _ _) _))).mono ?_; rintro e3 w3 ⟨A5, c5, A6, c6, rfl, hL5, hP5, hb3⟩
  have hx3 : Below w2.heap.size w2 w3 := below_step (below_alloc (Below.refl _ _) _) hb3
  obtain ⟨g2, hg2⟩ : ∃ g, g = w2.heap.size := ⟨_, rfl⟩
  have bg2 : Aside0 (w3.heap[g2]? = some (.cells #[.string l1, .slice A4 P1.length c4] 26 (0, 0))) := ⟨by rw [hg2]; exact (hb3.block _ (by show w2.heap.size < (w2.heap.push _).size; simp)).trans (heap_alloc_new w2 _)⟩
  rw [← hg2]
  clear hg2
  clear k1_0 k1_1 kn_0 kn_1
  replace hL := hL.below hx3
  replace hP := hP.below hx3
  replace hL3 := hL3.below hx3
  replace hP3 := hP3.below hx3
  replace bg1 := Aside0.mk ((hx3.block g1 (blk_lt bg1.out)).trans bg1.out)
  replace HB := Aside0.mk (below_step HB.out hx3)
  replace HV := Aside0.mk (HV.out.next hx3)
  clear hx3 hb3
  have hne : (ok != ok) = false := by simp
  have heq : (ok == ok) = true := by simp
  have k1_0 : (w3.alloc (.cells #[.string l1, .slice A6 P1.length c6] 26 (0, 0))).cell? ⟨g1, 0, none⟩ = some (.string l) := (blk_cell (blk_alloc bg1.out _) 0).trans rfl
  have k1_1 : (w3.alloc (.cells #[.string l1, .slice A6 P1.length c6] 26 (0, 0))).cell? ⟨g1, 1, none⟩ = some (.slice A2 P.length c2) := (blk_cell (blk_alloc bg1.out _) 1).trans rfl
  have k2_0 : (w3.alloc (.cells #[.string l1, .slice A6 P1.length c6] 26 (0, 0))).cell? ⟨g2, 0, none⟩ = some (.string l1) := (blk_cell (blk_alloc bg2.out _) 0).trans rfl
  have k2_1 : (w3.alloc (.cells #[.string l1, .slice A6 P1.length c6] 26 (0, 0))).cell? ⟨g2, 1, none⟩ = some (.slice A4 P1.length c4) := (blk_cell (blk_alloc bg2.out _) 1).trans rfl
  have kn_0 : (w3.alloc (.cells #[.string l1, .slice A6 P1.length c6] 26 (0, 0))).cell? ⟨w3.heap.size, 0, none⟩ = some (.string l1) := (blk_cell (heap_alloc_new w3 _) 0).trans rfl
  have kn_1 : (w3.alloc (.cells #[.string l1, .slice A6 P1.length c6] 26 (0, 0))).cell? ⟨w3.heap.size, 1, none⟩ = some (.slice A6 P1.length c6) := (blk_cell (heap_alloc_new w3 _) 1).trans rfl
  go_wp2_with fail; refine (lz_S l1 (by omega) (hP5.below (below_alloc (Below.refl _ _) _)) (hP3.below (below_alloc (Below.refl _ _) _))).mono ?_; rintro e4 w4 ⟨rfl, hb4⟩
  have hx4 : Below w3.heap.size w3 w4 := below_step (below_alloc (Below.refl _ _) _) hb4
  obtain ⟨g3, hg3⟩ : ∃ g, g = w3.heap.size := ⟨_, rfl⟩
  have bg3 : Aside0 (w4.heap[g3]? = some (.cells #[.string l1, .slice A6 P1.length c6] 26 (0, 0))) := ⟨by rw [hg3]; exact (hb4.block _ (by show w3.heap.size < (w3.heap.push _).size; simp)).trans (heap_alloc_new w3 _)⟩
  rw [← hg3]
  clear hg3
  clear k1_0 k1_1 k2_0 k2_1 kn_0 kn_1
  replace hL := hL.below hx4
  replace hP := hP.below hx4
  replace hL3 := hL3.below hx4
  replace hP3 := hP3.below hx4
  replace hL5 := hL5.below hx4
  replace hP5 := hP5.below hx4
  replace bg1 := Aside0.mk ((hx4.block g1 (blk_lt bg1.out)).trans bg1.out)
  replace bg2 := Aside0.mk ((hx4.block g2 (blk_lt bg2.out)).trans bg2.out)
  replace HB := Aside0.mk (below_step HB.out hx4)
  replace HV := Aside0.mk (HV.out.next hx4)
  clear hx4 hb4
  have k1_0 : w4.cell? ⟨g1, 0, none⟩ = some (.string l) := (blk_cell bg1.out 0).trans rfl
  have k1_1 : w4.cell? ⟨g1, 1, none⟩ = some (.slice A2 P.length c2) := (blk_cell bg1.out 1).trans rfl
  have k2_0 : w4.cell? ⟨g2, 0, none⟩ = some (.string l1) := (blk_cell bg2.out 0).trans rfl
  have k2_1 : w4.cell? ⟨g2, 1, none⟩ = some (.slice A4 P1.length c4) := (blk_cell bg2.out 1).trans rfl
  have k3_0 : w4.cell? ⟨g3, 0, none⟩ = some (.string l1) := (blk_cell bg3.out 0).trans rfl
  have k3_1 : w4.cell? ⟨g3, 1, none⟩ = some (.slice A6 P1.length c6) := (blk_cell bg3.out 1).trans rfl
  go_wp2_with fail; refine (lz_M (by omega) hL5 hL3).mono ?_; rintro e5 w5 ⟨rfl, hb5⟩
  have hx5 := hb5
  clear k1_0 k1_1 k2_0 k2_1 k3_0 k3_1
  replace hL := hL.below hx5
  replace hP := hP.below hx5
  replace hL3 := hL3.below hx5
  replace hP3 := hP3.below hx5
  replace hL5 := hL5.below hx5
  replace hP5 := hP5.below hx5
  replace bg1 := Aside0.mk ((hx5.block g1 (blk_lt bg1.out)).trans bg1.out)
  replace bg2 := Aside0.mk ((hx5.block g2 (blk_lt bg2.out)).trans bg2.out)
  replace bg3 := Aside0.mk ((hx5.block g3 (blk_lt bg3.out)).trans bg3.out)
  replace HB := Aside0.mk (below_step HB.out hx5)
  replace HV := Aside0.mk (HV.out.next hx5)
  clear hx5 hb5
  cases ok with
  | false =>
    have k1_0 : w5.cell? ⟨g1, 0, none⟩ = some (.string l) := (blk_cell bg1.out 0).trans rfl
    have k1_1 : w5.cell? ⟨g1, 1, none⟩ = some (.slice A2 P.length c2) := (blk_cell bg1.out 1).trans rfl
    have k2_0 : w5.cell? ⟨g2, 0, none⟩ = some (.string l1) := (blk_cell bg2.out 0).trans rfl
    have k2_1 : w5.cell? ⟨g2, 1, none⟩ = some (.slice A4 P1.length c4) := (blk_cell bg2.out 1).trans rfl
    have k3_0 : w5.cell? ⟨g3, 0, none⟩ = some (.string l1) := (blk_cell bg3.out 0).trans rfl
    have k3_1 : w5.cell? ⟨g3, 1, none⟩ = some (.slice A6 P1.length c6) := (blk_cell bg3.out 1).trans rfl
    go_wp2_with fail; refine (lz_S l1 (by omega) hP5 hP3).mono ?_; rintro e6 w6 ⟨rfl, hb6⟩
    have hx6 := hb6
    clear k1_0 k1_1 k2_0 k2_1 k3_0 k3_1
    replace hL := hL.below hx6
    replace hP := hP.below hx6
    replace hL3 := hL3.below hx6
    replace hP3 := hP3.below hx6
    replace hL5 := hL5.below hx6
    replace hP5 := hP5.below hx6
    replace bg1 := Aside0.mk ((hx6.block g1 (blk_lt bg1.out)).trans bg1.out)
    replace bg2 := Aside0.mk ((hx6.block g2 (blk_lt bg2.out)).trans bg2.out)
    replace bg3 := Aside0.mk ((hx6.block g3 (blk_lt bg3.out)).trans bg3.out)
    replace HB := Aside0.mk (below_step HB.out hx6)
    replace HV := Aside0.mk (HV.out.next hx6)
    clear hx6 hb6
    have k1_0 : w6.cell? ⟨g1, 0, none⟩ = some (.string l) := (blk_cell bg1.out 0).trans rfl
    have k1_1 : w6.cell? ⟨g1, 1, none⟩ = some (.slice A2 P.length c2) := (blk_cell bg1.out 1).trans rfl
    have k2_0 : w6.cell? ⟨g2, 0, none⟩ = some (.string l1) := (blk_cell bg2.out 0).trans rfl
    have k2_1 : w6.cell? ⟨g2, 1, none⟩ = some (.slice A4 P1.length c4) := (blk_cell bg2.out 1).trans rfl
    have k3_0 : w6.cell? ⟨g3, 0, none⟩ = some (.string l1) := (blk_cell bg3.out 0).trans rfl
    have k3_1 : w6.cell? ⟨g3, 1, none⟩ = some (.slice A6 P1.length c6) := (blk_cell bg3.out 1).trans rfl
    go_wp2_with fail; refine (lz_M (by omega) hL5 hL3).mono ?_; rintro e7 w7 ⟨rfl, hb7⟩
    have hx7 := hb7
    clear k1_0 k1_1 k2_0 k2_1 k3_0 k3_1
    replace hL := hL.below hx7
    replace hP := hP.below hx7
    replace hL3 := hL3.below hx7
    replace hP3 := hP3.below hx7
    replace hL5 := hL5.below hx7
    replace hP5 := hP5.below hx7
    replace bg1 := Aside0.mk ((hx7.block g1 (blk_lt bg1.out)).trans bg1.out)
    replace bg2 := Aside0.mk ((hx7.block g2 (blk_lt bg2.out)).trans bg2.out)
    replace bg3 := Aside0.mk ((hx7.block g3 (blk_lt bg3.out)).trans bg3.out)
    replace HB := Aside0.mk (below_step HB.out hx7)
    replace HV := Aside0.mk (HV.out.next hx7)
    clear hx7 hb7
    go_wp2
    refine bodyPost_ret (v := (.bool true)) (by simp [results, Tryz.results7, go_sem, zEn, *]) rfl ⟨rfl, HB.out⟩
  | true =>
    obtain ⟨j, hj⟩ : ∃ j, n0 % (x.size + 1) = j := ⟨_, rfl⟩
    have hj2 : j < x.size + 1 := by rw [← hj]; exact Nat.mod_lt _ (by omega)
    have hr6 : Int.tmod (n0 : Int) ((x.size : Int) + 1) = (j : Int) := by rw [Int.tmod_eq_emod_of_nonneg (by omega), ← hj]; exact (Int.natCast_emod n0 (x.size + 1)).symm
    clear hj
    have hw1 : IntKind.i64.wrap ((x.size : Int) + 1) = (x.size : Int) + 1 := IntWalk.i64_in _ (by omega)
    have hz : ((x.size : Int) + 1 == 0) = false := beq_eq_false_iff_ne.2 (by omega)
    have hz2 : ¬ ((x.size : Int) + 1 = 0) := by omega
    have hz3 : decide ((x.size : Int) + 1 = 0) = false := decide_eq_false hz2
    have hr7 : (n0 : Int) % ((x.size : Int) + 1) = (j : Int) := by rw [← hr6, Int.tmod_eq_emod_of_nonneg (by omega)]
    have hw9 : IntKind.i64.wrap (j : Int) = (j : Int) := IntWalk.i64_in _ (by omega)
    have hjx : j ≤ x.size := by omega
    have hjx2 : (j : Int) ≤ (x.size : Int) := by omega
    have hxa : (x.extract 0 j).size ≤ 1000 := by rw [ByteArray.size_extract]; omega
    have hxb : (x.extract j x.size).size ≤ 1000 := by rw [ByteArray.size_extract]; omega
    obtain ⟨ha8, ha9⟩ := (putF_case HR.out).2.2.2
    have hw5 : IntKind.i64.wrap (a + (j : Int)) = a + (j : Int) := IntWalk.i64_in _ (by omega)
    obtain ⟨hU, hU1, hU2⟩ := putF_again HR.out hjx
    have HU := Aside0.mk hU
    have HU1 := Aside0.mk hU1
    have HU2 := Aside0.mk hU2
    clear hU hU1 hU2
    have k1_0 : w5.cell? ⟨g1, 0, none⟩ = some (.string l) := (blk_cell bg1.out 0).trans rfl
    have k1_1 : w5.cell? ⟨g1, 1, none⟩ = some (.slice A2 P.length c2) := (blk_cell bg1.out 1).trans rfl
    have k2_0 : w5.cell? ⟨g2, 0, none⟩ = some (.string l1) := (blk_cell bg2.out 0).trans rfl
    have k2_1 : w5.cell? ⟨g2, 1, none⟩ = some (.slice A4 P1.length c4) := (blk_cell bg2.out 1).trans rfl
    have k3_0 : w5.cell? ⟨g3, 0, none⟩ = some (.string l1) := (blk_cell bg3.out 0).trans rfl
    have k3_1 : w5.cell? ⟨g3, 1, none⟩ = some (.slice A6 P1.length c6) := (blk_cell bg3.out 1).trans rfl
    go_wp2_with fail; refine (impl_put hL5 hP5 (by omega) (by omega) (by omega) (by omega) HU.out HV.out).mono ?_; rintro e6 w6 ⟨A7, c7, A8, c8, rfl, hL7, hP7, hb6⟩
    have hx6 := hb6
    clear k1_0 k1_1 k2_0 k2_1 k3_0 k3_1
    replace hL := hL.below hx6
    replace hP := hP.below hx6
    replace hL3 := hL3.below hx6
    replace hP3 := hP3.below hx6
    replace hL5 := hL5.below hx6
    replace hP5 := hP5.below hx6
    replace bg1 := Aside0.mk ((hx6.block g1 (blk_lt bg1.out)).trans bg1.out)
    replace bg2 := Aside0.mk ((hx6.block g2 (blk_lt bg2.out)).trans bg2.out)
    replace bg3 := Aside0.mk ((hx6.block g3 (blk_lt bg3.out)).trans bg3.out)
    replace HB := Aside0.mk (below_step HB.out hx6)
    replace HV := Aside0.mk (HV.out.next hx6)
    clear hx6 hb6
    have k1_0 : (w6.alloc (.cells #[.string l1, .slice A8 P1.length c8] 26 (0, 0))).cell? ⟨g1, 0, none⟩ = some (.string l) := (blk_cell (blk_alloc bg1.out _) 0).trans rfl
    have k1_1 : (w6.alloc (.cells #[.string l1, .slice A8 P1.length c8] 26 (0, 0))).cell? ⟨g1, 1, none⟩ = some (.slice A2 P.length c2) := (blk_cell (blk_alloc bg1.out _) 1).trans rfl
    have k2_0 : (w6.alloc (.cells #[.string l1, .slice A8 P1.length c8] 26 (0, 0))).cell? ⟨g2, 0, none⟩ = some (.string l1) := (blk_cell (blk_alloc bg2.out _) 0).trans rfl
    have k2_1 : (w6.alloc (.cells #[.string l1, .slice A8 P1.length c8] 26 (0, 0))).cell? ⟨g2, 1, none⟩ = some (.slice A4 P1.length c4) := (blk_cell (blk_alloc bg2.out _) 1).trans rfl
    have k3_0 : (w6.alloc (.cells #[.string l1, .slice A8 P1.length c8] 26 (0, 0))).cell? ⟨g3, 0, none⟩ = some (.string l1) := (blk_cell (blk_alloc bg3.out _) 0).trans rfl
    have k3_1 : (w6.alloc (.cells #[.string l1, .slice A8 P1.length c8] 26 (0, 0))).cell? ⟨g3, 1, none⟩ = some (.slice A6 P1.length c6) := (blk_cell (blk_alloc bg3.out _) 1).trans rfl
    have kn_0 : (w6.alloc (.cells #[.string l1, .slice A8 P1.length c8] 26 (0, 0))).cell? ⟨w6.heap.size, 0, none⟩ = some (.string l1) := (blk_cell (heap_alloc_new w6 _) 0).trans rfl
    have kn_1 : (w6.alloc (.cells #[.string l1, .slice A8 P1.length c8] 26 (0, 0))).cell? ⟨w6.heap.size, 1, none⟩ = some (.slice A8 P1.length c8) := (blk_cell (heap_alloc_new w6 _) 1).trans rfl
    go_upto_region 10 with (fail)
    clear k1_0 k1_1 k2_0 k2_1 k3_0 k3_1 kn_0 kn_1
    obtain ⟨wf1, hwf⟩ : ∃ v, v = (w6.alloc (.cells #[.string l1, .slice A8 P1.length c8] 26 (0, 0))) := ⟨_, rfl⟩
    rw [← hwf]
    obtain ⟨g4, hg_⟩ : ∃ g, g = w6.heap.size := ⟨_, rfl⟩
    rw [← hg_]
    have hx_ : Below w6.heap.size w6 wf1 := by rw [hwf]; exact below_alloc (Below.refl _ _) _
    have bg4 : Aside0 (wf1.heap[g4]? = some (.cells #[.string l1, .slice A8 P1.length c8] 26 (0, 0))) := ⟨by rw [hwf, hg_]; exact heap_alloc_new w6 _⟩
    replace hL := hL.below hx_
    replace hP := hP.below hx_
    replace hL3 := hL3.below hx_
    replace hP3 := hP3.below hx_
    replace hL5 := hL5.below hx_
    replace hP5 := hP5.below hx_
    replace hL7 := hL7.below hx_
    replace hP7 := hP7.below hx_
    replace bg1 := Aside0.mk ((hx_.block g1 (blk_lt bg1.out)).trans bg1.out)
    replace bg2 := Aside0.mk ((hx_.block g2 (blk_lt bg2.out)).trans bg2.out)
    replace bg3 := Aside0.mk ((hx_.block g3 (blk_lt bg3.out)).trans bg3.out)
    replace HB := Aside0.mk (below_step HB.out hx_)
    replace HV := Aside0.mk (HV.out.next hx_)
    clear hx_ hwf hg_
    have k1_0 : wf1.cell? ⟨g1, 0, none⟩ = some (.string l) := (blk_cell bg1.out 0).trans rfl
    have k1_1 : wf1.cell? ⟨g1, 1, none⟩ = some (.slice A2 P.length c2) := (blk_cell bg1.out 1).trans rfl
    have k2_0 : wf1.cell? ⟨g2, 0, none⟩ = some (.string l1) := (blk_cell bg2.out 0).trans rfl
    have k2_1 : wf1.cell? ⟨g2, 1, none⟩ = some (.slice A4 P1.length c4) := (blk_cell bg2.out 1).trans rfl
    have k3_0 : wf1.cell? ⟨g3, 0, none⟩ = some (.string l1) := (blk_cell bg3.out 0).trans rfl
    have k3_1 : wf1.cell? ⟨g3, 1, none⟩ = some (.slice A6 P1.length c6) := (blk_cell bg3.out 1).trans rfl
    have k4_0 : wf1.cell? ⟨g4, 0, none⟩ = some (.string l1) := (blk_cell bg4.out 0).trans rfl
    have k4_1 : wf1.cell? ⟨g4, 1, none⟩ = some (.slice A8 P1.length c8) := (blk_cell bg4.out 1).trans rfl
    go_upto_region 10 with (fail)
    go_cut [20, 21, 22] (fun a_ b_ c_ wca => ∃ A_ c7_ A2_ c8_ g_, a_ = .slice A_ (L1).length c7_ ∧ b_ = .pointer (some ⟨g_, 0, none⟩) ∧ c_ = .bool true ∧ Aside0 (VP wca A_ c7_ (L1)) ∧ Aside0 (VT wca A2_ c8_ (P1)) ∧ Aside0 (wca.heap[g_]? = some (.cells #[.string l1, .slice A2_ (P1).length c8_] 26 (0, 0))) ∧ Aside0 (Below wf1.heap.size wf1 wca))
    case first =>
      refine lin_start (fun w' => w'.cell? ⟨g3, 0, none⟩ = some (.string l1) ∧ w'.cell? ⟨g3, 1, none⟩ = some (.slice A6 P1.length c6)) (true, [([], []), ([], []), ([], []), ([], []), ([], []), ([3, 4], [3, 4]), ([], []), ([0, 1, 2, 5, 6], [0, 1, 2, 5, 6]), ([7], [7]), ([8], [8]), ([8], [8]), ([8], [8]), ([], []), ([9, 7, 0, 1, 2, 3, 4, 5, 6, 7, 8, 9, 12], [9]), ([12, 10, 13, 0, 1, 2, 3, 4, 5, 6, 7, 8, 9, 10, 12, 13], [10, 12]), ([11, 14, 0, 1, 2, 3, 4, 5, 6, 7, 8, 9, 10, 11, 12, 13, 14], [11])]) [0, 1, 2, 3, 4, 5, 6, 7, 8, 9, 10, 11, 12, 13, 14, 15] (by kernel_rfl) (by kernel_rfl) (by kernel_rfl) ⟨by go_simp, by go_simp⟩ ?_
      repeat (first | (refine lin_take rfl rfl (by kernel_rfl) (fun _ _ _ h => h) (by rfl) (v := ?_) (a' := ?_) ?_ ?_ ?_; rotate_left 2; (rintro w' ⟨s0, s1⟩; go_simp; with_reducible rfl); (simp only [List.getElem_toArray, List.getElem_cons_zero, List.getElem_cons_succ, Act.put, List.setIfInBounds_toArray, List.set_cons_zero, List.set_cons_succ]; rfl)) | (refine lin_off rfl rfl (by kernel_rfl) (fun _ _ _ h => h) (by rfl) (a' := ?_) ?_ ?_; rotate_left 1; (simp only [List.getElem_toArray, List.getElem_cons_zero, List.getElem_cons_succ, Act.put, List.setIfInBounds_toArray, List.set_cons_zero, List.set_cons_succ]; rfl)))
      have hd0 : Below wf1.heap.size wf1 wf1.drew := below_drew (Below.refl _ _)
      refine lin_two (i := 7) (j := 12) (rest' := [7, 8, 9, 10, 11, 13, 14, 15]) rfl rfl rfl rfl (by kernel_rfl) rfl (fun hS K hK => ?cA10) (fun hS K hK => ?cB10)
      case cA10 =>
        refine step_call (by rfl) rfl rfl Tryz.func17 (by kernel_rfl) rfl (args := #[.slice A5 L1.length c5, vSt l1 A6 c6 P1, .int .i64 a, .string (x.extract 0 j), .bool out]) (by (try simp only [List.map_toArray, List.map_cons, List.map_nil]); first | done | rfl) ?_
        refine (impl_put (hL5.below hd0) (hP5.below hd0) (by omega) (by omega) (by omega) hxa HU1.out (HV.out.next hd0)).mono ?_
        rintro e wA ⟨A7, c7, A8, c8, rfl, hL7, hP7, hbA⟩
        have hbx : Below wf1.heap.size wf1 wA := below_step hd0 hbA
        have tg3 := (hbx.block g3 (blk_lt bg3.out)).trans bg3.out
        have ug3 := blk_lt tg3
        refine ⟨_, rfl, hK.out _ _ ⟨(blk_cell (tg3) 0).trans rfl, (blk_cell (tg3) 1).trans rfl⟩ ?_⟩
        refine lin_norm (a' := ?_) ?_ ?_; rotate_left 1; (simp only [List.getElem_toArray, List.getElem_cons_zero, List.getElem_cons_succ, Act.put, List.setIfInBounds_toArray, List.set_cons_zero, List.set_cons_succ]; rfl)
        repeat (first | (refine lin_take rfl rfl (by kernel_rfl) (fun _ _ _ h => h) (by rfl) (v := ?_) (a' := ?_) ?_ ?_ ?_; rotate_left 2; (rintro w' ⟨s0, s1⟩; go_simp; with_reducible rfl); (simp only [List.getElem_toArray, List.getElem_cons_zero, List.getElem_cons_succ, Act.put, List.setIfInBounds_toArray, List.set_cons_zero, List.set_cons_succ]; rfl)) | (refine lin_off rfl rfl (by kernel_rfl) (fun _ _ _ h => h) (by rfl) (a' := ?_) ?_ ?_; rotate_left 1; (simp only [List.getElem_toArray, List.getElem_cons_zero, List.getElem_cons_succ, Act.put, List.setIfInBounds_toArray, List.set_cons_zero, List.set_cons_succ]; rfl)))
        refine lin_event (v := .pointer (some ⟨wA.heap.size, 0, none⟩)) (w1 := wA.alloc (.cells #[.string ⟨#[]⟩, .slice none 0 0] 26 (0, 0))) (a' := ?_) rfl rfl (by kernel_rfl) (by rfl) (fun hS => ?_) (fun hS => ⟨(blk_cell (blk_alloc tg3 _) 0).trans rfl, (blk_cell (blk_alloc tg3 _) 1).trans rfl⟩) ?_ ?_; rotate_left 1; (focus (first | (go_simp; done) | (go_simp; rfl))); (focus (first | (simp only [List.getElem_toArray, List.getElem_cons_zero, List.getElem_cons_succ, Act.put, List.setIfInBounds_toArray, List.set_cons_zero, List.set_cons_succ]; done) | (simp only [List.getElem_toArray, List.getElem_cons_zero, List.getElem_cons_succ, Act.put, List.setIfInBounds_toArray, List.set_cons_zero, List.set_cons_succ]; rfl)))
        repeat (first | (refine lin_take rfl rfl (by kernel_rfl) (fun _ _ _ h => h) (by rfl) (v := ?_) (a' := ?_) ?_ ?_ ?_; rotate_left 2; (rintro w' ⟨s0, s1⟩; go_simp; with_reducible rfl); (simp only [List.getElem_toArray, List.getElem_cons_zero, List.getElem_cons_succ, Act.put, List.setIfInBounds_toArray, List.set_cons_zero, List.set_cons_succ]; rfl)) | (refine lin_off rfl rfl (by kernel_rfl) (fun _ _ _ h => h) (by rfl) (a' := ?_) ?_ ?_; rotate_left 1; (simp only [List.getElem_toArray, List.getElem_cons_zero, List.getElem_cons_succ, Act.put, List.setIfInBounds_toArray, List.set_cons_zero, List.set_cons_succ]; rfl)))
        have q0 : (wA.alloc (.cells #[.string ⟨#[]⟩, .slice none 0 0] 26 (0, 0))).cell? ⟨wA.heap.size, 0, none⟩ = some (.string ⟨#[]⟩) := (blk_cell (heap_alloc_new wA (.cells #[.string ⟨#[]⟩, .slice none 0 0] 26 (0, 0))) 0).trans rfl
        have q1 : (wA.alloc (.cells #[.string ⟨#[]⟩, .slice none 0 0] 26 (0, 0))).cell? ⟨wA.heap.size, 1, none⟩ = some (.slice none 0 0) := (blk_cell (heap_alloc_new wA (.cells #[.string ⟨#[]⟩, .slice none 0 0] 26 (0, 0))) 1).trans rfl
        have z0 := blk_frozen (heap_alloc_new wA (.cells #[.string ⟨#[]⟩, .slice none 0 0] 26 (0, 0))) 0
        have z1 := blk_frozen (heap_alloc_new wA (.cells #[.string ⟨#[]⟩, .slice none 0 0] 26 (0, 0))) 1
        have b1 := blk_set (heap_alloc_new wA (.cells #[.string ⟨#[]⟩, .slice none 0 0] 26 (0, 0))) 0 (.string l1)
        have b2 : (((wA.alloc (.cells #[.string ⟨#[]⟩, .slice none 0 0] 26 (0, 0))).setCell ⟨wA.heap.size, 0, none⟩ (.string l1)).setCell ⟨wA.heap.size, 1, none⟩ (.slice A8 (P1).length c8)).heap[wA.heap.size]? = some (.cells #[.string l1, .slice A8 (P1).length c8] 26 (0, 0)) := (blk_set b1 1 (.slice A8 (P1).length c8)).trans rfl
        have sg3 := setFar (setFar (blk_alloc tg3 (.cells #[.string ⟨#[]⟩, .slice none 0 0] 26 (0, 0))) wA.heap.size 0 (.string l1) (by omega)) wA.heap.size 1 (.slice A8 (P1).length c8) (by omega)
        refine lin_skip (w1 := (((wA.alloc (.cells #[.string ⟨#[]⟩, .slice none 0 0] 26 (0, 0))).setCell ⟨wA.heap.size, 0, none⟩ (.string l1)).setCell ⟨wA.heap.size, 1, none⟩ (.slice A8 (P1).length c8))) rfl rfl (by kernel_rfl) (by rfl) (fun _ => ?r7) (fun _ => ⟨(blk_cell (sg3) 0).trans rfl, (blk_cell (sg3) 1).trans rfl⟩) ?_
        case r7 => first | (go_simp; done) | (go_simp; rfl)
        repeat (first | (refine lin_take rfl rfl (by kernel_rfl) (fun _ _ _ h => h) (by rfl) (v := ?_) (a' := ?_) ?_ ?_ ?_; rotate_left 2; (rintro w' ⟨s0, s1⟩; go_simp; with_reducible rfl); (simp only [List.getElem_toArray, List.getElem_cons_zero, List.getElem_cons_succ, Act.put, List.setIfInBounds_toArray, List.set_cons_zero, List.set_cons_succ]; rfl)) | (refine lin_off rfl rfl (by kernel_rfl) (fun _ _ _ h => h) (by rfl) (a' := ?_) ?_ ?_; rotate_left 1; (simp only [List.getElem_toArray, List.getElem_cons_zero, List.getElem_cons_succ, Act.put, List.setIfInBounds_toArray, List.set_cons_zero, List.set_cons_succ]; rfl)))
        refine lin_done (by kernel_rfl) ?_
        have hby : Below wA.heap.size wA (((wA.alloc (.cells #[.string ⟨#[]⟩, .slice none 0 0] 26 (0, 0))).setCell ⟨wA.heap.size, 0, none⟩ (.string l1)).setCell ⟨wA.heap.size, 1, none⟩ (.slice A8 (P1).length c8)) := (by repeat (first | (with_reducible exact (Below.refl _ _)) | (with_reducible apply below_alloc) | (with_reducible apply pw_below_drewN) | (with_reducible apply below_drew1) | with_reducible refine below_set ?_ (by first | (with_reducible exact Nat.le_refl _) | (with_reducible assumption) | (simp; done) | omega | (simp; omega))))
        go_wp2
        go_meet
        case rel => exact ⟨A7, c7, A8, c8, wA.heap.size, rfl, rfl, rfl, ⟨hL7.below hby⟩, ⟨hP7.below hby⟩, ⟨b2⟩, ⟨below_step hbx hby⟩⟩
      case cB10 =>
        have hd1 : Below wf1.heap.size wf1 (wf1.drew.alloc (.cells #[.string ⟨#[]⟩, .slice none 0 0] 26 (0, 0))) := below_alloc hd0 _
        have vg3 := (hd1.block g3 (blk_lt bg3.out)).trans bg3.out
        refine step_value (by rfl) rfl (v := .pointer (some ⟨wf1.heap.size, 0, none⟩)) (w1 := (wf1.drew.alloc (.cells #[.string ⟨#[]⟩, .slice none 0 0] 26 (0, 0)))) ?rB10 (hK.out _ _ ⟨(blk_cell (vg3) 0).trans rfl, (blk_cell (vg3) 1).trans rfl⟩ ?_)
        case rB10 => first | (go_simp; done) | (go_simp; rfl)
        refine lin_norm (a' := ?_) ?_ ?_; rotate_left 1; (simp only [List.getElem_toArray, List.getElem_cons_zero, List.getElem_cons_succ, Act.put, List.setIfInBounds_toArray, List.set_cons_zero, List.set_cons_succ]; rfl)
        repeat (first | (refine lin_take rfl rfl (by kernel_rfl) (fun _ _ _ h => h) (by rfl) (v := ?_) (a' := ?_) ?_ ?_ ?_; rotate_left 2; (rintro w' ⟨s0, s1⟩; go_simp; with_reducible rfl); (simp only [List.getElem_toArray, List.getElem_cons_zero, List.getElem_cons_succ, Act.put, List.setIfInBounds_toArray, List.set_cons_zero, List.set_cons_succ]; rfl)) | (refine lin_off rfl rfl (by kernel_rfl) (fun _ _ _ h => h) (by rfl) (a' := ?_) ?_ ?_; rotate_left 1; (simp only [List.getElem_toArray, List.getElem_cons_zero, List.getElem_cons_succ, Act.put, List.setIfInBounds_toArray, List.set_cons_zero, List.set_cons_succ]; rfl)))
        refine lin_call rfl rfl rfl Tryz.func17 (by kernel_rfl) (by kernel_rfl) rfl (by rfl) (args := #[.slice A5 L1.length c5, vSt l1 A6 c6 P1, .int .i64 a, .string (x.extract 0 j), .bool out]) (by (try simp only [List.map_toArray, List.map_cons, List.map_nil]); first | done | rfl) (fun hS => ?_)
        have hge : wf1.drew.heap.size ≤ wf1.heap.size := Nat.le_refl _
        refine (impl_putS (fun k => True ∧ k ≠ wf1.heap.size) (Kd.V_alloc (Kd.V_elderB (Kd.V_drew hL5) wf1.heap.size hge) _) (Kd.V_alloc (Kd.V_elderB (Kd.V_drew hP5) wf1.heap.size hge) _) (by omega) (by omega) (by omega) hxa HU1.out (HV.out.next hd1)).mono ?_
        rintro e wA ⟨A7, c7, A8, c8, rfl, hL7, hP7, hbA⟩
        have hbx : Below wf1.heap.size wf1 wA := below_step hd1 hbA
        have hsz : (wf1.drew.alloc (.cells #[.string ⟨#[]⟩, .slice none 0 0] 26 (0, 0))).heap.size = wf1.heap.size + 1 := by show (wf1.drew.heap.push _).size = _; simp
        have bz : wA.heap[wf1.heap.size]? = some (.cells #[.string ⟨#[]⟩, .slice none 0 0] 26 (0, 0)) := (hbA.block _ (by rw [hsz]; exact Nat.lt_succ_self _)).trans (heap_alloc_new wf1.drew _)
        have hok : ∀ k, ((True ∧ k ≠ wf1.heap.size) ∨ (wf1.drew.alloc (.cells #[.string ⟨#[]⟩, .slice none 0 0] 26 (0, 0))).heap.size ≤ k) → k ≠ wf1.heap.size := by rw [hsz]; intro k hk; rcases hk with hk | hk; exact hk.2; omega
        have tg3 := (hbx.block g3 (blk_lt bg3.out)).trans bg3.out
        have ug3 := blk_lt bg3.out
        refine ⟨_, rfl, ⟨(blk_cell (tg3) 0).trans rfl, (blk_cell (tg3) 1).trans rfl⟩, ?_⟩
        refine lin_norm (a' := ?_) ?_ ?_; rotate_left 1; (simp only [List.getElem_toArray, List.getElem_cons_zero, List.getElem_cons_succ, Act.put, List.setIfInBounds_toArray, List.set_cons_zero, List.set_cons_succ]; rfl)
        repeat (first | (refine lin_take rfl rfl (by kernel_rfl) (fun _ _ _ h => h) (by rfl) (v := ?_) (a' := ?_) ?_ ?_ ?_; rotate_left 2; (rintro w' ⟨s0, s1⟩; go_simp; with_reducible rfl); (simp only [List.getElem_toArray, List.getElem_cons_zero, List.getElem_cons_succ, Act.put, List.setIfInBounds_toArray, List.set_cons_zero, List.set_cons_succ]; rfl)) | (refine lin_off rfl rfl (by kernel_rfl) (fun _ _ _ h => h) (by rfl) (a' := ?_) ?_ ?_; rotate_left 1; (simp only [List.getElem_toArray, List.getElem_cons_zero, List.getElem_cons_succ, Act.put, List.setIfInBounds_toArray, List.set_cons_zero, List.set_cons_succ]; rfl)))
        have q0 : wA.cell? ⟨wf1.heap.size, 0, none⟩ = some (.string ⟨#[]⟩) := (blk_cell bz 0).trans rfl
        have q1 : wA.cell? ⟨wf1.heap.size, 1, none⟩ = some (.slice none 0 0) := (blk_cell bz 1).trans rfl
        have z0 := blk_frozen bz 0
        have z1 := blk_frozen bz 1
        have b1 := blk_set bz 0 (.string l1)
        have b2 : ((wA.setCell ⟨wf1.heap.size, 0, none⟩ (.string l1)).setCell ⟨wf1.heap.size, 1, none⟩ (.slice A8 (P1).length c8)).heap[wf1.heap.size]? = some (.cells #[.string l1, .slice A8 (P1).length c8] 26 (0, 0)) := (blk_set b1 1 (.slice A8 (P1).length c8)).trans rfl
        have sg3 := setFar (setFar tg3 wf1.heap.size 0 (.string l1) (by omega)) wf1.heap.size 1 (.slice A8 (P1).length c8) (by omega)
        refine lin_skip (w1 := ((wA.setCell ⟨wf1.heap.size, 0, none⟩ (.string l1)).setCell ⟨wf1.heap.size, 1, none⟩ (.slice A8 (P1).length c8))) rfl rfl (by kernel_rfl) (by rfl) (fun _ => ?r8) (fun _ => ⟨(blk_cell (sg3) 0).trans rfl, (blk_cell (sg3) 1).trans rfl⟩) ?_
        case r8 => first | (go_simp; done) | (go_simp; rfl)
        repeat (first | (refine lin_take rfl rfl (by kernel_rfl) (fun _ _ _ h => h) (by rfl) (v := ?_) (a' := ?_) ?_ ?_ ?_; rotate_left 2; (rintro w' ⟨s0, s1⟩; go_simp; with_reducible rfl); (simp only [List.getElem_toArray, List.getElem_cons_zero, List.getElem_cons_succ, Act.put, List.setIfInBounds_toArray, List.set_cons_zero, List.set_cons_succ]; rfl)) | (refine lin_off rfl rfl (by kernel_rfl) (fun _ _ _ h => h) (by rfl) (a' := ?_) ?_ ?_; rotate_left 1; (simp only [List.getElem_toArray, List.getElem_cons_zero, List.getElem_cons_succ, Act.put, List.setIfInBounds_toArray, List.set_cons_zero, List.set_cons_succ]; rfl)))
        refine lin_done (by kernel_rfl) ?_
        have hby : Below wf1.heap.size wf1 ((wA.setCell ⟨wf1.heap.size, 0, none⟩ (.string l1)).setCell ⟨wf1.heap.size, 1, none⟩ (.slice A8 (P1).length c8)) := (hbx.setCell (Nat.le_refl _) _).setCell (Nat.le_refl _) _
        have hL8 := Kd.V_mono (Kd.V_far (p := ⟨wf1.heap.size, 1, none⟩) (Kd.V_far (p := ⟨wf1.heap.size, 0, none⟩) hL7 hok (.string l1)) hok (.slice A8 (P1).length c8)) (ok' := fun _ => True) (fun _ _ => trivial)
        have hP8 := Kd.V_mono (Kd.V_far (p := ⟨wf1.heap.size, 1, none⟩) (Kd.V_far (p := ⟨wf1.heap.size, 0, none⟩) hP7 hok (.string l1)) hok (.slice A8 (P1).length c8)) (ok' := fun _ => True) (fun _ _ => trivial)
        go_wp2
        go_meet
        case rel => exact ⟨A7, c7, A8, c8, wf1.heap.size, rfl, rfl, rfl, ⟨hL8⟩, ⟨hP8⟩, ⟨b2⟩, ⟨hby⟩⟩
    case rest =>
      clear k1_0 k1_1 k2_0 k2_1 k3_0 k3_1 k4_0 k4_1
      rename World => wca
      obtain ⟨ALa, cLa, APa, cPa, g5, rfl, rfl, rfl, HL_, HP_, bg5, HX_⟩ := hcut
      have hLa := HL_.out
      have hPa := HP_.out
      have hx_ := HX_.out
      clear HL_ HP_ HX_
      replace hL := hL.below hx_
      replace hP := hP.below hx_
      replace hL3 := hL3.below hx_
      replace hP3 := hP3.below hx_
      replace hL5 := hL5.below hx_
      replace hP5 := hP5.below hx_
      replace hL7 := hL7.below hx_
      replace hP7 := hP7.below hx_
      replace bg1 := Aside0.mk ((hx_.block g1 (blk_lt bg1.out)).trans bg1.out)
      replace bg2 := Aside0.mk ((hx_.block g2 (blk_lt bg2.out)).trans bg2.out)
      replace bg3 := Aside0.mk ((hx_.block g3 (blk_lt bg3.out)).trans bg3.out)
      replace bg4 := Aside0.mk ((hx_.block g4 (blk_lt bg4.out)).trans bg4.out)
      replace HB := Aside0.mk (below_step HB.out hx_)
      replace HV := Aside0.mk (HV.out.next hx_)
      clear hx_
      have k1_0 : wca.cell? ⟨g1, 0, none⟩ = some (.string l) := (blk_cell bg1.out 0).trans rfl
      have k1_1 : wca.cell? ⟨g1, 1, none⟩ = some (.slice A2 P.length c2) := (blk_cell bg1.out 1).trans rfl
      have k2_0 : wca.cell? ⟨g2, 0, none⟩ = some (.string l1) := (blk_cell bg2.out 0).trans rfl
      have k2_1 : wca.cell? ⟨g2, 1, none⟩ = some (.slice A4 P1.length c4) := (blk_cell bg2.out 1).trans rfl
      have k3_0 : wca.cell? ⟨g3, 0, none⟩ = some (.string l1) := (blk_cell bg3.out 0).trans rfl
      have k3_1 : wca.cell? ⟨g3, 1, none⟩ = some (.slice A6 P1.length c6) := (blk_cell bg3.out 1).trans rfl
      have k4_0 : wca.cell? ⟨g4, 0, none⟩ = some (.string l1) := (blk_cell bg4.out 0).trans rfl
      have k4_1 : wca.cell? ⟨g4, 1, none⟩ = some (.slice A8 P1.length c8) := (blk_cell bg4.out 1).trans rfl
      have k5_0 : wca.cell? ⟨g5, 0, none⟩ = some (.string l1) := (blk_cell bg5.out 0).trans rfl
      have k5_1 : wca.cell? ⟨g5, 1, none⟩ = some (.slice APa (P1).length cPa) := (blk_cell bg5.out 1).trans rfl
      go_upto_region 11 with (fail)
      go_cut [23, 24, 25] (fun a_ b_ c_ wcb => ∃ A_ c7_ A2_ c8_ g_, a_ = .slice A_ (L1).length c7_ ∧ b_ = .pointer (some ⟨g_, 0, none⟩) ∧ c_ = .bool true ∧ Aside0 (VP wcb A_ c7_ (L1)) ∧ Aside0 (VT wcb A2_ c8_ (P1)) ∧ Aside0 (wcb.heap[g_]? = some (.cells #[.string l1, .slice A2_ (P1).length c8_] 26 (0, 0))) ∧ Aside0 (Below wca.heap.size wca wcb))
      case first =>
        refine lin_start (fun w' => w'.cell? ⟨g3, 0, none⟩ = some (.string l1) ∧ w'.cell? ⟨g3, 1, none⟩ = some (.slice A6 P1.length c6)) (true, [([], []), ([], []), ([], []), ([], []), ([2, 3], [2, 3]), ([], []), ([], []), ([5, 6], [5, 6]), ([], []), ([0, 1, 4, 7, 8], [0, 1, 4, 7, 8]), ([9], [9]), ([10], [10]), ([10], [10]), ([10], [10]), ([], []), ([11, 9, 0, 1, 2, 3, 4, 5, 6, 7, 8, 9, 10, 11, 14], [11]), ([14, 12, 15, 0, 1, 2, 3, 4, 5, 6, 7, 8, 9, 10, 11, 12, 14, 15], [12, 14]), ([13, 16, 0, 1, 2, 3, 4, 5, 6, 7, 8, 9, 10, 11, 12, 13, 14, 15, 16], [13])]) [0, 1, 2, 3, 4, 5, 6, 7, 8, 9, 10, 11, 12, 13, 14, 15, 16, 17] (by kernel_rfl) (by kernel_rfl) (by kernel_rfl) ⟨by go_simp, by go_simp⟩ ?_
        repeat (first | (refine lin_take rfl rfl (by kernel_rfl) (fun _ _ _ h => h) (by rfl) (v := ?_) (a' := ?_) ?_ ?_ ?_; rotate_left 2; (rintro w' ⟨s0, s1⟩; go_simp; with_reducible rfl); (simp only [List.getElem_toArray, List.getElem_cons_zero, List.getElem_cons_succ, Act.put, List.setIfInBounds_toArray, List.set_cons_zero, List.set_cons_succ]; rfl)) | (refine lin_off rfl rfl (by kernel_rfl) (fun _ _ _ h => h) (by rfl) (a' := ?_) ?_ ?_; rotate_left 1; (simp only [List.getElem_toArray, List.getElem_cons_zero, List.getElem_cons_succ, Act.put, List.setIfInBounds_toArray, List.set_cons_zero, List.set_cons_succ]; rfl)))
        have hd0 : Below wca.heap.size wca wca.drew := below_drew (Below.refl _ _)
        refine lin_two (i := 9) (j := 14) (rest' := [9, 10, 11, 12, 13, 15, 16, 17]) rfl rfl rfl rfl (by kernel_rfl) rfl (fun hS K hK => ?cA11) (fun hS K hK => ?cB11)
        case cA11 =>
          refine step_call (by rfl) rfl rfl Tryz.func17 (by kernel_rfl) rfl (args := #[.slice A5 L1.length c5, vSt l1 A6 c6 P1, .int .i64 (a + (j : Int)), .string (x.extract j x.size), .bool out]) (by (try simp only [List.map_toArray, List.map_cons, List.map_nil]); first | done | rfl) ?_
          refine (impl_put (hL5.below hd0) (hP5.below hd0) (by omega) (by omega) (by omega) hxb HU2.out (HV.out.next hd0)).mono ?_
          rintro e wA ⟨A7, c7, A8, c8, rfl, hL7, hP7, hbA⟩
          have hbx : Below wca.heap.size wca wA := below_step hd0 hbA
          have tg3 := (hbx.block g3 (blk_lt bg3.out)).trans bg3.out
          have ug3 := blk_lt tg3
          refine ⟨_, rfl, hK.out _ _ ⟨(blk_cell (tg3) 0).trans rfl, (blk_cell (tg3) 1).trans rfl⟩ ?_⟩
          refine lin_norm (a' := ?_) ?_ ?_; rotate_left 1; (simp only [List.getElem_toArray, List.getElem_cons_zero, List.getElem_cons_succ, Act.put, List.setIfInBounds_toArray, List.set_cons_zero, List.set_cons_succ]; rfl)
          repeat (first | (refine lin_take rfl rfl (by kernel_rfl) (fun _ _ _ h => h) (by rfl) (v := ?_) (a' := ?_) ?_ ?_ ?_; rotate_left 2; (rintro w' ⟨s0, s1⟩; go_simp; with_reducible rfl); (simp only [List.getElem_toArray, List.getElem_cons_zero, List.getElem_cons_succ, Act.put, List.setIfInBounds_toArray, List.set_cons_zero, List.set_cons_succ]; rfl)) | (refine lin_off rfl rfl (by kernel_rfl) (fun _ _ _ h => h) (by rfl) (a' := ?_) ?_ ?_; rotate_left 1; (simp only [List.getElem_toArray, List.getElem_cons_zero, List.getElem_cons_succ, Act.put, List.setIfInBounds_toArray, List.set_cons_zero, List.set_cons_succ]; rfl)))
          refine lin_event (v := .pointer (some ⟨wA.heap.size, 0, none⟩)) (w1 := wA.alloc (.cells #[.string ⟨#[]⟩, .slice none 0 0] 26 (0, 0))) (a' := ?_) rfl rfl (by kernel_rfl) (by rfl) (fun hS => ?_) (fun hS => ⟨(blk_cell (blk_alloc tg3 _) 0).trans rfl, (blk_cell (blk_alloc tg3 _) 1).trans rfl⟩) ?_ ?_; rotate_left 1; (focus (first | (go_simp; done) | (go_simp; rfl))); (focus (first | (simp only [List.getElem_toArray, List.getElem_cons_zero, List.getElem_cons_succ, Act.put, List.setIfInBounds_toArray, List.set_cons_zero, List.set_cons_succ]; done) | (simp only [List.getElem_toArray, List.getElem_cons_zero, List.getElem_cons_succ, Act.put, List.setIfInBounds_toArray, List.set_cons_zero, List.set_cons_succ]; rfl)))
          repeat (first | (refine lin_take rfl rfl (by kernel_rfl) (fun _ _ _ h => h) (by rfl) (v := ?_) (a' := ?_) ?_ ?_ ?_; rotate_left 2; (rintro w' ⟨s0, s1⟩; go_simp; with_reducible rfl); (simp only [List.getElem_toArray, List.getElem_cons_zero, List.getElem_cons_succ, Act.put, List.setIfInBounds_toArray, List.set_cons_zero, List.set_cons_succ]; rfl)) | (refine lin_off rfl rfl (by kernel_rfl) (fun _ _ _ h => h) (by rfl) (a' := ?_) ?_ ?_; rotate_left 1; (simp only [List.getElem_toArray, List.getElem_cons_zero, List.getElem_cons_succ, Act.put, List.setIfInBounds_toArray, List.set_cons_zero, List.set_cons_succ]; rfl)))
          have q0 : (wA.alloc (.cells #[.string ⟨#[]⟩, .slice none 0 0] 26 (0, 0))).cell? ⟨wA.heap.size, 0, none⟩ = some (.string ⟨#[]⟩) := (blk_cell (heap_alloc_new wA (.cells #[.string ⟨#[]⟩, .slice none 0 0] 26 (0, 0))) 0).trans rfl
          have q1 : (wA.alloc (.cells #[.string ⟨#[]⟩, .slice none 0 0] 26 (0, 0))).cell? ⟨wA.heap.size, 1, none⟩ = some (.slice none 0 0) := (blk_cell (heap_alloc_new wA (.cells #[.string ⟨#[]⟩, .slice none 0 0] 26 (0, 0))) 1).trans rfl
          have z0 := blk_frozen (heap_alloc_new wA (.cells #[.string ⟨#[]⟩, .slice none 0 0] 26 (0, 0))) 0
          have z1 := blk_frozen (heap_alloc_new wA (.cells #[.string ⟨#[]⟩, .slice none 0 0] 26 (0, 0))) 1
          have b1 := blk_set (heap_alloc_new wA (.cells #[.string ⟨#[]⟩, .slice none 0 0] 26 (0, 0))) 0 (.string l1)
          have b2 : (((wA.alloc (.cells #[.string ⟨#[]⟩, .slice none 0 0] 26 (0, 0))).setCell ⟨wA.heap.size, 0, none⟩ (.string l1)).setCell ⟨wA.heap.size, 1, none⟩ (.slice A8 (P1).length c8)).heap[wA.heap.size]? = some (.cells #[.string l1, .slice A8 (P1).length c8] 26 (0, 0)) := (blk_set b1 1 (.slice A8 (P1).length c8)).trans rfl
          have sg3 := setFar (setFar (blk_alloc tg3 (.cells #[.string ⟨#[]⟩, .slice none 0 0] 26 (0, 0))) wA.heap.size 0 (.string l1) (by omega)) wA.heap.size 1 (.slice A8 (P1).length c8) (by omega)
          refine lin_skip (w1 := (((wA.alloc (.cells #[.string ⟨#[]⟩, .slice none 0 0] 26 (0, 0))).setCell ⟨wA.heap.size, 0, none⟩ (.string l1)).setCell ⟨wA.heap.size, 1, none⟩ (.slice A8 (P1).length c8))) rfl rfl (by kernel_rfl) (by rfl) (fun _ => ?r9) (fun _ => ⟨(blk_cell (sg3) 0).trans rfl, (blk_cell (sg3) 1).trans rfl⟩) ?_
          case r9 => first | (go_simp; done) | (go_simp; rfl)
          repeat (first | (refine lin_take rfl rfl (by kernel_rfl) (fun _ _ _ h => h) (by rfl) (v := ?_) (a' := ?_) ?_ ?_ ?_; rotate_left 2; (rintro w' ⟨s0, s1⟩; go_simp; with_reducible rfl); (simp only [List.getElem_toArray, List.getElem_cons_zero, List.getElem_cons_succ, Act.put, List.setIfInBounds_toArray, List.set_cons_zero, List.set_cons_succ]; rfl)) | (refine lin_off rfl rfl (by kernel_rfl) (fun _ _ _ h => h) (by rfl) (a' := ?_) ?_ ?_; rotate_left 1; (simp only [List.getElem_toArray, List.getElem_cons_zero, List.getElem_cons_succ, Act.put, List.setIfInBounds_toArray, List.set_cons_zero, List.set_cons_succ]; rfl)))
          refine lin_done (by kernel_rfl) ?_
          have hby : Below wA.heap.size wA (((wA.alloc (.cells #[.string ⟨#[]⟩, .slice none 0 0] 26 (0, 0))).setCell ⟨wA.heap.size, 0, none⟩ (.string l1)).setCell ⟨wA.heap.size, 1, none⟩ (.slice A8 (P1).length c8)) := (by repeat (first | (with_reducible exact (Below.refl _ _)) | (with_reducible apply below_alloc) | (with_reducible apply pw_below_drewN) | (with_reducible apply below_drew1) | with_reducible refine below_set ?_ (by first | (with_reducible exact Nat.le_refl _) | (with_reducible assumption) | (simp; done) | omega | (simp; omega))))
          go_wp2
          go_meet
          case rel => exact ⟨A7, c7, A8, c8, wA.heap.size, rfl, rfl, rfl, ⟨hL7.below hby⟩, ⟨hP7.below hby⟩, ⟨b2⟩, ⟨below_step hbx hby⟩⟩
        case cB11 =>
          have hd1 : Below wca.heap.size wca (wca.drew.alloc (.cells #[.string ⟨#[]⟩, .slice none 0 0] 26 (0, 0))) := below_alloc hd0 _
          have vg3 := (hd1.block g3 (blk_lt bg3.out)).trans bg3.out
          refine step_value (by rfl) rfl (v := .pointer (some ⟨wca.heap.size, 0, none⟩)) (w1 := (wca.drew.alloc (.cells #[.string ⟨#[]⟩, .slice none 0 0] 26 (0, 0)))) ?rB11 (hK.out _ _ ⟨(blk_cell (vg3) 0).trans rfl, (blk_cell (vg3) 1).trans rfl⟩ ?_)
          case rB11 => first | (go_simp; done) | (go_simp; rfl)
          refine lin_norm (a' := ?_) ?_ ?_; rotate_left 1; (simp only [List.getElem_toArray, List.getElem_cons_zero, List.getElem_cons_succ, Act.put, List.setIfInBounds_toArray, List.set_cons_zero, List.set_cons_succ]; rfl)
          repeat (first | (refine lin_take rfl rfl (by kernel_rfl) (fun _ _ _ h => h) (by rfl) (v := ?_) (a' := ?_) ?_ ?_ ?_; rotate_left 2; (rintro w' ⟨s0, s1⟩; go_simp; with_reducible rfl); (simp only [List.getElem_toArray, List.getElem_cons_zero, List.getElem_cons_succ, Act.put, List.setIfInBounds_toArray, List.set_cons_zero, List.set_cons_succ]; rfl)) | (refine lin_off rfl rfl (by kernel_rfl) (fun _ _ _ h => h) (by rfl) (a' := ?_) ?_ ?_; rotate_left 1; (simp only [List.getElem_toArray, List.getElem_cons_zero, List.getElem_cons_succ, Act.put, List.setIfInBounds_toArray, List.set_cons_zero, List.set_cons_succ]; rfl)))
          refine lin_call rfl rfl rfl Tryz.func17 (by kernel_rfl) (by kernel_rfl) rfl (by rfl) (args := #[.slice A5 L1.length c5, vSt l1 A6 c6 P1, .int .i64 (a + (j : Int)), .string (x.extract j x.size), .bool out]) (by (try simp only [List.map_toArray, List.map_cons, List.map_nil]); first | done | rfl) (fun hS => ?_)
          have hge : wca.drew.heap.size ≤ wca.heap.size := Nat.le_refl _
          refine (impl_putS (fun k => True ∧ k ≠ wca.heap.size) (Kd.V_alloc (Kd.V_elderB (Kd.V_drew hL5) wca.heap.size hge) _) (Kd.V_alloc (Kd.V_elderB (Kd.V_drew hP5) wca.heap.size hge) _) (by omega) (by omega) (by omega) hxb HU2.out (HV.out.next hd1)).mono ?_
          rintro e wA ⟨A7, c7, A8, c8, rfl, hL7, hP7, hbA⟩
          have hbx : Below wca.heap.size wca wA := below_step hd1 hbA
          have hsz : (wca.drew.alloc (.cells #[.string ⟨#[]⟩, .slice none 0 0] 26 (0, 0))).heap.size = wca.heap.size + 1 := by show (wca.drew.heap.push _).size = _; simp
          have bz : wA.heap[wca.heap.size]? = some (.cells #[.string ⟨#[]⟩, .slice none 0 0] 26 (0, 0)) := (hbA.block _ (by rw [hsz]; exact Nat.lt_succ_self _)).trans (heap_alloc_new wca.drew _)
          have hok : ∀ k, ((True ∧ k ≠ wca.heap.size) ∨ (wca.drew.alloc (.cells #[.string ⟨#[]⟩, .slice none 0 0] 26 (0, 0))).heap.size ≤ k) → k ≠ wca.heap.size := by rw [hsz]; intro k hk; rcases hk with hk | hk; exact hk.2; omega
          have tg3 := (hbx.block g3 (blk_lt bg3.out)).trans bg3.out
          have ug3 := blk_lt bg3.out
          refine ⟨_, rfl, ⟨(blk_cell (tg3) 0).trans rfl, (blk_cell (tg3) 1).trans rfl⟩, ?_⟩
          refine lin_norm (a' := ?_) ?_ ?_; rotate_left 1; (simp only [List.getElem_toArray, List.getElem_cons_zero, List.getElem_cons_succ, Act.put, List.setIfInBounds_toArray, List.set_cons_zero, List.set_cons_succ]; rfl)
          repeat (first | (refine lin_take rfl rfl (by kernel_rfl) (fun _ _ _ h => h) (by rfl) (v := ?_) (a' := ?_) ?_ ?_ ?_; rotate_left 2; (rintro w' ⟨s0, s1⟩; go_simp; with_reducible rfl); (simp only [List.getElem_toArray, List.getElem_cons_zero, List.getElem_cons_succ, Act.put, List.setIfInBounds_toArray, List.set_cons_zero, List.set_cons_succ]; rfl)) | (refine lin_off rfl rfl (by kernel_rfl) (fun _ _ _ h => h) (by rfl) (a' := ?_) ?_ ?_; rotate_left 1; (simp only [List.getElem_toArray, List.getElem_cons_zero, List.getElem_cons_succ, Act.put, List.setIfInBounds_toArray, List.set_cons_zero, List.set_cons_succ]; rfl)))
          have q0 : wA.cell? ⟨wca.heap.size, 0, none⟩ = some (.string ⟨#[]⟩) := (blk_cell bz 0).trans rfl
          have q1 : wA.cell? ⟨wca.heap.size, 1, none⟩ = some (.slice none 0 0) := (blk_cell bz 1).trans rfl
          have z0 := blk_frozen bz 0
          have z1 := blk_frozen bz 1
          have b1 := blk_set bz 0 (.string l1)
          have b2 : ((wA.setCell ⟨wca.heap.size, 0, none⟩ (.string l1)).setCell ⟨wca.heap.size, 1, none⟩ (.slice A8 (P1).length c8)).heap[wca.heap.size]? = some (.cells #[.string l1, .slice A8 (P1).length c8] 26 (0, 0)) := (blk_set b1 1 (.slice A8 (P1).length c8)).trans rfl
          have sg3 := setFar (setFar tg3 wca.heap.size 0 (.string l1) (by omega)) wca.heap.size 1 (.slice A8 (P1).length c8) (by omega)
          refine lin_skip (w1 := ((wA.setCell ⟨wca.heap.size, 0, none⟩ (.string l1)).setCell ⟨wca.heap.size, 1, none⟩ (.slice A8 (P1).length c8))) rfl rfl (by kernel_rfl) (by rfl) (fun _ => ?r10) (fun _ => ⟨(blk_cell (sg3) 0).trans rfl, (blk_cell (sg3) 1).trans rfl⟩) ?_
          case r10 => first | (go_simp; done) | (go_simp; rfl)
          repeat (first | (refine lin_take rfl rfl (by kernel_rfl) (fun _ _ _ h => h) (by rfl) (v := ?_) (a' := ?_) ?_ ?_ ?_; rotate_left 2; (rintro w' ⟨s0, s1⟩; go_simp; with_reducible rfl); (simp only [List.getElem_toArray, List.getElem_cons_zero, List.getElem_cons_succ, Act.put, List.setIfInBounds_toArray, List.set_cons_zero, List.set_cons_succ]; rfl)) | (refine lin_off rfl rfl (by kernel_rfl) (fun _ _ _ h => h) (by rfl) (a' := ?_) ?_ ?_; rotate_left 1; (simp only [List.getElem_toArray, List.getElem_cons_zero, List.getElem_cons_succ, Act.put, List.setIfInBounds_toArray, List.set_cons_zero, List.set_cons_succ]; rfl)))
          refine lin_done (by kernel_rfl) ?_
          have hby : Below wca.heap.size wca ((wA.setCell ⟨wca.heap.size, 0, none⟩ (.string l1)).setCell ⟨wca.heap.size, 1, none⟩ (.slice A8 (P1).length c8)) := (hbx.setCell (Nat.le_refl _) _).setCell (Nat.le_refl _) _
          have hL8 := Kd.V_mono (Kd.V_far (p := ⟨wca.heap.size, 1, none⟩) (Kd.V_far (p := ⟨wca.heap.size, 0, none⟩) hL7 hok (.string l1)) hok (.slice A8 (P1).length c8)) (ok' := fun _ => True) (fun _ _ => trivial)
          have hP8 := Kd.V_mono (Kd.V_far (p := ⟨wca.heap.size, 1, none⟩) (Kd.V_far (p := ⟨wca.heap.size, 0, none⟩) hP7 hok (.string l1)) hok (.slice A8 (P1).length c8)) (ok' := fun _ => True) (fun _ _ => trivial)
          go_wp2
          go_meet
          case rel => exact ⟨A7, c7, A8, c8, wca.heap.size, rfl, rfl, rfl, ⟨hL8⟩, ⟨hP8⟩, ⟨b2⟩, ⟨hby⟩⟩
      case rest =>
        clear k1_0 k1_1 k2_0 k2_1 k3_0 k3_1 k4_0 k4_1 k5_0 k5_1
        rename World => wcb
        obtain ⟨ALb, cLb, APb, cPb, g6, rfl, rfl, rfl, HL_, HP_, bg6, HX_⟩ := hcut
        have hLb := HL_.out
        have hPb := HP_.out
        have hx_ := HX_.out
        clear HL_ HP_ HX_
        replace hL := hL.below hx_
        replace hP := hP.below hx_
        replace hL3 := hL3.below hx_
        replace hP3 := hP3.below hx_
        replace hL5 := hL5.below hx_
        replace hP5 := hP5.below hx_
        replace hL7 := hL7.below hx_
        replace hP7 := hP7.below hx_
        replace hLa := hLa.below hx_
        replace hPa := hPa.below hx_
        replace bg1 := Aside0.mk ((hx_.block g1 (blk_lt bg1.out)).trans bg1.out)
        replace bg2 := Aside0.mk ((hx_.block g2 (blk_lt bg2.out)).trans bg2.out)
        replace bg3 := Aside0.mk ((hx_.block g3 (blk_lt bg3.out)).trans bg3.out)
        replace bg4 := Aside0.mk ((hx_.block g4 (blk_lt bg4.out)).trans bg4.out)
        replace bg5 := Aside0.mk ((hx_.block g5 (blk_lt bg5.out)).trans bg5.out)
        replace HB := Aside0.mk (below_step HB.out hx_)
        replace HV := Aside0.mk (HV.out.next hx_)
        clear hx_
        have k1_0 : wcb.cell? ⟨g1, 0, none⟩ = some (.string l) := (blk_cell bg1.out 0).trans rfl
        have k1_1 : wcb.cell? ⟨g1, 1, none⟩ = some (.slice A2 P.length c2) := (blk_cell bg1.out 1).trans rfl
        have k2_0 : wcb.cell? ⟨g2, 0, none⟩ = some (.string l1) := (blk_cell bg2.out 0).trans rfl
        have k2_1 : wcb.cell? ⟨g2, 1, none⟩ = some (.slice A4 P1.length c4) := (blk_cell bg2.out 1).trans rfl
        have k3_0 : wcb.cell? ⟨g3, 0, none⟩ = some (.string l1) := (blk_cell bg3.out 0).trans rfl
        have k3_1 : wcb.cell? ⟨g3, 1, none⟩ = some (.slice A6 P1.length c6) := (blk_cell bg3.out 1).trans rfl
        have k4_0 : wcb.cell? ⟨g4, 0, none⟩ = some (.string l1) := (blk_cell bg4.out 0).trans rfl
        have k4_1 : wcb.cell? ⟨g4, 1, none⟩ = some (.slice A8 P1.length c8) := (blk_cell bg4.out 1).trans rfl
        have k5_0 : wcb.cell? ⟨g5, 0, none⟩ = some (.string l1) := (blk_cell bg5.out 0).trans rfl
        have k5_1 : wcb.cell? ⟨g5, 1, none⟩ = some (.slice APa (P1).length cPa) := (blk_cell bg5.out 1).trans rfl
        have k6_0 : wcb.cell? ⟨g6, 0, none⟩ = some (.string l1) := (blk_cell bg6.out 0).trans rfl
        have k6_1 : wcb.cell? ⟨g6, 1, none⟩ = some (.slice APb (P1).length cPb) := (blk_cell bg6.out 1).trans rfl
        go_wp2_with fail; refine (lz_S l1 (by omega) hP7 hP5).mono ?_; rintro e11 w11 ⟨rfl, hb11⟩
        have hx11 := hb11
        clear k1_0 k1_1 k2_0 k2_1 k3_0 k3_1 k4_0 k4_1 k5_0 k5_1 k6_0 k6_1
        replace hL := hL.below hx11
        replace hP := hP.below hx11
        replace hL3 := hL3.below hx11
        replace hP3 := hP3.below hx11
        replace hL5 := hL5.below hx11
        replace hP5 := hP5.below hx11
        replace hL7 := hL7.below hx11
        replace hP7 := hP7.below hx11
        replace hLa := hLa.below hx11
        replace hPa := hPa.below hx11
        replace hLb := hLb.below hx11
        replace hPb := hPb.below hx11
        replace bg1 := Aside0.mk ((hx11.block g1 (blk_lt bg1.out)).trans bg1.out)
        replace bg2 := Aside0.mk ((hx11.block g2 (blk_lt bg2.out)).trans bg2.out)
        replace bg3 := Aside0.mk ((hx11.block g3 (blk_lt bg3.out)).trans bg3.out)
        replace bg4 := Aside0.mk ((hx11.block g4 (blk_lt bg4.out)).trans bg4.out)
        replace bg5 := Aside0.mk ((hx11.block g5 (blk_lt bg5.out)).trans bg5.out)
        replace bg6 := Aside0.mk ((hx11.block g6 (blk_lt bg6.out)).trans bg6.out)
        replace HB := Aside0.mk (below_step HB.out hx11)
        replace HV := Aside0.mk (HV.out.next hx11)
        clear hx11 hb11
        have k1_0 : w11.cell? ⟨g1, 0, none⟩ = some (.string l) := (blk_cell bg1.out 0).trans rfl
        have k1_1 : w11.cell? ⟨g1, 1, none⟩ = some (.slice A2 P.length c2) := (blk_cell bg1.out 1).trans rfl
        have k2_0 : w11.cell? ⟨g2, 0, none⟩ = some (.string l1) := (blk_cell bg2.out 0).trans rfl
        have k2_1 : w11.cell? ⟨g2, 1, none⟩ = some (.slice A4 P1.length c4) := (blk_cell bg2.out 1).trans rfl
        have k3_0 : w11.cell? ⟨g3, 0, none⟩ = some (.string l1) := (blk_cell bg3.out 0).trans rfl
        have k3_1 : w11.cell? ⟨g3, 1, none⟩ = some (.slice A6 P1.length c6) := (blk_cell bg3.out 1).trans rfl
        have k4_0 : w11.cell? ⟨g4, 0, none⟩ = some (.string l1) := (blk_cell bg4.out 0).trans rfl
        have k4_1 : w11.cell? ⟨g4, 1, none⟩ = some (.slice A8 P1.length c8) := (blk_cell bg4.out 1).trans rfl
        have k5_0 : w11.cell? ⟨g5, 0, none⟩ = some (.string l1) := (blk_cell bg5.out 0).trans rfl
        have k5_1 : w11.cell? ⟨g5, 1, none⟩ = some (.slice APa (P1).length cPa) := (blk_cell bg5.out 1).trans rfl
        have k6_0 : w11.cell? ⟨g6, 0, none⟩ = some (.string l1) := (blk_cell bg6.out 0).trans rfl
        have k6_1 : w11.cell? ⟨g6, 1, none⟩ = some (.slice APb (P1).length cPb) := (blk_cell bg6.out 1).trans rfl
        go_wp2_with fail; refine (lz_S l1 (by omega) hPa hP5).mono ?_; rintro e12 w12 ⟨rfl, hb12⟩
        have hx12 := hb12
        clear k1_0 k1_1 k2_0 k2_1 k3_0 k3_1 k4_0 k4_1 k5_0 k5_1 k6_0 k6_1
        replace hL := hL.below hx12
        replace hP := hP.below hx12
        replace hL3 := hL3.below hx12
        replace hP3 := hP3.below hx12
        replace hL5 := hL5.below hx12
        replace hP5 := hP5.below hx12
        replace hL7 := hL7.below hx12
        replace hP7 := hP7.below hx12
        replace hLa := hLa.below hx12
        replace hPa := hPa.below hx12
        replace hLb := hLb.below hx12
        replace hPb := hPb.below hx12
        replace bg1 := Aside0.mk ((hx12.block g1 (blk_lt bg1.out)).trans bg1.out)
        replace bg2 := Aside0.mk ((hx12.block g2 (blk_lt bg2.out)).trans bg2.out)
        replace bg3 := Aside0.mk ((hx12.block g3 (blk_lt bg3.out)).trans bg3.out)
        replace bg4 := Aside0.mk ((hx12.block g4 (blk_lt bg4.out)).trans bg4.out)
        replace bg5 := Aside0.mk ((hx12.block g5 (blk_lt bg5.out)).trans bg5.out)
        replace bg6 := Aside0.mk ((hx12.block g6 (blk_lt bg6.out)).trans bg6.out)
        replace HB := Aside0.mk (below_step HB.out hx12)
        replace HV := Aside0.mk (HV.out.next hx12)
        clear hx12 hb12
        have k1_0 : w12.cell? ⟨g1, 0, none⟩ = some (.string l) := (blk_cell bg1.out 0).trans rfl
        have k1_1 : w12.cell? ⟨g1, 1, none⟩ = some (.slice A2 P.length c2) := (blk_cell bg1.out 1).trans rfl
        have k2_0 : w12.cell? ⟨g2, 0, none⟩ = some (.string l1) := (blk_cell bg2.out 0).trans rfl
        have k2_1 : w12.cell? ⟨g2, 1, none⟩ = some (.slice A4 P1.length c4) := (blk_cell bg2.out 1).trans rfl
        have k3_0 : w12.cell? ⟨g3, 0, none⟩ = some (.string l1) := (blk_cell bg3.out 0).trans rfl
        have k3_1 : w12.cell? ⟨g3, 1, none⟩ = some (.slice A6 P1.length c6) := (blk_cell bg3.out 1).trans rfl
        have k4_0 : w12.cell? ⟨g4, 0, none⟩ = some (.string l1) := (blk_cell bg4.out 0).trans rfl
        have k4_1 : w12.cell? ⟨g4, 1, none⟩ = some (.slice A8 P1.length c8) := (blk_cell bg4.out 1).trans rfl
        have k5_0 : w12.cell? ⟨g5, 0, none⟩ = some (.string l1) := (blk_cell bg5.out 0).trans rfl
        have k5_1 : w12.cell? ⟨g5, 1, none⟩ = some (.slice APa (P1).length cPa) := (blk_cell bg5.out 1).trans rfl
        have k6_0 : w12.cell? ⟨g6, 0, none⟩ = some (.string l1) := (blk_cell bg6.out 0).trans rfl
        have k6_1 : w12.cell? ⟨g6, 1, none⟩ = some (.slice APb (P1).length cPb) := (blk_cell bg6.out 1).trans rfl
        go_wp2_with fail; refine (lz_S l1 (by omega) hPb hP5).mono ?_; rintro e13 w13 ⟨rfl, hb13⟩
        have hx13 := hb13
        clear k1_0 k1_1 k2_0 k2_1 k3_0 k3_1 k4_0 k4_1 k5_0 k5_1 k6_0 k6_1
        replace hL := hL.below hx13
        replace hP := hP.below hx13
        replace hL3 := hL3.below hx13
        replace hP3 := hP3.below hx13
        replace hL5 := hL5.below hx13
        replace hP5 := hP5.below hx13
        replace hL7 := hL7.below hx13
        replace hP7 := hP7.below hx13
        replace hLa := hLa.below hx13
        replace hPa := hPa.below hx13
        replace hLb := hLb.below hx13
        replace hPb := hPb.below hx13
        replace bg1 := Aside0.mk ((hx13.block g1 (blk_lt bg1.out)).trans bg1.out)
        replace bg2 := Aside0.mk ((hx13.block g2 (blk_lt bg2.out)).trans bg2.out)
        replace bg3 := Aside0.mk ((hx13.block g3 (blk_lt bg3.out)).trans bg3.out)
        replace bg4 := Aside0.mk ((hx13.block g4 (blk_lt bg4.out)).trans bg4.out)
        replace bg5 := Aside0.mk ((hx13.block g5 (blk_lt bg5.out)).trans bg5.out)
        replace bg6 := Aside0.mk ((hx13.block g6 (blk_lt bg6.out)).trans bg6.out)
        replace HB := Aside0.mk (below_step HB.out hx13)
        replace HV := Aside0.mk (HV.out.next hx13)
        clear hx13 hb13
        have k1_0 : w13.cell? ⟨g1, 0, none⟩ = some (.string l) := (blk_cell bg1.out 0).trans rfl
        have k1_1 : w13.cell? ⟨g1, 1, none⟩ = some (.slice A2 P.length c2) := (blk_cell bg1.out 1).trans rfl
        have k2_0 : w13.cell? ⟨g2, 0, none⟩ = some (.string l1) := (blk_cell bg2.out 0).trans rfl
        have k2_1 : w13.cell? ⟨g2, 1, none⟩ = some (.slice A4 P1.length c4) := (blk_cell bg2.out 1).trans rfl
        have k3_0 : w13.cell? ⟨g3, 0, none⟩ = some (.string l1) := (blk_cell bg3.out 0).trans rfl
        have k3_1 : w13.cell? ⟨g3, 1, none⟩ = some (.slice A6 P1.length c6) := (blk_cell bg3.out 1).trans rfl
        have k4_0 : w13.cell? ⟨g4, 0, none⟩ = some (.string l1) := (blk_cell bg4.out 0).trans rfl
        have k4_1 : w13.cell? ⟨g4, 1, none⟩ = some (.slice A8 P1.length c8) := (blk_cell bg4.out 1).trans rfl
        have k5_0 : w13.cell? ⟨g5, 0, none⟩ = some (.string l1) := (blk_cell bg5.out 0).trans rfl
        have k5_1 : w13.cell? ⟨g5, 1, none⟩ = some (.slice APa (P1).length cPa) := (blk_cell bg5.out 1).trans rfl
        have k6_0 : w13.cell? ⟨g6, 0, none⟩ = some (.string l1) := (blk_cell bg6.out 0).trans rfl
        have k6_1 : w13.cell? ⟨g6, 1, none⟩ = some (.slice APb (P1).length cPb) := (blk_cell bg6.out 1).trans rfl
        go_wp2_with fail; refine (lz_M (by omega) hL7 hL5).mono ?_; rintro e14 w14 ⟨rfl, hb14⟩
        have hx14 := hb14
        clear k1_0 k1_1 k2_0 k2_1 k3_0 k3_1 k4_0 k4_1 k5_0 k5_1 k6_0 k6_1
        replace hL := hL.below hx14
        replace hP := hP.below hx14
        replace hL3 := hL3.below hx14
        replace hP3 := hP3.below hx14
        replace hL5 := hL5.below hx14
        replace hP5 := hP5.below hx14
        replace hL7 := hL7.below hx14
        replace hP7 := hP7.below hx14
        replace hLa := hLa.below hx14
        replace hPa := hPa.below hx14
        replace hLb := hLb.below hx14
        replace hPb := hPb.below hx14
        replace bg1 := Aside0.mk ((hx14.block g1 (blk_lt bg1.out)).trans bg1.out)
        replace bg2 := Aside0.mk ((hx14.block g2 (blk_lt bg2.out)).trans bg2.out)
        replace bg3 := Aside0.mk ((hx14.block g3 (blk_lt bg3.out)).trans bg3.out)
        replace bg4 := Aside0.mk ((hx14.block g4 (blk_lt bg4.out)).trans bg4.out)
        replace bg5 := Aside0.mk ((hx14.block g5 (blk_lt bg5.out)).trans bg5.out)
        replace bg6 := Aside0.mk ((hx14.block g6 (blk_lt bg6.out)).trans bg6.out)
        replace HB := Aside0.mk (below_step HB.out hx14)
        replace HV := Aside0.mk (HV.out.next hx14)
        clear hx14 hb14
        have k1_0 : w14.cell? ⟨g1, 0, none⟩ = some (.string l) := (blk_cell bg1.out 0).trans rfl
        have k1_1 : w14.cell? ⟨g1, 1, none⟩ = some (.slice A2 P.length c2) := (blk_cell bg1.out 1).trans rfl
        have k2_0 : w14.cell? ⟨g2, 0, none⟩ = some (.string l1) := (blk_cell bg2.out 0).trans rfl
        have k2_1 : w14.cell? ⟨g2, 1, none⟩ = some (.slice A4 P1.length c4) := (blk_cell bg2.out 1).trans rfl
        have k3_0 : w14.cell? ⟨g3, 0, none⟩ = some (.string l1) := (blk_cell bg3.out 0).trans rfl
        have k3_1 : w14.cell? ⟨g3, 1, none⟩ = some (.slice A6 P1.length c6) := (blk_cell bg3.out 1).trans rfl
        have k4_0 : w14.cell? ⟨g4, 0, none⟩ = some (.string l1) := (blk_cell bg4.out 0).trans rfl
        have k4_1 : w14.cell? ⟨g4, 1, none⟩ = some (.slice A8 P1.length c8) := (blk_cell bg4.out 1).trans rfl
        have k5_0 : w14.cell? ⟨g5, 0, none⟩ = some (.string l1) := (blk_cell bg5.out 0).trans rfl
        have k5_1 : w14.cell? ⟨g5, 1, none⟩ = some (.slice APa (P1).length cPa) := (blk_cell bg5.out 1).trans rfl
        have k6_0 : w14.cell? ⟨g6, 0, none⟩ = some (.string l1) := (blk_cell bg6.out 0).trans rfl
        have k6_1 : w14.cell? ⟨g6, 1, none⟩ = some (.slice APb (P1).length cPb) := (blk_cell bg6.out 1).trans rfl
        go_wp2_with fail; refine (lz_M (by omega) hLa hL5).mono ?_; rintro e15 w15 ⟨rfl, hb15⟩
        have hx15 := hb15
        clear k1_0 k1_1 k2_0 k2_1 k3_0 k3_1 k4_0 k4_1 k5_0 k5_1 k6_0 k6_1
        replace hL := hL.below hx15
        replace hP := hP.below hx15
        replace hL3 := hL3.below hx15
        replace hP3 := hP3.below hx15
        replace hL5 := hL5.below hx15
        replace hP5 := hP5.below hx15
        replace hL7 := hL7.below hx15
        replace hP7 := hP7.below hx15
        replace hLa := hLa.below hx15
        replace hPa := hPa.below hx15
        replace hLb := hLb.below hx15
        replace hPb := hPb.below hx15
        replace bg1 := Aside0.mk ((hx15.block g1 (blk_lt bg1.out)).trans bg1.out)
        replace bg2 := Aside0.mk ((hx15.block g2 (blk_lt bg2.out)).trans bg2.out)
        replace bg3 := Aside0.mk ((hx15.block g3 (blk_lt bg3.out)).trans bg3.out)
        replace bg4 := Aside0.mk ((hx15.block g4 (blk_lt bg4.out)).trans bg4.out)
        replace bg5 := Aside0.mk ((hx15.block g5 (blk_lt bg5.out)).trans bg5.out)
        replace bg6 := Aside0.mk ((hx15.block g6 (blk_lt bg6.out)).trans bg6.out)
        replace HB := Aside0.mk (below_step HB.out hx15)
        replace HV := Aside0.mk (HV.out.next hx15)
        clear hx15 hb15
        have k1_0 : w15.cell? ⟨g1, 0, none⟩ = some (.string l) := (blk_cell bg1.out 0).trans rfl
        have k1_1 : w15.cell? ⟨g1, 1, none⟩ = some (.slice A2 P.length c2) := (blk_cell bg1.out 1).trans rfl
        have k2_0 : w15.cell? ⟨g2, 0, none⟩ = some (.string l1) := (blk_cell bg2.out 0).trans rfl
        have k2_1 : w15.cell? ⟨g2, 1, none⟩ = some (.slice A4 P1.length c4) := (blk_cell bg2.out 1).trans rfl
        have k3_0 : w15.cell? ⟨g3, 0, none⟩ = some (.string l1) := (blk_cell bg3.out 0).trans rfl
        have k3_1 : w15.cell? ⟨g3, 1, none⟩ = some (.slice A6 P1.length c6) := (blk_cell bg3.out 1).trans rfl
        have k4_0 : w15.cell? ⟨g4, 0, none⟩ = some (.string l1) := (blk_cell bg4.out 0).trans rfl
        have k4_1 : w15.cell? ⟨g4, 1, none⟩ = some (.slice A8 P1.length c8) := (blk_cell bg4.out 1).trans rfl
        have k5_0 : w15.cell? ⟨g5, 0, none⟩ = some (.string l1) := (blk_cell bg5.out 0).trans rfl
        have k5_1 : w15.cell? ⟨g5, 1, none⟩ = some (.slice APa (P1).length cPa) := (blk_cell bg5.out 1).trans rfl
        have k6_0 : w15.cell? ⟨g6, 0, none⟩ = some (.string l1) := (blk_cell bg6.out 0).trans rfl
        have k6_1 : w15.cell? ⟨g6, 1, none⟩ = some (.slice APb (P1).length cPb) := (blk_cell bg6.out 1).trans rfl
        go_wp2_with fail; refine (lz_M (by omega) hLb hL5).mono ?_; rintro e16 w16 ⟨rfl, hb16⟩
        have hx16 := hb16
        clear k1_0 k1_1 k2_0 k2_1 k3_0 k3_1 k4_0 k4_1 k5_0 k5_1 k6_0 k6_1
        replace hL := hL.below hx16
        replace hP := hP.below hx16
        replace hL3 := hL3.below hx16
        replace hP3 := hP3.below hx16
        replace hL5 := hL5.below hx16
        replace hP5 := hP5.below hx16
        replace hL7 := hL7.below hx16
        replace hP7 := hP7.below hx16
        replace hLa := hLa.below hx16
        replace hPa := hPa.below hx16
        replace hLb := hLb.below hx16
        replace hPb := hPb.below hx16
        replace bg1 := Aside0.mk ((hx16.block g1 (blk_lt bg1.out)).trans bg1.out)
        replace bg2 := Aside0.mk ((hx16.block g2 (blk_lt bg2.out)).trans bg2.out)
        replace bg3 := Aside0.mk ((hx16.block g3 (blk_lt bg3.out)).trans bg3.out)
        replace bg4 := Aside0.mk ((hx16.block g4 (blk_lt bg4.out)).trans bg4.out)
        replace bg5 := Aside0.mk ((hx16.block g5 (blk_lt bg5.out)).trans bg5.out)
        replace bg6 := Aside0.mk ((hx16.block g6 (blk_lt bg6.out)).trans bg6.out)
        replace HB := Aside0.mk (below_step HB.out hx16)
        replace HV := Aside0.mk (HV.out.next hx16)
        clear hx16 hb16
        go_wp2
        refine bodyPost_ret (v := (.bool true)) (by simp [results, Tryz.results7, go_sem, zEn, *]) rfl ⟨rfl, HB.out⟩
end Go.Proofs.YtfjbjiklohjodaaGreatDoor.Z
