/- The closed facts of the row of FnPutNone. What the laws on streams say, plainly. The program's StreamPut told with the blocks that its rows lead to. The law FnPutNone, walked by hand over what it calls. For every pair of codes FnPutNone returns true and leaves its arguments as they were: what is empty changes nothing. -/
import Derived.Test.YtfjbjiklohjodaaGreatDoorRows
import Derived.Test.YtfjbjiklohjodaaGreatDoorTie
import Derived.Test.YtfjbjiklohjodaaGreatDoorCards
import Derived.Test.YtfjbjiklohjodaaGreatDoorBp6
import Derived.Stop.Joined
import Derived.WalkKit
import Derived.ProofKit
import Derived.Deep.CutBlock
import Derived.SevenTiedAt
import Derived.OpenShut
import Derived.ShutString
import Derived.ChangeOld
import Derived.Below
import Derived.SizedLaws
namespace Go.Proofs.YtfjbjiklohjodaaGreatDoor.fnPutNone
open Go.ChangeShapes Go.WideShapes Go.ChangeAt Go.RowKit
set_option maxHeartbeats 8000000 in
set_option maxRecDepth 100000 in
theorem jf : joinedFacts Tryz.pinned.checked.prog 5 Tryz.f5 Rows.fnPutNoneSpec Rows.fnPutNoneRow = true := by
  unfold joinedFacts
  repeat' (with_reducible refine Bool.and_eq_true_iff.2 ⟨?_, ?_⟩)
  all_goals (as_aux_lemma => kernel_rfl)
end Go.Proofs.YtfjbjiklohjodaaGreatDoor.fnPutNone
namespace Go.Proofs.YtfjbjiklohjodaaGreatDoor.Q
open Go Go.RowKit Go.Proofs.YtfjbjiklohjodaaGreatDoorW.PrintWords Go.Proofs.YtfjbjiklohjodaaGreatDoorW.PrintMore Go.Proofs.YtfjbjiklohjodaaGreatDoor.Z
set_option linter.unusedVariables false
set_option linter.unusedSimpArgs false
section
variable {w : World} {A A2 : Option Addr} {c c2 : Nat} {L L1 : List S111} {l l1 : ByteArray} {P P1 : List S109} {a : Int} {x : ByteArray} {out ok : Bool}
theorem putF_none (hm : mapOkB (L.map prOf) = true) (hs : stOkB (bl l) (P.map spOf) = true) (ha : 0 ≤ a ∧ a ≤ (l.size : Int)) (hl : l.size ≤ 40) : putF L l P a ⟨#[]⟩ out = (L, l, P, true) := by
  unfold putF
  rw [show bl (⟨#[]⟩ : ByteArray) = [] from rfl, putAll_ok hm hs (by decide) ⟨by omega, by omega⟩, putS_old (by rw [bl_len]; omega) (by simp; omega) (by rw [bl_len]; simp; omega)]
  simp only [prs_to_of, sps_to_of, mkB_bl]
end
end Go.Proofs.YtfjbjiklohjodaaGreatDoor.Q
namespace Go.Proofs.YtfjbjiklohjodaaGreatDoor.Q
open Go Go.RowKit Go.Proofs.YtfjbjiklohjodaaGreatDoorW.PrintWords Go.Proofs.YtfjbjiklohjodaaGreatDoorW.PrintMore Go.Proofs.YtfjbjiklohjodaaGreatDoor.Z
set_option linter.unusedVariables false
section
variable {w : World} {A A2 : Option Addr} {c c2 : Nat} {L L1 : List S111} {l l1 : ByteArray} {P P1 : List S109} {a : Int} {x : ByteArray} {out ok : Bool}
theorem impl_putS (S : Nat → Prop) (hL : Kd.V k111 111 w 0 S (.slice A L.length c) L) (hP : Kd.V k109 109 w 0 S (.slice A2 P.length c2) P) (hl : l.size ≤ 1000) (hn : L.length ≤ 1000) (hp : P.length ≤ 1000) (hx : x.size ≤ 1000) (hR : putF L l P a x out = (L1, l1, P1, ok)) (hV : VarsIn w) :
    Calls Tryz.prog 17 #[.slice A L.length c, vSt l A2 c2 P, .int .i64 a, .string x, .bool out] w fun e w' => ∃ A' c' A2' c2', e = .returned (.tuple #[.slice A' L1.length c', vSt l1 A2' c2' P1, .bool ok]) ∧
      Kd.V k111 111 w' 0 (fun k => S k ∨ w.heap.size ≤ k) (.slice A' L1.length c') L1 ∧ Kd.V k109 109 w' 0 (fun k => S k ∨ w.heap.size ≤ k) (.slice A2' P1.length c2') P1 ∧ Below w.heap.size w w' := by
  have h := impl_StreamPut_to 6001 (by omega) (L.map prOf) (by rw [List.length_map]; omega) (bl l) (by rw [bl_len]; omega) (P.map spOf) (by rw [List.length_map]; omega) a (bl x) (by rw [bl_len]; omega) out
  rw [prs_to_of, mkB_bl, sps_to_of, mkB_bl] at h
  replace h := h.trans (congrArg some hR)
  refine (impl_StreamPut.calls 6001 S A c L l S A2 c2 P a x out L1 l1 P1 ok w hL hP hV h).mono ?_
  rintro e w' ⟨v0, v2, rfl, h1, h2, hb⟩
  have q1 : Kd.V k111 111 w' 0 (fun k => S k ∨ w.heap.size ≤ k) v0 L1 := Kd.V_mono h1 (fun _ hk => hk.imp_left (fun h => h.elim id id))
  have q2 : Kd.V k109 109 w' 0 (fun k => S k ∨ w.heap.size ≤ k) v2 P1 := Kd.V_mono h2 (fun _ hk => hk.imp_left (fun h => h.elim id id))
  obtain ⟨A', c', rfl⟩ := Kd.V_slice q1
  obtain ⟨A2', c2', rfl⟩ := Kd.V_slice q2
  exact ⟨A', c', A2', c2', rfl, q1, q2, hb⟩
end
end Go.Proofs.YtfjbjiklohjodaaGreatDoor.Q
namespace Go.Proofs.YtfjbjiklohjodaaGreatDoor.Z
open Go Go.RowKit Go.Proofs.YtfjbjiklohjodaaGreatDoorW.PrintWords Go.Proofs.YtfjbjiklohjodaaGreatDoorW.PrintLast Go.Proofs.YtfjbjiklohjodaaGreatDoorW.PrintMore Go.Proofs.YtfjbjiklohjodaaGreatDoor.Q
set_option linter.unusedVariables false
set_option linter.unusedSimpArgs false
attribute [local go_sem ↓] Go.wp_at_zero Go.wp_at_succ
set_option maxRecDepth 100000 in
set_option maxHeartbeats 4000000 in
theorem law_FnPutNone (A : Option Addr) (n c : Nat) (bs : List Int) (A0 : Option Addr) (n0 c0 : Nat) (bs0 : List Int) (w : World) (hC : Kd.C (Kd.int .u8) w A n bs) (hl : n ≤ c) (hb : ∀ b ∈ bs, (0 : Int) ≤ b ∧ b ≤ 255) (hC0 : Kd.C (Kd.int .u8) w A0 n0 bs0) (hl0 : n0 ≤ c0) (hb0 : ∀ b ∈ bs0, (0 : Int) ≤ b ∧ b ≤ 255) (hV : VarsIn w) :
    Calls Tryz.prog 5 #[.slice A n c, .slice A0 n0 c0] w fun e w' => e = .returned (.bool true) ∧ Below w.heap.size w w' := by
  have HB := Aside0.mk (Below.refl w.heap.size w)
  have HV := Aside0.mk hV
  have HC := Aside0.mk hC
  clear hV hC
  by_cases h0 : n > 1048576
  · have t0 : decide ((n : Int) > 1048576) = true := decide_eq_true (by omega)
    have t1 : decide ((1048576 : Int) < (n : Int)) = true := decide_eq_true (by omega)
    go_enter Tryz.func5, Tryz.ntmps5
    go_wp2
    refine bodyPost_ret (v := (.bool true)) (by simp [results, Tryz.results5, go_sem, zEn, *]) rfl ⟨rfl, HB.out⟩
  have t0 : decide ((n : Int) > 1048576) = false := decide_eq_false (by omega)
  have t1 : decide ((1048576 : Int) < (n : Int)) = false := decide_eq_false (by omega)
  have hm0 : n0 ≤ 9223372036854775807 := by have := hC0.2.1; have := hC0.1; omega
  clear hC0
  by_cases h1 : n0 > 1048576
  · have t2 : decide ((n0 : Int) > 1048576) = true := decide_eq_true (by omega)
    have t3 : decide ((1048576 : Int) < (n0 : Int)) = true := decide_eq_true (by omega)
    go_enter Tryz.func5, Tryz.ntmps5
    go_wp2
    refine bodyPost_ret (v := (.bool true)) (by simp [results, Tryz.results5, go_sem, zEn, *]) rfl ⟨rfl, HB.out⟩
  have t2 : decide ((n0 : Int) > 1048576) = false := decide_eq_false (by omega)
  have t3 : decide ((1048576 : Int) < (n0 : Int)) = false := decide_eq_false (by omega)
  go_enter Tryz.func5, Tryz.ntmps5
  go_wp2_with fail; refine (draw_put A n c bs _ HC.out hb hl).mono ?_; rintro e1 w1 ⟨A1, c1, L, l, A2, c2, P, a, x, out, rfl, hL, hP, hm, hLn, hln, hPn, ha, hx, hb1⟩
  have hx1 := hb1
  replace HB := Aside0.mk (below_step HB.out hx1)
  replace HV := Aside0.mk (HV.out.next hx1)
  clear hx1 hb1
  obtain ⟨⟨L1, l1, P1, ok⟩, hR⟩ : ∃ R, putF L l P a x out = R := ⟨_, rfl⟩
  obtain ⟨hL1n, hl1n, hP1n⟩ := putF_len hR
  have HR := Aside0.mk hR
  clear hR
  have kn_0 : (w1.alloc (.cells #[.string l, .slice A2 P.length c2] 26 (0, 0))).cell? ⟨w1.heap.size, 0, none⟩ = some (.string l) := (blk_cell (heap_alloc_new w1 _) 0).trans rfl
  have kn_1 : (w1.alloc (.cells #[.string l, .slice A2 P.length c2] 26 (0, 0))).cell? ⟨w1.heap.size, 1, none⟩ = some (.slice A2 P.length c2) := (blk_cell (heap_alloc_new w1 _) 1).trans rfl
  go_wp2_with fail; refine (spec_put (hL.below (below_alloc (Below.refl _ _) _)) (hP.below (below_alloc (Below.refl _ _) _)) (by omega) (by omega) (by omega) HR.out).mono ?_; rintro e2 w2 ⟨A3, c3, A4, c4, rfl, hL3, hP3, hb2⟩
  have hx2 : Below w1.heap.size w1 w2 := below_step (below_alloc (Below.refl _ _) _) hb2
  obtain ⟨g1, hg1⟩ : ∃ g, g = w1.heap.size := ⟨_, rfl⟩
  have bg1 : Aside0 (w2.heap[g1]? = some (.cells #[.string l, .slice A2 P.length c2] 26 (0, 0))) := ⟨by rw [hg1]; exact (hb2.block _ (by show w1.heap.size < (w1.heap.push _).size; simp)).trans (heap_alloc_new w1 _)⟩
  rw [← hg1]
  clear hg1
  clear kn_0 kn_1
  replace hL := hL.below hx2
  replace hP := hP.below hx2
  replace HB := Aside0.mk (below_step HB.out hx2)
  replace HV := Aside0.mk (HV.out.next hx2)
  clear hx2 hb2
  have k1_0 : (w2.alloc (.cells #[.string l1, .slice A4 P1.length c4] 26 (0, 0))).cell? ⟨g1, 0, none⟩ = some (.string l) := (blk_cell (blk_alloc bg1.out _) 0).trans rfl
  have k1_1 : (w2.alloc (.cells #[.string l1, .slice A4 P1.length c4] 26 (0, 0))).cell? ⟨g1, 1, none⟩ = some (.slice A2 P.length c2) := (blk_cell (blk_alloc bg1.out _) 1).trans rfl
  have kn_0 : (w2.alloc (.cells #[.string l1, .slice A4 P1.length c4] 26 (0, 0))).cell? ⟨w2.heap.size, 0, none⟩ = some (.string l1) := (blk_cell (heap_alloc_new w2 _) 0).trans rfl
  have kn_1 : (w2.alloc (.cells #[.string l1, .slice A4 P1.length c4] 26 (0, 0))).cell? ⟨w2.heap.size, 1, none⟩ = some (.slice A4 P1.length c4) := (blk_cell (heap_alloc_new w2 _) 1).trans rfl
  go_wp2_with fail; refine (impl_put (hL.below (below_alloc (Below.refl _ _) _)) (hP.below (below_alloc (Below.refl _ _) _)) (by omega) (by omega) (by omega) (by omega) HR.out (HV.out.next (below_alloc (Below.refl _ _) _))).mono ?_; rintro e3 w3 ⟨A5, c5, A6, c6, rfl, hL5, hP5, hb3⟩
  have hx3 : Below w2.heap.size w2 w3 := below_step (below_alloc (Below.refl _ _) _) hb3
  obtain ⟨g2, hg2⟩ : ∃ g, g = w2.heap.size := ⟨_, rfl⟩
  have bg2 : Aside0 (w3.heap[g2]? = some (.cells #[.string l1, .slice A4 P1.length c4] 26 (0, 0))) := ⟨by rw [hg2]; exact (hb3.block _ (by show w2.heap.size < (w2.heap.push _).size; simp)).trans (heap_alloc_new w2 _)⟩
  rw [← hg2]
  clear hg2
  clear k1_0 k1_1 kn_0 kn_1
  replace hL := hL.below hx3
  replace hP := hP.below hx3
  replace hL3 := hL3.below hx3
  replace hP3 := hP3.below hx3
  replace bg1 := Aside0.mk ((hx3.block g1 (blk_lt bg1.out)).trans bg1.out)
  replace HB := Aside0.mk (below_step HB.out hx3)
  replace HV := Aside0.mk (HV.out.next hx3)
  clear hx3 hb3
  have hne : (ok != ok) = false := by simp
  have heq : (ok == ok) = true := by simp
  have k1_0 : (w3.alloc (.cells #[.string l1, .slice A6 P1.length c6] 26 (0, 0))).cell? ⟨g1, 0, none⟩ = some (.string l) := (blk_cell (blk_alloc bg1.out _) 0).trans rfl
  have k1_1 : (w3.alloc (.cells #[.string l1, .slice A6 P1.length c6] 26 (0, 0))).cell? ⟨g1, 1, none⟩ = some (.slice A2 P.length c2) := (blk_cell (blk_alloc bg1.out _) 1).trans rfl
  have k2_0 : (w3.alloc (.cells #[.string l1, .slice A6 P1.length c6] 26 (0, 0))).cell? ⟨g2, 0, none⟩ = some (.string l1) := (blk_cell (blk_alloc bg2.out _) 0).trans rfl
  have k2_1 : (w3.alloc (.cells #[.string l1, .slice A6 P1.length c6] 26 (0, 0))).cell? ⟨g2, 1, none⟩ = some (.slice A4 P1.length c4) := (blk_cell (blk_alloc bg2.out _) 1).trans rfl
  have kn_0 : (w3.alloc (.cells #[.string l1, .slice A6 P1.length c6] 26 (0, 0))).cell? ⟨w3.heap.size, 0, none⟩ = some (.string l1) := (blk_cell (heap_alloc_new w3 _) 0).trans rfl
  have kn_1 : (w3.alloc (.cells #[.string l1, .slice A6 P1.length c6] 26 (0, 0))).cell? ⟨w3.heap.size, 1, none⟩ = some (.slice A6 P1.length c6) := (blk_cell (heap_alloc_new w3 _) 1).trans rfl
  go_wp2_with fail; refine (lz_S l1 (by omega) (hP5.below (below_alloc (Below.refl _ _) _)) (hP3.below (below_alloc (Below.refl _ _) _))).mono ?_; rintro e4 w4 ⟨rfl, hb4⟩
  have hx4 : Below w3.heap.size w3 w4 := below_step (below_alloc (Below.refl _ _) _) hb4
  obtain ⟨g3, hg3⟩ : ∃ g, g = w3.heap.size := ⟨_, rfl⟩
  have bg3 : Aside0 (w4.heap[g3]? = some (.cells #[.string l1, .slice A6 P1.length c6] 26 (0, 0))) := ⟨by rw [hg3]; exact (hb4.block _ (by show w3.heap.size < (w3.heap.push _).size; simp)).trans (heap_alloc_new w3 _)⟩
  rw [← hg3]
  clear hg3
  clear k1_0 k1_1 k2_0 k2_1 kn_0 kn_1
  replace hL := hL.below hx4
  replace hP := hP.below hx4
  replace hL3 := hL3.below hx4
  replace hP3 := hP3.below hx4
  replace hL5 := hL5.below hx4
  replace hP5 := hP5.below hx4
  replace bg1 := Aside0.mk ((hx4.block g1 (blk_lt bg1.out)).trans bg1.out)
  replace bg2 := Aside0.mk ((hx4.block g2 (blk_lt bg2.out)).trans bg2.out)
  replace HB := Aside0.mk (below_step HB.out hx4)
  replace HV := Aside0.mk (HV.out.next hx4)
  clear hx4 hb4
  have k1_0 : w4.cell? ⟨g1, 0, none⟩ = some (.string l) := (blk_cell bg1.out 0).trans rfl
  have k1_1 : w4.cell? ⟨g1, 1, none⟩ = some (.slice A2 P.length c2) := (blk_cell bg1.out 1).trans rfl
  have k2_0 : w4.cell? ⟨g2, 0, none⟩ = some (.string l1) := (blk_cell bg2.out 0).trans rfl
  have k2_1 : w4.cell? ⟨g2, 1, none⟩ = some (.slice A4 P1.length c4) := (blk_cell bg2.out 1).trans rfl
  have k3_0 : w4.cell? ⟨g3, 0, none⟩ = some (.string l1) := (blk_cell bg3.out 0).trans rfl
  have k3_1 : w4.cell? ⟨g3, 1, none⟩ = some (.slice A6 P1.length c6) := (blk_cell bg3.out 1).trans rfl
  go_wp2_with fail; refine (lz_M (by omega) hL5 hL3).mono ?_; rintro e5 w5 ⟨rfl, hb5⟩
  have hx5 := hb5
  clear k1_0 k1_1 k2_0 k2_1 k3_0 k3_1
  replace hL := hL.below hx5
  replace hP := hP.below hx5
  replace hL3 := hL3.below hx5
  replace hP3 := hP3.below hx5
  replace hL5 := hL5.below hx5
  replace hP5 := hP5.below hx5
  replace bg1 := Aside0.mk ((hx5.block g1 (blk_lt bg1.out)).trans bg1.out)
  replace bg2 := Aside0.mk ((hx5.block g2 (blk_lt bg2.out)).trans bg2.out)
  replace bg3 := Aside0.mk ((hx5.block g3 (blk_lt bg3.out)).trans bg3.out)
  replace HB := Aside0.mk (below_step HB.out hx5)
  replace HV := Aside0.mk (HV.out.next hx5)
  clear hx5 hb5
  have k1_0 : w5.cell? ⟨g1, 0, none⟩ = some (.string l) := (blk_cell bg1.out 0).trans rfl
  have k1_1 : w5.cell? ⟨g1, 1, none⟩ = some (.slice A2 P.length c2) := (blk_cell bg1.out 1).trans rfl
  have k2_0 : w5.cell? ⟨g2, 0, none⟩ = some (.string l1) := (blk_cell bg2.out 0).trans rfl
  have k2_1 : w5.cell? ⟨g2, 1, none⟩ = some (.slice A4 P1.length c4) := (blk_cell bg2.out 1).trans rfl
  have k3_0 : w5.cell? ⟨g3, 0, none⟩ = some (.string l1) := (blk_cell bg3.out 0).trans rfl
  have k3_1 : w5.cell? ⟨g3, 1, none⟩ = some (.slice A6 P1.length c6) := (blk_cell bg3.out 1).trans rfl
  go_wp2_with fail; refine (mapOk_c (by omega) hL).mono ?_; rintro e6 w6 ⟨rfl, hb6⟩
  rw [hm]
  have hx6 := hb6
  clear k1_0 k1_1 k2_0 k2_1 k3_0 k3_1
  replace hL := hL.below hx6
  replace hP := hP.below hx6
  replace hL3 := hL3.below hx6
  replace hP3 := hP3.below hx6
  replace hL5 := hL5.below hx6
  replace hP5 := hP5.below hx6
  replace bg1 := Aside0.mk ((hx6.block g1 (blk_lt bg1.out)).trans bg1.out)
  replace bg2 := Aside0.mk ((hx6.block g2 (blk_lt bg2.out)).trans bg2.out)
  replace bg3 := Aside0.mk ((hx6.block g3 (blk_lt bg3.out)).trans bg3.out)
  replace HB := Aside0.mk (below_step HB.out hx6)
  replace HV := Aside0.mk (HV.out.next hx6)
  clear hx6 hb6
  obtain ⟨q, hq⟩ : ∃ q, stOkB (bl l) (P.map spOf) = q := ⟨_, rfl⟩
  have k1_0 : w6.cell? ⟨g1, 0, none⟩ = some (.string l) := (blk_cell bg1.out 0).trans rfl
  have k1_1 : w6.cell? ⟨g1, 1, none⟩ = some (.slice A2 P.length c2) := (blk_cell bg1.out 1).trans rfl
  have k2_0 : w6.cell? ⟨g2, 0, none⟩ = some (.string l1) := (blk_cell bg2.out 0).trans rfl
  have k2_1 : w6.cell? ⟨g2, 1, none⟩ = some (.slice A4 P1.length c4) := (blk_cell bg2.out 1).trans rfl
  have k3_0 : w6.cell? ⟨g3, 0, none⟩ = some (.string l1) := (blk_cell bg3.out 0).trans rfl
  have k3_1 : w6.cell? ⟨g3, 1, none⟩ = some (.slice A6 P1.length c6) := (blk_cell bg3.out 1).trans rfl
  go_wp2_with fail; refine (streamOk_c l (by omega) hP).mono ?_; rintro e7 w7 ⟨rfl, hb7⟩
  rw [hq]
  have hx7 := hb7
  clear k1_0 k1_1 k2_0 k2_1 k3_0 k3_1
  replace hL := hL.below hx7
  replace hP := hP.below hx7
  replace hL3 := hL3.below hx7
  replace hP3 := hP3.below hx7
  replace hL5 := hL5.below hx7
  replace hP5 := hP5.below hx7
  replace bg1 := Aside0.mk ((hx7.block g1 (blk_lt bg1.out)).trans bg1.out)
  replace bg2 := Aside0.mk ((hx7.block g2 (blk_lt bg2.out)).trans bg2.out)
  replace bg3 := Aside0.mk ((hx7.block g3 (blk_lt bg3.out)).trans bg3.out)
  replace HB := Aside0.mk (below_step HB.out hx7)
  replace HV := Aside0.mk (HV.out.next hx7)
  clear hx7 hb7
  cases q with
  | false =>
    have k1_0 : w7.cell? ⟨g1, 0, none⟩ = some (.string l) := (blk_cell bg1.out 0).trans rfl
    have k1_1 : w7.cell? ⟨g1, 1, none⟩ = some (.slice A2 P.length c2) := (blk_cell bg1.out 1).trans rfl
    have k2_0 : w7.cell? ⟨g2, 0, none⟩ = some (.string l1) := (blk_cell bg2.out 0).trans rfl
    have k2_1 : w7.cell? ⟨g2, 1, none⟩ = some (.slice A4 P1.length c4) := (blk_cell bg2.out 1).trans rfl
    have k3_0 : w7.cell? ⟨g3, 0, none⟩ = some (.string l1) := (blk_cell bg3.out 0).trans rfl
    have k3_1 : w7.cell? ⟨g3, 1, none⟩ = some (.slice A6 P1.length c6) := (blk_cell bg3.out 1).trans rfl
    go_wp2_with fail; refine (lz_S l1 (by omega) hP5 hP3).mono ?_; rintro e8 w8 ⟨rfl, hb8⟩
    have hx8 := hb8
    clear k1_0 k1_1 k2_0 k2_1 k3_0 k3_1
    replace hL := hL.below hx8
    replace hP := hP.below hx8
    replace hL3 := hL3.below hx8
    replace hP3 := hP3.below hx8
    replace hL5 := hL5.below hx8
    replace hP5 := hP5.below hx8
    replace bg1 := Aside0.mk ((hx8.block g1 (blk_lt bg1.out)).trans bg1.out)
    replace bg2 := Aside0.mk ((hx8.block g2 (blk_lt bg2.out)).trans bg2.out)
    replace bg3 := Aside0.mk ((hx8.block g3 (blk_lt bg3.out)).trans bg3.out)
    replace HB := Aside0.mk (below_step HB.out hx8)
    replace HV := Aside0.mk (HV.out.next hx8)
    clear hx8 hb8
    have k1_0 : w8.cell? ⟨g1, 0, none⟩ = some (.string l) := (blk_cell bg1.out 0).trans rfl
    have k1_1 : w8.cell? ⟨g1, 1, none⟩ = some (.slice A2 P.length c2) := (blk_cell bg1.out 1).trans rfl
    have k2_0 : w8.cell? ⟨g2, 0, none⟩ = some (.string l1) := (blk_cell bg2.out 0).trans rfl
    have k2_1 : w8.cell? ⟨g2, 1, none⟩ = some (.slice A4 P1.length c4) := (blk_cell bg2.out 1).trans rfl
    have k3_0 : w8.cell? ⟨g3, 0, none⟩ = some (.string l1) := (blk_cell bg3.out 0).trans rfl
    have k3_1 : w8.cell? ⟨g3, 1, none⟩ = some (.slice A6 P1.length c6) := (blk_cell bg3.out 1).trans rfl
    go_wp2_with fail; refine (lz_M (by omega) hL5 hL3).mono ?_; rintro e9 w9 ⟨rfl, hb9⟩
    have hx9 := hb9
    clear k1_0 k1_1 k2_0 k2_1 k3_0 k3_1
    replace hL := hL.below hx9
    replace hP := hP.below hx9
    replace hL3 := hL3.below hx9
    replace hP3 := hP3.below hx9
    replace hL5 := hL5.below hx9
    replace hP5 := hP5.below hx9
    replace bg1 := Aside0.mk ((hx9.block g1 (blk_lt bg1.out)).trans bg1.out)
    replace bg2 := Aside0.mk ((hx9.block g2 (blk_lt bg2.out)).trans bg2.out)
    replace bg3 := Aside0.mk ((hx9.block g3 (blk_lt bg3.out)).trans bg3.out)
    replace HB := Aside0.mk (below_step HB.out hx9)
    replace HV := Aside0.mk (HV.out.next hx9)
    clear hx9 hb9
    go_wp2
    refine bodyPost_ret (v := (.bool true)) (by simp [results, Tryz.results5, go_sem, zEn, *]) rfl ⟨rfl, HB.out⟩
  | true =>
    obtain ⟨j, hj⟩ : ∃ j, n0 % (l.size + 1) = j := ⟨_, rfl⟩
    have hj2 : j < l.size + 1 := by rw [← hj]; exact Nat.mod_lt _ (by omega)
    have hr6 : Int.tmod (n0 : Int) ((l.size : Int) + 1) = (j : Int) := by rw [Int.tmod_eq_emod_of_nonneg (by omega), ← hj]; exact (Int.natCast_emod n0 (l.size + 1)).symm
    clear hj
    have hw1 : IntKind.i64.wrap ((l.size : Int) + 1) = (l.size : Int) + 1 := IntWalk.i64_in _ (by omega)
    have hz : ((l.size : Int) + 1 == 0) = false := beq_eq_false_iff_ne.2 (by omega)
    have hz2 : ¬ ((l.size : Int) + 1 = 0) := by omega
    have hz3 : decide ((l.size : Int) + 1 = 0) = false := decide_eq_false hz2
    have hr7 : (n0 : Int) % ((l.size : Int) + 1) = (j : Int) := by rw [← hr6, Int.tmod_eq_emod_of_nonneg (by omega)]
    have hw9 : IntKind.i64.wrap (j : Int) = (j : Int) := IntWalk.i64_in _ (by omega)
    have HR2 := Aside0.mk (putF_none (out := out) hm hq (a := (j : Int)) (show 0 ≤ (j : Int) ∧ (j : Int) ≤ (l.size : Int) by omega) (by omega))
    have k1_0 : w7.cell? ⟨g1, 0, none⟩ = some (.string l) := (blk_cell bg1.out 0).trans rfl
    have k1_1 : w7.cell? ⟨g1, 1, none⟩ = some (.slice A2 P.length c2) := (blk_cell bg1.out 1).trans rfl
    have k2_0 : w7.cell? ⟨g2, 0, none⟩ = some (.string l1) := (blk_cell bg2.out 0).trans rfl
    have k2_1 : w7.cell? ⟨g2, 1, none⟩ = some (.slice A4 P1.length c4) := (blk_cell bg2.out 1).trans rfl
    have k3_0 : w7.cell? ⟨g3, 0, none⟩ = some (.string l1) := (blk_cell bg3.out 0).trans rfl
    have k3_1 : w7.cell? ⟨g3, 1, none⟩ = some (.slice A6 P1.length c6) := (blk_cell bg3.out 1).trans rfl
    go_upto_region 8 with (fail)
    go_cut [16, 17, 18] (fun a_ b_ c_ wc => ∃ A_ c7_ A2_ c8_ g_, a_ = .slice A_ (L).length c7_ ∧ b_ = .pointer (some ⟨g_, 0, none⟩) ∧ c_ = .bool true ∧ Aside0 (VP wc A_ c7_ (L)) ∧ Aside0 (VT wc A2_ c8_ (P)) ∧ Aside0 (wc.heap[g_]? = some (.cells #[.string l, .slice A2_ (P).length c8_] 26 (0, 0))) ∧ Aside0 (Below w7.heap.size w7 wc))
    case first =>
      refine lin_start (fun w' => w'.cell? ⟨g1, 0, none⟩ = some (.string l) ∧ w'.cell? ⟨g1, 1, none⟩ = some (.slice A2 P.length c2)) (true, [([], []), ([], []), ([], []), ([2], [2]), ([], []), ([4], [4]), ([5], [5]), ([6], [6]), ([3, 7], [3, 7]), ([], []), ([0, 1, 8, 9], [0, 1, 8, 9]), ([10], [10]), ([11], [11]), ([11], [11]), ([11], [11]), ([], []), ([12, 10, 0, 1, 2, 3, 4, 5, 6, 7, 8, 9, 10, 11, 12, 15], [12]), ([15, 13, 16, 0, 1, 2, 3, 4, 5, 6, 7, 8, 9, 10, 11, 12, 13, 15, 16], [13, 15]), ([14, 17, 0, 1, 2, 3, 4, 5, 6, 7, 8, 9, 10, 11, 12, 13, 14, 15, 16, 17], [14])]) [0, 1, 2, 3, 4, 5, 6, 7, 8, 9, 10, 11, 12, 13, 14, 15, 16, 17, 18] (by kernel_rfl) (by kernel_rfl) (by kernel_rfl) ⟨by go_simp, by go_simp⟩ ?_
      repeat (first | (refine lin_take rfl rfl (by kernel_rfl) (fun _ _ _ h => h) (by rfl) (v := ?_) (a' := ?_) ?_ ?_ ?_; rotate_left 2; (rintro w' ⟨s0, s1⟩; go_simp; with_reducible rfl); (simp only [List.getElem_toArray, List.getElem_cons_zero, List.getElem_cons_succ, Act.put, List.setIfInBounds_toArray, List.set_cons_zero, List.set_cons_succ]; rfl)) | (refine lin_off rfl rfl (by kernel_rfl) (fun _ _ _ h => h) (by rfl) (a' := ?_) ?_ ?_; rotate_left 1; (simp only [List.getElem_toArray, List.getElem_cons_zero, List.getElem_cons_succ, Act.put, List.setIfInBounds_toArray, List.set_cons_zero, List.set_cons_succ]; rfl)))
      have hd0 : Below w7.heap.size w7 w7.drew := below_drew (Below.refl _ _)
      refine lin_two (i := 10) (j := 15) (rest' := [10, 11, 12, 13, 14, 16, 17, 18]) rfl rfl rfl rfl (by kernel_rfl) rfl (fun hS K hK => ?cA8) (fun hS K hK => ?cB8)
      case cA8 =>
        refine step_call (by rfl) rfl rfl Tryz.func17 (by kernel_rfl) rfl (args := #[.slice A1 L.length c1, vSt l A2 c2 P, .int .i64 (j : Int), .string ⟨#[]⟩, .bool out]) (by (try simp only [List.map_toArray, List.map_cons, List.map_nil]); first | done | rfl) ?_
        refine (impl_put (hL.below hd0) (hP.below hd0) (by omega) (by omega) (by omega) (by decide) HR2.out (HV.out.next hd0)).mono ?_
        rintro e wA ⟨A7, c7, A8, c8, rfl, hL7, hP7, hbA⟩
        have hbx : Below w7.heap.size w7 wA := below_step hd0 hbA
        have tg1 := (hbx.block g1 (blk_lt bg1.out)).trans bg1.out
        have ug1 := blk_lt tg1
        refine ⟨_, rfl, hK.out _ _ ⟨(blk_cell (tg1) 0).trans rfl, (blk_cell (tg1) 1).trans rfl⟩ ?_⟩
        refine lin_norm (a' := ?_) ?_ ?_; rotate_left 1; (simp only [List.getElem_toArray, List.getElem_cons_zero, List.getElem_cons_succ, Act.put, List.setIfInBounds_toArray, List.set_cons_zero, List.set_cons_succ]; rfl)
        repeat (first | (refine lin_take rfl rfl (by kernel_rfl) (fun _ _ _ h => h) (by rfl) (v := ?_) (a' := ?_) ?_ ?_ ?_; rotate_left 2; (rintro w' ⟨s0, s1⟩; go_simp; with_reducible rfl); (simp only [List.getElem_toArray, List.getElem_cons_zero, List.getElem_cons_succ, Act.put, List.setIfInBounds_toArray, List.set_cons_zero, List.set_cons_succ]; rfl)) | (refine lin_off rfl rfl (by kernel_rfl) (fun _ _ _ h => h) (by rfl) (a' := ?_) ?_ ?_; rotate_left 1; (simp only [List.getElem_toArray, List.getElem_cons_zero, List.getElem_cons_succ, Act.put, List.setIfInBounds_toArray, List.set_cons_zero, List.set_cons_succ]; rfl)))
        refine lin_event (v := .pointer (some ⟨wA.heap.size, 0, none⟩)) (w1 := wA.alloc (.cells #[.string ⟨#[]⟩, .slice none 0 0] 26 (0, 0))) (a' := ?_) rfl rfl (by kernel_rfl) (by rfl) (fun hS => ?_) (fun hS => ⟨(blk_cell (blk_alloc tg1 _) 0).trans rfl, (blk_cell (blk_alloc tg1 _) 1).trans rfl⟩) ?_ ?_; rotate_left 1; (focus (first | (go_simp; done) | (go_simp; rfl))); (focus (first | (simp only [List.getElem_toArray, List.getElem_cons_zero, List.getElem_cons_succ, Act.put, List.setIfInBounds_toArray, List.set_cons_zero, List.set_cons_succ]; done) | (simp only [List.getElem_toArray, List.getElem_cons_zero, List.getElem_cons_succ, Act.put, List.setIfInBounds_toArray, List.set_cons_zero, List.set_cons_succ]; rfl)))
        repeat (first | (refine lin_take rfl rfl (by kernel_rfl) (fun _ _ _ h => h) (by rfl) (v := ?_) (a' := ?_) ?_ ?_ ?_; rotate_left 2; (rintro w' ⟨s0, s1⟩; go_simp; with_reducible rfl); (simp only [List.getElem_toArray, List.getElem_cons_zero, List.getElem_cons_succ, Act.put, List.setIfInBounds_toArray, List.set_cons_zero, List.set_cons_succ]; rfl)) | (refine lin_off rfl rfl (by kernel_rfl) (fun _ _ _ h => h) (by rfl) (a' := ?_) ?_ ?_; rotate_left 1; (simp only [List.getElem_toArray, List.getElem_cons_zero, List.getElem_cons_succ, Act.put, List.setIfInBounds_toArray, List.set_cons_zero, List.set_cons_succ]; rfl)))
        have q0 : (wA.alloc (.cells #[.string ⟨#[]⟩, .slice none 0 0] 26 (0, 0))).cell? ⟨wA.heap.size, 0, none⟩ = some (.string ⟨#[]⟩) := (blk_cell (heap_alloc_new wA (.cells #[.string ⟨#[]⟩, .slice none 0 0] 26 (0, 0))) 0).trans rfl
        have q1 : (wA.alloc (.cells #[.string ⟨#[]⟩, .slice none 0 0] 26 (0, 0))).cell? ⟨wA.heap.size, 1, none⟩ = some (.slice none 0 0) := (blk_cell (heap_alloc_new wA (.cells #[.string ⟨#[]⟩, .slice none 0 0] 26 (0, 0))) 1).trans rfl
        have z0 := blk_frozen (heap_alloc_new wA (.cells #[.string ⟨#[]⟩, .slice none 0 0] 26 (0, 0))) 0
        have z1 := blk_frozen (heap_alloc_new wA (.cells #[.string ⟨#[]⟩, .slice none 0 0] 26 (0, 0))) 1
        have b1 := blk_set (heap_alloc_new wA (.cells #[.string ⟨#[]⟩, .slice none 0 0] 26 (0, 0))) 0 (.string l)
        have b2 : (((wA.alloc (.cells #[.string ⟨#[]⟩, .slice none 0 0] 26 (0, 0))).setCell ⟨wA.heap.size, 0, none⟩ (.string l)).setCell ⟨wA.heap.size, 1, none⟩ (.slice A8 (P).length c8)).heap[wA.heap.size]? = some (.cells #[.string l, .slice A8 (P).length c8] 26 (0, 0)) := (blk_set b1 1 (.slice A8 (P).length c8)).trans rfl
        have sg1 := setFar (setFar (blk_alloc tg1 (.cells #[.string ⟨#[]⟩, .slice none 0 0] 26 (0, 0))) wA.heap.size 0 (.string l) (by omega)) wA.heap.size 1 (.slice A8 (P).length c8) (by omega)
        refine lin_skip (w1 := (((wA.alloc (.cells #[.string ⟨#[]⟩, .slice none 0 0] 26 (0, 0))).setCell ⟨wA.heap.size, 0, none⟩ (.string l)).setCell ⟨wA.heap.size, 1, none⟩ (.slice A8 (P).length c8))) rfl rfl (by kernel_rfl) (by rfl) (fun _ => ?r8) (fun _ => ⟨(blk_cell (sg1) 0).trans rfl, (blk_cell (sg1) 1).trans rfl⟩) ?_
        case r8 => first | (go_simp; done) | (go_simp; rfl)
        repeat (first | (refine lin_take rfl rfl (by kernel_rfl) (fun _ _ _ h => h) (by rfl) (v := ?_) (a' := ?_) ?_ ?_ ?_; rotate_left 2; (rintro w' ⟨s0, s1⟩; go_simp; with_reducible rfl); (simp only [List.getElem_toArray, List.getElem_cons_zero, List.getElem_cons_succ, Act.put, List.setIfInBounds_toArray, List.set_cons_zero, List.set_cons_succ]; rfl)) | (refine lin_off rfl rfl (by kernel_rfl) (fun _ _ _ h => h) (by rfl) (a' := ?_) ?_ ?_; rotate_left 1; (simp only [List.getElem_toArray, List.getElem_cons_zero, List.getElem_cons_succ, Act.put, List.setIfInBounds_toArray, List.set_cons_zero, List.set_cons_succ]; rfl)))
        refine lin_done (by kernel_rfl) ?_
        have hby : Below wA.heap.size wA (((wA.alloc (.cells #[.string ⟨#[]⟩, .slice none 0 0] 26 (0, 0))).setCell ⟨wA.heap.size, 0, none⟩ (.string l)).setCell ⟨wA.heap.size, 1, none⟩ (.slice A8 (P).length c8)) := (by repeat (first | (with_reducible exact (Below.refl _ _)) | (with_reducible apply below_alloc) | (with_reducible apply pw_below_drewN) | (with_reducible apply below_drew1) | with_reducible refine below_set ?_ (by first | (with_reducible exact Nat.le_refl _) | (with_reducible assumption) | (simp; done) | omega | (simp; omega))))
        go_wp2
        go_meet
        case rel => exact ⟨A7, c7, A8, c8, wA.heap.size, rfl, rfl, rfl, ⟨hL7.below hby⟩, ⟨hP7.below hby⟩, ⟨b2⟩, ⟨below_step hbx hby⟩⟩
      case cB8 =>
        have hd1 : Below w7.heap.size w7 (w7.drew.alloc (.cells #[.string ⟨#[]⟩, .slice none 0 0] 26 (0, 0))) := below_alloc hd0 _
        have vg1 := (hd1.block g1 (blk_lt bg1.out)).trans bg1.out
        refine step_value (by rfl) rfl (v := .pointer (some ⟨w7.heap.size, 0, none⟩)) (w1 := (w7.drew.alloc (.cells #[.string ⟨#[]⟩, .slice none 0 0] 26 (0, 0)))) ?rB8 (hK.out _ _ ⟨(blk_cell (vg1) 0).trans rfl, (blk_cell (vg1) 1).trans rfl⟩ ?_)
        case rB8 => first | (go_simp; done) | (go_simp; rfl)
        refine lin_norm (a' := ?_) ?_ ?_; rotate_left 1; (simp only [List.getElem_toArray, List.getElem_cons_zero, List.getElem_cons_succ, Act.put, List.setIfInBounds_toArray, List.set_cons_zero, List.set_cons_succ]; rfl)
        repeat (first | (refine lin_take rfl rfl (by kernel_rfl) (fun _ _ _ h => h) (by rfl) (v := ?_) (a' := ?_) ?_ ?_ ?_; rotate_left 2; (rintro w' ⟨s0, s1⟩; go_simp; with_reducible rfl); (simp only [List.getElem_toArray, List.getElem_cons_zero, List.getElem_cons_succ, Act.put, List.setIfInBounds_toArray, List.set_cons_zero, List.set_cons_succ]; rfl)) | (refine lin_off rfl rfl (by kernel_rfl) (fun _ _ _ h => h) (by rfl) (a' := ?_) ?_ ?_; rotate_left 1; (simp only [List.getElem_toArray, List.getElem_cons_zero, List.getElem_cons_succ, Act.put, List.setIfInBounds_toArray, List.set_cons_zero, List.set_cons_succ]; rfl)))
        refine lin_call rfl rfl rfl Tryz.func17 (by kernel_rfl) (by kernel_rfl) rfl (by rfl) (args := #[.slice A1 L.length c1, vSt l A2 c2 P, .int .i64 (j : Int), .string ⟨#[]⟩, .bool out]) (by (try simp only [List.map_toArray, List.map_cons, List.map_nil]); first | done | rfl) (fun hS => ?_)
        have hge : w7.drew.heap.size ≤ w7.heap.size := Nat.le_refl _
        refine (impl_putS (fun k => True ∧ k ≠ w7.heap.size) (Kd.V_alloc (Kd.V_elderB (Kd.V_drew hL) w7.heap.size hge) _) (Kd.V_alloc (Kd.V_elderB (Kd.V_drew hP) w7.heap.size hge) _) (by omega) (by omega) (by omega) (by decide) HR2.out (HV.out.next hd1)).mono ?_
        rintro e wA ⟨A7, c7, A8, c8, rfl, hL7, hP7, hbA⟩
        have hbx : Below w7.heap.size w7 wA := below_step hd1 hbA
        have hsz : (w7.drew.alloc (.cells #[.string ⟨#[]⟩, .slice none 0 0] 26 (0, 0))).heap.size = w7.heap.size + 1 := by show (w7.drew.heap.push _).size = _; simp
        have bz : wA.heap[w7.heap.size]? = some (.cells #[.string ⟨#[]⟩, .slice none 0 0] 26 (0, 0)) := (hbA.block _ (by rw [hsz]; exact Nat.lt_succ_self _)).trans (heap_alloc_new w7.drew _)
        have hok : ∀ k, ((True ∧ k ≠ w7.heap.size) ∨ (w7.drew.alloc (.cells #[.string ⟨#[]⟩, .slice none 0 0] 26 (0, 0))).heap.size ≤ k) → k ≠ w7.heap.size := by rw [hsz]; intro k hk; rcases hk with hk | hk; exact hk.2; omega
        have tg1 := (hbx.block g1 (blk_lt bg1.out)).trans bg1.out
        have ug1 := blk_lt bg1.out
        refine ⟨_, rfl, ⟨(blk_cell (tg1) 0).trans rfl, (blk_cell (tg1) 1).trans rfl⟩, ?_⟩
        refine lin_norm (a' := ?_) ?_ ?_; rotate_left 1; (simp only [List.getElem_toArray, List.getElem_cons_zero, List.getElem_cons_succ, Act.put, List.setIfInBounds_toArray, List.set_cons_zero, List.set_cons_succ]; rfl)
        repeat (first | (refine lin_take rfl rfl (by kernel_rfl) (fun _ _ _ h => h) (by rfl) (v := ?_) (a' := ?_) ?_ ?_ ?_; rotate_left 2; (rintro w' ⟨s0, s1⟩; go_simp; with_reducible rfl); (simp only [List.getElem_toArray, List.getElem_cons_zero, List.getElem_cons_succ, Act.put, List.setIfInBounds_toArray, List.set_cons_zero, List.set_cons_succ]; rfl)) | (refine lin_off rfl rfl (by kernel_rfl) (fun _ _ _ h => h) (by rfl) (a' := ?_) ?_ ?_; rotate_left 1; (simp only [List.getElem_toArray, List.getElem_cons_zero, List.getElem_cons_succ, Act.put, List.setIfInBounds_toArray, List.set_cons_zero, List.set_cons_succ]; rfl)))
        have q0 : wA.cell? ⟨w7.heap.size, 0, none⟩ = some (.string ⟨#[]⟩) := (blk_cell bz 0).trans rfl
        have q1 : wA.cell? ⟨w7.heap.size, 1, none⟩ = some (.slice none 0 0) := (blk_cell bz 1).trans rfl
        have z0 := blk_frozen bz 0
        have z1 := blk_frozen bz 1
        have b1 := blk_set bz 0 (.string l)
        have b2 : ((wA.setCell ⟨w7.heap.size, 0, none⟩ (.string l)).setCell ⟨w7.heap.size, 1, none⟩ (.slice A8 (P).length c8)).heap[w7.heap.size]? = some (.cells #[.string l, .slice A8 (P).length c8] 26 (0, 0)) := (blk_set b1 1 (.slice A8 (P).length c8)).trans rfl
        have sg1 := setFar (setFar tg1 w7.heap.size 0 (.string l) (by omega)) w7.heap.size 1 (.slice A8 (P).length c8) (by omega)
        refine lin_skip (w1 := ((wA.setCell ⟨w7.heap.size, 0, none⟩ (.string l)).setCell ⟨w7.heap.size, 1, none⟩ (.slice A8 (P).length c8))) rfl rfl (by kernel_rfl) (by rfl) (fun _ => ?r9) (fun _ => ⟨(blk_cell (sg1) 0).trans rfl, (blk_cell (sg1) 1).trans rfl⟩) ?_
        case r9 => first | (go_simp; done) | (go_simp; rfl)
        repeat (first | (refine lin_take rfl rfl (by kernel_rfl) (fun _ _ _ h => h) (by rfl) (v := ?_) (a' := ?_) ?_ ?_ ?_; rotate_left 2; (rintro w' ⟨s0, s1⟩; go_simp; with_reducible rfl); (simp only [List.getElem_toArray, List.getElem_cons_zero, List.getElem_cons_succ, Act.put, List.setIfInBounds_toArray, List.set_cons_zero, List.set_cons_succ]; rfl)) | (refine lin_off rfl rfl (by kernel_rfl) (fun _ _ _ h => h) (by rfl) (a' := ?_) ?_ ?_; rotate_left 1; (simp only [List.getElem_toArray, List.getElem_cons_zero, List.getElem_cons_succ, Act.put, List.setIfInBounds_toArray, List.set_cons_zero, List.set_cons_succ]; rfl)))
        refine lin_done (by kernel_rfl) ?_
        have hby : Below w7.heap.size w7 ((wA.setCell ⟨w7.heap.size, 0, none⟩ (.string l)).setCell ⟨w7.heap.size, 1, none⟩ (.slice A8 (P).length c8)) := (hbx.setCell (Nat.le_refl _) _).setCell (Nat.le_refl _) _
        have hL8 := Kd.V_mono (Kd.V_far (p := ⟨w7.heap.size, 1, none⟩) (Kd.V_far (p := ⟨w7.heap.size, 0, none⟩) hL7 hok (.string l)) hok (.slice A8 (P).length c8)) (ok' := fun _ => True) (fun _ _ => trivial)
        have hP8 := Kd.V_mono (Kd.V_far (p := ⟨w7.heap.size, 1, none⟩) (Kd.V_far (p := ⟨w7.heap.size, 0, none⟩) hP7 hok (.string l)) hok (.slice A8 (P).length c8)) (ok' := fun _ => True) (fun _ _ => trivial)
        go_wp2
        go_meet
        case rel => exact ⟨A7, c7, A8, c8, w7.heap.size, rfl, rfl, rfl, ⟨hL8⟩, ⟨hP8⟩, ⟨b2⟩, ⟨hby⟩⟩
    case rest =>
      clear k1_0 k1_1 k2_0 k2_1 k3_0 k3_1
      obtain ⟨AL7, cL7, AP7, cP7, g4, rfl, rfl, rfl, HL_, HP_, bg4, HX_⟩ := hcut
      have hL7 := HL_.out
      have hP7 := HP_.out
      have hx_ := HX_.out
      clear HL_ HP_ HX_
      replace hL := hL.below hx_
      replace hP := hP.below hx_
      replace hL3 := hL3.below hx_
      replace hP3 := hP3.below hx_
      replace hL5 := hL5.below hx_
      replace hP5 := hP5.below hx_
      replace bg1 := Aside0.mk ((hx_.block g1 (blk_lt bg1.out)).trans bg1.out)
      replace bg2 := Aside0.mk ((hx_.block g2 (blk_lt bg2.out)).trans bg2.out)
      replace bg3 := Aside0.mk ((hx_.block g3 (blk_lt bg3.out)).trans bg3.out)
      replace HB := Aside0.mk (below_step HB.out hx_)
      replace HV := Aside0.mk (HV.out.next hx_)
      clear hx_
      have k1_0 : wc.cell? ⟨g1, 0, none⟩ = some (.string l) := (blk_cell bg1.out 0).trans rfl
      have k1_1 : wc.cell? ⟨g1, 1, none⟩ = some (.slice A2 P.length c2) := (blk_cell bg1.out 1).trans rfl
      have k2_0 : wc.cell? ⟨g2, 0, none⟩ = some (.string l1) := (blk_cell bg2.out 0).trans rfl
      have k2_1 : wc.cell? ⟨g2, 1, none⟩ = some (.slice A4 P1.length c4) := (blk_cell bg2.out 1).trans rfl
      have k3_0 : wc.cell? ⟨g3, 0, none⟩ = some (.string l1) := (blk_cell bg3.out 0).trans rfl
      have k3_1 : wc.cell? ⟨g3, 1, none⟩ = some (.slice A6 P1.length c6) := (blk_cell bg3.out 1).trans rfl
      have k4_0 : wc.cell? ⟨g4, 0, none⟩ = some (.string l) := (blk_cell bg4.out 0).trans rfl
      have k4_1 : wc.cell? ⟨g4, 1, none⟩ = some (.slice AP7 (P).length cP7) := (blk_cell bg4.out 1).trans rfl
      go_wp2_with fail; refine (lz_S l (by omega) hP7 hP).mono ?_; rintro e10 w10 ⟨rfl, hb10⟩
      have hx10 := hb10
      clear k1_0 k1_1 k2_0 k2_1 k3_0 k3_1 k4_0 k4_1
      replace hL := hL.below hx10
      replace hP := hP.below hx10
      replace hL3 := hL3.below hx10
      replace hP3 := hP3.below hx10
      replace hL5 := hL5.below hx10
      replace hP5 := hP5.below hx10
      replace hL7 := hL7.below hx10
      replace hP7 := hP7.below hx10
      replace bg1 := Aside0.mk ((hx10.block g1 (blk_lt bg1.out)).trans bg1.out)
      replace bg2 := Aside0.mk ((hx10.block g2 (blk_lt bg2.out)).trans bg2.out)
      replace bg3 := Aside0.mk ((hx10.block g3 (blk_lt bg3.out)).trans bg3.out)
      replace bg4 := Aside0.mk ((hx10.block g4 (blk_lt bg4.out)).trans bg4.out)
      replace HB := Aside0.mk (below_step HB.out hx10)
      replace HV := Aside0.mk (HV.out.next hx10)
      clear hx10 hb10
      have k1_0 : w10.cell? ⟨g1, 0, none⟩ = some (.string l) := (blk_cell bg1.out 0).trans rfl
      have k1_1 : w10.cell? ⟨g1, 1, none⟩ = some (.slice A2 P.length c2) := (blk_cell bg1.out 1).trans rfl
      have k2_0 : w10.cell? ⟨g2, 0, none⟩ = some (.string l1) := (blk_cell bg2.out 0).trans rfl
      have k2_1 : w10.cell? ⟨g2, 1, none⟩ = some (.slice A4 P1.length c4) := (blk_cell bg2.out 1).trans rfl
      have k3_0 : w10.cell? ⟨g3, 0, none⟩ = some (.string l1) := (blk_cell bg3.out 0).trans rfl
      have k3_1 : w10.cell? ⟨g3, 1, none⟩ = some (.slice A6 P1.length c6) := (blk_cell bg3.out 1).trans rfl
      have k4_0 : w10.cell? ⟨g4, 0, none⟩ = some (.string l) := (blk_cell bg4.out 0).trans rfl
      have k4_1 : w10.cell? ⟨g4, 1, none⟩ = some (.slice AP7 (P).length cP7) := (blk_cell bg4.out 1).trans rfl
      go_wp2_with fail; refine (lz_M (by omega) hL7 hL).mono ?_; rintro e11 w11 ⟨rfl, hb11⟩
      have hx11 := hb11
      clear k1_0 k1_1 k2_0 k2_1 k3_0 k3_1 k4_0 k4_1
      replace hL := hL.below hx11
      replace hP := hP.below hx11
      replace hL3 := hL3.below hx11
      replace hP3 := hP3.below hx11
      replace hL5 := hL5.below hx11
      replace hP5 := hP5.below hx11
      replace hL7 := hL7.below hx11
      replace hP7 := hP7.below hx11
      replace bg1 := Aside0.mk ((hx11.block g1 (blk_lt bg1.out)).trans bg1.out)
      replace bg2 := Aside0.mk ((hx11.block g2 (blk_lt bg2.out)).trans bg2.out)
      replace bg3 := Aside0.mk ((hx11.block g3 (blk_lt bg3.out)).trans bg3.out)
      replace bg4 := Aside0.mk ((hx11.block g4 (blk_lt bg4.out)).trans bg4.out)
      replace HB := Aside0.mk (below_step HB.out hx11)
      replace HV := Aside0.mk (HV.out.next hx11)
      clear hx11 hb11
      go_wp2
      refine bodyPost_ret (v := (.bool true)) (by simp [results, Tryz.results5, go_sem, zEn, *]) rfl ⟨rfl, HB.out⟩
end Go.Proofs.YtfjbjiklohjodaaGreatDoor.Z
namespace Go.Proofs.YtfjbjiklohjodaaGreatDoor.fnPutNone
open Go.ChangeShapes Go.WideShapes Go.ChangeAt Go.RowKit Go.Proofs.YtfjbjiklohjodaaGreatDoorW.PrintWords
open Go.ChangeMaps (open_string shut_string)
set_option linter.unusedVariables false
theorem own : ownKnob Tryz.prog.godebug = none := by kernel_rfl
theorem laidOut : laidOutB Tryz.prog = true := by kernel_rfl
set_option maxRecDepth 100000 in
theorem lifted (os : Os) (started : os.Started) (H : Type) (enc : TypeId × Value → H) :
    ReturnsInHanded {} Tryz.checked os 5 .any (fun w args => (Rows.fnPutNoneSpec.pre enc Tryz.prog Tryz.f5 Rows.fnPutNoneRow.domain false w args ∧ laidMetH Tryz.prog Z.laidL w) ∧ sizedMet enc Tryz.prog Tryz.f5 (OpenSpec.ofChange Rows.fnPutNoneSpec) false w args)
      (Rows.fnPutNoneSpec.post enc Tryz.prog Tryz.f5 false true false false) := by
  refine Z.wrap_laid (C := Tryz.checked) (X := fun w _ => laidMetH Tryz.prog Z.laidL w) (fun _ _ _ hh h => h.of_heap hh) own started (by kernel_rfl) Tryz.func5
    (ChangeSpec.witness_shaped (enc := enc) (C := Tryz.checked) (os := os) (X := fun w _ => laidMetH Tryz.prog Z.laidL w) false (World.laidAll Tryz.prog os Z.laidL) #[.slice none 0 0, .slice none 0 0] 8 (World.laidAll_os _ _ _)
      (World.shaped_of_ZipB (by kernel_rfl) (by kernel_rfl)) (by kernel_rfl) (by kernel_rfl) (by kernel_rfl) (Z.laid_met os _)) ?_
  intro W base args ds gs before hval0 hW hL hsh
  have hvars := Z.vars_of hL hsh
  have hval : ∀ (j : Nat) t v, Tryz.f5.params[j]? = some t → args[j]? = some v → Value.okWide Tryz.prog W .any base t v := hval0
  have hW' := hW
  obtain ⟨p, q, hA0, hV, rfl, hfz, hnd⟩ := hW
  have hA : DataW.TrodAll enc Tryz.prog W 0 (fun _ => true) true Tryz.f5.params.toList args.toList ds p := hA0
  rw [Tryz.params5] at hA hval
  obtain ⟨v0, vs0, d0, ds0, p0, q0, hargs, rfl, rfl, h0, r0⟩ := trodAll_cons hA
  obtain ⟨v1, vs1, d1, ds1, p1, q1, rfl, rfl, rfl, h1, r1⟩ := trodAll_cons r0
  obtain ⟨rfl, rfl, rfl⟩ := trodAll_nil r1
  obtain rfl : args = #[v0, v1] := by cases args; simp_all
  obtain ⟨rfl, rfl⟩ := trodVars_none hV
  obtain ⟨a0, len0, cap0, rfl⟩ := okWide_slice Tryz.underlying22 (hval 0 22 v0 rfl rfl)
  have k0 := h0
  have lt0 : ∀ x ∈ p0, x.block < W.heap.size := by obtain ⟨m, hm⟩ := k0; exact DataW.trod_lt m _ _ _ hm
  obtain ⟨fuel0, hf0⟩ := h0
  obtain ⟨xs0, ⟨A0, c0, hcs0, hl0, hC0⟩, hg0⟩ := Z.openBytes.2 _ _ _ _ _ _ _ _ _ hf0
  simp [Value.cells] at hcs0
  obtain ⟨rfl, rfl, rfl⟩ := hcs0
  obtain ⟨a1, len1, cap1, rfl⟩ := okWide_slice Tryz.underlying22 (hval 1 22 v1 rfl rfl)
  have k1 := h1
  have lt1 : ∀ x ∈ p1, x.block < W.heap.size := by obtain ⟨m, hm⟩ := k1; exact DataW.trod_lt m _ _ _ hm
  obtain ⟨fuel1, hf1⟩ := h1
  obtain ⟨xs1, ⟨A1, c1, hcs1, hl1, hC1⟩, hg1⟩ := Z.openBytes.2 _ _ _ _ _ _ _ _ _ hf1
  simp [Value.cells] at hcs1
  obtain ⟨rfl, rfl, rfl⟩ := hcs1
  clear hA0 hval0
  refine (Z.law_FnPutNone a0 xs0.length cap0 xs0 a1 xs1.length cap1 xs1 W hC0 hl0 (Z.bytes_le hg0) hC1 hl1 (Z.bytes_le hg1) hvars).mono ?_
  rintro e W' ⟨rfl, bel⟩
  exact ⟨_, rfl, _, _, _, [], _, [], hW', trodAll_mk1 (shut_bool Tryz.underlying4 _), (trodAll_cons_mk (Below.trod laidOut (by kernel_rfl) (of_decide_eq_true (by kernel_rfl)) k0 bel lt0) (trodAll_cons_mk (Below.trod laidOut (by kernel_rfl) (of_decide_eq_true (by kernel_rfl)) k1 bel lt1) trodAll_mk0)), rfl, bel.frame _, fun h => by cases h⟩
theorem over : Rows.fnPutNoneRow.holds Tryz.pinned (OpenSpec.ofChange Rows.fnPutNoneSpec) :=
  OpenClaim.holds_of_wide 5 Tryz.f5 rfl rfl rfl rfl rfl rfl rfl ⟨rfl, rfl, rfl, rfl, rfl⟩ rfl rfl rfl rfl rfl (by kernel_rfl) Tryz.func5 jf
    (of_decide_eq_true (by kernel_rfl)) (by unfold Func.isWrapper; first | (rw [if_pos (by decide +kernel)]; kernel_rfl) | (rw [if_neg (by decide +kernel)]; exact ⟨rfl, rfl⟩))
    (fun os started H enc _ => lifted os started H enc)
end Go.Proofs.YtfjbjiklohjodaaGreatDoor.fnPutNone
namespace Go.Proofs.YtfjbjiklohjodaaGreatDoor
theorem fnPutNone_card : Rows.FnPutNoneCardSaid :=
  Claim7.holds_tied_plain_at .later [] Rows.fnPutNoneCard.laidKinds true Rows.fnPutNoneCard.stood.harness true
    fnPutNone.over (fun _ h => by cases h) (by kernel_rfl) (fun _ h => by cases h) fnPutNone_row_tie rfl ⟨rfl, rfl⟩ (by kernel_rfl) rfl
    (fun f fn hf hfn => by
      obtain rfl : f = 5 := Option.some.inj ((show Tryz.prog.funcNamed Rows.fnPutNoneRow.func = some 5 by kernel_rfl).symm.trans hf) |>.symm
      obtain rfl : fn = Tryz.f5 := (Option.some.inj (Tryz.func5.symm.trans hfn)).symm
      exact ⟨by kernel_rfl, fun j t ht => by
        rw [Tryz.params5] at ht
        have hm : t ∈ [22, 22] := by simpa using Array.mem_of_getElem? ht
        have hall : ([22, 22].all fun u => !Tryz.prog.wantsStandIn u) = true := by kernel_rfl
        exact (show Tryz.prog.wantsStandIn t = false by simpa using List.all_eq_true.1 hall t hm)⟩)
    (by kernel_rfl)
#print axioms fnPutNone_card
end Go.Proofs.YtfjbjiklohjodaaGreatDoor
