/- The closed facts of the row of FnPutMore. Plain laws of the printed functions: as what a stream went on; how much came for what went on. What the laws on streams call, told plainly: what is drawn, StreamPut of both, whether streams and pairs are the same. A stream's beginning: what the law FnPutMore calls, and what it says, plainly. The law FnPutMore, walked by hand over what it calls. For every code FnPutMore returns true and leaves its argument as it was: what was said stays said, and more comes behind it. -/
import Derived.Test.YtfjbjiklohjodaaGreatDoorRows
import Derived.Test.YtfjbjiklohjodaaGreatDoorTie
import Derived.Test.YtfjbjiklohjodaaGreatDoorCards
import Derived.Test.YtfjbjiklohjodaaGreatDoorBp6
import Derived.Stop.Joined
import Derived.WalkKit
import Derived.ProofKit
import Derived.Deep.CutBlock
import Derived.SevenTiedAt
import Derived.OpenShut
import Derived.ShutString
import Derived.ChangeOld
import Derived.Below
import Derived.SizedLaws
namespace Go.Proofs.YtfjbjiklohjodaaGreatDoor.fnPutMore
open Go.ChangeShapes Go.WideShapes Go.ChangeAt Go.RowKit
set_option maxHeartbeats 8000000 in
set_option maxRecDepth 100000 in
theorem jf : joinedFacts Tryz.pinned.checked.prog 8 Tryz.f8 Rows.fnPutMoreSpec Rows.fnPutMoreRow = true := by
  unfold joinedFacts
  repeat' (with_reducible refine Bool.and_eq_true_iff.2 ⟨?_, ?_⟩)
  all_goals (as_aux_lemma => kernel_rfl)
end Go.Proofs.YtfjbjiklohjodaaGreatDoor.fnPutMore
namespace Go.Proofs.YtfjbjiklohjodaaGreatDoor.Q
open Go.RowKit Go.Proofs.YtfjbjiklohjodaaGreatDoorW.PrintWords Go.Proofs.YtfjbjiklohjodaaGreatDoorW.PrintLast Go.Proofs.YtfjbjiklohjodaaGreatDoorW.PrintMore
attribute [local go_sem] max2_int min2_int max_two min_two max_three min_three max_four min_four
set_option linter.unusedVariables false
set_option linter.unusedSimpArgs false
noncomputable section
def laws_lzBegins.f (a0 : ByteArray) (a1 : ByteArray) : Option (Bool) := if (a0.size : Int) ≤ (a1.size : Int) then (if 0 ≤ (a0.size : Int) then (some ((a1.extract 0 ((a0.size : Int) : Int).toNat).toList == a0.toList)) else (none)) else (some false)
set_option maxHeartbeats 8000000 in
set_option maxRecDepth 100000 in
theorem laws_lzBegins.calls (a0 : ByteArray) (a1 : ByteArray) (r : Bool) (w : World) (h : laws_lzBegins.f a0 a1 = some r) :
  Calls Tryz.prog 24 #[.string a0, .string a1] w fun e w' => e = .returned (.bool r) ∧ Drawn0 w w' := by
 have H : (if (a0.size : Int) ≤ (a1.size : Int) then (if 0 ≤ (a0.size : Int) then (some ((a1.extract 0 ((a0.size : Int) : Int).toNat).toList == a0.toList)) else (none)) else (some false)) = some r := h
 clear h
 by_cases c3 : (a0.size : Int) ≤ (a1.size : Int)
 ·rw [if_pos c3] at H; have c3b0 : decide ((a0.size : Int) ≤ (a1.size : Int)) = true := decide_eq_true c3; have c3b1 : decide (a0.size ≤ a1.size) = true := decide_eq_true (Int.ofNat_le.mp c3); clear c3
  by_cases c4 : 0 ≤ (a0.size : Int)
  ·rw [if_pos c4] at H; have c4b0 := eq_true c4; have c4b1 : decide (0 ≤ (a0.size : Int)) = true := decide_eq_true c4; clear c4; have c5b0 := eq_true (of_decide_eq_true d11_ : (a0.size : Int) ≤ (a1.size : Int)); obtain rfl := Option.some.inj H
   go_enter Tryz.func24, Tryz.ntmps24
   go_wp2
   go_ret
   exact ⟨d42_, d41_⟩
  rw [if_neg c4] at H; exact absurd H (by simp)
 rw [if_neg c3] at H
 have c3b0 : decide ((a0.size : Int) ≤ (a1.size : Int)) = false := decide_eq_false c3
 have c3b1 : decide (a0.size ≤ a1.size) = false := decide_eq_false (fun h => c3 (Int.ofNat_le.mpr h))
 clear c3
 obtain rfl := Option.some.inj H
 go_enter Tryz.func24, Tryz.ntmps24
 go_wp2
 go_ret
 exact ⟨d42_, d41_⟩
end
end Go.Proofs.YtfjbjiklohjodaaGreatDoor.Q
namespace Go.Proofs.YtfjbjiklohjodaaGreatDoor.Q
open Go.RowKit Go.Proofs.YtfjbjiklohjodaaGreatDoorW.PrintWords Go.Proofs.YtfjbjiklohjodaaGreatDoorW.PrintMore Go.Proofs.YtfjbjiklohjodaaGreatDoor.Z
set_option linter.unusedVariables false
set_option linter.unusedSimpArgs false
theorem lzBegins_pre (l r : List UInt8) : laws_lzBegins.f (mkB l) (mkB (l ++ r)) = some true := by
  unfold laws_lzBegins.f
  rw [size_mkB, size_mkB, if_pos (by rw [List.length_append]; omega), if_pos (by omega), Int.toNat_natCast, extM, List.drop_zero, Nat.sub_zero, List.take_left]
  simp
end Go.Proofs.YtfjbjiklohjodaaGreatDoor.Q
namespace Go.Proofs.YtfjbjiklohjodaaGreatDoor.Q
open Go Go.RowKit Go.Proofs.YtfjbjiklohjodaaGreatDoorW.PrintWords Go.Proofs.YtfjbjiklohjodaaGreatDoorW.PrintMore Go.Proofs.YtfjbjiklohjodaaGreatDoor.Z
set_option linter.unusedVariables false
set_option linter.unusedSimpArgs false
section
variable {w : World} {A A2 : Option Addr} {c c2 : Nat} {L L1 : List S111} {l l1 : ByteArray} {P P1 : List S109} {a : Int} {x : ByteArray} {out ok : Bool}
theorem implStreamOk_c (l : ByteArray) (hl : l.size ≤ 1000) (hp : P.length ≤ 1000) (h : VT w A c P) (hV : VarsIn w) : Calls Tryz.prog 25 #[vSt l A c P] w fun e w' => e = .returned (.bool (stOkB (bl l) (P.map spOf))) ∧ Below w.heap.size w w' := by
  have h1 := impl_StreamOk_to 3001 (by omega) (bl l) (by rw [bl_len]; omega) (P.map spOf) (by rw [List.length_map]; omega)
  rw [mkB_bl, sps_to_of] at h1
  exact impl_StreamOk.calls 3001 l A c P _ w h.C h.c hV h1
end
end Go.Proofs.YtfjbjiklohjodaaGreatDoor.Q
namespace Go.Proofs.YtfjbjiklohjodaaGreatDoor.Q
open Go Go.RowKit Go.Proofs.YtfjbjiklohjodaaGreatDoorW.PrintWords Go.Proofs.YtfjbjiklohjodaaGreatDoorW.PrintMore Go.Proofs.YtfjbjiklohjodaaGreatDoor.Z
set_option linter.unusedVariables false
set_option linter.unusedSimpArgs false
section
variable {w : World} {A A2 : Option Addr} {c c2 : Nat} {L L1 : List S111} {l l1 : ByteArray} {P P1 : List S109} {a : Int} {x : ByteArray} {out ok : Bool}
theorem VT.take {k : Nat} (h : VT w A c P) (hk : k ≤ P.length) : VT w A c (P.take k) := by
  obtain ⟨A', c', e, hl, hf⟩ := h
  injection e with e1 e2 e3
  subst e1 e3
  exact ⟨A, c, rfl, by rw [List.length_take]; omega, Kd.F_take hf hk⟩
theorem begins_c {s t : ByteArray} {r : List UInt8} (h : bl t = bl s ++ r) : Calls Tryz.prog 24 #[.string s, .string t] w fun e w' => e = .returned (.bool true) ∧ Below w.heap.size w w' := by
  have h1 := lzBegins_pre (bl s) r
  rw [← h, mkB_bl, mkB_bl] at h1
  exact (laws_lzBegins.calls s t _ w h1).mono fun e w' h => ⟨h.1, h.2.below⟩
theorem putF_more (hm : mapOkB (L.map prOf) = true) (hs : stOkB (bl l) (P.map spOf) = true) (hx : textOk (bl x) = true) (ha : 0 ≤ a ∧ a ≤ 40) (hR : putF L l P a x out = (L1, l1, P1, ok)) :
    stOkB (bl l1) (P1.map spOf) = true ∧ (∃ r, bl l1 = bl l ++ r) ∧ P.length ≤ P1.length ∧ P1.take P.length = P ∧ (∃ r, outS2 (P1.map spOf) = outS2 (P.map spOf) ++ r) ∧
    (ok = true → (l1.size : Int) = max (l.size : Int) (a + (x.size : Int))) ∧ (ok = false → l1 = l ∧ P1 = P ∧ (a > (l.size : Int) ∨ a + (x.size : Int) > 40)) := by
  obtain ⟨⟨m, l', ps, ok'⟩, hR2⟩ : ∃ R, putS (L.map prOf) (bl l) (P.map spOf) a (bl x) out = R := ⟨_, rfl⟩
  unfold putF at hR
  rw [putAll_ok hm hs hx ha, hR2] at hR
  simp only [Prod.mk.injEq] at hR
  obtain ⟨rfl, rfl, rfl, rfl⟩ := hR
  obtain ⟨hx1, hx2, ⟨r, hr⟩, ⟨qs, hq⟩, hy1, hy2, hy3⟩ := putS_ok (out := out) hm (stOkB_iff.1 hs) hx ha.1 hR2
  refine ⟨by rw [sps_of_to]; exact stOkB_iff.2 hx2, ⟨r, hr⟩, ?_, ?_, ⟨outS2 qs, ?_⟩, fun h => (hy1 h).1, fun h => ?_⟩
  · rw [List.length_map, hq, List.length_append, List.length_map]
    omega
  · rw [hq, List.map_append, sps_to_of, List.take_left]
  · rw [sps_of_to, hq]
    unfold outS2
    rw [List.map_append, List.flatten_append]
  · obtain ⟨_, e2, e3, e4⟩ := hy2 h
    refine ⟨?_, ?_, e4⟩
    · rw [e2, mkB_bl]
    · rw [e3, sps_to_of]
end
end Go.Proofs.YtfjbjiklohjodaaGreatDoor.Q
namespace Go.Proofs.YtfjbjiklohjodaaGreatDoor.Z
open Go Go.RowKit Go.Proofs.YtfjbjiklohjodaaGreatDoorW.PrintWords Go.Proofs.YtfjbjiklohjodaaGreatDoorW.PrintLast Go.Proofs.YtfjbjiklohjodaaGreatDoorW.PrintMore Go.Proofs.YtfjbjiklohjodaaGreatDoor.Q
set_option linter.unusedVariables false
set_option linter.unusedSimpArgs false
attribute [local go_sem ↓] Go.wp_at_zero Go.wp_at_succ
set_option maxRecDepth 100000 in
set_option maxHeartbeats 4000000 in
theorem law_FnPutMore (A : Option Addr) (n c : Nat) (bs : List Int) (w : World) (hC : Kd.C (Kd.int .u8) w A n bs) (hl : n ≤ c) (hb : ∀ b ∈ bs, (0 : Int) ≤ b ∧ b ≤ 255) (hV : VarsIn w) :
    Calls Tryz.prog 8 #[.slice A n c] w fun e w' => e = .returned (.bool true) ∧ Below w.heap.size w w' := by
  have HB := Aside0.mk (Below.refl w.heap.size w)
  have HV := Aside0.mk hV
  have HC := Aside0.mk hC
  clear hV hC
  by_cases h0 : n > 1048576
  · have t0 : decide ((n : Int) > 1048576) = true := decide_eq_true (by omega)
    have t1 : decide ((1048576 : Int) < (n : Int)) = true := decide_eq_true (by omega)
    go_enter Tryz.func8, Tryz.ntmps8
    go_wp2
    refine bodyPost_ret (v := (.bool true)) (by simp [results, Tryz.results8, go_sem, zEn, *]) rfl ⟨rfl, HB.out⟩
  have t0 : decide ((n : Int) > 1048576) = false := decide_eq_false (by omega)
  have t1 : decide ((1048576 : Int) < (n : Int)) = false := decide_eq_false (by omega)
  go_enter Tryz.func8, Tryz.ntmps8
  go_wp2_with fail; refine (draw_put A n c bs _ HC.out hb hl).mono ?_; rintro e1 w1 ⟨A1, c1, L, l, A2, c2, P, a, x, out, rfl, hL, hP, hm, hLn, hln, hPn, ha, hx, hb1⟩
  have hx1 := hb1
  replace HB := Aside0.mk (below_step HB.out hx1)
  replace HV := Aside0.mk (HV.out.next hx1)
  clear hx1 hb1
  obtain ⟨⟨L1, l1, P1, ok⟩, hR⟩ : ∃ R, putF L l P a x out = R := ⟨_, rfl⟩
  obtain ⟨hL1n, hl1n, hP1n⟩ := putF_len hR
  have HR := Aside0.mk hR
  clear hR
  have kn_0 : (w1.alloc (.cells #[.string l, .slice A2 P.length c2] 26 (0, 0))).cell? ⟨w1.heap.size, 0, none⟩ = some (.string l) := (blk_cell (heap_alloc_new w1 _) 0).trans rfl
  have kn_1 : (w1.alloc (.cells #[.string l, .slice A2 P.length c2] 26 (0, 0))).cell? ⟨w1.heap.size, 1, none⟩ = some (.slice A2 P.length c2) := (blk_cell (heap_alloc_new w1 _) 1).trans rfl
  go_wp2_with fail; refine (spec_put (hL.below (below_alloc (Below.refl _ _) _)) (hP.below (below_alloc (Below.refl _ _) _)) (by omega) (by omega) (by omega) HR.out).mono ?_; rintro e2 w2 ⟨A3, c3, A4, c4, rfl, hL3, hP3, hb2⟩
  have hx2 : Below w1.heap.size w1 w2 := below_step (below_alloc (Below.refl _ _) _) hb2
  obtain ⟨g1, hg1⟩ : ∃ g, g = w1.heap.size := ⟨_, rfl⟩
  have bg1 : Aside0 (w2.heap[g1]? = some (.cells #[.string l, .slice A2 P.length c2] 26 (0, 0))) := ⟨by rw [hg1]; exact (hb2.block _ (by show w1.heap.size < (w1.heap.push _).size; simp)).trans (heap_alloc_new w1 _)⟩
  rw [← hg1]
  clear hg1
  clear kn_0 kn_1
  replace hL := hL.below hx2
  replace hP := hP.below hx2
  replace HB := Aside0.mk (below_step HB.out hx2)
  replace HV := Aside0.mk (HV.out.next hx2)
  clear hx2 hb2
  have k1_0 : (w2.alloc (.cells #[.string l1, .slice A4 P1.length c4] 26 (0, 0))).cell? ⟨g1, 0, none⟩ = some (.string l) := (blk_cell (blk_alloc bg1.out _) 0).trans rfl
  have k1_1 : (w2.alloc (.cells #[.string l1, .slice A4 P1.length c4] 26 (0, 0))).cell? ⟨g1, 1, none⟩ = some (.slice A2 P.length c2) := (blk_cell (blk_alloc bg1.out _) 1).trans rfl
  have kn_0 : (w2.alloc (.cells #[.string l1, .slice A4 P1.length c4] 26 (0, 0))).cell? ⟨w2.heap.size, 0, none⟩ = some (.string l1) := (blk_cell (heap_alloc_new w2 _) 0).trans rfl
  have kn_1 : (w2.alloc (.cells #[.string l1, .slice A4 P1.length c4] 26 (0, 0))).cell? ⟨w2.heap.size, 1, none⟩ = some (.slice A4 P1.length c4) := (blk_cell (heap_alloc_new w2 _) 1).trans rfl
  go_wp2_with fail; refine (impl_put (hL.below (below_alloc (Below.refl _ _) _)) (hP.below (below_alloc (Below.refl _ _) _)) (by omega) (by omega) (by omega) (by omega) HR.out (HV.out.next (below_alloc (Below.refl _ _) _))).mono ?_; rintro e3 w3 ⟨A5, c5, A6, c6, rfl, hL5, hP5, hb3⟩
  have hx3 : Below w2.heap.size w2 w3 := below_step (below_alloc (Below.refl _ _) _) hb3
  obtain ⟨g2, hg2⟩ : ∃ g, g = w2.heap.size := ⟨_, rfl⟩
  have bg2 : Aside0 (w3.heap[g2]? = some (.cells #[.string l1, .slice A4 P1.length c4] 26 (0, 0))) := ⟨by rw [hg2]; exact (hb3.block _ (by show w2.heap.size < (w2.heap.push _).size; simp)).trans (heap_alloc_new w2 _)⟩
  rw [← hg2]
  clear hg2
  clear k1_0 k1_1 kn_0 kn_1
  replace hL := hL.below hx3
  replace hP := hP.below hx3
  replace hL3 := hL3.below hx3
  replace hP3 := hP3.below hx3
  replace bg1 := Aside0.mk ((hx3.block g1 (blk_lt bg1.out)).trans bg1.out)
  replace HB := Aside0.mk (below_step HB.out hx3)
  replace HV := Aside0.mk (HV.out.next hx3)
  clear hx3 hb3
  have hne : (ok != ok) = false := by simp
  have heq : (ok == ok) = true := by simp
  have k1_0 : (w3.alloc (.cells #[.string l1, .slice A6 P1.length c6] 26 (0, 0))).cell? ⟨g1, 0, none⟩ = some (.string l) := (blk_cell (blk_alloc bg1.out _) 0).trans rfl
  have k1_1 : (w3.alloc (.cells #[.string l1, .slice A6 P1.length c6] 26 (0, 0))).cell? ⟨g1, 1, none⟩ = some (.slice A2 P.length c2) := (blk_cell (blk_alloc bg1.out _) 1).trans rfl
  have k2_0 : (w3.alloc (.cells #[.string l1, .slice A6 P1.length c6] 26 (0, 0))).cell? ⟨g2, 0, none⟩ = some (.string l1) := (blk_cell (blk_alloc bg2.out _) 0).trans rfl
  have k2_1 : (w3.alloc (.cells #[.string l1, .slice A6 P1.length c6] 26 (0, 0))).cell? ⟨g2, 1, none⟩ = some (.slice A4 P1.length c4) := (blk_cell (blk_alloc bg2.out _) 1).trans rfl
  have kn_0 : (w3.alloc (.cells #[.string l1, .slice A6 P1.length c6] 26 (0, 0))).cell? ⟨w3.heap.size, 0, none⟩ = some (.string l1) := (blk_cell (heap_alloc_new w3 _) 0).trans rfl
  have kn_1 : (w3.alloc (.cells #[.string l1, .slice A6 P1.length c6] 26 (0, 0))).cell? ⟨w3.heap.size, 1, none⟩ = some (.slice A6 P1.length c6) := (blk_cell (heap_alloc_new w3 _) 1).trans rfl
  go_wp2_with fail; refine (lz_S l1 (by omega) (hP5.below (below_alloc (Below.refl _ _) _)) (hP3.below (below_alloc (Below.refl _ _) _))).mono ?_; rintro e4 w4 ⟨rfl, hb4⟩
  have hx4 : Below w3.heap.size w3 w4 := below_step (below_alloc (Below.refl _ _) _) hb4
  obtain ⟨g3, hg3⟩ : ∃ g, g = w3.heap.size := ⟨_, rfl⟩
  have bg3 : Aside0 (w4.heap[g3]? = some (.cells #[.string l1, .slice A6 P1.length c6] 26 (0, 0))) := ⟨by rw [hg3]; exact (hb4.block _ (by show w3.heap.size < (w3.heap.push _).size; simp)).trans (heap_alloc_new w3 _)⟩
  rw [← hg3]
  clear hg3
  clear k1_0 k1_1 k2_0 k2_1 kn_0 kn_1
  replace hL := hL.below hx4
  replace hP := hP.below hx4
  replace hL3 := hL3.below hx4
  replace hP3 := hP3.below hx4
  replace hL5 := hL5.below hx4
  replace hP5 := hP5.below hx4
  replace bg1 := Aside0.mk ((hx4.block g1 (blk_lt bg1.out)).trans bg1.out)
  replace bg2 := Aside0.mk ((hx4.block g2 (blk_lt bg2.out)).trans bg2.out)
  replace HB := Aside0.mk (below_step HB.out hx4)
  replace HV := Aside0.mk (HV.out.next hx4)
  clear hx4 hb4
  have k1_0 : w4.cell? ⟨g1, 0, none⟩ = some (.string l) := (blk_cell bg1.out 0).trans rfl
  have k1_1 : w4.cell? ⟨g1, 1, none⟩ = some (.slice A2 P.length c2) := (blk_cell bg1.out 1).trans rfl
  have k2_0 : w4.cell? ⟨g2, 0, none⟩ = some (.string l1) := (blk_cell bg2.out 0).trans rfl
  have k2_1 : w4.cell? ⟨g2, 1, none⟩ = some (.slice A4 P1.length c4) := (blk_cell bg2.out 1).trans rfl
  have k3_0 : w4.cell? ⟨g3, 0, none⟩ = some (.string l1) := (blk_cell bg3.out 0).trans rfl
  have k3_1 : w4.cell? ⟨g3, 1, none⟩ = some (.slice A6 P1.length c6) := (blk_cell bg3.out 1).trans rfl
  go_wp2_with fail; refine (lz_M (by omega) hL5 hL3).mono ?_; rintro e5 w5 ⟨rfl, hb5⟩
  have hx5 := hb5
  clear k1_0 k1_1 k2_0 k2_1 k3_0 k3_1
  replace hL := hL.below hx5
  replace hP := hP.below hx5
  replace hL3 := hL3.below hx5
  replace hP3 := hP3.below hx5
  replace hL5 := hL5.below hx5
  replace hP5 := hP5.below hx5
  replace bg1 := Aside0.mk ((hx5.block g1 (blk_lt bg1.out)).trans bg1.out)
  replace bg2 := Aside0.mk ((hx5.block g2 (blk_lt bg2.out)).trans bg2.out)
  replace bg3 := Aside0.mk ((hx5.block g3 (blk_lt bg3.out)).trans bg3.out)
  replace HB := Aside0.mk (below_step HB.out hx5)
  replace HV := Aside0.mk (HV.out.next hx5)
  clear hx5 hb5
  have k1_0 : w5.cell? ⟨g1, 0, none⟩ = some (.string l) := (blk_cell bg1.out 0).trans rfl
  have k1_1 : w5.cell? ⟨g1, 1, none⟩ = some (.slice A2 P.length c2) := (blk_cell bg1.out 1).trans rfl
  have k2_0 : w5.cell? ⟨g2, 0, none⟩ = some (.string l1) := (blk_cell bg2.out 0).trans rfl
  have k2_1 : w5.cell? ⟨g2, 1, none⟩ = some (.slice A4 P1.length c4) := (blk_cell bg2.out 1).trans rfl
  have k3_0 : w5.cell? ⟨g3, 0, none⟩ = some (.string l1) := (blk_cell bg3.out 0).trans rfl
  have k3_1 : w5.cell? ⟨g3, 1, none⟩ = some (.slice A6 P1.length c6) := (blk_cell bg3.out 1).trans rfl
  go_wp2_with fail; refine (mapOk_c (by omega) hL).mono ?_; rintro e6 w6 ⟨rfl, hb6⟩
  rw [hm]
  have hx6 := hb6
  clear k1_0 k1_1 k2_0 k2_1 k3_0 k3_1
  replace hL := hL.below hx6
  replace hP := hP.below hx6
  replace hL3 := hL3.below hx6
  replace hP3 := hP3.below hx6
  replace hL5 := hL5.below hx6
  replace hP5 := hP5.below hx6
  replace bg1 := Aside0.mk ((hx6.block g1 (blk_lt bg1.out)).trans bg1.out)
  replace bg2 := Aside0.mk ((hx6.block g2 (blk_lt bg2.out)).trans bg2.out)
  replace bg3 := Aside0.mk ((hx6.block g3 (blk_lt bg3.out)).trans bg3.out)
  replace HB := Aside0.mk (below_step HB.out hx6)
  replace HV := Aside0.mk (HV.out.next hx6)
  clear hx6 hb6
  obtain ⟨q, hq⟩ : ∃ q, stOkB (bl l) (P.map spOf) = q := ⟨_, rfl⟩
  have k1_0 : w6.cell? ⟨g1, 0, none⟩ = some (.string l) := (blk_cell bg1.out 0).trans rfl
  have k1_1 : w6.cell? ⟨g1, 1, none⟩ = some (.slice A2 P.length c2) := (blk_cell bg1.out 1).trans rfl
  have k2_0 : w6.cell? ⟨g2, 0, none⟩ = some (.string l1) := (blk_cell bg2.out 0).trans rfl
  have k2_1 : w6.cell? ⟨g2, 1, none⟩ = some (.slice A4 P1.length c4) := (blk_cell bg2.out 1).trans rfl
  have k3_0 : w6.cell? ⟨g3, 0, none⟩ = some (.string l1) := (blk_cell bg3.out 0).trans rfl
  have k3_1 : w6.cell? ⟨g3, 1, none⟩ = some (.slice A6 P1.length c6) := (blk_cell bg3.out 1).trans rfl
  go_wp2_with fail; refine (streamOk_c l (by omega) hP).mono ?_; rintro e7 w7 ⟨rfl, hb7⟩
  rw [hq]
  have hx7 := hb7
  clear k1_0 k1_1 k2_0 k2_1 k3_0 k3_1
  replace hL := hL.below hx7
  replace hP := hP.below hx7
  replace hL3 := hL3.below hx7
  replace hP3 := hP3.below hx7
  replace hL5 := hL5.below hx7
  replace hP5 := hP5.below hx7
  replace bg1 := Aside0.mk ((hx7.block g1 (blk_lt bg1.out)).trans bg1.out)
  replace bg2 := Aside0.mk ((hx7.block g2 (blk_lt bg2.out)).trans bg2.out)
  replace bg3 := Aside0.mk ((hx7.block g3 (blk_lt bg3.out)).trans bg3.out)
  replace HB := Aside0.mk (below_step HB.out hx7)
  replace HV := Aside0.mk (HV.out.next hx7)
  clear hx7 hb7
  cases q with
  | false =>
    have k1_0 : w7.cell? ⟨g1, 0, none⟩ = some (.string l) := (blk_cell bg1.out 0).trans rfl
    have k1_1 : w7.cell? ⟨g1, 1, none⟩ = some (.slice A2 P.length c2) := (blk_cell bg1.out 1).trans rfl
    have k2_0 : w7.cell? ⟨g2, 0, none⟩ = some (.string l1) := (blk_cell bg2.out 0).trans rfl
    have k2_1 : w7.cell? ⟨g2, 1, none⟩ = some (.slice A4 P1.length c4) := (blk_cell bg2.out 1).trans rfl
    have k3_0 : w7.cell? ⟨g3, 0, none⟩ = some (.string l1) := (blk_cell bg3.out 0).trans rfl
    have k3_1 : w7.cell? ⟨g3, 1, none⟩ = some (.slice A6 P1.length c6) := (blk_cell bg3.out 1).trans rfl
    go_wp2_with fail; refine (lz_S l1 (by omega) hP5 hP3).mono ?_; rintro e8 w8 ⟨rfl, hb8⟩
    have hx8 := hb8
    clear k1_0 k1_1 k2_0 k2_1 k3_0 k3_1
    replace hL := hL.below hx8
    replace hP := hP.below hx8
    replace hL3 := hL3.below hx8
    replace hP3 := hP3.below hx8
    replace hL5 := hL5.below hx8
    replace hP5 := hP5.below hx8
    replace bg1 := Aside0.mk ((hx8.block g1 (blk_lt bg1.out)).trans bg1.out)
    replace bg2 := Aside0.mk ((hx8.block g2 (blk_lt bg2.out)).trans bg2.out)
    replace bg3 := Aside0.mk ((hx8.block g3 (blk_lt bg3.out)).trans bg3.out)
    replace HB := Aside0.mk (below_step HB.out hx8)
    replace HV := Aside0.mk (HV.out.next hx8)
    clear hx8 hb8
    have k1_0 : w8.cell? ⟨g1, 0, none⟩ = some (.string l) := (blk_cell bg1.out 0).trans rfl
    have k1_1 : w8.cell? ⟨g1, 1, none⟩ = some (.slice A2 P.length c2) := (blk_cell bg1.out 1).trans rfl
    have k2_0 : w8.cell? ⟨g2, 0, none⟩ = some (.string l1) := (blk_cell bg2.out 0).trans rfl
    have k2_1 : w8.cell? ⟨g2, 1, none⟩ = some (.slice A4 P1.length c4) := (blk_cell bg2.out 1).trans rfl
    have k3_0 : w8.cell? ⟨g3, 0, none⟩ = some (.string l1) := (blk_cell bg3.out 0).trans rfl
    have k3_1 : w8.cell? ⟨g3, 1, none⟩ = some (.slice A6 P1.length c6) := (blk_cell bg3.out 1).trans rfl
    go_wp2_with fail; refine (lz_M (by omega) hL5 hL3).mono ?_; rintro e9 w9 ⟨rfl, hb9⟩
    have hx9 := hb9
    clear k1_0 k1_1 k2_0 k2_1 k3_0 k3_1
    replace hL := hL.below hx9
    replace hP := hP.below hx9
    replace hL3 := hL3.below hx9
    replace hP3 := hP3.below hx9
    replace hL5 := hL5.below hx9
    replace hP5 := hP5.below hx9
    replace bg1 := Aside0.mk ((hx9.block g1 (blk_lt bg1.out)).trans bg1.out)
    replace bg2 := Aside0.mk ((hx9.block g2 (blk_lt bg2.out)).trans bg2.out)
    replace bg3 := Aside0.mk ((hx9.block g3 (blk_lt bg3.out)).trans bg3.out)
    replace HB := Aside0.mk (below_step HB.out hx9)
    replace HV := Aside0.mk (HV.out.next hx9)
    clear hx9 hb9
    go_wp2
    refine bodyPost_ret (v := (.bool true)) (by simp [results, Tryz.results8, go_sem, zEn, *]) rfl ⟨rfl, HB.out⟩
  | true =>
    obtain ⟨q2, hq2⟩ : ∃ q, textOk (bl x) = q := ⟨_, rfl⟩
    have k1_0 : w7.cell? ⟨g1, 0, none⟩ = some (.string l) := (blk_cell bg1.out 0).trans rfl
    have k1_1 : w7.cell? ⟨g1, 1, none⟩ = some (.slice A2 P.length c2) := (blk_cell bg1.out 1).trans rfl
    have k2_0 : w7.cell? ⟨g2, 0, none⟩ = some (.string l1) := (blk_cell bg2.out 0).trans rfl
    have k2_1 : w7.cell? ⟨g2, 1, none⟩ = some (.slice A4 P1.length c4) := (blk_cell bg2.out 1).trans rfl
    have k3_0 : w7.cell? ⟨g3, 0, none⟩ = some (.string l1) := (blk_cell bg3.out 0).trans rfl
    have k3_1 : w7.cell? ⟨g3, 1, none⟩ = some (.slice A6 P1.length c6) := (blk_cell bg3.out 1).trans rfl
    go_wp2_with fail; refine (textOk_c (by omega)).mono ?_; rintro e8 w8 ⟨rfl, hb8⟩
    rw [hq2]
    have hx8 := hb8
    clear k1_0 k1_1 k2_0 k2_1 k3_0 k3_1
    replace hL := hL.below hx8
    replace hP := hP.below hx8
    replace hL3 := hL3.below hx8
    replace hP3 := hP3.below hx8
    replace hL5 := hL5.below hx8
    replace hP5 := hP5.below hx8
    replace bg1 := Aside0.mk ((hx8.block g1 (blk_lt bg1.out)).trans bg1.out)
    replace bg2 := Aside0.mk ((hx8.block g2 (blk_lt bg2.out)).trans bg2.out)
    replace bg3 := Aside0.mk ((hx8.block g3 (blk_lt bg3.out)).trans bg3.out)
    replace HB := Aside0.mk (below_step HB.out hx8)
    replace HV := Aside0.mk (HV.out.next hx8)
    clear hx8 hb8
    cases q2 with
    | false =>
      have k1_0 : w8.cell? ⟨g1, 0, none⟩ = some (.string l) := (blk_cell bg1.out 0).trans rfl
      have k1_1 : w8.cell? ⟨g1, 1, none⟩ = some (.slice A2 P.length c2) := (blk_cell bg1.out 1).trans rfl
      have k2_0 : w8.cell? ⟨g2, 0, none⟩ = some (.string l1) := (blk_cell bg2.out 0).trans rfl
      have k2_1 : w8.cell? ⟨g2, 1, none⟩ = some (.slice A4 P1.length c4) := (blk_cell bg2.out 1).trans rfl
      have k3_0 : w8.cell? ⟨g3, 0, none⟩ = some (.string l1) := (blk_cell bg3.out 0).trans rfl
      have k3_1 : w8.cell? ⟨g3, 1, none⟩ = some (.slice A6 P1.length c6) := (blk_cell bg3.out 1).trans rfl
      go_wp2_with fail; refine (lz_S l1 (by omega) hP5 hP3).mono ?_; rintro e9 w9 ⟨rfl, hb9⟩
      have hx9 := hb9
      clear k1_0 k1_1 k2_0 k2_1 k3_0 k3_1
      replace hL := hL.below hx9
      replace hP := hP.below hx9
      replace hL3 := hL3.below hx9
      replace hP3 := hP3.below hx9
      replace hL5 := hL5.below hx9
      replace hP5 := hP5.below hx9
      replace bg1 := Aside0.mk ((hx9.block g1 (blk_lt bg1.out)).trans bg1.out)
      replace bg2 := Aside0.mk ((hx9.block g2 (blk_lt bg2.out)).trans bg2.out)
      replace bg3 := Aside0.mk ((hx9.block g3 (blk_lt bg3.out)).trans bg3.out)
      replace HB := Aside0.mk (below_step HB.out hx9)
      replace HV := Aside0.mk (HV.out.next hx9)
      clear hx9 hb9
      have k1_0 : w9.cell? ⟨g1, 0, none⟩ = some (.string l) := (blk_cell bg1.out 0).trans rfl
      have k1_1 : w9.cell? ⟨g1, 1, none⟩ = some (.slice A2 P.length c2) := (blk_cell bg1.out 1).trans rfl
      have k2_0 : w9.cell? ⟨g2, 0, none⟩ = some (.string l1) := (blk_cell bg2.out 0).trans rfl
      have k2_1 : w9.cell? ⟨g2, 1, none⟩ = some (.slice A4 P1.length c4) := (blk_cell bg2.out 1).trans rfl
      have k3_0 : w9.cell? ⟨g3, 0, none⟩ = some (.string l1) := (blk_cell bg3.out 0).trans rfl
      have k3_1 : w9.cell? ⟨g3, 1, none⟩ = some (.slice A6 P1.length c6) := (blk_cell bg3.out 1).trans rfl
      go_wp2_with fail; refine (lz_M (by omega) hL5 hL3).mono ?_; rintro e10 w10 ⟨rfl, hb10⟩
      have hx10 := hb10
      clear k1_0 k1_1 k2_0 k2_1 k3_0 k3_1
      replace hL := hL.below hx10
      replace hP := hP.below hx10
      replace hL3 := hL3.below hx10
      replace hP3 := hP3.below hx10
      replace hL5 := hL5.below hx10
      replace hP5 := hP5.below hx10
      replace bg1 := Aside0.mk ((hx10.block g1 (blk_lt bg1.out)).trans bg1.out)
      replace bg2 := Aside0.mk ((hx10.block g2 (blk_lt bg2.out)).trans bg2.out)
      replace bg3 := Aside0.mk ((hx10.block g3 (blk_lt bg3.out)).trans bg3.out)
      replace HB := Aside0.mk (below_step HB.out hx10)
      replace HV := Aside0.mk (HV.out.next hx10)
      clear hx10 hb10
      go_wp2
      refine bodyPost_ret (v := (.bool true)) (by simp [results, Tryz.results8, go_sem, zEn, *]) rfl ⟨rfl, HB.out⟩
    | true =>
      obtain ⟨hs1, ⟨rr, hrr⟩, hpl, hpt, ⟨qq, hqq⟩, hk1, hk0⟩ := putF_more hm hq hq2 ha HR.out
      have HS := Aside0.mk (stOkB_iff.1 hq)
      have HS1 := Aside0.mk hs1
      have HS2 := Aside0.mk (stOkB_iff.1 hs1)
      have HRR := Aside0.mk hrr
      have HPT := Aside0.mk hpt
      have HK1 := Aside0.mk hk1
      have HK0 := Aside0.mk hk0
      obtain ⟨T1, hT1⟩ : ∃ T, mkB (outS2 (P.map spOf)) = T := ⟨_, rfl⟩
      obtain ⟨T2, hT2⟩ : ∃ T, mkB (outS2 (P1.map spOf)) = T := ⟨_, rfl⟩
      have HTT := Aside0.mk (show bl T2 = bl T1 ++ qq by rw [← hT1, ← hT2]; exact hqq)
      have HT1 := Aside0.mk hT1
      have HT2 := Aside0.mk hT2
      clear hs1 hrr hpt hqq hk1 hk0 hT1 hT2
      have f0 : decide ((P1.length : Int) < (P.length : Int)) = false := decide_eq_false (by omega)
      have f1 : ¬ (P1.length < P.length) := by omega
      have f5 : decide (P1.length < P.length) = false := decide_eq_false f1
      have f6 : ¬ ((P1.length : Int) < (P.length : Int)) := by omega
      have f2 : (0 : Int) ≤ (P.length : Int) := by omega
      have f3 : (P.length : Int) ≤ (c6 : Int) := by have := hP5.c; omega
      have f7 : P.length ≤ c6 := by omega
      have f4 : (P.length : Int) ≤ (P1.length : Int) := by omega
      have hw5 : IntKind.i64.wrap (a + (x.size : Int)) = a + (x.size : Int) := IntWalk.i64_in _ (by omega)
      have k1_0 : w8.cell? ⟨g1, 0, none⟩ = some (.string l) := (blk_cell bg1.out 0).trans rfl
      have k1_1 : w8.cell? ⟨g1, 1, none⟩ = some (.slice A2 P.length c2) := (blk_cell bg1.out 1).trans rfl
      have k2_0 : w8.cell? ⟨g2, 0, none⟩ = some (.string l1) := (blk_cell bg2.out 0).trans rfl
      have k2_1 : w8.cell? ⟨g2, 1, none⟩ = some (.slice A4 P1.length c4) := (blk_cell bg2.out 1).trans rfl
      have k3_0 : w8.cell? ⟨g3, 0, none⟩ = some (.string l1) := (blk_cell bg3.out 0).trans rfl
      have k3_1 : w8.cell? ⟨g3, 1, none⟩ = some (.slice A6 P1.length c6) := (blk_cell bg3.out 1).trans rfl
      go_upto_region 9 with (fail)
      clear k1_0 k1_1 k2_0 k2_1 k3_0 k3_1
      have k1_0 : w8.cell? ⟨g1, 0, none⟩ = some (.string l) := (blk_cell bg1.out 0).trans rfl
      have k1_1 : w8.cell? ⟨g1, 1, none⟩ = some (.slice A2 P.length c2) := (blk_cell bg1.out 1).trans rfl
      have k2_0 : w8.cell? ⟨g2, 0, none⟩ = some (.string l1) := (blk_cell bg2.out 0).trans rfl
      have k2_1 : w8.cell? ⟨g2, 1, none⟩ = some (.slice A4 P1.length c4) := (blk_cell bg2.out 1).trans rfl
      have k3_0 : w8.cell? ⟨g3, 0, none⟩ = some (.string l1) := (blk_cell bg3.out 0).trans rfl
      have k3_1 : w8.cell? ⟨g3, 1, none⟩ = some (.slice A6 P1.length c6) := (blk_cell bg3.out 1).trans rfl
      refine lin_start (fun w' => w'.cell? ⟨g1, 0, none⟩ = some (.string l) ∧ w'.cell? ⟨g1, 1, none⟩ = some (.slice A2 P.length c2) ∧ w'.cell? ⟨g3, 0, none⟩ = some (.string l1) ∧ w'.cell? ⟨g3, 1, none⟩ = some (.slice A6 P1.length c6)) (true, [([], []), ([0], [0]), ([], []), ([2], [2]), ([1, 3], [1, 3]), ([4], [4]), ([5, 4], [5]), ([6], [6]), ([7, 6, 6], [6, 7]), ([8, 6], [6, 8]), ([6, 9], [6, 9]), ([10, 8], [10]), ([11], [11]), ([12, 11], [11, 12]), ([13, 11], [11, 13]), ([11], [11]), ([14, 15, 11], [11, 14, 15]), ([11, 16], [11, 16]), ([17, 11], [17]), ([18], [18]), ([19, 18], [18, 19]), ([18], [18]), ([21, 18], [18, 21]), ([18], [18]), ([22, 23, 18], [18, 22, 23]), ([20, 24, 18], [18, 20, 24]), ([18], [18]), ([25, 26, 18, 18], [18, 25, 26]), ([27, 18], [18, 27]), ([18, 28], [18, 28])]) [0, 1, 2, 3, 4, 5, 6, 7, 8, 9, 10, 11, 12, 13, 14, 15, 16, 17, 18, 19, 20, 21, 22, 23, 24, 25, 26, 27, 28, 29] (by kernel_rfl) (by kernel_rfl) (by kernel_rfl) ⟨by go_simp, by go_simp, by go_simp, by go_simp⟩ ?_
      repeat (first | (refine lin_take rfl rfl (by kernel_rfl) (fun _ _ _ h => h) (by rfl) (v := ?_) (a' := ?_) ?_ ?_ ?_; rotate_left 2; (rintro w' ⟨s0, s1, s2, s3⟩; go_simp; with_reducible rfl); (simp only [List.getElem_toArray, List.getElem_cons_zero, List.getElem_cons_succ, Act.put, List.setIfInBounds_toArray, List.set_cons_zero, List.set_cons_succ]; rfl)) | (refine lin_off rfl rfl (by kernel_rfl) (fun _ _ _ h => h) (by rfl) (a' := ?_) ?_ ?_; rotate_left 1; (simp only [List.getElem_toArray, List.getElem_cons_zero, List.getElem_cons_succ, Act.put, List.setIfInBounds_toArray, List.set_cons_zero, List.set_cons_succ]; rfl)))
      have hd0 : Below w8.heap.size w8 w8.drew := below_drew (Below.refl _ _)
      refine lin_call rfl rfl rfl Tryz.func24 (by kernel_rfl) (by kernel_rfl) rfl (by rfl) (args := #[.string l, .string l1]) (by (try simp only [List.map_toArray, List.map_cons, List.map_nil]); first | done | rfl) (fun hS => ?_)
      refine (begins_c HRR.out).mono ?_
      rintro e wR0 ⟨rfl, hr0⟩
      have hd1 : Below w8.heap.size w8 wR0 := below_step hd0 hr0
      have tg1_0 := (hd1.block g1 (blk_lt bg1.out)).trans bg1.out
      have tg3_0 := (hd1.block g3 (blk_lt bg3.out)).trans bg3.out
      refine ⟨_, rfl, ⟨(blk_cell (tg1_0) 0).trans rfl, (blk_cell (tg1_0) 1).trans rfl, (blk_cell (tg3_0) 0).trans rfl, (blk_cell (tg3_0) 1).trans rfl⟩, ?_⟩
      refine lin_norm (a' := ?_) ?_ ?_; rotate_left 1; (simp only [List.getElem_toArray, List.getElem_cons_zero, List.getElem_cons_succ, Act.put, List.setIfInBounds_toArray, List.set_cons_zero, List.set_cons_succ]; rfl)
      repeat (first | (refine lin_take rfl rfl (by kernel_rfl) (fun _ _ _ h => h) (by rfl) (v := ?_) (a' := ?_) ?_ ?_ ?_; rotate_left 2; (rintro w' ⟨s0, s1, s2, s3⟩; go_simp; with_reducible rfl); (simp only [List.getElem_toArray, List.getElem_cons_zero, List.getElem_cons_succ, Act.put, List.setIfInBounds_toArray, List.set_cons_zero, List.set_cons_succ]; rfl)) | (refine lin_off rfl rfl (by kernel_rfl) (fun _ _ _ h => h) (by rfl) (a' := ?_) ?_ ?_; rotate_left 1; (simp only [List.getElem_toArray, List.getElem_cons_zero, List.getElem_cons_succ, Act.put, List.setIfInBounds_toArray, List.set_cons_zero, List.set_cons_succ]; rfl)))
      refine lin_call rfl rfl rfl Tryz.func25 (by kernel_rfl) (by kernel_rfl) rfl (by rfl) (args := #[vSt l1 A6 c6 P1]) (by (try simp only [List.map_toArray, List.map_cons, List.map_nil]); first | done | rfl) (fun hS => ?_)
      refine (implStreamOk_c l1 (by omega) (by omega) (hP5.below hd1) (HV.out.next hd1)).mono ?_
      rintro e wR1 ⟨rfl, hr1⟩
      rw [HS1.out]
      have hd2 : Below w8.heap.size w8 wR1 := below_step hd1 hr1
      have tg1_1 := (hd2.block g1 (blk_lt bg1.out)).trans bg1.out
      have tg3_1 := (hd2.block g3 (blk_lt bg3.out)).trans bg3.out
      refine ⟨_, rfl, ⟨(blk_cell (tg1_1) 0).trans rfl, (blk_cell (tg1_1) 1).trans rfl, (blk_cell (tg3_1) 0).trans rfl, (blk_cell (tg3_1) 1).trans rfl⟩, ?_⟩
      refine lin_norm (a' := ?_) ?_ ?_; rotate_left 1; (simp only [List.getElem_toArray, List.getElem_cons_zero, List.getElem_cons_succ, Act.put, List.setIfInBounds_toArray, List.set_cons_zero, List.set_cons_succ]; rfl)
      repeat (first | (refine lin_take rfl rfl (by kernel_rfl) (fun _ _ _ h => h) (by rfl) (v := ?_) (a' := ?_) ?_ ?_ ?_; rotate_left 2; (rintro w' ⟨s0, s1, s2, s3⟩; go_simp; with_reducible rfl); (simp only [List.getElem_toArray, List.getElem_cons_zero, List.getElem_cons_succ, Act.put, List.setIfInBounds_toArray, List.set_cons_zero, List.set_cons_succ]; rfl)) | (refine lin_off rfl rfl (by kernel_rfl) (fun _ _ _ h => h) (by rfl) (a' := ?_) ?_ ?_; rotate_left 1; (simp only [List.getElem_toArray, List.getElem_cons_zero, List.getElem_cons_succ, Act.put, List.setIfInBounds_toArray, List.set_cons_zero, List.set_cons_succ]; rfl)))
      refine lin_call rfl rfl rfl Tryz.func18 (by kernel_rfl) (by kernel_rfl) rfl (by rfl) (args := #[vSt l A6 c6 P, vSt l A2 c2 P]) (by (try simp only [List.map_toArray, List.map_cons, List.map_nil]); first | done | rfl) (fun hS => ?_)
      refine (lz_S (P := P) l (by omega) (HPT.out ▸ (hP5.below hd2).take hpl) (hP.below hd2)).mono ?_
      rintro e wR2 ⟨rfl, hr2⟩
      have hd3 : Below w8.heap.size w8 wR2 := below_step hd2 hr2
      have tg1_2 := (hd3.block g1 (blk_lt bg1.out)).trans bg1.out
      have tg3_2 := (hd3.block g3 (blk_lt bg3.out)).trans bg3.out
      refine ⟨_, rfl, ⟨(blk_cell (tg1_2) 0).trans rfl, (blk_cell (tg1_2) 1).trans rfl, (blk_cell (tg3_2) 0).trans rfl, (blk_cell (tg3_2) 1).trans rfl⟩, ?_⟩
      refine lin_norm (a' := ?_) ?_ ?_; rotate_left 1; (simp only [List.getElem_toArray, List.getElem_cons_zero, List.getElem_cons_succ, Act.put, List.setIfInBounds_toArray, List.set_cons_zero, List.set_cons_succ]; rfl)
      repeat (first | (refine lin_take rfl rfl (by kernel_rfl) (fun _ _ _ h => h) (by rfl) (v := ?_) (a' := ?_) ?_ ?_ ?_; rotate_left 2; (rintro w' ⟨s0, s1, s2, s3⟩; go_simp; with_reducible rfl); (simp only [List.getElem_toArray, List.getElem_cons_zero, List.getElem_cons_succ, Act.put, List.setIfInBounds_toArray, List.set_cons_zero, List.set_cons_succ]; rfl)) | (refine lin_off rfl rfl (by kernel_rfl) (fun _ _ _ h => h) (by rfl) (a' := ?_) ?_ ?_; rotate_left 1; (simp only [List.getElem_toArray, List.getElem_cons_zero, List.getElem_cons_succ, Act.put, List.setIfInBounds_toArray, List.set_cons_zero, List.set_cons_succ]; rfl)))
      refine lin_done (by kernel_rfl) ?_
      clear k1_0 k1_1 k2_0 k2_1 k3_0 k3_1
      have hx_ := hd3
      replace hL := hL.below hx_
      replace hP := hP.below hx_
      replace hL3 := hL3.below hx_
      replace hP3 := hP3.below hx_
      replace hL5 := hL5.below hx_
      replace hP5 := hP5.below hx_
      replace bg1 := Aside0.mk ((hx_.block g1 (blk_lt bg1.out)).trans bg1.out)
      replace bg2 := Aside0.mk ((hx_.block g2 (blk_lt bg2.out)).trans bg2.out)
      replace bg3 := Aside0.mk ((hx_.block g3 (blk_lt bg3.out)).trans bg3.out)
      replace HB := Aside0.mk (below_step HB.out hx_)
      replace HV := Aside0.mk (HV.out.next hx_)
      cases ok with
      | false =>
        obtain ⟨e1, e2, e3⟩ := HK0.out rfl
        subst e1
        subst e2
        have k1_0 : wR2.cell? ⟨g1, 0, none⟩ = some (.string l1) := (blk_cell bg1.out 0).trans rfl
        have k1_1 : wR2.cell? ⟨g1, 1, none⟩ = some (.slice A2 P1.length c2) := (blk_cell bg1.out 1).trans rfl
        have k2_0 : wR2.cell? ⟨g2, 0, none⟩ = some (.string l1) := (blk_cell bg2.out 0).trans rfl
        have k2_1 : wR2.cell? ⟨g2, 1, none⟩ = some (.slice A4 P1.length c4) := (blk_cell bg2.out 1).trans rfl
        have k3_0 : wR2.cell? ⟨g3, 0, none⟩ = some (.string l1) := (blk_cell bg3.out 0).trans rfl
        have k3_1 : wR2.cell? ⟨g3, 1, none⟩ = some (.slice A6 P1.length c6) := (blk_cell bg3.out 1).trans rfl
        go_wp2_with fail; refine (lz_S l1 (by omega) hP5 hP).mono ?_; rintro e9 w9 ⟨rfl, hb9⟩
        have hx9 := hb9
        clear k1_0 k1_1 k2_0 k2_1 k3_0 k3_1
        replace hL := hL.below hx9
        replace hP := hP.below hx9
        replace hL3 := hL3.below hx9
        replace hP3 := hP3.below hx9
        replace hL5 := hL5.below hx9
        replace hP5 := hP5.below hx9
        replace bg1 := Aside0.mk ((hx9.block g1 (blk_lt bg1.out)).trans bg1.out)
        replace bg2 := Aside0.mk ((hx9.block g2 (blk_lt bg2.out)).trans bg2.out)
        replace bg3 := Aside0.mk ((hx9.block g3 (blk_lt bg3.out)).trans bg3.out)
        replace HB := Aside0.mk (below_step HB.out hx9)
        replace HV := Aside0.mk (HV.out.next hx9)
        clear hx9 hb9
        by_cases h9 : a > (l1.size : Int)
        · have q4 : decide (a > (l1.size : Int)) = true := decide_eq_true h9
          have q5 : decide ((l1.size : Int) < a) = true := decide_eq_true (by omega)
          have k1_0 : w9.cell? ⟨g1, 0, none⟩ = some (.string l1) := (blk_cell bg1.out 0).trans rfl
          have k1_1 : w9.cell? ⟨g1, 1, none⟩ = some (.slice A2 P1.length c2) := (blk_cell bg1.out 1).trans rfl
          have k2_0 : w9.cell? ⟨g2, 0, none⟩ = some (.string l1) := (blk_cell bg2.out 0).trans rfl
          have k2_1 : w9.cell? ⟨g2, 1, none⟩ = some (.slice A4 P1.length c4) := (blk_cell bg2.out 1).trans rfl
          have k3_0 : w9.cell? ⟨g3, 0, none⟩ = some (.string l1) := (blk_cell bg3.out 0).trans rfl
          have k3_1 : w9.cell? ⟨g3, 1, none⟩ = some (.slice A6 P1.length c6) := (blk_cell bg3.out 1).trans rfl
          go_wp2
          refine bodyPost_ret (v := (.bool true)) (by simp [results, Tryz.results8, go_sem, zEn, *]) rfl ⟨rfl, HB.out⟩
        · have q4 : decide (a > (l1.size : Int)) = false := decide_eq_false h9
          have q5 : decide ((l1.size : Int) < a) = false := decide_eq_false (by omega)
          have q6 : decide (a + (x.size : Int) > 40) = true := decide_eq_true (by omega)
          have q7 : decide ((40 : Int) < a + (x.size : Int)) = true := decide_eq_true (by omega)
          have k1_0 : w9.cell? ⟨g1, 0, none⟩ = some (.string l1) := (blk_cell bg1.out 0).trans rfl
          have k1_1 : w9.cell? ⟨g1, 1, none⟩ = some (.slice A2 P1.length c2) := (blk_cell bg1.out 1).trans rfl
          have k2_0 : w9.cell? ⟨g2, 0, none⟩ = some (.string l1) := (blk_cell bg2.out 0).trans rfl
          have k2_1 : w9.cell? ⟨g2, 1, none⟩ = some (.slice A4 P1.length c4) := (blk_cell bg2.out 1).trans rfl
          have k3_0 : w9.cell? ⟨g3, 0, none⟩ = some (.string l1) := (blk_cell bg3.out 0).trans rfl
          have k3_1 : w9.cell? ⟨g3, 1, none⟩ = some (.slice A6 P1.length c6) := (blk_cell bg3.out 1).trans rfl
          go_wp2
          refine bodyPost_ret (v := (.bool true)) (by simp [results, Tryz.results8, go_sem, zEn, *]) rfl ⟨rfl, HB.out⟩
      | true =>
        have hmx : max (l.size : Int) (a + (x.size : Int)) = (l1.size : Int) := (HK1.out rfl).symm
        have k1_0 : wR2.cell? ⟨g1, 0, none⟩ = some (.string l) := (blk_cell bg1.out 0).trans rfl
        have k1_1 : wR2.cell? ⟨g1, 1, none⟩ = some (.slice A2 P.length c2) := (blk_cell bg1.out 1).trans rfl
        have k2_0 : wR2.cell? ⟨g2, 0, none⟩ = some (.string l1) := (blk_cell bg2.out 0).trans rfl
        have k2_1 : wR2.cell? ⟨g2, 1, none⟩ = some (.slice A4 P1.length c4) := (blk_cell bg2.out 1).trans rfl
        have k3_0 : wR2.cell? ⟨g3, 0, none⟩ = some (.string l1) := (blk_cell bg3.out 0).trans rfl
        have k3_1 : wR2.cell? ⟨g3, 1, none⟩ = some (.slice A6 P1.length c6) := (blk_cell bg3.out 1).trans rfl
        go_upto_region 13 with (fail)
        clear k1_0 k1_1 k2_0 k2_1 k3_0 k3_1
        have k1_0 : wR2.cell? ⟨g1, 0, none⟩ = some (.string l) := (blk_cell bg1.out 0).trans rfl
        have k1_1 : wR2.cell? ⟨g1, 1, none⟩ = some (.slice A2 P.length c2) := (blk_cell bg1.out 1).trans rfl
        have k2_0 : wR2.cell? ⟨g2, 0, none⟩ = some (.string l1) := (blk_cell bg2.out 0).trans rfl
        have k2_1 : wR2.cell? ⟨g2, 1, none⟩ = some (.slice A4 P1.length c4) := (blk_cell bg2.out 1).trans rfl
        have k3_0 : wR2.cell? ⟨g3, 0, none⟩ = some (.string l1) := (blk_cell bg3.out 0).trans rfl
        have k3_1 : wR2.cell? ⟨g3, 1, none⟩ = some (.slice A6 P1.length c6) := (blk_cell bg3.out 1).trans rfl
        refine lin_start (fun w' => w'.cell? ⟨g1, 0, none⟩ = some (.string l) ∧ w'.cell? ⟨g1, 1, none⟩ = some (.slice A2 P.length c2) ∧ w'.cell? ⟨g3, 0, none⟩ = some (.string l1) ∧ w'.cell? ⟨g3, 1, none⟩ = some (.slice A6 P1.length c6)) (true, [([], []), ([0], [0]), ([1], [1]), ([], []), ([3], [3]), ([4], [4]), ([], []), ([], []), ([7], [7]), ([6, 8], [6, 8]), ([5, 9], [5, 9]), ([2, 10], [2, 10]), ([11], [11]), ([12], [12]), ([13, 12, 12], [12, 13]), ([12], [12]), ([15, 14, 12], [12, 15]), ([14, 16, 16, 12], [12, 14, 16]), ([12, 17], [12, 17]), ([18, 17, 0, 1, 2, 3, 4, 5, 6, 7, 8, 9, 10, 11, 12, 13, 14, 15, 16, 17, 18], [18])]) [0, 1, 2, 3, 4, 5, 6, 7, 8, 9, 10, 11, 12, 13, 15, 14, 16, 17, 18, 19] (by kernel_rfl) (by kernel_rfl) (by kernel_rfl) ⟨by go_simp, by go_simp, by go_simp, by go_simp⟩ ?_
        repeat (first | (refine lin_take rfl rfl (by kernel_rfl) (fun _ _ _ h => h) (by rfl) (v := ?_) (a' := ?_) ?_ ?_ ?_; rotate_left 2; (rintro w' ⟨s0, s1, s2, s3⟩; go_simp; with_reducible rfl); (simp only [List.getElem_toArray, List.getElem_cons_zero, List.getElem_cons_succ, Act.put, List.setIfInBounds_toArray, List.set_cons_zero, List.set_cons_succ]; rfl)) | (refine lin_off rfl rfl (by kernel_rfl) (fun _ _ _ h => h) (by rfl) (a' := ?_) ?_ ?_; rotate_left 1; (simp only [List.getElem_toArray, List.getElem_cons_zero, List.getElem_cons_succ, Act.put, List.setIfInBounds_toArray, List.set_cons_zero, List.set_cons_succ]; rfl)))
        have hd0 : Below wR2.heap.size wR2 wR2.drew := below_drew (Below.refl _ _)
        refine lin_call rfl rfl rfl Tryz.func26 (by kernel_rfl) (by kernel_rfl) rfl (by rfl) (args := #[vSt l A2 c2 P]) (by (try simp only [List.map_toArray, List.map_cons, List.map_nil]); first | done | rfl) (fun hS => ?_)
        refine (out_c HS.out (hP.below hd0) (HV.out.next hd0)).mono ?_
        rintro e wT0 ⟨rfl, hr0⟩
        rw [HT1.out]
        have hd1 : Below wR2.heap.size wR2 wT0 := below_step hd0 hr0
        have tg1_0 := (hd1.block g1 (blk_lt bg1.out)).trans bg1.out
        have tg3_0 := (hd1.block g3 (blk_lt bg3.out)).trans bg3.out
        refine ⟨_, rfl, ⟨(blk_cell (tg1_0) 0).trans rfl, (blk_cell (tg1_0) 1).trans rfl, (blk_cell (tg3_0) 0).trans rfl, (blk_cell (tg3_0) 1).trans rfl⟩, ?_⟩
        refine lin_norm (a' := ?_) ?_ ?_; rotate_left 1; (simp only [List.getElem_toArray, List.getElem_cons_zero, List.getElem_cons_succ, Act.put, List.setIfInBounds_toArray, List.set_cons_zero, List.set_cons_succ]; rfl)
        repeat (first | (refine lin_take rfl rfl (by kernel_rfl) (fun _ _ _ h => h) (by rfl) (v := ?_) (a' := ?_) ?_ ?_ ?_; rotate_left 2; (rintro w' ⟨s0, s1, s2, s3⟩; go_simp; with_reducible rfl); (simp only [List.getElem_toArray, List.getElem_cons_zero, List.getElem_cons_succ, Act.put, List.setIfInBounds_toArray, List.set_cons_zero, List.set_cons_succ]; rfl)) | (refine lin_off rfl rfl (by kernel_rfl) (fun _ _ _ h => h) (by rfl) (a' := ?_) ?_ ?_; rotate_left 1; (simp only [List.getElem_toArray, List.getElem_cons_zero, List.getElem_cons_succ, Act.put, List.setIfInBounds_toArray, List.set_cons_zero, List.set_cons_succ]; rfl)))
        refine lin_call rfl rfl rfl Tryz.func26 (by kernel_rfl) (by kernel_rfl) rfl (by rfl) (args := #[vSt l1 A6 c6 P1]) (by (try simp only [List.map_toArray, List.map_cons, List.map_nil]); first | done | rfl) (fun hS => ?_)
        refine (out_c HS2.out (hP5.below hd1) (HV.out.next hd1)).mono ?_
        rintro e wT1 ⟨rfl, hr1⟩
        rw [HT2.out]
        have hd2 : Below wR2.heap.size wR2 wT1 := below_step hd1 hr1
        have tg1_1 := (hd2.block g1 (blk_lt bg1.out)).trans bg1.out
        have tg3_1 := (hd2.block g3 (blk_lt bg3.out)).trans bg3.out
        refine ⟨_, rfl, ⟨(blk_cell (tg1_1) 0).trans rfl, (blk_cell (tg1_1) 1).trans rfl, (blk_cell (tg3_1) 0).trans rfl, (blk_cell (tg3_1) 1).trans rfl⟩, ?_⟩
        refine lin_norm (a' := ?_) ?_ ?_; rotate_left 1; (simp only [List.getElem_toArray, List.getElem_cons_zero, List.getElem_cons_succ, Act.put, List.setIfInBounds_toArray, List.set_cons_zero, List.set_cons_succ]; rfl)
        repeat (first | (refine lin_take rfl rfl (by kernel_rfl) (fun _ _ _ h => h) (by rfl) (v := ?_) (a' := ?_) ?_ ?_ ?_; rotate_left 2; (rintro w' ⟨s0, s1, s2, s3⟩; go_simp; with_reducible rfl); (simp only [List.getElem_toArray, List.getElem_cons_zero, List.getElem_cons_succ, Act.put, List.setIfInBounds_toArray, List.set_cons_zero, List.set_cons_succ]; rfl)) | (refine lin_off rfl rfl (by kernel_rfl) (fun _ _ _ h => h) (by rfl) (a' := ?_) ?_ ?_; rotate_left 1; (simp only [List.getElem_toArray, List.getElem_cons_zero, List.getElem_cons_succ, Act.put, List.setIfInBounds_toArray, List.set_cons_zero, List.set_cons_succ]; rfl)))
        refine lin_call rfl rfl rfl Tryz.func24 (by kernel_rfl) (by kernel_rfl) rfl (by rfl) (args := #[.string T1, .string T2]) (by (try simp only [List.map_toArray, List.map_cons, List.map_nil]); first | done | rfl) (fun hS => ?_)
        refine (begins_c HTT.out).mono ?_
        rintro e wT2 ⟨rfl, hr2⟩
        have hd3 : Below wR2.heap.size wR2 wT2 := below_step hd2 hr2
        have tg1_2 := (hd3.block g1 (blk_lt bg1.out)).trans bg1.out
        have tg3_2 := (hd3.block g3 (blk_lt bg3.out)).trans bg3.out
        refine ⟨_, rfl, ⟨(blk_cell (tg1_2) 0).trans rfl, (blk_cell (tg1_2) 1).trans rfl, (blk_cell (tg3_2) 0).trans rfl, (blk_cell (tg3_2) 1).trans rfl⟩, ?_⟩
        refine lin_norm (a' := ?_) ?_ ?_; rotate_left 1; (simp only [List.getElem_toArray, List.getElem_cons_zero, List.getElem_cons_succ, Act.put, List.setIfInBounds_toArray, List.set_cons_zero, List.set_cons_succ]; rfl)
        repeat (first | (refine lin_take rfl rfl (by kernel_rfl) (fun _ _ _ h => h) (by rfl) (v := ?_) (a' := ?_) ?_ ?_ ?_; rotate_left 2; (rintro w' ⟨s0, s1, s2, s3⟩; go_simp; with_reducible rfl); (simp only [List.getElem_toArray, List.getElem_cons_zero, List.getElem_cons_succ, Act.put, List.setIfInBounds_toArray, List.set_cons_zero, List.set_cons_succ]; rfl)) | (refine lin_off rfl rfl (by kernel_rfl) (fun _ _ _ h => h) (by rfl) (a' := ?_) ?_ ?_; rotate_left 1; (simp only [List.getElem_toArray, List.getElem_cons_zero, List.getElem_cons_succ, Act.put, List.setIfInBounds_toArray, List.set_cons_zero, List.set_cons_succ]; rfl)))
        refine lin_done (by kernel_rfl) ?_
        clear k1_0 k1_1 k2_0 k2_1 k3_0 k3_1
        have hx_ := hd3
        replace hL := hL.below hx_
        replace hP := hP.below hx_
        replace hL3 := hL3.below hx_
        replace hP3 := hP3.below hx_
        replace hL5 := hL5.below hx_
        replace hP5 := hP5.below hx_
        replace bg1 := Aside0.mk ((hx_.block g1 (blk_lt bg1.out)).trans bg1.out)
        replace bg2 := Aside0.mk ((hx_.block g2 (blk_lt bg2.out)).trans bg2.out)
        replace bg3 := Aside0.mk ((hx_.block g3 (blk_lt bg3.out)).trans bg3.out)
        replace HB := Aside0.mk (below_step HB.out hx_)
        replace HV := Aside0.mk (HV.out.next hx_)
        go_wp2
        refine bodyPost_ret (v := (.bool true)) (by simp [results, Tryz.results8, go_sem, zEn, *]) rfl ⟨rfl, HB.out⟩
end Go.Proofs.YtfjbjiklohjodaaGreatDoor.Z
namespace Go.Proofs.YtfjbjiklohjodaaGreatDoor.fnPutMore
open Go.ChangeShapes Go.WideShapes Go.ChangeAt Go.RowKit Go.Proofs.YtfjbjiklohjodaaGreatDoorW.PrintWords
open Go.ChangeMaps (open_string shut_string)
set_option linter.unusedVariables false
theorem own : ownKnob Tryz.prog.godebug = none := by kernel_rfl
theorem laidOut : laidOutB Tryz.prog = true := by kernel_rfl
set_option maxRecDepth 100000 in
theorem lifted (os : Os) (started : os.Started) (H : Type) (enc : TypeId × Value → H) :
    ReturnsInHanded {} Tryz.checked os 8 .any (fun w args => (Rows.fnPutMoreSpec.pre enc Tryz.prog Tryz.f8 Rows.fnPutMoreRow.domain false w args ∧ laidMetH Tryz.prog Z.laidL w) ∧ sizedMet enc Tryz.prog Tryz.f8 (OpenSpec.ofChange Rows.fnPutMoreSpec) false w args)
      (Rows.fnPutMoreSpec.post enc Tryz.prog Tryz.f8 false true false false) := by
  refine Z.wrap_laid (C := Tryz.checked) (X := fun w _ => laidMetH Tryz.prog Z.laidL w) (fun _ _ _ hh h => h.of_heap hh) own started (by kernel_rfl) Tryz.func8
    (ChangeSpec.witness_shaped (enc := enc) (C := Tryz.checked) (os := os) (X := fun w _ => laidMetH Tryz.prog Z.laidL w) false (World.laidAll Tryz.prog os Z.laidL) #[.slice none 0 0] 8 (World.laidAll_os _ _ _)
      (World.shaped_of_ZipB (by kernel_rfl) (by kernel_rfl)) (by kernel_rfl) (by kernel_rfl) (by kernel_rfl) (Z.laid_met os _)) ?_
  intro W base args ds gs before hval0 hW hL hsh
  have hvars := Z.vars_of hL hsh
  have hval : ∀ (j : Nat) t v, Tryz.f8.params[j]? = some t → args[j]? = some v → Value.okWide Tryz.prog W .any base t v := hval0
  have hW' := hW
  obtain ⟨p, q, hA0, hV, rfl, hfz, hnd⟩ := hW
  have hA : DataW.TrodAll enc Tryz.prog W 0 (fun _ => true) true Tryz.f8.params.toList args.toList ds p := hA0
  rw [Tryz.params8] at hA hval
  obtain ⟨v0, vs0, d0, ds0, p0, q0, hargs, rfl, rfl, h0, r0⟩ := trodAll_cons hA
  obtain ⟨rfl, rfl, rfl⟩ := trodAll_nil r0
  obtain rfl : args = #[v0] := by cases args; simp_all
  obtain ⟨rfl, rfl⟩ := trodVars_none hV
  obtain ⟨a0, len0, cap0, rfl⟩ := okWide_slice Tryz.underlying22 (hval 0 22 v0 rfl rfl)
  have k0 := h0
  have lt0 : ∀ x ∈ p0, x.block < W.heap.size := by obtain ⟨m, hm⟩ := k0; exact DataW.trod_lt m _ _ _ hm
  obtain ⟨fuel0, hf0⟩ := h0
  obtain ⟨xs0, ⟨A0, c0, hcs0, hl0, hC0⟩, hg0⟩ := Z.openBytes.2 _ _ _ _ _ _ _ _ _ hf0
  simp [Value.cells] at hcs0
  obtain ⟨rfl, rfl, rfl⟩ := hcs0
  clear hA0 hval0
  refine (Z.law_FnPutMore a0 xs0.length cap0 xs0 W hC0 hl0 (Z.bytes_le hg0) hvars).mono ?_
  rintro e W' ⟨rfl, bel⟩
  exact ⟨_, rfl, _, _, _, [], _, [], hW', trodAll_mk1 (shut_bool Tryz.underlying4 _), (trodAll_cons_mk (Below.trod laidOut (by kernel_rfl) (of_decide_eq_true (by kernel_rfl)) k0 bel lt0) trodAll_mk0), rfl, bel.frame _, fun h => by cases h⟩
theorem over : Rows.fnPutMoreRow.holds Tryz.pinned (OpenSpec.ofChange Rows.fnPutMoreSpec) :=
  OpenClaim.holds_of_wide 8 Tryz.f8 rfl rfl rfl rfl rfl rfl rfl ⟨rfl, rfl, rfl, rfl, rfl⟩ rfl rfl rfl rfl rfl (by kernel_rfl) Tryz.func8 jf
    (of_decide_eq_true (by kernel_rfl)) (by unfold Func.isWrapper; first | (rw [if_pos (by decide +kernel)]; kernel_rfl) | (rw [if_neg (by decide +kernel)]; exact ⟨rfl, rfl⟩))
    (fun os started H enc _ => lifted os started H enc)
end Go.Proofs.YtfjbjiklohjodaaGreatDoor.fnPutMore
namespace Go.Proofs.YtfjbjiklohjodaaGreatDoor
theorem fnPutMore_card : Rows.FnPutMoreCardSaid :=
  Claim7.holds_tied_plain_at .later [] Rows.fnPutMoreCard.laidKinds true Rows.fnPutMoreCard.stood.harness true
    fnPutMore.over (fun _ h => by cases h) (by kernel_rfl) (fun _ h => by cases h) fnPutMore_row_tie rfl ⟨rfl, rfl⟩ (by kernel_rfl) rfl
    (fun f fn hf hfn => by
      obtain rfl : f = 8 := Option.some.inj ((show Tryz.prog.funcNamed Rows.fnPutMoreRow.func = some 8 by kernel_rfl).symm.trans hf) |>.symm
      obtain rfl : fn = Tryz.f8 := (Option.some.inj (Tryz.func8.symm.trans hfn)).symm
      exact ⟨by kernel_rfl, fun j t ht => by
        rw [Tryz.params8] at ht
        have hm : t ∈ [22] := by simpa using Array.mem_of_getElem? ht
        have hall : ([22].all fun u => !Tryz.prog.wantsStandIn u) = true := by kernel_rfl
        exact (show Tryz.prog.wantsStandIn t = false by simpa using List.all_eq_true.1 hall t hm)⟩)
    (by kernel_rfl)
#print axioms fnPutMore_card
end Go.Proofs.YtfjbjiklohjodaaGreatDoor
