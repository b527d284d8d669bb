/- Plain laws of the printed functions: the reference's text out; what the laws of texts draw. MapTextOut of both at rows of pairs: what the program hands back is its own, clipped. Marks written through a row of pairs, and asked for again. How a row's argument, read as data, is a value of one of our kinds. The law FnExactMapTextOut: whatever pairs and text come in, MapTextOut of the program and of the reference answer alike, the argument stays, and the answer is its own. For every input FnExactMapTextOut returns true and leaves its arguments as they were: the MapTextOut of the program answers as that of the reference, and its answer is its own. -/
import Derived.Test.YtijompkonaiagaaGreatDoorRows
import Derived.Test.YtijompkonaiagaaGreatDoorTie
import Derived.Test.YtijompkonaiagaaGreatDoorCards
import Derived.Test.YtijompkonaiagaaGreatDoorBq3
import Derived.Deep.Slices
import Derived.ChangeArms
import Derived.SevenTiedAt
import Derived.WalkKit
import Derived.ProofKit
import Derived.OpenShut
import Derived.ShutString
import Derived.ChangeOld
import Derived.Below
import Derived.SizedLaws
namespace Go.Proofs.YtijompkonaiagaaGreatDoor.Q
open Go.RowKit Go.Proofs.YtijompkonaiagaaGreatDoorW.PrintWords Go.Proofs.YtijompkonaiagaaGreatDoorW.PrintLast Go.Proofs.YtijompkonaiagaaGreatDoorW.PrintMore
attribute [local go_sem] max2_int min2_int max_two min_two max_three min_three max_four min_four
set_option linter.unusedVariables false
set_option linter.unusedSimpArgs false
noncomputable section
mutual
def spec_MapTextOut.j0 : Nat → List (S69) → ByteArray → Bool → Option ((List (S69)) × ByteArray)
  | 0, _, _, _ => none
  | k + 1, x0, x1, x20 => if x20 = true then (some ((([] : List (S69))), (⟨#[]⟩ : ByteArray))) else ((spec_l3Copy.f x0).bind fun t106 => ((spec_l2Pieces.f k x1).bind fun t109 => (spec_MapTextOut.l0 k x1 t106 (⟨#[]⟩ : ByteArray) 0 t109 0)))
def spec_MapTextOut.l0 : Nat → ByteArray → List (S69) → ByteArray → Int → List (S67) → Int → Option ((List (S69)) × ByteArray)
  | 0, _, _, _, _, _, _ => none
  | k + 1, x1, x6, x7, x8, x9, x10 => if x10 < (x9.length : Int) then (if 0 ≤ x10 then (if 0 ≤ x8 then (if x8 ≤ (wrap64 (x8 + ((rd_T67 x9 x10).f0))) then (if (wrap64 (x8 + ((rd_T67 x9 x10).f0))) ≤ (x1.size : Int) then ((spec_l3PieceOut.f x6 ((rd_T67 x9 x10).f0) ((rd_T67 x9 x10).f1) ((rd_T67 x9 x10).f2.f0) ((rd_T67 x9 x10).f2.f1) (x1.extract (x8 : Int).toNat ((wrap64 (x8 + ((rd_T67 x9 x10).f0))) : Int).toNat)).bind fun bt114 => (if x7.size + bt114.2.size ≤ 9223372036854775807 then (spec_MapTextOut.l0 k x1 bt114.1 (x7 ++ bt114.2) (wrap64 (x8 + ((rd_T67 x9 x10).f0))) x9 (wrap64 (x10 + 1))) else (none))) else (none)) else (none)) else (none)) else (none)) else (some (x6, x7))
end
def spec_MapTextOut.f (k : Nat) (l0 : List (S69)) (a1 : ByteArray) : Option ((List (S69)) × ByteArray) := (spec_MapOk.f l0).bind fun t101 => (if t101 = true then ((spec_TextOk.f a1).bind fun t102 => (spec_MapTextOut.j0 k l0 a1 (!t102))) else (spec_MapTextOut.j0 k l0 a1 true))
def spec_MapTextOut.T10 : Bool × List (List Nat × List Nat) := (true, [([], []), ([], []), ([], []), ([1, 2], [1, 2]), ([3], [3]), ([], []), ([], []), ([], []), ([], []), ([], []), ([8, 9], [8, 9]), ([10], [10]), ([11], [11]), ([7, 12], [7, 12]), ([5, 6, 13], [5, 6, 13]), ([0, 4, 14], [0, 4, 14]), ([15], [15]), ([16], [16]), ([16], [16]), ([17, 15, 0, 1, 2, 3, 4, 5, 6, 7, 8, 9, 10, 11, 12, 13, 14, 15, 16, 17], [17]), ([18, 19, 0, 1, 2, 3, 4, 5, 6, 7, 8, 9, 10, 11, 12, 13, 14, 15, 16, 17, 18, 19], [18])])
def spec_MapTextOut.B10 : List Nat := [0, 0, 0, 6, 14, 0, 0, 0, 0, 0, 768, 1792, 3840, 8064, 16352, 32767, 65535, 131071, 131071, 262143, 1048575]
theorem spec_MapTextOut.tab10 : rtab .any (opsOf Tryz.f24 10) = spec_MapTextOut.T10 := by kernel_rfl
theorem spec_MapTextOut.bits10 : waitsOk spec_MapTextOut.T10.2 spec_MapTextOut.B10 = true := by kernel_rfl
set_option maxHeartbeats 8000000 in
set_option maxRecDepth 100000 in
theorem spec_MapTextOut.calls (k : Nat) (A0 : Option Addr) (c0 : Nat) (l0 : List (S69)) (a1 : ByteArray) (r1 : List (S69)) (r2 : ByteArray) (w : World) (hr0 : Kd.C k69 w A0 l0.length l0) (hc0 : l0.length ≤ c0) (h : spec_MapTextOut.f k l0 a1 = some (r1, r2)) :
    Calls Tryz.prog 24 #[.slice A0 l0.length c0, .string a1] w fun e w' => ∃ v0_ : Value, e = .returned (.tuple #[v0_, .string r2]) ∧ Kd.R k69 69 w' w.heap.size (fun _ => True) v0_ r1 ∧ Below w.heap.size w w' := by
  have hu67 := Tryz.underlying67
  have HR0 := Aside0.mk hr0
  have HC0 := Aside0.mk hc0
  clear hr0 hc0
  have HB := Aside0.mk (Below.refl w.heap.size w)
  have H : ((spec_MapOk.f l0).bind fun t101 => (if t101 = true then ((spec_TextOk.f a1).bind fun t102 => (spec_MapTextOut.j0 k l0 a1 (!t102))) else (spec_MapTextOut.j0 k l0 a1 true))) = some (r1, r2) := h
  clear h
  have HC3 := Aside0.mk H
  clear H
  go_enter Tryz.func24, Tryz.ntmps24
  go_upto_region 1 with (fail)
  go_cut [20] (fun v20 wc => ∃ (kq : Nat) (x20_2 : Bool), v20 = .bool x20_2 ∧ Aside0 (spec_MapTextOut.j0 kq l0 a1 x20_2 = some (r1, r2)) ∧ Aside0 (kq ≤ k) ∧ Aside0 (Below w.heap.size w wc))
  case first =>
    have H := HC3.out
    clear HC3
    replace H := Option.bind_eq_some_iff.mp H
    obtain ⟨t101, A40, H⟩ := H
    replace H : (if t101 = true then ((spec_TextOk.f a1).bind fun t102 => (spec_MapTextOut.j0 k l0 a1 (!t102))) else (spec_MapTextOut.j0 k l0 a1 true)) = some (r1, r2) := H
    have A4 := Aside0.mk A40
    clear A40
    by_cases c5 : t101 = true
    · subst c5
      have H1 : ((spec_TextOk.f a1).bind fun t102 => (spec_MapTextOut.j0 k l0 a1 (!t102))) = some (r1, r2) := by rw [if_pos rfl] at H; exact H
      clear H
      have H := H1
      clear H1
      replace H := Option.bind_eq_some_iff.mp H
      obtain ⟨t102, A60, H⟩ := H
      replace H : (spec_MapTextOut.j0 k l0 a1 (!t102)) = some (r1, r2) := H
      have A6 := Aside0.mk A60
      clear A60
      have H' := Aside0.mk H
      clear H
      go_wp2_with (first | ((with_reducible refine gate_callee (f := 30) rfl ?_); refine goesL_ (some 14) rfl rfl Tryz.func30 (by kernel_rfl) rfl #[.slice A0 l0.length c0] rfl (by (try simp only [List.map_toArray, List.map_cons, List.map_nil]); first | done | rfl | (simp only [List.length_drop, List.length_take]; rfl)) ?_; (with_reducible refine (spec_MapOk.calls _ _ l0 true _ ?side1 ?side2 A4.out).mono ?_); (case side1 => repeat (first | exact (Kd.C_below HR0.out HB.out) | (with_reducible refine Kd.C_alloc ?_ _) | (with_reducible refine Kd.C_drewN ?_ _) | (with_reducible refine Kd.C_drew ?_))); (case side2 => exact HC0.out); rintro e w7 ⟨rfl, hb⟩; refine ⟨_, rfl, ?_⟩; have n0_ := Aside0.mk (below_step (by repeat (first | (with_reducible first | exact HB.out | apply below_alloc | apply pw_below_drewN | apply below_drew1) | exact HB.out)) hb); clear HB; have HB := n0_; clear n0_; (try clear hb); (try clear hb2); (try clear hk); (try clear hi)) | (go_at_call 31; (with_reducible refine (spec_TextOk.calls a1 t102 _ A6.out).mono ?_); rintro e w8 ⟨rfl, hb⟩; have n0_ := Aside0.mk (below_step (by repeat (first | (with_reducible first | exact HB.out | apply below_alloc | apply pw_below_drewN | apply below_drew1) | exact HB.out)) hb); clear HB; have HB := n0_; clear n0_; (try clear hb); (try clear hb2); (try clear hk); (try clear hi)))
      go_meet
      case rel => exact ⟨_, (!t102), (by first | rfl | (simp; done) | (simp [*]; done)), H', ⟨by first | omega | exact Nat.le_refl _⟩, ⟨by repeat (first | (with_reducible first | exact HB.out | apply below_alloc | apply pw_below_drewN | apply below_drew1) | exact HB.out)⟩⟩
    · replace c5 := Bool.eq_false_iff.mpr c5
      subst c5
      have H1 : (spec_MapTextOut.j0 k l0 a1 true) = some (r1, r2) := by rw [if_neg (show ¬ (false = true) by decide)] at H; exact H
      clear H
      have H := H1
      clear H1
      have H' := Aside0.mk H
      clear H
      go_wp2_with (first | ((with_reducible refine gate_callee (f := 30) rfl ?_); refine goesL_ (some 14) rfl rfl Tryz.func30 (by kernel_rfl) rfl #[.slice A0 l0.length c0] rfl (by (try simp only [List.map_toArray, List.map_cons, List.map_nil]); first | done | rfl | (simp only [List.length_drop, List.length_take]; rfl)) ?_; (with_reducible refine (spec_MapOk.calls _ _ l0 false _ ?side1 ?side2 A4.out).mono ?_); (case side1 => repeat (first | exact (Kd.C_below HR0.out HB.out) | (with_reducible refine Kd.C_alloc ?_ _) | (with_reducible refine Kd.C_drewN ?_ _) | (with_reducible refine Kd.C_drew ?_))); (case side2 => exact HC0.out); rintro e w9 ⟨rfl, hb⟩; refine ⟨_, rfl, ?_⟩; have n0_ := Aside0.mk (below_step (by repeat (first | (with_reducible first | exact HB.out | apply below_alloc | apply pw_below_drewN | apply below_drew1) | exact HB.out)) hb); clear HB; have HB := n0_; clear n0_; (try clear hb); (try clear hb2); (try clear hk); (try clear hi)))
      go_meet
      case rel => exact ⟨_, (true), (by first | rfl | (simp; done) | (simp [*]; done)), H', ⟨by first | omega | exact Nat.le_refl _⟩, ⟨by repeat (first | (with_reducible first | exact HB.out | apply below_alloc | apply pw_below_drewN | apply below_drew1) | exact HB.out)⟩⟩
  case rest =>
    clear HC3
    try clear c2
    try clear p2
    try clear c3
    try clear c5
    obtain ⟨kq, x20_2, rfl, HA, HJ2, HB⟩ := hcut
    cases kq with
    | zero => exact absurd HA.out (by simp [spec_MapTextOut.j0])
    | succ kj2 =>
      have H := HA.out
      clear HA
      simp only [spec_MapTextOut.j0] at H
      by_cases c10 : x20_2 = true
      · subst c10
        have H1 : (some ((([] : List (S69))), (⟨#[]⟩ : ByteArray))) = some (r1, r2) := by rw [if_pos rfl] at H; exact H
        clear H
        have H := H1
        clear H1
        obtain ⟨y103, hy103⟩ : ∃ y_ : List (S69), y_ = (([] : List (S69))) := ⟨_, rfl⟩
        replace H : (some (y103, (⟨#[]⟩ : ByteArray))) = some (r1, r2) := by first | (rw [hy103]; with_reducible exact H) | (have H2_ := (Option.bind_some _ _).symm.trans H; rw [hy103]; with_reducible exact H2_) | (have H2_ := (Option.bind_some _ _).symm.trans H; with_reducible exact H2_) | with_reducible exact H | (rw [hy103]; exact H) | exact H
        have Ny103 := Aside0.mk hy103
        clear hy103
        simp only [Option.some.injEq, Prod.mk.injEq] at H
        obtain ⟨rfl, rfl⟩ := H
        go_wp2_with (first | ((with_reducible refine gate_dst (N := 21) rfl ?_); refine Kd.R_lit k69 _ 69 ?hg (N := 21) ?hd (xs := ([] : List (S69))) (inner := []) (ok := fun _ => True) (okp := fun _ => True) ?hr ?hp (fun _ hk => hk) trivial (Below.refl _ _) (Nat.le_refl _) (by simp) ?_; (case hd => rfl); (case hg => rfl); (case hr => first | (go_simp; done) | (go_simp; rfl)); (case hp => exact (Reps.none _ _)); intro v104 w11 ho12 hb hg_ hnew_; clear hg_ hnew_; (first | rw [← Ny103.out] at ho12 | (simp only [Int.reduceToNat] at ho12; rw [← Ny103.out] at ho12)); have n0_ := Aside0.mk (Kd.R_lower ho12 (below_size (by repeat (first | (with_reducible first | exact HB.out | apply below_alloc | apply pw_below_drewN | apply below_drew1) | exact HB.out)))); have n1_ := Aside0.mk (below_step (by repeat (first | (with_reducible first | exact HB.out | apply below_alloc | apply pw_below_drewN | apply below_drew1) | exact HB.out)) hb); clear HB; have HO105 := n0_; have HB := n1_; clear n0_ n1_; clear hb ho12))
        go_ret2
        exact ⟨_, by first | rfl | (simp [errW_none, errW_some] <;> rfl) | (simp [*, errW_none, errW_some] <;> rfl), by (with_reducible repeat (first | apply Kd.R_alloc | apply Kd.R_drewN | apply Kd.R_drew)); exact HO105.out, by repeat (first | (with_reducible first | exact HB.out | apply below_alloc | apply pw_below_drewN | apply below_drew1) | exact HB.out)⟩
      · replace c10 := Bool.eq_false_iff.mpr c10
        subst c10
        have H1 : ((spec_l3Copy.f l0).bind fun t106 => ((spec_l2Pieces.f kj2 a1).bind fun t109 => (spec_MapTextOut.l0 kj2 a1 t106 (⟨#[]⟩ : ByteArray) 0 t109 0))) = some (r1, r2) := by rw [if_neg (show ¬ (false = true) by decide)] at H; exact H
        clear H
        have H := H1
        clear H1
        replace H := Option.bind_eq_some_iff.mp H
        obtain ⟨t106, A130, H⟩ := H
        replace H : ((spec_l2Pieces.f kj2 a1).bind fun t109 => (spec_MapTextOut.l0 kj2 a1 t106 (⟨#[]⟩ : ByteArray) 0 t109 0)) = some (r1, r2) := H
        have A13 := Aside0.mk A130
        clear A130
        replace H := Option.bind_eq_some_iff.mp H
        obtain ⟨t109, A140, H⟩ := H
        replace H : (spec_MapTextOut.l0 kj2 a1 t106 (⟨#[]⟩ : ByteArray) 0 t109 0) = some (r1, r2) := H
        have A14 := Aside0.mk A140
        clear A140
        have H' := Aside0.mk H
        clear H
        go_wp2_with (first | ((with_reducible refine gate_callee (f := 62) rfl ?_); refine goesL_ (some 23) rfl rfl Tryz.func62 (by kernel_rfl) rfl #[.slice A0 l0.length c0] rfl (by (try simp only [List.map_toArray, List.map_cons, List.map_nil]); first | done | rfl | (simp only [List.length_drop, List.length_take]; rfl)) ?_; (with_reducible refine (spec_l3Copy.calls _ _ l0 t106 _ ?side1 ?side2 A13.out).mono ?_); (case side1 => repeat (first | exact (Kd.C_below HR0.out HB.out) | (with_reducible refine Kd.C_alloc ?_ _) | (with_reducible refine Kd.C_drewN ?_ _) | (with_reducible refine Kd.C_drew ?_))); (case side2 => exact HC0.out); rintro e w15 ⟨v107, rfl, ho0, hb⟩; refine ⟨_, rfl, ?_⟩; have n0_ := Aside0.mk (Kd.R_lower ho0 (below_size (by repeat (first | (with_reducible first | exact HB.out | apply below_alloc | apply pw_below_drewN | apply below_drew1) | exact HB.out)))); have n1_ := Aside0.mk (below_step (by repeat (first | (with_reducible first | exact HB.out | apply below_alloc | apply pw_below_drewN | apply below_drew1) | exact HB.out)) hb); clear HB; have HO108 := n0_; have HB := n1_; clear n0_ n1_; (try clear hb); (try clear hb2); (try clear hk); (try clear hi); (try clear ho0)) | ((with_reducible refine gate_callee (f := 55) rfl ?_); refine goesL_ (some 25) rfl rfl Tryz.func55 (by kernel_rfl) rfl #[.string a1] rfl (by (try simp only [List.map_toArray, List.map_cons, List.map_nil]); first | done | rfl | (simp only [List.length_drop, List.length_take]; rfl)) ?_; (with_reducible refine (spec_l2Pieces.calls kj2 a1 t109 _ A14.out).mono ?_); rintro e w16 ⟨v110, rfl, ho0, hb⟩; refine ⟨_, rfl, ?_⟩; have n0_ := Aside0.mk (Kd.R_below (by (with_reducible repeat (first | apply Kd.R_alloc | apply Kd.R_drewN | apply Kd.R_drew)); exact HO108.out) hb); have n1_ := Aside0.mk (Kd.R_lower ho0 (below_size (by repeat (first | (with_reducible first | exact HB.out | apply below_alloc | apply pw_below_drewN | apply below_drew1) | exact HB.out)))); have n2_ := Aside0.mk (below_step (by repeat (first | (with_reducible first | exact HB.out | apply below_alloc | apply pw_below_drewN | apply below_drew1) | exact HB.out)) hb); clear HO108; clear HB; have HO108 := n0_; have HO111 := n1_; have HB := n2_; clear n0_ n1_ n2_; (try clear hb); (try clear hb2); (try clear hk); (try clear hi); (try clear ho0)))
        go_loopg [6, 7, 8, 10] kj2 (fun kq v6 v7 v8 v10 w' => ∃ (x6_2 : List (S69)) (x7_2 : ByteArray) (x8_2 : Int) (x10_2 : Int), v7 = .string x7_2 ∧ v8 = .int .i64 x8_2 ∧ v10 = .int .i64 x10_2 ∧ Aside0 (spec_MapTextOut.l0 kq a1 x6_2 x7_2 x8_2 t109 x10_2 = some (r1, r2)) ∧ Aside0 (kq ≤ kj2) ∧ Aside0 (Kd.R k69 69 w' w.heap.size (fun _ => True) v6 x6_2) ∧ Aside0 (Kd.R k67 67 w' w.heap.size (fun _ => True) v110 t109) ∧ Aside0 (Below w.heap.size w w'))
        case atStart => exact ⟨(t106), ((⟨#[]⟩ : ByteArray)), (0), (0), (by first | rfl | (simp; done) | (simp [*]; done)), (by first | rfl | (simp; done) | (simp [*]; done)), (by first | rfl | (simp; done) | (simp [*]; done)), H', ⟨Nat.le_refl _⟩, ⟨by (with_reducible repeat (first | apply Kd.R_alloc | apply Kd.R_drewN | apply Kd.R_drew)); exact HO108.out⟩, ⟨by (with_reducible repeat (first | apply Kd.R_alloc | apply Kd.R_drewN | apply Kd.R_drew)); exact HO111.out⟩, ⟨by repeat (first | (with_reducible first | exact HB.out | apply below_alloc | apply pw_below_drewN | apply below_drew1) | exact HB.out)⟩⟩
        case round =>
          clear H'
          try clear c1
          try clear c2
          try clear p2
          try clear c3
          try clear c5
          try clear c6
          try clear c10
          try clear p2
          obtain ⟨x6_2, x7_2, x8_2, x10_2, rfl, rfl, rfl, HA, HK2, HO_6, HO_9, HB⟩ := hrel
          cases gk with
          | zero => exact absurd HA.out (by simp [spec_MapTextOut.l0])
          | succ k2 =>
            have H := HA.out
            clear HA
            simp only [spec_MapTextOut.l0] at H
            by_cases c17 : x10_2 < (t109.length : Int)
            · rw [if_pos c17] at H
              have c17b0 : decide (x10_2 < (t109.length : Int)) = true := decide_eq_true c17
              clear c17
              by_cases c18 : 0 ≤ x10_2
              · rw [if_pos c18] at H
                have c18b0 : decide (0 ≤ x10_2) = true := decide_eq_true c18
                clear c18
                by_cases c19 : 0 ≤ x8_2
                · rw [if_pos c19] at H
                  have c19b0 := eq_true c19
                  have c19b1 : decide (0 ≤ x8_2) = true := decide_eq_true c19
                  clear c19
                  by_cases c20 : x8_2 ≤ (wrap64 (x8_2 + ((rd_T67 t109 x10_2).f0)))
                  · rw [if_pos c20] at H
                    have c20b0 := eq_true c20
                    have c20b1 : decide (x8_2 ≤ (wrap64 (x8_2 + ((rd_T67 t109 x10_2).f0)))) = true := decide_eq_true c20
                    by_cases c21 : (wrap64 (x8_2 + ((rd_T67 t109 x10_2).f0))) ≤ (a1.size : Int)
                    · rw [if_pos c21] at H
                      have c21b0 := eq_true c21
                      have c21b1 : decide ((wrap64 (x8_2 + ((rd_T67 t109 x10_2).f0))) ≤ (a1.size : Int)) = true := decide_eq_true c21
                      replace H := Option.bind_eq_some_iff.mp H
                      obtain ⟨⟨t114, t117⟩, A220, H⟩ := H
                      replace H : (if x7_2.size + t117.size ≤ 9223372036854775807 then (spec_MapTextOut.l0 k2 a1 t114 (x7_2 ++ t117) (wrap64 (x8_2 + ((rd_T67 t109 x10_2).f0))) t109 (wrap64 (x10_2 + 1))) else (none)) = some (r1, r2) := H
                      have A22 := Aside0.mk A220
                      clear A220
                      by_cases c23 : x7_2.size + t117.size ≤ 9223372036854775807
                      · rw [if_pos c23] at H
                        have c23b0 := eq_true c23
                        have c23b1 : decide (x7_2.size + t117.size ≤ 9223372036854775807) = true := decide_eq_true c23
                        try have c23b2 : (9223372036854775807 < x7_2.size + t117.size) = False := eq_false (Nat.not_lt.2 c23)
                        have H' := Aside0.mk H
                        clear H
                        obtain ⟨Ao24, co24, eo24⟩ := Kd.R_slice HO_9.out
                        subst eo24
                        try go_wp2
                        have n0_ := Aside0.mk (Kd.R_drew HO_6.out)
                        have n1_ := Aside0.mk (Kd.R_drew HO_9.out)
                        have n2_ := Aside0.mk (below_drew1 HB.out)
                        clear HO_6
                        clear HO_9
                        clear HB
                        have HO_6 := n0_
                        have HO_9 := n1_
                        have HB := n2_
                        clear n0_ n1_ n2_
                        have p112 : 0 ≤ (x10_2 : Int) := of_decide_eq_true (by first | (with_reducible assumption) | assumption)
                        have q112 : x10_2 < (t109.length : Int) := of_decide_eq_true (by first | (with_reducible assumption) | assumption)
                        obtain ⟨ad112, e112, hx112_0, hx112_1, hx112_2, hx112_3⟩ := at_T67 (Kd.R_reads' HO_9.out).2.2 x10_2 p112 q112
                        cases e112
                        replace p112 := eq_true p112
                        replace q112 := eq_true q112
                        have p113 : 0 ≤ (x10_2 : Int) := of_decide_eq_true (by first | (with_reducible assumption) | assumption)
                        have q113 : x10_2 < (t109.length : Int) := of_decide_eq_true (by first | (with_reducible assumption) | assumption)
                        obtain ⟨ad113, e113, hx113_0, hx113_1, hx113_2, hx113_3⟩ := at_T67 (Kd.R_reads' HO_9.out).2.2 x10_2 p113 q113
                        obtain rfl : ad112 = ad113 := (by injection e113)
                        replace p113 := eq_true p113
                        replace q113 := eq_true q113
                        obtain ⟨Ao26, co26, eo26⟩ := Kd.R_slice HO_6.out
                        (first | subst eo26 | (injection eo26 with f1_ f2_ f3_; have f4_ := f1_.symm; have f5_ := f3_.symm; clear f1_ f2_ f3_; subst f4_; subst f5_))
                        refine start_ (n := 21) (S := fun w' => w'.cell? (ad112.add ((x10_2).toNat * 4)) = some (.int .i64 ((rd_T67 t109 x10_2).f0)) ∧ w'.cell? ⟨(ad112.add ((x10_2).toNat * 4)).block, (ad112.add ((x10_2).toNat * 4)).off + 1, none⟩ = some (.bool ((rd_T67 t109 x10_2).f1)) ∧ w'.cell? ⟨(ad112.add ((x10_2).toNat * 4)).block, (ad112.add ((x10_2).toNat * 4)).off + 2, none⟩ = some (.int .i64 ((rd_T67 t109 x10_2).f2.f0)) ∧ w'.cell? ⟨(ad112.add ((x10_2).toNat * 4)).block, (ad112.add ((x10_2).toNat * 4)).off + 3, none⟩ = some (.int .i64 ((rd_T67 t109 x10_2).f2.f1)) ∧ w'.cell? (ad112.add ((x10_2).toNat * 4)) = some (.int .i64 ((rd_T67 t109 x10_2).f0)) ∧ w'.cell? ⟨(ad112.add ((x10_2).toNat * 4)).block, (ad112.add ((x10_2).toNat * 4)).off + 1, none⟩ = some (.bool ((rd_T67 t109 x10_2).f1)) ∧ w'.cell? ⟨(ad112.add ((x10_2).toNat * 4)).block, (ad112.add ((x10_2).toNat * 4)).off + 2, none⟩ = some (.int .i64 ((rd_T67 t109 x10_2).f2.f0)) ∧ w'.cell? ⟨(ad112.add ((x10_2).toNat * 4)).block, (ad112.add ((x10_2).toNat * 4)).off + 3, none⟩ = some (.int .i64 ((rd_T67 t109 x10_2).f2.f1))) (ds := []) #[false, false, false, false, false, false, false, false, false, false, false, false, false, false, false, false, false, false, false, false, false] (by kernel_rfl) rfl rfl ⟨hx112_0, hx112_1, hx112_2, hx112_3, hx113_0, hx113_1, hx113_2, hx113_3⟩ (fun hHeld => ?_); refine with_tabW spec_MapTextOut.tab10 spec_MapTextOut.bits10 (fun HT_ HW_ => ?_)
                        generalize wr.drew = w25 at HO_6 HO_9 HB hx112_0 hx112_1 hx112_2 hx112_3 hx113_0 hx113_1 hx113_2 hx113_3 hHeld ⊢
                        refine pure_ (i := 0) (N := some 33) (v := ?_) (a' := ?_) #[true, false, false, false, false, false, false, false, false, false, false, false, false, false, false, false, false, false, false, false, false] rfl rfl (any_of HT_.out (by kernel_rfl)) (fun _ _ _ h => h) (Or.inl ⟨by rfl, ?_⟩) ?_ ?_
                        rotate_left
                        · intro w'
                          go_simp
                          with_reducible rfl
                        rotate_left
                        · simp only [Act.put, List.setIfInBounds_toArray, List.set_cons_zero, List.set_cons_succ, i64_w, i32_w]
                          rfl
                        refine pure_ (i := 1) (N := some 34) (v := ?_) (a' := ?_) #[true, true, false, false, false, false, false, false, false, false, false, false, false, false, false, false, false, false, false, false, false] rfl rfl (any_of HT_.out (by kernel_rfl)) (fun _ _ _ h => h) (Or.inl ⟨by rfl, ?_⟩) ?_ ?_
                        rotate_left
                        · intro w'
                          go_simp
                          with_reducible rfl
                        rotate_left
                        · simp only [Act.put, List.setIfInBounds_toArray, List.set_cons_zero, List.set_cons_succ, i64_w, i32_w]
                          rfl
                        refine pure_ (i := 2) (N := some 35) (v := ?_) (a' := ?_) #[true, true, true, false, false, false, false, false, false, false, false, false, false, false, false, false, false, false, false, false, false] rfl rfl (any_of HT_.out (by kernel_rfl)) (fun _ _ _ h => h) (Or.inl ⟨by rfl, ?_⟩) ?_ ?_
                        rotate_left
                        · intro w'
                          go_simp
                          with_reducible rfl
                        rotate_left
                        · simp only [Act.put, List.setIfInBounds_toArray, List.set_cons_zero, List.set_cons_succ, i64_w, i32_w]
                          rfl
                        refine pure_ (i := 3) (N := some 36) (v := ?_) (a' := ?_) #[true, true, true, true, false, false, false, false, false, false, false, false, false, false, false, false, false, false, false, false, false] rfl rfl (any_of HT_.out (by kernel_rfl)) (fun _ _ _ h => h) (Or.inl ⟨by rfl, ?_⟩) ?_ ?_
                        rotate_left
                        · intro w'
                          go_simp
                          with_reducible rfl
                        rotate_left
                        · simp only [Act.put, List.setIfInBounds_toArray, List.set_cons_zero, List.set_cons_succ, i64_w, i32_w]
                          rfl
                        refine pure_ (i := 5) (N := some 38) (v := ?_) (a' := ?_) #[true, true, true, true, false, true, false, false, false, false, false, false, false, false, false, false, false, false, false, false, false] rfl rfl (any_of HT_.out (by kernel_rfl)) (fun _ _ _ h => h) (Or.inl ⟨by rfl, ?_⟩) ?_ ?_
                        rotate_left
                        · intro w'
                          go_simp
                          with_reducible rfl
                        rotate_left
                        · simp only [Act.put, List.setIfInBounds_toArray, List.set_cons_zero, List.set_cons_succ, i64_w, i32_w]
                          rfl
                        refine pure_ (i := 6) (N := some 39) (v := ?_) (a' := ?_) #[true, true, true, true, false, true, true, false, false, false, false, false, false, false, false, false, false, false, false, false, false] rfl rfl (any_of HT_.out (by kernel_rfl)) (fun _ _ _ h => h) (Or.inl ⟨by rfl, ?_⟩) ?_ ?_
                        rotate_left
                        · intro w'
                          go_simp
                          with_reducible rfl
                        rotate_left
                        · simp only [Act.put, List.setIfInBounds_toArray, List.set_cons_zero, List.set_cons_succ, i64_w, i32_w]
                          rfl
                        refine pure_ (i := 7) (N := some 40) (v := ?_) (a' := ?_) #[true, true, true, true, false, true, true, true, false, false, false, false, false, false, false, false, false, false, false, false, false] rfl rfl (any_of HT_.out (by kernel_rfl)) (fun _ _ _ h => h) (Or.inl ⟨by rfl, ?_⟩) ?_ ?_
                        rotate_left
                        · intro w'
                          go_simp
                          with_reducible rfl
                        rotate_left
                        · simp only [Act.put, List.setIfInBounds_toArray, List.set_cons_zero, List.set_cons_succ, i64_w, i32_w]
                          rfl
                        refine pure_ (i := 8) (N := some 41) (v := ?_) (a' := ?_) #[true, true, true, true, false, true, true, true, true, false, false, false, false, false, false, false, false, false, false, false, false] rfl rfl (any_of HT_.out (by kernel_rfl)) (fun _ _ _ h => h) (Or.inl ⟨by rfl, ?_⟩) ?_ ?_
                        rotate_left
                        · intro w'
                          go_simp
                          with_reducible rfl
                        rotate_left
                        · simp only [Act.put, List.setIfInBounds_toArray, List.set_cons_zero, List.set_cons_succ, i64_w, i32_w]
                          rfl
                        refine pure_ (i := 9) (N := some 42) (v := ?_) (a' := ?_) #[true, true, true, true, false, true, true, true, true, true, false, false, false, false, false, false, false, false, false, false, false] rfl rfl (any_of HT_.out (by kernel_rfl)) (fun _ _ _ h => h) (Or.inl ⟨by rfl, ?_⟩) ?_ ?_
                        rotate_left
                        · intro w'
                          go_simp
                          with_reducible rfl
                        rotate_left
                        · simp only [Act.put, List.setIfInBounds_toArray, List.set_cons_zero, List.set_cons_succ, i64_w, i32_w]
                          rfl
                        refine pure_ (i := 10) (N := some 43) (v := ?_) (a' := ?_) #[true, true, true, true, false, true, true, true, true, true, true, false, false, false, false, false, false, false, false, false, false] rfl rfl (any_of HT_.out (by kernel_rfl)) (fun _ _ _ h => h) (Or.inl ⟨by rfl, ?_⟩) ?_ ?_
                        rotate_left
                        · intro w'
                          go_simp
                          with_reducible rfl
                        rotate_left
                        · simp only [Act.put, List.setIfInBounds_toArray, List.set_cons_zero, List.set_cons_succ, i64_w, i32_w]
                          rfl
                        refine pure_ (i := 11) (N := some 44) (v := ?_) (a' := ?_) #[true, true, true, true, false, true, true, true, true, true, true, true, false, false, false, false, false, false, false, false, false] rfl rfl (any_of HT_.out (by kernel_rfl)) (fun _ _ _ h => h) (Or.inl ⟨by rfl, ?_⟩) ?_ ?_
                        rotate_left
                        · intro w'
                          go_simp
                          with_reducible rfl
                        rotate_left
                        · simp only [Act.put, List.setIfInBounds_toArray, List.set_cons_zero, List.set_cons_succ, i64_w, i32_w]
                          rfl
                        refine take_ (i := 4) (N := some 37) (v := ?_) (a' := ?_) #[true, true, true, true, true, true, true, true, true, true, true, true, false, false, false, false, false, false, false, false, false] rfl rfl (take_ofW HT_.out HW_.out (by kernel_rfl)) (fun _ _ _ h => h) (Or.inl ⟨by rfl, ?_⟩) hHeld ?_ ?_
                        rotate_left
                        · rintro w' ⟨s0, s1, s2, s3, s4, s5, s6, s7⟩
                          go_simp
                          with_reducible rfl
                        rotate_left
                        · simp only [Act.put, List.setIfInBounds_toArray, List.set_cons_zero, List.set_cons_succ, i64_w, i32_w]
                          rfl
                        refine take_ (i := 12) (N := some 45) (v := ?_) (a' := ?_) #[true, true, true, true, true, true, true, true, true, true, true, true, true, false, false, false, false, false, false, false, false] rfl rfl (take_ofW HT_.out HW_.out (by kernel_rfl)) (fun _ _ _ h => h) (Or.inl ⟨by rfl, ?_⟩) hHeld ?_ ?_
                        rotate_left
                        · rintro w' ⟨s0, s1, s2, s3, s4, s5, s6, s7⟩
                          go_simp
                          with_reducible rfl
                        rotate_left
                        · simp only [Act.put, List.setIfInBounds_toArray, List.set_cons_zero, List.set_cons_succ, i64_w, i32_w]
                          rfl
                        refine pure_ (i := 13) (N := some 46) (v := ?_) (a' := ?_) #[true, true, true, true, true, true, true, true, true, true, true, true, true, true, false, false, false, false, false, false, false] rfl rfl (any_of HT_.out (by kernel_rfl)) (fun _ _ _ h => h) (Or.inl ⟨by rfl, ?_⟩) ?_ ?_
                        rotate_left
                        · intro w'
                          go_simp
                          with_reducible rfl
                        rotate_left
                        · simp only [Act.put, List.setIfInBounds_toArray, List.set_cons_zero, List.set_cons_succ, i64_w, i32_w]
                          rfl
                        refine pure_ (i := 14) (N := some 47) (v := ?_) (a' := ?_) #[true, true, true, true, true, true, true, true, true, true, true, true, true, true, true, false, false, false, false, false, false] rfl rfl (any_of HT_.out (by kernel_rfl)) (fun _ _ _ h => h) (Or.inl ⟨by rfl, ?_⟩) ?_ ?_
                        rotate_left
                        · intro w'
                          go_simp
                          with_reducible rfl
                        rotate_left
                        · simp only [Act.put, List.setIfInBounds_toArray, List.set_cons_zero, List.set_cons_succ, i64_w, i32_w]
                          rfl
                        refine one_ (i := 15) (N := some 48) #[true, true, true, true, true, true, true, true, true, true, true, true, true, true, true, true, false, false, false, false, false] rfl rfl (one_of HT_.out (by kernel_rfl)) (by decide) (fun K hK => ?_)
                        refine goes_ Tryz.func63 (by kernel_rfl) rfl #[.slice Ao26 x6_2.length co26, .agg #[.int .i64 ((rd_T67 t109 x10_2).f0), .bool ((rd_T67 t109 x10_2).f1), .int .i64 ((rd_T67 t109 x10_2).f2.f0), .int .i64 ((rd_T67 t109 x10_2).f2.f1)], .string (a1.extract (x8_2 : Int).toNat ((wrap64 (x8_2 + ((rd_T67 t109 x10_2).f0))) : Int).toNat)] (by rfl) rfl rfl (by (try simp only [List.map_toArray, List.map_cons, List.map_nil]); first | done | rfl | (simp only [List.length_drop, List.length_take]; rfl)) ?_
                        with_reducible refine (spec_l3PieceOut.calls (fun k_ => some k_ = (.slice Ao26 x6_2.length co26 : Value).ownBlock) (.slice Ao26 x6_2.length co26) x6_2 ((rd_T67 t109 x10_2).f0) ((rd_T67 t109 x10_2).f1) ((rd_T67 t109 x10_2).f2.f0) ((rd_T67 t109 x10_2).f2.f1) (a1.extract (x8_2 : Int).toNat ((wrap64 (x8_2 + ((rd_T67 t109 x10_2).f0))) : Int).toNat) t114 t117 w _ ?side1 ?side2 A22.out).mono ?_
                        (case side1 => repeat (first | (with_reducible first | exact HB.out | apply below_alloc | apply pw_below_drewN | apply below_drew1) | exact HB.out))
                        (case side2 => exact Kd.R_tight rfl HO_6.out)
                        rintro e w27 ⟨v115, rfl, ho0, hb, hkp⟩
                        have HS0_ := cell_kept (hHeld.1) hkp (by first | (rw [add_block]; exact (fun hs_ => ((((Kd.R_apart' HO_9.out (Kd.R_typed HO_6.out) (by decide))).1 _ rfl).2) hs_)) | (show ¬ _; simp only [add_block]; exact (fun hs_ => ((((Kd.R_apart' HO_9.out (Kd.R_typed HO_6.out) (by decide))).1 _ rfl).2) hs_)) | exact (fun hs_ => ((((Kd.R_apart' HO_9.out (Kd.R_typed HO_6.out) (by decide))).1 _ rfl).2) hs_))
                        have HS1_ := cell_kept (hHeld.2.1) hkp (by first | (rw [add_block]; exact (fun hs_ => ((((Kd.R_apart' HO_9.out (Kd.R_typed HO_6.out) (by decide))).1 _ rfl).2) hs_)) | (show ¬ _; simp only [add_block]; exact (fun hs_ => ((((Kd.R_apart' HO_9.out (Kd.R_typed HO_6.out) (by decide))).1 _ rfl).2) hs_)) | exact (fun hs_ => ((((Kd.R_apart' HO_9.out (Kd.R_typed HO_6.out) (by decide))).1 _ rfl).2) hs_))
                        have HS2_ := cell_kept (hHeld.2.2.1) hkp (by first | (rw [add_block]; exact (fun hs_ => ((((Kd.R_apart' HO_9.out (Kd.R_typed HO_6.out) (by decide))).1 _ rfl).2) hs_)) | (show ¬ _; simp only [add_block]; exact (fun hs_ => ((((Kd.R_apart' HO_9.out (Kd.R_typed HO_6.out) (by decide))).1 _ rfl).2) hs_)) | exact (fun hs_ => ((((Kd.R_apart' HO_9.out (Kd.R_typed HO_6.out) (by decide))).1 _ rfl).2) hs_))
                        have HS3_ := cell_kept (hHeld.2.2.2.1) hkp (by first | (rw [add_block]; exact (fun hs_ => ((((Kd.R_apart' HO_9.out (Kd.R_typed HO_6.out) (by decide))).1 _ rfl).2) hs_)) | (show ¬ _; simp only [add_block]; exact (fun hs_ => ((((Kd.R_apart' HO_9.out (Kd.R_typed HO_6.out) (by decide))).1 _ rfl).2) hs_)) | exact (fun hs_ => ((((Kd.R_apart' HO_9.out (Kd.R_typed HO_6.out) (by decide))).1 _ rfl).2) hs_))
                        have HS4_ := cell_kept (hHeld.2.2.2.2.1) hkp (by first | (rw [add_block]; exact (fun hs_ => ((((Kd.R_apart' HO_9.out (Kd.R_typed HO_6.out) (by decide))).1 _ rfl).2) hs_)) | (show ¬ _; simp only [add_block]; exact (fun hs_ => ((((Kd.R_apart' HO_9.out (Kd.R_typed HO_6.out) (by decide))).1 _ rfl).2) hs_)) | exact (fun hs_ => ((((Kd.R_apart' HO_9.out (Kd.R_typed HO_6.out) (by decide))).1 _ rfl).2) hs_))
                        have HS5_ := cell_kept (hHeld.2.2.2.2.2.1) hkp (by first | (rw [add_block]; exact (fun hs_ => ((((Kd.R_apart' HO_9.out (Kd.R_typed HO_6.out) (by decide))).1 _ rfl).2) hs_)) | (show ¬ _; simp only [add_block]; exact (fun hs_ => ((((Kd.R_apart' HO_9.out (Kd.R_typed HO_6.out) (by decide))).1 _ rfl).2) hs_)) | exact (fun hs_ => ((((Kd.R_apart' HO_9.out (Kd.R_typed HO_6.out) (by decide))).1 _ rfl).2) hs_))
                        have HS6_ := cell_kept (hHeld.2.2.2.2.2.2.1) hkp (by first | (rw [add_block]; exact (fun hs_ => ((((Kd.R_apart' HO_9.out (Kd.R_typed HO_6.out) (by decide))).1 _ rfl).2) hs_)) | (show ¬ _; simp only [add_block]; exact (fun hs_ => ((((Kd.R_apart' HO_9.out (Kd.R_typed HO_6.out) (by decide))).1 _ rfl).2) hs_)) | exact (fun hs_ => ((((Kd.R_apart' HO_9.out (Kd.R_typed HO_6.out) (by decide))).1 _ rfl).2) hs_))
                        have HS7_ := cell_kept (hHeld.2.2.2.2.2.2.2) hkp (by first | (rw [add_block]; exact (fun hs_ => ((((Kd.R_apart' HO_9.out (Kd.R_typed HO_6.out) (by decide))).1 _ rfl).2) hs_)) | (show ¬ _; simp only [add_block]; exact (fun hs_ => ((((Kd.R_apart' HO_9.out (Kd.R_typed HO_6.out) (by decide))).1 _ rfl).2) hs_)) | exact (fun hs_ => ((((Kd.R_apart' HO_9.out (Kd.R_typed HO_6.out) (by decide))).1 _ rfl).2) hs_))
                        refine ⟨_, rfl, ?_⟩
                        have n0_ := Aside0.mk (Kd.R_mono (ok' := fun k_ => True) (Kd.R_keptB ((Kd.R_apart' HO_9.out (Kd.R_typed HO_6.out) (by decide))) hkp (fun k_ hk_ hs_ => (hk_.2) hs_)) (fun k_ hk_ => trivial))
                        have n1_ := Aside0.mk (Kd.R_mono (ok' := fun k_ => True) ho0 (fun k_ hk_ => trivial))
                        have n2_ := Aside0.mk (hb)
                        clear HO_9
                        clear HB
                        clear HO_6
                        have HO_9 := n0_
                        have HO116 := n1_
                        have HB := n2_
                        clear n0_ n1_ n2_
                        (try clear hb)
                        (try clear hkp)
                        (try clear ho0)
                        refine hK.out _ _ ⟨HS0_, HS1_, HS2_, HS3_, HS4_, HS5_, HS6_, HS7_⟩ (fun hHeld => ?_)
                        clear hK K
                        refine norm_ (a' := ?_) ?_ ?_
                        rotate_left
                        · show Act.put _ (some 48) _ = _
                          simp only [Act.put, List.setIfInBounds_toArray, List.set_cons_zero, List.set_cons_succ, i64_w, i32_w]
                          rfl
                        refine pure_ (i := 16) (N := some 32) (v := ?_) (a' := ?_) #[true, true, true, true, true, true, true, true, true, true, true, true, true, true, true, true, true, false, false, false, false] rfl rfl (any_of HT_.out (by kernel_rfl)) (fun _ _ _ h => h) (Or.inl ⟨by rfl, ?_⟩) ?_ ?_
                        rotate_left
                        · intro w'
                          go_simp
                          with_reducible rfl
                        rotate_left
                        · simp only [Act.put, List.setIfInBounds_toArray, List.set_cons_zero, List.set_cons_succ, i64_w, i32_w]
                          rfl
                        refine pure_ (i := 17) (N := some 49) (v := ?_) (a' := ?_) #[true, true, true, true, true, true, true, true, true, true, true, true, true, true, true, true, true, true, false, false, false] rfl rfl (any_of HT_.out (by kernel_rfl)) (fun _ _ _ h => h) (Or.inl ⟨by rfl, ?_⟩) ?_ ?_
                        rotate_left
                        · intro w'
                          go_simp
                          with_reducible rfl
                        rotate_left
                        · simp only [Act.put, List.setIfInBounds_toArray, List.set_cons_zero, List.set_cons_succ, i64_w, i32_w]
                          rfl
                        refine pure_ (i := 18) (N := some 50) (v := ?_) (a' := ?_) #[true, true, true, true, true, true, true, true, true, true, true, true, true, true, true, true, true, true, true, false, false] rfl rfl (any_of HT_.out (by kernel_rfl)) (fun _ _ _ h => h) (Or.inl ⟨by rfl, ?_⟩) ?_ ?_
                        rotate_left
                        · intro w'
                          go_simp
                          with_reducible rfl
                        rotate_left
                        · simp only [Act.put, List.setIfInBounds_toArray, List.set_cons_zero, List.set_cons_succ, i64_w, i32_w]
                          rfl
                        refine pure_ (i := 19) (N := some 11) (v := ?_) (a' := ?_) #[true, true, true, true, true, true, true, true, true, true, true, true, true, true, true, true, true, true, true, true, false] rfl rfl (any_of HT_.out (by kernel_rfl)) (fun _ _ _ h => h) (Or.inl ⟨by rfl, ?_⟩) ?_ ?_
                        rotate_left
                        · intro w'
                          go_simp
                          with_reducible rfl
                        rotate_left
                        · simp only [Act.put, List.setIfInBounds_toArray, List.set_cons_zero, List.set_cons_succ, i64_w, i32_w]
                          rfl
                        refine pure_ (i := 20) (N := some 12) (v := ?_) (a' := ?_) #[true, true, true, true, true, true, true, true, true, true, true, true, true, true, true, true, true, true, true, true, true] rfl rfl (any_of HT_.out (by kernel_rfl)) (fun _ _ _ h => h) (Or.inl ⟨by rfl, ?_⟩) ?_ ?_
                        rotate_left
                        · intro w'
                          go_simp
                          with_reducible rfl
                        rotate_left
                        · simp only [Act.put, List.setIfInBounds_toArray, List.set_cons_zero, List.set_cons_succ, i64_w, i32_w]
                          rfl
                        refine done_ (done_of HT_.out (by kernel_rfl)) ?_
                        have p118 : 0 ≤ (x10_2 : Int) := of_decide_eq_true (by first | (with_reducible assumption) | assumption)
                        have q118 : x10_2 < (t109.length : Int) := of_decide_eq_true (by first | (with_reducible assumption) | assumption)
                        obtain ⟨ad118, e118, hx118_0, hx118_1, hx118_2, hx118_3⟩ := at_T67 (Kd.R_reads' HO_9.out).2.2 x10_2 p118 q118
                        obtain rfl : ad112 = ad118 := (by injection e118)
                        replace p118 := eq_true p118
                        replace q118 := eq_true q118
                        try go_wp2
                        go_roundg k2
                        case measure => have := HJ2.out; have := HK2.out; omega
                        case rel => exact ⟨(t114), (x7_2 ++ t117), (wrap64 (x8_2 + ((rd_T67 t109 x10_2).f0))), (wrap64 (x10_2 + 1)), (by first | rfl | (simp; done) | (simp [*]; done)), (by first | rfl | (simp; done) | (simp [*]; done)), (by first | rfl | (simp; done) | (simp [*]; done)), H', ⟨by have := HJ2.out; have := HK2.out; omega⟩, ⟨by (with_reducible repeat (first | apply Kd.R_alloc | apply Kd.R_drewN | apply Kd.R_drew)); exact HO116.out⟩, ⟨by (with_reducible repeat (first | apply Kd.R_alloc | apply Kd.R_drewN | apply Kd.R_drew)); exact HO_9.out⟩, ⟨by repeat (first | (with_reducible first | exact HB.out | apply below_alloc | apply pw_below_drewN | apply below_drew1) | exact HB.out)⟩⟩
                      · rw [if_neg c23] at H
                        exact absurd H (by simp)
                    · rw [if_neg c21] at H
                      exact absurd H (by simp)
                  · rw [if_neg c20] at H
                    exact absurd H (by simp)
                · rw [if_neg c19] at H
                  exact absurd H (by simp)
              · rw [if_neg c18] at H
                exact absurd H (by simp)
            · rw [if_neg c17] at H
              have c17b0 : decide (x10_2 < (t109.length : Int)) = false := decide_eq_false c17
              clear c17
              simp only [Option.some.injEq, Prod.mk.injEq] at H
              obtain ⟨rfl, rfl⟩ := H
              obtain ⟨Ao28, co28, eo28⟩ := Kd.R_slice HO_9.out
              subst eo28
              go_wp2
              go_ret2
              exact ⟨_, by first | rfl | (simp [errW_none, errW_some] <;> rfl) | (simp [*, errW_none, errW_some] <;> rfl), by (with_reducible repeat (first | apply Kd.R_alloc | apply Kd.R_drewN | apply Kd.R_drew)); exact HO_6.out, by repeat (first | (with_reducible first | exact HB.out | apply below_alloc | apply pw_below_drewN | apply below_drew1) | exact HB.out)⟩
end
end Go.Proofs.YtijompkonaiagaaGreatDoor.Q
namespace Go.Proofs.YtijompkonaiagaaGreatDoor.Q
open Go.RowKit Go.Proofs.YtijompkonaiagaaGreatDoorW.PrintWords Go.Proofs.YtijompkonaiagaaGreatDoorW.PrintMore Go.Proofs.YtijompkonaiagaaGreatDoor.Z
set_option linter.unusedVariables false
set_option linter.unusedSimpArgs false
theorem spec_MapOk_is (m : List Pr) (hm : m.length ≤ 1099511627776) : spec_MapOk.f (m.map prTo) = some (mapOkB m) := by
  unfold spec_MapOk.f
  rw [map_pr, if_pos hm, prs_of_to]
theorem impl_MapOk_is (m : List Pr) (hm : m.length ≤ 1099511627776) : impl_MapOk.f (m.map prTo) = some (mapOkB m) := by
  unfold impl_MapOk.f
  rw [map_pr, if_pos hm, prs_of_to]
theorem spec_TextOk_is (l : List UInt8) (hl : l.length ≤ 140737488355328) : spec_TextOk.f (mkB l) = some (textOk l) := by
  unfold spec_TextOk.f
  rw [size_mkB, if_pos hl, bl_of]
theorem pieceOut_to (m : List Pr) (hm : m.length ≤ 1000) (p : Pc) (t : List UInt8) : spec_l3PieceOut.f (m.map prTo) p.size p.named p.fin.addr p.fin.port (mkB t) = some ((outP m p t).1.map prTo, mkB (outP m p t).2) := by
  unfold spec_l3PieceOut.f
  rw [map_pr, if_pos (by omega), prs_of_to]
  rfl
theorem outP_len (m : List Pr) (p : Pc) (t : List UInt8) : (outP m p t).2.length ≤ t.length + 10 := by
  unfold outP
  split
  · split
    · have := nameOf_len ⟨9, (outS m p.fin).2.1⟩
      simp only
      omega
    · simp
  · simp
theorem spec_MapTextOut_l0 (l : List UInt8) (hl : l.length ≤ 1000) (ps : List Pc) (hps : ps.length ≤ 1000) (n : Nat) : ∀ (k : Nat) (m : List Pr) (acc : List UInt8) (off i : Nat), mapOkB m = true → ps.length - i ≤ n → n + 3 < k → i ≤ ps.length → off ≤ l.length → fits (ps.drop i) (l.drop off) → acc.length ≤ 1010 * i →
    spec_MapTextOut.l0 k (mkB l) (m.map prTo) (mkB acc) off (ps.map pcTo) i = some ((goOut m (ps.drop i) (l.drop off)).1.map prTo, mkB (acc ++ (goOut m (ps.drop i) (l.drop off)).2.flatten)) := by
  induction n with
  | zero =>
    intro k m acc off i hm hn hk hi ho hf ha
    obtain ⟨k, rfl⟩ : ∃ m, k = m + 1 := ⟨k - 1, by omega⟩
    simp only [spec_MapTextOut.l0]
    rw [if_neg (by rw [List.length_map]; omega), List.drop_of_length_le (by omega)]
    simp [goOut]
  | succ n ih =>
    intro k m acc off i hm hn hk hi ho hf ha
    obtain ⟨k, rfl⟩ : ∃ m, k = m + 1 := ⟨k - 1, by omega⟩
    simp only [spec_MapTextOut.l0]
    by_cases hlt : i < ps.length
    · obtain ⟨p, hp⟩ : ∃ p, ps[i]? = some p := ⟨_, List.getElem?_eq_getElem hlt⟩
      rw [drop_of hp] at hf ⊢
      obtain ⟨h0, h1, h2, hf⟩ := hf
      rw [List.length_drop] at h1
      have hsz : (mkB l).size = l.length := rfl
      have hm8 := mapOk_len hm
      have hln := outP_len m p ((l.drop off).take p.size.toNat)
      rw [List.length_take, List.length_drop] at hln
      have hok := outP_ok hm p ((l.drop off).take p.size.toNat)
      have hw : wrap64 ((off : Int) + p.size) = ((off + p.size.toNat : Nat) : Int) := by rw [w64 (by omega)]; omega
      have q0 : (i : Int) < (ps.length : Int) := by omega
      have q1 : (0 : Int) ≤ (i : Int) := by omega
      have q2 : (0 : Int) ≤ (off : Int) := by omega
      have q3 : (off : Int) ≤ ((off + p.size.toNat : Nat) : Int) := by omega
      have q4 : ((off + p.size.toNat : Nat) : Int) ≤ (l.length : Int) := by omega
      have q5 : acc.length + (outP m p ((l.drop off).take p.size.toNat)).2.length ≤ 9223372036854775807 := by omega
      have hw3 : wrap64 ((i : Int) + 1) = ((i + 1 : Nat) : Int) := by rw [w64 (by omega)]; omega
      have hf0 : (rd_T67 (ps.map pcTo) (i : Int)).f0 = p.size := by rw [rd_pc ps i p hp]; rfl
      have hf1 : (rd_T67 (ps.map pcTo) (i : Int)).f1 = p.named := by rw [rd_pc ps i p hp]; rfl
      have hf2 : (rd_T67 (ps.map pcTo) (i : Int)).f2.f0 = p.fin.addr := by rw [rd_pc ps i p hp]; rfl
      have hf3 : (rd_T67 (ps.map pcTo) (i : Int)).f2.f1 = p.fin.port := by rw [rd_pc ps i p hp]; rfl
      have hT := pieceOut_to m (by omega) p ((l.drop off).take p.size.toNat)
      simp only [hf0, hf1, hf2, hf3, hw, hw3, Int.toNat_natCast, extM, Nat.add_sub_cancel_left, hT, Option.bind_some, List.length_map, hsz, size_mkB]
      simp only [q0, q1, q2, q3, q4, q5, if_true]
      clear hf0 hf1 hf2 hf3 hw3 hT
      have := ih k (outP m p ((l.drop off).take p.size.toNat)).1 (acc ++ (outP m p ((l.drop off).take p.size.toNat)).2) (off + p.size.toNat) (i + 1) hok (by omega) (by omega) (by omega) (by omega) (by have h5 := hf; rw [List.drop_drop] at h5; exact h5) (by rw [List.length_append]; omega)
      rw [show mkB acc ++ mkB (outP m p ((l.drop off).take p.size.toNat)).2 = mkB (acc ++ (outP m p ((l.drop off).take p.size.toNat)).2) from bytes_append _ _]
      refine this.trans ?_
      simp [goOut, List.drop_drop]
    · rw [if_neg (by rw [List.length_map]; omega), List.drop_of_length_le (by omega)]
      simp [goOut]
theorem l3Copy_to (m : List Pr) (hm : m.length ≤ 1099511627776) : spec_l3Copy.f (m.map prTo) = some (m.map prTo) := by
  unfold spec_l3Copy.f
  rw [Option.bind_some, if_pos (by rw [map_pr, List.length_nil]; omega), List.nil_append]
theorem spec_MapTextOut_to (k : Nat) (hk : 3000 < k) (m : List Pr) (hm : m.length ≤ 1099511627776) (l : List UInt8) (hl : l.length ≤ 140737488355328) : spec_MapTextOut.f k (m.map prTo) (mkB l) = some ((mapOutT m l).1.map prTo, mkB (mapOutT m l).2) := by
  obtain ⟨k, rfl⟩ : ∃ m, k = m + 1 := ⟨k - 1, by omega⟩
  unfold spec_MapTextOut.f mapOutT
  rw [spec_MapOk_is m hm, Option.bind_some, spec_TextOk_is l hl]
  simp only [spec_MapTextOut.j0]
  cases h1 : mapOkB m
  · simp
  · cases h2 : textOk l
    · simp
    · have hl2 := textOk_len h2
      have hm2 := mapOk_len h1
      have hp := pcL_len (body l).length (body l) (Nat.le_refl _)
      have hb := body_len l
      simp only [Bool.and_self, if_true, Option.bind_some, Bool.not_true, Bool.false_eq_true, if_false]
      rw [l3Copy_to m hm, Option.bind_some, spec_pieces_to k l (by omega) (by omega), Option.bind_some]
      have := spec_MapTextOut_l0 l (by omega) (pcL (body l)) (by omega) 1000 k m [] 0 0 h1 (by omega) (by omega) (by omega) (by omega) (by rw [List.drop_zero, List.drop_zero]; exact fits_body l) (by simp)
      rw [List.drop_zero, List.drop_zero, List.nil_append] at this
      exact this
theorem mapOutT_len (m : List Pr) (l : List UInt8) : (mapOutT m l).1.length ≤ 100 ∧ (mapOutT m l).2.length ≤ 50000 := by
  unfold mapOutT
  split
  · rename_i h
    rw [Bool.and_eq_true] at h
    have hl2 := textOk_len h.2
    have hm2 := mapOk_len h.1
    have hp := pcL_len (body l).length (body l) (Nat.le_refl _)
    have hb := body_len l
    have hT := turnAll_len true (pcL (body l)) m l (by omega)
    rw [turnAll_out _ _ _ h.1] at hT
    simp only
    omega
  · simp
end Go.Proofs.YtijompkonaiagaaGreatDoor.Q
namespace Go.Proofs.YtijompkonaiagaaGreatDoor.Z
open Go.RowKit Go.Proofs.YtijompkonaiagaaGreatDoorW.PrintWords Go.Proofs.YtijompkonaiagaaGreatDoorW.PrintLast Go.Proofs.YtijompkonaiagaaGreatDoorW.PrintMore
set_option linter.unusedVariables false
set_option linter.unusedSimpArgs false
attribute [local go_sem ↓] Go.wp_at_zero Go.wp_at_succ
theorem R_pr {e base : Nat} {w : World} {ok : Nat → Prop} {v : Value} {m : List Pr} (h : Kd.R Q.k69 e w base ok v (m.map Q.prTo)) : Kd.R kPr e w base ok v m := by
  obtain ⟨h0, inner, ho, hr⟩ := h
  rw [List.length_map] at ho
  refine ⟨h0, inner, ho, by have := hr.1; rwa [List.length_map] at this, fun j p hj => ?_⟩
  exact hr.2 j (Q.prTo p) (by rw [List.getElem?_map, hj]; rfl)
theorem R_pr' {e base : Nat} {w : World} {ok : Nat → Prop} {v : Value} {m : List Pr} (h : Kd.R kPr e w base ok v m) : Kd.R Q.k69 e w base ok v (m.map Q.prTo) := by
  obtain ⟨h0, inner, ho, hr⟩ := h
  refine ⟨h0, inner, by rw [List.length_map]; exact ho, by rw [List.length_map]; exact hr.1, fun j p hj => ?_⟩
  rw [List.getElem?_map, Option.map_eq_some_iff] at hj
  obtain ⟨x, hx, rfl⟩ := hj
  exact hr.2 j x hx
theorem spec_MapTextOut (A : Option Addr) (n c : Nat) (m : List Pr) (l : List UInt8) (w : World) (hC : Kd.C kPr w A n m) (hc : n ≤ c) (hn : n ≤ 1099511627776) (hl : l.length ≤ 140737488355328) :
    Calls Tryz.prog 24 #[.slice A n c, vS l] w fun r w' => ∃ v, r = .returned (.tuple #[v, vS (Q.mapOutT m l).2]) ∧ Kd.R kPr 69 w' w.heap.size (fun _ => True) v (Q.mapOutT m l).1 ∧ Below w.heap.size w w' := by
  obtain rfl : m.length = n := hC.1
  have hC' := Q.C_pr' (l := m.map Q.prTo) (by rw [Q.prs_of_to]; exact hC)
  have hQ := Q.spec_MapTextOut.calls 3001 A c (m.map Q.prTo) (Q.mkB l) _ _ w (by rw [Q.map_pr]; exact hC') (by rw [Q.map_pr]; exact hc) (Q.spec_MapTextOut_to 3001 (by omega) m hn l hl)
  rw [Q.map_pr] at hQ
  refine hQ.mono ?_
  rintro e w' ⟨v, rfl, hR, hb⟩
  exact ⟨v, rfl, R_pr hR, hb⟩
set_option maxRecDepth 100000 in
set_option maxHeartbeats 2000000 in
theorem impl_MapTextOut (A : Option Addr) (c : Nat) (xs : List Q.S69) (l : List UInt8) (w : World) (hs : Kd.V Q.k69 69 w w.heap.size (fun _ => True) (.slice A xs.length c) xs) (hn : xs.length ≤ 1099511627776) (hl : l.length ≤ 140737488355328) (hV : VarsIn w) :
    Calls Tryz.prog 25 #[.slice A xs.length c, vS l] w fun r w' => ∃ v, r = .returned (.tuple #[v, vS (Q.mapOutT (xs.map Q.prOf) l).2]) ∧ Cl kPr 69 w' w.heap.size v (Q.mapOutT (xs.map Q.prOf) l).1 ∧ Below w.heap.size w w' := by
  obtain ⟨k, hk⟩ : ∃ k, 3000 < k := ⟨3001, by omega⟩
  obtain ⟨m, hm⟩ : ∃ m, m = xs.map Q.prOf := ⟨_, rfl⟩
  have hxs : xs = m.map Q.prTo := by rw [hm, Q.prs_to_of]
  have hml : m.length = xs.length := by rw [hm, List.length_map]
  have HM := Aside0.mk (Q.impl_MapOk_is m (by omega))
  have HT := Aside0.mk (show Q.impl_TextOk.f (Q.mkB l) = some (textOk l) by unfold Q.impl_TextOk.f; rw [Q.size_mkB, if_pos hl, Q.bl_of])
  rw [← hxs] at HM
  rw [← hm]
  clear hm
  have HS := Aside0.mk hs
  clear hs
  have B0 := Aside0.mk (Below.refl w.heap.size w)
  cases h1 : mapOkB m with
  | false =>
    rw [h1] at HM
    have e1 : Q.mapOutT m l = ([], []) := by unfold Q.mapOutT; rw [h1]; rfl
    rw [e1]
    clear e1 h1 hxs
    go_enter Tryz.func25, Tryz.ntmps25
    go_wp2_with (first | (go_at_call 32; refine (Q.impl_MapOk.calls A c xs false _ (Kd.V_reads' HS.out).2.2 (Kd.V_reads' HS.out).2.1 HM.out).mono ?_; rintro r w1 ⟨rfl, hb1⟩; obtain ⟨hb1c, hb1f, hb1z⟩ := bcell hb1; (try simp at hb1z); (try have hb10 : w.heap.size < w1.heap.size := by omega); (try have hb11 : w.heap.size + 1 < w1.heap.size := by omega); (try have hb12 : w.heap.size + 2 < w1.heap.size := by omega)))
    go_ret2
    exact ⟨.slice none 0 0, rfl, ⟨none, 0, rfl, Kd.R_nil _ _ _ _ _⟩, hb1⟩
  | true =>
    rw [h1] at HM
    cases h2 : textOk l with
    | false =>
      rw [h2] at HT
      have e1 : Q.mapOutT m l = ([], []) := by unfold Q.mapOutT; rw [h1, h2]; rfl
      rw [e1]
      clear e1 h1 h2 hxs
      go_enter Tryz.func25, Tryz.ntmps25
      go_wp2_with (first | (go_at_call 32; refine (Q.impl_MapOk.calls A c xs true _ (Kd.V_reads' HS.out).2.2 (Kd.V_reads' HS.out).2.1 HM.out).mono ?_; rintro r w1 ⟨rfl, hb1⟩; obtain ⟨hb1c, hb1f, hb1z⟩ := bcell hb1; (try simp at hb1z); (try have hb10 : w.heap.size < w1.heap.size := by omega); (try have hb11 : w.heap.size + 1 < w1.heap.size := by omega); (try have hb12 : w.heap.size + 2 < w1.heap.size := by omega)) | (go_at_call 53; refine (Q.impl_TextOk.calls (Q.mkB l) false _ HT.out).mono ?_; rintro r w2 ⟨rfl, hb2⟩; obtain ⟨hb2c, hb2f, hb2z⟩ := bcell hb2; (try simp at hb2z); (try have hb20 : w.heap.size < w2.heap.size := by omega); (try have hb21 : w.heap.size + 1 < w2.heap.size := by omega); (try have hb22 : w.heap.size + 2 < w2.heap.size := by omega)))
      go_ret2
      exact ⟨.slice none 0 0, rfl, ⟨none, 0, rfl, Kd.R_nil _ _ _ _ _⟩, below_step hb1 hb2⟩
    | true =>
      rw [h2] at HT
      have hl2 := Q.textOk_len h2
      have hm2 := Q.mapOk_len h1
      have hp := Q.pcL_len (Q.body l).length (Q.body l) (Nat.le_refl _)
      have hb := Q.body_len l
      have hT := Q.turnAll_len true (Q.pcL (Q.body l)) m l (by omega)
      rw [Q.turnAll_out _ _ _ h1] at hT
      have P1 := Aside0.mk (Q.impl_pieces_to k l (by omega) (by omega))
      have P2 := Aside0.mk (Q.turned_to k (by omega) m _ l true (Q.fits_body l) (by omega) (by omega) (by omega))
      rw [Q.turnAll_out _ _ _ h1, ← hxs] at P2
      have e1 : Q.mapOutT m l = ((Q.goOut m (Q.pcL (Q.body l)) l).1, (Q.goOut m (Q.pcL (Q.body l)) l).2.flatten) := by unfold Q.mapOutT; rw [h1, h2]; rfl
      rw [e1]
      have P3 := Aside0.mk (show Q.strings_Join.f ((Q.goOut m (Q.pcL (Q.body l)) l).2.map Q.mkB) (⟨#[]⟩ : ByteArray) = some (Q.mkB (Q.goOut m (Q.pcL (Q.body l)) l).2.flatten) by
        unfold Q.strings_Join.f
        rw [Q.joinB_map, if_pos ⟨by rw [List.length_map]; omega, by omega⟩])
      have hxl : (Q.goOut m (Q.pcL (Q.body l)) l).1.length ≤ 1099511627776 := by omega
      simp only
      generalize (Q.goOut m (Q.pcL (Q.body l)) l).1 = x at *
      generalize (Q.goOut m (Q.pcL (Q.body l)) l).2 = ts at *
      generalize (Q.pcL (Q.body l)).map Q.pcTo = ps at *
      clear e1 h1 h2 hxs hT hp hb
      have HX := Aside0.mk (show (x.map Q.prTo).length ≤ 1099511627776 by rw [List.length_map]; exact hxl)
      have HY := Aside0.mk (Q.prs_of_to x)
      generalize x.map Q.prTo = xp at *
      generalize ts.map Q.mkB = tp at *
      clear hxl
      go_enter Tryz.func25, Tryz.ntmps25
      go_wp2_with (first | (go_at_call 32; refine (Q.impl_MapOk.calls A c xs true _ (Kd.V_reads' HS.out).2.2 (Kd.V_reads' HS.out).2.1 HM.out).mono ?_; rintro r w1 ⟨rfl, hb1⟩; obtain ⟨hb1c, hb1f, hb1z⟩ := bcell hb1; (try simp at hb1z); (try have hb10 : w.heap.size < w1.heap.size := by omega); (try have hb11 : w.heap.size + 1 < w1.heap.size := by omega); (try have hb12 : w.heap.size + 2 < w1.heap.size := by omega); have B1 := Aside0.mk (below_step B0.out hb1); clear B0) | (go_at_call 53; refine (Q.impl_TextOk.calls (Q.mkB l) true _ HT.out).mono ?_; rintro r w2 ⟨rfl, hb2⟩; obtain ⟨hb2c, hb2f, hb2z⟩ := bcell hb2; (try simp at hb2z); (try have hb20 : w.heap.size < w2.heap.size := by omega); (try have hb21 : w.heap.size + 1 < w2.heap.size := by omega); (try have hb22 : w.heap.size + 2 < w2.heap.size := by omega); have B2 := Aside0.mk (below_step B1.out hb2); clear B1) | (go_at_call 59; refine (Q.impl_pieces.calls k (Q.mkB l) ps _ (hV.next B2.out) P1.out).mono ?_; rintro r w3 ⟨v3, rfl, hV3, hb3⟩; obtain ⟨hb3c, hb3f, hb3z⟩ := bcell hb3; (try simp at hb3z); (try have hb30 : w.heap.size < w3.heap.size := by omega); (try have hb31 : w.heap.size + 1 < w3.heap.size := by omega); (try have hb32 : w.heap.size + 2 < w3.heap.size := by omega); have B3 := Aside0.mk (below_step B2.out hb3); clear B2; obtain ⟨A3, c3, e3⟩ := Kd.V_slice hV3; subst e3; have H3 := Aside0.mk hV3; clear hV3) | (go_at_call 58; refine (Q.impl_pairs_turned.calls k (fun _ => True) A c xs A3 c3 ps (Q.mkB l) true xp tp _ (by exact Kd.V_below HS.out B3.out) (Kd.V_reads' H3.out).2.2 (Kd.V_reads' H3.out).2.1 P2.out).mono ?_; rintro r w4 ⟨v4, v5, rfl, hV4, hR5, hb4⟩; obtain ⟨hb4c, hb4f, hb4z⟩ := bcell hb4; (try simp at hb4z); (try have hb40 : w.heap.size < w4.heap.size := by omega); (try have hb41 : w.heap.size + 1 < w4.heap.size := by omega); (try have hb42 : w.heap.size + 2 < w4.heap.size := by omega); have B4 := Aside0.mk (below_step B3.out hb4); clear B3; obtain ⟨A4, c4, e4⟩ := Kd.V_slice hV4; subst e4; obtain ⟨A5, c5, e5⟩ := Kd.R_slice hR5; subst e5; have H4 := Aside0.mk hV4; clear hV4; have H5 := Aside0.mk hR5; clear hR5) | (go_at_call 64; refine (impl_copied A4 xp.length c4 (xp.map Q.prOf) _ (Q.C_pr (Kd.V_reads' H4.out).2.2) HX.out).mono ?_; rintro r w6 ⟨v6, rfl, hL6, hb6⟩; obtain ⟨hb6c, hb6f, hb6z⟩ := bcell hb6; (try simp at hb6z); (try have hb60 : w.heap.size < w6.heap.size := by omega); (try have hb61 : w.heap.size + 1 < w6.heap.size := by omega); (try have hb62 : w.heap.size + 2 < w6.heap.size := by omega); have B6 := Aside0.mk (below_step B4.out hb6)) | (go_at_call 60; refine (Q.strings_Join.calls A5 c5 tp (⟨#[]⟩ : ByteArray) (Q.mkB ts.flatten) _ (Kd.C_below (Kd.R_reads' H5.out).2.2 hb6) (Kd.R_reads' H5.out).2.1 P3.out).mono ?_; rintro r w7 ⟨rfl, hb7⟩; obtain ⟨hb7c, hb7f, hb7z⟩ := bcell hb7; (try simp at hb7z); (try have hb70 : w.heap.size < w7.heap.size := by omega); (try have hb71 : w.heap.size + 1 < w7.heap.size := by omega); (try have hb72 : w.heap.size + 2 < w7.heap.size := by omega)))
      go_ret2
      rw [HY.out] at hL6
      exact ⟨v6, rfl, (hL6.below hb7).lower (B4.out.size), below_step B6.out hb7⟩
end Go.Proofs.YtijompkonaiagaaGreatDoor.Z
namespace Go.Proofs.YtijompkonaiagaaGreatDoor.Z
open Go.RowKit Go.Proofs.YtijompkonaiagaaGreatDoorW.PrintWords
set_option linter.unusedVariables false
set_option linter.unusedSimpArgs false
attribute [local go_sem ↓] Go.wp_at_zero Go.wp_at_succ
attribute [local go_sem high] eqEn eqPr
def mkPr (k : Int) (i : Nat) : Pr := ⟨k + 3 * i, ⟨k + 3 * i + 1, k + 3 * i + 1 + 1⟩⟩
def marked (m : List Pr) (k : Int) (j : Nat) : List Pr := (List.range j).map (mkPr k) ++ m.drop j
theorem marked_len (m : List Pr) (k : Int) (j : Nat) (h : j ≤ m.length) : (marked m k j).length = m.length := by simp [marked]; omega
theorem marked_zero (m : List Pr) (k : Int) : marked m k 0 = m := by simp [marked]
theorem marked_set (m : List Pr) (k : Int) (j : Nat) (h : j < m.length) : (marked m k j).set j (mkPr k j) = marked m k (j + 1) := by
  unfold marked
  rw [List.set_append_right _ _ (by simp), List.length_map, List.length_range, Nat.sub_self, List.drop_eq_getElem_cons h, List.set_cons_zero, List.range_succ]
  simp
theorem marked_all_get (m : List Pr) (k : Int) (i : Nat) (h : i < m.length) : (marked m k m.length).getD i zPr = mkPr k i := by
  simp [marked, List.getD_eq_getElem?_getD, h]
set_option maxHeartbeats 1000000 in
theorem laws_markPairS (A : Option Addr) (n c c' : Nat) (m : List Pr) (k0 : Int) (base : Nat) (w : World) (hR : Kd.R kPr 69 w base (fun _ => True) (.slice A n c) m) (hk : 0 ≤ k0 ∧ k0 ≤ 1) (hn : n ≤ 1099511627776) :
    Calls Tryz.prog 26 #[.slice A n c', .int .i64 k0] w fun r w' => r = .returned (.int .i64 (k0 + 3 * n)) ∧ Kd.R kPr 69 w' base (fun _ => True) (.slice A n c) (marked m k0 n) ∧ (∀ q, (∀ ad, A = some ad → q ≠ ad.block) → w'.heap[q]? = w.heap[q]?) ∧ Below base w w' := by
  obtain rfl : n = m.length := (Kd.R_reads' hR).1
  have HR := Aside0.mk hR; clear hR
  go_enter Tryz.func26, Tryz.ntmps26
  go_wp2
  go_loopw [5, 1] (fun i x w' => ∃ k : Nat, k ≤ m.length ∧ i = .int .i64 k ∧ x = .int .i64 (k0 + 3 * k) ∧ Aside0 (Kd.R kPr 69 w' base (fun _ => True) (.slice A m.length c) (marked m k0 k)) ∧ Aside0 (∀ q, (∀ ad, A = some ad → q ≠ ad.block) → w'.heap[q]? = w.heap[q]?) ∧ Below base w w') (fun i x _ => m.length - (intOf i).toNat)
  case atStart => exact ⟨0, Nat.zero_le _, rfl, by simp, ⟨by rw [marked_zero]; exact HR.out⟩, ⟨fun _ _ => rfl⟩, Below.refl _ _⟩
  case round =>
    obtain ⟨k, hk2, rfl, rfl, HO, HF, hb⟩ := hrel
    by_cases hlt : k < m.length
    · have hl := marked_len m k0 k hk2
      obtain ⟨g, cap, hv, hg1, hg2, _⟩ := Kd.R_form HO.out (by omega)
      obtain ⟨rfl, -, rfl⟩ : A = some ⟨g, 0, none⟩ ∧ m.length = (marked m k0 k).length ∧ c = cap := by injection hv with a b c; exact ⟨a, b, c⟩
      obtain ⟨q, x0, x1, x2, f0, f1, f2, hq, HP⟩ := put_Pr HO.out k hlt (mkPr k0 k)
      rw [marked_set m k0 k hlt] at HP
      clear hl hv
      have s0 : k0 + 3 * (k : Int) + 1 ≤ 9223372036854775807 := by omega
      have s1 : k0 + 3 * (k : Int) + 1 + 1 ≤ 9223372036854775807 := by omega
      have s2 : k0 + 3 * (k : Int) + 1 + 1 + 1 ≤ 9223372036854775807 := by omega
      go_wp2
      go_roundw
      case rel =>
        refine ⟨k + 1, by omega, by go_num, by congr 1; omega, ⟨HP.out⟩, ⟨fun q hq => ?_⟩, ((hb.setCell hg1 _).setCell hg1 _).setCell hg1 _⟩
        have hne : q ≠ g := hq _ rfl
        rw [Below.heap_setCell _ _ _ q hne, Below.heap_setCell _ _ _ q hne, Below.heap_setCell _ _ _ q hne]
        exact HF.out q hq
      case measure => simp [intOf]; omega
    · obtain rfl : k = m.length := by omega
      go_wp2
      go_ret
      exact ⟨rfl, HO.out, HF.out, hb⟩
set_option maxHeartbeats 1000000 in
theorem laws_heldPairS (A : Option Addr) (n c : Nat) (m : List Pr) (k0 : Int) (w : World) (hC : Kd.C kPr w A n m) (hm : ∀ i, i < n → m.getD i zPr = mkPr k0 i) (hk : 0 ≤ k0 ∧ k0 ≤ 1) (hn : n ≤ 1099511627776) :
    Calls Tryz.prog 27 #[.slice A n c, .int .i64 k0] w fun r w' => r = .returned (.int .i64 (k0 + 3 * n)) ∧ w' = w := by
  have HC := Aside0.mk hC; clear hC
  have HM := Aside0.mk hm; clear hm
  go_enter Tryz.func27, Tryz.ntmps27
  go_wp2
  go_loopw [5, 1] (fun i x w' => ∃ k : Nat, k ≤ n ∧ i = .int .i64 k ∧ x = .int .i64 (k0 + 3 * k) ∧ w' = w) (fun i x _ => n - (intOf i).toNat)
  case atStart => exact ⟨0, Nat.zero_le _, rfl, by simp, rfl⟩
  case round =>
    obtain ⟨k, hk2, rfl, rfl, rfl⟩ := hrel
    by_cases hlt : k < n
    · obtain ⟨ad, p, hA, hp, dL, d0, d1, d2⟩ := at_Pr HC.out k hlt
      cases hA
      obtain rfl : p = mkPr k0 k := hp.out.symm.trans (HM.out k hlt)
      simp only [mkPr] at d0 d1 d2
      clear hp
      have s0 : k0 + 3 * (k : Int) + 1 ≤ 9223372036854775807 := by omega
      have s1 : k0 + 3 * (k : Int) + 1 + 1 ≤ 9223372036854775807 := by omega
      have s2 : k0 + 3 * (k : Int) + 1 + 1 + 1 ≤ 9223372036854775807 := by omega
      go_wp2
      go_roundw
      case rel => exact ⟨k + 1, by omega, by go_num, by congr 1; omega, trivial⟩
      case measure => simp [intOf]; omega
    · obtain rfl : k = n := by omega
      go_wp2
      go_ret
      exact ⟨rfl, rfl⟩
end Go.Proofs.YtijompkonaiagaaGreatDoor.Z
namespace Go.Proofs.YtijompkonaiagaaGreatDoor.Z
open Go.RowKit Go.Proofs.YtijompkonaiagaaGreatDoorW.PrintWords
set_option linter.unusedVariables false
def Opens {α : Type} (P : Program) (t : TypeId) (d : Kd α) (good : α → Prop) : Prop := P.cellsOf t = d.sz ∧
  ∀ (H : Type) (enc : TypeId × Value → H) (w : World) (base : Nat) (spare : Nat → Bool) (held : Bool) (fuel : Nat) (cs : List Value) (x : DataW H × List MemPlace), DataW.trod enc P w base spare held fuel t cs = some x → ∃ v, d.K w v cs ∧ good v
section
variable {P : Program} {t e : TypeId}
theorem Opens.int {k : IntKind} (ht : P.underlying t = some (.int k)) (hc : P.cellsOf t = 1) : Opens P t (Kd.int k) (fun n => (Lit.int k n).wf = true) :=
  ⟨hc, fun H enc w base spare held fuel cs x h => let ⟨n, e, _, g⟩ := DataW.trod_int ht h; ⟨n, e, g⟩⟩
theorem Opens.bool (ht : P.underlying t = some .bool) (hc : P.cellsOf t = 1) : Opens P t Kd.bool (fun _ => True) :=
  ⟨hc, fun H enc w base spare held fuel cs x h => let ⟨n, e, _⟩ := DataW.trod_bool ht h; ⟨n, e, trivial⟩⟩
theorem Opens.string (ht : P.underlying t = some .string) (hc : P.cellsOf t = 1) : Opens P t Kd.string (fun s => s.size ≤ maxLen) :=
  ⟨hc, fun H enc w base spare held fuel cs x h => let ⟨n, e, _, g⟩ := DataW.trod_string ht h; ⟨n, e, g⟩⟩
theorem Opens.slice {α : Type} [Inhabited α] {d : Kd α} {good : α → Prop} (ht : P.underlying t = some (.slice e)) (hc : P.cellsOf t = 1) (he : Opens P e d good) : Opens P t (Kd.slice e d) (fun xs => ∀ x ∈ xs, good x) := by
  refine ⟨hc, fun H enc w base spare held fuel cs x h => ?_⟩
  rcases Deep.open_slice ht h with ⟨rfl, _⟩ | ⟨a, len, cap, m, n, D, Pl, rfl, _, hl, hm, hmm, _, hx⟩
  · exact ⟨[], ⟨none, 0, rfl, Nat.le_refl _, rfl, by simp, fun h => absurd h (Nat.lt_irrefl _)⟩, fun x hx => by cases hx⟩
  · have hlm : len ≤ m := by rw [hmm]; split <;> omega
    have each : ∀ i, i < len → ∃ v, ∃ cs', cs'.length = d.sz ∧ d.K w v cs' ∧ good v ∧ ∀ j u, cs'[j]? = some u → w.cell? (a.add (i * d.sz + j)) = some u := fun i hi => by
      obtain ⟨cs', h1, h2⟩ := hx i (by omega)
      rw [he.1] at h1
      obtain ⟨_, hlen, hcell⟩ := World.cells?_some h1
      obtain ⟨v, hK, hg⟩ := he.2 H enc w base spare held n cs' _ h2
      refine ⟨v, cs', hlen, hK, hg, fun j u hu => ?_⟩
      have hj : j < cs'.length := (List.getElem?_eq_some_iff.1 hu).1
      have := hcell j (by omega)
      rw [Deep.add_add] at this
      rw [this, hu]
    obtain ⟨f, hf⟩ := Deep.choose_lt each
    refine ⟨(List.range len).map f, ⟨some a, cap, by simp, by simpa using hl, by simp, ?_, ?_⟩, ?_⟩
    · have := hm; unfold maxLen at this; simp; omega
    · intro _
      refine ⟨a, rfl, fun j p hj => ?_⟩
      obtain ⟨hj1, hj2⟩ := List.getElem?_eq_some_iff.1 hj
      simp at hj1 hj2
      obtain ⟨cs', h1, h2, _, h4⟩ := hf j hj1
      exact ⟨cs', h1, hj2 ▸ h2, h4⟩
    · intro x hx
      obtain ⟨i, hi, rfl⟩ := List.mem_map.1 hx
      obtain ⟨_, _, _, h3, _⟩ := hf i (List.mem_range.1 hi)
      exact h3
def OpensF {α : Type} (P : Program) (fs : List Field) (off : Nat) (d : Kd α) (good : α → Prop) : Prop :=
  ∀ (H : Type) (enc : TypeId × Value → H) (w : World) (base : Nat) (spare : Nat → Bool) (held : Bool) (n : Nat) (cs : List Value) (xs : List (DataW H × List MemPlace)), cs.length = off + d.sz → xs.length = fs.length →
    (∀ (i : Nat) (f : Field), fs[i]? = some f → DataW.trod enc P w base spare held n f.type ((cs.drop f.offset).take (P.cellsOf f.type)) = xs[i]?) → ∃ v, d.K w v (cs.drop off) ∧ good v
theorem OpensF.last {α : Type} {f : Field} {off : Nat} {d : Kd α} {good : α → Prop} (ho : f.offset = off) (h : Opens P f.type d good) : OpensF P [f] off d good := by
  intro H enc w base spare held n cs xs hl hx ht
  have h0 := ht 0 f rfl
  rw [ho, h.1, List.take_of_length_le (by rw [List.length_drop]; omega), List.getElem?_eq_getElem (by rw [hx]; exact Nat.one_pos)] at h0
  exact h.2 H enc w base spare held n _ _ h0
theorem OpensF.cons {α β : Type} {f : Field} {fs : List Field} {off off' : Nat} {d : Kd α} {d' : Kd β} {good : α → Prop} {good' : β → Prop} (ho : f.offset = off) (h : Opens P f.type d good) (hoff : off' = off + d.sz) (hr : OpensF P fs off' d' good') :
    OpensF P (f :: fs) off (Kd.pair d d') (fun x => good x.1 ∧ good' x.2) := by
  subst hoff
  intro H enc w base spare held n cs xs hl hx ht
  have hl' : cs.length = off + (d.sz + d'.sz) := hl
  cases xs with
  | nil => simp at hx
  | cons y ys =>
    have h0 := ht 0 f rfl
    rw [ho, h.1] at h0
    obtain ⟨v, hK, hg⟩ := h.2 H enc w base spare held n _ y h0
    obtain ⟨v', hK', hg'⟩ := hr H enc w base spare held n cs ys (by omega) (by simpa using hx) (fun i f hf => ht (i + 1) f (by simpa using hf))
    refine ⟨(v, v'), ⟨(cs.drop off).take d.sz, cs.drop (off + d.sz), ?_, hK, hK'⟩, hg, hg'⟩
    have e := List.take_append_drop d.sz (cs.drop off)
    rw [List.drop_drop] at e
    exact e.symm
theorem Opens.struct {α β : Type} {fs : Array Field} {d : Kd α} {good : α → Prop} (ht : P.underlying t = some (.struct fs)) (hc : P.cellsOf t = d.sz) (hF : OpensF P fs.toList 0 d good) (f : β → α) (g : α → β) (hfg : ∀ a, f (g a) = a) : Opens P t (Kd.iso d f) (fun x => good (f x)) := by
  refine ⟨hc, fun H enc w base spare held fuel cs x h => ?_⟩
  obtain ⟨xs, n, _, _, hl, hx, hf⟩ := DataW.trod_struct ht h
  obtain ⟨v, hK, hg⟩ := hF H enc w base spare held n cs xs (by rw [hl, hc]; omega) (by simpa using hx) (fun i fd hi => hf i fd (by simpa using hi))
  refine ⟨g v, ?_, by show good (f (g v)); rw [hfg]; exact hg⟩
  show d.K w (f (g v)) cs
  rw [hfg]
  simpa using hK
end
def i64ok (n : Int) : Prop := (Lit.int .i64 n).wf = true
def goodEn (e : En) : Prop := i64ok e.addr ∧ i64ok e.port
def goodPr (p : Pr) : Prop := i64ok p.port ∧ goodEn p.inside
theorem openInt : Opens Tryz.prog 3 (Kd.int .i64) i64ok := Opens.int Tryz.underlying3 (by kernel_rfl)
theorem openEnL : Opens Tryz.prog 71 kEn goodEn := Opens.struct Tryz.underlying71 (by kernel_rfl) (OpensF.cons rfl openInt rfl (OpensF.last rfl openInt)) _ (fun a => ⟨a.1, a.2⟩) (fun _ => rfl)
theorem openPrL : Opens Tryz.prog 73 kPr goodPr := Opens.struct Tryz.underlying73 (by kernel_rfl) (OpensF.cons rfl openInt rfl (OpensF.last rfl openEnL)) _ (fun a => ⟨a.1, a.2⟩) (fun _ => rfl)
theorem openPrsL : Opens Tryz.prog 34 (Kd.slice 73 kPr) (fun xs => ∀ x ∈ xs, goodPr x) := Opens.slice Tryz.underlying34 (by kernel_rfl) openPrL
end Go.Proofs.YtijompkonaiagaaGreatDoor.Z
namespace Go.Proofs.YtijompkonaiagaaGreatDoor.Z
open Go.RowKit Go.Proofs.YtijompkonaiagaaGreatDoorW.PrintWords Go.Proofs.YtijompkonaiagaaGreatDoorW.PrintLast
set_option linter.unusedVariables false
set_option linter.unusedSimpArgs false
set_option maxRecDepth 100000 in
set_option maxHeartbeats 4000000 in
theorem law_MapTextOut (A : Option Addr) (n c : Nat) (m : List Pr) (l : List UInt8) (w : World) (hC : Kd.C kPr w A n m) (hc : n ≤ c) (hV : VarsIn w) :
    Calls Tryz.prog 5 #[.slice A n c, vS l] w fun r w' => r = .returned (.bool true) ∧ Below w.heap.size w w' := by
  have hm := max_len hC
  by_cases hl : l.length ≤ 1048576
  · have tl : decide ((l.length : Int) > 1048576) = false := decide_eq_false (by omega)
    have tl2 : decide ((1048576 : Int) < (l.length : Int)) = false := decide_eq_false (by omega)
    by_cases h : n ≤ 1048576
    · have hz : szB n 1048576 = 1048576 - (n : Int) := by unfold szB; rw [if_neg (by omega)]
      have HZ := Aside0.mk hz; clear hz
      have hbig : n ≤ 1099511627776 := by omega
      have t1 : decide ((1048576 : Int) - (n : Int) < 0) = false := decide_eq_false (by omega)
      obtain rfl : m.length = n := hC.1
      obtain ⟨L, t, hF⟩ : ∃ L t, Q.mapOutT m l = (L, t) := ⟨_, _, rfl⟩
      have hL : L.length ≤ 100 := by have := (Q.mapOutT_len m l).1; rw [hF] at this; exact this
      have SP : ∀ (A : Option Addr) (c : Nat) (w : World), Kd.C kPr w A m.length m → m.length ≤ c → Calls Tryz.prog 24 #[.slice A m.length c, vS l] w fun r w' => ∃ v, r = .returned (.tuple #[v, vS t]) ∧ Kd.R kPr 69 w' w.heap.size (fun _ => True) v L ∧ Below w.heap.size w w' := by
        intro A c w hC hc
        have := spec_MapTextOut A m.length c m l w hC hc hbig (by omega)
        rw [hF] at this
        exact this
      have IM : ∀ (A : Option Addr) (c : Nat) (e base : Nat) (w w0 : World), Kd.R kPr e w0 base (fun _ => True) (.slice A m.length c) m → Below w0.heap.size w0 w → VarsIn w → Calls Tryz.prog 25 #[.slice A m.length c, vS l] w fun r w' => ∃ v, r = .returned (.tuple #[v, vS t]) ∧ Cl kPr 69 w' w.heap.size v L ∧ Below w.heap.size w w' := by
        intro A c e base w w0 hR hb hV
        have h1 := Kd.R_V (base' := w0.heap.size) (R_pr' hR)
        have h2 : Kd.V Q.k69 69 w w.heap.size (fun _ => True) (.slice A m.length c) (m.map Q.prTo) := by exact Kd.V_below h1 hb
        have := impl_MapTextOut A c (m.map Q.prTo) l w (by rw [Q.map_pr]; exact h2) (by rw [Q.map_pr]; exact hbig) (by omega) hV
        rw [Q.map_pr, Q.prs_of_to, hF] at this
        exact this
      clear hF
      have SP := Aside0.mk SP
      have IM := Aside0.mk IM
      have t2 : decide ((1 : Int) + 3 * (m.length : Int) < 0) = false := decide_eq_false (by omega)
      have t3 : decide ((1 : Int) + 3 * (L.length : Int) < 0) = false := decide_eq_false (by omega)
      have HC := Aside0.mk hC; clear hC
      have HV := Aside0.mk hV; clear hV
      go_enter Tryz.func5, Tryz.ntmps5
      go_wp2_with (first | (go_at_call 19; refine (laws_szPairS A m.length c 1048576 _ hm (by omega)).mono ?_; rintro r w' ⟨rfl, rfl⟩; rw [HZ.out]) | (fail))
      go_wp2_with fail; refine (laws_toPairS A m.length c m _ HC.out hbig).mono ?_; rintro r w1 ⟨v1, rfl, hR1, hb1⟩
      obtain ⟨A1, c1, rfl, hl1, hC1⟩ := Kd.R_reads hR1
      go_wp2_with fail; refine (SP.out A1 c1 _ hC1 hl1).mono ?_; rintro r w3 ⟨v3, rfl, hR3, hb3⟩
      have hB3 : Below w.heap.size w w3 := below_step hb1 hb3
      obtain ⟨A3, c3, rfl, hl3, hC3⟩ := Kd.R_reads hR3
      go_wp2_with fail; refine (laws_toPairS A m.length c m _ (Kd.C_below HC.out hB3) hbig).mono ?_; rintro r w4 ⟨v4, rfl, hR4, hb4⟩
      have z4 := hb4.size
      have hB4 : Below w.heap.size w w4 := below_step hB3 hb4
      obtain ⟨A4, c4, rfl, hl4, hC4⟩ := Kd.R_reads hR4
      go_wp2_with fail; refine (IM.out A4 c4 _ _ _ w4 hR4 (Below.refl _ _) (HV.out.next hB4)).mono ?_; rintro r w6 ⟨v6, rfl, hL6, hb6⟩
      have z6 := hb6.size
      have hb36 : Below w3.heap.size w3 w6 := below_step hb4 hb6
      obtain ⟨A6, c6, rfl, hR6⟩ := hL6
      have hC6 := (Kd.R_reads' hR6).2.2
      go_wp2_with fail; refine (laws_eqPairS A6 A3 L.length L.length L.length c3 L L _ hC6 (Kd.C_below hC3 hb36)).mono ?_; rintro r w7 ⟨rfl, hb7⟩
      rw [show decide (L = L) = true from decide_eq_true rfl]
      have z7 := hb7.size
      have hB7 : Below w.heap.size w w7 := below_step (below_step hB4 hb6) hb7
      go_wp2_with fail; refine (laws_toPairS A m.length c m _ (Kd.C_below HC.out hB7) hbig).mono ?_; rintro r w8 ⟨v8, rfl, hR8, hb8⟩
      have z8 := hb8.size
      obtain ⟨A8, c8, rfl, hl8, hC8⟩ := Kd.R_reads hR8
      have hb68 : Below w6.heap.size w6 w8 := hb7.trans (hb8.mono z7)
      have hb48 : Below w4.heap.size w4 w8 := hb6.trans (hb68.mono z6)
      go_wp2_with fail; refine (laws_eqPairS A4 A8 m.length m.length c4 c8 m m _ (Kd.C_below hC4 hb48) hC8).mono ?_; rintro r w9 ⟨rfl, hb9⟩
      rw [show decide (m = m) = true from decide_eq_true rfl]
      have z9 := hb9.size
      have hb69 : Below w6.heap.size w6 w9 := hb68.trans (hb9.mono (Nat.le_trans z7 z8))
      have hb49 : Below w4.heap.size w4 w9 := hb6.trans (hb69.mono z6)
      have lt4 := Kd.R_lt hR4
      go_wp2_with fail; refine (laws_markPairS A4 m.length c4 c4 m 1 w3.heap.size _ (Kd.R_below hR4 hb49) (by decide) hbig).mono ?_; rintro r w10 ⟨rfl, hR10, hk10, hb10⟩
      have z10 := hb10.size
      have hR6b : Kd.R kPr 69 w10 w4.heap.size (fun _ => True) (.slice A6 L.length c6) L :=
        Kd.R_mono (Kd.R_move (Kd.R_bound (Kd.R_below hR6 hb69)) (fun k hk2 => hk10 k (fun ad hA => by
          have h1 := lt4 ad.block (by rw [hA]; simp [Value.ownBlock]); have h2 := hk2.2.1; omega))) (fun _ _ => trivial)
      have hb3_10 : Below w3.heap.size w3 w10 := (hb36.trans (hb69.mono (by omega))).trans hb10
      go_wp2_with fail; refine (laws_eqPairS A6 A3 L.length L.length L.length c3 L L _ (Kd.R_reads' hR6b).2.2 (Kd.C_below hC3 hb3_10)).mono ?_; rintro r w11 ⟨rfl, hb11⟩
      rw [show decide (L = L) = true from decide_eq_true rfl]
      have z11 := hb11.size
      go_wp2_with fail; refine (laws_markPairS A6 L.length c6 L.length L 1 w4.heap.size _ (Kd.R_below hR6b hb11) (by decide) (by omega)).mono ?_; rintro r w12 ⟨rfl, hR12, hk12, hb12⟩
      have z12 := hb12.size
      have hC12 := (Kd.R_reads' hR12).2.2
      rw [marked_len L 1 L.length (Nat.le_refl _)] at hC12
      have HM12 := Aside0.mk (fun i (hi : i < L.length) => marked_all_get L 1 i hi)
      go_wp2_with fail; refine (laws_heldPairS A6 L.length L.length (marked L 1 L.length) 1 _ hC12 HM12.out (by decide) (by omega)).mono ?_; rintro r w12 ⟨rfl, rfl⟩
      have hb3_12 : Below w3.heap.size w3 w12 := hb3_10.trans ((hb11.mono (by omega)).trans (hb12.mono (by omega)))
      have hB12 : Below w.heap.size w w12 := hB3.trans (hb3_12.mono hB3.size)
      go_wp2_with fail; refine (laws_toPairS A m.length c m _ (Kd.C_below HC.out hB12) hbig).mono ?_; rintro r w13 ⟨v13, rfl, hR13, hb13⟩
      have z13 := hb13.size
      obtain ⟨A13, c13, rfl, hl13, hC13⟩ := Kd.R_reads hR13
      go_wp2_with fail; refine (IM.out A13 c13 _ _ _ w13 hR13 (Below.refl _ _) (HV.out.next (below_step hB12 hb13))).mono ?_; rintro r w15 ⟨v15, rfl, hL15, hb15⟩
      have z15 := hb15.size
      obtain ⟨A15, c15, rfl, hR15⟩ := hL15
      have hb12_15 : Below w12.heap.size w12 w15 := below_step hb13 hb15
      go_wp2_with fail; refine (laws_eqPairS A15 A3 L.length L.length L.length c3 L L _ (Kd.R_reads' hR15).2.2 (Kd.C_below hC3 (hb3_12.trans (hb12_15.mono (by omega))))).mono ?_; rintro r w16 ⟨rfl, hb16⟩
      rw [show decide (L = L) = true from decide_eq_true rfl]
      have hb12_16 : Below w12.heap.size w12 w16 := hb12_15.trans (hb16.mono hb12_15.size)
      go_wp2_with fail; refine (laws_heldPairS A6 L.length L.length (marked L 1 L.length) 1 _ (Kd.C_below hC12 hb12_16) HM12.out (by decide) (by omega)).mono ?_; rintro r w16 ⟨rfl, rfl⟩
      go_wp2
      go_ret
      exact ⟨rfl, hB12.trans (hb12_16.mono hB12.size)⟩
    · have hz : szB n 1048576 = -1 := by unfold szB; rw [if_pos (by omega)]
      have HZ := Aside0.mk hz; clear hz
      go_enter Tryz.func5, Tryz.ntmps5
      go_wp2_with (go_at_call 19; refine (laws_szPairS A n c 1048576 _ hm (by omega)).mono ?_; rintro r w' ⟨rfl, rfl⟩; rw [HZ.out])
      go_ret
      exact ⟨rfl, Below.refl _ _⟩
  · have tl : decide ((l.length : Int) > 1048576) = true := decide_eq_true (by omega)
    have tl2 : decide ((1048576 : Int) < (l.length : Int)) = true := decide_eq_true (by omega)
    go_enter Tryz.func5, Tryz.ntmps5
    go_wp2
    go_ret
    exact ⟨rfl, Below.refl _ _⟩
theorem law_FnExactMapTextOut (A : Option Addr) (n c : Nat) (m : List Pr) (s : ByteArray) (w : World) (hC : Kd.C kPr w A n m) (hc : n ≤ c) (hV : VarsIn w) :
    Calls Tryz.prog 5 #[.slice A n c, .string s] w fun r w' => r = .returned (.bool true) ∧ Below w.heap.size w w' := by
  have := law_MapTextOut A n c m (Q.bl s) w hC hc hV
  rwa [show vS (Q.bl s) = .string s from congrArg Value.string (Q.mkB_bl s)] at this
end Go.Proofs.YtijompkonaiagaaGreatDoor.Z
namespace Go.Proofs.YtijompkonaiagaaGreatDoor.fnExactMapTextOut
open Go.ChangeShapes Go.WideShapes Go.ChangeAt Go.RowKit Go.Proofs.YtijompkonaiagaaGreatDoorW.PrintWords
open Go.ChangeMaps (open_string shut_string)
set_option linter.unusedVariables false
theorem own : ownKnob Tryz.prog.godebug = none := by kernel_rfl
theorem laidOut : laidOutB Tryz.prog = true := by kernel_rfl
set_option maxRecDepth 100000 in
theorem lifted (os : Os) (started : os.Started) (H : Type) (enc : TypeId × Value → H) :
    ReturnsInHanded {} Tryz.checked os 5 .any (fun w args => (Rows.fnExactMapTextOutSpec.pre enc Tryz.prog Tryz.f5 Rows.fnExactMapTextOutRow.domain false w args ∧ laidMetH Tryz.prog Z.laidL w) ∧ sizedMet enc Tryz.prog Tryz.f5 (OpenSpec.ofChange Rows.fnExactMapTextOutSpec) false w args)
      (Rows.fnExactMapTextOutSpec.post enc Tryz.prog Tryz.f5 false true false false) := by
  refine Z.wrap_laid (C := Tryz.checked) (X := fun w _ => laidMetH Tryz.prog Z.laidL w) (fun _ _ _ hh h => h.of_heap hh) own started (by kernel_rfl) Tryz.func5
    (ChangeSpec.witness_shaped (enc := enc) (C := Tryz.checked) (os := os) (X := fun w _ => laidMetH Tryz.prog Z.laidL w) false (World.laidAll Tryz.prog os Z.laidL) #[.slice none 0 0, .string ByteArray.empty] 8 (World.laidAll_os _ _ _)
      (World.shaped_of_ZipB (by kernel_rfl) (by kernel_rfl)) (by kernel_rfl) (by kernel_rfl) (by kernel_rfl) (Z.laid_met os _)) ?_
  intro W base args ds gs before hval0 hW hL hsh
  have hvars := Z.vars_of hL hsh
  have hval : ∀ (j : Nat) t v, Tryz.f5.params[j]? = some t → args[j]? = some v → Value.okWide Tryz.prog W .any base t v := hval0
  have hW' := hW
  obtain ⟨p, q, hA0, hV, rfl, hfz, hnd⟩ := hW
  have hA : DataW.TrodAll enc Tryz.prog W 0 (fun _ => true) true Tryz.f5.params.toList args.toList ds p := hA0
  rw [Tryz.params5] at hA hval
  obtain ⟨v0, vs0, d0, ds0, p0, q0, hargs, rfl, rfl, h0, r0⟩ := trodAll_cons hA
  obtain ⟨v1, vs1, d1, ds1, p1, q1, rfl, rfl, rfl, h1, r1⟩ := trodAll_cons r0
  obtain ⟨rfl, rfl, rfl⟩ := trodAll_nil r1
  obtain rfl : args = #[v0, v1] := by cases args; simp_all
  obtain ⟨rfl, rfl⟩ := trodVars_none hV
  obtain ⟨a0, len0, cap0, rfl⟩ := okWide_slice Tryz.underlying34 (hval 0 34 v0 rfl rfl)
  have k0 := h0
  have lt0 : ∀ x ∈ p0, x.block < W.heap.size := by obtain ⟨m, hm⟩ := k0; exact DataW.trod_lt m _ _ _ hm
  obtain ⟨fuel0, hf0⟩ := h0
  obtain ⟨xs0, ⟨A0, c0, hcs0, hl0, hC0⟩, hg0⟩ := Z.openPrsL.2 _ _ _ _ _ _ _ _ _ hf0
  simp [Value.cells] at hcs0
  obtain ⟨rfl, rfl, rfl⟩ := hcs0
  obtain ⟨a1, rfl, rfl, rfl, y1⟩ := open_string Tryz.underlying9 (hval 1 9 v1 rfl rfl) h1
  clear hA0 hval0
  refine (Z.law_FnExactMapTextOut a0 xs0.length cap0 xs0 a1 W hC0 hl0 hvars).mono ?_
  rintro e W' ⟨rfl, bel⟩
  exact ⟨_, rfl, _, _, _, [], _, [], hW', trodAll_mk1 (shut_bool Tryz.underlying4 _), (trodAll_cons_mk (Below.trod laidOut (by kernel_rfl) (of_decide_eq_true (by kernel_rfl)) k0 bel lt0) (trodAll_cons_mk (shut_string Tryz.underlying9 y1) trodAll_mk0)), rfl, bel.frame _, fun h => by cases h⟩
theorem over : Rows.fnExactMapTextOutRow.holds Tryz.pinned (OpenSpec.ofChange Rows.fnExactMapTextOutSpec) :=
  OpenClaim.holds_of_wide 5 Tryz.f5 rfl rfl rfl rfl rfl rfl rfl ⟨rfl, rfl, rfl, rfl, rfl⟩ rfl rfl rfl rfl rfl (by kernel_rfl) Tryz.func5 (by kernel_rfl)
    (of_decide_eq_true (by kernel_rfl)) (by unfold Func.isWrapper; first | (rw [if_pos (by decide +kernel)]; kernel_rfl) | (rw [if_neg (by decide +kernel)]; exact ⟨rfl, rfl⟩))
    (fun os started H enc _ => lifted os started H enc)
end Go.Proofs.YtijompkonaiagaaGreatDoor.fnExactMapTextOut
namespace Go.Proofs.YtijompkonaiagaaGreatDoor
theorem fnExactMapTextOut_card : Rows.FnExactMapTextOutCardSaid :=
  Claim7.holds_tied_plain_at .later [] Rows.fnExactMapTextOutCard.laidKinds true Rows.fnExactMapTextOutCard.stood.harness true
    fnExactMapTextOut.over (fun _ h => by cases h) (by kernel_rfl) (fun _ h => by cases h) fnExactMapTextOut_row_tie rfl ⟨rfl, rfl⟩ (by kernel_rfl) rfl
    (fun f fn hf hfn => by
      obtain rfl : f = 5 := Option.some.inj ((show Tryz.prog.funcNamed Rows.fnExactMapTextOutRow.func = some 5 by kernel_rfl).symm.trans hf) |>.symm
      obtain rfl : fn = Tryz.f5 := (Option.some.inj (Tryz.func5.symm.trans hfn)).symm
      exact ⟨by kernel_rfl, fun j t ht => by
        rw [Tryz.params5] at ht
        have hm : t ∈ [34, 9] := by simpa using Array.mem_of_getElem? ht
        have hall : ([34, 9].all fun u => !Tryz.prog.wantsStandIn u) = true := by kernel_rfl
        exact (show Tryz.prog.wantsStandIn t = false by simpa using List.all_eq_true.1 hall t hm)⟩)
    (by kernel_rfl)
#print axioms fnExactMapTextOut_card
end Go.Proofs.YtijompkonaiagaaGreatDoor
