/- Plain laws of the printed functions: what is drawn to be said is within bounds, and ends. Plain laws of the printed functions: conversations are drawn within bounds, and end. Contracts of mine in the print's own form: strings joined, and cloned. Plain laws of the printed functions: pieces as they go on. Plain laws of the printed functions: what a text goes out as, its pieces and names; maps compared. Texts as names and single bytes, plainly: what is written anew is read back as it was written. Texts as names and single bytes: how they go in and out over a map, plainly. What is held of a text, and texts over maps: the laws of texts, plainly. Contracts of mine in the print's own form: whether a row of ends holds a door's; a conversation made. Plain laws of the printed functions: conversations made, of both. Conversations: the laws of those made, plainly. -/
import Derived.Test.YtijompkonaiagaaGreatDoorBv3
import Derived.DataReads
namespace Go.Proofs.YtijompkonaiagaaGreatDoor.Q
open Go.RowKit Go.Proofs.YtijompkonaiagaaGreatDoorW.PrintWords Go.Proofs.YtijompkonaiagaaGreatDoorW.PrintLast Go.Proofs.YtijompkonaiagaaGreatDoorW.PrintMore
attribute [local go_sem] max2_int min2_int max_two min_two max_three min_three max_four min_four
set_option linter.unusedVariables false
set_option linter.unusedSimpArgs false
noncomputable section
mutual
def spec_l72Say.l0 : Nat → Bool → ByteArray → Int → List Int → Int → Option (ByteArray × Int)
  | 0, _, _, _, _, _ => none
  | k + 1, x1, x5, x6, x1000, x1001 => if x6 > 0 then ((spec_l6Rd_of.f k x1000 x1001 (([(⟨#[97]⟩ : ByteArray), (⟨#[98, 99]⟩ : ByteArray), (⟨#[64]⟩ : ByteArray), (⟨#[120, 49]⟩ : ByteArray), (⟨#[64, 49, 58, 122]⟩ : ByteArray), (⟨#[59]⟩ : ByteArray)] : List ByteArray))).bind fun bt107 => ((spec_l6Rd_pick.f k x1000 bt107.2 5).bind fun bt109 => (if bt109.1 = 0 then (spec_l72Say.j1 k x1 x5 x6 bt107.1 bt109.1 (bt109.1 == 0) x1000 bt109.2) else (spec_l72Say.j1 k x1 x5 x6 bt107.1 bt109.1 (bt109.1 == 1) x1000 bt109.2)))) else ((spec_l2Held.f x5).bind fun t103 => (if t103 > 0 then (if x5.size + 1 ≤ 9223372036854775807 then (some (x5 ++ (⟨#[122]⟩ : ByteArray), x1001)) else (none)) else (some (x5, x1001))))
def spec_l72Say.j1 : Nat → Bool → ByteArray → Int → ByteArray → Int → Bool → List Int → Int → Option (ByteArray × Int)
  | 0, _, _, _, _, _, _, _, _ => none
  | k + 1, x1, x5, x6, x7, x19, x20, x1000, x1001 => if x20 = true then ((spec_l6Rd_pick.f k x1000 x1001 3).bind fun bt111 => ((spec_l6Rd_pick.f k x1000 bt111.2 4).bind fun bt113 => ((spec_EndText.f (wrap64 (1 + bt111.1)) (wrap64 (1 + bt113.1))).bind fun t115 => (if 1 + t115.size ≤ 9223372036854775807 then (if ((⟨#[64]⟩ : ByteArray) ++ t115).size + 1 ≤ 9223372036854775807 then (if (wrap64 ((x5.size : Int) + ((((⟨#[64]⟩ : ByteArray) ++ t115) ++ (⟨#[59]⟩ : ByteArray)).size : Int))) < 24 then (if x5.size + (((⟨#[64]⟩ : ByteArray) ++ t115) ++ (⟨#[59]⟩ : ByteArray)).size ≤ 9223372036854775807 then (spec_l72Say.l0 k x1 (x5 ++ (((⟨#[64]⟩ : ByteArray) ++ t115) ++ (⟨#[59]⟩ : ByteArray))) (wrap64 (x6 - 1)) x1000 bt113.2) else (none)) else (spec_l72Say.l0 k x1 x5 (wrap64 (x6 - 1)) x1000 bt113.2)) else (none)) else (none))))) else (if x19 = 2 then ((spec_l6Rd_pick.f k x1000 x1001 3).bind fun bt116 => ((spec_l6Rd_pick.f k x1000 bt116.2 4).bind fun bt118 => ((spec_EndText.f (wrap64 (4 + bt116.1)) (wrap64 (1 + bt118.1))).bind fun t120 => (if 1 + t120.size ≤ 9223372036854775807 then (if ((⟨#[64]⟩ : ByteArray) ++ t120).size + 1 ≤ 9223372036854775807 then (if (wrap64 ((x5.size : Int) + ((((⟨#[64]⟩ : ByteArray) ++ t120) ++ (⟨#[59]⟩ : ByteArray)).size : Int))) < 24 then (if x5.size + (((⟨#[64]⟩ : ByteArray) ++ t120) ++ (⟨#[59]⟩ : ByteArray)).size ≤ 9223372036854775807 then (spec_l72Say.l0 k x1 (x5 ++ (((⟨#[64]⟩ : ByteArray) ++ t120) ++ (⟨#[59]⟩ : ByteArray))) (wrap64 (x6 - 1)) x1000 bt118.2) else (none)) else (spec_l72Say.l0 k x1 x5 (wrap64 (x6 - 1)) x1000 bt118.2)) else (none)) else (none))))) else (if x19 = 3 then (if x1 = true then ((spec_l6Rd_pick.f k x1000 x1001 4).bind fun bt121 => ((spec_EndText.f 9 (wrap64 (10 + bt121.1))).bind fun t123 => (if 1 + t123.size ≤ 9223372036854775807 then (if ((⟨#[64]⟩ : ByteArray) ++ t123).size + 1 ≤ 9223372036854775807 then (if (wrap64 ((x5.size : Int) + ((((⟨#[64]⟩ : ByteArray) ++ t123) ++ (⟨#[59]⟩ : ByteArray)).size : Int))) < 24 then (if x5.size + (((⟨#[64]⟩ : ByteArray) ++ t123) ++ (⟨#[59]⟩ : ByteArray)).size ≤ 9223372036854775807 then (spec_l72Say.l0 k x1 (x5 ++ (((⟨#[64]⟩ : ByteArray) ++ t123) ++ (⟨#[59]⟩ : ByteArray))) (wrap64 (x6 - 1)) x1000 bt121.2) else (none)) else (spec_l72Say.l0 k x1 x5 (wrap64 (x6 - 1)) x1000 bt121.2)) else (none)) else (none)))) else (if (wrap64 ((x5.size : Int) + (x7.size : Int))) < 24 then (if x5.size + x7.size ≤ 9223372036854775807 then (spec_l72Say.l0 k x1 (x5 ++ x7) (wrap64 (x6 - 1)) x1000 x1001) else (none)) else (spec_l72Say.l0 k x1 x5 (wrap64 (x6 - 1)) x1000 x1001))) else (if (wrap64 ((x5.size : Int) + (x7.size : Int))) < 24 then (if x5.size + x7.size ≤ 9223372036854775807 then (spec_l72Say.l0 k x1 (x5 ++ x7) (wrap64 (x6 - 1)) x1000 x1001) else (none)) else (spec_l72Say.l0 k x1 x5 (wrap64 (x6 - 1)) x1000 x1001))))
end
def spec_l72Say.f (k : Nat) (s0_0 : List Int) (s0_1 : Int) (a1 : Bool) : Option (ByteArray × Int) := (spec_l6Rd_pick.f k s0_0 s0_1 5).bind fun bt101 => (spec_l72Say.l0 k a1 (⟨#[]⟩ : ByteArray) (wrap64 (1 + bt101.1)) s0_0 bt101.2)
set_option maxHeartbeats 8000000 in
set_option maxRecDepth 100000 in
theorem spec_l72Say.calls (k : Nat) (g : Nat) (s0_0 : List Int) (s0_1 : Int) (a1 : Bool) (r1 : ByteArray) (r2 : Int) (w0 w : World) (hI : IsS91 w0 w g s0_0 s0_1) (hB : Below w0.heap.size w0 w) (h : spec_l72Say.f k s0_0 s0_1 a1 = some (r1, r2)) :
    Calls Tryz.prog 72 #[.pointer (some ⟨g, 0, none⟩), .bool a1] w fun e w' => e = .returned (.string r1) ∧ IsS91 w0 w' g s0_0 r2 ∧ Below w0.heap.size w0 w' ∧ KeepBut w w' g none := by
  have hu24 := Tryz.underlying24
  have HI0 := Aside0.mk hI
  have HK := Aside0.mk (KeepBut.refl w g none)
  have HL := Aside0.mk hB.size
  clear hI
  have HW0 := Aside0.mk hB.size
  have HB := Aside0.mk hB
  clear hB
  have H : ((spec_l6Rd_pick.f k s0_0 s0_1 5).bind fun bt101 => (spec_l72Say.l0 k a1 (⟨#[]⟩ : ByteArray) (wrap64 (1 + bt101.1)) s0_0 bt101.2)) = some (r1, r2) := h
  clear h
  replace H := Option.bind_eq_some_iff.mp H
  obtain ⟨⟨t101, t102⟩, A30, H⟩ := H
  replace H : (spec_l72Say.l0 k a1 (⟨#[]⟩ : ByteArray) (wrap64 (1 + t101)) s0_0 t102) = some (r1, r2) := H
  have A3 := Aside0.mk A30
  clear A30
  have H' := Aside0.mk H
  clear H
  go_enter Tryz.func72, Tryz.ntmps72
  go_wp2_with (first | ((with_reducible refine gate_callee (f := 43) rfl ?_); refine goesL_ (some 9) rfl rfl Tryz.func43 (by kernel_rfl) rfl #[.pointer (some ⟨g, 0, none⟩), .int .i64 5] rfl (by (try simp only [List.map_toArray, List.map_cons, List.map_nil]); first | done | rfl | (simp only [List.length_drop, List.length_take]; rfl)) ?_; (with_reducible refine (spec_l6Rd_pick.calls k g s0_0 s0_1 5 t101 t102 w0 _ ?side1 ?side2 A3.out).mono ?_); (case side1 => repeat (first | (with_reducible first | exact HI0.out | apply IsS91.alloc | apply IsS91.drewN | apply IsS91.drew | apply IsS91.set_1) | exact HI0.out)); (case side2 => repeat (first | (with_reducible first | exact HB.out | apply below_alloc | apply pw_below_drewN | apply below_drew1 | refine below_set ?_ (IsS91.ge HI0.out)) | exact HB.out)); rintro e w4 ⟨rfl, hi, hb, hk⟩; refine ⟨_, rfl, ?_⟩; have n0_ := Aside0.mk (KeepBut.trans (by repeat (first | (with_reducible first | exact HK.out | apply KeepBut.set_ | apply keep_drewN | apply keep_drew | apply keep_alloc) | exact HK.out)) hk (.inl rfl)); have n1_ := Aside0.mk (hb); have n2_ := Aside0.mk (hi); clear HK; clear HB; clear HI0; have HK := n0_; have HB := n1_; have HI0 := n2_; clear n0_ n1_ n2_; (try clear hb); (try clear hb2); (try clear hk); (try clear hi)))
  go_loopg [5, 6] k (fun kq v5 v6 w' => ∃ (x5_1 : ByteArray) (x6_1 : Int) (x1001_1 : Int), v5 = .string x5_1 ∧ v6 = .int .i64 x6_1 ∧ Aside0 (spec_l72Say.l0 kq a1 x5_1 x6_1 s0_0 x1001_1 = some (r1, r2)) ∧ Aside0 (kq ≤ k) ∧ Aside0 (IsS91 w0 w' g s0_0 x1001_1) ∧ Aside0 (KeepBut w w' g none) ∧ Aside0 (Below w0.heap.size w0 w'))
  case atStart => exact ⟨((⟨#[]⟩ : ByteArray)), (wrap64 (1 + t101)), (t102), (by first | rfl | (simp; done) | (simp [*]; done)), (by first | rfl | (simp; done) | (simp [*]; done)), H', ⟨Nat.le_refl _⟩, ⟨by repeat (first | (with_reducible first | exact HI0.out | apply IsS91.alloc | apply IsS91.drewN | apply IsS91.drew | apply IsS91.set_1) | exact HI0.out)⟩, ⟨by repeat (first | (with_reducible first | exact HK.out | apply KeepBut.set_ | apply keep_drewN | apply keep_drew | apply keep_alloc) | exact HK.out)⟩, ⟨by repeat (first | (with_reducible first | exact HB.out | apply below_alloc | apply pw_below_drewN | apply below_drew1 | refine below_set ?_ (IsS91.ge HI0.out)) | exact HB.out)⟩⟩
  case round =>
    clear H'
    try clear p2
    try clear c4
    obtain ⟨x5_1, x6_1, x1001_1, rfl, rfl, HA, HK1, HI0, HK, HB⟩ := hrel
    cases gk with
    | zero => exact absurd HA.out (by simp [spec_l72Say.l0])
    | succ k1 =>
      have H := HA.out
      clear HA
      simp only [spec_l72Say.l0] at H
      by_cases c5 : x6_1 > 0
      · rw [if_pos c5] at H
        have c5b0 : decide (0 < x6_1) = true := decide_eq_true c5
        clear c5
        obtain ⟨y104, hy104⟩ : ∃ y_ : List ByteArray, y_ = (([(⟨#[97]⟩ : ByteArray), (⟨#[98, 99]⟩ : ByteArray), (⟨#[64]⟩ : ByteArray), (⟨#[120, 49]⟩ : ByteArray), (⟨#[64, 49, 58, 122]⟩ : ByteArray), (⟨#[59]⟩ : ByteArray)] : List ByteArray)) := ⟨_, rfl⟩
        replace H : ((spec_l6Rd_of.f k1 s0_0 x1001_1 y104).bind fun bt107 => ((spec_l6Rd_pick.f k1 s0_0 bt107.2 5).bind fun bt109 => (if bt109.1 = 0 then (spec_l72Say.j1 k1 a1 x5_1 x6_1 bt107.1 bt109.1 (bt109.1 == 0) s0_0 bt109.2) else (spec_l72Say.j1 k1 a1 x5_1 x6_1 bt107.1 bt109.1 (bt109.1 == 1) s0_0 bt109.2)))) = some (r1, r2) := by first | (rw [hy104]; with_reducible exact H) | (have H2_ := (Option.bind_some _ _).symm.trans H; rw [hy104]; with_reducible exact H2_) | (have H2_ := (Option.bind_some _ _).symm.trans H; with_reducible exact H2_) | with_reducible exact H | (rw [hy104]; exact H) | exact H
        have Ny104 := Aside0.mk hy104
        clear hy104
        replace H := Option.bind_eq_some_iff.mp H
        obtain ⟨⟨t107, t108⟩, A60, H⟩ := H
        replace H : ((spec_l6Rd_pick.f k1 s0_0 t108 5).bind fun bt109 => (if bt109.1 = 0 then (spec_l72Say.j1 k1 a1 x5_1 x6_1 t107 bt109.1 (bt109.1 == 0) s0_0 bt109.2) else (spec_l72Say.j1 k1 a1 x5_1 x6_1 t107 bt109.1 (bt109.1 == 1) s0_0 bt109.2))) = some (r1, r2) := H
        have A6 := Aside0.mk A60
        clear A60
        replace H := Option.bind_eq_some_iff.mp H
        obtain ⟨⟨t109, t110⟩, A70, H⟩ := H
        replace H : (if t109 = 0 then (spec_l72Say.j1 k1 a1 x5_1 x6_1 t107 t109 (t109 == 0) s0_0 t110) else (spec_l72Say.j1 k1 a1 x5_1 x6_1 t107 t109 (t109 == 1) s0_0 t110)) = some (r1, r2) := H
        have A7 := Aside0.mk A70
        clear A70
        have HC8 := Aside0.mk H
        clear H
        go_upto_if 20 with (first | ((with_reducible refine gate_dst (N := 16) rfl ?_); refine Kd.R_lit Kd.string _ 9 ?hg (N := 16) ?hd (xs := ([(⟨#[97]⟩ : ByteArray), (⟨#[98, 99]⟩ : ByteArray), (⟨#[64]⟩ : ByteArray), (⟨#[120, 49]⟩ : ByteArray), (⟨#[64, 49, 58, 122]⟩ : ByteArray), (⟨#[59]⟩ : ByteArray)] : List ByteArray)) (inner := [.string (⟨#[97]⟩ : ByteArray), .string (⟨#[98, 99]⟩ : ByteArray), .string (⟨#[64]⟩ : ByteArray), .string (⟨#[120, 49]⟩ : ByteArray), .string (⟨#[64, 49, 58, 122]⟩ : ByteArray), .string (⟨#[59]⟩ : ByteArray)]) (ok := fun _ => True) (okp := fun _ => True) ?hr ?hp (fun _ hk => hk) trivial (Below.refl _ _) (Nat.le_refl _) (by simp) ?_; (case hd => rfl); (case hg => rfl); (case hr => first | (go_simp; done) | (go_simp; rfl)); (case hp => exact (Reps.one (show Kd.M Kd.string _ _ _ (⟨#[97]⟩ : ByteArray) [.string (⟨#[97]⟩ : ByteArray)] from rfl) (Reps.one (show Kd.M Kd.string _ _ _ (⟨#[98, 99]⟩ : ByteArray) [.string (⟨#[98, 99]⟩ : ByteArray)] from rfl) (Reps.one (show Kd.M Kd.string _ _ _ (⟨#[64]⟩ : ByteArray) [.string (⟨#[64]⟩ : ByteArray)] from rfl) (Reps.one (show Kd.M Kd.string _ _ _ (⟨#[120, 49]⟩ : ByteArray) [.string (⟨#[120, 49]⟩ : ByteArray)] from rfl) (Reps.one (show Kd.M Kd.string _ _ _ (⟨#[64, 49, 58, 122]⟩ : ByteArray) [.string (⟨#[64, 49, 58, 122]⟩ : ByteArray)] from rfl) (Reps.one (show Kd.M Kd.string _ _ _ (⟨#[59]⟩ : ByteArray) [.string (⟨#[59]⟩ : ByteArray)] from rfl) (Reps.none _ _)))))))); intro v105 w9 ho10 hb hg_ hnew_; clear hg_ hnew_; (first | rw [← Ny104.out] at ho10 | (simp only [Int.reduceToNat] at ho10; rw [← Ny104.out] at ho10)); have n0_ := Aside0.mk (Kd.R_lower ho10 (keep_size (w := w) (g := g) (row := none) (by repeat (first | (with_reducible first | exact HK.out | apply KeepBut.set_ | apply keep_drewN | apply keep_drew | apply keep_alloc) | exact HK.out)))); have n1_ := Aside0.mk (IsS91.below (by repeat (first | (with_reducible first | exact HI0.out | apply IsS91.alloc | apply IsS91.drewN | apply IsS91.drew | apply IsS91.set_1) | exact HI0.out)) hb); have n2_ := Aside0.mk (KeepBut.trans (by repeat (first | (with_reducible first | exact HK.out | apply KeepBut.set_ | apply keep_drewN | apply keep_drew | apply keep_alloc) | exact HK.out)) (KeepBut.of_below hb g none) (.inl rfl)); have n3_ := Aside0.mk (below_step (by repeat (first | (with_reducible first | exact HB.out | apply below_alloc | apply pw_below_drewN | apply below_drew1 | refine below_set ?_ (IsS91.ge HI0.out)) | exact HB.out)) hb); clear HI0; clear HK; clear HB; have HO106 := n0_; have HI0 := n1_; have HK := n2_; have HB := n3_; clear n0_ n1_ n2_ n3_; clear hb ho10; obtain ⟨Ao11, co11, eo11⟩ := Kd.R_slice HO106.out; subst eo11) | ((with_reducible refine gate_callee (f := 98) rfl ?_); refine goesL_ (some 17) rfl rfl Tryz.func98 (by kernel_rfl) rfl #[.pointer (some ⟨g, 0, none⟩), .slice Ao11 y104.length co11] rfl (by (try simp only [List.map_toArray, List.map_cons, List.map_nil]); first | done | rfl | (simp only [List.length_drop, List.length_take]; rfl)) ?_; (with_reducible refine (spec_l6Rd_of.calls k1 g s0_0 x1001_1 _ _ y104 t107 t108 w0 _ ?side1 ?side2 ?side3 ?side4 ?side5 A6.out).mono ?_); (case side1 => repeat (first | (with_reducible first | exact HI0.out | apply IsS91.alloc | apply IsS91.drewN | apply IsS91.drew | apply IsS91.set_1) | exact HI0.out)); (case side2 => repeat (first | (with_reducible first | exact HB.out | apply below_alloc | apply pw_below_drewN | apply below_drew1 | refine below_set ?_ (IsS91.ge HI0.out)) | exact HB.out)); (case side3 => repeat (first | exact (Kd.R_reads' HO106.out).2.2 | (with_reducible refine Kd.C_alloc ?_ _) | (with_reducible refine Kd.C_drewN ?_ _) | (with_reducible refine Kd.C_drew ?_))); (case side4 => exact (Kd.R_reads' HO106.out).2.1); (case side5 => exact far_slice (IsS91.own_ne HI0.out HO106.out (by decide))); rintro e w12 ⟨rfl, hi, hb, hk⟩; refine ⟨_, rfl, ?_⟩; have n0_ := Aside0.mk (Kd.R_mono (Kd.R_keep (IsS91.apart (show IsS91 w0 _ g s0_0 x1001_1 from by repeat (first | (with_reducible first | exact HI0.out | apply IsS91.alloc | apply IsS91.drewN | apply IsS91.drew | apply IsS91.set_1) | exact HI0.out)) (by (with_reducible repeat (first | apply Kd.R_alloc | apply Kd.R_drewN | apply Kd.R_drew)); exact HO106.out) (by decide)) hk (fun _ h => h.2)) (fun _ h => h.1)); have n1_ := Aside0.mk (KeepBut.trans (by repeat (first | (with_reducible first | exact HK.out | apply KeepBut.set_ | apply keep_drewN | apply keep_drew | apply keep_alloc) | exact HK.out)) hk (.inl rfl)); have n2_ := Aside0.mk (hb); have n3_ := Aside0.mk (hi); clear HO106; clear HK; clear HB; clear HI0; have HO106 := n0_; have HK := n1_; have HB := n2_; have HI0 := n3_; clear n0_ n1_ n2_ n3_; (try clear hb); (try clear hb2); (try clear hk); (try clear hi)) | ((with_reducible refine gate_callee (f := 43) rfl ?_); refine goesL_ (some 19) rfl rfl Tryz.func43 (by kernel_rfl) rfl #[.pointer (some ⟨g, 0, none⟩), .int .i64 5] rfl (by (try simp only [List.map_toArray, List.map_cons, List.map_nil]); first | done | rfl | (simp only [List.length_drop, List.length_take]; rfl)) ?_; (with_reducible refine (spec_l6Rd_pick.calls k1 g s0_0 t108 5 t109 t110 w0 _ ?side1 ?side2 A7.out).mono ?_); (case side1 => repeat (first | (with_reducible first | exact HI0.out | apply IsS91.alloc | apply IsS91.drewN | apply IsS91.drew | apply IsS91.set_1) | exact HI0.out)); (case side2 => repeat (first | (with_reducible first | exact HB.out | apply below_alloc | apply pw_below_drewN | apply below_drew1 | refine below_set ?_ (IsS91.ge HI0.out)) | exact HB.out)); rintro e w13 ⟨rfl, hi, hb, hk⟩; refine ⟨_, rfl, ?_⟩; have n0_ := Aside0.mk (Kd.R_mono (Kd.R_keep (IsS91.apart (show IsS91 w0 _ g s0_0 t108 from by repeat (first | (with_reducible first | exact HI0.out | apply IsS91.alloc | apply IsS91.drewN | apply IsS91.drew | apply IsS91.set_1) | exact HI0.out)) (by (with_reducible repeat (first | apply Kd.R_alloc | apply Kd.R_drewN | apply Kd.R_drew)); exact HO106.out) (by decide)) hk (fun _ h => h.2)) (fun _ h => h.1)); have n1_ := Aside0.mk (KeepBut.trans (by repeat (first | (with_reducible first | exact HK.out | apply KeepBut.set_ | apply keep_drewN | apply keep_drew | apply keep_alloc) | exact HK.out)) hk (.inl rfl)); have n2_ := Aside0.mk (hb); have n3_ := Aside0.mk (hi); clear HO106; clear HK; clear HB; clear HI0; have HO106 := n0_; have HK := n1_; have HB := n2_; have HI0 := n3_; clear n0_ n1_ n2_ n3_; (try clear hb); (try clear hb2); (try clear hk); (try clear hi)))
        (try simp only [Act.put, List.setIfInBounds_toArray, List.set_cons_zero, List.set_cons_succ])
        go_cut [20] (fun v20 wc => ∃ (kq : Nat) (x20_7 : Bool), v20 = .bool x20_7 ∧ Aside0 (spec_l72Say.j1 kq a1 x5_1 x6_1 t107 t109 x20_7 s0_0 t110 = some (r1, r2)) ∧ Aside0 (kq ≤ k1) ∧ Aside0 (IsS91 w0 wc g s0_0 t110) ∧ Aside0 (KeepBut w wc g none) ∧ Aside0 (Below w0.heap.size w0 wc))
        case first =>
          have H := HC8.out
          clear HC8
          by_cases c14 : t109 = 0
          · rw [if_pos c14] at H
            have c14b0 : (t109 == 0) = true := beq_iff_eq.mpr c14
            have c14b1 : (t109 != 0) = false := bne_eq_false_iff_eq.mpr c14
            clear c14
            (first | rw [c14b0] | (simp only [i64_w, i32_w]; rw [c14b0]) | skip)
            have H' := Aside0.mk H
            clear H
            go_wp2
            go_meet
            case rel => exact ⟨_, ((t109 == 0)), (by first | rfl | (simp; done) | (simp [*]; done)), H', ⟨by have := HK1.out; first | omega | exact Nat.le_refl _⟩, ⟨by repeat (first | (with_reducible first | exact HI0.out | apply IsS91.alloc | apply IsS91.drewN | apply IsS91.drew | apply IsS91.set_1) | exact HI0.out)⟩, ⟨by repeat (first | (with_reducible first | exact HK.out | apply KeepBut.set_ | apply keep_drewN | apply keep_drew | apply keep_alloc) | exact HK.out)⟩, ⟨by repeat (first | (with_reducible first | exact HB.out | apply below_alloc | apply pw_below_drewN | apply below_drew1 | refine below_set ?_ (IsS91.ge HI0.out)) | exact HB.out)⟩⟩
          · rw [if_neg c14] at H
            have c14b0 : (t109 == 0) = false := beq_eq_false_iff_ne.mpr c14
            have c14b1 : (t109 != 0) = true := bne_iff_ne.mpr c14
            (first | rw [c14b0] | (simp only [i64_w, i32_w]; rw [c14b0]) | skip)
            have H' := Aside0.mk H
            clear H
            go_wp2
            go_meet
            case rel => exact ⟨_, ((t109 == 1)), (by first | rfl | (simp; done) | (simp [*]; done)), H', ⟨by have := HK1.out; first | omega | exact Nat.le_refl _⟩, ⟨by repeat (first | (with_reducible first | exact HI0.out | apply IsS91.alloc | apply IsS91.drewN | apply IsS91.drew | apply IsS91.set_1) | exact HI0.out)⟩, ⟨by repeat (first | (with_reducible first | exact HK.out | apply KeepBut.set_ | apply keep_drewN | apply keep_drew | apply keep_alloc) | exact HK.out)⟩, ⟨by repeat (first | (with_reducible first | exact HB.out | apply below_alloc | apply pw_below_drewN | apply below_drew1 | refine below_set ?_ (IsS91.ge HI0.out)) | exact HB.out)⟩⟩
        case rest =>
          clear HC8
          try clear c1
          try clear p2
          try clear c4
          try clear c5
          try clear c5b0
          try clear p6
          try clear c7
          try clear c9
          try clear c14
          try clear c14b0
          try clear c14b1
          try clear p2
          obtain ⟨kq, x20_7, rfl, HA, HJ7, HI0, HK, HB⟩ := hcut
          cases kq with
          | zero => exact absurd HA.out (by simp [spec_l72Say.j1])
          | succ kj7 =>
            have H := HA.out
            clear HA
            simp only [spec_l72Say.j1] at H
            by_cases c15 : x20_7 = true
            · subst c15
              have H1 : ((spec_l6Rd_pick.f kj7 s0_0 t110 3).bind fun bt111 => ((spec_l6Rd_pick.f kj7 s0_0 bt111.2 4).bind fun bt113 => ((spec_EndText.f (wrap64 (1 + bt111.1)) (wrap64 (1 + bt113.1))).bind fun t115 => (if 1 + t115.size ≤ 9223372036854775807 then (if ((⟨#[64]⟩ : ByteArray) ++ t115).size + 1 ≤ 9223372036854775807 then (if (wrap64 ((x5_1.size : Int) + ((((⟨#[64]⟩ : ByteArray) ++ t115) ++ (⟨#[59]⟩ : ByteArray)).size : Int))) < 24 then (if x5_1.size + (((⟨#[64]⟩ : ByteArray) ++ t115) ++ (⟨#[59]⟩ : ByteArray)).size ≤ 9223372036854775807 then (spec_l72Say.l0 kj7 a1 (x5_1 ++ (((⟨#[64]⟩ : ByteArray) ++ t115) ++ (⟨#[59]⟩ : ByteArray))) (wrap64 (x6_1 - 1)) s0_0 bt113.2) else (none)) else (spec_l72Say.l0 kj7 a1 x5_1 (wrap64 (x6_1 - 1)) s0_0 bt113.2)) else (none)) else (none))))) = some (r1, r2) := by rw [if_pos rfl] at H; exact H
              clear H
              have H := H1
              clear H1
              replace H := Option.bind_eq_some_iff.mp H
              obtain ⟨⟨t111, t112⟩, A160, H⟩ := H
              replace H : ((spec_l6Rd_pick.f kj7 s0_0 t112 4).bind fun bt113 => ((spec_EndText.f (wrap64 (1 + t111)) (wrap64 (1 + bt113.1))).bind fun t115 => (if 1 + t115.size ≤ 9223372036854775807 then (if ((⟨#[64]⟩ : ByteArray) ++ t115).size + 1 ≤ 9223372036854775807 then (if (wrap64 ((x5_1.size : Int) + ((((⟨#[64]⟩ : ByteArray) ++ t115) ++ (⟨#[59]⟩ : ByteArray)).size : Int))) < 24 then (if x5_1.size + (((⟨#[64]⟩ : ByteArray) ++ t115) ++ (⟨#[59]⟩ : ByteArray)).size ≤ 9223372036854775807 then (spec_l72Say.l0 kj7 a1 (x5_1 ++ (((⟨#[64]⟩ : ByteArray) ++ t115) ++ (⟨#[59]⟩ : ByteArray))) (wrap64 (x6_1 - 1)) s0_0 bt113.2) else (none)) else (spec_l72Say.l0 kj7 a1 x5_1 (wrap64 (x6_1 - 1)) s0_0 bt113.2)) else (none)) else (none)))) = some (r1, r2) := H
              have A16 := Aside0.mk A160
              clear A160
              replace H := Option.bind_eq_some_iff.mp H
              obtain ⟨⟨t113, t114⟩, A170, H⟩ := H
              replace H : ((spec_EndText.f (wrap64 (1 + t111)) (wrap64 (1 + t113))).bind fun t115 => (if 1 + t115.size ≤ 9223372036854775807 then (if ((⟨#[64]⟩ : ByteArray) ++ t115).size + 1 ≤ 9223372036854775807 then (if (wrap64 ((x5_1.size : Int) + ((((⟨#[64]⟩ : ByteArray) ++ t115) ++ (⟨#[59]⟩ : ByteArray)).size : Int))) < 24 then (if x5_1.size + (((⟨#[64]⟩ : ByteArray) ++ t115) ++ (⟨#[59]⟩ : ByteArray)).size ≤ 9223372036854775807 then (spec_l72Say.l0 kj7 a1 (x5_1 ++ (((⟨#[64]⟩ : ByteArray) ++ t115) ++ (⟨#[59]⟩ : ByteArray))) (wrap64 (x6_1 - 1)) s0_0 t114) else (none)) else (spec_l72Say.l0 kj7 a1 x5_1 (wrap64 (x6_1 - 1)) s0_0 t114)) else (none)) else (none))) = some (r1, r2) := H
              have A17 := Aside0.mk A170
              clear A170
              replace H := Option.bind_eq_some_iff.mp H
              obtain ⟨t115, A180, H⟩ := H
              replace H : (if 1 + t115.size ≤ 9223372036854775807 then (if ((⟨#[64]⟩ : ByteArray) ++ t115).size + 1 ≤ 9223372036854775807 then (if (wrap64 ((x5_1.size : Int) + ((((⟨#[64]⟩ : ByteArray) ++ t115) ++ (⟨#[59]⟩ : ByteArray)).size : Int))) < 24 then (if x5_1.size + (((⟨#[64]⟩ : ByteArray) ++ t115) ++ (⟨#[59]⟩ : ByteArray)).size ≤ 9223372036854775807 then (spec_l72Say.l0 kj7 a1 (x5_1 ++ (((⟨#[64]⟩ : ByteArray) ++ t115) ++ (⟨#[59]⟩ : ByteArray))) (wrap64 (x6_1 - 1)) s0_0 t114) else (none)) else (spec_l72Say.l0 kj7 a1 x5_1 (wrap64 (x6_1 - 1)) s0_0 t114)) else (none)) else (none)) = some (r1, r2) := H
              have A18 := Aside0.mk A180
              clear A180
              by_cases c19 : 1 + t115.size ≤ 9223372036854775807
              · rw [if_pos c19] at H
                have c19b0 := eq_true c19
                have c19b1 : decide (1 + t115.size ≤ 9223372036854775807) = true := decide_eq_true c19
                try have c19b2 : (9223372036854775807 < 1 + t115.size) = False := eq_false (Nat.not_lt.2 c19)
                by_cases c20 : ((⟨#[64]⟩ : ByteArray) ++ t115).size + 1 ≤ 9223372036854775807
                · rw [if_pos c20] at H
                  have c20b0 := eq_true c20
                  have c20b1 : decide (((⟨#[64]⟩ : ByteArray) ++ t115).size + 1 ≤ 9223372036854775807) = true := decide_eq_true c20
                  try (have c20z := c20; simp only [ByteArray.size_append, ByteArray.size_extract, Nat.min_self, Int.natCast_add] at c20z; have c20b3 := eq_true c20z; clear c20z)
                  try have c20b2 : (9223372036854775807 < ((⟨#[64]⟩ : ByteArray) ++ t115).size + 1) = False := eq_false (Nat.not_lt.2 c20)
                  try have c20b3 : (9223372036854775807 < 1 + t115.size + 1) = False := eq_false (Nat.not_lt.2 (by have h_ := c20; simp only [ByteArray.size_append] at h_; exact h_))
                  by_cases c21 : (wrap64 ((x5_1.size : Int) + ((((⟨#[64]⟩ : ByteArray) ++ t115) ++ (⟨#[59]⟩ : ByteArray)).size : Int))) < 24
                  · rw [if_pos c21] at H
                    have c21b0 : decide ((wrap64 ((x5_1.size : Int) + ((((⟨#[64]⟩ : ByteArray) ++ t115) ++ (⟨#[59]⟩ : ByteArray)).size : Int))) < 24) = true := decide_eq_true c21
                    try have c21b0z : decide ((wrap64 ((x5_1.size : Int) + (1 + (t115.size : Int) + 1))) < 24) = true := by rw [show (1 + (t115.size : Int) + 1) = ((((⟨#[64]⟩ : ByteArray) ++ t115) ++ (⟨#[59]⟩ : ByteArray)).size : Int) from by simp only [ByteArray.size_append, Int.natCast_add]; rfl]; exact c21b0
                    clear c21
                    by_cases c22 : x5_1.size + (((⟨#[64]⟩ : ByteArray) ++ t115) ++ (⟨#[59]⟩ : ByteArray)).size ≤ 9223372036854775807
                    · rw [if_pos c22] at H
                      have c22b0 := eq_true c22
                      have c22b1 : decide (x5_1.size + (((⟨#[64]⟩ : ByteArray) ++ t115) ++ (⟨#[59]⟩ : ByteArray)).size ≤ 9223372036854775807) = true := decide_eq_true c22
                      try (have c22z := c22; simp only [ByteArray.size_append, ByteArray.size_extract, Nat.min_self, Int.natCast_add] at c22z; have c22b3 := eq_true c22z; clear c22z)
                      try have c22b2 : (9223372036854775807 < x5_1.size + (((⟨#[64]⟩ : ByteArray) ++ t115) ++ (⟨#[59]⟩ : ByteArray)).size) = False := eq_false (Nat.not_lt.2 c22)
                      try have c22b3 : (9223372036854775807 < x5_1.size + (1 + t115.size + 1)) = False := eq_false (Nat.not_lt.2 (by have h_ := c22; simp only [ByteArray.size_append] at h_; exact h_))
                      have H' := Aside0.mk H
                      clear H
                      go_wp2_with (first | ((with_reducible refine gate_callee (f := 43) rfl ?_); refine goesL_ (some 24) rfl rfl Tryz.func43 (by kernel_rfl) rfl #[.pointer (some ⟨g, 0, none⟩), .int .i64 3] rfl (by (try simp only [List.map_toArray, List.map_cons, List.map_nil]); first | done | rfl | (simp only [List.length_drop, List.length_take]; rfl)) ?_; (with_reducible refine (spec_l6Rd_pick.calls kj7 g s0_0 t110 3 t111 t112 w0 _ ?side1 ?side2 A16.out).mono ?_); (case side1 => repeat (first | (with_reducible first | exact HI0.out | apply IsS91.alloc | apply IsS91.drewN | apply IsS91.drew | apply IsS91.set_1) | exact HI0.out)); (case side2 => repeat (first | (with_reducible first | exact HB.out | apply below_alloc | apply pw_below_drewN | apply below_drew1 | refine below_set ?_ (IsS91.ge HI0.out)) | exact HB.out)); rintro e w23 ⟨rfl, hi, hb, hk⟩; refine ⟨_, rfl, ?_⟩; have n0_ := Aside0.mk (KeepBut.trans (by repeat (first | (with_reducible first | exact HK.out | apply KeepBut.set_ | apply keep_drewN | apply keep_drew | apply keep_alloc) | exact HK.out)) hk (.inl rfl)); have n1_ := Aside0.mk (hb); have n2_ := Aside0.mk (hi); clear HK; clear HB; clear HI0; have HK := n0_; have HB := n1_; have HI0 := n2_; clear n0_ n1_ n2_; (try clear hb); (try clear hb2); (try clear hk); (try clear hi)) | ((with_reducible refine gate_callee (f := 43) rfl ?_); refine goesL_ (some 27) rfl rfl Tryz.func43 (by kernel_rfl) rfl #[.pointer (some ⟨g, 0, none⟩), .int .i64 4] rfl (by (try simp only [List.map_toArray, List.map_cons, List.map_nil]); first | done | rfl | (simp only [List.length_drop, List.length_take]; rfl)) ?_; (with_reducible refine (spec_l6Rd_pick.calls kj7 g s0_0 t112 4 t113 t114 w0 _ ?side1 ?side2 A17.out).mono ?_); (case side1 => repeat (first | (with_reducible first | exact HI0.out | apply IsS91.alloc | apply IsS91.drewN | apply IsS91.drew | apply IsS91.set_1) | exact HI0.out)); (case side2 => repeat (first | (with_reducible first | exact HB.out | apply below_alloc | apply pw_below_drewN | apply below_drew1 | refine below_set ?_ (IsS91.ge HI0.out)) | exact HB.out)); rintro e w24 ⟨rfl, hi, hb, hk⟩; refine ⟨_, rfl, ?_⟩; have n0_ := Aside0.mk (KeepBut.trans (by repeat (first | (with_reducible first | exact HK.out | apply KeepBut.set_ | apply keep_drewN | apply keep_drew | apply keep_alloc) | exact HK.out)) hk (.inl rfl)); have n1_ := Aside0.mk (hb); have n2_ := Aside0.mk (hi); clear HK; clear HB; clear HI0; have HK := n0_; have HB := n1_; have HI0 := n2_; clear n0_ n1_ n2_; (try clear hb); (try clear hb2); (try clear hk); (try clear hi)) | ((with_reducible refine gate_callee (f := 85) rfl ?_); refine goesL_ (some 30) rfl rfl Tryz.func85 (by kernel_rfl) rfl #[.agg #[.int .i64 (wrap64 (1 + t111)), .int .i64 (wrap64 (1 + t113))]] rfl (by (try simp only [List.map_toArray, List.map_cons, List.map_nil]); first | done | rfl | (simp only [List.length_drop, List.length_take]; rfl)) ?_; (with_reducible refine (spec_EndText.calls (wrap64 (1 + t111)) (wrap64 (1 + t113)) t115 _ A18.out).mono ?_); rintro e w25 ⟨rfl, hb⟩; refine ⟨_, rfl, ?_⟩; have n0_ := Aside0.mk (IsS91.below (by repeat (first | (with_reducible first | exact HI0.out | apply IsS91.alloc | apply IsS91.drewN | apply IsS91.drew | apply IsS91.set_1) | exact HI0.out)) hb); have n1_ := Aside0.mk (KeepBut.trans (by repeat (first | (with_reducible first | exact HK.out | apply KeepBut.set_ | apply keep_drewN | apply keep_drew | apply keep_alloc) | exact HK.out)) (KeepBut.of_below hb g none) (.inl rfl)); have n2_ := Aside0.mk (below_step (by repeat (first | (with_reducible first | exact HB.out | apply below_alloc | apply pw_below_drewN | apply below_drew1 | refine below_set ?_ (IsS91.ge HI0.out)) | exact HB.out)) hb); clear HI0; clear HK; clear HB; have HI0 := n0_; have HK := n1_; have HB := n2_; clear n0_ n1_ n2_; (try clear hb); (try clear hb2); (try clear hk); (try clear hi)))
                      go_roundg kj7
                      case measure => have := HK1.out; have := HJ7.out; omega
                      case rel => exact ⟨(x5_1 ++ (((⟨#[64]⟩ : ByteArray) ++ t115) ++ (⟨#[59]⟩ : ByteArray))), (wrap64 (x6_1 - 1)), (t114), (by first | rfl | (simp; done) | (simp [*]; done)), (by first | rfl | (simp; done) | (simp [*]; done)), H', ⟨by have := HK1.out; have := HJ7.out; omega⟩, ⟨by repeat (first | (with_reducible first | exact HI0.out | apply IsS91.alloc | apply IsS91.drewN | apply IsS91.drew | apply IsS91.set_1) | exact HI0.out)⟩, ⟨by repeat (first | (with_reducible first | exact HK.out | apply KeepBut.set_ | apply keep_drewN | apply keep_drew | apply keep_alloc) | exact HK.out)⟩, ⟨by repeat (first | (with_reducible first | exact HB.out | apply below_alloc | apply pw_below_drewN | apply below_drew1 | refine below_set ?_ (IsS91.ge HI0.out)) | exact HB.out)⟩⟩
                    · rw [if_neg c22] at H
                      exact absurd H (by simp)
                  · rw [if_neg c21] at H
                    have c21b0 : decide ((wrap64 ((x5_1.size : Int) + ((((⟨#[64]⟩ : ByteArray) ++ t115) ++ (⟨#[59]⟩ : ByteArray)).size : Int))) < 24) = false := decide_eq_false c21
                    try have c21b0z : decide ((wrap64 ((x5_1.size : Int) + (1 + (t115.size : Int) + 1))) < 24) = false := by rw [show (1 + (t115.size : Int) + 1) = ((((⟨#[64]⟩ : ByteArray) ++ t115) ++ (⟨#[59]⟩ : ByteArray)).size : Int) from by simp only [ByteArray.size_append, Int.natCast_add]; rfl]; exact c21b0
                    clear c21
                    have H' := Aside0.mk H
                    clear H
                    go_wp2_with (first | ((with_reducible refine gate_callee (f := 43) rfl ?_); refine goesL_ (some 24) rfl rfl Tryz.func43 (by kernel_rfl) rfl #[.pointer (some ⟨g, 0, none⟩), .int .i64 3] rfl (by (try simp only [List.map_toArray, List.map_cons, List.map_nil]); first | done | rfl | (simp only [List.length_drop, List.length_take]; rfl)) ?_; (with_reducible refine (spec_l6Rd_pick.calls kj7 g s0_0 t110 3 t111 t112 w0 _ ?side1 ?side2 A16.out).mono ?_); (case side1 => repeat (first | (with_reducible first | exact HI0.out | apply IsS91.alloc | apply IsS91.drewN | apply IsS91.drew | apply IsS91.set_1) | exact HI0.out)); (case side2 => repeat (first | (with_reducible first | exact HB.out | apply below_alloc | apply pw_below_drewN | apply below_drew1 | refine below_set ?_ (IsS91.ge HI0.out)) | exact HB.out)); rintro e w26 ⟨rfl, hi, hb, hk⟩; refine ⟨_, rfl, ?_⟩; have n0_ := Aside0.mk (KeepBut.trans (by repeat (first | (with_reducible first | exact HK.out | apply KeepBut.set_ | apply keep_drewN | apply keep_drew | apply keep_alloc) | exact HK.out)) hk (.inl rfl)); have n1_ := Aside0.mk (hb); have n2_ := Aside0.mk (hi); clear HK; clear HB; clear HI0; have HK := n0_; have HB := n1_; have HI0 := n2_; clear n0_ n1_ n2_; (try clear hb); (try clear hb2); (try clear hk); (try clear hi)) | ((with_reducible refine gate_callee (f := 43) rfl ?_); refine goesL_ (some 27) rfl rfl Tryz.func43 (by kernel_rfl) rfl #[.pointer (some ⟨g, 0, none⟩), .int .i64 4] rfl (by (try simp only [List.map_toArray, List.map_cons, List.map_nil]); first | done | rfl | (simp only [List.length_drop, List.length_take]; rfl)) ?_; (with_reducible refine (spec_l6Rd_pick.calls kj7 g s0_0 t112 4 t113 t114 w0 _ ?side1 ?side2 A17.out).mono ?_); (case side1 => repeat (first | (with_reducible first | exact HI0.out | apply IsS91.alloc | apply IsS91.drewN | apply IsS91.drew | apply IsS91.set_1) | exact HI0.out)); (case side2 => repeat (first | (with_reducible first | exact HB.out | apply below_alloc | apply pw_below_drewN | apply below_drew1 | refine below_set ?_ (IsS91.ge HI0.out)) | exact HB.out)); rintro e w27 ⟨rfl, hi, hb, hk⟩; refine ⟨_, rfl, ?_⟩; have n0_ := Aside0.mk (KeepBut.trans (by repeat (first | (with_reducible first | exact HK.out | apply KeepBut.set_ | apply keep_drewN | apply keep_drew | apply keep_alloc) | exact HK.out)) hk (.inl rfl)); have n1_ := Aside0.mk (hb); have n2_ := Aside0.mk (hi); clear HK; clear HB; clear HI0; have HK := n0_; have HB := n1_; have HI0 := n2_; clear n0_ n1_ n2_; (try clear hb); (try clear hb2); (try clear hk); (try clear hi)) | ((with_reducible refine gate_callee (f := 85) rfl ?_); refine goesL_ (some 30) rfl rfl Tryz.func85 (by kernel_rfl) rfl #[.agg #[.int .i64 (wrap64 (1 + t111)), .int .i64 (wrap64 (1 + t113))]] rfl (by (try simp only [List.map_toArray, List.map_cons, List.map_nil]); first | done | rfl | (simp only [List.length_drop, List.length_take]; rfl)) ?_; (with_reducible refine (spec_EndText.calls (wrap64 (1 + t111)) (wrap64 (1 + t113)) t115 _ A18.out).mono ?_); rintro e w28 ⟨rfl, hb⟩; refine ⟨_, rfl, ?_⟩; have n0_ := Aside0.mk (IsS91.below (by repeat (first | (with_reducible first | exact HI0.out | apply IsS91.alloc | apply IsS91.drewN | apply IsS91.drew | apply IsS91.set_1) | exact HI0.out)) hb); have n1_ := Aside0.mk (KeepBut.trans (by repeat (first | (with_reducible first | exact HK.out | apply KeepBut.set_ | apply keep_drewN | apply keep_drew | apply keep_alloc) | exact HK.out)) (KeepBut.of_below hb g none) (.inl rfl)); have n2_ := Aside0.mk (below_step (by repeat (first | (with_reducible first | exact HB.out | apply below_alloc | apply pw_below_drewN | apply below_drew1 | refine below_set ?_ (IsS91.ge HI0.out)) | exact HB.out)) hb); clear HI0; clear HK; clear HB; have HI0 := n0_; have HK := n1_; have HB := n2_; clear n0_ n1_ n2_; (try clear hb); (try clear hb2); (try clear hk); (try clear hi)))
                    go_roundg kj7
                    case measure => have := HK1.out; have := HJ7.out; omega
                    case rel => exact ⟨(x5_1), (wrap64 (x6_1 - 1)), (t114), (by first | rfl | (simp; done) | (simp [*]; done)), (by first | rfl | (simp; done) | (simp [*]; done)), H', ⟨by have := HK1.out; have := HJ7.out; omega⟩, ⟨by repeat (first | (with_reducible first | exact HI0.out | apply IsS91.alloc | apply IsS91.drewN | apply IsS91.drew | apply IsS91.set_1) | exact HI0.out)⟩, ⟨by repeat (first | (with_reducible first | exact HK.out | apply KeepBut.set_ | apply keep_drewN | apply keep_drew | apply keep_alloc) | exact HK.out)⟩, ⟨by repeat (first | (with_reducible first | exact HB.out | apply below_alloc | apply pw_below_drewN | apply below_drew1 | refine below_set ?_ (IsS91.ge HI0.out)) | exact HB.out)⟩⟩
                · rw [if_neg c20] at H
                  exact absurd H (by simp)
              · rw [if_neg c19] at H
                exact absurd H (by simp)
            · replace c15 := Bool.eq_false_iff.mpr c15
              subst c15
              have H1 : (if t109 = 2 then ((spec_l6Rd_pick.f kj7 s0_0 t110 3).bind fun bt116 => ((spec_l6Rd_pick.f kj7 s0_0 bt116.2 4).bind fun bt118 => ((spec_EndText.f (wrap64 (4 + bt116.1)) (wrap64 (1 + bt118.1))).bind fun t120 => (if 1 + t120.size ≤ 9223372036854775807 then (if ((⟨#[64]⟩ : ByteArray) ++ t120).size + 1 ≤ 9223372036854775807 then (if (wrap64 ((x5_1.size : Int) + ((((⟨#[64]⟩ : ByteArray) ++ t120) ++ (⟨#[59]⟩ : ByteArray)).size : Int))) < 24 then (if x5_1.size + (((⟨#[64]⟩ : ByteArray) ++ t120) ++ (⟨#[59]⟩ : ByteArray)).size ≤ 9223372036854775807 then (spec_l72Say.l0 kj7 a1 (x5_1 ++ (((⟨#[64]⟩ : ByteArray) ++ t120) ++ (⟨#[59]⟩ : ByteArray))) (wrap64 (x6_1 - 1)) s0_0 bt118.2) else (none)) else (spec_l72Say.l0 kj7 a1 x5_1 (wrap64 (x6_1 - 1)) s0_0 bt118.2)) else (none)) else (none))))) else (if t109 = 3 then (if a1 = true then ((spec_l6Rd_pick.f kj7 s0_0 t110 4).bind fun bt121 => ((spec_EndText.f 9 (wrap64 (10 + bt121.1))).bind fun t123 => (if 1 + t123.size ≤ 9223372036854775807 then (if ((⟨#[64]⟩ : ByteArray) ++ t123).size + 1 ≤ 9223372036854775807 then (if (wrap64 ((x5_1.size : Int) + ((((⟨#[64]⟩ : ByteArray) ++ t123) ++ (⟨#[59]⟩ : ByteArray)).size : Int))) < 24 then (if x5_1.size + (((⟨#[64]⟩ : ByteArray) ++ t123) ++ (⟨#[59]⟩ : ByteArray)).size ≤ 9223372036854775807 then (spec_l72Say.l0 kj7 a1 (x5_1 ++ (((⟨#[64]⟩ : ByteArray) ++ t123) ++ (⟨#[59]⟩ : ByteArray))) (wrap64 (x6_1 - 1)) s0_0 bt121.2) else (none)) else (spec_l72Say.l0 kj7 a1 x5_1 (wrap64 (x6_1 - 1)) s0_0 bt121.2)) else (none)) else (none)))) else (if (wrap64 ((x5_1.size : Int) + (t107.size : Int))) < 24 then (if x5_1.size + t107.size ≤ 9223372036854775807 then (spec_l72Say.l0 kj7 a1 (x5_1 ++ t107) (wrap64 (x6_1 - 1)) s0_0 t110) else (none)) else (spec_l72Say.l0 kj7 a1 x5_1 (wrap64 (x6_1 - 1)) s0_0 t110))) else (if (wrap64 ((x5_1.size : Int) + (t107.size : Int))) < 24 then (if x5_1.size + t107.size ≤ 9223372036854775807 then (spec_l72Say.l0 kj7 a1 (x5_1 ++ t107) (wrap64 (x6_1 - 1)) s0_0 t110) else (none)) else (spec_l72Say.l0 kj7 a1 x5_1 (wrap64 (x6_1 - 1)) s0_0 t110)))) = some (r1, r2) := by rw [if_neg (show ¬ (false = true) by decide)] at H; exact H
              clear H
              have H := H1
              clear H1
              by_cases c29 : t109 = 2
              · rw [if_pos c29] at H
                have c29b0 : (t109 == 2) = true := beq_iff_eq.mpr c29
                have c29b1 : (t109 != 2) = false := bne_eq_false_iff_eq.mpr c29
                clear c29
                replace H := Option.bind_eq_some_iff.mp H
                obtain ⟨⟨t116, t117⟩, A300, H⟩ := H
                replace H : ((spec_l6Rd_pick.f kj7 s0_0 t117 4).bind fun bt118 => ((spec_EndText.f (wrap64 (4 + t116)) (wrap64 (1 + bt118.1))).bind fun t120 => (if 1 + t120.size ≤ 9223372036854775807 then (if ((⟨#[64]⟩ : ByteArray) ++ t120).size + 1 ≤ 9223372036854775807 then (if (wrap64 ((x5_1.size : Int) + ((((⟨#[64]⟩ : ByteArray) ++ t120) ++ (⟨#[59]⟩ : ByteArray)).size : Int))) < 24 then (if x5_1.size + (((⟨#[64]⟩ : ByteArray) ++ t120) ++ (⟨#[59]⟩ : ByteArray)).size ≤ 9223372036854775807 then (spec_l72Say.l0 kj7 a1 (x5_1 ++ (((⟨#[64]⟩ : ByteArray) ++ t120) ++ (⟨#[59]⟩ : ByteArray))) (wrap64 (x6_1 - 1)) s0_0 bt118.2) else (none)) else (spec_l72Say.l0 kj7 a1 x5_1 (wrap64 (x6_1 - 1)) s0_0 bt118.2)) else (none)) else (none)))) = some (r1, r2) := H
                have A30 := Aside0.mk A300
                clear A300
                replace H := Option.bind_eq_some_iff.mp H
                obtain ⟨⟨t118, t119⟩, A310, H⟩ := H
                replace H : ((spec_EndText.f (wrap64 (4 + t116)) (wrap64 (1 + t118))).bind fun t120 => (if 1 + t120.size ≤ 9223372036854775807 then (if ((⟨#[64]⟩ : ByteArray) ++ t120).size + 1 ≤ 9223372036854775807 then (if (wrap64 ((x5_1.size : Int) + ((((⟨#[64]⟩ : ByteArray) ++ t120) ++ (⟨#[59]⟩ : ByteArray)).size : Int))) < 24 then (if x5_1.size + (((⟨#[64]⟩ : ByteArray) ++ t120) ++ (⟨#[59]⟩ : ByteArray)).size ≤ 9223372036854775807 then (spec_l72Say.l0 kj7 a1 (x5_1 ++ (((⟨#[64]⟩ : ByteArray) ++ t120) ++ (⟨#[59]⟩ : ByteArray))) (wrap64 (x6_1 - 1)) s0_0 t119) else (none)) else (spec_l72Say.l0 kj7 a1 x5_1 (wrap64 (x6_1 - 1)) s0_0 t119)) else (none)) else (none))) = some (r1, r2) := H
                have A31 := Aside0.mk A310
                clear A310
                replace H := Option.bind_eq_some_iff.mp H
                obtain ⟨t120, A320, H⟩ := H
                replace H : (if 1 + t120.size ≤ 9223372036854775807 then (if ((⟨#[64]⟩ : ByteArray) ++ t120).size + 1 ≤ 9223372036854775807 then (if (wrap64 ((x5_1.size : Int) + ((((⟨#[64]⟩ : ByteArray) ++ t120) ++ (⟨#[59]⟩ : ByteArray)).size : Int))) < 24 then (if x5_1.size + (((⟨#[64]⟩ : ByteArray) ++ t120) ++ (⟨#[59]⟩ : ByteArray)).size ≤ 9223372036854775807 then (spec_l72Say.l0 kj7 a1 (x5_1 ++ (((⟨#[64]⟩ : ByteArray) ++ t120) ++ (⟨#[59]⟩ : ByteArray))) (wrap64 (x6_1 - 1)) s0_0 t119) else (none)) else (spec_l72Say.l0 kj7 a1 x5_1 (wrap64 (x6_1 - 1)) s0_0 t119)) else (none)) else (none)) = some (r1, r2) := H
                have A32 := Aside0.mk A320
                clear A320
                by_cases c33 : 1 + t120.size ≤ 9223372036854775807
                · rw [if_pos c33] at H
                  have c33b0 := eq_true c33
                  have c33b1 : decide (1 + t120.size ≤ 9223372036854775807) = true := decide_eq_true c33
                  try have c33b2 : (9223372036854775807 < 1 + t120.size) = False := eq_false (Nat.not_lt.2 c33)
                  by_cases c34 : ((⟨#[64]⟩ : ByteArray) ++ t120).size + 1 ≤ 9223372036854775807
                  · rw [if_pos c34] at H
                    have c34b0 := eq_true c34
                    have c34b1 : decide (((⟨#[64]⟩ : ByteArray) ++ t120).size + 1 ≤ 9223372036854775807) = true := decide_eq_true c34
                    try (have c34z := c34; simp only [ByteArray.size_append, ByteArray.size_extract, Nat.min_self, Int.natCast_add] at c34z; have c34b3 := eq_true c34z; clear c34z)
                    try have c34b2 : (9223372036854775807 < ((⟨#[64]⟩ : ByteArray) ++ t120).size + 1) = False := eq_false (Nat.not_lt.2 c34)
                    try have c34b3 : (9223372036854775807 < 1 + t120.size + 1) = False := eq_false (Nat.not_lt.2 (by have h_ := c34; simp only [ByteArray.size_append] at h_; exact h_))
                    by_cases c35 : (wrap64 ((x5_1.size : Int) + ((((⟨#[64]⟩ : ByteArray) ++ t120) ++ (⟨#[59]⟩ : ByteArray)).size : Int))) < 24
                    · rw [if_pos c35] at H
                      have c35b0 : decide ((wrap64 ((x5_1.size : Int) + ((((⟨#[64]⟩ : ByteArray) ++ t120) ++ (⟨#[59]⟩ : ByteArray)).size : Int))) < 24) = true := decide_eq_true c35
                      try have c35b0z : decide ((wrap64 ((x5_1.size : Int) + (1 + (t120.size : Int) + 1))) < 24) = true := by rw [show (1 + (t120.size : Int) + 1) = ((((⟨#[64]⟩ : ByteArray) ++ t120) ++ (⟨#[59]⟩ : ByteArray)).size : Int) from by simp only [ByteArray.size_append, Int.natCast_add]; rfl]; exact c35b0
                      clear c35
                      by_cases c36 : x5_1.size + (((⟨#[64]⟩ : ByteArray) ++ t120) ++ (⟨#[59]⟩ : ByteArray)).size ≤ 9223372036854775807
                      · rw [if_pos c36] at H
                        have c36b0 := eq_true c36
                        have c36b1 : decide (x5_1.size + (((⟨#[64]⟩ : ByteArray) ++ t120) ++ (⟨#[59]⟩ : ByteArray)).size ≤ 9223372036854775807) = true := decide_eq_true c36
                        try (have c36z := c36; simp only [ByteArray.size_append, ByteArray.size_extract, Nat.min_self, Int.natCast_add] at c36z; have c36b3 := eq_true c36z; clear c36z)
                        try have c36b2 : (9223372036854775807 < x5_1.size + (((⟨#[64]⟩ : ByteArray) ++ t120) ++ (⟨#[59]⟩ : ByteArray)).size) = False := eq_false (Nat.not_lt.2 c36)
                        try have c36b3 : (9223372036854775807 < x5_1.size + (1 + t120.size + 1)) = False := eq_false (Nat.not_lt.2 (by have h_ := c36; simp only [ByteArray.size_append] at h_; exact h_))
                        have H' := Aside0.mk H
                        clear H
                        go_wp2_with (first | ((with_reducible refine gate_callee (f := 43) rfl ?_); refine goesL_ (some 36) rfl rfl Tryz.func43 (by kernel_rfl) rfl #[.pointer (some ⟨g, 0, none⟩), .int .i64 3] rfl (by (try simp only [List.map_toArray, List.map_cons, List.map_nil]); first | done | rfl | (simp only [List.length_drop, List.length_take]; rfl)) ?_; (with_reducible refine (spec_l6Rd_pick.calls kj7 g s0_0 t110 3 t116 t117 w0 _ ?side1 ?side2 A30.out).mono ?_); (case side1 => repeat (first | (with_reducible first | exact HI0.out | apply IsS91.alloc | apply IsS91.drewN | apply IsS91.drew | apply IsS91.set_1) | exact HI0.out)); (case side2 => repeat (first | (with_reducible first | exact HB.out | apply below_alloc | apply pw_below_drewN | apply below_drew1 | refine below_set ?_ (IsS91.ge HI0.out)) | exact HB.out)); rintro e w37 ⟨rfl, hi, hb, hk⟩; refine ⟨_, rfl, ?_⟩; have n0_ := Aside0.mk (KeepBut.trans (by repeat (first | (with_reducible first | exact HK.out | apply KeepBut.set_ | apply keep_drewN | apply keep_drew | apply keep_alloc) | exact HK.out)) hk (.inl rfl)); have n1_ := Aside0.mk (hb); have n2_ := Aside0.mk (hi); clear HK; clear HB; clear HI0; have HK := n0_; have HB := n1_; have HI0 := n2_; clear n0_ n1_ n2_; (try clear hb); (try clear hb2); (try clear hk); (try clear hi)) | ((with_reducible refine gate_callee (f := 43) rfl ?_); refine goesL_ (some 39) rfl rfl Tryz.func43 (by kernel_rfl) rfl #[.pointer (some ⟨g, 0, none⟩), .int .i64 4] rfl (by (try simp only [List.map_toArray, List.map_cons, List.map_nil]); first | done | rfl | (simp only [List.length_drop, List.length_take]; rfl)) ?_; (with_reducible refine (spec_l6Rd_pick.calls kj7 g s0_0 t117 4 t118 t119 w0 _ ?side1 ?side2 A31.out).mono ?_); (case side1 => repeat (first | (with_reducible first | exact HI0.out | apply IsS91.alloc | apply IsS91.drewN | apply IsS91.drew | apply IsS91.set_1) | exact HI0.out)); (case side2 => repeat (first | (with_reducible first | exact HB.out | apply below_alloc | apply pw_below_drewN | apply below_drew1 | refine below_set ?_ (IsS91.ge HI0.out)) | exact HB.out)); rintro e w38 ⟨rfl, hi, hb, hk⟩; refine ⟨_, rfl, ?_⟩; have n0_ := Aside0.mk (KeepBut.trans (by repeat (first | (with_reducible first | exact HK.out | apply KeepBut.set_ | apply keep_drewN | apply keep_drew | apply keep_alloc) | exact HK.out)) hk (.inl rfl)); have n1_ := Aside0.mk (hb); have n2_ := Aside0.mk (hi); clear HK; clear HB; clear HI0; have HK := n0_; have HB := n1_; have HI0 := n2_; clear n0_ n1_ n2_; (try clear hb); (try clear hb2); (try clear hk); (try clear hi)) | ((with_reducible refine gate_callee (f := 85) rfl ?_); refine goesL_ (some 42) rfl rfl Tryz.func85 (by kernel_rfl) rfl #[.agg #[.int .i64 (wrap64 (4 + t116)), .int .i64 (wrap64 (1 + t118))]] rfl (by (try simp only [List.map_toArray, List.map_cons, List.map_nil]); first | done | rfl | (simp only [List.length_drop, List.length_take]; rfl)) ?_; (with_reducible refine (spec_EndText.calls (wrap64 (4 + t116)) (wrap64 (1 + t118)) t120 _ A32.out).mono ?_); rintro e w39 ⟨rfl, hb⟩; refine ⟨_, rfl, ?_⟩; have n0_ := Aside0.mk (IsS91.below (by repeat (first | (with_reducible first | exact HI0.out | apply IsS91.alloc | apply IsS91.drewN | apply IsS91.drew | apply IsS91.set_1) | exact HI0.out)) hb); have n1_ := Aside0.mk (KeepBut.trans (by repeat (first | (with_reducible first | exact HK.out | apply KeepBut.set_ | apply keep_drewN | apply keep_drew | apply keep_alloc) | exact HK.out)) (KeepBut.of_below hb g none) (.inl rfl)); have n2_ := Aside0.mk (below_step (by repeat (first | (with_reducible first | exact HB.out | apply below_alloc | apply pw_below_drewN | apply below_drew1 | refine below_set ?_ (IsS91.ge HI0.out)) | exact HB.out)) hb); clear HI0; clear HK; clear HB; have HI0 := n0_; have HK := n1_; have HB := n2_; clear n0_ n1_ n2_; (try clear hb); (try clear hb2); (try clear hk); (try clear hi)))
                        go_roundg kj7
                        case measure => have := HK1.out; have := HJ7.out; omega
                        case rel => exact ⟨(x5_1 ++ (((⟨#[64]⟩ : ByteArray) ++ t120) ++ (⟨#[59]⟩ : ByteArray))), (wrap64 (x6_1 - 1)), (t119), (by first | rfl | (simp; done) | (simp [*]; done)), (by first | rfl | (simp; done) | (simp [*]; done)), H', ⟨by have := HK1.out; have := HJ7.out; omega⟩, ⟨by repeat (first | (with_reducible first | exact HI0.out | apply IsS91.alloc | apply IsS91.drewN | apply IsS91.drew | apply IsS91.set_1) | exact HI0.out)⟩, ⟨by repeat (first | (with_reducible first | exact HK.out | apply KeepBut.set_ | apply keep_drewN | apply keep_drew | apply keep_alloc) | exact HK.out)⟩, ⟨by repeat (first | (with_reducible first | exact HB.out | apply below_alloc | apply pw_below_drewN | apply below_drew1 | refine below_set ?_ (IsS91.ge HI0.out)) | exact HB.out)⟩⟩
                      · rw [if_neg c36] at H
                        exact absurd H (by simp)
                    · rw [if_neg c35] at H
                      have c35b0 : decide ((wrap64 ((x5_1.size : Int) + ((((⟨#[64]⟩ : ByteArray) ++ t120) ++ (⟨#[59]⟩ : ByteArray)).size : Int))) < 24) = false := decide_eq_false c35
                      try have c35b0z : decide ((wrap64 ((x5_1.size : Int) + (1 + (t120.size : Int) + 1))) < 24) = false := by rw [show (1 + (t120.size : Int) + 1) = ((((⟨#[64]⟩ : ByteArray) ++ t120) ++ (⟨#[59]⟩ : ByteArray)).size : Int) from by simp only [ByteArray.size_append, Int.natCast_add]; rfl]; exact c35b0
                      clear c35
                      have H' := Aside0.mk H
                      clear H
                      go_wp2_with (first | ((with_reducible refine gate_callee (f := 43) rfl ?_); refine goesL_ (some 36) rfl rfl Tryz.func43 (by kernel_rfl) rfl #[.pointer (some ⟨g, 0, none⟩), .int .i64 3] rfl (by (try simp only [List.map_toArray, List.map_cons, List.map_nil]); first | done | rfl | (simp only [List.length_drop, List.length_take]; rfl)) ?_; (with_reducible refine (spec_l6Rd_pick.calls kj7 g s0_0 t110 3 t116 t117 w0 _ ?side1 ?side2 A30.out).mono ?_); (case side1 => repeat (first | (with_reducible first | exact HI0.out | apply IsS91.alloc | apply IsS91.drewN | apply IsS91.drew | apply IsS91.set_1) | exact HI0.out)); (case side2 => repeat (first | (with_reducible first | exact HB.out | apply below_alloc | apply pw_below_drewN | apply below_drew1 | refine below_set ?_ (IsS91.ge HI0.out)) | exact HB.out)); rintro e w40 ⟨rfl, hi, hb, hk⟩; refine ⟨_, rfl, ?_⟩; have n0_ := Aside0.mk (KeepBut.trans (by repeat (first | (with_reducible first | exact HK.out | apply KeepBut.set_ | apply keep_drewN | apply keep_drew | apply keep_alloc) | exact HK.out)) hk (.inl rfl)); have n1_ := Aside0.mk (hb); have n2_ := Aside0.mk (hi); clear HK; clear HB; clear HI0; have HK := n0_; have HB := n1_; have HI0 := n2_; clear n0_ n1_ n2_; (try clear hb); (try clear hb2); (try clear hk); (try clear hi)) | ((with_reducible refine gate_callee (f := 43) rfl ?_); refine goesL_ (some 39) rfl rfl Tryz.func43 (by kernel_rfl) rfl #[.pointer (some ⟨g, 0, none⟩), .int .i64 4] rfl (by (try simp only [List.map_toArray, List.map_cons, List.map_nil]); first | done | rfl | (simp only [List.length_drop, List.length_take]; rfl)) ?_; (with_reducible refine (spec_l6Rd_pick.calls kj7 g s0_0 t117 4 t118 t119 w0 _ ?side1 ?side2 A31.out).mono ?_); (case side1 => repeat (first | (with_reducible first | exact HI0.out | apply IsS91.alloc | apply IsS91.drewN | apply IsS91.drew | apply IsS91.set_1) | exact HI0.out)); (case side2 => repeat (first | (with_reducible first | exact HB.out | apply below_alloc | apply pw_below_drewN | apply below_drew1 | refine below_set ?_ (IsS91.ge HI0.out)) | exact HB.out)); rintro e w41 ⟨rfl, hi, hb, hk⟩; refine ⟨_, rfl, ?_⟩; have n0_ := Aside0.mk (KeepBut.trans (by repeat (first | (with_reducible first | exact HK.out | apply KeepBut.set_ | apply keep_drewN | apply keep_drew | apply keep_alloc) | exact HK.out)) hk (.inl rfl)); have n1_ := Aside0.mk (hb); have n2_ := Aside0.mk (hi); clear HK; clear HB; clear HI0; have HK := n0_; have HB := n1_; have HI0 := n2_; clear n0_ n1_ n2_; (try clear hb); (try clear hb2); (try clear hk); (try clear hi)) | ((with_reducible refine gate_callee (f := 85) rfl ?_); refine goesL_ (some 42) rfl rfl Tryz.func85 (by kernel_rfl) rfl #[.agg #[.int .i64 (wrap64 (4 + t116)), .int .i64 (wrap64 (1 + t118))]] rfl (by (try simp only [List.map_toArray, List.map_cons, List.map_nil]); first | done | rfl | (simp only [List.length_drop, List.length_take]; rfl)) ?_; (with_reducible refine (spec_EndText.calls (wrap64 (4 + t116)) (wrap64 (1 + t118)) t120 _ A32.out).mono ?_); rintro e w42 ⟨rfl, hb⟩; refine ⟨_, rfl, ?_⟩; have n0_ := Aside0.mk (IsS91.below (by repeat (first | (with_reducible first | exact HI0.out | apply IsS91.alloc | apply IsS91.drewN | apply IsS91.drew | apply IsS91.set_1) | exact HI0.out)) hb); have n1_ := Aside0.mk (KeepBut.trans (by repeat (first | (with_reducible first | exact HK.out | apply KeepBut.set_ | apply keep_drewN | apply keep_drew | apply keep_alloc) | exact HK.out)) (KeepBut.of_below hb g none) (.inl rfl)); have n2_ := Aside0.mk (below_step (by repeat (first | (with_reducible first | exact HB.out | apply below_alloc | apply pw_below_drewN | apply below_drew1 | refine below_set ?_ (IsS91.ge HI0.out)) | exact HB.out)) hb); clear HI0; clear HK; clear HB; have HI0 := n0_; have HK := n1_; have HB := n2_; clear n0_ n1_ n2_; (try clear hb); (try clear hb2); (try clear hk); (try clear hi)))
                      go_roundg kj7
                      case measure => have := HK1.out; have := HJ7.out; omega
                      case rel => exact ⟨(x5_1), (wrap64 (x6_1 - 1)), (t119), (by first | rfl | (simp; done) | (simp [*]; done)), (by first | rfl | (simp; done) | (simp [*]; done)), H', ⟨by have := HK1.out; have := HJ7.out; omega⟩, ⟨by repeat (first | (with_reducible first | exact HI0.out | apply IsS91.alloc | apply IsS91.drewN | apply IsS91.drew | apply IsS91.set_1) | exact HI0.out)⟩, ⟨by repeat (first | (with_reducible first | exact HK.out | apply KeepBut.set_ | apply keep_drewN | apply keep_drew | apply keep_alloc) | exact HK.out)⟩, ⟨by repeat (first | (with_reducible first | exact HB.out | apply below_alloc | apply pw_below_drewN | apply below_drew1 | refine below_set ?_ (IsS91.ge HI0.out)) | exact HB.out)⟩⟩
                  · rw [if_neg c34] at H
                    exact absurd H (by simp)
                · rw [if_neg c33] at H
                  exact absurd H (by simp)
              · rw [if_neg c29] at H
                have c29b0 : (t109 == 2) = false := beq_eq_false_iff_ne.mpr c29
                have c29b1 : (t109 != 2) = true := bne_iff_ne.mpr c29
                by_cases c43 : t109 = 3
                · rw [if_pos c43] at H
                  have c43b0 : (t109 == 3) = true := beq_iff_eq.mpr c43
                  have c43b1 : (t109 != 3) = false := bne_eq_false_iff_eq.mpr c43
                  clear c43
                  by_cases c44 : a1 = true
                  · subst c44
                    have H1 : ((spec_l6Rd_pick.f kj7 s0_0 t110 4).bind fun bt121 => ((spec_EndText.f 9 (wrap64 (10 + bt121.1))).bind fun t123 => (if 1 + t123.size ≤ 9223372036854775807 then (if ((⟨#[64]⟩ : ByteArray) ++ t123).size + 1 ≤ 9223372036854775807 then (if (wrap64 ((x5_1.size : Int) + ((((⟨#[64]⟩ : ByteArray) ++ t123) ++ (⟨#[59]⟩ : ByteArray)).size : Int))) < 24 then (if x5_1.size + (((⟨#[64]⟩ : ByteArray) ++ t123) ++ (⟨#[59]⟩ : ByteArray)).size ≤ 9223372036854775807 then (spec_l72Say.l0 kj7 true (x5_1 ++ (((⟨#[64]⟩ : ByteArray) ++ t123) ++ (⟨#[59]⟩ : ByteArray))) (wrap64 (x6_1 - 1)) s0_0 bt121.2) else (none)) else (spec_l72Say.l0 kj7 true x5_1 (wrap64 (x6_1 - 1)) s0_0 bt121.2)) else (none)) else (none)))) = some (r1, r2) := by rw [if_pos rfl] at H; exact H
                    clear H
                    have H := H1
                    clear H1
                    replace H := Option.bind_eq_some_iff.mp H
                    obtain ⟨⟨t121, t122⟩, A450, H⟩ := H
                    replace H : ((spec_EndText.f 9 (wrap64 (10 + t121))).bind fun t123 => (if 1 + t123.size ≤ 9223372036854775807 then (if ((⟨#[64]⟩ : ByteArray) ++ t123).size + 1 ≤ 9223372036854775807 then (if (wrap64 ((x5_1.size : Int) + ((((⟨#[64]⟩ : ByteArray) ++ t123) ++ (⟨#[59]⟩ : ByteArray)).size : Int))) < 24 then (if x5_1.size + (((⟨#[64]⟩ : ByteArray) ++ t123) ++ (⟨#[59]⟩ : ByteArray)).size ≤ 9223372036854775807 then (spec_l72Say.l0 kj7 true (x5_1 ++ (((⟨#[64]⟩ : ByteArray) ++ t123) ++ (⟨#[59]⟩ : ByteArray))) (wrap64 (x6_1 - 1)) s0_0 t122) else (none)) else (spec_l72Say.l0 kj7 true x5_1 (wrap64 (x6_1 - 1)) s0_0 t122)) else (none)) else (none))) = some (r1, r2) := H
                    have A45 := Aside0.mk A450
                    clear A450
                    replace H := Option.bind_eq_some_iff.mp H
                    obtain ⟨t123, A460, H⟩ := H
                    replace H : (if 1 + t123.size ≤ 9223372036854775807 then (if ((⟨#[64]⟩ : ByteArray) ++ t123).size + 1 ≤ 9223372036854775807 then (if (wrap64 ((x5_1.size : Int) + ((((⟨#[64]⟩ : ByteArray) ++ t123) ++ (⟨#[59]⟩ : ByteArray)).size : Int))) < 24 then (if x5_1.size + (((⟨#[64]⟩ : ByteArray) ++ t123) ++ (⟨#[59]⟩ : ByteArray)).size ≤ 9223372036854775807 then (spec_l72Say.l0 kj7 true (x5_1 ++ (((⟨#[64]⟩ : ByteArray) ++ t123) ++ (⟨#[59]⟩ : ByteArray))) (wrap64 (x6_1 - 1)) s0_0 t122) else (none)) else (spec_l72Say.l0 kj7 true x5_1 (wrap64 (x6_1 - 1)) s0_0 t122)) else (none)) else (none)) = some (r1, r2) := H
                    have A46 := Aside0.mk A460
                    clear A460
                    by_cases c47 : 1 + t123.size ≤ 9223372036854775807
                    · rw [if_pos c47] at H
                      have c47b0 := eq_true c47
                      have c47b1 : decide (1 + t123.size ≤ 9223372036854775807) = true := decide_eq_true c47
                      try have c47b2 : (9223372036854775807 < 1 + t123.size) = False := eq_false (Nat.not_lt.2 c47)
                      by_cases c48 : ((⟨#[64]⟩ : ByteArray) ++ t123).size + 1 ≤ 9223372036854775807
                      · rw [if_pos c48] at H
                        have c48b0 := eq_true c48
                        have c48b1 : decide (((⟨#[64]⟩ : ByteArray) ++ t123).size + 1 ≤ 9223372036854775807) = true := decide_eq_true c48
                        try (have c48z := c48; simp only [ByteArray.size_append, ByteArray.size_extract, Nat.min_self, Int.natCast_add] at c48z; have c48b3 := eq_true c48z; clear c48z)
                        try have c48b2 : (9223372036854775807 < ((⟨#[64]⟩ : ByteArray) ++ t123).size + 1) = False := eq_false (Nat.not_lt.2 c48)
                        try have c48b3 : (9223372036854775807 < 1 + t123.size + 1) = False := eq_false (Nat.not_lt.2 (by have h_ := c48; simp only [ByteArray.size_append] at h_; exact h_))
                        by_cases c49 : (wrap64 ((x5_1.size : Int) + ((((⟨#[64]⟩ : ByteArray) ++ t123) ++ (⟨#[59]⟩ : ByteArray)).size : Int))) < 24
                        · rw [if_pos c49] at H
                          have c49b0 : decide ((wrap64 ((x5_1.size : Int) + ((((⟨#[64]⟩ : ByteArray) ++ t123) ++ (⟨#[59]⟩ : ByteArray)).size : Int))) < 24) = true := decide_eq_true c49
                          try have c49b0z : decide ((wrap64 ((x5_1.size : Int) + (1 + (t123.size : Int) + 1))) < 24) = true := by rw [show (1 + (t123.size : Int) + 1) = ((((⟨#[64]⟩ : ByteArray) ++ t123) ++ (⟨#[59]⟩ : ByteArray)).size : Int) from by simp only [ByteArray.size_append, Int.natCast_add]; rfl]; exact c49b0
                          clear c49
                          by_cases c50 : x5_1.size + (((⟨#[64]⟩ : ByteArray) ++ t123) ++ (⟨#[59]⟩ : ByteArray)).size ≤ 9223372036854775807
                          · rw [if_pos c50] at H
                            have c50b0 := eq_true c50
                            have c50b1 : decide (x5_1.size + (((⟨#[64]⟩ : ByteArray) ++ t123) ++ (⟨#[59]⟩ : ByteArray)).size ≤ 9223372036854775807) = true := decide_eq_true c50
                            try (have c50z := c50; simp only [ByteArray.size_append, ByteArray.size_extract, Nat.min_self, Int.natCast_add] at c50z; have c50b3 := eq_true c50z; clear c50z)
                            try have c50b2 : (9223372036854775807 < x5_1.size + (((⟨#[64]⟩ : ByteArray) ++ t123) ++ (⟨#[59]⟩ : ByteArray)).size) = False := eq_false (Nat.not_lt.2 c50)
                            try have c50b3 : (9223372036854775807 < x5_1.size + (1 + t123.size + 1)) = False := eq_false (Nat.not_lt.2 (by have h_ := c50; simp only [ByteArray.size_append] at h_; exact h_))
                            have H' := Aside0.mk H
                            clear H
                            go_wp2_with (first | ((with_reducible refine gate_callee (f := 43) rfl ?_); refine goesL_ (some 49) rfl rfl Tryz.func43 (by kernel_rfl) rfl #[.pointer (some ⟨g, 0, none⟩), .int .i64 4] rfl (by (try simp only [List.map_toArray, List.map_cons, List.map_nil]); first | done | rfl | (simp only [List.length_drop, List.length_take]; rfl)) ?_; (with_reducible refine (spec_l6Rd_pick.calls kj7 g s0_0 t110 4 t121 t122 w0 _ ?side1 ?side2 A45.out).mono ?_); (case side1 => repeat (first | (with_reducible first | exact HI0.out | apply IsS91.alloc | apply IsS91.drewN | apply IsS91.drew | apply IsS91.set_1) | exact HI0.out)); (case side2 => repeat (first | (with_reducible first | exact HB.out | apply below_alloc | apply pw_below_drewN | apply below_drew1 | refine below_set ?_ (IsS91.ge HI0.out)) | exact HB.out)); rintro e w51 ⟨rfl, hi, hb, hk⟩; refine ⟨_, rfl, ?_⟩; have n0_ := Aside0.mk (KeepBut.trans (by repeat (first | (with_reducible first | exact HK.out | apply KeepBut.set_ | apply keep_drewN | apply keep_drew | apply keep_alloc) | exact HK.out)) hk (.inl rfl)); have n1_ := Aside0.mk (hb); have n2_ := Aside0.mk (hi); clear HK; clear HB; clear HI0; have HK := n0_; have HB := n1_; have HI0 := n2_; clear n0_ n1_ n2_; (try clear hb); (try clear hb2); (try clear hk); (try clear hi)) | ((with_reducible refine gate_callee (f := 85) rfl ?_); refine goesL_ (some 52) rfl rfl Tryz.func85 (by kernel_rfl) rfl #[.agg #[.int .i64 9, .int .i64 (wrap64 (10 + t121))]] rfl (by (try simp only [List.map_toArray, List.map_cons, List.map_nil]); first | done | rfl | (simp only [List.length_drop, List.length_take]; rfl)) ?_; (with_reducible refine (spec_EndText.calls 9 (wrap64 (10 + t121)) t123 _ A46.out).mono ?_); rintro e w52 ⟨rfl, hb⟩; refine ⟨_, rfl, ?_⟩; have n0_ := Aside0.mk (IsS91.below (by repeat (first | (with_reducible first | exact HI0.out | apply IsS91.alloc | apply IsS91.drewN | apply IsS91.drew | apply IsS91.set_1) | exact HI0.out)) hb); have n1_ := Aside0.mk (KeepBut.trans (by repeat (first | (with_reducible first | exact HK.out | apply KeepBut.set_ | apply keep_drewN | apply keep_drew | apply keep_alloc) | exact HK.out)) (KeepBut.of_below hb g none) (.inl rfl)); have n2_ := Aside0.mk (below_step (by repeat (first | (with_reducible first | exact HB.out | apply below_alloc | apply pw_below_drewN | apply below_drew1 | refine below_set ?_ (IsS91.ge HI0.out)) | exact HB.out)) hb); clear HI0; clear HK; clear HB; have HI0 := n0_; have HK := n1_; have HB := n2_; clear n0_ n1_ n2_; (try clear hb); (try clear hb2); (try clear hk); (try clear hi)))
                            go_roundg kj7
                            case measure => have := HK1.out; have := HJ7.out; omega
                            case rel => exact ⟨(x5_1 ++ (((⟨#[64]⟩ : ByteArray) ++ t123) ++ (⟨#[59]⟩ : ByteArray))), (wrap64 (x6_1 - 1)), (t122), (by first | rfl | (simp; done) | (simp [*]; done)), (by first | rfl | (simp; done) | (simp [*]; done)), H', ⟨by have := HK1.out; have := HJ7.out; omega⟩, ⟨by repeat (first | (with_reducible first | exact HI0.out | apply IsS91.alloc | apply IsS91.drewN | apply IsS91.drew | apply IsS91.set_1) | exact HI0.out)⟩, ⟨by repeat (first | (with_reducible first | exact HK.out | apply KeepBut.set_ | apply keep_drewN | apply keep_drew | apply keep_alloc) | exact HK.out)⟩, ⟨by repeat (first | (with_reducible first | exact HB.out | apply below_alloc | apply pw_below_drewN | apply below_drew1 | refine below_set ?_ (IsS91.ge HI0.out)) | exact HB.out)⟩⟩
                          · rw [if_neg c50] at H
                            exact absurd H (by simp)
                        · rw [if_neg c49] at H
                          have c49b0 : decide ((wrap64 ((x5_1.size : Int) + ((((⟨#[64]⟩ : ByteArray) ++ t123) ++ (⟨#[59]⟩ : ByteArray)).size : Int))) < 24) = false := decide_eq_false c49
                          try have c49b0z : decide ((wrap64 ((x5_1.size : Int) + (1 + (t123.size : Int) + 1))) < 24) = false := by rw [show (1 + (t123.size : Int) + 1) = ((((⟨#[64]⟩ : ByteArray) ++ t123) ++ (⟨#[59]⟩ : ByteArray)).size : Int) from by simp only [ByteArray.size_append, Int.natCast_add]; rfl]; exact c49b0
                          clear c49
                          have H' := Aside0.mk H
                          clear H
                          go_wp2_with (first | ((with_reducible refine gate_callee (f := 43) rfl ?_); refine goesL_ (some 49) rfl rfl Tryz.func43 (by kernel_rfl) rfl #[.pointer (some ⟨g, 0, none⟩), .int .i64 4] rfl (by (try simp only [List.map_toArray, List.map_cons, List.map_nil]); first | done | rfl | (simp only [List.length_drop, List.length_take]; rfl)) ?_; (with_reducible refine (spec_l6Rd_pick.calls kj7 g s0_0 t110 4 t121 t122 w0 _ ?side1 ?side2 A45.out).mono ?_); (case side1 => repeat (first | (with_reducible first | exact HI0.out | apply IsS91.alloc | apply IsS91.drewN | apply IsS91.drew | apply IsS91.set_1) | exact HI0.out)); (case side2 => repeat (first | (with_reducible first | exact HB.out | apply below_alloc | apply pw_below_drewN | apply below_drew1 | refine below_set ?_ (IsS91.ge HI0.out)) | exact HB.out)); rintro e w53 ⟨rfl, hi, hb, hk⟩; refine ⟨_, rfl, ?_⟩; have n0_ := Aside0.mk (KeepBut.trans (by repeat (first | (with_reducible first | exact HK.out | apply KeepBut.set_ | apply keep_drewN | apply keep_drew | apply keep_alloc) | exact HK.out)) hk (.inl rfl)); have n1_ := Aside0.mk (hb); have n2_ := Aside0.mk (hi); clear HK; clear HB; clear HI0; have HK := n0_; have HB := n1_; have HI0 := n2_; clear n0_ n1_ n2_; (try clear hb); (try clear hb2); (try clear hk); (try clear hi)) | ((with_reducible refine gate_callee (f := 85) rfl ?_); refine goesL_ (some 52) rfl rfl Tryz.func85 (by kernel_rfl) rfl #[.agg #[.int .i64 9, .int .i64 (wrap64 (10 + t121))]] rfl (by (try simp only [List.map_toArray, List.map_cons, List.map_nil]); first | done | rfl | (simp only [List.length_drop, List.length_take]; rfl)) ?_; (with_reducible refine (spec_EndText.calls 9 (wrap64 (10 + t121)) t123 _ A46.out).mono ?_); rintro e w54 ⟨rfl, hb⟩; refine ⟨_, rfl, ?_⟩; have n0_ := Aside0.mk (IsS91.below (by repeat (first | (with_reducible first | exact HI0.out | apply IsS91.alloc | apply IsS91.drewN | apply IsS91.drew | apply IsS91.set_1) | exact HI0.out)) hb); have n1_ := Aside0.mk (KeepBut.trans (by repeat (first | (with_reducible first | exact HK.out | apply KeepBut.set_ | apply keep_drewN | apply keep_drew | apply keep_alloc) | exact HK.out)) (KeepBut.of_below hb g none) (.inl rfl)); have n2_ := Aside0.mk (below_step (by repeat (first | (with_reducible first | exact HB.out | apply below_alloc | apply pw_below_drewN | apply below_drew1 | refine below_set ?_ (IsS91.ge HI0.out)) | exact HB.out)) hb); clear HI0; clear HK; clear HB; have HI0 := n0_; have HK := n1_; have HB := n2_; clear n0_ n1_ n2_; (try clear hb); (try clear hb2); (try clear hk); (try clear hi)))
                          go_roundg kj7
                          case measure => have := HK1.out; have := HJ7.out; omega
                          case rel => exact ⟨(x5_1), (wrap64 (x6_1 - 1)), (t122), (by first | rfl | (simp; done) | (simp [*]; done)), (by first | rfl | (simp; done) | (simp [*]; done)), H', ⟨by have := HK1.out; have := HJ7.out; omega⟩, ⟨by repeat (first | (with_reducible first | exact HI0.out | apply IsS91.alloc | apply IsS91.drewN | apply IsS91.drew | apply IsS91.set_1) | exact HI0.out)⟩, ⟨by repeat (first | (with_reducible first | exact HK.out | apply KeepBut.set_ | apply keep_drewN | apply keep_drew | apply keep_alloc) | exact HK.out)⟩, ⟨by repeat (first | (with_reducible first | exact HB.out | apply below_alloc | apply pw_below_drewN | apply below_drew1 | refine below_set ?_ (IsS91.ge HI0.out)) | exact HB.out)⟩⟩
                      · rw [if_neg c48] at H
                        exact absurd H (by simp)
                    · rw [if_neg c47] at H
                      exact absurd H (by simp)
                  · replace c44 := Bool.eq_false_iff.mpr c44
                    subst c44
                    have H1 : (if (wrap64 ((x5_1.size : Int) + (t107.size : Int))) < 24 then (if x5_1.size + t107.size ≤ 9223372036854775807 then (spec_l72Say.l0 kj7 false (x5_1 ++ t107) (wrap64 (x6_1 - 1)) s0_0 t110) else (none)) else (spec_l72Say.l0 kj7 false x5_1 (wrap64 (x6_1 - 1)) s0_0 t110)) = some (r1, r2) := by rw [if_neg (show ¬ (false = true) by decide)] at H; exact H
                    clear H
                    have H := H1
                    clear H1
                    by_cases c55 : (wrap64 ((x5_1.size : Int) + (t107.size : Int))) < 24
                    · rw [if_pos c55] at H
                      have c55b0 : decide ((wrap64 ((x5_1.size : Int) + (t107.size : Int))) < 24) = true := decide_eq_true c55
                      clear c55
                      by_cases c56 : x5_1.size + t107.size ≤ 9223372036854775807
                      · rw [if_pos c56] at H
                        have c56b0 := eq_true c56
                        have c56b1 : decide (x5_1.size + t107.size ≤ 9223372036854775807) = true := decide_eq_true c56
                        try have c56b2 : (9223372036854775807 < x5_1.size + t107.size) = False := eq_false (Nat.not_lt.2 c56)
                        try have c55b0u : decide (((x5_1.size : Int) + (t107.size : Int)) < 24) = true := by have e_ : wrap64 ((x5_1.size : Int) + (t107.size : Int)) = (x5_1.size : Int) + (t107.size : Int) := (by unfold wrap64; omega); rw [← e_]; exact c55b0
                        have H' := Aside0.mk H
                        clear H
                        go_wp2
                        go_roundg kj7
                        case measure => have := HK1.out; have := HJ7.out; omega
                        case rel => exact ⟨(x5_1 ++ t107), (wrap64 (x6_1 - 1)), (t110), (by first | rfl | (simp; done) | (simp [*]; done)), (by first | rfl | (simp; done) | (simp [*]; done)), H', ⟨by have := HK1.out; have := HJ7.out; omega⟩, ⟨by repeat (first | (with_reducible first | exact HI0.out | apply IsS91.alloc | apply IsS91.drewN | apply IsS91.drew | apply IsS91.set_1) | exact HI0.out)⟩, ⟨by repeat (first | (with_reducible first | exact HK.out | apply KeepBut.set_ | apply keep_drewN | apply keep_drew | apply keep_alloc) | exact HK.out)⟩, ⟨by repeat (first | (with_reducible first | exact HB.out | apply below_alloc | apply pw_below_drewN | apply below_drew1 | refine below_set ?_ (IsS91.ge HI0.out)) | exact HB.out)⟩⟩
                      · rw [if_neg c56] at H
                        exact absurd H (by simp)
                    · rw [if_neg c55] at H
                      have c55b0 : decide ((wrap64 ((x5_1.size : Int) + (t107.size : Int))) < 24) = false := decide_eq_false c55
                      clear c55
                      have H' := Aside0.mk H
                      clear H
                      go_wp2
                      go_roundg kj7
                      case measure => have := HK1.out; have := HJ7.out; omega
                      case rel => exact ⟨(x5_1), (wrap64 (x6_1 - 1)), (t110), (by first | rfl | (simp; done) | (simp [*]; done)), (by first | rfl | (simp; done) | (simp [*]; done)), H', ⟨by have := HK1.out; have := HJ7.out; omega⟩, ⟨by repeat (first | (with_reducible first | exact HI0.out | apply IsS91.alloc | apply IsS91.drewN | apply IsS91.drew | apply IsS91.set_1) | exact HI0.out)⟩, ⟨by repeat (first | (with_reducible first | exact HK.out | apply KeepBut.set_ | apply keep_drewN | apply keep_drew | apply keep_alloc) | exact HK.out)⟩, ⟨by repeat (first | (with_reducible first | exact HB.out | apply below_alloc | apply pw_below_drewN | apply below_drew1 | refine below_set ?_ (IsS91.ge HI0.out)) | exact HB.out)⟩⟩
                · rw [if_neg c43] at H
                  have c43b0 : (t109 == 3) = false := beq_eq_false_iff_ne.mpr c43
                  have c43b1 : (t109 != 3) = true := bne_iff_ne.mpr c43
                  by_cases c57 : (wrap64 ((x5_1.size : Int) + (t107.size : Int))) < 24
                  · rw [if_pos c57] at H
                    have c57b0 : decide ((wrap64 ((x5_1.size : Int) + (t107.size : Int))) < 24) = true := decide_eq_true c57
                    clear c57
                    by_cases c58 : x5_1.size + t107.size ≤ 9223372036854775807
                    · rw [if_pos c58] at H
                      have c58b0 := eq_true c58
                      have c58b1 : decide (x5_1.size + t107.size ≤ 9223372036854775807) = true := decide_eq_true c58
                      try have c58b2 : (9223372036854775807 < x5_1.size + t107.size) = False := eq_false (Nat.not_lt.2 c58)
                      try have c55b0u : decide (((x5_1.size : Int) + (t107.size : Int)) < 24) = true := by have e_ : wrap64 ((x5_1.size : Int) + (t107.size : Int)) = (x5_1.size : Int) + (t107.size : Int) := (by unfold wrap64; omega); rw [← e_]; exact c55b0
                      try have c55b0u : decide (((x5_1.size : Int) + (t107.size : Int)) < 24) = false := by have e_ : wrap64 ((x5_1.size : Int) + (t107.size : Int)) = (x5_1.size : Int) + (t107.size : Int) := (by unfold wrap64; omega); rw [← e_]; exact c55b0
                      try have c57b0u : decide (((x5_1.size : Int) + (t107.size : Int)) < 24) = true := by have e_ : wrap64 ((x5_1.size : Int) + (t107.size : Int)) = (x5_1.size : Int) + (t107.size : Int) := (by unfold wrap64; omega); rw [← e_]; exact c57b0
                      have H' := Aside0.mk H
                      clear H
                      go_wp2
                      go_roundg kj7
                      case measure => have := HK1.out; have := HJ7.out; omega
                      case rel => exact ⟨(x5_1 ++ t107), (wrap64 (x6_1 - 1)), (t110), (by first | rfl | (simp; done) | (simp [*]; done)), (by first | rfl | (simp; done) | (simp [*]; done)), H', ⟨by have := HK1.out; have := HJ7.out; omega⟩, ⟨by repeat (first | (with_reducible first | exact HI0.out | apply IsS91.alloc | apply IsS91.drewN | apply IsS91.drew | apply IsS91.set_1) | exact HI0.out)⟩, ⟨by repeat (first | (with_reducible first | exact HK.out | apply KeepBut.set_ | apply keep_drewN | apply keep_drew | apply keep_alloc) | exact HK.out)⟩, ⟨by repeat (first | (with_reducible first | exact HB.out | apply below_alloc | apply pw_below_drewN | apply below_drew1 | refine below_set ?_ (IsS91.ge HI0.out)) | exact HB.out)⟩⟩
                    · rw [if_neg c58] at H
                      exact absurd H (by simp)
                  · rw [if_neg c57] at H
                    have c57b0 : decide ((wrap64 ((x5_1.size : Int) + (t107.size : Int))) < 24) = false := decide_eq_false c57
                    clear c57
                    have H' := Aside0.mk H
                    clear H
                    go_wp2
                    go_roundg kj7
                    case measure => have := HK1.out; have := HJ7.out; omega
                    case rel => exact ⟨(x5_1), (wrap64 (x6_1 - 1)), (t110), (by first | rfl | (simp; done) | (simp [*]; done)), (by first | rfl | (simp; done) | (simp [*]; done)), H', ⟨by have := HK1.out; have := HJ7.out; omega⟩, ⟨by repeat (first | (with_reducible first | exact HI0.out | apply IsS91.alloc | apply IsS91.drewN | apply IsS91.drew | apply IsS91.set_1) | exact HI0.out)⟩, ⟨by repeat (first | (with_reducible first | exact HK.out | apply KeepBut.set_ | apply keep_drewN | apply keep_drew | apply keep_alloc) | exact HK.out)⟩, ⟨by repeat (first | (with_reducible first | exact HB.out | apply below_alloc | apply pw_below_drewN | apply below_drew1 | refine below_set ?_ (IsS91.ge HI0.out)) | exact HB.out)⟩⟩
      · rw [if_neg c5] at H
        have c5b0 : decide (0 < x6_1) = false := decide_eq_false c5
        clear c5
        replace H := Option.bind_eq_some_iff.mp H
        obtain ⟨t103, A590, H⟩ := H
        replace H : (if t103 > 0 then (if x5_1.size + 1 ≤ 9223372036854775807 then (some (x5_1 ++ (⟨#[122]⟩ : ByteArray), x1001_1)) else (none)) else (some (x5_1, x1001_1))) = some (r1, r2) := H
        have A59 := Aside0.mk A590
        clear A590
        by_cases c60 : t103 > 0
        · rw [if_pos c60] at H
          have c60b0 : decide (0 < t103) = true := decide_eq_true c60
          clear c60
          by_cases c61 : x5_1.size + 1 ≤ 9223372036854775807
          · rw [if_pos c61] at H
            have c61b0 := eq_true c61
            have c61b1 : decide (x5_1.size + 1 ≤ 9223372036854775807) = true := decide_eq_true c61
            try have c61b2 : (9223372036854775807 < x5_1.size + 1) = False := eq_false (Nat.not_lt.2 c61)
            simp only [Option.some.injEq, Prod.mk.injEq] at H
            obtain ⟨rfl, rfl⟩ := H
            go_wp2_with (first | ((with_reducible refine gate_callee (f := 77) rfl ?_); refine goesL_ (some 65) rfl rfl Tryz.func77 (by kernel_rfl) rfl #[.string x5_1] rfl (by (try simp only [List.map_toArray, List.map_cons, List.map_nil]); first | done | rfl | (simp only [List.length_drop, List.length_take]; rfl)) ?_; (with_reducible refine (spec_l2Held.calls x5_1 t103 _ A59.out).mono ?_); rintro e w62 ⟨rfl, hb⟩; refine ⟨_, rfl, ?_⟩; have n0_ := Aside0.mk (IsS91.below (by repeat (first | (with_reducible first | exact HI0.out | apply IsS91.alloc | apply IsS91.drewN | apply IsS91.drew | apply IsS91.set_1) | exact HI0.out)) hb); have n1_ := Aside0.mk (KeepBut.trans (by repeat (first | (with_reducible first | exact HK.out | apply KeepBut.set_ | apply keep_drewN | apply keep_drew | apply keep_alloc) | exact HK.out)) (KeepBut.of_below hb g none) (.inl rfl)); have n2_ := Aside0.mk (below_step (by repeat (first | (with_reducible first | exact HB.out | apply below_alloc | apply pw_below_drewN | apply below_drew1 | refine below_set ?_ (IsS91.ge HI0.out)) | exact HB.out)) hb); clear HI0; clear HK; clear HB; have HI0 := n0_; have HK := n1_; have HB := n2_; clear n0_ n1_ n2_; (try clear hb); (try clear hb2); (try clear hk); (try clear hi)))
            go_ret
            exact ⟨by first | rfl | (simp [errW_none, errW_some] <;> rfl) | (simp [*, errW_none, errW_some] <;> rfl), by repeat (first | (with_reducible first | exact HI0.out | apply IsS91.alloc | apply IsS91.drewN | apply IsS91.drew | apply IsS91.set_1) | exact HI0.out), by repeat (first | (with_reducible first | exact HB.out | apply below_alloc | apply pw_below_drewN | apply below_drew1 | refine below_set ?_ (IsS91.ge HI0.out)) | exact HB.out), by repeat (first | (with_reducible first | exact HK.out | apply KeepBut.set_ | apply keep_drewN | apply keep_drew | apply keep_alloc) | exact HK.out)⟩
          · rw [if_neg c61] at H
            exact absurd H (by simp)
        · rw [if_neg c60] at H
          have c60b0 : decide (0 < t103) = false := decide_eq_false c60
          clear c60
          simp only [Option.some.injEq, Prod.mk.injEq] at H
          obtain ⟨rfl, rfl⟩ := H
          go_wp2_with (first | ((with_reducible refine gate_callee (f := 77) rfl ?_); refine goesL_ (some 65) rfl rfl Tryz.func77 (by kernel_rfl) rfl #[.string x5_1] rfl (by (try simp only [List.map_toArray, List.map_cons, List.map_nil]); first | done | rfl | (simp only [List.length_drop, List.length_take]; rfl)) ?_; (with_reducible refine (spec_l2Held.calls x5_1 t103 _ A59.out).mono ?_); rintro e w63 ⟨rfl, hb⟩; refine ⟨_, rfl, ?_⟩; have n0_ := Aside0.mk (IsS91.below (by repeat (first | (with_reducible first | exact HI0.out | apply IsS91.alloc | apply IsS91.drewN | apply IsS91.drew | apply IsS91.set_1) | exact HI0.out)) hb); have n1_ := Aside0.mk (KeepBut.trans (by repeat (first | (with_reducible first | exact HK.out | apply KeepBut.set_ | apply keep_drewN | apply keep_drew | apply keep_alloc) | exact HK.out)) (KeepBut.of_below hb g none) (.inl rfl)); have n2_ := Aside0.mk (below_step (by repeat (first | (with_reducible first | exact HB.out | apply below_alloc | apply pw_below_drewN | apply below_drew1 | refine below_set ?_ (IsS91.ge HI0.out)) | exact HB.out)) hb); clear HI0; clear HK; clear HB; have HI0 := n0_; have HK := n1_; have HB := n2_; clear n0_ n1_ n2_; (try clear hb); (try clear hb2); (try clear hk); (try clear hi)))
          go_ret
          exact ⟨by first | rfl | (simp [errW_none, errW_some] <;> rfl) | (simp [*, errW_none, errW_some] <;> rfl), by repeat (first | (with_reducible first | exact HI0.out | apply IsS91.alloc | apply IsS91.drewN | apply IsS91.drew | apply IsS91.set_1) | exact HI0.out), by repeat (first | (with_reducible first | exact HB.out | apply below_alloc | apply pw_below_drewN | apply below_drew1 | refine below_set ?_ (IsS91.ge HI0.out)) | exact HB.out), by repeat (first | (with_reducible first | exact HK.out | apply KeepBut.set_ | apply keep_drewN | apply keep_drew | apply keep_alloc) | exact HK.out)⟩
end
end Go.Proofs.YtijompkonaiagaaGreatDoor.Q
namespace Go.Proofs.YtijompkonaiagaaGreatDoor.Q
open Go.RowKit Go.Proofs.YtijompkonaiagaaGreatDoorW.PrintWords Go.Proofs.YtijompkonaiagaaGreatDoorW.PrintMore Go.Proofs.YtijompkonaiagaaGreatDoor.Z
set_option linter.unusedVariables false
set_option linter.unusedSimpArgs false
theorem text_made (u v : Int) : ∃ t, spec_EndText.f u v = some t ∧ t.size ≤ 5 := ⟨_, rfl, endText_len ⟨u, v⟩⟩
theorem l72Say_l0 {bs : List Int} (hb : isCode bs) (x1 : Bool) (n : Nat) : ∀ (k : Nat) (s : ByteArray) (p : Int), n ≤ 20 → 2 * n + 10 < k → 0 ≤ p → p + 10 * n ≤ 80000000 → s.size ≤ 24 →
    ∃ r q, spec_l72Say.l0 k x1 s n bs p = some (r, q) ∧ r.size ≤ 25 ∧ p ≤ q ∧ q ≤ p + 10 * n := by
  induction n with
  | zero =>
    intro k s p hn hk h0 h1 hs
    obtain ⟨k, rfl⟩ : ∃ m, k = m + 1 := ⟨k - 1, by omega⟩
    simp only [spec_l72Say.l0]
    rw [if_neg (by omega)]
    unfold spec_l2Held.f
    rw [if_pos (by omega), Option.bind_some]
    split
    · rw [if_pos (by omega)]
      exact ⟨_, p, rfl, by rw [ByteArray.size_append]; show s.size + 1 ≤ 25; omega, by omega, by omega⟩
    · exact ⟨s, p, rfl, by omega, by omega, by omega⟩
  | succ n ih =>
    intro k s p hn hk h0 h1 hs
    obtain ⟨k, rfl⟩ : ∃ m, k = m + 1 + 1 := ⟨k - 2, by omega⟩
    obtain ⟨x, hx, hx2⟩ := of_at (k + 1) (by omega) hb p (by omega) [(⟨#[97]⟩ : ByteArray), (⟨#[98, 99]⟩ : ByteArray), (⟨#[64]⟩ : ByteArray), (⟨#[120, 49]⟩ : ByteArray), (⟨#[64, 49, 58, 122]⟩ : ByteArray), (⟨#[59]⟩ : ByteArray)] ⟨by decide, by decide⟩ 4 (by decide)
    obtain ⟨b, hbb, b0, b1⟩ := pick_at (k + 1) (by omega) hb (p + 1) (by omega) 5 (by omega)
    have tail : ∀ (t : ByteArray) (q : Int), t.size ≤ 5 → p ≤ q → q ≤ p + 8 → ∃ r q2, (if 1 + t.size ≤ 9223372036854775807 then (if ((⟨#[64]⟩ : ByteArray) ++ t).size + 1 ≤ 9223372036854775807 then (if (wrap64 ((s.size : Int) + ((((⟨#[64]⟩ : ByteArray) ++ t) ++ (⟨#[59]⟩ : ByteArray)).size : Int))) < 24 then (if s.size + (((⟨#[64]⟩ : ByteArray) ++ t) ++ (⟨#[59]⟩ : ByteArray)).size ≤ 9223372036854775807 then (spec_l72Say.l0 k x1 (s ++ (((⟨#[64]⟩ : ByteArray) ++ t) ++ (⟨#[59]⟩ : ByteArray))) n bs q) else (none)) else (spec_l72Say.l0 k x1 s n bs q)) else (none)) else (none)) = some (r, q2) ∧ r.size ≤ 25 ∧ p ≤ q2 ∧ q2 ≤ p + 10 * ((n + 1 : Nat) : Int) := by
      intro t q ht hq1 hq2
      have hsz1 : ((⟨#[64]⟩ : ByteArray) ++ t).size = 1 + t.size := by rw [ByteArray.size_append]; rfl
      have hsz2 : (((⟨#[64]⟩ : ByteArray) ++ t) ++ (⟨#[59]⟩ : ByteArray)).size = 1 + t.size + 1 := by rw [ByteArray.size_append, hsz1]; rfl
      obtain ⟨y, hy⟩ : ∃ y, y = (((⟨#[64]⟩ : ByteArray) ++ t) ++ (⟨#[59]⟩ : ByteArray)) := ⟨_, rfl⟩
      rw [if_pos (by omega), if_pos (by rw [hsz1]; omega), ← hy]
      rw [← hy] at hsz2
      have hw2 : wrap64 ((s.size : Int) + (y.size : Int)) = (s.size : Int) + (y.size : Int) := w64 (by omega)
      rw [hw2]
      clear hw2
      by_cases c4 : (s.size : Int) + (y.size : Int) < 24
      · rw [if_pos c4, if_pos (by omega)]
        obtain ⟨r, q2, g1, g2, g3, g4⟩ := ih k (s ++ y) q (by omega) (by omega) (by omega) (by omega) (by rw [ByteArray.size_append]; omega)
        exact ⟨r, q2, g1, g2, by omega, by omega⟩
      · rw [if_neg c4]
        obtain ⟨r, q2, g1, g2, g3, g4⟩ := ih k s q (by omega) (by omega) (by omega) (by omega) hs
        exact ⟨r, q2, g1, g2, by omega, by omega⟩
    have tailx : ∃ r q2, (if (wrap64 ((s.size : Int) + (x.size : Int))) < 24 then (if s.size + x.size ≤ 9223372036854775807 then (spec_l72Say.l0 k x1 (s ++ x) n bs (p + 1 + 1)) else (none)) else (spec_l72Say.l0 k x1 s n bs (p + 1 + 1))) = some (r, q2) ∧ r.size ≤ 25 ∧ p ≤ q2 ∧ q2 ≤ p + 10 * ((n + 1 : Nat) : Int) := by
      have hw2 : wrap64 ((s.size : Int) + (x.size : Int)) = (s.size : Int) + (x.size : Int) := w64 (by omega)
      rw [hw2]
      clear hw2
      by_cases c4 : (s.size : Int) + (x.size : Int) < 24
      · rw [if_pos c4, if_pos (by omega)]
        obtain ⟨r, q2, g1, g2, g3, g4⟩ := ih k (s ++ x) (p + 1 + 1) (by omega) (by omega) (by omega) (by omega) (by rw [ByteArray.size_append]; omega)
        exact ⟨r, q2, g1, g2, by omega, by omega⟩
      · rw [if_neg c4]
        obtain ⟨r, q2, g1, g2, g3, g4⟩ := ih k s (p + 1 + 1) (by omega) (by omega) (by omega) (by omega) hs
        exact ⟨r, q2, g1, g2, by omega, by omega⟩
    have key : ∀ f : Bool, ∃ r q2, spec_l72Say.j1 (k + 1) x1 s ((n + 1 : Nat) : Int) x b f bs (p + 1 + 1) = some (r, q2) ∧ r.size ≤ 25 ∧ p ≤ q2 ∧ q2 ≤ p + 10 * ((n + 1 : Nat) : Int) := by
      intro f
      simp only [spec_l72Say.j1]
      have hw : wrap64 (((n + 1 : Nat) : Int) - 1) = (n : Int) := by rw [w64 (by omega)]; omega
      rw [hw]
      clear hw ih
      by_cases cf : f = true
      · rw [if_pos cf]
        obtain ⟨a, ha, _, _⟩ := pick_at k (by omega) hb (p + 1 + 1) (by omega) 3 (by omega)
        obtain ⟨c, hc, _, _⟩ := pick_at k (by omega) hb (p + 1 + 1 + 1) (by omega) 4 (by omega)
        obtain ⟨t, ht, ht2⟩ := text_made (wrap64 (1 + a)) (wrap64 (1 + c))
        rw [ha, Option.bind_some]
        simp only
        rw [hc, Option.bind_some]
        simp only
        rw [ht, Option.bind_some]
        exact tail t (p + 1 + 1 + 1 + 1) ht2 (by omega) (by omega)
      · rw [if_neg cf]
        by_cases c2 : b = 2
        · rw [if_pos c2]
          obtain ⟨a, ha, _, _⟩ := pick_at k (by omega) hb (p + 1 + 1) (by omega) 3 (by omega)
          obtain ⟨c, hc, _, _⟩ := pick_at k (by omega) hb (p + 1 + 1 + 1) (by omega) 4 (by omega)
          obtain ⟨t, ht, ht2⟩ := text_made (wrap64 (4 + a)) (wrap64 (1 + c))
          rw [ha, Option.bind_some]
          simp only
          rw [hc, Option.bind_some]
          simp only
          rw [ht, Option.bind_some]
          exact tail t (p + 1 + 1 + 1 + 1) ht2 (by omega) (by omega)
        · rw [if_neg c2]
          by_cases c3 : b = 3
          · rw [if_pos c3]
            by_cases cd : x1 = true
            · rw [if_pos cd]
              obtain ⟨a, ha, _, _⟩ := pick_at k (by omega) hb (p + 1 + 1) (by omega) 4 (by omega)
              obtain ⟨t, ht, ht2⟩ := text_made 9 (wrap64 (10 + a))
              rw [ha, Option.bind_some]
              simp only
              rw [ht, Option.bind_some]
              exact tail t (p + 1 + 1 + 1) ht2 (by omega) (by omega)
            · rw [if_neg cd]
              exact tailx
          · rw [if_neg c3]
            exact tailx
    clear ih tail tailx
    simp only [spec_l72Say.l0]
    rw [if_pos (by omega), hx, Option.bind_some]
    simp only
    rw [hbb, Option.bind_some]
    simp only
    split
    · exact key _
    · exact key _
theorem l72Say_to (k : Nat) (hk : 100 < k) {bs : List Int} (hb : isCode bs) (p : Int) (hp : 0 ≤ p ∧ p ≤ 70000000) (x1 : Bool) :
    ∃ r q, spec_l72Say.f k bs p x1 = some (r, q) ∧ r.size ≤ 25 ∧ p ≤ q ∧ q ≤ p + 100 := by
  obtain ⟨a, ha, a0, a1⟩ := pick_at k (by omega) hb p (by omega) 5 (by omega)
  obtain ⟨n, rfl⟩ := Int.eq_ofNat_of_zero_le a0
  obtain ⟨r, q, h2, h3, h4, h5⟩ := l72Say_l0 hb x1 (n + 1) k ⟨#[]⟩ (p + 1) (by omega) (by omega) (by omega) (by omega) (Nat.zero_le _)
  refine ⟨r, q, ?_, h3, by omega, by omega⟩
  unfold spec_l72Say.f
  have hw : wrap64 (1 + (n : Int)) = ((n + 1 : Nat) : Int) := by rw [w64 (by omega)]; omega
  rw [ha, Option.bind_some]
  simp only
  rw [hw]
  exact h2
end Go.Proofs.YtijompkonaiagaaGreatDoor.Q
namespace Go.Proofs.YtijompkonaiagaaGreatDoor.Q
open Go.RowKit Go.Proofs.YtijompkonaiagaaGreatDoorW.PrintWords Go.Proofs.YtijompkonaiagaaGreatDoorW.PrintLast Go.Proofs.YtijompkonaiagaaGreatDoorW.PrintMore
attribute [local go_sem] max2_int min2_int max_two min_two max_three min_three max_four min_four
set_option linter.unusedVariables false
set_option linter.unusedSimpArgs false
noncomputable section
def spec_l72Convs.l0 : Nat → List (S28) → Int → List Int → Int → Option ((List (S28)) × Int)
  | 0, _, _, _, _ => none
  | k + 1, x3, x4, x1000, x1001 => (spec_l6Rd_pick.f k x1000 x1001 2).bind fun bt104 => (if x4 < (wrap64 (1 + bt104.1)) then ((spec_l6Rd_pick.f k x1000 bt104.2 2).bind fun bt106 => ((spec_l6Rd_pick.f k x1000 bt106.2 4).bind fun bt108 => ((spec_l72Say.f k x1000 bt108.2 false).bind fun bt110 => ((spec_l72Say.f k x1000 bt110.2 true).bind fun bt112 => (if x3.length < 1256584717458 then (spec_l72Convs.l0 k (x3 ++ [(⟨(⟨wrap64 ((wrap64 (1 + x4)) + bt106.1), wrap64 (1 + x4)⟩ : S24), (⟨wrap64 (4 + x4), wrap64 (1 + bt108.1)⟩ : S24), bt110.1, bt112.1, 0, 0, (⟨#[]⟩ : ByteArray), (⟨#[]⟩ : ByteArray)⟩ : S28)]) (wrap64 (x4 + 1)) x1000 bt112.2) else (none)))))) else (some (x3, bt104.2)))
def spec_l72Convs.f (k : Nat) (s0_0 : List Int) (s0_1 : Int) : Option ((List (S28)) × Int) := spec_l72Convs.l0 k (([] : List (S28))) 0 s0_0 s0_1
set_option maxHeartbeats 8000000 in
set_option maxRecDepth 100000 in
theorem spec_l72Convs.calls (k : Nat) (g : Nat) (s0_0 : List Int) (s0_1 : Int) (r1 : List (S28)) (r2 : Int) (w0 w : World) (hI : IsS91 w0 w g s0_0 s0_1) (hB : Below w0.heap.size w0 w) (h : spec_l72Convs.f k s0_0 s0_1 = some (r1, r2)) :
    Calls Tryz.prog 42 #[.pointer (some ⟨g, 0, none⟩)] w fun e w' => ∃ v0_ : Value, e = .returned (v0_) ∧ Kd.R k28 28 w' w.heap.size (fun _ => True) v0_ r1 ∧ IsS91 w0 w' g s0_0 r2 ∧ Below w0.heap.size w0 w' ∧ KeepBut w w' g none := by
  have hu24 := Tryz.underlying24
  have hu28 := Tryz.underlying28
  have HI0 := Aside0.mk hI
  have HK := Aside0.mk (KeepBut.refl w g none)
  have HL := Aside0.mk hB.size
  clear hI
  have HW0 := Aside0.mk hB.size
  have HB := Aside0.mk hB
  clear hB
  have H : (spec_l72Convs.l0 k (([] : List (S28))) 0 s0_0 s0_1) = some (r1, r2) := h
  clear h
  obtain ⟨y101, hy101⟩ : ∃ y_ : List (S28), y_ = (([] : List (S28))) := ⟨_, rfl⟩
  replace H : (spec_l72Convs.l0 k y101 0 s0_0 s0_1) = some (r1, r2) := by first | (rw [hy101]; with_reducible exact H) | (have H2_ := (Option.bind_some _ _).symm.trans H; rw [hy101]; with_reducible exact H2_) | (have H2_ := (Option.bind_some _ _).symm.trans H; with_reducible exact H2_) | with_reducible exact H | (rw [hy101]; exact H) | exact H
  have Ny101 := Aside0.mk hy101
  clear hy101
  have H' := Aside0.mk H
  clear H
  go_enter Tryz.func42, Tryz.ntmps42
  go_wp2_with (first | ((with_reducible refine gate_dst (N := 6) rfl ?_); refine Kd.R_lit k28 _ 28 ?hg (N := 6) ?hd (xs := ([] : List (S28))) (inner := []) (ok := fun _ => True) (okp := fun _ => True) ?hr ?hp (fun _ hk => hk) trivial (Below.refl _ _) (Nat.le_refl _) (by simp) ?_; (case hd => rfl); (case hg => rfl); (case hr => first | (go_simp; done) | (go_simp; rfl)); (case hp => exact (Reps.none _ _)); intro v102 w2 ho3 hb hg_ hnew_; clear hg_ hnew_; (first | rw [← Ny101.out] at ho3 | (simp only [Int.reduceToNat] at ho3; rw [← Ny101.out] at ho3)); have n0_ := Aside0.mk (Kd.R_lower ho3 (keep_size (w := w) (g := g) (row := none) (by repeat (first | (with_reducible first | exact HK.out | apply KeepBut.set_ | apply keep_drewN | apply keep_drew | apply keep_alloc) | exact HK.out)))); have n1_ := Aside0.mk (IsS91.below (by repeat (first | (with_reducible first | exact HI0.out | apply IsS91.alloc | apply IsS91.drewN | apply IsS91.drew | apply IsS91.set_1) | exact HI0.out)) hb); have n2_ := Aside0.mk (KeepBut.trans (by repeat (first | (with_reducible first | exact HK.out | apply KeepBut.set_ | apply keep_drewN | apply keep_drew | apply keep_alloc) | exact HK.out)) (KeepBut.of_below hb g none) (.inl rfl)); have n3_ := Aside0.mk (below_step (by repeat (first | (with_reducible first | exact HB.out | apply below_alloc | apply pw_below_drewN | apply below_drew1 | refine below_set ?_ (IsS91.ge HI0.out)) | exact HB.out)) hb); clear HI0; clear HK; clear HB; have HO103 := n0_; have HI0 := n1_; have HK := n2_; have HB := n3_; clear n0_ n1_ n2_ n3_; clear hb ho3))
  go_loopg [3, 4] k (fun kq v3 v4 w' => ∃ (x3_1 : List (S28)) (x4_1 : Int) (x1001_1 : Int), v4 = .int .i64 x4_1 ∧ Aside0 (spec_l72Convs.l0 kq x3_1 x4_1 s0_0 x1001_1 = some (r1, r2)) ∧ Aside0 (kq ≤ k) ∧ Aside0 (Kd.R k28 28 w' w.heap.size (fun _ => True) v3 x3_1) ∧ Aside0 (IsS91 w0 w' g s0_0 x1001_1) ∧ Aside0 (KeepBut w w' g none) ∧ Aside0 (Below w0.heap.size w0 w'))
  case atStart => exact ⟨(y101), (0), (s0_1), (by first | rfl | (simp; done) | (simp [*]; done)), H', ⟨Nat.le_refl _⟩, ⟨by (with_reducible repeat (first | apply Kd.R_alloc | apply Kd.R_drewN | apply Kd.R_drew)); exact HO103.out⟩, ⟨by repeat (first | (with_reducible first | exact HI0.out | apply IsS91.alloc | apply IsS91.drewN | apply IsS91.drew | apply IsS91.set_1) | exact HI0.out)⟩, ⟨by repeat (first | (with_reducible first | exact HK.out | apply KeepBut.set_ | apply keep_drewN | apply keep_drew | apply keep_alloc) | exact HK.out)⟩, ⟨by repeat (first | (with_reducible first | exact HB.out | apply below_alloc | apply pw_below_drewN | apply below_drew1 | refine below_set ?_ (IsS91.ge HI0.out)) | exact HB.out)⟩⟩
  case round =>
    clear H'
    try clear p2
    obtain ⟨x3_1, x4_1, x1001_1, rfl, HA, HK1, HO_3, HI0, HK, HB⟩ := hrel
    cases gk with
    | zero => exact absurd HA.out (by simp [spec_l72Convs.l0])
    | succ k1 =>
      have H := HA.out
      clear HA
      simp only [spec_l72Convs.l0] at H
      replace H := Option.bind_eq_some_iff.mp H
      obtain ⟨⟨t104, t105⟩, A40, H⟩ := H
      replace H : (if x4_1 < (wrap64 (1 + t104)) then ((spec_l6Rd_pick.f k1 s0_0 t105 2).bind fun bt106 => ((spec_l6Rd_pick.f k1 s0_0 bt106.2 4).bind fun bt108 => ((spec_l72Say.f k1 s0_0 bt108.2 false).bind fun bt110 => ((spec_l72Say.f k1 s0_0 bt110.2 true).bind fun bt112 => (if x3_1.length < 1256584717458 then (spec_l72Convs.l0 k1 (x3_1 ++ [(⟨(⟨wrap64 ((wrap64 (1 + x4_1)) + bt106.1), wrap64 (1 + x4_1)⟩ : S24), (⟨wrap64 (4 + x4_1), wrap64 (1 + bt108.1)⟩ : S24), bt110.1, bt112.1, 0, 0, (⟨#[]⟩ : ByteArray), (⟨#[]⟩ : ByteArray)⟩ : S28)]) (wrap64 (x4_1 + 1)) s0_0 bt112.2) else (none)))))) else (some (x3_1, t105))) = some (r1, r2) := H
      have A4 := Aside0.mk A40
      clear A40
      by_cases c5 : x4_1 < (wrap64 (1 + t104))
      · rw [if_pos c5] at H
        have c5b0 : decide (x4_1 < (wrap64 (1 + t104))) = true := decide_eq_true c5
        clear c5
        replace H := Option.bind_eq_some_iff.mp H
        obtain ⟨⟨t106, t107⟩, A60, H⟩ := H
        replace H : ((spec_l6Rd_pick.f k1 s0_0 t107 4).bind fun bt108 => ((spec_l72Say.f k1 s0_0 bt108.2 false).bind fun bt110 => ((spec_l72Say.f k1 s0_0 bt110.2 true).bind fun bt112 => (if x3_1.length < 1256584717458 then (spec_l72Convs.l0 k1 (x3_1 ++ [(⟨(⟨wrap64 ((wrap64 (1 + x4_1)) + t106), wrap64 (1 + x4_1)⟩ : S24), (⟨wrap64 (4 + x4_1), wrap64 (1 + bt108.1)⟩ : S24), bt110.1, bt112.1, 0, 0, (⟨#[]⟩ : ByteArray), (⟨#[]⟩ : ByteArray)⟩ : S28)]) (wrap64 (x4_1 + 1)) s0_0 bt112.2) else (none))))) = some (r1, r2) := H
        have A6 := Aside0.mk A60
        clear A60
        replace H := Option.bind_eq_some_iff.mp H
        obtain ⟨⟨t108, t109⟩, A70, H⟩ := H
        replace H : ((spec_l72Say.f k1 s0_0 t109 false).bind fun bt110 => ((spec_l72Say.f k1 s0_0 bt110.2 true).bind fun bt112 => (if x3_1.length < 1256584717458 then (spec_l72Convs.l0 k1 (x3_1 ++ [(⟨(⟨wrap64 ((wrap64 (1 + x4_1)) + t106), wrap64 (1 + x4_1)⟩ : S24), (⟨wrap64 (4 + x4_1), wrap64 (1 + t108)⟩ : S24), bt110.1, bt112.1, 0, 0, (⟨#[]⟩ : ByteArray), (⟨#[]⟩ : ByteArray)⟩ : S28)]) (wrap64 (x4_1 + 1)) s0_0 bt112.2) else (none)))) = some (r1, r2) := H
        have A7 := Aside0.mk A70
        clear A70
        replace H := Option.bind_eq_some_iff.mp H
        obtain ⟨⟨t110, t111⟩, A80, H⟩ := H
        replace H : ((spec_l72Say.f k1 s0_0 t111 true).bind fun bt112 => (if x3_1.length < 1256584717458 then (spec_l72Convs.l0 k1 (x3_1 ++ [(⟨(⟨wrap64 ((wrap64 (1 + x4_1)) + t106), wrap64 (1 + x4_1)⟩ : S24), (⟨wrap64 (4 + x4_1), wrap64 (1 + t108)⟩ : S24), t110, bt112.1, 0, 0, (⟨#[]⟩ : ByteArray), (⟨#[]⟩ : ByteArray)⟩ : S28)]) (wrap64 (x4_1 + 1)) s0_0 bt112.2) else (none))) = some (r1, r2) := H
        have A8 := Aside0.mk A80
        clear A80
        replace H := Option.bind_eq_some_iff.mp H
        obtain ⟨⟨t112, t113⟩, A90, H⟩ := H
        replace H : (if x3_1.length < 1256584717458 then (spec_l72Convs.l0 k1 (x3_1 ++ [(⟨(⟨wrap64 ((wrap64 (1 + x4_1)) + t106), wrap64 (1 + x4_1)⟩ : S24), (⟨wrap64 (4 + x4_1), wrap64 (1 + t108)⟩ : S24), t110, t112, 0, 0, (⟨#[]⟩ : ByteArray), (⟨#[]⟩ : ByteArray)⟩ : S28)]) (wrap64 (x4_1 + 1)) s0_0 t113) else (none)) = some (r1, r2) := H
        have A9 := Aside0.mk A90
        clear A90
        by_cases c10 : x3_1.length < 1256584717458
        · rw [if_pos c10] at H
          have LMc10 := Aside0.mk c10
          clear c10
          obtain ⟨y115, hy115⟩ : ∃ y_ : List (S28), y_ = (x3_1 ++ [(⟨(⟨wrap64 ((wrap64 (1 + x4_1)) + t106), wrap64 (1 + x4_1)⟩ : S24), (⟨wrap64 (4 + x4_1), wrap64 (1 + t108)⟩ : S24), t110, t112, 0, 0, (⟨#[]⟩ : ByteArray), (⟨#[]⟩ : ByteArray)⟩ : S28)]) := ⟨_, rfl⟩
          replace H : (spec_l72Convs.l0 k1 y115 (wrap64 (x4_1 + 1)) s0_0 t113) = some (r1, r2) := by first | (rw [hy115]; with_reducible exact H) | (have H2_ := (Option.bind_some _ _).symm.trans H; rw [hy115]; with_reducible exact H2_) | (have H2_ := (Option.bind_some _ _).symm.trans H; with_reducible exact H2_) | with_reducible exact H | (rw [hy115]; exact H) | exact H
          have Ny115 := Aside0.mk hy115
          clear hy115
          have H' := Aside0.mk H
          clear H
          go_wp2_with (first | ((with_reducible refine gate_callee (f := 43) rfl ?_); refine goesL_ (some 9) rfl rfl Tryz.func43 (by kernel_rfl) rfl #[.pointer (some ⟨g, 0, none⟩), .int .i64 2] rfl (by (try simp only [List.map_toArray, List.map_cons, List.map_nil]); first | done | rfl | (simp only [List.length_drop, List.length_take]; rfl)) ?_; (with_reducible refine (spec_l6Rd_pick.calls k1 g s0_0 x1001_1 2 t104 t105 w0 _ ?side1 ?side2 A4.out).mono ?_); (case side1 => repeat (first | (with_reducible first | exact HI0.out | apply IsS91.alloc | apply IsS91.drewN | apply IsS91.drew | apply IsS91.set_1) | exact HI0.out)); (case side2 => repeat (first | (with_reducible first | exact HB.out | apply below_alloc | apply pw_below_drewN | apply below_drew1 | refine below_set ?_ (IsS91.ge HI0.out)) | exact HB.out)); rintro e w11 ⟨rfl, hi, hb, hk⟩; refine ⟨_, rfl, ?_⟩; have n0_ := Aside0.mk (Kd.R_mono (Kd.R_keep (IsS91.apart (show IsS91 w0 _ g s0_0 x1001_1 from by repeat (first | (with_reducible first | exact HI0.out | apply IsS91.alloc | apply IsS91.drewN | apply IsS91.drew | apply IsS91.set_1) | exact HI0.out)) (by (with_reducible repeat (first | apply Kd.R_alloc | apply Kd.R_drewN | apply Kd.R_drew)); exact HO_3.out) (by decide)) hk (fun _ h => h.2)) (fun _ h => h.1)); have n1_ := Aside0.mk (KeepBut.trans (by repeat (first | (with_reducible first | exact HK.out | apply KeepBut.set_ | apply keep_drewN | apply keep_drew | apply keep_alloc) | exact HK.out)) hk (.inl rfl)); have n2_ := Aside0.mk (hb); have n3_ := Aside0.mk (hi); clear HO_3; clear HK; clear HB; clear HI0; have HO_3 := n0_; have HK := n1_; have HB := n2_; have HI0 := n3_; clear n0_ n1_ n2_ n3_; (try clear hb); (try clear hb2); (try clear hk); (try clear hi)) | ((with_reducible refine gate_callee (f := 43) rfl ?_); refine goesL_ (some 17) rfl rfl Tryz.func43 (by kernel_rfl) rfl #[.pointer (some ⟨g, 0, none⟩), .int .i64 2] rfl (by (try simp only [List.map_toArray, List.map_cons, List.map_nil]); first | done | rfl | (simp only [List.length_drop, List.length_take]; rfl)) ?_; (with_reducible refine (spec_l6Rd_pick.calls k1 g s0_0 t105 2 t106 t107 w0 _ ?side1 ?side2 A6.out).mono ?_); (case side1 => repeat (first | (with_reducible first | exact HI0.out | apply IsS91.alloc | apply IsS91.drewN | apply IsS91.drew | apply IsS91.set_1) | exact HI0.out)); (case side2 => repeat (first | (with_reducible first | exact HB.out | apply below_alloc | apply pw_below_drewN | apply below_drew1 | refine below_set ?_ (IsS91.ge HI0.out)) | exact HB.out)); rintro e w12 ⟨rfl, hi, hb, hk⟩; refine ⟨_, rfl, ?_⟩; have n0_ := Aside0.mk (Kd.R_mono (Kd.R_keep (IsS91.apart (show IsS91 w0 _ g s0_0 t105 from by repeat (first | (with_reducible first | exact HI0.out | apply IsS91.alloc | apply IsS91.drewN | apply IsS91.drew | apply IsS91.set_1) | exact HI0.out)) (by (with_reducible repeat (first | apply Kd.R_alloc | apply Kd.R_drewN | apply Kd.R_drew)); exact HO_3.out) (by decide)) hk (fun _ h => h.2)) (fun _ h => h.1)); have n1_ := Aside0.mk (KeepBut.trans (by repeat (first | (with_reducible first | exact HK.out | apply KeepBut.set_ | apply keep_drewN | apply keep_drew | apply keep_alloc) | exact HK.out)) hk (.inl rfl)); have n2_ := Aside0.mk (hb); have n3_ := Aside0.mk (hi); clear HO_3; clear HK; clear HB; clear HI0; have HO_3 := n0_; have HK := n1_; have HB := n2_; have HI0 := n3_; clear n0_ n1_ n2_ n3_; (try clear hb); (try clear hb2); (try clear hk); (try clear hi)) | ((with_reducible refine gate_callee (f := 43) rfl ?_); refine goesL_ (some 25) rfl rfl Tryz.func43 (by kernel_rfl) rfl #[.pointer (some ⟨g, 0, none⟩), .int .i64 4] rfl (by (try simp only [List.map_toArray, List.map_cons, List.map_nil]); first | done | rfl | (simp only [List.length_drop, List.length_take]; rfl)) ?_; (with_reducible refine (spec_l6Rd_pick.calls k1 g s0_0 t107 4 t108 t109 w0 _ ?side1 ?side2 A7.out).mono ?_); (case side1 => repeat (first | (with_reducible first | exact HI0.out | apply IsS91.alloc | apply IsS91.drewN | apply IsS91.drew | apply IsS91.set_1) | exact HI0.out)); (case side2 => repeat (first | (with_reducible first | exact HB.out | apply below_alloc | apply pw_below_drewN | apply below_drew1 | refine below_set ?_ (IsS91.ge HI0.out)) | exact HB.out)); rintro e w13 ⟨rfl, hi, hb, hk⟩; refine ⟨_, rfl, ?_⟩; have n0_ := Aside0.mk (Kd.R_mono (Kd.R_keep (IsS91.apart (show IsS91 w0 _ g s0_0 t107 from by repeat (first | (with_reducible first | exact HI0.out | apply IsS91.alloc | apply IsS91.drewN | apply IsS91.drew | apply IsS91.set_1) | exact HI0.out)) (by (with_reducible repeat (first | apply Kd.R_alloc | apply Kd.R_drewN | apply Kd.R_drew)); exact HO_3.out) (by decide)) hk (fun _ h => h.2)) (fun _ h => h.1)); have n1_ := Aside0.mk (KeepBut.trans (by repeat (first | (with_reducible first | exact HK.out | apply KeepBut.set_ | apply keep_drewN | apply keep_drew | apply keep_alloc) | exact HK.out)) hk (.inl rfl)); have n2_ := Aside0.mk (hb); have n3_ := Aside0.mk (hi); clear HO_3; clear HK; clear HB; clear HI0; have HO_3 := n0_; have HK := n1_; have HB := n2_; have HI0 := n3_; clear n0_ n1_ n2_ n3_; (try clear hb); (try clear hb2); (try clear hk); (try clear hi)) | ((with_reducible refine gate_callee (f := 72) rfl ?_); refine goesL_ (some 29) rfl rfl Tryz.func72 (by kernel_rfl) rfl #[.pointer (some ⟨g, 0, none⟩), .bool false] rfl (by (try simp only [List.map_toArray, List.map_cons, List.map_nil]); first | done | rfl | (simp only [List.length_drop, List.length_take]; rfl)) ?_; (with_reducible refine (spec_l72Say.calls k1 g s0_0 t109 false t110 t111 w0 _ ?side1 ?side2 A8.out).mono ?_); (case side1 => repeat (first | (with_reducible first | exact HI0.out | apply IsS91.alloc | apply IsS91.drewN | apply IsS91.drew | apply IsS91.set_1) | exact HI0.out)); (case side2 => repeat (first | (with_reducible first | exact HB.out | apply below_alloc | apply pw_below_drewN | apply below_drew1 | refine below_set ?_ (IsS91.ge HI0.out)) | exact HB.out)); rintro e w14 ⟨rfl, hi, hb, hk⟩; refine ⟨_, rfl, ?_⟩; have n0_ := Aside0.mk (Kd.R_mono (Kd.R_keep (IsS91.apart (show IsS91 w0 _ g s0_0 t109 from by repeat (first | (with_reducible first | exact HI0.out | apply IsS91.alloc | apply IsS91.drewN | apply IsS91.drew | apply IsS91.set_1) | exact HI0.out)) (by (with_reducible repeat (first | apply Kd.R_alloc | apply Kd.R_drewN | apply Kd.R_drew)); exact HO_3.out) (by decide)) hk (fun _ h => h.2)) (fun _ h => h.1)); have n1_ := Aside0.mk (KeepBut.trans (by repeat (first | (with_reducible first | exact HK.out | apply KeepBut.set_ | apply keep_drewN | apply keep_drew | apply keep_alloc) | exact HK.out)) hk (.inl rfl)); have n2_ := Aside0.mk (hb); have n3_ := Aside0.mk (hi); clear HO_3; clear HK; clear HB; clear HI0; have HO_3 := n0_; have HK := n1_; have HB := n2_; have HI0 := n3_; clear n0_ n1_ n2_ n3_; (try clear hb); (try clear hb2); (try clear hk); (try clear hi)) | ((with_reducible refine gate_callee (f := 72) rfl ?_); refine goesL_ (some 31) rfl rfl Tryz.func72 (by kernel_rfl) rfl #[.pointer (some ⟨g, 0, none⟩), .bool true] rfl (by (try simp only [List.map_toArray, List.map_cons, List.map_nil]); first | done | rfl | (simp only [List.length_drop, List.length_take]; rfl)) ?_; (with_reducible refine (spec_l72Say.calls k1 g s0_0 t111 true t112 t113 w0 _ ?side1 ?side2 A9.out).mono ?_); (case side1 => repeat (first | (with_reducible first | exact HI0.out | apply IsS91.alloc | apply IsS91.drewN | apply IsS91.drew | apply IsS91.set_1) | exact HI0.out)); (case side2 => repeat (first | (with_reducible first | exact HB.out | apply below_alloc | apply pw_below_drewN | apply below_drew1 | refine below_set ?_ (IsS91.ge HI0.out)) | exact HB.out)); rintro e w15 ⟨rfl, hi, hb, hk⟩; refine ⟨_, rfl, ?_⟩; have n0_ := Aside0.mk (Kd.R_mono (Kd.R_keep (IsS91.apart (show IsS91 w0 _ g s0_0 t111 from by repeat (first | (with_reducible first | exact HI0.out | apply IsS91.alloc | apply IsS91.drewN | apply IsS91.drew | apply IsS91.set_1) | exact HI0.out)) (by (with_reducible repeat (first | apply Kd.R_alloc | apply Kd.R_drewN | apply Kd.R_drew)); exact HO_3.out) (by decide)) hk (fun _ h => h.2)) (fun _ h => h.1)); have n1_ := Aside0.mk (KeepBut.trans (by repeat (first | (with_reducible first | exact HK.out | apply KeepBut.set_ | apply keep_drewN | apply keep_drew | apply keep_alloc) | exact HK.out)) hk (.inl rfl)); have n2_ := Aside0.mk (hb); have n3_ := Aside0.mk (hi); clear HO_3; clear HK; clear HB; clear HI0; have HO_3 := n0_; have HK := n1_; have HB := n2_; have HI0 := n3_; clear n0_ n1_ n2_ n3_; (try clear hb); (try clear hb2); (try clear hk); (try clear hi)) | ((with_reducible refine gate_builtin (b := .append) (xs := #[.tmp 33, .tmp 35]) rfl ?_); at_builtin; refine Kd.R_append k28 w.heap.size rfl (.tmp 33) (.tmp 35) 59 28 (.agg #[(.int .i64 0), (.int .i64 0), (.int .i64 0), (.int .i64 0), (.string ⟨#[]⟩), (.string ⟨#[]⟩), (.int .i64 0), (.int .i64 0), (.string ⟨#[]⟩), (.string ⟨#[]⟩)]) 112 rfl Tryz.underlying59 info28 rfl (by decide) (by omega) u3 x3_1 (⟨(⟨wrap64 ((wrap64 (1 + x4_1)) + t106), wrap64 (1 + x4_1)⟩ : S24), (⟨wrap64 (4 + x4_1), wrap64 (1 + t108)⟩ : S24), t110, t112, 0, 0, (⟨#[]⟩ : ByteArray), (⟨#[]⟩ : ByteArray)⟩ : S28) [.int .i64 (wrap64 ((wrap64 (1 + x4_1)) + t106)), .int .i64 (wrap64 (1 + x4_1)), .int .i64 (wrap64 (4 + x4_1)), .int .i64 (wrap64 (1 + t108)), .string t110, .string t112, .int .i64 0, .int .i64 0, .string (⟨#[]⟩ : ByteArray), .string (⟨#[]⟩ : ByteArray)] (fun _ => True) (fun _ => False) rfl (by first | (go_simp; done) | (go_simp; rfl)) ?aP (fun _ hk => hk.elim) ?aF ?aO (Below.refl _ _) ?aS ?aL ?_; (case aP => exact k28_mkM _ _ _ (⟨(⟨wrap64 ((wrap64 (1 + x4_1)) + t106), wrap64 (1 + x4_1)⟩ : S24), (⟨wrap64 (4 + x4_1), wrap64 (1 + t108)⟩ : S24), t110, t112, 0, 0, (⟨#[]⟩ : ByteArray), (⟨#[]⟩ : ByteArray)⟩ : S28)); (case aF => exact (fun _ _ => trivial)); (case aO => exact (by (with_reducible repeat (first | apply Kd.R_alloc | apply Kd.R_drewN | apply Kd.R_drew)); exact Kd.R_mono HO_3.out (fun _ _ => trivial))); (case aS => exact (keep_size (w := w) (g := g) (row := none) (by repeat (first | (with_reducible first | exact HK.out | apply KeepBut.set_ | apply keep_drewN | apply keep_drew | apply keep_alloc | refine keep_far ?_ GW114.out _) | exact HK.out)))); (case aL => have := LMc10.out; omega); intro v116 w19 ho hb hg hat; rw [← Ny115.out] at ho; have n0_ := Aside0.mk (IsS91.grown (by repeat (first | (with_reducible first | exact HI0.out | apply IsS91.alloc | apply IsS91.drewN | apply IsS91.drew | apply IsS91.set_1 | refine IsS91.far ?_ NB0_114.out _) | exact HI0.out)) hg (IsS91.own_ne HI0.out HO_3.out (by decide))); have n2_ := Aside0.mk (below_weaken (by repeat (first | (with_reducible first | exact HB.out | apply below_alloc | apply pw_below_drewN | apply below_drew1 | refine below_set ?_ (IsS91.ge HI0.out) | refine below_set ?_ GE114.out) | exact HB.out)) HL.out hb); have n3_ := Aside0.mk (KeepBut.trans (by repeat (first | (with_reducible first | exact HK.out | apply KeepBut.set_ | apply keep_drewN | apply keep_drew | apply keep_alloc | refine keep_far ?_ GW114.out _) | exact HK.out)) (KeepBut.of_grown hg g) (Kd.R_base2 HO_3.out)); have n4_ := Aside0.mk (ho); clear HI0; clear HB; clear HK; clear HO_3; have HI0 := n0_; have HB := n2_; have HK := n3_; have HO117 := n4_; clear n0_ n2_ n3_ n4_; clear ho hb hg hat))
          go_roundg k1
          case measure => have := HK1.out; omega
          case rel => exact ⟨(y115), (wrap64 (x4_1 + 1)), (t113), (by first | rfl | (simp; done) | (simp [*]; done)), H', ⟨by have := HK1.out; omega⟩, ⟨by (with_reducible repeat (first | apply Kd.R_alloc | apply Kd.R_drewN | apply Kd.R_drew)); exact Kd.R_mono HO117.out (fun _ hk => trivial)⟩, ⟨by repeat (first | (with_reducible first | exact HI0.out | apply IsS91.alloc | apply IsS91.drewN | apply IsS91.drew | apply IsS91.set_1 | refine IsS91.far ?_ NB0_114.out _) | exact HI0.out)⟩, ⟨by repeat (first | (with_reducible first | exact HK.out | apply KeepBut.set_ | apply keep_drewN | apply keep_drew | apply keep_alloc | refine keep_far ?_ GW114.out _) | exact HK.out)⟩, ⟨by repeat (first | (with_reducible first | exact HB.out | apply below_alloc | apply pw_below_drewN | apply below_drew1 | refine below_set ?_ (IsS91.ge HI0.out) | refine below_set ?_ GE114.out) | exact HB.out)⟩⟩
        · rw [if_neg c10] at H
          exact absurd H (by simp)
      · rw [if_neg c5] at H
        have c5b0 : decide (x4_1 < (wrap64 (1 + t104))) = false := decide_eq_false c5
        clear c5
        simp only [Option.some.injEq, Prod.mk.injEq] at H
        obtain ⟨rfl, rfl⟩ := H
        go_wp2_with (first | ((with_reducible refine gate_callee (f := 43) rfl ?_); refine goesL_ (some 9) rfl rfl Tryz.func43 (by kernel_rfl) rfl #[.pointer (some ⟨g, 0, none⟩), .int .i64 2] rfl (by (try simp only [List.map_toArray, List.map_cons, List.map_nil]); first | done | rfl | (simp only [List.length_drop, List.length_take]; rfl)) ?_; (with_reducible refine (spec_l6Rd_pick.calls k1 g s0_0 x1001_1 2 t104 t105 w0 _ ?side1 ?side2 A4.out).mono ?_); (case side1 => repeat (first | (with_reducible first | exact HI0.out | apply IsS91.alloc | apply IsS91.drewN | apply IsS91.drew | apply IsS91.set_1) | exact HI0.out)); (case side2 => repeat (first | (with_reducible first | exact HB.out | apply below_alloc | apply pw_below_drewN | apply below_drew1 | refine below_set ?_ (IsS91.ge HI0.out)) | exact HB.out)); rintro e w20 ⟨rfl, hi, hb, hk⟩; refine ⟨_, rfl, ?_⟩; have n0_ := Aside0.mk (Kd.R_mono (Kd.R_keep (IsS91.apart (show IsS91 w0 _ g s0_0 x1001_1 from by repeat (first | (with_reducible first | exact HI0.out | apply IsS91.alloc | apply IsS91.drewN | apply IsS91.drew | apply IsS91.set_1) | exact HI0.out)) (by (with_reducible repeat (first | apply Kd.R_alloc | apply Kd.R_drewN | apply Kd.R_drew)); exact HO_3.out) (by decide)) hk (fun _ h => h.2)) (fun _ h => h.1)); have n1_ := Aside0.mk (KeepBut.trans (by repeat (first | (with_reducible first | exact HK.out | apply KeepBut.set_ | apply keep_drewN | apply keep_drew | apply keep_alloc) | exact HK.out)) hk (.inl rfl)); have n2_ := Aside0.mk (hb); have n3_ := Aside0.mk (hi); clear HO_3; clear HK; clear HB; clear HI0; have HO_3 := n0_; have HK := n1_; have HB := n2_; have HI0 := n3_; clear n0_ n1_ n2_ n3_; (try clear hb); (try clear hb2); (try clear hk); (try clear hi)))
        go_ret
        exact ⟨_, by first | rfl | (simp [errW_none, errW_some] <;> rfl) | (simp [*, errW_none, errW_some] <;> rfl), by (with_reducible repeat (first | apply Kd.R_alloc | apply Kd.R_drewN | apply Kd.R_drew)); exact HO_3.out, by repeat (first | (with_reducible first | exact HI0.out | apply IsS91.alloc | apply IsS91.drewN | apply IsS91.drew | apply IsS91.set_1) | exact HI0.out), by repeat (first | (with_reducible first | exact HB.out | apply below_alloc | apply pw_below_drewN | apply below_drew1 | refine below_set ?_ (IsS91.ge HI0.out)) | exact HB.out), by repeat (first | (with_reducible first | exact HK.out | apply KeepBut.set_ | apply keep_drewN | apply keep_drew | apply keep_alloc) | exact HK.out)⟩
end
end Go.Proofs.YtijompkonaiagaaGreatDoor.Q
namespace Go.Proofs.YtijompkonaiagaaGreatDoor.Q
open Go.RowKit Go.Proofs.YtijompkonaiagaaGreatDoorW.PrintWords Go.Proofs.YtijompkonaiagaaGreatDoorW.PrintMore Go.Proofs.YtijompkonaiagaaGreatDoor.Z
set_option linter.unusedVariables false
set_option linter.unusedSimpArgs false
theorem l72Convs_l0 {bs : List Int} (hb : isCode bs) (n : Nat) : ∀ (k : Nat) (l : List S28) (i : Nat) (p : Int), 2 - i ≤ n → i ≤ 2 → n + 200 < k → l.length ≤ i → 0 ≤ p → p + 300 * (n + 1) ≤ 60000000 → (∀ c ∈ l, c.f2.size ≤ 25 ∧ c.f3.size ≤ 25) → (0 < i → 0 < l.length) →
    ∃ r q, spec_l72Convs.l0 k l i bs p = some (r, q) ∧ r.length ≤ 2 ∧ 0 < r.length ∧ (∀ c ∈ r, c.f2.size ≤ 25 ∧ c.f3.size ≤ 25) ∧ p ≤ q ∧ q ≤ p + 300 * (n + 1) := by
  induction n with
  | zero =>
    intro k l i p hn hi hk hl h0 h1 hc hp
    obtain ⟨k, rfl⟩ : ∃ m, k = m + 1 := ⟨k - 1, by omega⟩
    obtain ⟨a, ha, a0, a1⟩ := pick_at k (by omega) hb p (by omega) 2 (by omega)
    simp only [spec_l72Convs.l0]
    rw [ha, Option.bind_some]
    simp only
    rw [w64 (by omega), if_neg (by omega)]
    exact ⟨l, p + 1, rfl, by omega, hp (by omega), hc, by omega, by omega⟩
  | succ n ih =>
    intro k l i p hn hi hk hl h0 h1 hc hp
    obtain ⟨k, rfl⟩ : ∃ m, k = m + 1 := ⟨k - 1, by omega⟩
    obtain ⟨a, ha, a0, a1⟩ := pick_at k (by omega) hb p (by omega) 2 (by omega)
    simp only [spec_l72Convs.l0]
    rw [ha, Option.bind_some]
    simp only
    rw [show wrap64 (1 + a) = 1 + a from w64 (by omega)]
    by_cases hlt : (i : Int) < 1 + a
    · rw [if_pos hlt]
      obtain ⟨b, hbb, _, _⟩ := pick_at k (by omega) hb (p + 1) (by omega) 2 (by omega)
      obtain ⟨c, hcc, _, _⟩ := pick_at k (by omega) hb (p + 1 + 1) (by omega) 4 (by omega)
      obtain ⟨s, q1, hs, hs2, hq1, hq2⟩ := l72Say_to k (by omega) hb (p + 1 + 1 + 1) (by omega) false
      obtain ⟨t, q2, ht, ht2, hq3, hq4⟩ := l72Say_to k (by omega) hb q1 (by omega) true
      rw [hbb, Option.bind_some]
      simp only
      rw [hcc, Option.bind_some]
      simp only
      rw [hs, Option.bind_some]
      simp only
      rw [ht, Option.bind_some]
      simp only
      rw [if_pos (by omega), show wrap64 ((i : Int) + 1) = ((i + 1 : Nat) : Int) from by rw [w64 (by omega)]; omega]
      obtain ⟨r, q, g1, g2, g3, g4, g5, g6⟩ := ih k (l ++ [(⟨(⟨wrap64 ((wrap64 (1 + (i : Int))) + b), wrap64 (1 + (i : Int))⟩ : S24), (⟨wrap64 (4 + (i : Int)), wrap64 (1 + c)⟩ : S24), s, t, 0, 0, (⟨#[]⟩ : ByteArray), (⟨#[]⟩ : ByteArray)⟩ : S28)]) (i + 1) q2 (by omega) (by omega) (by omega) (by rw [List.length_append, List.length_singleton]; omega) (by omega) (by omega) (by
        intro x hx
        rcases List.mem_append.1 hx with h | h
        · exact hc x h
        · rw [List.mem_singleton] at h
          rw [h]
          exact ⟨hs2, ht2⟩) (fun _ => by rw [List.length_append, List.length_singleton]; omega)
      exact ⟨r, q, g1, g2, g3, g4, by omega, by omega⟩
    · rw [if_neg hlt]
      exact ⟨l, p + 1, rfl, by omega, hp (by omega), hc, by omega, by omega⟩
theorem l72Convs_to (k : Nat) (hk : 300 < k) {bs : List Int} (hb : isCode bs) (p : Int) (hp : 0 ≤ p ∧ p ≤ 1000000) :
    ∃ r q, spec_l72Convs.f k bs p = some (r, q) ∧ r.length ≤ 2 ∧ 0 < r.length ∧ (∀ c ∈ r, c.f2.size ≤ 25 ∧ c.f3.size ≤ 25) ∧ p ≤ q ∧ q ≤ p + 900 := by
  obtain ⟨r, q, g1, g2, g3, g4, g5, g6⟩ := l72Convs_l0 hb 2 k [] 0 p (by omega) (by omega) (by omega) (by simp) (by omega) (by omega) (by intro c hc; cases hc) (fun h => absurd h (by omega))
  exact ⟨r, q, g1, g2, g3, g4, g5, by omega⟩
end Go.Proofs.YtijompkonaiagaaGreatDoor.Q
namespace Go.Proofs.YtijompkonaiagaaGreatDoor.Q
open Go.RowKit Go.Proofs.YtijompkonaiagaaGreatDoorW.PrintWords Go.Proofs.YtijompkonaiagaaGreatDoorW.PrintMore Go.Proofs.YtijompkonaiagaaGreatDoor.Z
set_option linter.unusedVariables false
set_option linter.unusedSimpArgs false
attribute [local go_sem ↓] Go.wp_at_zero Go.wp_at_succ
def strings_Clone.f (a0 : ByteArray) : Option ByteArray := if a0.size ≤ 281474976710656 then some a0 else none
theorem strings_Clone.calls (a0 : ByteArray) (r : ByteArray) (w : World) (h : strings_Clone.f a0 = some r) :
    Calls Tryz.prog 88 #[.string a0] w fun e w' => e = .returned (.string r) ∧ Below w.heap.size w w' := by
  unfold strings_Clone.f at h
  split at h
  · rename_i hs
    obtain rfl := Option.some.inj h
    have HC := Aside0.mk (fun w => Tryz.stringslite_Clone a0 w hs)
    clear hs h
    go_enter Tryz.func88, Tryz.ntmps88
    go_wp2_with (go_at_call 105; refine (HC.out _).mono ?_; rintro r w1 ⟨rfl, hb1⟩)
    go_ret
    exact ⟨rfl, hb1⟩
  · cases h
def joinB (l0 : List ByteArray) (a1 : ByteArray) : List UInt8 := Go.Lib.join (l0.map (·.data.toList)) a1.data.toList
def strings_Join.f (l0 : List ByteArray) (a1 : ByteArray) : Option ByteArray := if l0.length ≤ 140737488355328 ∧ (joinB l0 a1).length ≤ 140737488355328 then some ⟨(joinB l0 a1).toArray⟩ else none
theorem strings_Join.calls (A0 : Option Addr) (c0 : Nat) (l0 : List ByteArray) (a1 : ByteArray) (r : ByteArray) (w : World) (hr0 : Kd.C Kd.string w A0 l0.length l0) (hc0 : l0.length ≤ c0) (h : strings_Join.f l0 a1 = some r) :
    Calls Tryz.prog 60 #[.slice A0 l0.length c0, .string a1] w fun e w' => e = .returned (.string r) ∧ Below w.heap.size w w' := by
  unfold strings_Join.f at h
  split at h
  · rename_i hs
    obtain rfl := Option.some.inj h
    rcases Nat.eq_zero_or_pos l0.length with h0 | h0
    · obtain rfl := List.length_eq_zero_iff.1 h0
      refine (Tryz.strings_Join_none A0 c0 a1 w).mono ?_
      rintro e w' ⟨rfl, rfl⟩
      exact ⟨rfl, Below.refl _ _⟩
    · obtain ⟨ad, rfl, hx⟩ := hr0.2.2 h0
      have hcell : ∀ (j : Nat) x, l0[j]? = some x → w.cell? (ad.add j) = some (.string x) := by
        intro j x hj
        obtain ⟨cs, hl, hK, hc⟩ := hx j x hj
        have h1 : cs = [.string x] := hK
        subst h1
        have h2 := hc 0 (.string x) rfl
        rw [Nat.add_zero, show Kd.string.sz = 1 from rfl, Nat.mul_one] at h2
        exact h2
      have hlt : ad.block < w.heap.size := by
        have h1 := hcell 0 _ (List.getElem?_eq_getElem h0)
        have h2 := World.block_lt_of_cell? w _ h1
        have h3 : (ad.add 0).block = ad.block := by unfold Addr.add; split <;> rfl
        omega
      obtain ⟨b, o, p⟩ := ad
      cases p with
      | none => exact Tryz.strings_Join b o c0 l0 a1 w (fun j x hj => by have := hcell j x hj; rwa [Addr.add_lit] at this) hlt hs.1 hc0 hs.2
      | some p =>
        have h1 := hcell 0 _ (List.getElem?_eq_getElem h0)
        have h2 := World.cell?_spot h1
        cases h2
  · cases h
end Go.Proofs.YtijompkonaiagaaGreatDoor.Q
namespace Go.Proofs.YtijompkonaiagaaGreatDoor.Q
open Go.RowKit Go.Proofs.YtijompkonaiagaaGreatDoorW.PrintWords Go.Proofs.YtijompkonaiagaaGreatDoorW.PrintMore Go.Proofs.YtijompkonaiagaaGreatDoor.Z
set_option linter.unusedVariables false
set_option linter.unusedSimpArgs false
theorem rd_pc (ps : List Pc) (i : Nat) (p : Pc) (h : ps[i]? = some p) : rd_T67 (ps.map pcTo) (i : Int) = pcTo p := by
  unfold rd_T67
  rw [Int.toNat_natCast, List.getD_eq_getElem?_getD, List.getElem?_map, h]
  rfl
theorem drop_of {α : Type} {ps : List α} {i : Nat} {p : α} (h : ps[i]? = some p) : ps.drop i = p :: ps.drop (i + 1) := by
  obtain ⟨hi, e⟩ := List.getElem?_eq_some_iff.1 h
  rw [List.drop_eq_getElem_cons hi, e]
theorem body_len (l : List UInt8) : (body l).length ≤ l.length := by unfold body; rw [List.length_take]; omega
theorem textOk_len {l : List UInt8} (h : textOk l = true) : l.length ≤ 40 := by
  unfold textOk at h
  rw [Bool.and_eq_true, decide_eq_true_iff] at h
  omega
end Go.Proofs.YtijompkonaiagaaGreatDoor.Q
namespace Go.Proofs.YtijompkonaiagaaGreatDoor.Q
open Go.RowKit Go.Proofs.YtijompkonaiagaaGreatDoorW.PrintWords Go.Proofs.YtijompkonaiagaaGreatDoorW.PrintLast Go.Proofs.YtijompkonaiagaaGreatDoorW.PrintMore Go.Proofs.YtijompkonaiagaaGreatDoor.Z
attribute [local go_sem] max2_int min2_int max_two min_two max_three min_three max_four min_four
set_option linter.unusedVariables false
set_option linter.unusedSimpArgs false
noncomputable section
def impl_TextPieces.f (k : Nat) (a0 : ByteArray) : Option ((List (S67))) := (impl_TextOk.f a0).bind fun t101 => (if t101 = true then ((impl_pieces.f k a0).bind fun t102 => (some t102)) else (some ([] : List (S67))))
set_option maxHeartbeats 8000000 in
set_option maxRecDepth 100000 in
theorem impl_TextPieces.calls (k : Nat) (a0 : ByteArray) (r : List (S67)) (w : World) (hV : VarsIn w) (h : impl_TextPieces.f k a0 = some r) :
    Calls Tryz.prog 39 #[.string a0] w fun e w' => ∃ v0_ : Value, e = .returned (v0_) ∧ Kd.V k67 67 w' w.heap.size (fun k_ => (w.heap.size ≤ k_)) v0_ r ∧ Below w.heap.size w w' := by
  have HB := Aside0.mk (Below.refl w.heap.size w)
  have H : ((impl_TextOk.f a0).bind fun t101 => (if t101 = true then ((impl_pieces.f k a0).bind fun t102 => (some t102)) else (some ([] : List (S67))))) = some r := h
  clear h
  replace H := Option.bind_eq_some_iff.mp H
  obtain ⟨t101, A20, H⟩ := H
  replace H : (if t101 = true then ((impl_pieces.f k a0).bind fun t102 => (some t102)) else (some ([] : List (S67)))) = some r := H
  have A2 := Aside0.mk A20
  clear A20
  by_cases c3 : t101 = true
  · subst c3
    have H1 : ((impl_pieces.f k a0).bind fun t102 => (some t102)) = some r := by rw [if_pos rfl] at H; exact H
    clear H
    have H := H1
    clear H1
    replace H := Option.bind_eq_some_iff.mp H
    obtain ⟨t102, A40, H⟩ := H
    replace H : (some t102) = some r := H
    have A4 := Aside0.mk A40
    clear A40
    obtain rfl := Option.some.inj H
    go_enter Tryz.func39, Tryz.ntmps39
    go_wp2_with (first | ((with_reducible refine gate_callee (f := 53) rfl ?_); refine goesL_ (some 4) rfl rfl Tryz.func53 (by kernel_rfl) rfl #[.string a0] rfl (by (try simp only [List.map_toArray, List.map_cons, List.map_nil]); first | done | rfl | (simp only [List.length_drop, List.length_take]; rfl)) ?_; (with_reducible refine (impl_TextOk.calls a0 true _ A2.out).mono ?_); rintro e w5 ⟨rfl, hb⟩; refine ⟨_, rfl, ?_⟩; have n0_ := Aside0.mk (below_step (by repeat (first | (with_reducible first | exact HB.out | apply below_alloc | apply pw_below_drewN | apply below_drew1) | exact HB.out)) hb); clear HB; have HB := n0_; clear n0_; (try clear hb); (try clear hb2); (try clear hk); (try clear hi)) | ((with_reducible refine gate_callee (f := 59) rfl ?_); refine goesL_ (some 7) rfl rfl Tryz.func59 (by kernel_rfl) rfl #[.string a0] rfl (by (try simp only [List.map_toArray, List.map_cons, List.map_nil]); first | done | rfl | (simp only [List.length_drop, List.length_take]; rfl)) ?_; (with_reducible refine (impl_pieces.calls k a0 t102 _ ?side1 A4.out).mono ?_); (case side1 => exact hV.next (by repeat (first | (with_reducible first | exact HB.out | apply below_alloc | apply pw_below_drewN | apply below_drew1) | exact HB.out))); rintro e w6 ⟨v103, rfl, ho0, hb⟩; refine ⟨_, rfl, ?_⟩; have n0_ := Aside0.mk (Kd.V_lower (Kd.V_mono (ok' := fun k_ => (w.heap.size ≤ k_)) ho0 (fun k_ hk_ => (Nat.le_trans (below_size (by repeat (first | (with_reducible first | exact HB.out | apply below_alloc | apply pw_below_drewN | apply below_drew1) | exact HB.out))) hk_))) (below_size (by repeat (first | (with_reducible first | exact HB.out | apply below_alloc | apply pw_below_drewN | apply below_drew1) | exact HB.out)))); have n1_ := Aside0.mk (below_step (by repeat (first | (with_reducible first | exact HB.out | apply below_alloc | apply pw_below_drewN | apply below_drew1) | exact HB.out)) hb); clear HB; have HO104 := n0_; have HB := n1_; clear n0_ n1_; (try clear hb); (try clear hb2); (try clear hk); (try clear hi); (try clear ho0)))
    go_ret
    exact ⟨_, by first | rfl | (simp [errW_none, errW_some] <;> rfl) | (simp [*, errW_none, errW_some] <;> rfl), by (with_reducible repeat (first | apply Kd.V_alloc | apply Kd.V_drewN | apply Kd.V_drew)); exact HO104.out, by repeat (first | (with_reducible first | exact HB.out | apply below_alloc | apply pw_below_drewN | apply below_drew1) | exact HB.out)⟩
  · replace c3 := Bool.eq_false_iff.mpr c3
    subst c3
    have H1 : (some ([] : List (S67))) = some r := by rw [if_neg (show ¬ (false = true) by decide)] at H; exact H
    clear H
    have H := H1
    clear H1
    obtain rfl := Option.some.inj H
    go_enter Tryz.func39, Tryz.ntmps39
    go_wp2_with (first | ((with_reducible refine gate_callee (f := 53) rfl ?_); refine goesL_ (some 4) rfl rfl Tryz.func53 (by kernel_rfl) rfl #[.string a0] rfl (by (try simp only [List.map_toArray, List.map_cons, List.map_nil]); first | done | rfl | (simp only [List.length_drop, List.length_take]; rfl)) ?_; (with_reducible refine (impl_TextOk.calls a0 false _ A2.out).mono ?_); rintro e w7 ⟨rfl, hb⟩; refine ⟨_, rfl, ?_⟩; have n0_ := Aside0.mk (below_step (by repeat (first | (with_reducible first | exact HB.out | apply below_alloc | apply pw_below_drewN | apply below_drew1) | exact HB.out)) hb); clear HB; have HB := n0_; clear n0_; (try clear hb); (try clear hb2); (try clear hk); (try clear hi)))
    go_ret
    exact ⟨_, by first | rfl | (simp [errW_none, errW_some] <;> rfl) | (simp [*, errW_none, errW_some] <;> rfl), (by first | exact Kd.V_nil _ _ _ _ _ | exact Kd.R_V (Kd.R_nil _ _ _ _ _)), by repeat (first | (with_reducible first | exact HB.out | apply below_alloc | apply pw_below_drewN | apply below_drew1) | exact HB.out)⟩
end
end Go.Proofs.YtijompkonaiagaaGreatDoor.Q
namespace Go.Proofs.YtijompkonaiagaaGreatDoor.Q
open Go.RowKit Go.Proofs.YtijompkonaiagaaGreatDoorW.PrintWords Go.Proofs.YtijompkonaiagaaGreatDoorW.PrintLast Go.Proofs.YtijompkonaiagaaGreatDoorW.PrintMore Go.Proofs.YtijompkonaiagaaGreatDoor.Z
attribute [local go_sem] max2_int min2_int max_two min_two max_three min_three max_four min_four
set_option linter.unusedVariables false
set_option linter.unusedSimpArgs false
noncomputable section
def impl_TextNames.l0 : Nat → List (S24) → List (S67) → Int → Int → Option ((List (S24)))
  | 0, _, _, _, _ => none
  | k + 1, x3, x8, x9, x10 => if x10 < x9 then (if 0 ≤ x10 then (if x10 < (x8.length : Int) then (if (rd_T67 x8 x10).f1 = true then (if x3.length < 8796093022208 then (impl_TextNames.l0 k (x3 ++ [(⟨(rd_T67 x8 x10).f2.f0, (rd_T67 x8 x10).f2.f1⟩ : S24)]) x8 x9 (wrap64 (x10 + 1))) else (none)) else (impl_TextNames.l0 k x3 x8 x9 (wrap64 (x10 + 1)))) else (none)) else (none)) else ((slices_Clip_End.f x3).bind fun t112 => (some t112))
def impl_TextNames.f (k : Nat) (a0 : ByteArray) : Option ((List (S24))) := (impl_TextPieces.f k a0).bind fun t104 => (impl_TextNames.l0 k (([] : List (S24))) t104 (t104.length : Int) 0)
set_option maxHeartbeats 8000000 in
set_option maxRecDepth 100000 in
theorem impl_TextNames.calls (k : Nat) (a0 : ByteArray) (r : List (S24)) (w : World) (hV : VarsIn w) (h : impl_TextNames.f k a0 = some r) :
    Calls Tryz.prog 34 #[.string a0] w fun e w' => ∃ v0_ : Value, e = .returned (v0_) ∧ Kd.V k24 24 w' w.heap.size (fun k_ => (w.heap.size ≤ k_)) v0_ r ∧ Below w.heap.size w w' := by
  have hu67 := Tryz.underlying67
  have hu24 := Tryz.underlying24
  have HB := Aside0.mk (Below.refl w.heap.size w)
  have H : ((impl_TextPieces.f k a0).bind fun t104 => (impl_TextNames.l0 k (([] : List (S24))) t104 (t104.length : Int) 0)) = some r := h
  clear h
  obtain ⟨y101, hy101⟩ : ∃ y_ : List (S24), y_ = (([] : List (S24))) := ⟨_, rfl⟩
  replace H : ((impl_TextPieces.f k a0).bind fun t104 => (impl_TextNames.l0 k y101 t104 (t104.length : Int) 0)) = some r := by first | (rw [hy101]; with_reducible exact H) | (have H2_ := (Option.bind_some _ _).symm.trans H; rw [hy101]; with_reducible exact H2_) | (have H2_ := (Option.bind_some _ _).symm.trans H; with_reducible exact H2_) | with_reducible exact H | (rw [hy101]; exact H) | exact H
  have Ny101 := Aside0.mk hy101
  clear hy101
  replace H := Option.bind_eq_some_iff.mp H
  obtain ⟨t104, A20, H⟩ := H
  replace H : (impl_TextNames.l0 k y101 t104 (t104.length : Int) 0) = some r := H
  have A2 := Aside0.mk A20
  clear A20
  have H' := Aside0.mk H
  clear H
  go_enter Tryz.func34, Tryz.ntmps34
  go_wp2_with (first | ((with_reducible refine gate_dst (N := 6) rfl ?_); refine Kd.R_lit k24 _ 24 ?hg (N := 6) ?hd (xs := ([] : List (S24))) (inner := []) (ok := fun _ => True) (okp := fun _ => True) ?hr ?hp (fun _ hk => hk) trivial (Below.refl _ _) (Nat.le_refl _) (by simp) ?_; (case hd => rfl); (case hg => rfl); (case hr => first | (go_simp; done) | (go_simp; rfl)); (case hp => exact (Reps.none _ _)); intro v102 w3 ho4 hb hg_ hnew_; clear hg_ hnew_; (first | rw [← Ny101.out] at ho4 | (simp only [Int.reduceToNat] at ho4; rw [← Ny101.out] at ho4)); have n0_ := Aside0.mk (Kd.R_lower (Kd.R_newM (M := fun k_ => (w.heap.size ≤ k_)) ho4 (below_size (by repeat (first | (with_reducible first | exact HB.out | apply below_alloc | apply pw_below_drewN | apply below_drew1) | exact HB.out))) (fun k_ h_ => h_)) (below_size (by repeat (first | (with_reducible first | exact HB.out | apply below_alloc | apply pw_below_drewN | apply below_drew1) | exact HB.out)))); have n1_ := Aside0.mk (below_step (by repeat (first | (with_reducible first | exact HB.out | apply below_alloc | apply pw_below_drewN | apply below_drew1) | exact HB.out)) hb); clear HB; have HO103 := n0_; have HB := n1_; clear n0_ n1_; clear hb ho4) | ((with_reducible refine gate_callee (f := 39) rfl ?_); refine goesL_ (some 8) rfl rfl Tryz.func39 (by kernel_rfl) rfl #[.string a0] rfl (by (try simp only [List.map_toArray, List.map_cons, List.map_nil]); first | done | rfl | (simp only [List.length_drop, List.length_take]; rfl)) ?_; (with_reducible refine (impl_TextPieces.calls k a0 t104 _ ?side1 A2.out).mono ?_); (case side1 => exact hV.next (by repeat (first | (with_reducible first | exact HB.out | apply below_alloc | apply pw_below_drewN | apply below_drew1) | exact HB.out))); rintro e w5 ⟨v105, rfl, ho0, hb⟩; refine ⟨_, rfl, ?_⟩; have n0_ := Aside0.mk (Kd.R_below (by (with_reducible repeat (first | apply Kd.R_alloc | apply Kd.R_drewN | apply Kd.R_drew)); exact HO103.out) hb); have n1_ := Aside0.mk (Kd.V_lower (Kd.V_mono (ok' := fun k_ => (w.heap.size ≤ k_) ∧ some k_ ≠ (v102 : Value).ownBlock) ho0 (fun k_ hk_ => ⟨(Nat.le_trans (below_size (by repeat (first | (with_reducible first | exact HB.out | apply below_alloc | apply pw_below_drewN | apply below_drew1) | exact HB.out))) hk_), (Kd.fresh' (Kd.R_lt (by (with_reducible repeat (first | apply Kd.R_alloc | apply Kd.R_drewN | apply Kd.R_drew)); exact HO103.out)) k_ hk_)⟩)) (below_size (by repeat (first | (with_reducible first | exact HB.out | apply below_alloc | apply pw_below_drewN | apply below_drew1) | exact HB.out)))); have n2_ := Aside0.mk (below_step (by repeat (first | (with_reducible first | exact HB.out | apply below_alloc | apply pw_below_drewN | apply below_drew1) | exact HB.out)) hb); clear HO103; clear HB; have HO103 := n0_; have HO106 := n1_; have HB := n2_; clear n0_ n1_ n2_; (try clear hb); (try clear hb2); (try clear hk); (try clear hi); (try clear ho0); obtain ⟨Ao6, co6, eo6⟩ := Kd.V_slice HO106.out; subst eo6))
  go_loopg [3, 10] k (fun kq v3 v10 w' => ∃ (x3_1 : List (S24)) (x10_1 : Int), v10 = .int .i64 x10_1 ∧ Aside0 (impl_TextNames.l0 kq x3_1 t104 (t104.length : Int) x10_1 = some r) ∧ Aside0 (kq ≤ k) ∧ Aside0 (Kd.R k24 24 w' w.heap.size (fun k_ => (w.heap.size ≤ k_)) v3 x3_1) ∧ Aside0 (Kd.V k67 67 w' w.heap.size (fun k_ => (w.heap.size ≤ k_) ∧ some k_ ≠ (v3 : Value).ownBlock) (.slice Ao6 t104.length co6) t104) ∧ Aside0 (Below w.heap.size w w'))
  case atStart => exact ⟨(y101), (0), (by first | rfl | (simp; done) | (simp [*]; done)), H', ⟨Nat.le_refl _⟩, ⟨by (with_reducible repeat (first | apply Kd.R_alloc | apply Kd.R_drewN | apply Kd.R_drew)); exact Kd.R_mono HO103.out (fun _ hk => hk.1)⟩, ⟨by (with_reducible repeat (first | apply Kd.V_alloc | apply Kd.V_drewN | apply Kd.V_drew)); exact HO106.out⟩, ⟨by repeat (first | (with_reducible first | exact HB.out | apply below_alloc | apply pw_below_drewN | apply below_drew1) | exact HB.out)⟩⟩
  case round =>
    clear H'
    try clear p2
    try clear c3
    obtain ⟨x3_1, x10_1, rfl, HA, HK1, HO_3, HO_8, HB⟩ := hrel
    cases gk with
    | zero => exact absurd HA.out (by simp [impl_TextNames.l0])
    | succ k1 =>
      have H := HA.out
      clear HA
      simp only [impl_TextNames.l0] at H
      by_cases c7 : x10_1 < (t104.length : Int)
      · rw [if_pos c7] at H
        have c7b0 : decide (x10_1 < (t104.length : Int)) = true := decide_eq_true c7
        clear c7
        by_cases c8 : 0 ≤ x10_1
        · rw [if_pos c8] at H
          have c8b0 : decide (0 ≤ x10_1) = true := decide_eq_true c8
          clear c8
          by_cases c9 : x10_1 < (t104.length : Int)
          · rw [if_pos c9] at H
            have c9b0 : decide (x10_1 < (t104.length : Int)) = true := decide_eq_true c9
            clear c9
            obtain ⟨bq10, hbq10⟩ : ∃ b_ : Bool, b_ = ((rd_T67 t104 x10_1).f1) := ⟨_, rfl⟩
            replace H : (if bq10 = true then (if x3_1.length < 8796093022208 then (impl_TextNames.l0 k1 (x3_1 ++ [(⟨(rd_T67 t104 x10_1).f2.f0, (rd_T67 t104 x10_1).f2.f1⟩ : S24)]) t104 (t104.length : Int) (wrap64 (x10_1 + 1))) else (none)) else (impl_TextNames.l0 k1 x3_1 t104 (t104.length : Int) (wrap64 (x10_1 + 1)))) = some r := by rw [← hbq10] at H; exact H
            have Nbq10 := Aside0.mk hbq10
            clear hbq10
            by_cases c11 : bq10 = true
            · subst c11
              have H1 : (if x3_1.length < 8796093022208 then (impl_TextNames.l0 k1 (x3_1 ++ [(⟨(rd_T67 t104 x10_1).f2.f0, (rd_T67 t104 x10_1).f2.f1⟩ : S24)]) t104 (t104.length : Int) (wrap64 (x10_1 + 1))) else (none)) = some r := by rw [if_pos rfl] at H; exact H
              clear H
              have H := H1
              clear H1
              by_cases c12 : x3_1.length < 8796093022208
              · rw [if_pos c12] at H
                have LMc12 := Aside0.mk c12
                clear c12
                obtain ⟨y109, hy109⟩ : ∃ y_ : List (S24), y_ = (x3_1 ++ [(⟨(rd_T67 t104 x10_1).f2.f0, (rd_T67 t104 x10_1).f2.f1⟩ : S24)]) := ⟨_, rfl⟩
                replace H : (impl_TextNames.l0 k1 y109 t104 (t104.length : Int) (wrap64 (x10_1 + 1))) = some r := by first | (rw [hy109]; with_reducible exact H) | (have H2_ := (Option.bind_some _ _).symm.trans H; rw [hy109]; with_reducible exact H2_) | (have H2_ := (Option.bind_some _ _).symm.trans H; with_reducible exact H2_) | with_reducible exact H | (rw [hy109]; exact H) | exact H
                have Ny109 := Aside0.mk hy109
                clear hy109
                have H' := Aside0.mk H
                clear H
                have p107 : 0 ≤ (x10_1 : Int) := of_decide_eq_true (by first | (with_reducible assumption) | assumption)
                have q107 : x10_1 < (t104.length : Int) := of_decide_eq_true (by first | (with_reducible assumption) | assumption)
                obtain ⟨ad107, e107, hx107_0, hx107_1, hx107_2, hx107_3⟩ := at_T67 (Kd.V_reads' HO_8.out).2.2 x10_1 p107 q107
                (try rw [← Nbq10.out] at hx107_1)
                cases e107
                replace p107 := eq_true p107
                replace q107 := eq_true q107
                go_wp2_with (first | ((with_reducible refine gate_dst (N := 5) rfl ?_); refine box_event ?hg (N := 5) ?hd (cs := #[.int .i64 0, .bool false, .int .i64 0, .int .i64 0]) (t := 67) ?hr ?_; (case hd => rfl); (case hg => rfl); (case hr => first | (go_simp; done) | (go_simp; rfl)); intro gb108 hg w13 hbox hb; have n0_ := Aside0.mk (Kd.R_below (by (with_reducible repeat (first | apply Kd.R_alloc | apply Kd.R_drewN | apply Kd.R_drew)); exact HO_3.out) hb); have n1_ := Aside0.mk (Kd.V_below (Kd.V_elderB (by (with_reducible repeat (first | apply Kd.V_alloc | apply Kd.V_drewN | apply Kd.V_drew)); exact HO_8.out) gb108 (Nat.le_of_eq hg.symm)) hb); have n2_ := Aside0.mk (below_step (by repeat (first | (with_reducible first | exact HB.out | apply below_alloc | apply pw_below_drewN | apply below_drew1) | exact HB.out)) hb); have n3_ := Aside0.mk (hbox); have n4_ := Aside0.mk ((by rw [hg]; exact (below_size (by repeat (first | (with_reducible first | exact HB.out | apply below_alloc | apply pw_below_drewN | apply below_drew1) | exact HB.out))) : w.heap.size ≤ gb108)); have n5_ := Aside0.mk ((by rw [hg]; exact (below_size (by repeat (first | (with_reducible first | exact HB.out | apply below_alloc | apply pw_below_drewN | apply below_drew1) | exact HB.out))) : w.heap.size ≤ gb108)); clear HO_3; clear HO_8; clear HB; have HO_3 := n0_; have HO_8 := n1_; have HB := n2_; have BK108 := n3_; have GW108 := n4_; have GE108 := n5_; clear n0_ n1_ n2_ n3_ n4_ n5_; clear hb hbox hg; have hcz14_0 : w13.cell? ⟨gb108, 0, none⟩ = some (.int .i64 0) := (blk_cell BK108.out 0).trans rfl; have hcz14_1 : w13.cell? ⟨gb108, 1, none⟩ = some (.bool false) := (blk_cell BK108.out 1).trans rfl; have hcz14_2 : w13.cell? ⟨gb108, 2, none⟩ = some (.int .i64 0) := (blk_cell BK108.out 2).trans rfl; have hcz14_3 : w13.cell? ⟨gb108, 3, none⟩ = some (.int .i64 0) := (blk_cell BK108.out 3).trans rfl; have hfz14_0 := blk_frozen BK108.out 0; have hfz14_1 := blk_frozen BK108.out 1; have hfz14_2 := blk_frozen BK108.out 2; have hfz14_3 := blk_frozen BK108.out 3) | ((with_reducible refine gate_builtin (b := .append) (xs := #[.tmp 16, .tmp 19]) rfl ?_); at_builtin; refine Kd.R_append k24 (w0 := w) w.heap.size rfl (.tmp 16) (.tmp 19) 46 24 (.agg #[(.int .i64 0), (.int .i64 0)]) 16 rfl Tryz.underlying46 info24 rfl (by decide) (by omega) u3 x3_1 (⟨(rd_T67 t104 x10_1).f2.f0, (rd_T67 t104 x10_1).f2.f1⟩ : S24) [.int .i64 ((rd_T67 t104 x10_1).f2.f0), .int .i64 ((rd_T67 t104 x10_1).f2.f1)] (fun k_ => (w.heap.size ≤ k_)) (fun _ => False) rfl (by first | (go_simp; done) | (go_simp; rfl)) ?aP (fun _ hk => hk.elim) ?aF ?aO ?aB ?aS ?aL ?_; (case aP => exact k24_mkM _ _ _ (⟨(rd_T67 t104 x10_1).f2.f0, (rd_T67 t104 x10_1).f2.f1⟩ : S24)); (case aB => exact (by repeat (first | (with_reducible first | exact HB.out | apply below_alloc | apply pw_below_drewN | apply below_drew1 | refine below_set ?_ GE108.out) | exact HB.out))); (case aF => exact (fun k_ hk => (Nat.le_trans (below_size (by repeat (first | (with_reducible first | exact HB.out | apply below_alloc | apply pw_below_drewN | apply below_drew1 | refine below_set ?_ GE108.out) | exact HB.out))) hk))); (case aO => exact (by (with_reducible repeat (first | apply Kd.R_alloc | apply Kd.R_drewN | apply Kd.R_drew)); exact Kd.R_mono (Kd.R_far (p := ⟨gb108, 3, none⟩) (Kd.R_far (p := ⟨gb108, 2, none⟩) (Kd.R_far (p := ⟨gb108, 1, none⟩) (Kd.R_far (p := ⟨gb108, 0, none⟩) (Kd.R_types HO_3.out BK108.out (by decide)) (fun _ hk => hk.2) (.int .i64 ((rd_T67 t104 x10_1).f0))) (fun _ hk => hk.2) (.bool true)) (fun _ hk => hk.2) (.int .i64 ((rd_T67 t104 x10_1).f2.f0))) (fun _ hk => hk.2) (.int .i64 ((rd_T67 t104 x10_1).f2.f1))) (fun _ hk => hk.1))); (case aS => exact (below_size (by repeat (first | (with_reducible first | exact HB.out | apply below_alloc | apply pw_below_drewN | apply below_drew1 | refine below_set ?_ GE108.out) | exact HB.out)))); (case aL => have := LMc12.out; omega); intro v110 w15 ho hb hg hat; rw [← Ny109.out] at ho; have n0_ := Aside0.mk (Kd.V_afterv (ok := (fun k_ => (w.heap.size ≤ k_) ∧ k_ ≠ gb108)) (by (with_reducible repeat (first | apply Kd.V_alloc | apply Kd.V_drewN | apply Kd.V_drew)); exact Kd.V_mono (Kd.V_far (p := ⟨gb108, 3, none⟩) (Kd.V_far (p := ⟨gb108, 2, none⟩) (Kd.V_far (p := ⟨gb108, 1, none⟩) (Kd.V_far (p := ⟨gb108, 0, none⟩) (Kd.V_mono HO_8.out (fun k_ hk => (⟨hk, hk.2⟩ : _ ∧ k_ ≠ gb108))) (fun _ hk => hk.2) (.int .i64 ((rd_T67 t104 x10_1).f0))) (fun _ hk => hk.2) (.bool true)) (fun _ hk => hk.2) (.int .i64 ((rd_T67 t104 x10_1).f2.f0))) (fun _ hk => hk.2) (.int .i64 ((rd_T67 t104 x10_1).f2.f1))) (fun _ hk => ⟨⟨hk.1.1.1, hk.1.2⟩, hk.1.1.2⟩)) hg hat); have n1_ := Aside0.mk (blk_grown (g := gb108) (o := .cells #[.int .i64 ((rd_T67 t104 x10_1).f0), .bool true, .int .i64 ((rd_T67 t104 x10_1).f2.f0), .int .i64 ((rd_T67 t104 x10_1).f2.f1)] 67 (0, 0)) (by (with_reducible repeat (first | refine blk_drewN ?_ _ | refine blk_drew ?_ | refine blk_alloc ?_ _)); refine blk_put (cs := #[.int .i64 ((rd_T67 t104 x10_1).f0), .bool true, .int .i64 ((rd_T67 t104 x10_1).f2.f0), .int .i64 0]) ?_ 3 _ rfl; (with_reducible repeat (first | refine blk_drewN ?_ _ | refine blk_drew ?_ | refine blk_alloc ?_ _)); refine blk_put (cs := #[.int .i64 ((rd_T67 t104 x10_1).f0), .bool true, .int .i64 0, .int .i64 0]) ?_ 2 _ rfl; (with_reducible repeat (first | refine blk_drewN ?_ _ | refine blk_drew ?_ | refine blk_alloc ?_ _)); refine blk_put (cs := #[.int .i64 ((rd_T67 t104 x10_1).f0), .bool false, .int .i64 0, .int .i64 0]) ?_ 1 _ rfl; (with_reducible repeat (first | refine blk_drewN ?_ _ | refine blk_drew ?_ | refine blk_alloc ?_ _)); refine blk_put (cs := #[.int .i64 0, .bool false, .int .i64 0, .int .i64 0]) ?_ 0 _ rfl; (with_reducible repeat (first | refine blk_drewN ?_ _ | refine blk_drew ?_ | refine blk_alloc ?_ _)); exact BK108.out) hg (Kd.R_ne HO_3.out BK108.out (by decide))); have n2_ := Aside0.mk (hb); have n3_ := Aside0.mk (ho); clear HO_8; clear BK108; clear HB; clear HO_3; have HO_8 := n0_; have BK108 := n1_; have HB := n2_; have HO111 := n3_; clear n0_ n1_ n2_ n3_; clear ho hb hg hat))
                go_roundg k1
                case measure => have := HK1.out; omega
                case rel => exact ⟨(y109), (wrap64 (x10_1 + 1)), (by first | rfl | (simp; done) | (simp [*]; done)), H', ⟨by have := HK1.out; omega⟩, ⟨by (with_reducible repeat (first | apply Kd.R_alloc | apply Kd.R_drewN | apply Kd.R_drew)); exact HO111.out⟩, ⟨by (with_reducible repeat (first | apply Kd.V_alloc | apply Kd.V_drewN | apply Kd.V_drew)); exact Kd.V_mono HO_8.out (fun _ hk => ⟨hk.1.1, hk.2⟩)⟩, ⟨by repeat (first | (with_reducible first | exact HB.out | apply below_alloc | apply pw_below_drewN | apply below_drew1 | refine below_set ?_ GE108.out) | exact HB.out)⟩⟩
              · rw [if_neg c12] at H
                exact absurd H (by simp)
            · replace c11 := Bool.eq_false_iff.mpr c11
              subst c11
              have H1 : (impl_TextNames.l0 k1 x3_1 t104 (t104.length : Int) (wrap64 (x10_1 + 1))) = some r := by rw [if_neg (show ¬ (false = true) by decide)] at H; exact H
              clear H
              have H := H1
              clear H1
              have H' := Aside0.mk H
              clear H
              have p107 : 0 ≤ (x10_1 : Int) := of_decide_eq_true (by first | (with_reducible assumption) | assumption)
              have q107 : x10_1 < (t104.length : Int) := of_decide_eq_true (by first | (with_reducible assumption) | assumption)
              obtain ⟨ad107, e107, hx107_0, hx107_1, hx107_2, hx107_3⟩ := at_T67 (Kd.V_reads' HO_8.out).2.2 x10_1 p107 q107
              (try rw [← Nbq10.out] at hx107_1)
              cases e107
              replace p107 := eq_true p107
              replace q107 := eq_true q107
              go_wp2_with (first | ((with_reducible refine gate_dst (N := 5) rfl ?_); refine box_event ?hg (N := 5) ?hd (cs := #[.int .i64 0, .bool false, .int .i64 0, .int .i64 0]) (t := 67) ?hr ?_; (case hd => rfl); (case hg => rfl); (case hr => first | (go_simp; done) | (go_simp; rfl)); intro gb108 hg w16 hbox hb; have n0_ := Aside0.mk (Kd.R_below (by (with_reducible repeat (first | apply Kd.R_alloc | apply Kd.R_drewN | apply Kd.R_drew)); exact HO_3.out) hb); have n1_ := Aside0.mk (Kd.V_below (Kd.V_elderB (by (with_reducible repeat (first | apply Kd.V_alloc | apply Kd.V_drewN | apply Kd.V_drew)); exact HO_8.out) gb108 (Nat.le_of_eq hg.symm)) hb); have n2_ := Aside0.mk (below_step (by repeat (first | (with_reducible first | exact HB.out | apply below_alloc | apply pw_below_drewN | apply below_drew1) | exact HB.out)) hb); have n3_ := Aside0.mk (hbox); have n4_ := Aside0.mk ((by rw [hg]; exact (below_size (by repeat (first | (with_reducible first | exact HB.out | apply below_alloc | apply pw_below_drewN | apply below_drew1) | exact HB.out))) : w.heap.size ≤ gb108)); have n5_ := Aside0.mk ((by rw [hg]; exact (below_size (by repeat (first | (with_reducible first | exact HB.out | apply below_alloc | apply pw_below_drewN | apply below_drew1) | exact HB.out))) : w.heap.size ≤ gb108)); clear HO_3; clear HO_8; clear HB; have HO_3 := n0_; have HO_8 := n1_; have HB := n2_; have BK108 := n3_; have GW108 := n4_; have GE108 := n5_; clear n0_ n1_ n2_ n3_ n4_ n5_; clear hb hbox hg; have hcz17_0 : w16.cell? ⟨gb108, 0, none⟩ = some (.int .i64 0) := (blk_cell BK108.out 0).trans rfl; have hcz17_1 : w16.cell? ⟨gb108, 1, none⟩ = some (.bool false) := (blk_cell BK108.out 1).trans rfl; have hcz17_2 : w16.cell? ⟨gb108, 2, none⟩ = some (.int .i64 0) := (blk_cell BK108.out 2).trans rfl; have hcz17_3 : w16.cell? ⟨gb108, 3, none⟩ = some (.int .i64 0) := (blk_cell BK108.out 3).trans rfl; have hfz17_0 := blk_frozen BK108.out 0; have hfz17_1 := blk_frozen BK108.out 1; have hfz17_2 := blk_frozen BK108.out 2; have hfz17_3 := blk_frozen BK108.out 3))
              go_roundg k1
              case measure => have := HK1.out; omega
              case rel => exact ⟨(x3_1), (wrap64 (x10_1 + 1)), (by first | rfl | (simp; done) | (simp [*]; done)), H', ⟨by have := HK1.out; omega⟩, ⟨by (with_reducible repeat (first | apply Kd.R_alloc | apply Kd.R_drewN | apply Kd.R_drew)); exact Kd.R_mono (Kd.R_far (p := ⟨gb108, 3, none⟩) (Kd.R_far (p := ⟨gb108, 2, none⟩) (Kd.R_far (p := ⟨gb108, 1, none⟩) (Kd.R_far (p := ⟨gb108, 0, none⟩) (Kd.R_types HO_3.out BK108.out (by decide)) (fun _ hk => hk.2) (.int .i64 ((rd_T67 t104 x10_1).f0))) (fun _ hk => hk.2) (.bool false)) (fun _ hk => hk.2) (.int .i64 ((rd_T67 t104 x10_1).f2.f0))) (fun _ hk => hk.2) (.int .i64 ((rd_T67 t104 x10_1).f2.f1))) (fun _ hk => hk.1)⟩, ⟨by (with_reducible repeat (first | apply Kd.V_alloc | apply Kd.V_drewN | apply Kd.V_drew)); exact Kd.V_mono (Kd.V_far (p := ⟨gb108, 3, none⟩) (Kd.V_far (p := ⟨gb108, 2, none⟩) (Kd.V_far (p := ⟨gb108, 1, none⟩) (Kd.V_far (p := ⟨gb108, 0, none⟩) (Kd.V_mono HO_8.out (fun k_ hk => (⟨hk, hk.2⟩ : _ ∧ k_ ≠ gb108))) (fun _ hk => hk.2) (.int .i64 ((rd_T67 t104 x10_1).f0))) (fun _ hk => hk.2) (.bool false)) (fun _ hk => hk.2) (.int .i64 ((rd_T67 t104 x10_1).f2.f0))) (fun _ hk => hk.2) (.int .i64 ((rd_T67 t104 x10_1).f2.f1))) (fun _ hk => ⟨hk.1.1.1, hk.1.1.2⟩)⟩, ⟨by repeat (first | (with_reducible first | exact HB.out | apply below_alloc | apply pw_below_drewN | apply below_drew1 | refine below_set ?_ GE108.out) | exact HB.out)⟩⟩
          · rw [if_neg c9] at H
            exact absurd H (by simp)
        · rw [if_neg c8] at H
          exact absurd H (by simp)
      · rw [if_neg c7] at H
        have c7b0 : decide (x10_1 < (t104.length : Int)) = false := decide_eq_false c7
        clear c7
        replace H := Option.bind_eq_some_iff.mp H
        obtain ⟨t112, A180, H⟩ := H
        replace H : (some t112) = some r := H
        have A18 := Aside0.mk A180
        clear A180
        obtain rfl := Option.some.inj H
        obtain ⟨Ao19, co19, eo19⟩ := Kd.R_slice HO_3.out
        subst eo19
        go_wp2_with (first | ((with_reducible refine gate_callee (f := 68) rfl ?_); refine goesL_ (some 23) rfl rfl Tryz.func68 (by kernel_rfl) rfl #[.slice Ao19 x3_1.length co19] rfl (by (try simp only [List.map_toArray, List.map_cons, List.map_nil]); first | done | rfl | (simp only [List.length_drop, List.length_take]; rfl)) ?_; (with_reducible refine (slices_Clip_End.calls (fun k_ => some k_ = (.slice Ao19 x3_1.length co19 : Value).ownBlock) _ _ x3_1 t112 _ ?side1 A18.out).mono ?_); (case side1 => exact Kd.R_V (Kd.R_tight rfl (HO_3.out))); rintro e w20 ⟨v113, rfl, ho0, hb⟩; refine ⟨_, rfl, ?_⟩; have n0_ := Aside0.mk (Kd.R_below (by (with_reducible repeat (first | apply Kd.R_alloc | apply Kd.R_drewN | apply Kd.R_drew)); exact HO_3.out) hb); have n1_ := Aside0.mk (Kd.V_below (by (with_reducible repeat (first | apply Kd.V_alloc | apply Kd.V_drewN | apply Kd.V_drew)); exact HO_8.out) hb); have n2_ := Aside0.mk (Kd.V_lower (Kd.V_mono (ok' := fun k_ => (w.heap.size ≤ k_)) ho0 (fun k_ hk_ => Or.elim hk_ (fun hs_ => ((HO_3.out).1 k_ hs_.symm)) (fun hn_ => (Nat.le_trans (below_size (by repeat (first | (with_reducible first | exact HB.out | apply below_alloc | apply pw_below_drewN | apply below_drew1) | exact HB.out))) hn_)))) (below_size (by repeat (first | (with_reducible first | exact HB.out | apply below_alloc | apply pw_below_drewN | apply below_drew1) | exact HB.out)))); have n3_ := Aside0.mk (below_step (by repeat (first | (with_reducible first | exact HB.out | apply below_alloc | apply pw_below_drewN | apply below_drew1) | exact HB.out)) hb); clear HO_3; clear HO_8; clear HB; have HO_3 := n0_; have HO_8 := n1_; have HO114 := n2_; have HB := n3_; clear n0_ n1_ n2_ n3_; (try clear hb); (try clear hb2); (try clear hk); (try clear hi); (try clear ho0)))
        go_ret
        exact ⟨_, by first | rfl | (simp [errW_none, errW_some] <;> rfl) | (simp [*, errW_none, errW_some] <;> rfl), by (with_reducible repeat (first | apply Kd.V_alloc | apply Kd.V_drewN | apply Kd.V_drew)); exact HO114.out, by repeat (first | (with_reducible first | exact HB.out | apply below_alloc | apply pw_below_drewN | apply below_drew1) | exact HB.out)⟩
end
end Go.Proofs.YtijompkonaiagaaGreatDoor.Q
namespace Go.Proofs.YtijompkonaiagaaGreatDoor.Q
open Go.RowKit Go.Proofs.YtijompkonaiagaaGreatDoorW.PrintWords Go.Proofs.YtijompkonaiagaaGreatDoorW.PrintLast Go.Proofs.YtijompkonaiagaaGreatDoorW.PrintMore
attribute [local go_sem] max2_int min2_int max_two min_two max_three min_three max_four min_four
set_option linter.unusedVariables false
set_option linter.unusedSimpArgs false
noncomputable section
theorem eqA69 (d : Nat) (w : World) (x0 y0 : Int) (x1 y1 : Int) (x2 y2 : Int) :
    (Op.equalIn (d + 3) 69 (.agg #[.int .i64 x0, .int .i64 x1, .int .i64 x2]) (.agg #[.int .i64 y0, .int .i64 y1, .int .i64 y2])).run Tryz.prog w = .ok (x0 == y0 && ((x1 == y1 && (x2 == y2)))) w := by
  refine eqA_of Tryz.underlying69 (by kernel_rfl) ?_
  refine eqf_cons (by rfl) (by go_simp; rfl) (by go_simp; rfl) (by go_simp) ?_
  exact eqf_last (by rfl) (by go_simp) (by go_simp) (eqA24 (d + 0) w _ _ _ _)
end
end Go.Proofs.YtijompkonaiagaaGreatDoor.Q
namespace Go.Proofs.YtijompkonaiagaaGreatDoor.Q
open Go.RowKit Go.Proofs.YtijompkonaiagaaGreatDoorW.PrintWords Go.Proofs.YtijompkonaiagaaGreatDoorW.PrintMore Go.Proofs.YtijompkonaiagaaGreatDoor.Z
set_option linter.unusedVariables false
set_option linter.unusedSimpArgs false
def pieces (l : List UInt8) : List Pc := if textOk l then pcL (body l) else []
theorem impl_TextPieces_to (k : Nat) (hk : 2000 < k) (l : List UInt8) (hl : l.length ≤ 140737488355328) : impl_TextPieces.f k (mkB l) = some ((pieces l).map pcTo) := by
  unfold impl_TextPieces.f impl_TextOk.f pieces
  rw [size_mkB, if_pos hl, bl_of, Option.bind_some]
  cases h2 : textOk l
  · simp
  · have hl2 := textOk_len h2
    rw [if_pos rfl, if_pos rfl, impl_pieces_to k l (by omega) (by omega)]
    rfl
def enTo (e : En) : S24 := ⟨e.addr, e.port⟩
def names (ps : List Pc) : List En := (ps.filter (·.named)).map (·.fin)
theorem names_cons (p : Pc) (ps : List Pc) : names (p :: ps) = (if p.named then [p.fin] else []) ++ names ps := by
  unfold names
  rw [List.filter_cons]
  cases p.named <;> simp
theorem names_l0 (ps : List Pc) (hps : ps.length ≤ 1000) (n : Nat) : ∀ (k : Nat) (acc : List S24) (i : Nat), ps.length - i ≤ n → n < k → i ≤ ps.length → acc.length ≤ i →
    impl_TextNames.l0 k acc (ps.map pcTo) ps.length i = some (acc ++ (names (ps.drop i)).map enTo) := by
  induction n with
  | zero =>
    intro k acc i hn hk hi ha
    obtain ⟨k, rfl⟩ : ∃ m, k = m + 1 := ⟨k - 1, by omega⟩
    simp only [impl_TextNames.l0]
    rw [if_neg (by omega), List.drop_of_length_le (by omega)]
    simp [names, slices_Clip_End.f]
  | succ n ih =>
    intro k acc i hn hk hi ha
    obtain ⟨k, rfl⟩ : ∃ m, k = m + 1 := ⟨k - 1, by omega⟩
    simp only [impl_TextNames.l0]
    by_cases hlt : i < ps.length
    · obtain ⟨p, hp⟩ : ∃ p, ps[i]? = some p := ⟨_, List.getElem?_eq_getElem hlt⟩
      have q0 : (i : Int) < (ps.length : Int) := by omega
      have q1 : (0 : Int) ≤ (i : Int) := by omega
      have q2 : acc.length < 8796093022208 := by omega
      have ih1 := ih k (acc ++ [enTo p.fin]) (i + 1) (by omega) (by omega) (by omega) (by rw [List.length_append, List.length_singleton]; omega)
      have ih2 := ih k acc (i + 1) (by omega) (by omega) (by omega) (by omega)
      have hw3 : wrap64 ((i : Int) + 1) = ((i + 1 : Nat) : Int) := by rw [w64 (by omega)]; omega
      have hr := rd_pc ps i p hp
      have hf1 : (rd_T67 (ps.map pcTo) (i : Int)).f1 = p.named := by rw [hr]; rfl
      have hf2 : (rd_T67 (ps.map pcTo) (i : Int)).f2.f0 = p.fin.addr := by rw [hr]; rfl
      have hf3 : (rd_T67 (ps.map pcTo) (i : Int)).f2.f1 = p.fin.port := by rw [hr]; rfl
      simp only [hf1, hf2, hf3, hw3, List.length_map, q0, q1, q2, if_true]
      rw [drop_of hp, names_cons]
      cases hn : p.named
      · rw [if_neg (by simp)]
        exact ih2
      · rw [if_pos rfl]
        refine ih1.trans ?_
        simp [enTo]
    · rw [if_neg (by omega), List.drop_of_length_le (by omega)]
      simp [names, slices_Clip_End.f]
theorem pieces_len (l : List UInt8) : (pieces l).length ≤ 40 := by
  unfold pieces
  split
  · rename_i h
    have h1 := textOk_len h
    have hp := pcL_len (body l).length (body l) (Nat.le_refl _)
    have hb := body_len l
    omega
  · simp
theorem impl_TextNames_to (k : Nat) (hk : 2000 < k) (l : List UInt8) (hl : l.length ≤ 140737488355328) : impl_TextNames.f k (mkB l) = some ((names (pieces l)).map enTo) := by
  have h := pieces_len l
  unfold impl_TextNames.f
  rw [impl_TextPieces_to k hk l hl, Option.bind_some, List.length_map]
  have := names_l0 (pieces l) (by omega) 1000 k [] 0 (by omega) (by omega) (by omega) (by simp)
  rw [List.drop_zero, List.nil_append] at this
  exact this
end Go.Proofs.YtijompkonaiagaaGreatDoor.Q
namespace Go.Proofs.YtijompkonaiagaaGreatDoor.Q
open Go.RowKit Go.Proofs.YtijompkonaiagaaGreatDoorW.PrintWords Go.Proofs.YtijompkonaiagaaGreatDoor.Z
set_option linter.unusedVariables false
set_option linter.unusedSimpArgs false
inductive Tok where
  | b (c : UInt8)
  | n (e : En)
def tx : Tok → List UInt8
  | .b c => [c]
  | .n e => nameOf e
def flat (T : List Tok) : List UInt8 := T.flatMap tx
def run : List Tok → List UInt8
  | .b c :: T => c :: run T
  | _ => []
def good : List Tok → Prop
  | [] => True
  | .n e :: T => anyB e = true ∧ good T
  | .b c :: T => (c = 64 → (59 : UInt8) ∈ run T → endRead (upto59 (run T)) = none) ∧ good T
inductive Like : List Tok → List Tok → Prop
  | nil : Like [] []
  | b (c : UInt8) {T U : List Tok} : Like T U → Like (.b c :: T) (.b c :: U)
  | n {d e : En} {T U : List Tok} : anyB e = true → Like T U → Like (.n d :: T) (.n e :: U)
theorem Like.run {T U : List Tok} (h : Like T U) : run T = run U := by
  induction h with
  | nil => rfl
  | b c _ ih => simp only [Q.run, ih]
  | n _ _ _ => rfl
theorem Like.good {T U : List Tok} (h : Like T U) (g : good T) : good U := by
  induction h with
  | nil => trivial
  | b c hl ih => exact ⟨by rw [← hl.run]; exact g.1, ih g.2⟩
  | n ha _ ih => exact ⟨ha, ih g.2⟩
end Go.Proofs.YtijompkonaiagaaGreatDoor.Q
namespace Go.Proofs.YtijompkonaiagaaGreatDoor.Q
open Go.RowKit Go.Proofs.YtijompkonaiagaaGreatDoorW.PrintWords Go.Proofs.YtijompkonaiagaaGreatDoor.Z
set_option linter.unusedVariables false
set_option linter.unusedSimpArgs false
def Ext (m y : List Pr) : Prop := mapOkB y = true ∧ y.take m.length = m ∧ m.length ≤ y.length
theorem Ext.refl {m : List Pr} (h : mapOkB m = true) : Ext m m := ⟨h, List.take_length, Nat.le_refl _⟩
end Go.Proofs.YtijompkonaiagaaGreatDoor.Q
namespace Go.Proofs.YtijompkonaiagaaGreatDoor.Q
open Go.RowKit Go.Proofs.YtijompkonaiagaaGreatDoorW.PrintWords Go.Proofs.YtijompkonaiagaaGreatDoor.Z
set_option linter.unusedVariables false
set_option linter.unusedSimpArgs false
theorem heldFrom_max (l : List UInt8) : ∀ n j, heldFrom l n < j → j ≤ n → begB (l.drop (l.length - j)) = false
  | 0, j, h1, h2 => by omega
  | n + 1, j, h1, h2 => by
    unfold heldFrom at h1
    split at h1
    · omega
    · rename_i h
      by_cases hj : j = n + 1
      · rw [hj]; simpa using h
      · exact heldFrom_max l n j h1 (by omega)
end Go.Proofs.YtijompkonaiagaaGreatDoor.Q
namespace Go.Proofs.YtijompkonaiagaaGreatDoor.Q
open Go.RowKit Go.Proofs.YtijompkonaiagaaGreatDoorW.PrintWords Go.Proofs.YtijompkonaiagaaGreatDoorW.PrintLast Go.Proofs.YtijompkonaiagaaGreatDoorW.PrintMore
attribute [local go_sem] max2_int min2_int max_two min_two max_three min_three max_four min_four
set_option linter.unusedVariables false
set_option linter.unusedSimpArgs false
noncomputable section
def impl_saying.f (a0 : ByteArray) : Option (Bool) := if (a0.size : Int) ≤ 24 then ((impl_TextOk.f a0).bind fun t101 => (if t101 = true then ((impl_held.f a0).bind fun t102 => (some (t102 == 0))) else (some false))) else (some false)
set_option maxHeartbeats 8000000 in
set_option maxRecDepth 100000 in
theorem impl_saying.calls (a0 : ByteArray) (r : Bool) (w : World) (h : impl_saying.f a0 = some r) :
    Calls Tryz.prog 51 #[.string a0] w fun e w' => e = .returned (.bool r) ∧ Below w.heap.size w w' := by
  have HB := Aside0.mk (Below.refl w.heap.size w)
  have H : (if (a0.size : Int) ≤ 24 then ((impl_TextOk.f a0).bind fun t101 => (if t101 = true then ((impl_held.f a0).bind fun t102 => (some (t102 == 0))) else (some false))) else (some false)) = some r := h
  clear h
  by_cases c2 : (a0.size : Int) ≤ 24
  · rw [if_pos c2] at H
    have c2b0 : decide ((a0.size : Int) ≤ 24) = true := decide_eq_true c2
    have c2b1 : decide (a0.size ≤ 24) = true := decide_eq_true (by omega)
    clear c2
    replace H := Option.bind_eq_some_iff.mp H
    obtain ⟨t101, A30, H⟩ := H
    replace H : (if t101 = true then ((impl_held.f a0).bind fun t102 => (some (t102 == 0))) else (some false)) = some r := H
    have A3 := Aside0.mk A30
    clear A30
    by_cases c4 : t101 = true
    · subst c4
      have H1 : ((impl_held.f a0).bind fun t102 => (some (t102 == 0))) = some r := by rw [if_pos rfl] at H; exact H
      clear H
      have H := H1
      clear H1
      replace H := Option.bind_eq_some_iff.mp H
      obtain ⟨t102, A50, H⟩ := H
      replace H : (some (t102 == 0)) = some r := H
      have A5 := Aside0.mk A50
      clear A50
      obtain rfl := Option.some.inj H
      go_enter Tryz.func51, Tryz.ntmps51
      go_wp2_with (first | (go_at_call 53; (with_reducible refine (impl_TextOk.calls a0 true _ A3.out).mono ?_); rintro e w6 ⟨rfl, hb⟩; have n0_ := Aside0.mk (below_step (by repeat (first | (with_reducible first | exact HB.out | apply below_alloc | apply pw_below_drewN | apply below_drew1) | exact HB.out)) hb); clear HB; have HB := n0_; clear n0_; (try clear hb); (try clear hb2); (try clear hk); (try clear hi)) | (go_at_call 54; (with_reducible refine (impl_held.calls a0 t102 _ A5.out).mono ?_); rintro e w7 ⟨rfl, hb⟩; have n0_ := Aside0.mk (below_step (by repeat (first | (with_reducible first | exact HB.out | apply below_alloc | apply pw_below_drewN | apply below_drew1) | exact HB.out)) hb); clear HB; have HB := n0_; clear n0_; (try clear hb); (try clear hb2); (try clear hk); (try clear hi)))
      go_ret
      exact ⟨by first | rfl | (simp [errW_none, errW_some] <;> rfl) | (simp [*, errW_none, errW_some] <;> rfl), by repeat (first | (with_reducible first | exact HB.out | apply below_alloc | apply pw_below_drewN | apply below_drew1) | exact HB.out)⟩
    · replace c4 := Bool.eq_false_iff.mpr c4
      subst c4
      have H1 : (some false) = some r := by rw [if_neg (show ¬ (false = true) by decide)] at H; exact H
      clear H
      have H := H1
      clear H1
      obtain rfl := Option.some.inj H
      go_enter Tryz.func51, Tryz.ntmps51
      go_wp2_with (first | (go_at_call 53; (with_reducible refine (impl_TextOk.calls a0 false _ A3.out).mono ?_); rintro e w8 ⟨rfl, hb⟩; have n0_ := Aside0.mk (below_step (by repeat (first | (with_reducible first | exact HB.out | apply below_alloc | apply pw_below_drewN | apply below_drew1) | exact HB.out)) hb); clear HB; have HB := n0_; clear n0_; (try clear hb); (try clear hb2); (try clear hk); (try clear hi)))
      go_ret
      exact ⟨by first | rfl | (simp [errW_none, errW_some] <;> rfl) | (simp [*, errW_none, errW_some] <;> rfl), by repeat (first | (with_reducible first | exact HB.out | apply below_alloc | apply pw_below_drewN | apply below_drew1) | exact HB.out)⟩
  · rw [if_neg c2] at H
    have c2b0 : decide ((a0.size : Int) ≤ 24) = false := decide_eq_false c2
    have c2b1 : decide (a0.size ≤ 24) = false := decide_eq_false (by omega)
    clear c2
    obtain rfl := Option.some.inj H
    go_enter Tryz.func51, Tryz.ntmps51
    go_wp2
    go_ret
    exact ⟨by first | rfl | (simp [errW_none, errW_some] <;> rfl) | (simp [*, errW_none, errW_some] <;> rfl), by repeat (first | (with_reducible first | exact HB.out | apply below_alloc | apply pw_below_drewN | apply below_drew1) | exact HB.out)⟩
end
end Go.Proofs.YtijompkonaiagaaGreatDoor.Q
namespace Go.Proofs.YtijompkonaiagaaGreatDoor.Q
open Go.RowKit Go.Proofs.YtijompkonaiagaaGreatDoorW.PrintWords Go.Proofs.YtijompkonaiagaaGreatDoorW.PrintMore Go.Proofs.YtijompkonaiagaaGreatDoor.Z
set_option linter.unusedVariables false
set_option linter.unusedSimpArgs false
attribute [local go_sem ↓] Go.wp_at_zero Go.wp_at_succ
def isDoor (x : S24) : Bool := doorB ⟨x.f0, x.f1⟩
theorem take_any {l : List S24} {k : Nat} (hk : k < l.length) (h : (l.take k).any isDoor = false) (hd : isDoor (rd_T24 l k) = false) : (l.take (k + 1)).any isDoor = false := by
  have e : rd_T24 l k = l[k] := by
    unfold rd_T24
    rw [Int.toNat_natCast, List.getD_eq_getElem?_getD, List.getElem?_eq_getElem hk]
    rfl
  rw [List.take_succ_eq_append_getElem hk, List.any_append, h, ← e]
  simp [hd]
theorem hit_any {l : List S24} {k : Nat} (hk : k < l.length) (hd : isDoor (rd_T24 l k) = true) : l.any isDoor = true := by
  have e : rd_T24 l k = l[k] := by
    unfold rd_T24
    rw [Int.toNat_natCast, List.getD_eq_getElem?_getD, List.getElem?_eq_getElem hk]
    rfl
  rw [e] at hd
  exact List.any_eq_true.2 ⟨_, List.getElem_mem hk, hd⟩
set_option maxHeartbeats 1000000 in
theorem idx_door (A : Option Addr) (n c : Nat) (l : List S24) (w : World) (hC : Kd.C k24 w A n l) (hn : n ≤ 1099511627776) :
    Calls Tryz.prog 80 #[.slice A n c, .func (.func 36) #[] #[]] w fun r w' => ∃ v : Int, r = .returned (.int .i64 v) ∧ (v ≥ 0 ↔ l.any isDoor = true) ∧ Below w.heap.size w w' := by
  have hl : l.length = n := hC.1
  have HC := Aside0.mk hC; clear hC
  go_enter Tryz.func80, Tryz.ntmps80
  go_wp2
  go_loopw [5, 8] (fun s5 s8 w' => ∃ k : Nat, k ≤ n ∧ s8 = .int .i64 k ∧ Aside0 ((l.take k).any isDoor = false) ∧ Below w.heap.size w w') (fun s5 s8 _ => n - (intOf s8).toNat)
  case atStart => exact ⟨0, Nat.zero_le _, rfl, ⟨by simp⟩, Below.refl _ _⟩
  case round =>
    obtain ⟨k, hk, rfl, HP, hb⟩ := hrel
    by_cases hlt : k < n
    · obtain ⟨ad, hA, d0, d1⟩ := at_T24 (Kd.C_below HC.out hb) (k : Int) (by omega) (by omega)
      cases hA
      rw [Int.toNat_natCast] at d0 d1
      have hk0 : (0 : Int) ≤ (k : Int) := Int.natCast_nonneg _
      have hk1 : (k : Int) < (n : Int) := by omega
      cases hd : isDoor (rd_T24 l k) with
      | true =>
        have HD := Aside0.mk (show impl_EndDoor.f (rd_T24 l k).f0 (rd_T24 l k).f1 = some true from congrArg some hd)
        have HA := Aside0.mk (hit_any (by omega) hd)
        clear hd
        go_wp2_with (go_at_call 36; refine (impl_EndDoor.calls _ _ true _ HD.out).mono ?_; rintro r w2 ⟨rfl, hb2⟩)
        go_ret
        exact ⟨_, rfl, by rw [HA.out]; simp, below_step hb hb2⟩
      | false =>
        have HD := Aside0.mk (show impl_EndDoor.f (rd_T24 l k).f0 (rd_T24 l k).f1 = some false from congrArg some hd)
        have HA := Aside0.mk (take_any (by omega) HP.out hd)
        clear hd
        go_wp2_with (go_at_call 36; refine (impl_EndDoor.calls _ _ false _ HD.out).mono ?_; rintro r w2 ⟨rfl, hb2⟩)
        go_roundw
        case rel => exact ⟨k + 1, by omega, by go_num, HA, below_step hb hb2⟩
        case measure => simp [intOf]; omega
    · obtain rfl : k = n := by omega
      go_wp2
      go_ret
      exact ⟨_, rfl, by have h := HP.out; rw [List.take_of_length_le (by omega)] at h; rw [h]; simp, hb⟩
theorem has_door (A : Option Addr) (n c : Nat) (l : List S24) (w : World) (hC : Kd.C k24 w A n l) (hn : n ≤ 1099511627776) :
    Calls Tryz.prog 52 #[.slice A n c, .func (.func 36) #[] #[]] w fun r w' => r = .returned (.bool (l.any isDoor)) ∧ Below w.heap.size w w' := by
  have HC := Aside0.mk hC; clear hC
  have HI := fun w hC => idx_door A n c l w hC hn
  obtain ⟨q, hq⟩ : ∃ q, l.any isDoor = q := ⟨_, rfl⟩
  rw [hq] at HI ⊢
  clear hq
  go_enter Tryz.func52, Tryz.ntmps52
  go_wp2_with (go_at_call 80; refine (HI _ HC.out).mono ?_; rintro r w2 ⟨v, rfl, hv, hb2⟩)
  go_ret
  refine ⟨?_, hb2⟩
  cases q
  · have : ¬ (0 ≤ v) := fun h2 => by simpa using hv.1 h2
    simp [this]
  · have : 0 ≤ v := hv.2 rfl
    simp [this]
def slices_ContainsFunc_End.f (l0 : List S24) : Option Bool := if l0.length ≤ 1099511627776 then some (l0.any isDoor) else none
theorem slices_ContainsFunc_End.calls (A0 : Option Addr) (c0 : Nat) (l0 : List (S24)) (r : Bool) (w : World) (hr0 : Kd.C k24 w A0 l0.length l0) (hc0 : l0.length ≤ c0) (h : slices_ContainsFunc_End.f l0 = some r) :
    Calls Tryz.prog 52 #[.slice A0 l0.length c0, .func (.func 36) #[] #[]] w fun e w' => e = .returned (.bool r) ∧ Below w.heap.size w w' := by
  unfold slices_ContainsFunc_End.f at h
  split at h
  · rename_i hs
    obtain rfl := Option.some.inj h
    exact has_door A0 l0.length c0 l0 w hr0 hs
  · cases h
end Go.Proofs.YtijompkonaiagaaGreatDoor.Q
namespace Go.Proofs.YtijompkonaiagaaGreatDoor.Q
open Go.RowKit Go.Proofs.YtijompkonaiagaaGreatDoorW.PrintWords Go.Proofs.YtijompkonaiagaaGreatDoorW.PrintLast Go.Proofs.YtijompkonaiagaaGreatDoorW.PrintMore
attribute [local go_sem] max2_int min2_int max_two min_two max_three min_three max_four min_four
set_option linter.unusedVariables false
set_option linter.unusedSimpArgs false
noncomputable section
def spec_l21Whole.f (a0 : ByteArray) : Option (Bool) := (spec_TextOk.f a0).bind fun t101 => (if t101 = true then (if (a0.size : Int) ≤ 24 then ((spec_l2Held.f a0).bind fun t102 => (some (t102 == 0))) else (some false)) else (some false))
set_option maxHeartbeats 8000000 in
set_option maxRecDepth 100000 in
theorem spec_l21Whole.calls (a0 : ByteArray) (r : Bool) (w : World) (h : spec_l21Whole.f a0 = some r) :
    Calls Tryz.prog 48 #[.string a0] w fun e w' => e = .returned (.bool r) ∧ Below w.heap.size w w' := by
  have HB := Aside0.mk (Below.refl w.heap.size w)
  have H : ((spec_TextOk.f a0).bind fun t101 => (if t101 = true then (if (a0.size : Int) ≤ 24 then ((spec_l2Held.f a0).bind fun t102 => (some (t102 == 0))) else (some false)) else (some false))) = some r := h
  clear h
  replace H := Option.bind_eq_some_iff.mp H
  obtain ⟨t101, A20, H⟩ := H
  replace H : (if t101 = true then (if (a0.size : Int) ≤ 24 then ((spec_l2Held.f a0).bind fun t102 => (some (t102 == 0))) else (some false)) else (some false)) = some r := H
  have A2 := Aside0.mk A20
  clear A20
  by_cases c3 : t101 = true
  · subst c3
    have H1 : (if (a0.size : Int) ≤ 24 then ((spec_l2Held.f a0).bind fun t102 => (some (t102 == 0))) else (some false)) = some r := by rw [if_pos rfl] at H; exact H
    clear H
    have H := H1
    clear H1
    by_cases c4 : (a0.size : Int) ≤ 24
    · rw [if_pos c4] at H
      have c4b0 : decide ((a0.size : Int) ≤ 24) = true := decide_eq_true c4
      have c4b1 : decide (a0.size ≤ 24) = true := decide_eq_true (by omega)
      clear c4
      replace H := Option.bind_eq_some_iff.mp H
      obtain ⟨t102, A50, H⟩ := H
      replace H : (some (t102 == 0)) = some r := H
      have A5 := Aside0.mk A50
      clear A50
      obtain rfl := Option.some.inj H
      go_enter Tryz.func48, Tryz.ntmps48
      go_wp2_with (first | ((with_reducible refine gate_callee (f := 31) rfl ?_); refine goesL_ (some 4) rfl rfl Tryz.func31 (by kernel_rfl) rfl #[.string a0] rfl (by (try simp only [List.map_toArray, List.map_cons, List.map_nil]); first | done | rfl | (simp only [List.length_drop, List.length_take]; rfl)) ?_; (with_reducible refine (spec_TextOk.calls a0 true _ A2.out).mono ?_); rintro e w6 ⟨rfl, hb⟩; refine ⟨_, rfl, ?_⟩; have n0_ := Aside0.mk (below_step (by repeat (first | (with_reducible first | exact HB.out | apply below_alloc | apply pw_below_drewN | apply below_drew1) | exact HB.out)) hb); clear HB; have HB := n0_; clear n0_; (try clear hb); (try clear hb2); (try clear hk); (try clear hi)) | (go_at_call 77; (with_reducible refine (spec_l2Held.calls a0 t102 _ A5.out).mono ?_); rintro e w7 ⟨rfl, hb⟩; have n0_ := Aside0.mk (below_step (by repeat (first | (with_reducible first | exact HB.out | apply below_alloc | apply pw_below_drewN | apply below_drew1) | exact HB.out)) hb); clear HB; have HB := n0_; clear n0_; (try clear hb); (try clear hb2); (try clear hk); (try clear hi)))
      go_ret
      exact ⟨by first | rfl | (simp [errW_none, errW_some] <;> rfl) | (simp [*, errW_none, errW_some] <;> rfl), by repeat (first | (with_reducible first | exact HB.out | apply below_alloc | apply pw_below_drewN | apply below_drew1) | exact HB.out)⟩
    · rw [if_neg c4] at H
      have c4b0 : decide ((a0.size : Int) ≤ 24) = false := decide_eq_false c4
      have c4b1 : decide (a0.size ≤ 24) = false := decide_eq_false (by omega)
      clear c4
      obtain rfl := Option.some.inj H
      go_enter Tryz.func48, Tryz.ntmps48
      go_wp2_with (first | ((with_reducible refine gate_callee (f := 31) rfl ?_); refine goesL_ (some 4) rfl rfl Tryz.func31 (by kernel_rfl) rfl #[.string a0] rfl (by (try simp only [List.map_toArray, List.map_cons, List.map_nil]); first | done | rfl | (simp only [List.length_drop, List.length_take]; rfl)) ?_; (with_reducible refine (spec_TextOk.calls a0 true _ A2.out).mono ?_); rintro e w8 ⟨rfl, hb⟩; refine ⟨_, rfl, ?_⟩; have n0_ := Aside0.mk (below_step (by repeat (first | (with_reducible first | exact HB.out | apply below_alloc | apply pw_below_drewN | apply below_drew1) | exact HB.out)) hb); clear HB; have HB := n0_; clear n0_; (try clear hb); (try clear hb2); (try clear hk); (try clear hi)))
      go_ret
      exact ⟨by first | rfl | (simp [errW_none, errW_some] <;> rfl) | (simp [*, errW_none, errW_some] <;> rfl), by repeat (first | (with_reducible first | exact HB.out | apply below_alloc | apply pw_below_drewN | apply below_drew1) | exact HB.out)⟩
  · replace c3 := Bool.eq_false_iff.mpr c3
    subst c3
    have H1 : (some false) = some r := by rw [if_neg (show ¬ (false = true) by decide)] at H; exact H
    clear H
    have H := H1
    clear H1
    obtain rfl := Option.some.inj H
    go_enter Tryz.func48, Tryz.ntmps48
    go_wp2_with (first | ((with_reducible refine gate_callee (f := 31) rfl ?_); refine goesL_ (some 4) rfl rfl Tryz.func31 (by kernel_rfl) rfl #[.string a0] rfl (by (try simp only [List.map_toArray, List.map_cons, List.map_nil]); first | done | rfl | (simp only [List.length_drop, List.length_take]; rfl)) ?_; (with_reducible refine (spec_TextOk.calls a0 false _ A2.out).mono ?_); rintro e w9 ⟨rfl, hb⟩; refine ⟨_, rfl, ?_⟩; have n0_ := Aside0.mk (below_step (by repeat (first | (with_reducible first | exact HB.out | apply below_alloc | apply pw_below_drewN | apply below_drew1) | exact HB.out)) hb); clear HB; have HB := n0_; clear n0_; (try clear hb); (try clear hb2); (try clear hk); (try clear hi)))
    go_ret
    exact ⟨by first | rfl | (simp [errW_none, errW_some] <;> rfl) | (simp [*, errW_none, errW_some] <;> rfl), by repeat (first | (with_reducible first | exact HB.out | apply below_alloc | apply pw_below_drewN | apply below_drew1) | exact HB.out)⟩
end
end Go.Proofs.YtijompkonaiagaaGreatDoor.Q
namespace Go.Proofs.YtijompkonaiagaaGreatDoor.Q
open Go.RowKit Go.Proofs.YtijompkonaiagaaGreatDoorW.PrintWords Go.Proofs.YtijompkonaiagaaGreatDoorW.PrintLast Go.Proofs.YtijompkonaiagaaGreatDoorW.PrintMore
attribute [local go_sem] max2_int min2_int max_two min_two max_three min_three max_four min_four
set_option linter.unusedVariables false
set_option linter.unusedSimpArgs false
noncomputable section
def spec_TextPieces.f (k : Nat) (a0 : ByteArray) : Option ((List (S67))) := (spec_TextOk.f a0).bind fun t101 => (if t101 = true then ((spec_l2Pieces.f k a0).bind fun t102 => (some t102)) else (some (([] : List (S67)))))
set_option maxHeartbeats 8000000 in
set_option maxRecDepth 100000 in
theorem spec_TextPieces.calls (k : Nat) (a0 : ByteArray) (r : List (S67)) (w : World) (h : spec_TextPieces.f k a0 = some r) :
    Calls Tryz.prog 100 #[.string a0] w fun e w' => ∃ v0_ : Value, e = .returned (v0_) ∧ Kd.R k67 67 w' w.heap.size (fun _ => True) v0_ r ∧ Below w.heap.size w w' := by
  have HB := Aside0.mk (Below.refl w.heap.size w)
  have H : ((spec_TextOk.f a0).bind fun t101 => (if t101 = true then ((spec_l2Pieces.f k a0).bind fun t102 => (some t102)) else (some (([] : List (S67)))))) = some r := h
  clear h
  replace H := Option.bind_eq_some_iff.mp H
  obtain ⟨t101, A20, H⟩ := H
  replace H : (if t101 = true then ((spec_l2Pieces.f k a0).bind fun t102 => (some t102)) else (some (([] : List (S67))))) = some r := H
  have A2 := Aside0.mk A20
  clear A20
  by_cases c3 : t101 = true
  · subst c3
    have H1 : ((spec_l2Pieces.f k a0).bind fun t102 => (some t102)) = some r := by rw [if_pos rfl] at H; exact H
    clear H
    have H := H1
    clear H1
    replace H := Option.bind_eq_some_iff.mp H
    obtain ⟨t102, A40, H⟩ := H
    replace H : (some t102) = some r := H
    have A4 := Aside0.mk A40
    clear A40
    obtain rfl := Option.some.inj H
    go_enter Tryz.func100, Tryz.ntmps100
    go_wp2_with (first | ((with_reducible refine gate_callee (f := 31) rfl ?_); refine goesL_ (some 4) rfl rfl Tryz.func31 (by kernel_rfl) rfl #[.string a0] rfl (by (try simp only [List.map_toArray, List.map_cons, List.map_nil]); first | done | rfl | (simp only [List.length_drop, List.length_take]; rfl)) ?_; (with_reducible refine (spec_TextOk.calls a0 true _ A2.out).mono ?_); rintro e w5 ⟨rfl, hb⟩; refine ⟨_, rfl, ?_⟩; have n0_ := Aside0.mk (below_step (by repeat (first | (with_reducible first | exact HB.out | apply below_alloc | apply pw_below_drewN | apply below_drew1) | exact HB.out)) hb); clear HB; have HB := n0_; clear n0_; (try clear hb); (try clear hb2); (try clear hk); (try clear hi)) | ((with_reducible refine gate_callee (f := 55) rfl ?_); refine goesL_ (some 8) rfl rfl Tryz.func55 (by kernel_rfl) rfl #[.string a0] rfl (by (try simp only [List.map_toArray, List.map_cons, List.map_nil]); first | done | rfl | (simp only [List.length_drop, List.length_take]; rfl)) ?_; (with_reducible refine (spec_l2Pieces.calls k a0 t102 _ A4.out).mono ?_); rintro e w6 ⟨v103, rfl, ho0, hb⟩; refine ⟨_, rfl, ?_⟩; have n0_ := Aside0.mk (Kd.R_lower ho0 (below_size (by repeat (first | (with_reducible first | exact HB.out | apply below_alloc | apply pw_below_drewN | apply below_drew1) | exact HB.out)))); have n1_ := Aside0.mk (below_step (by repeat (first | (with_reducible first | exact HB.out | apply below_alloc | apply pw_below_drewN | apply below_drew1) | exact HB.out)) hb); clear HB; have HO104 := n0_; have HB := n1_; clear n0_ n1_; (try clear hb); (try clear hb2); (try clear hk); (try clear hi); (try clear ho0)))
    go_ret
    exact ⟨_, by first | rfl | (simp [errW_none, errW_some] <;> rfl) | (simp [*, errW_none, errW_some] <;> rfl), by (with_reducible repeat (first | apply Kd.R_alloc | apply Kd.R_drewN | apply Kd.R_drew)); exact HO104.out, by repeat (first | (with_reducible first | exact HB.out | apply below_alloc | apply pw_below_drewN | apply below_drew1) | exact HB.out)⟩
  · replace c3 := Bool.eq_false_iff.mpr c3
    subst c3
    have H1 : (some (([] : List (S67)))) = some r := by rw [if_neg (show ¬ (false = true) by decide)] at H; exact H
    clear H
    have H := H1
    clear H1
    obtain ⟨y105, hy105⟩ : ∃ y_ : List (S67), y_ = (([] : List (S67))) := ⟨_, rfl⟩
    replace H : (some y105) = some r := by first | (rw [hy105]; with_reducible exact H) | (have H2_ := (Option.bind_some _ _).symm.trans H; rw [hy105]; with_reducible exact H2_) | (have H2_ := (Option.bind_some _ _).symm.trans H; with_reducible exact H2_) | with_reducible exact H | (rw [hy105]; exact H) | exact H
    have Ny105 := Aside0.mk hy105
    clear hy105
    obtain rfl := Option.some.inj H
    go_enter Tryz.func100, Tryz.ntmps100
    go_wp2_with (first | ((with_reducible refine gate_callee (f := 31) rfl ?_); refine goesL_ (some 4) rfl rfl Tryz.func31 (by kernel_rfl) rfl #[.string a0] rfl (by (try simp only [List.map_toArray, List.map_cons, List.map_nil]); first | done | rfl | (simp only [List.length_drop, List.length_take]; rfl)) ?_; (with_reducible refine (spec_TextOk.calls a0 false _ A2.out).mono ?_); rintro e w7 ⟨rfl, hb⟩; refine ⟨_, rfl, ?_⟩; have n0_ := Aside0.mk (below_step (by repeat (first | (with_reducible first | exact HB.out | apply below_alloc | apply pw_below_drewN | apply below_drew1) | exact HB.out)) hb); clear HB; have HB := n0_; clear n0_; (try clear hb); (try clear hb2); (try clear hk); (try clear hi)) | ((with_reducible refine gate_dst (N := 6) rfl ?_); refine Kd.R_lit k67 _ 67 ?hg (N := 6) ?hd (xs := ([] : List (S67))) (inner := []) (ok := fun _ => True) (okp := fun _ => True) ?hr ?hp (fun _ hk => hk) trivial (Below.refl _ _) (Nat.le_refl _) (by simp) ?_; (case hd => rfl); (case hg => rfl); (case hr => first | (go_simp; done) | (go_simp; rfl)); (case hp => exact (Reps.none _ _)); intro v106 w8 ho9 hb hg_ hnew_; clear hg_ hnew_; (first | rw [← Ny105.out] at ho9 | (simp only [Int.reduceToNat] at ho9; rw [← Ny105.out] at ho9)); have n0_ := Aside0.mk (Kd.R_lower ho9 (below_size (by repeat (first | (with_reducible first | exact HB.out | apply below_alloc | apply pw_below_drewN | apply below_drew1) | exact HB.out)))); have n1_ := Aside0.mk (below_step (by repeat (first | (with_reducible first | exact HB.out | apply below_alloc | apply pw_below_drewN | apply below_drew1) | exact HB.out)) hb); clear HB; have HO107 := n0_; have HB := n1_; clear n0_ n1_; clear hb ho9))
    go_ret
    exact ⟨_, by first | rfl | (simp [errW_none, errW_some] <;> rfl) | (simp [*, errW_none, errW_some] <;> rfl), by (with_reducible repeat (first | apply Kd.R_alloc | apply Kd.R_drewN | apply Kd.R_drew)); exact HO107.out, by repeat (first | (with_reducible first | exact HB.out | apply below_alloc | apply pw_below_drewN | apply below_drew1) | exact HB.out)⟩
end
end Go.Proofs.YtijompkonaiagaaGreatDoor.Q
namespace Go.Proofs.YtijompkonaiagaaGreatDoor.Q
open Go.RowKit Go.Proofs.YtijompkonaiagaaGreatDoorW.PrintWords Go.Proofs.YtijompkonaiagaaGreatDoorW.PrintLast Go.Proofs.YtijompkonaiagaaGreatDoorW.PrintMore
attribute [local go_sem] max2_int min2_int max_two min_two max_three min_three max_four min_four
set_option linter.unusedVariables false
set_option linter.unusedSimpArgs false
noncomputable section
def spec_TextNames.l0 : Nat → List (S24) → List (S67) → Int → Option ((List (S24)))
  | 0, _, _, _ => none
  | k + 1, x3, x4, x5 => if x5 < (x4.length : Int) then (if 0 ≤ x5 then (if (rd_T67 x4 x5).f1 = true then (if x3.length < 8796093022208 then (spec_TextNames.l0 k (x3 ++ [(⟨(rd_T67 x4 x5).f2.f0, (rd_T67 x4 x5).f2.f1⟩ : S24)]) x4 (wrap64 (x5 + 1))) else (none)) else (spec_TextNames.l0 k x3 x4 (wrap64 (x5 + 1)))) else (none)) else (some x3)
def spec_TextNames.f (k : Nat) (a0 : ByteArray) : Option ((List (S24))) := (spec_TextPieces.f k a0).bind fun t104 => (spec_TextNames.l0 k (([] : List (S24))) t104 0)
set_option maxHeartbeats 8000000 in
set_option maxRecDepth 100000 in
theorem spec_TextNames.calls (k : Nat) (a0 : ByteArray) (r : List (S24)) (w : World) (h : spec_TextNames.f k a0 = some r) :
    Calls Tryz.prog 78 #[.string a0] w fun e w' => ∃ v0_ : Value, e = .returned (v0_) ∧ Kd.R k24 24 w' w.heap.size (fun _ => True) v0_ r ∧ Below w.heap.size w w' := by
  have hu24 := Tryz.underlying24
  have HB := Aside0.mk (Below.refl w.heap.size w)
  have H : ((spec_TextPieces.f k a0).bind fun t104 => (spec_TextNames.l0 k (([] : List (S24))) t104 0)) = some r := h
  clear h
  obtain ⟨y101, hy101⟩ : ∃ y_ : List (S24), y_ = (([] : List (S24))) := ⟨_, rfl⟩
  replace H : ((spec_TextPieces.f k a0).bind fun t104 => (spec_TextNames.l0 k y101 t104 0)) = some r := by first | (rw [hy101]; with_reducible exact H) | (have H2_ := (Option.bind_some _ _).symm.trans H; rw [hy101]; with_reducible exact H2_) | (have H2_ := (Option.bind_some _ _).symm.trans H; with_reducible exact H2_) | with_reducible exact H | (rw [hy101]; exact H) | exact H
  have Ny101 := Aside0.mk hy101
  clear hy101
  replace H := Option.bind_eq_some_iff.mp H
  obtain ⟨t104, A20, H⟩ := H
  replace H : (spec_TextNames.l0 k y101 t104 0) = some r := H
  have A2 := Aside0.mk A20
  clear A20
  have H' := Aside0.mk H
  clear H
  go_enter Tryz.func78, Tryz.ntmps78
  go_wp2_with (first | ((with_reducible refine gate_dst (N := 6) rfl ?_); refine Kd.R_lit k24 _ 24 ?hg (N := 6) ?hd (xs := ([] : List (S24))) (inner := []) (ok := fun _ => True) (okp := fun _ => True) ?hr ?hp (fun _ hk => hk) trivial (Below.refl _ _) (Nat.le_refl _) (by simp) ?_; (case hd => rfl); (case hg => rfl); (case hr => first | (go_simp; done) | (go_simp; rfl)); (case hp => exact (Reps.none _ _)); intro v102 w3 ho4 hb hg_ hnew_; clear hg_ hnew_; (first | rw [← Ny101.out] at ho4 | (simp only [Int.reduceToNat] at ho4; rw [← Ny101.out] at ho4)); have n0_ := Aside0.mk (Kd.R_lower ho4 (below_size (by repeat (first | (with_reducible first | exact HB.out | apply below_alloc | apply pw_below_drewN | apply below_drew1) | exact HB.out)))); have n1_ := Aside0.mk (below_step (by repeat (first | (with_reducible first | exact HB.out | apply below_alloc | apply pw_below_drewN | apply below_drew1) | exact HB.out)) hb); clear HB; have HO103 := n0_; have HB := n1_; clear n0_ n1_; clear hb ho4) | ((with_reducible refine gate_callee (f := 100) rfl ?_); refine goesL_ (some 8) rfl rfl Tryz.func100 (by kernel_rfl) rfl #[.string a0] rfl (by (try simp only [List.map_toArray, List.map_cons, List.map_nil]); first | done | rfl | (simp only [List.length_drop, List.length_take]; rfl)) ?_; (with_reducible refine (spec_TextPieces.calls k a0 t104 _ A2.out).mono ?_); rintro e w5 ⟨v105, rfl, ho0, hb⟩; refine ⟨_, rfl, ?_⟩; have n0_ := Aside0.mk (Kd.R_below (by (with_reducible repeat (first | apply Kd.R_alloc | apply Kd.R_drewN | apply Kd.R_drew)); exact HO103.out) hb); have n1_ := Aside0.mk (Kd.R_lower ho0 (below_size (by repeat (first | (with_reducible first | exact HB.out | apply below_alloc | apply pw_below_drewN | apply below_drew1) | exact HB.out)))); have n2_ := Aside0.mk (below_step (by repeat (first | (with_reducible first | exact HB.out | apply below_alloc | apply pw_below_drewN | apply below_drew1) | exact HB.out)) hb); clear HO103; clear HB; have HO103 := n0_; have HO106 := n1_; have HB := n2_; clear n0_ n1_ n2_; (try clear hb); (try clear hb2); (try clear hk); (try clear hi); (try clear ho0)))
  go_loopg [3, 5] k (fun kq v3 v5 w' => ∃ (x3_1 : List (S24)) (x5_1 : Int), v5 = .int .i64 x5_1 ∧ Aside0 (spec_TextNames.l0 kq x3_1 t104 x5_1 = some r) ∧ Aside0 (kq ≤ k) ∧ Aside0 (Kd.R k24 24 w' w.heap.size (fun _ => True) v3 x3_1) ∧ Aside0 (Kd.R k67 67 w' w.heap.size (fun _ => True) v105 t104) ∧ Aside0 (Below w.heap.size w w'))
  case atStart => exact ⟨(y101), (0), (by first | rfl | (simp; done) | (simp [*]; done)), H', ⟨Nat.le_refl _⟩, ⟨by (with_reducible repeat (first | apply Kd.R_alloc | apply Kd.R_drewN | apply Kd.R_drew)); exact HO103.out⟩, ⟨by (with_reducible repeat (first | apply Kd.R_alloc | apply Kd.R_drewN | apply Kd.R_drew)); exact HO106.out⟩, ⟨by repeat (first | (with_reducible first | exact HB.out | apply below_alloc | apply pw_below_drewN | apply below_drew1) | exact HB.out)⟩⟩
  case round =>
    clear H'
    try clear c1
    try clear p2
    obtain ⟨x3_1, x5_1, rfl, HA, HK1, HO_3, HO_4, HB⟩ := hrel
    cases gk with
    | zero => exact absurd HA.out (by simp [spec_TextNames.l0])
    | succ k1 =>
      have H := HA.out
      clear HA
      simp only [spec_TextNames.l0] at H
      by_cases c6 : x5_1 < (t104.length : Int)
      · rw [if_pos c6] at H
        have c6b0 : decide (x5_1 < (t104.length : Int)) = true := decide_eq_true c6
        clear c6
        by_cases c7 : 0 ≤ x5_1
        · rw [if_pos c7] at H
          have c7b0 : decide (0 ≤ x5_1) = true := decide_eq_true c7
          clear c7
          obtain ⟨bq8, hbq8⟩ : ∃ b_ : Bool, b_ = ((rd_T67 t104 x5_1).f1) := ⟨_, rfl⟩
          replace H : (if bq8 = true then (if x3_1.length < 8796093022208 then (spec_TextNames.l0 k1 (x3_1 ++ [(⟨(rd_T67 t104 x5_1).f2.f0, (rd_T67 t104 x5_1).f2.f1⟩ : S24)]) t104 (wrap64 (x5_1 + 1))) else (none)) else (spec_TextNames.l0 k1 x3_1 t104 (wrap64 (x5_1 + 1)))) = some r := by rw [← hbq8] at H; exact H
          have Nbq8 := Aside0.mk hbq8
          clear hbq8
          by_cases c9 : bq8 = true
          · subst c9
            have H1 : (if x3_1.length < 8796093022208 then (spec_TextNames.l0 k1 (x3_1 ++ [(⟨(rd_T67 t104 x5_1).f2.f0, (rd_T67 t104 x5_1).f2.f1⟩ : S24)]) t104 (wrap64 (x5_1 + 1))) else (none)) = some r := by rw [if_pos rfl] at H; exact H
            clear H
            have H := H1
            clear H1
            by_cases c10 : x3_1.length < 8796093022208
            · rw [if_pos c10] at H
              have LMc10 := Aside0.mk c10
              clear c10
              obtain ⟨y109, hy109⟩ : ∃ y_ : List (S24), y_ = (x3_1 ++ [(⟨(rd_T67 t104 x5_1).f2.f0, (rd_T67 t104 x5_1).f2.f1⟩ : S24)]) := ⟨_, rfl⟩
              replace H : (spec_TextNames.l0 k1 y109 t104 (wrap64 (x5_1 + 1))) = some r := by first | (rw [hy109]; with_reducible exact H) | (have H2_ := (Option.bind_some _ _).symm.trans H; rw [hy109]; with_reducible exact H2_) | (have H2_ := (Option.bind_some _ _).symm.trans H; with_reducible exact H2_) | with_reducible exact H | (rw [hy109]; exact H) | exact H
              have Ny109 := Aside0.mk hy109
              clear hy109
              have H' := Aside0.mk H
              clear H
              obtain ⟨Ao11, co11, eo11⟩ := Kd.R_slice HO_4.out
              subst eo11
              have p107 : 0 ≤ (x5_1 : Int) := of_decide_eq_true (by first | (with_reducible assumption) | assumption)
              have q107 : x5_1 < (t104.length : Int) := of_decide_eq_true (by first | (with_reducible assumption) | assumption)
              obtain ⟨ad107, e107, hx107_0, hx107_1, hx107_2, hx107_3⟩ := at_T67 (Kd.R_reads' HO_4.out).2.2 x5_1 p107 q107
              (try rw [← Nbq8.out] at hx107_1)
              cases e107
              replace p107 := eq_true p107
              replace q107 := eq_true q107
              have p108 : 0 ≤ (x5_1 : Int) := of_decide_eq_true (by first | (with_reducible assumption) | assumption)
              have q108 : x5_1 < (t104.length : Int) := of_decide_eq_true (by first | (with_reducible assumption) | assumption)
              obtain ⟨ad108, e108, hx108_0, hx108_1, hx108_2, hx108_3⟩ := at_T67 (Kd.R_reads' HO_4.out).2.2 x5_1 p108 q108
              (try rw [← Nbq8.out] at hx108_1)
              obtain rfl : ad107 = ad108 := (by injection e108)
              replace p108 := eq_true p108
              replace q108 := eq_true q108
              go_wp2_with (first | ((with_reducible refine gate_builtin (b := .append) (xs := #[.tmp 20, .tmp 26]) rfl ?_); at_builtin; refine Kd.R_append k24 (w0 := w) w.heap.size rfl (.tmp 20) (.tmp 26) 46 24 (.agg #[(.int .i64 0), (.int .i64 0)]) 16 rfl Tryz.underlying46 info24 rfl (by decide) (by omega) u3 x3_1 (⟨(rd_T67 t104 x5_1).f2.f0, (rd_T67 t104 x5_1).f2.f1⟩ : S24) [.int .i64 ((rd_T67 t104 x5_1).f2.f0), .int .i64 ((rd_T67 t104 x5_1).f2.f1)] (fun _ => True) (fun _ => False) rfl rfl ?aP (fun _ hk => hk.elim) ?aF ?aO ?aB ?aS ?aL ?_; (case aP => exact k24_mkM _ _ _ (⟨(rd_T67 t104 x5_1).f2.f0, (rd_T67 t104 x5_1).f2.f1⟩ : S24)); (case aB => exact (by repeat (first | (with_reducible first | exact HB.out | apply below_alloc | apply pw_below_drewN | apply below_drew1) | exact HB.out))); (case aF => exact (fun _ _ => trivial)); (case aO => exact (by (with_reducible repeat (first | apply Kd.R_alloc | apply Kd.R_drewN | apply Kd.R_drew)); exact HO_3.out)); (case aS => exact (below_size (by repeat (first | (with_reducible first | exact HB.out | apply below_alloc | apply pw_below_drewN | apply below_drew1) | exact HB.out)))); (case aL => have := LMc10.out; omega); intro v110 w12 ho hb hg hat; rw [← Ny109.out] at ho; have n0_ := Aside0.mk (Kd.R_over' (by (with_reducible repeat (first | apply Kd.R_alloc | apply Kd.R_drewN | apply Kd.R_drew)); exact HO_4.out) (Kd.R_typed (by (with_reducible repeat (first | apply Kd.R_alloc | apply Kd.R_drewN | apply Kd.R_drew)); exact HO_3.out)) (by decide) hg); have n1_ := Aside0.mk (hb); have n2_ := Aside0.mk (ho); clear HO_4; clear HB; clear HO_3; have HO_4 := n0_; have HB := n1_; have HO111 := n2_; clear n0_ n1_ n2_; clear ho hb hg hat))
              go_roundg k1
              case measure => have := HK1.out; omega
              case rel => exact ⟨(y109), (wrap64 (x5_1 + 1)), (by first | rfl | (simp; done) | (simp [*]; done)), H', ⟨by have := HK1.out; omega⟩, ⟨by (with_reducible repeat (first | apply Kd.R_alloc | apply Kd.R_drewN | apply Kd.R_drew)); exact HO111.out⟩, ⟨by (with_reducible repeat (first | apply Kd.R_alloc | apply Kd.R_drewN | apply Kd.R_drew)); exact HO_4.out⟩, ⟨by repeat (first | (with_reducible first | exact HB.out | apply below_alloc | apply pw_below_drewN | apply below_drew1) | exact HB.out)⟩⟩
            · rw [if_neg c10] at H
              exact absurd H (by simp)
          · replace c9 := Bool.eq_false_iff.mpr c9
            subst c9
            have H1 : (spec_TextNames.l0 k1 x3_1 t104 (wrap64 (x5_1 + 1))) = some r := by rw [if_neg (show ¬ (false = true) by decide)] at H; exact H
            clear H
            have H := H1
            clear H1
            have H' := Aside0.mk H
            clear H
            obtain ⟨Ao13, co13, eo13⟩ := Kd.R_slice HO_4.out
            subst eo13
            have p107 : 0 ≤ (x5_1 : Int) := of_decide_eq_true (by first | (with_reducible assumption) | assumption)
            have q107 : x5_1 < (t104.length : Int) := of_decide_eq_true (by first | (with_reducible assumption) | assumption)
            obtain ⟨ad107, e107, hx107_0, hx107_1, hx107_2, hx107_3⟩ := at_T67 (Kd.R_reads' HO_4.out).2.2 x5_1 p107 q107
            (try rw [← Nbq8.out] at hx107_1)
            cases e107
            replace p107 := eq_true p107
            replace q107 := eq_true q107
            go_wp2
            go_roundg k1
            case measure => have := HK1.out; omega
            case rel => exact ⟨(x3_1), (wrap64 (x5_1 + 1)), (by first | rfl | (simp; done) | (simp [*]; done)), H', ⟨by have := HK1.out; omega⟩, ⟨by (with_reducible repeat (first | apply Kd.R_alloc | apply Kd.R_drewN | apply Kd.R_drew)); exact HO_3.out⟩, ⟨by (with_reducible repeat (first | apply Kd.R_alloc | apply Kd.R_drewN | apply Kd.R_drew)); exact HO_4.out⟩, ⟨by repeat (first | (with_reducible first | exact HB.out | apply below_alloc | apply pw_below_drewN | apply below_drew1) | exact HB.out)⟩⟩
        · rw [if_neg c7] at H
          exact absurd H (by simp)
      · rw [if_neg c6] at H
        have c6b0 : decide (x5_1 < (t104.length : Int)) = false := decide_eq_false c6
        clear c6
        obtain rfl := Option.some.inj H
        obtain ⟨Ao14, co14, eo14⟩ := Kd.R_slice HO_4.out
        subst eo14
        go_wp2
        go_ret
        exact ⟨_, by first | rfl | (simp [errW_none, errW_some] <;> rfl) | (simp [*, errW_none, errW_some] <;> rfl), by (with_reducible repeat (first | apply Kd.R_alloc | apply Kd.R_drewN | apply Kd.R_drew)); exact HO_3.out, by repeat (first | (with_reducible first | exact HB.out | apply below_alloc | apply pw_below_drewN | apply below_drew1) | exact HB.out)⟩
end
end Go.Proofs.YtijompkonaiagaaGreatDoor.Q
namespace Go.Proofs.YtijompkonaiagaaGreatDoor.Q
open Go.RowKit Go.Proofs.YtijompkonaiagaaGreatDoorW.PrintWords Go.Proofs.YtijompkonaiagaaGreatDoorW.PrintLast Go.Proofs.YtijompkonaiagaaGreatDoorW.PrintMore
attribute [local go_sem] max2_int min2_int max_two min_two max_three min_three max_four min_four
set_option linter.unusedVariables false
set_option linter.unusedSimpArgs false
noncomputable section
def spec_l21Own.l0 : Nat → List (S24) → Int → Option (Bool)
  | 0, _, _ => none
  | k + 1, x3, x4 => if x4 < (x3.length : Int) then (if 0 ≤ x4 then ((spec_EndDoor.f ((rd_T24 x3 x4).f0) ((rd_T24 x3 x4).f1)).bind fun t105 => (if t105 = true then (some false) else (spec_l21Own.l0 k x3 (wrap64 (x4 + 1))))) else (none)) else (some true)
def spec_l21Own.f (k : Nat) (a0 : ByteArray) : Option (Bool) := (spec_TextNames.f k a0).bind fun t101 => (spec_l21Own.l0 k t101 0)
set_option maxHeartbeats 8000000 in
set_option maxRecDepth 100000 in
theorem spec_l21Own.calls (k : Nat) (a0 : ByteArray) (r : Bool) (w : World) (h : spec_l21Own.f k a0 = some r) :
    Calls Tryz.prog 49 #[.string a0] w fun e w' => e = .returned (.bool r) ∧ Below w.heap.size w w' := by
  have hu24 := Tryz.underlying24
  have HB := Aside0.mk (Below.refl w.heap.size w)
  have H : ((spec_TextNames.f k a0).bind fun t101 => (spec_l21Own.l0 k t101 0)) = some r := h
  clear h
  replace H := Option.bind_eq_some_iff.mp H
  obtain ⟨t101, A20, H⟩ := H
  replace H : (spec_l21Own.l0 k t101 0) = some r := H
  have A2 := Aside0.mk A20
  clear A20
  have H' := Aside0.mk H
  clear H
  go_enter Tryz.func49, Tryz.ntmps49
  go_wp2_with (first | ((with_reducible refine gate_callee (f := 78) rfl ?_); refine goesL_ (some 6) rfl rfl Tryz.func78 (by kernel_rfl) rfl #[.string a0] rfl (by (try simp only [List.map_toArray, List.map_cons, List.map_nil]); first | done | rfl | (simp only [List.length_drop, List.length_take]; rfl)) ?_; (with_reducible refine (spec_TextNames.calls k a0 t101 _ A2.out).mono ?_); rintro e w3 ⟨v102, rfl, ho0, hb⟩; refine ⟨_, rfl, ?_⟩; have n0_ := Aside0.mk (Kd.R_lower ho0 (below_size (by repeat (first | (with_reducible first | exact HB.out | apply below_alloc | apply pw_below_drewN | apply below_drew1) | exact HB.out)))); have n1_ := Aside0.mk (below_step (by repeat (first | (with_reducible first | exact HB.out | apply below_alloc | apply pw_below_drewN | apply below_drew1) | exact HB.out)) hb); clear HB; have HO103 := n0_; have HB := n1_; clear n0_ n1_; (try clear hb); (try clear hb2); (try clear hk); (try clear hi); (try clear ho0)))
  go_loopg [4] k (fun kq v4 w' => ∃ (x4_1 : Int), v4 = .int .i64 x4_1 ∧ Aside0 (spec_l21Own.l0 kq t101 x4_1 = some r) ∧ Aside0 (kq ≤ k) ∧ Aside0 (Kd.R k24 24 w' w.heap.size (fun _ => True) v102 t101) ∧ Aside0 (Below w.heap.size w w'))
  case atStart => exact ⟨(0), (by first | rfl | (simp; done) | (simp [*]; done)), H', ⟨Nat.le_refl _⟩, ⟨by (with_reducible repeat (first | apply Kd.R_alloc | apply Kd.R_drewN | apply Kd.R_drew)); exact HO103.out⟩, ⟨by repeat (first | (with_reducible first | exact HB.out | apply below_alloc | apply pw_below_drewN | apply below_drew1) | exact HB.out)⟩⟩
  case round =>
    clear H'
    try clear p2
    obtain ⟨x4_1, rfl, HA, HK1, HO_3, HB⟩ := hrel
    cases gk with
    | zero => exact absurd HA.out (by simp [spec_l21Own.l0])
    | succ k1 =>
      have H := HA.out
      clear HA
      simp only [spec_l21Own.l0] at H
      by_cases c4 : x4_1 < (t101.length : Int)
      · rw [if_pos c4] at H
        have c4b0 : decide (x4_1 < (t101.length : Int)) = true := decide_eq_true c4
        clear c4
        by_cases c5 : 0 ≤ x4_1
        · rw [if_pos c5] at H
          have c5b0 : decide (0 ≤ x4_1) = true := decide_eq_true c5
          clear c5
          replace H := Option.bind_eq_some_iff.mp H
          obtain ⟨t105, A60, H⟩ := H
          replace H : (if t105 = true then (some false) else (spec_l21Own.l0 k1 t101 (wrap64 (x4_1 + 1)))) = some r := H
          have A6 := Aside0.mk A60
          clear A60
          by_cases c7 : t105 = true
          · subst c7
            have H1 : (some false) = some r := by rw [if_pos rfl] at H; exact H
            clear H
            have H := H1
            clear H1
            obtain rfl := Option.some.inj H
            obtain ⟨Ao8, co8, eo8⟩ := Kd.R_slice HO_3.out
            subst eo8
            have p104 : 0 ≤ (x4_1 : Int) := of_decide_eq_true (by first | (with_reducible assumption) | assumption)
            have q104 : x4_1 < (t101.length : Int) := of_decide_eq_true (by first | (with_reducible assumption) | assumption)
            obtain ⟨ad104, e104, hx104_0, hx104_1⟩ := at_T24 (Kd.R_reads' HO_3.out).2.2 x4_1 p104 q104
            cases e104
            replace p104 := eq_true p104
            replace q104 := eq_true q104
            go_wp2_with (first | ((with_reducible refine gate_callee (f := 79) rfl ?_); refine goesL_ (some 17) rfl rfl Tryz.func79 (by kernel_rfl) rfl #[.agg #[.int .i64 ((rd_T24 t101 x4_1).f0), .int .i64 ((rd_T24 t101 x4_1).f1)]] rfl (by (try simp only [List.map_toArray, List.map_cons, List.map_nil]); first | done | rfl | (simp only [List.length_drop, List.length_take]; rfl)) ?_; (with_reducible refine (spec_EndDoor.calls ((rd_T24 t101 x4_1).f0) ((rd_T24 t101 x4_1).f1) true _ A6.out).mono ?_); rintro e w9 ⟨rfl, hb⟩; refine ⟨_, rfl, ?_⟩; have n0_ := Aside0.mk (Kd.R_below (by (with_reducible repeat (first | apply Kd.R_alloc | apply Kd.R_drewN | apply Kd.R_drew)); exact HO_3.out) hb); have n1_ := Aside0.mk (below_step (by repeat (first | (with_reducible first | exact HB.out | apply below_alloc | apply pw_below_drewN | apply below_drew1) | exact HB.out)) hb); clear HO_3; clear HB; have HO_3 := n0_; have HB := n1_; clear n0_ n1_; (try clear hb); (try clear hb2); (try clear hk); (try clear hi)))
            go_ret
            exact ⟨by first | rfl | (simp [errW_none, errW_some] <;> rfl) | (simp [*, errW_none, errW_some] <;> rfl), by repeat (first | (with_reducible first | exact HB.out | apply below_alloc | apply pw_below_drewN | apply below_drew1) | exact HB.out)⟩
          · replace c7 := Bool.eq_false_iff.mpr c7
            subst c7
            have H1 : (spec_l21Own.l0 k1 t101 (wrap64 (x4_1 + 1))) = some r := by rw [if_neg (show ¬ (false = true) by decide)] at H; exact H
            clear H
            have H := H1
            clear H1
            have H' := Aside0.mk H
            clear H
            obtain ⟨Ao10, co10, eo10⟩ := Kd.R_slice HO_3.out
            subst eo10
            have p104 : 0 ≤ (x4_1 : Int) := of_decide_eq_true (by first | (with_reducible assumption) | assumption)
            have q104 : x4_1 < (t101.length : Int) := of_decide_eq_true (by first | (with_reducible assumption) | assumption)
            obtain ⟨ad104, e104, hx104_0, hx104_1⟩ := at_T24 (Kd.R_reads' HO_3.out).2.2 x4_1 p104 q104
            cases e104
            replace p104 := eq_true p104
            replace q104 := eq_true q104
            go_wp2_with (first | ((with_reducible refine gate_callee (f := 79) rfl ?_); refine goesL_ (some 17) rfl rfl Tryz.func79 (by kernel_rfl) rfl #[.agg #[.int .i64 ((rd_T24 t101 x4_1).f0), .int .i64 ((rd_T24 t101 x4_1).f1)]] rfl (by (try simp only [List.map_toArray, List.map_cons, List.map_nil]); first | done | rfl | (simp only [List.length_drop, List.length_take]; rfl)) ?_; (with_reducible refine (spec_EndDoor.calls ((rd_T24 t101 x4_1).f0) ((rd_T24 t101 x4_1).f1) false _ A6.out).mono ?_); rintro e w11 ⟨rfl, hb⟩; refine ⟨_, rfl, ?_⟩; have n0_ := Aside0.mk (Kd.R_below (by (with_reducible repeat (first | apply Kd.R_alloc | apply Kd.R_drewN | apply Kd.R_drew)); exact HO_3.out) hb); have n1_ := Aside0.mk (below_step (by repeat (first | (with_reducible first | exact HB.out | apply below_alloc | apply pw_below_drewN | apply below_drew1) | exact HB.out)) hb); clear HO_3; clear HB; have HO_3 := n0_; have HB := n1_; clear n0_ n1_; (try clear hb); (try clear hb2); (try clear hk); (try clear hi)))
            go_roundg k1
            case measure => have := HK1.out; omega
            case rel => exact ⟨(wrap64 (x4_1 + 1)), (by first | rfl | (simp; done) | (simp [*]; done)), H', ⟨by have := HK1.out; omega⟩, ⟨by (with_reducible repeat (first | apply Kd.R_alloc | apply Kd.R_drewN | apply Kd.R_drew)); exact HO_3.out⟩, ⟨by repeat (first | (with_reducible first | exact HB.out | apply below_alloc | apply pw_below_drewN | apply below_drew1) | exact HB.out)⟩⟩
        · rw [if_neg c5] at H
          exact absurd H (by simp)
      · rw [if_neg c4] at H
        have c4b0 : decide (x4_1 < (t101.length : Int)) = false := decide_eq_false c4
        clear c4
        obtain rfl := Option.some.inj H
        obtain ⟨Ao12, co12, eo12⟩ := Kd.R_slice HO_3.out
        subst eo12
        go_wp2
        go_ret
        exact ⟨by first | rfl | (simp [errW_none, errW_some] <;> rfl) | (simp [*, errW_none, errW_some] <;> rfl), by repeat (first | (with_reducible first | exact HB.out | apply below_alloc | apply pw_below_drewN | apply below_drew1) | exact HB.out)⟩
end
end Go.Proofs.YtijompkonaiagaaGreatDoor.Q
namespace Go.Proofs.YtijompkonaiagaaGreatDoor.Q
open Go.RowKit Go.Proofs.YtijompkonaiagaaGreatDoorW.PrintWords Go.Proofs.YtijompkonaiagaaGreatDoorW.PrintMore Go.Proofs.YtijompkonaiagaaGreatDoor.Z
set_option linter.unusedVariables false
set_option linter.unusedSimpArgs false
theorem spec_TextPieces_to (k : Nat) (hk : 2000 < k) (l : List UInt8) (hl : l.length ≤ 140737488355328) : spec_TextPieces.f k (mkB l) = some ((pieces l).map pcTo) := by
  unfold spec_TextPieces.f spec_TextOk.f pieces
  rw [size_mkB, if_pos hl, bl_of, Option.bind_some]
  cases h2 : textOk l
  · simp
  · have hl2 := textOk_len h2
    rw [if_pos rfl, if_pos rfl, spec_pieces_to k l (by omega) (by omega)]
    rfl
theorem spec_names_l0 (ps : List Pc) (hps : ps.length ≤ 1000) (n : Nat) : ∀ (k : Nat) (acc : List S24) (i : Nat), ps.length - i ≤ n → n < k → i ≤ ps.length → acc.length ≤ i →
    spec_TextNames.l0 k acc (ps.map pcTo) i = some (acc ++ (names (ps.drop i)).map enTo) := by
  induction n with
  | zero =>
    intro k acc i hn hk hi ha
    obtain ⟨k, rfl⟩ : ∃ m, k = m + 1 := ⟨k - 1, by omega⟩
    simp only [spec_TextNames.l0]
    rw [if_neg (by rw [List.length_map]; omega), List.drop_of_length_le (by omega)]
    simp [names]
  | succ n ih =>
    intro k acc i hn hk hi ha
    obtain ⟨k, rfl⟩ : ∃ m, k = m + 1 := ⟨k - 1, by omega⟩
    simp only [spec_TextNames.l0]
    by_cases hlt : i < ps.length
    · obtain ⟨p, hp⟩ : ∃ p, ps[i]? = some p := ⟨_, List.getElem?_eq_getElem hlt⟩
      have q0 : (i : Int) < (ps.length : Int) := by omega
      have q1 : (0 : Int) ≤ (i : Int) := by omega
      have q2 : acc.length < 8796093022208 := by omega
      have ih1 := ih k (acc ++ [enTo p.fin]) (i + 1) (by omega) (by omega) (by omega) (by rw [List.length_append, List.length_singleton]; omega)
      have ih2 := ih k acc (i + 1) (by omega) (by omega) (by omega) (by omega)
      have hw3 : wrap64 ((i : Int) + 1) = ((i + 1 : Nat) : Int) := by rw [w64 (by omega)]; omega
      have hr := rd_pc ps i p hp
      have hf1 : (rd_T67 (ps.map pcTo) (i : Int)).f1 = p.named := by rw [hr]; rfl
      have hf2 : (rd_T67 (ps.map pcTo) (i : Int)).f2.f0 = p.fin.addr := by rw [hr]; rfl
      have hf3 : (rd_T67 (ps.map pcTo) (i : Int)).f2.f1 = p.fin.port := by rw [hr]; rfl
      simp only [hf1, hf2, hf3, hw3, List.length_map, q0, q1, q2, if_true]
      rw [drop_of hp, names_cons]
      cases hn : p.named
      · rw [if_neg (by simp)]
        exact ih2
      · rw [if_pos rfl]
        refine ih1.trans ?_
        simp [enTo]
    · rw [if_neg (by rw [List.length_map]; omega), List.drop_of_length_le (by omega)]
      simp [names]
theorem spec_TextNames_to (k : Nat) (hk : 2000 < k) (l : List UInt8) (hl : l.length ≤ 140737488355328) : spec_TextNames.f k (mkB l) = some ((names (pieces l)).map enTo) := by
  have h := pieces_len l
  unfold spec_TextNames.f
  rw [spec_TextPieces_to k hk l hl, Option.bind_some]
  have := spec_names_l0 (pieces l) (by omega) 1000 k [] 0 (by omega) (by omega) (by omega) (by simp)
  rw [List.drop_zero, List.nil_append] at this
  exact this
theorem names_len (l : List UInt8) : (names (pieces l)).length ≤ 40 := by
  have h := pieces_len l
  unfold names
  rw [List.length_map]
  have h9 := List.length_filter_le (fun p : Pc => p.named) (pieces l)
  omega
theorem rd_en (es : List En) (i : Nat) (e : En) (h : es[i]? = some e) : rd_T24 (es.map enTo) (i : Int) = enTo e := by
  unfold rd_T24
  rw [Int.toNat_natCast, List.getD_eq_getElem?_getD, List.getElem?_map, h]
  rfl
theorem own_l0 (es : List En) (hes : es.length ≤ 1000) (n : Nat) : ∀ (k i : Nat), es.length - i ≤ n → n < k → i ≤ es.length →
    spec_l21Own.l0 k (es.map enTo) i = some (!(es.drop i).any doorB) := by
  induction n with
  | zero =>
    intro k i hn hk hi
    obtain ⟨k, rfl⟩ : ∃ m, k = m + 1 := ⟨k - 1, by omega⟩
    simp only [spec_l21Own.l0]
    rw [if_neg (by rw [List.length_map]; omega), List.drop_of_length_le (by omega)]
    rfl
  | succ n ih =>
    intro k i hn hk hi
    obtain ⟨k, rfl⟩ : ∃ m, k = m + 1 := ⟨k - 1, by omega⟩
    simp only [spec_l21Own.l0]
    by_cases hlt : i < es.length
    · obtain ⟨e, he⟩ : ∃ e, es[i]? = some e := ⟨_, List.getElem?_eq_getElem hlt⟩
      have ih1 := ih k (i + 1) (by omega) (by omega) (by omega)
      have hw3 : wrap64 ((i : Int) + 1) = ((i + 1 : Nat) : Int) := by rw [w64 (by omega)]; omega
      rw [if_pos (by rw [List.length_map]; omega), if_pos (by omega), rd_en es i e he, hw3, ih1, drop_of he]
      show (some (doorB ⟨e.addr, e.port⟩)).bind _ = _
      rw [Option.bind_some, show (⟨e.addr, e.port⟩ : En) = e from rfl]
      cases hd : doorB e
      · simp [hd]
      · simp [hd]
    · rw [if_neg (by rw [List.length_map]; omega), List.drop_of_length_le (by omega)]
      rfl
theorem spec_l21Own_to (k : Nat) (hk : 2000 < k) (l : List UInt8) (hl : l.length ≤ 140737488355328) : spec_l21Own.f k (mkB l) = some (!(names (pieces l)).any doorB) := by
  have h := names_len l
  unfold spec_l21Own.f
  rw [spec_TextNames_to k hk l hl, Option.bind_some]
  have := own_l0 (names (pieces l)) (by omega) 1000 k 0 (by omega) (by omega) (by omega)
  rw [List.drop_zero] at this
  exact this
def sayOk (l : List UInt8) : Bool := decide (l.length ≤ 24) && textOk l && heldN l == 0
theorem zero_beq (n : Nat) : ((n : Int) == 0) = (n == 0) := by
  rw [Bool.eq_iff_iff, beq_iff_eq, beq_iff_eq]
  omega
theorem impl_saying_to (l : List UInt8) (hl : l.length ≤ 140737488355328) : impl_saying.f (mkB l) = some (sayOk l) := by
  unfold impl_saying.f impl_TextOk.f impl_held.f sayOk
  rw [size_mkB]
  by_cases h : l.length ≤ 24
  · rw [if_pos (by omega), if_pos (by omega), Option.bind_some, bl_of, decide_eq_true h, Bool.true_and]
    cases textOk l
    · simp
    · rw [if_pos rfl, if_pos (by omega), Option.bind_some, Bool.true_and, zero_beq]
  · rw [if_neg (by omega), decide_eq_false h]
    simp
theorem spec_l21Whole_to (l : List UInt8) (hl : l.length ≤ 140737488355328) : spec_l21Whole.f (mkB l) = some (sayOk l) := by
  unfold spec_l21Whole.f spec_TextOk.f spec_l2Held.f sayOk
  rw [size_mkB, if_pos hl, Option.bind_some, bl_of]
  cases h2 : textOk l
  · simp
  · rw [if_pos rfl]
    by_cases h : l.length ≤ 24
    · rw [if_pos (by omega), if_pos (by omega), Option.bind_some, decide_eq_true h, Bool.true_and, Bool.true_and, zero_beq]
    · rw [if_neg (by omega), decide_eq_false h]
      simp
def convB (i o : En) (up down : List UInt8) : Bool := insideB i && outsideB o && sayOk up && sayOk down && !(names (pieces up)).any doorB
theorem any_door (es : List En) : (es.map enTo).any isDoor = es.any doorB := by rw [List.any_map]; rfl
end Go.Proofs.YtijompkonaiagaaGreatDoor.Q
namespace Go.Proofs.YtijompkonaiagaaGreatDoor.Q
open Go.RowKit Go.Proofs.YtijompkonaiagaaGreatDoorW.PrintWords Go.Proofs.YtijompkonaiagaaGreatDoor.Z
set_option linter.unusedVariables false
set_option linter.unusedSimpArgs false
theorem held_pos {l : List UInt8} {j : Nat} (h1 : 1 ≤ j) (h2 : j ≤ min 5 l.length) (hb : begB (l.drop (l.length - j)) = true) : 0 < heldN l := by
  apply Classical.byContradiction
  intro h
  have := heldFrom_max l (min 5 l.length) j (by have e : heldFrom l (min 5 l.length) = heldN l := rfl; omega) h2
  rw [hb] at this
  cases this
theorem held_at (l : List UInt8) : 0 < heldN (l ++ [64]) := by
  refine held_pos (j := 1) (Nat.le_refl _) (by simp; omega) ?_
  rw [List.length_append, List.length_singleton, Nat.add_sub_cancel, List.drop_left]
  decide
theorem held_at1 (l : List UInt8) : 0 < heldN (l ++ [64, 49]) := by
  refine held_pos (j := 2) (by omega) (by simp; omega) ?_
  rw [List.length_append, show ([64, 49] : List UInt8).length = 2 from rfl, Nat.add_sub_cancel, List.drop_left]
  decide
theorem inside_outside {e : En} (h : insideB e = true) : outsideB e = false := by
  unfold insideB inB at h
  unfold outsideB inB
  simp only [Bool.and_eq_true, decide_eq_true_iff] at h
  rw [decide_eq_false (by omega), Bool.false_and, Bool.false_and]
theorem sayOk_iff {l : List UInt8} : sayOk l = true ↔ l.length ≤ 24 ∧ textOk l = true ∧ heldN l = 0 := by
  unfold sayOk
  rw [Bool.and_eq_true, Bool.and_eq_true, decide_eq_true_iff, beq_iff_eq, and_assoc]
theorem conv_whole {i o : En} {up down : List UInt8} (h : convB i o up down = true) :
    up.length ≤ 24 ∧ down.length ≤ 24 ∧ heldN up = 0 ∧ heldN down = 0 ∧ (names (pieces up)).any doorB = false ∧ convB i o (up ++ [64]) down = false ∧ convB i o up (down ++ [64, 49]) = false ∧ convB o i up down = false := by
  unfold convB at h
  simp only [Bool.and_eq_true, Bool.not_eq_true'] at h
  obtain ⟨⟨⟨⟨h1, h2⟩, h3⟩, h4⟩, h5⟩ := h
  have g3 := sayOk_iff.1 h3
  have g4 := sayOk_iff.1 h4
  have n1 : sayOk (up ++ [64]) = false := by
    rw [← Bool.not_eq_true, sayOk_iff]
    have := held_at up
    omega
  have n2 : sayOk (down ++ [64, 49]) = false := by
    rw [← Bool.not_eq_true, sayOk_iff]
    have := held_at1 down
    omega
  refine ⟨g3.1, g4.1, g3.2.2, g4.2.2, h5, ?_, ?_, ?_⟩
  · unfold convB
    rw [n1]
    simp
  · unfold convB
    rw [n2]
    simp
  · unfold convB
    rw [inside_outside h1]
    simp
end Go.Proofs.YtijompkonaiagaaGreatDoor.Q
