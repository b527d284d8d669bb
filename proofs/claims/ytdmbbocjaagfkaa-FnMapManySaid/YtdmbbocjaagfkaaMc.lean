/- Whether pairs are a map: the program's MapOk, and the reference's. -/
import Derived.Test.YtdmbbocjaagfkaaMb
import Derived.Test.YtdmbbocjaagfkaaRg
import Derived.IntWalk
namespace Go.Proofs.Ytdmbbocjaagfkaa.Z
open Go.RowKit Go.Proofs.YtdmbbocjaagfkaaW.PrintWords
set_option linter.unusedVariables false
set_option linter.unusedSimpArgs false
attribute [local go_sem ↓] Go.wp_at_zero Go.wp_at_succ
attribute [local go_sem high] eqEn eqPr

set_option maxHeartbeats 2000000 in
theorem impl_MapOk (A : Option Addr) (n c : Nat) (m : List Pr) (w : World) (hC : Kd.C kPr w A n m) (hn : n ≤ 1099511627776) (hc : n ≤ c) :
    Calls Try.prog 14 #[.slice A n c] w fun r w' => r = .returned (.bool (mapOkB m)) ∧ Below w.heap.size w w' := by
  obtain rfl : m.length = n := hC.1
  have hcI : (m.length : Int) ≤ (c : Int) := by omega
  have HC := Aside0.mk hC; clear hC
  go_enter Try.func14, Try.ntmps14
  go_wp2
  go_loopw [7] (fun i w' => ∃ k : Nat, k ≤ m.length ∧ i = .int .i64 k ∧ Aside0 (okUpto m k) ∧ Below w.heap.size w w') (fun i _ => m.length - (intOf i).toNat)
  case atStart => exact ⟨0, Nat.zero_le _, rfl, ⟨fun i hi => absurd hi (Nat.not_lt_zero _)⟩, Below.refl _ _⟩
  case round =>
    obtain ⟨k, hk, rfl, HP, hb⟩ := hrel
    by_cases hlt : k < m.length
    · obtain ⟨ad, p, hA, hp, dL, d0, d1, d2⟩ := at_Pr (Kd.C_below HC.out hb) k hlt
      cases hA
      have hk0 : (0 : Int) ≤ (k : Int) := Int.natCast_nonneg _
      have hk1 : (k : Int) ≤ (m.length : Int) := by omega
      have hkc : (k : Int) ≤ (c : Int) := by omega
      by_cases h1 : p.port = 10 + k
      · have t1 : (p.port == 10 + (k : Int)) = true := beq_iff_eq.2 h1
        have t2 : (p.port != 10 + (k : Int)) = false := by rw [bne_eq_false_iff_eq]; exact h1
        cases h2 : insideB p.inside
        · have HF := Aside0.mk (mapOkB_no hlt (fun hg => by have := hg.2.1; rw [hp.out, h2] at this; cases this))
          have H2 := Aside0.mk h2
          clear h1 h2
          go_wp2
          have hw : IntKind.i64.wrap (10 + (k : Int)) = 10 + k := IntWalk.i64_in _ (by omega)
          refine lin_start (fun w' => w'.cell? ⟨wr.heap.size, 0, none⟩ = some (.int .i64 p.port) ∧ w'.cell? ⟨wr.heap.size, 1, none⟩ = some (.int .i64 p.inside.addr) ∧ w'.cell? ⟨wr.heap.size, 2, none⟩ = some (.int .i64 p.inside.port)) (true, [([], []), ([0], [0]), ([], []), ([2], [2]), ([1, 3], [1, 3]), ([4], [4]), ([5], [5]), ([6, 5], [5, 6]), ([7, 5, 5], [5, 7]), ([8, 5], [5, 8]), ([5, 9], [5, 9]), ([10, 8], [10]), ([11], [11]), ([11], [11]), ([12, 13, 11], [11, 12, 13]), ([11], [11]), ([15, 11], [11, 15]), ([14, 16, 11, 11], [11, 14, 16]), ([17, 11], [11, 17]), ([11, 18], [11, 18])]) [0, 1, 2, 3, 4, 5, 6, 7, 8, 9, 10, 11, 12, 13, 14, 15, 16, 17, 18, 19] (by kernel_rfl) (by kernel_rfl) (by kernel_rfl) (by simp) ?_
          repeat (first | (refine lin_take rfl rfl (by kernel_rfl) (fun _ _ _ h => h) (by rfl) (v := ?_) (a' := ?_) ?_ ?_ ?_; rotate_left 2; (rintro w' ⟨s0, s1, s2⟩; go_simp; with_reducible rfl); (simp only [List.getElem_toArray, List.getElem_cons_zero, List.getElem_cons_succ, Act.put, List.setIfInBounds_toArray, List.set_cons_zero, List.set_cons_succ]; rfl)) | (refine lin_off rfl rfl (by kernel_rfl) (fun _ _ _ h => h) (by rfl) (a' := ?_) ?_ ?_; rotate_left 1; (simp only [List.getElem_toArray, List.getElem_cons_zero, List.getElem_cons_succ, Act.put, List.setIfInBounds_toArray, List.set_cons_zero, List.set_cons_succ]; rfl)))
          refine lin_call rfl rfl rfl Try.func31 (by kernel_rfl) (by kernel_rfl) rfl (by rfl) (args := #[vEn p.inside]) (by (try simp only [List.map_toArray, List.map_cons, List.map_nil]); first | done | rfl) (fun hS => ?_)
          refine (impl_EndInside p.inside _).mono ?_
          rintro e w3 ⟨rfl, hb3⟩
          refine ⟨_, rfl, ?_, ?_⟩
          · first | exact (hb3.cell (by first | exact blk_lt (heap_alloc_new wr _))).trans hS | (obtain ⟨s0, s1, s2⟩ := hS; exact ⟨(hb3.cell (by first | exact blk_lt (heap_alloc_new wr _))).trans s0, (hb3.cell (by first | exact blk_lt (heap_alloc_new wr _))).trans s1, (hb3.cell (by first | exact blk_lt (heap_alloc_new wr _))).trans s2⟩)
          refine lin_norm (a' := ?_) ?_ ?_; rotate_left 1; (simp only [List.getElem_toArray, List.getElem_cons_zero, List.getElem_cons_succ, Act.put, List.setIfInBounds_toArray, List.set_cons_zero, List.set_cons_succ, H2.out]; rfl)
          repeat (first | (refine lin_take rfl rfl (by kernel_rfl) (fun _ _ _ h => h) (by rfl) (v := ?_) (a' := ?_) ?_ ?_ ?_; rotate_left 2; (rintro w' ⟨s0, s1, s2⟩; go_simp; with_reducible rfl); (simp only [List.getElem_toArray, List.getElem_cons_zero, List.getElem_cons_succ, Act.put, List.setIfInBounds_toArray, List.set_cons_zero, List.set_cons_succ]; rfl)) | (refine lin_off rfl rfl (by kernel_rfl) (fun _ _ _ h => h) (by rfl) (a' := ?_) ?_ ?_; rotate_left 1; (simp only [List.getElem_toArray, List.getElem_cons_zero, List.getElem_cons_succ, Act.put, List.setIfInBounds_toArray, List.set_cons_zero, List.set_cons_succ]; rfl)))
          refine lin_done (by kernel_rfl) ?_
          clear hw
          go_wp2
          go_ret
          exact ⟨ret_bool HF.out.symm, below_step ((by repeat (first | (with_reducible exact hb) | (with_reducible apply below_alloc) | (with_reducible apply pw_below_drewN) | (with_reducible apply below_drew1) | with_reducible refine below_set ?_ (by first | (with_reducible exact Nat.le_refl _) | (with_reducible assumption) | (simp; done) | omega)))) hb3⟩
        · have H2 := Aside0.mk h2
          have hz : (portFrom (m.take k) p.inside 0 = 0) ↔ _ := port_take_zero (Nat.le_of_lt hlt) HP.out
          by_cases h3 : portFrom (m.take k) p.inside 0 = 0
          · have hg : goodAt m k := ⟨by rw [hp.out]; exact h1, by rw [hp.out]; exact h2, by rw [hp.out]; exact hz.1 h3⟩
            have HF := Aside0.mk (okUpto_succ HP.out hg)
            have H3 := Aside0.mk h3
            clear h1 h2 h3 hz hg
            go_wp2
            have hw : IntKind.i64.wrap (10 + (k : Int)) = 10 + k := IntWalk.i64_in _ (by omega)
            refine lin_start (fun w' => w'.cell? ⟨wr.heap.size, 0, none⟩ = some (.int .i64 p.port) ∧ w'.cell? ⟨wr.heap.size, 1, none⟩ = some (.int .i64 p.inside.addr) ∧ w'.cell? ⟨wr.heap.size, 2, none⟩ = some (.int .i64 p.inside.port)) (true, [([], []), ([0], [0]), ([], []), ([2], [2]), ([1, 3], [1, 3]), ([4], [4]), ([5], [5]), ([6, 5], [5, 6]), ([7, 5, 5], [5, 7]), ([8, 5], [5, 8]), ([5, 9], [5, 9]), ([10, 8], [10]), ([11], [11]), ([11], [11]), ([12, 13, 11], [11, 12, 13]), ([11], [11]), ([15, 11], [11, 15]), ([14, 16, 11, 11], [11, 14, 16]), ([17, 11], [11, 17]), ([11, 18], [11, 18])]) [0, 1, 2, 3, 4, 5, 6, 7, 8, 9, 10, 11, 12, 13, 14, 15, 16, 17, 18, 19] (by kernel_rfl) (by kernel_rfl) (by kernel_rfl) (by simp) ?_
            repeat (first | (refine lin_take rfl rfl (by kernel_rfl) (fun _ _ _ h => h) (by rfl) (v := ?_) (a' := ?_) ?_ ?_ ?_; rotate_left 2; (rintro w' ⟨s0, s1, s2⟩; go_simp; with_reducible rfl); (simp only [List.getElem_toArray, List.getElem_cons_zero, List.getElem_cons_succ, Act.put, List.setIfInBounds_toArray, List.set_cons_zero, List.set_cons_succ]; rfl)) | (refine lin_off rfl rfl (by kernel_rfl) (fun _ _ _ h => h) (by rfl) (a' := ?_) ?_ ?_; rotate_left 1; (simp only [List.getElem_toArray, List.getElem_cons_zero, List.getElem_cons_succ, Act.put, List.setIfInBounds_toArray, List.set_cons_zero, List.set_cons_succ]; rfl)))
            refine lin_call rfl rfl rfl Try.func31 (by kernel_rfl) (by kernel_rfl) rfl (by rfl) (args := #[vEn p.inside]) (by (try simp only [List.map_toArray, List.map_cons, List.map_nil]); first | done | rfl) (fun hS => ?_)
            refine (impl_EndInside p.inside _).mono ?_
            rintro e w3 ⟨rfl, hb3⟩
            refine ⟨_, rfl, ?_, ?_⟩
            · first | exact (hb3.cell (by first | exact blk_lt (heap_alloc_new wr _))).trans hS | (obtain ⟨s0, s1, s2⟩ := hS; exact ⟨(hb3.cell (by first | exact blk_lt (heap_alloc_new wr _))).trans s0, (hb3.cell (by first | exact blk_lt (heap_alloc_new wr _))).trans s1, (hb3.cell (by first | exact blk_lt (heap_alloc_new wr _))).trans s2⟩)
            refine lin_norm (a' := ?_) ?_ ?_; rotate_left 1; (simp only [List.getElem_toArray, List.getElem_cons_zero, List.getElem_cons_succ, Act.put, List.setIfInBounds_toArray, List.set_cons_zero, List.set_cons_succ, H2.out]; rfl)
            repeat (first | (refine lin_take rfl rfl (by kernel_rfl) (fun _ _ _ h => h) (by rfl) (v := ?_) (a' := ?_) ?_ ?_ ?_; rotate_left 2; (rintro w' ⟨s0, s1, s2⟩; go_simp; with_reducible rfl); (simp only [List.getElem_toArray, List.getElem_cons_zero, List.getElem_cons_succ, Act.put, List.setIfInBounds_toArray, List.set_cons_zero, List.set_cons_succ]; rfl)) | (refine lin_off rfl rfl (by kernel_rfl) (fun _ _ _ h => h) (by rfl) (a' := ?_) ?_ ?_; rotate_left 1; (simp only [List.getElem_toArray, List.getElem_cons_zero, List.getElem_cons_succ, Act.put, List.setIfInBounds_toArray, List.set_cons_zero, List.set_cons_succ]; rfl)))
            refine lin_call rfl rfl rfl Try.func32 (by kernel_rfl) (by kernel_rfl) rfl (by rfl) (args := #[.slice (some ad) k c, vEn p.inside]) (by (try simp only [List.map_toArray, List.map_cons, List.map_nil]); first | done | rfl) (fun hS => ?_)
            refine (impl_port (some ad) k c (m.take k) p.inside _ (C_take' (Kd.C_below (w := w) HC.out (below_step ((by repeat (first | (with_reducible exact hb) | (with_reducible apply below_alloc) | (with_reducible apply pw_below_drewN) | (with_reducible apply below_drew1) | with_reducible refine below_set ?_ (by first | (with_reducible exact Nat.le_refl _) | (with_reducible assumption) | (simp; done) | omega)))) hb3)) (Nat.le_of_lt hlt))).mono ?_
            rintro e w4 ⟨rfl, hb4⟩
            refine ⟨_, rfl, ?_, ?_⟩
            · first | exact (hb4.cell (by first | exact Nat.lt_of_lt_of_le (blk_lt (heap_alloc_new wr _)) hb3.size)).trans hS | (obtain ⟨s0, s1, s2⟩ := hS; exact ⟨(hb4.cell (by first | exact Nat.lt_of_lt_of_le (blk_lt (heap_alloc_new wr _)) hb3.size)).trans s0, (hb4.cell (by first | exact Nat.lt_of_lt_of_le (blk_lt (heap_alloc_new wr _)) hb3.size)).trans s1, (hb4.cell (by first | exact Nat.lt_of_lt_of_le (blk_lt (heap_alloc_new wr _)) hb3.size)).trans s2⟩)
            refine lin_norm (a' := ?_) ?_ ?_; rotate_left 1; (simp only [List.getElem_toArray, List.getElem_cons_zero, List.getElem_cons_succ, Act.put, List.setIfInBounds_toArray, List.set_cons_zero, List.set_cons_succ, H3.out]; rfl)
            repeat (first | (refine lin_take rfl rfl (by kernel_rfl) (fun _ _ _ h => h) (by rfl) (v := ?_) (a' := ?_) ?_ ?_ ?_; rotate_left 2; (rintro w' ⟨s0, s1, s2⟩; go_simp; with_reducible rfl); (simp only [List.getElem_toArray, List.getElem_cons_zero, List.getElem_cons_succ, Act.put, List.setIfInBounds_toArray, List.set_cons_zero, List.set_cons_succ]; rfl)) | (refine lin_off rfl rfl (by kernel_rfl) (fun _ _ _ h => h) (by rfl) (a' := ?_) ?_ ?_; rotate_left 1; (simp only [List.getElem_toArray, List.getElem_cons_zero, List.getElem_cons_succ, Act.put, List.setIfInBounds_toArray, List.set_cons_zero, List.set_cons_succ]; rfl)))
            refine lin_done (by kernel_rfl) ?_
            clear hw
            go_wp2
            go_roundw
            case rel => exact ⟨k + 1, by omega, by go_num, HF, below_step (below_step ((by repeat (first | (with_reducible exact hb) | (with_reducible apply below_alloc) | (with_reducible apply pw_below_drewN) | (with_reducible apply below_drew1) | with_reducible refine below_set ?_ (by first | (with_reducible exact Nat.le_refl _) | (with_reducible assumption) | (simp; done) | omega)))) hb3) hb4⟩
            case measure => simp [intOf]; omega
          · have HF := Aside0.mk (mapOkB_no hlt (fun hg => h3 (hz.2 (by have := hg.2.2; rw [hp.out] at this; exact this))))
            have t5 : (portFrom (m.take k) p.inside 0 == 0) = false := beq_eq_false_iff_ne.2 h3
            have t6 : (portFrom (m.take k) p.inside 0 != 0) = true := bne_iff_ne.2 h3
            clear h1 h2 h3 hz
            go_wp2
            have hw : IntKind.i64.wrap (10 + (k : Int)) = 10 + k := IntWalk.i64_in _ (by omega)
            refine lin_start (fun w' => w'.cell? ⟨wr.heap.size, 0, none⟩ = some (.int .i64 p.port) ∧ w'.cell? ⟨wr.heap.size, 1, none⟩ = some (.int .i64 p.inside.addr) ∧ w'.cell? ⟨wr.heap.size, 2, none⟩ = some (.int .i64 p.inside.port)) (true, [([], []), ([0], [0]), ([], []), ([2], [2]), ([1, 3], [1, 3]), ([4], [4]), ([5], [5]), ([6, 5], [5, 6]), ([7, 5, 5], [5, 7]), ([8, 5], [5, 8]), ([5, 9], [5, 9]), ([10, 8], [10]), ([11], [11]), ([11], [11]), ([12, 13, 11], [11, 12, 13]), ([11], [11]), ([15, 11], [11, 15]), ([14, 16, 11, 11], [11, 14, 16]), ([17, 11], [11, 17]), ([11, 18], [11, 18])]) [0, 1, 2, 3, 4, 5, 6, 7, 8, 9, 10, 11, 12, 13, 14, 15, 16, 17, 18, 19] (by kernel_rfl) (by kernel_rfl) (by kernel_rfl) (by simp) ?_
            repeat (first | (refine lin_take rfl rfl (by kernel_rfl) (fun _ _ _ h => h) (by rfl) (v := ?_) (a' := ?_) ?_ ?_ ?_; rotate_left 2; (rintro w' ⟨s0, s1, s2⟩; go_simp; with_reducible rfl); (simp only [List.getElem_toArray, List.getElem_cons_zero, List.getElem_cons_succ, Act.put, List.setIfInBounds_toArray, List.set_cons_zero, List.set_cons_succ]; rfl)) | (refine lin_off rfl rfl (by kernel_rfl) (fun _ _ _ h => h) (by rfl) (a' := ?_) ?_ ?_; rotate_left 1; (simp only [List.getElem_toArray, List.getElem_cons_zero, List.getElem_cons_succ, Act.put, List.setIfInBounds_toArray, List.set_cons_zero, List.set_cons_succ]; rfl)))
            refine lin_call rfl rfl rfl Try.func31 (by kernel_rfl) (by kernel_rfl) rfl (by rfl) (args := #[vEn p.inside]) (by (try simp only [List.map_toArray, List.map_cons, List.map_nil]); first | done | rfl) (fun hS => ?_)
            refine (impl_EndInside p.inside _).mono ?_
            rintro e w3 ⟨rfl, hb3⟩
            refine ⟨_, rfl, ?_, ?_⟩
            · first | exact (hb3.cell (by first | exact blk_lt (heap_alloc_new wr _))).trans hS | (obtain ⟨s0, s1, s2⟩ := hS; exact ⟨(hb3.cell (by first | exact blk_lt (heap_alloc_new wr _))).trans s0, (hb3.cell (by first | exact blk_lt (heap_alloc_new wr _))).trans s1, (hb3.cell (by first | exact blk_lt (heap_alloc_new wr _))).trans s2⟩)
            refine lin_norm (a' := ?_) ?_ ?_; rotate_left 1; (simp only [List.getElem_toArray, List.getElem_cons_zero, List.getElem_cons_succ, Act.put, List.setIfInBounds_toArray, List.set_cons_zero, List.set_cons_succ, H2.out]; rfl)
            repeat (first | (refine lin_take rfl rfl (by kernel_rfl) (fun _ _ _ h => h) (by rfl) (v := ?_) (a' := ?_) ?_ ?_ ?_; rotate_left 2; (rintro w' ⟨s0, s1, s2⟩; go_simp; with_reducible rfl); (simp only [List.getElem_toArray, List.getElem_cons_zero, List.getElem_cons_succ, Act.put, List.setIfInBounds_toArray, List.set_cons_zero, List.set_cons_succ]; rfl)) | (refine lin_off rfl rfl (by kernel_rfl) (fun _ _ _ h => h) (by rfl) (a' := ?_) ?_ ?_; rotate_left 1; (simp only [List.getElem_toArray, List.getElem_cons_zero, List.getElem_cons_succ, Act.put, List.setIfInBounds_toArray, List.set_cons_zero, List.set_cons_succ]; rfl)))
            refine lin_call rfl rfl rfl Try.func32 (by kernel_rfl) (by kernel_rfl) rfl (by rfl) (args := #[.slice (some ad) k c, vEn p.inside]) (by (try simp only [List.map_toArray, List.map_cons, List.map_nil]); first | done | rfl) (fun hS => ?_)
            refine (impl_port (some ad) k c (m.take k) p.inside _ (C_take' (Kd.C_below (w := w) HC.out (below_step ((by repeat (first | (with_reducible exact hb) | (with_reducible apply below_alloc) | (with_reducible apply pw_below_drewN) | (with_reducible apply below_drew1) | with_reducible refine below_set ?_ (by first | (with_reducible exact Nat.le_refl _) | (with_reducible assumption) | (simp; done) | omega)))) hb3)) (Nat.le_of_lt hlt))).mono ?_
            rintro e w4 ⟨rfl, hb4⟩
            refine ⟨_, rfl, ?_, ?_⟩
            · first | exact (hb4.cell (by first | exact Nat.lt_of_lt_of_le (blk_lt (heap_alloc_new wr _)) hb3.size)).trans hS | (obtain ⟨s0, s1, s2⟩ := hS; exact ⟨(hb4.cell (by first | exact Nat.lt_of_lt_of_le (blk_lt (heap_alloc_new wr _)) hb3.size)).trans s0, (hb4.cell (by first | exact Nat.lt_of_lt_of_le (blk_lt (heap_alloc_new wr _)) hb3.size)).trans s1, (hb4.cell (by first | exact Nat.lt_of_lt_of_le (blk_lt (heap_alloc_new wr _)) hb3.size)).trans s2⟩)
            refine lin_norm (a' := ?_) ?_ ?_; rotate_left 1; (simp only [List.getElem_toArray, List.getElem_cons_zero, List.getElem_cons_succ, Act.put, List.setIfInBounds_toArray, List.set_cons_zero, List.set_cons_succ]; rfl)
            repeat (first | (refine lin_take rfl rfl (by kernel_rfl) (fun _ _ _ h => h) (by rfl) (v := ?_) (a' := ?_) ?_ ?_ ?_; rotate_left 2; (rintro w' ⟨s0, s1, s2⟩; go_simp; with_reducible rfl); (simp only [List.getElem_toArray, List.getElem_cons_zero, List.getElem_cons_succ, Act.put, List.setIfInBounds_toArray, List.set_cons_zero, List.set_cons_succ]; rfl)) | (refine lin_off rfl rfl (by kernel_rfl) (fun _ _ _ h => h) (by rfl) (a' := ?_) ?_ ?_; rotate_left 1; (simp only [List.getElem_toArray, List.getElem_cons_zero, List.getElem_cons_succ, Act.put, List.setIfInBounds_toArray, List.set_cons_zero, List.set_cons_succ]; rfl)))
            refine lin_done (by kernel_rfl) ?_
            clear hw
            go_wp2
            go_ret
            exact ⟨ret_bool HF.out.symm, below_step (below_step ((by repeat (first | (with_reducible exact hb) | (with_reducible apply below_alloc) | (with_reducible apply pw_below_drewN) | (with_reducible apply below_drew1) | with_reducible refine below_set ?_ (by first | (with_reducible exact Nat.le_refl _) | (with_reducible assumption) | (simp; done) | omega)))) hb3) hb4⟩
      · have t1 : (p.port == 10 + (k : Int)) = false := beq_eq_false_iff_ne.2 h1
        have t2 : (p.port != 10 + (k : Int)) = true := bne_iff_ne.2 h1
        have HF := Aside0.mk (mapOkB_no hlt (fun hg => h1 (by have := hg.1; rw [hp.out] at this; exact this)))
        clear h1
        go_wp2
        go_quiet (fail)
        go_wp2
        go_ret
        exact ⟨ret_bool HF.out.symm, by repeat (first | exact hb | apply below_alloc | apply pw_below_drewN | apply below_drew1)⟩
    · have HF := Aside0.mk (mapOkB_end hlt HP.out hk)
      go_wp2
      go_ret
      exact ⟨ret_bool HF.out.symm, hb⟩
end Go.Proofs.Ytdmbbocjaagfkaa.Z
