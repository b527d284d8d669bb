/- Comparison of two rows of pairs. -/
import Derived.Test.YtdmbbocjaagfkaaMf
namespace Go.Proofs.Ytdmbbocjaagfkaa.Z
open Go.RowKit Go.Proofs.YtdmbbocjaagfkaaW.PrintWords
set_option linter.unusedVariables false
set_option linter.unusedSimpArgs false
attribute [local go_sem ↓] Go.wp_at_zero Go.wp_at_succ
attribute [local go_sem high] eqEn eqPr

theorem eq_step {α : Type} {xs ys : List α} {z : α} {k : Nat} {p q : α} (hk : k < xs.length) (hl : xs.length = ys.length) (hp : Aside0 (xs.getD k z = p)) (hq : Aside0 (ys.getD k z = q)) (h : xs.take k = ys.take k) : p = q → xs.take (k + 1) = ys.take (k + 1) := by
  intro e
  obtain rfl := hp.out
  obtain rfl := hq.out
  rw [List.take_add_one, List.take_add_one, h, List.getElem?_eq_getElem hk, List.getElem?_eq_getElem (by omega)]
  rw [List.getD_eq_getElem?_getD, List.getD_eq_getElem?_getD, List.getElem?_eq_getElem hk, List.getElem?_eq_getElem (by omega)] at e
  simp only [Option.getD_some] at e
  rw [e]
theorem ne_step {α : Type} {xs ys : List α} {z : α} {k : Nat} {p q : α} (hp : Aside0 (xs.getD k z = p)) (hq : Aside0 (ys.getD k z = q)) (h : p ≠ q) : xs ≠ ys := fun e => h (by rw [← hp.out, ← hq.out, e])

set_option maxHeartbeats 2000000 in
theorem laws_eqPairS (A B : Option Addr) (n n2 c c2 : Nat) (xs ys : List Pr) (w : World) (hx : Kd.C kPr w A n xs) (hy : Kd.C kPr w B n2 ys) :
    Calls Try.prog 15 #[.slice A n c, .slice B n2 c2] w fun r w' => r = .returned (.bool (decide (xs = ys))) ∧ Below w.heap.size w w' := by
  obtain rfl : xs.length = n := hx.1
  obtain rfl : ys.length = n2 := hy.1
  have hm := max_len hx
  have HX := Aside0.mk hx; clear hx
  have HY := Aside0.mk hy; clear hy
  by_cases hl : xs.length = ys.length
  · rw [← hl]
    rw [← hl] at HY
    have HL := Aside0.mk hl; clear hl
    go_enter Try.func15, Try.ntmps15
    go_wp2
    go_loopw [5] (fun i w' => ∃ k : Nat, k ≤ xs.length ∧ i = .int .i64 k ∧ Aside0 (xs.take k = ys.take k) ∧ Below w.heap.size w w') (fun i _ => xs.length - (intOf i).toNat)
    case atStart => exact ⟨0, Nat.zero_le _, rfl, ⟨rfl⟩, Below.refl _ _⟩
    case round =>
      obtain ⟨k, hk, rfl, HP, hb⟩ := hrel
      by_cases hlt : k < xs.length
      · obtain ⟨ad, p, hA, hp, dL, d0, d1, d2⟩ := at_Pr (Kd.C_below HX.out hb) k hlt
        obtain ⟨ad2, q, hA2, hq, fL, f0, f1, f2⟩ := at_Pr (Kd.C_below HY.out hb) k hlt
        cases hA
        cases hA2
        have hk0 : (0 : Int) ≤ (k : Int) := Int.natCast_nonneg _
        have hk1 : (k : Int) < (xs.length : Int) := by omega
        cases he : decide (p = q)
        · have HF := Aside0.mk (show decide (xs = ys) = false from decide_eq_false (ne_step hp hq (of_decide_eq_false he)))
          have HE := Aside0.mk he; clear he
          go_wp2
          refine lin_start (fun w' => w'.cell? (ad.add (k * 3)) = some (.int .i64 p.port) ∧ w'.cell? ⟨(ad.add (k * 3)).block, (ad.add (k * 3)).off + 1, none⟩ = some (.int .i64 p.inside.addr) ∧ w'.cell? ⟨(ad.add (k * 3)).block, (ad.add (k * 3)).off + 2, none⟩ = some (.int .i64 p.inside.port) ∧ w'.cell? (ad2.add (k * 3)) = some (.int .i64 q.port) ∧ w'.cell? ⟨(ad2.add (k * 3)).block, (ad2.add (k * 3)).off + 1, none⟩ = some (.int .i64 q.inside.addr) ∧ w'.cell? ⟨(ad2.add (k * 3)).block, (ad2.add (k * 3)).off + 2, none⟩ = some (.int .i64 q.inside.port)) (true, [([], []), ([], []), ([0, 1], [0, 1]), ([2], [2]), ([], []), ([], []), ([4, 5], [4, 5]), ([6], [6]), ([3, 7], [3, 7]), ([8], [8])]) [0, 1, 2, 3, 4, 5, 6, 7, 8, 9] (by kernel_rfl) (by kernel_rfl) (by kernel_rfl) ⟨d0, d1, d2, f0, f1, f2⟩ ?_
          repeat (first | (refine lin_take rfl rfl (by kernel_rfl) (fun _ _ _ h => h) (by rfl) (v := ?_) (a' := ?_) ?_ ?_ ?_; rotate_left 2; (rintro w' ⟨s0, s1, s2, s3, s4, s5⟩; go_simp; with_reducible rfl); (simp only [List.getElem_toArray, List.getElem_cons_zero, List.getElem_cons_succ, Act.put, List.setIfInBounds_toArray, List.set_cons_zero, List.set_cons_succ]; rfl)) | (refine lin_off rfl rfl (by kernel_rfl) (fun _ _ _ h => h) (by rfl) (a' := ?_) ?_ ?_; rotate_left 1; (simp only [List.getElem_toArray, List.getElem_cons_zero, List.getElem_cons_succ, Act.put, List.setIfInBounds_toArray, List.set_cons_zero, List.set_cons_succ]; rfl)))
          refine lin_call rfl rfl rfl Try.func33 (by kernel_rfl) (by kernel_rfl) rfl (by rfl) (args := #[vPr p, vPr q]) (by (try simp only [List.map_toArray, List.map_cons, List.map_nil]); first | done | rfl) (fun hS => ?_)
          refine (laws_eqPair p q _).mono ?_
          rintro e w3 ⟨rfl, hb3⟩
          refine ⟨_, rfl, ?_, ?_⟩
          · first | exact (hb3.cell (by first | exact dL | exact fL)).trans hS | (obtain ⟨s0, s1, s2, s3, s4, s5⟩ := hS; exact ⟨(hb3.cell (by first | exact dL | exact fL)).trans s0, (hb3.cell (by first | exact dL | exact fL)).trans s1, (hb3.cell (by first | exact dL | exact fL)).trans s2, (hb3.cell (by first | exact dL | exact fL)).trans s3, (hb3.cell (by first | exact dL | exact fL)).trans s4, (hb3.cell (by first | exact dL | exact fL)).trans s5⟩)
          refine lin_norm (a' := ?_) ?_ ?_; rotate_left 1; (simp only [List.getElem_toArray, List.getElem_cons_zero, List.getElem_cons_succ, Act.put, List.setIfInBounds_toArray, List.set_cons_zero, List.set_cons_succ, HE.out]; rfl)
          repeat (first | (refine lin_take rfl rfl (by kernel_rfl) (fun _ _ _ h => h) (by rfl) (v := ?_) (a' := ?_) ?_ ?_ ?_; rotate_left 2; (rintro w' ⟨s0, s1, s2, s3, s4, s5⟩; go_simp; with_reducible rfl); (simp only [List.getElem_toArray, List.getElem_cons_zero, List.getElem_cons_succ, Act.put, List.setIfInBounds_toArray, List.set_cons_zero, List.set_cons_succ]; rfl)) | (refine lin_off rfl rfl (by kernel_rfl) (fun _ _ _ h => h) (by rfl) (a' := ?_) ?_ ?_; rotate_left 1; (simp only [List.getElem_toArray, List.getElem_cons_zero, List.getElem_cons_succ, Act.put, List.setIfInBounds_toArray, List.set_cons_zero, List.set_cons_succ]; rfl)))
          refine lin_done (by kernel_rfl) ?_
          go_wp2
          go_ret
          exact ⟨ret_bool HF.out.symm, (by refine below_step ?_ hb3; repeat (first | (with_reducible exact hb) | (with_reducible apply below_alloc) | (with_reducible apply pw_below_drewN) | (with_reducible apply below_drew1) | with_reducible refine below_set ?_ (by first | (with_reducible exact Nat.le_refl _) | (with_reducible assumption) | (simp; done) | omega)))⟩
        · have HF := Aside0.mk (eq_step hlt HL.out hp hq HP.out (of_decide_eq_true he))
          have HE := Aside0.mk he; clear he
          go_wp2
          refine lin_start (fun w' => w'.cell? (ad.add (k * 3)) = some (.int .i64 p.port) ∧ w'.cell? ⟨(ad.add (k * 3)).block, (ad.add (k * 3)).off + 1, none⟩ = some (.int .i64 p.inside.addr) ∧ w'.cell? ⟨(ad.add (k * 3)).block, (ad.add (k * 3)).off + 2, none⟩ = some (.int .i64 p.inside.port) ∧ w'.cell? (ad2.add (k * 3)) = some (.int .i64 q.port) ∧ w'.cell? ⟨(ad2.add (k * 3)).block, (ad2.add (k * 3)).off + 1, none⟩ = some (.int .i64 q.inside.addr) ∧ w'.cell? ⟨(ad2.add (k * 3)).block, (ad2.add (k * 3)).off + 2, none⟩ = some (.int .i64 q.inside.port)) (true, [([], []), ([], []), ([0, 1], [0, 1]), ([2], [2]), ([], []), ([], []), ([4, 5], [4, 5]), ([6], [6]), ([3, 7], [3, 7]), ([8], [8])]) [0, 1, 2, 3, 4, 5, 6, 7, 8, 9] (by kernel_rfl) (by kernel_rfl) (by kernel_rfl) ⟨d0, d1, d2, f0, f1, f2⟩ ?_
          repeat (first | (refine lin_take rfl rfl (by kernel_rfl) (fun _ _ _ h => h) (by rfl) (v := ?_) (a' := ?_) ?_ ?_ ?_; rotate_left 2; (rintro w' ⟨s0, s1, s2, s3, s4, s5⟩; go_simp; with_reducible rfl); (simp only [List.getElem_toArray, List.getElem_cons_zero, List.getElem_cons_succ, Act.put, List.setIfInBounds_toArray, List.set_cons_zero, List.set_cons_succ]; rfl)) | (refine lin_off rfl rfl (by kernel_rfl) (fun _ _ _ h => h) (by rfl) (a' := ?_) ?_ ?_; rotate_left 1; (simp only [List.getElem_toArray, List.getElem_cons_zero, List.getElem_cons_succ, Act.put, List.setIfInBounds_toArray, List.set_cons_zero, List.set_cons_succ]; rfl)))
          refine lin_call rfl rfl rfl Try.func33 (by kernel_rfl) (by kernel_rfl) rfl (by rfl) (args := #[vPr p, vPr q]) (by (try simp only [List.map_toArray, List.map_cons, List.map_nil]); first | done | rfl) (fun hS => ?_)
          refine (laws_eqPair p q _).mono ?_
          rintro e w3 ⟨rfl, hb3⟩
          refine ⟨_, rfl, ?_, ?_⟩
          · first | exact (hb3.cell (by first | exact dL | exact fL)).trans hS | (obtain ⟨s0, s1, s2, s3, s4, s5⟩ := hS; exact ⟨(hb3.cell (by first | exact dL | exact fL)).trans s0, (hb3.cell (by first | exact dL | exact fL)).trans s1, (hb3.cell (by first | exact dL | exact fL)).trans s2, (hb3.cell (by first | exact dL | exact fL)).trans s3, (hb3.cell (by first | exact dL | exact fL)).trans s4, (hb3.cell (by first | exact dL | exact fL)).trans s5⟩)
          refine lin_norm (a' := ?_) ?_ ?_; rotate_left 1; (simp only [List.getElem_toArray, List.getElem_cons_zero, List.getElem_cons_succ, Act.put, List.setIfInBounds_toArray, List.set_cons_zero, List.set_cons_succ, HE.out]; rfl)
          repeat (first | (refine lin_take rfl rfl (by kernel_rfl) (fun _ _ _ h => h) (by rfl) (v := ?_) (a' := ?_) ?_ ?_ ?_; rotate_left 2; (rintro w' ⟨s0, s1, s2, s3, s4, s5⟩; go_simp; with_reducible rfl); (simp only [List.getElem_toArray, List.getElem_cons_zero, List.getElem_cons_succ, Act.put, List.setIfInBounds_toArray, List.set_cons_zero, List.set_cons_succ]; rfl)) | (refine lin_off rfl rfl (by kernel_rfl) (fun _ _ _ h => h) (by rfl) (a' := ?_) ?_ ?_; rotate_left 1; (simp only [List.getElem_toArray, List.getElem_cons_zero, List.getElem_cons_succ, Act.put, List.setIfInBounds_toArray, List.set_cons_zero, List.set_cons_succ]; rfl)))
          refine lin_done (by kernel_rfl) ?_
          go_wp2
          go_roundw
          case rel => exact ⟨k + 1, by omega, by go_num, HF, (by refine below_step ?_ hb3; repeat (first | (with_reducible exact hb) | (with_reducible apply below_alloc) | (with_reducible apply pw_below_drewN) | (with_reducible apply below_drew1) | with_reducible refine below_set ?_ (by first | (with_reducible exact Nat.le_refl _) | (with_reducible assumption) | (simp; done) | omega)))⟩
          case measure => simp [intOf]; omega
      · obtain rfl : k = xs.length := by omega
        have HF := Aside0.mk (show decide (xs = ys) = true from decide_eq_true (by have := HP.out; rw [List.take_length, HL.out, List.take_length] at this; exact this))
        go_wp2
        go_ret
        exact ⟨ret_bool HF.out.symm, hb⟩
  · have h1 : ((xs.length : Int) == (ys.length : Int)) = false := beq_eq_false_iff_ne.2 (by omega)
    have h2 : ((xs.length : Int) != (ys.length : Int)) = true := bne_iff_ne.2 (by omega)
    have h3 : (xs.length == ys.length) = false := beq_eq_false_iff_ne.2 hl
    have HF := Aside0.mk (show decide (xs = ys) = false from decide_eq_false (fun e => hl (by rw [e])))
    clear hl
    go_enter Try.func15, Try.ntmps15
    go_wp2
    go_ret
    exact ⟨ret_bool HF.out.symm, Below.refl _ _⟩
end Go.Proofs.Ytdmbbocjaagfkaa.Z
