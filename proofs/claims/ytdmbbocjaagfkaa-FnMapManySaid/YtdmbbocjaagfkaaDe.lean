/- Draws: pairs and an end. -/
import Derived.Test.YtdmbbocjaagfkaaDd
import Derived.Test.YtdmbbocjaagfkaaRg
namespace Go.Proofs.Ytdmbbocjaagfkaa.Z
open Go.RowKit Go.Proofs.YtdmbbocjaagfkaaW.PrintWords Go.Proofs.YtdmbbocjaagfkaaW.PrintLast
set_option linter.unusedVariables false
set_option linter.unusedSimpArgs false
attribute [local go_sem ↓] Go.wp_at_zero Go.wp_at_succ

theorem Wn.C {α : Type} {d : Kd α} {w : World} {base n c : Nat} {A : Option Addr} {xs : List α} (h : Wn d w base (.slice A n c) xs) : n = xs.length ∧ n ≤ c ∧ Kd.C d w A xs.length xs := by
  obtain ⟨A', c', he, hl, hC, _⟩ := h
  injection he with e1 e2 e3
  subst e1 e2 e3
  exact ⟨rfl, hl, hC⟩
section
variable {P : Program} {ops : Array Oper} {Q : Exit → Act → World → Prop} {S : World → Prop} {T : Bool × List (List Nat × List Nat)} {n : Nat} {dn rest : List Nat} {i : Nat} {oi : Oper} {N : Option Tmp} {a : Act} {w w1 : World}
theorem lin_event {v : Value} {a' : Act} (hi : ops[i]? = some oi) (hN : oi.dst = N) (hc : (readyT T.2 (lst n dn) == [i] && (lst n dn).set i true == lst n (i :: dn)) = true)
    (hw : Region.wanted oi (yielded ops a.tmps) = true) (hrun : S w → (execOp a.eval oi).run P w = .ok (.value v) w1) (hS : S w → S w1) (ha : a.put N v = a') (h : Lin P ops Q S T n (i :: dn) rest a' w1) : Lin P ops Q S T n dn (i :: rest) a w := by
  subst ha
  subst hN
  exact lin_one hi rfl hc (fun hs K hK => event_step hw (hrun hs) (hK.out _ _ (hS hs) h))
/-- A store in a region that draws. -/
theorem lin_skip (hi : ops[i]? = some oi) (hN : oi.dst = none) (hc : (readyT T.2 (lst n dn) == [i] && (lst n dn).set i true == lst n (i :: dn)) = true)
    (hw : Region.wanted oi (yielded ops a.tmps) = true) (hrun : S w → (execOp a.eval oi).run P w = .ok .skip w1) (hS : S w → S w1) (h : Lin P ops Q S T n (i :: dn) rest a w1) : Lin P ops Q S T n dn (i :: rest) a w := by
  refine lin_one hi hN hc (fun hs K hK => ?_)
  rw [if_pos hw]
  unfold Oper.wp
  rw [hrun hs]
  show K (a.put oi.dst undef) w1
  rw [hN]
  exact hK.out _ _ (hS hs) h
end

set_option maxHeartbeats 4000000 in
theorem spec_DrawMapOut (A : Option Addr) (n c : Nat) (bs : List Int) (w : World) (hC : Kd.C (Kd.int .u8) w A n bs) (hb : ∀ b ∈ bs, (0 : Int) ≤ b ∧ b ≤ 255) (hc : n ≤ c) :
    Calls Try.prog 21 #[.slice A n c] w fun e w' => ∃ v xs, ∃ q : En, e = .returned (.tuple #[v, vEn q]) ∧ Wn kPr w' w.heap.size v xs ∧ xs.length ≤ 11 ∧ Below w.heap.size w w' := by
  have HC := Aside0.mk hC; clear hC
  have bk := heap_alloc_new w (.cells #[.int .i64 0, .int .i64 0] 32)
  have hba : Below w.heap.size w (w.alloc (.cells #[.int .i64 0, .int .i64 0] 32)) := below_alloc (Below.refl _ _) _
  go_enter Try.func21, Try.ntmps21
  go_wp2_with fail; refine (spec_l6Open A n c bs _ (Kd.C_below HC.out hba) hb hc (fun ad hA hn => Nat.lt_of_lt_of_le (code_lt HC.out ad hA hn) hba.size)).mono ?_; rintro e w1 ⟨r, rfl, hr, hR1, hb1⟩
  have hlt1 := hR1.lt
  have hq : w.heap.size < r := Nat.lt_of_lt_of_le (by simp) hr
  replace bk := (hb1.block w.heap.size (by simp)).trans bk
  go_wp2_with fail; refine (spec_l71Map r 0 _ hR1 (by omega)).mono ?_; rintro e w2 ⟨v2, xs, rfl, hW2, hl2, hR2, hD2⟩
  replace bk := hD2.blk bk (by omega)
  obtain ⟨A2, c2, he, hlc, _⟩ := hW2.reads
  subst he
  have hB1 := Aside0.mk (hba.trans (hb1.mono hba.size))
  have hW2 := Aside0.mk hW2
  by_cases hn : 0 < xs.length
  · have t1 : decide ((xs.length : Int) > 0) = true := decide_eq_true (by omega)
    have t2 : decide ((0 : Int) < (xs.length : Int)) = true := decide_eq_true (by omega)
    go_wp2_with fail; refine (spec_pick r 3 _ _ hR2 (by omega)).mono ?_; rintro e w3 ⟨x3, rfl, hx3, _, hR3, hD3⟩
    replace bk := hD3.blk bk (by omega)
    have hW3 := Aside0.mk (hW2.out.dr kPr_KK hD3 hlt1)
    have hD3 := Aside0.mk (hD2.trans hD3)
    clear hx3 hD2 hW2
    by_cases h0 : x3 = 0
    · subst h0
      go_wp2
      refine lin_start (fun w' => Wn kPr w' w1.heap.size (.slice A2 xs.length c2) xs) (true, [([], []), ([], []), ([], []), ([], []), ([3], [3]), ([2, 4], [2, 4]), ([1, 5], [1, 5]), ([6], [6]), ([7], [7]), ([0, 5, 0], [0]), ([8, 9, 0, 1, 2, 3, 4, 5, 6, 7, 8, 9], [8])]) [0, 1, 2, 3, 4, 5, 6, 7, 8, 9, 10] (by kernel_rfl) (by kernel_rfl) (by kernel_rfl) hW3.out ?_
      repeat (first | (refine lin_take rfl rfl (by kernel_rfl) (fun _ _ _ h => h) (by rfl) (v := ?_) (a' := ?_) ?_ ?_ ?_; rotate_left 2; (intro w' s0; go_simp; with_reducible rfl); (simp only [List.getElem_toArray, List.getElem_cons_zero, List.getElem_cons_succ, Act.put, List.setIfInBounds_toArray, List.set_cons_zero, List.set_cons_succ]; rfl)) | (refine lin_off rfl rfl (by kernel_rfl) (fun _ _ _ h => h) (by rfl) (a' := ?_) ?_ ?_; rotate_left 1; (simp only [List.getElem_toArray, List.getElem_cons_zero, List.getElem_cons_succ, Act.put, List.setIfInBounds_toArray, List.set_cons_zero, List.set_cons_succ]; rfl)))
      refine lin_call rfl rfl rfl Try.func36 (by kernel_rfl) (by kernel_rfl) rfl (by rfl) (args := #[.pointer (some ⟨r, 0, none⟩), .int .i64 xs.length]) (by (try simp only [List.map_toArray, List.map_cons, List.map_nil]); first | done | rfl) (fun hS => ?_)
      refine (spec_pick r xs.length _ _ (hR3.keeps (below_drew (Below.refl _ _))) (by omega)).mono ?_
      rintro e w4 ⟨x4, rfl, hx4, _, hR4, hD4⟩
      obtain ⟨hx4a, hx4b⟩ := hx4 (by omega)
      replace bk := hD4.blk bk (by omega)
      obtain ⟨j, rfl⟩ : ∃ j : Nat, x4 = j := ⟨x4.toNat, by omega⟩
      have hW4 := Aside0.mk (hW3.out.dr kPr_KK ((Dr.refl r w3).drew.trans hD4) hlt1)
      refine ⟨_, rfl, hW4.out, ?_⟩
      refine lin_norm (a' := ?_) ?_ ?_; rotate_left 1; (simp only [List.getElem_toArray, List.getElem_cons_zero, List.getElem_cons_succ, Act.put, List.setIfInBounds_toArray, List.set_cons_zero, List.set_cons_succ]; rfl)
      have hj0 : (0 : Int) ≤ (j : Int) := by omega
      have hj1 : (j : Int) < (xs.length : Int) := by omega
      have hC4 := hW4.out.C.2.2
      obtain ⟨ad, p, hA, hp, dL, d0, d1, d2⟩ := at_Pr hC4 j (by omega)
      cases hA
      repeat (first | (refine lin_take rfl rfl (by kernel_rfl) (fun _ _ _ h => h) (by rfl) (v := ?_) (a' := ?_) ?_ ?_ ?_; rotate_left 2; (intro w' s0; go_simp; with_reducible rfl); (simp only [List.getElem_toArray, List.getElem_cons_zero, List.getElem_cons_succ, Act.put, List.setIfInBounds_toArray, List.set_cons_zero, List.set_cons_succ]; rfl)) | (refine lin_off rfl rfl (by kernel_rfl) (fun _ _ _ h => h) (by rfl) (a' := ?_) ?_ ?_; rotate_left 1; (simp only [List.getElem_toArray, List.getElem_cons_zero, List.getElem_cons_succ, Act.put, List.setIfInBounds_toArray, List.set_cons_zero, List.set_cons_succ]; rfl)))
      refine lin_take rfl rfl (by kernel_rfl) (fun _ _ _ h => h) (by rfl) (v := vEn p.inside) (a' := ?_) ?_ ?_ ?_
      rotate_left 1
      · intro w' hS'
        obtain ⟨ad', p', hA', hp', dL', e0, e1, e2⟩ := at_Pr hS'.C.2.2 j (by omega)
        cases hA'
        obtain rfl : p' = p := hp'.out.symm.trans hp.out
        first | (go_simp; done) | (go_simp; with_reducible rfl)
      · simp only [List.getElem_toArray, List.getElem_cons_zero, List.getElem_cons_succ, Act.put, List.setIfInBounds_toArray, List.set_cons_zero, List.set_cons_succ]
        rfl
      repeat (first | (refine lin_take rfl rfl (by kernel_rfl) (fun _ _ _ h => h) (by rfl) (v := ?_) (a' := ?_) ?_ ?_ ?_; rotate_left 2; (intro w' s0; go_simp; with_reducible rfl); (simp only [List.getElem_toArray, List.getElem_cons_zero, List.getElem_cons_succ, Act.put, List.setIfInBounds_toArray, List.set_cons_zero, List.set_cons_succ]; rfl)) | (refine lin_off rfl rfl (by kernel_rfl) (fun _ _ _ h => h) (by rfl) (a' := ?_) ?_ ?_; rotate_left 1; (simp only [List.getElem_toArray, List.getElem_cons_zero, List.getElem_cons_succ, Act.put, List.setIfInBounds_toArray, List.set_cons_zero, List.set_cons_succ]; rfl)))
      have c0 : _ = some _ := (blk_cell bk 0).trans rfl
      have c1 : _ = some _ := (blk_cell bk 1).trans rfl
      have f0 := blk_frozen bk 0
      have f1 := blk_frozen bk 1
      have hmv : Wn kPr ((w4.setCell ⟨w.heap.size, 0, none⟩ (.int .i64 p.inside.addr)).setCell ⟨w.heap.size, 1, none⟩ (.int .i64 p.inside.port)) w1.heap.size (.slice (some ad) xs.length c2) xs :=
        (hW4.out.moved kPr_KK (by simp) (fun b hb2 _ => Below.heap_setCell _ _ _ b (by simp; omega))).moved kPr_KK (by simp) (fun b hb2 _ => Below.heap_setCell _ _ _ b (by simp; omega))
      refine lin_skip (w1 := (w4.setCell ⟨w.heap.size, 0, none⟩ (.int .i64 p.inside.addr)).setCell ⟨w.heap.size, 1, none⟩ (.int .i64 p.inside.port)) rfl rfl (by kernel_rfl) (by rfl) (fun _ => ?_) (fun _ => hmv) ?_
      · first | (go_simp; done) | (go_simp; rfl)
      refine lin_done (by kernel_rfl) ?_
      go_wp2
      refine bodyPost_ret (v := (.tuple #[.slice (some ad) xs.length c2, vEn p.inside])) (by simp [results, Try.results21, go_sem, zEn, *]) rfl ⟨_, xs, _, rfl, hmv.lower hB1.out.size, by omega, ?_⟩
      exact ((hB1.out.trans ((hD3.out.2.trans (below_drew (Below.refl _ _) |>.trans hD4.2)).mono (by omega))).setCell (Nat.le_refl _) _).setCell (Nat.le_refl _) _
    · have t3 : (x3 == 0) = false := beq_eq_false_iff_ne.2 h0
      have HR3 := Aside0.mk hR3; clear hR3
      go_wp2_with fail; refine (spec_pick r 3 _ _ HR3.out (by omega)).mono ?_; rintro e w4 ⟨x4, rfl, hx4, _, hR4, hD4⟩
      go_wp2_with fail; refine (spec_pick r 16 _ _ hR4 (by omega)).mono ?_; rintro e w5 ⟨x5, rfl, hx5, _, hR5, hD5⟩
      go_wp2_with fail; refine (spec_pick r 9 _ _ hR5 (by omega)).mono ?_; rintro e w6 ⟨x6, rfl, hx6, _, hR6, hD6⟩
      obtain ⟨hx4a, hx4b⟩ := hx4 (by omega)
      obtain ⟨hx5a, hx5b⟩ := hx5 (by omega)
      obtain ⟨hx6a, hx6b⟩ := hx6 (by omega)
      replace bk := hD6.blk (hD5.blk (hD4.blk bk (by omega)) (by omega)) (by omega)
      have hW6 := Aside0.mk (((hW3.out.dr kPr_KK hD4 hlt1).dr kPr_KK hD5 hlt1).dr kPr_KK hD6 hlt1)
      have hD := Aside0.mk (((hD3.out.trans hD4).trans hD5).trans hD6)
      have c0 : _ = some _ := (blk_cell bk 0).trans rfl
      have c1 : _ = some _ := (blk_cell bk 1).trans rfl
      have f0 := blk_frozen bk 0
      have f1 := blk_frozen bk 1
      clear bk hx4 hx5 hx6 hD4 hD5 hD6 hR4 hR5 hR6 HR3
      go_wp2
      refine bodyPost_ret (v := (.tuple #[.slice A2 xs.length c2, vEn ⟨1 + x4 + x5 / 15 * 3, 1 + x6⟩])) (by simp [results, Try.results21, go_sem, zEn, *]) rfl ⟨_, xs, _, rfl, ?_, by omega, ?_⟩
      · exact ((hW6.out.moved kPr_KK (by simp) (fun b hb2 _ => Below.heap_setCell _ _ _ b (by simp; omega))).moved kPr_KK (by simp) (fun b hb2 _ => Below.heap_setCell _ _ _ b (by simp; omega))).lower hB1.out.size
      · exact ((hB1.out.trans (hD.out.2.mono (by omega))).setCell (Nat.le_refl _) _).setCell (Nat.le_refl _) _
  · have t1 : decide ((xs.length : Int) > 0) = false := decide_eq_false (by omega)
    have t2 : decide ((0 : Int) < (xs.length : Int)) = false := decide_eq_false (by omega)
    have HR3 := Aside0.mk hR2; clear hR2
    have hW3 := Aside0.mk hW2.out
    have hD3 := Aside0.mk hD2; clear hD2
    go_wp2_with fail; refine (spec_pick r 3 _ _ HR3.out (by omega)).mono ?_; rintro e w4 ⟨x4, rfl, hx4, _, hR4, hD4⟩
    go_wp2_with fail; refine (spec_pick r 16 _ _ hR4 (by omega)).mono ?_; rintro e w5 ⟨x5, rfl, hx5, _, hR5, hD5⟩
    go_wp2_with fail; refine (spec_pick r 9 _ _ hR5 (by omega)).mono ?_; rintro e w6 ⟨x6, rfl, hx6, _, hR6, hD6⟩
    obtain ⟨hx4a, hx4b⟩ := hx4 (by omega)
    obtain ⟨hx5a, hx5b⟩ := hx5 (by omega)
    obtain ⟨hx6a, hx6b⟩ := hx6 (by omega)
    replace bk := hD6.blk (hD5.blk (hD4.blk bk (by omega)) (by omega)) (by omega)
    have hW6 := Aside0.mk (((hW3.out.dr kPr_KK hD4 hlt1).dr kPr_KK hD5 hlt1).dr kPr_KK hD6 hlt1)
    have hD := Aside0.mk (((hD3.out.trans hD4).trans hD5).trans hD6)
    have c0 : _ = some _ := (blk_cell bk 0).trans rfl
    have c1 : _ = some _ := (blk_cell bk 1).trans rfl
    have f0 := blk_frozen bk 0
    have f1 := blk_frozen bk 1
    clear bk hx4 hx5 hx6 hD4 hD5 hD6 hR4 hR5 hR6 HR3
    go_wp2
    refine bodyPost_ret (v := (.tuple #[.slice A2 xs.length c2, vEn ⟨1 + x4 + x5 / 15 * 3, 1 + x6⟩])) (by simp [results, Try.results21, go_sem, zEn, *]) rfl ⟨_, xs, _, rfl, ?_, by omega, ?_⟩
    · exact ((hW6.out.moved kPr_KK (by simp) (fun b hb2 _ => Below.heap_setCell _ _ _ b (by simp; omega))).moved kPr_KK (by simp) (fun b hb2 _ => Below.heap_setCell _ _ _ b (by simp; omega))).lower hB1.out.size
    · exact ((hB1.out.trans (hD.out.2.mono (by omega))).setCell (Nat.le_refl _) _).setCell (Nat.le_refl _) _
end Go.Proofs.Ytdmbbocjaagfkaa.Z
