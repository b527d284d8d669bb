/- The law FnExactMapOut: whatever pairs and end come in, MapOut of the program and of the reference answer alike, the argument stays, and the answer is its own. -/
import Derived.Test.YtdmbbocjaagfkaaMl
import Derived.Test.YtdmbbocjaagfkaaMn
import Derived.Test.YtdmbbocjaagfkaaMg
import Derived.Test.YtdmbbocjaagfkaaOp
namespace Go.Proofs.Ytdmbbocjaagfkaa.Z
open Go.RowKit Go.Proofs.YtdmbbocjaagfkaaW.PrintWords Go.Proofs.YtdmbbocjaagfkaaW.PrintLast
set_option linter.unusedVariables false
set_option linter.unusedSimpArgs false

/-- What stays beside one block. -/
theorem Cl.keep {α : Type} {d : Kd α} {e base : Nat} {w w1 : World} {v : Value} {xs : List α} (h : Cl d e w base v xs) {B : Option Addr} (hB : ∀ ad, B = some ad → ad.block < base) (hk : ∀ q, (∀ ad, B = some ad → q ≠ ad.block) → w1.heap[q]? = w.heap[q]?) : Cl d e w1 base v xs := by
  obtain ⟨A, c, rfl, hR⟩ := h
  exact ⟨A, c, rfl, Kd.R_mono (Kd.R_move (Kd.R_bound hR) (fun k hk2 => hk k (fun ad hA => by have := hB ad hA; omega))) (fun _ _ => trivial)⟩

/-- The region of FnExactMapOut that asks the program. -/
theorem done_keep {w w1 : World} {B : Option Addr} (hk : ∀ q, (∀ ad, B = some ad → q ≠ ad.block) → w1.heap[q]? = w.heap[q]?) {b : Nat} {o : Obj} (h : w.heap[b]? = some o) (hb : ∀ ad, B = some ad → b ≠ ad.block) : w1.heap[b]? = some o := (hk b hb).trans h

set_option maxHeartbeats 2000000 in
theorem law_FnExactMapOut (A : Option Addr) (n c : Nat) (m : List Pr) (e : En) (w : World) (hC : Kd.C kPr w A n m) (hc : n ≤ c) (hg : ∀ x ∈ m, goodPr x) (he : goodEn e) :
    Calls Try.prog 10 #[.slice A n c, vEn e] w fun r w' => r = .returned (.bool true) ∧ Below w.heap.size w w' := by
  have hm := max_len hC
  by_cases h : n ≤ 1048576
  · have hz : szB n 1048576 = 1048576 - (n : Int) := by unfold szB; rw [if_neg (by omega)]
    have HZ := Aside0.mk hz; clear hz
    have hbig : n ≤ 1099511627776 := by omega
    have t1 : decide ((1048576 : Int) - (n : Int) < 0) = false := decide_eq_false (by omega)
    obtain rfl : m.length = n := hC.1
    go_enter Try.func10, Try.ntmps10
    obtain ⟨L, pt, ok, hF⟩ : ∃ L pt ok, mapOutF m e = (L, pt, ok) := ⟨_, _, _, rfl⟩
    have hL : L.length ≤ 1048577 := by
      have h1 : (mapOutF m e).1.length ≤ m.length + 1 := by
        unfold mapOutF; split
        · exact outS_len m e
        · simp
      rw [hF] at h1; simp only at h1; omega
    have SP : ∀ (A : Option Addr) (c : Nat) (w : World), Kd.C kPr w A m.length m → Calls Try.prog 22 #[.slice A m.length c, vEn e] w fun r w' => ∃ v, r = .returned (.tuple #[v, .int .i64 pt, .bool ok]) ∧ Kd.R kPr 34 w' w.heap.size (fun _ => True) v L ∧ Below w.heap.size w w' := by
      intro A c w hC
      have := spec_MapOut A m.length c m e w hC hbig
      rw [hF] at this
      exact this
    have IM : ∀ (A : Option Addr) (c : Nat) (w : World), Kd.C kPr w A m.length m → m.length ≤ c → Calls Try.prog 23 #[.slice A m.length c, vEn e] w fun r w' => ∃ v, r = .returned (.tuple #[v, .int .i64 pt, .bool ok]) ∧ Cl kPr 34 w' w.heap.size v L ∧ Below w.heap.size w w' := by
      intro A c w hC hc
      have := impl_MapOut A m.length c m e w hC hbig hc
      rw [hF] at this
      exact this
    clear hF
    have SP := Aside0.mk SP
    have IM := Aside0.mk IM
    have hpt : (pt != pt) = false := by simp
    have hok : (ok != ok) = false := by simp
    have t2 : decide ((1 : Int) + 3 * (m.length : Int) < 0) = false := decide_eq_false (by omega)
    have t3 : decide ((1 : Int) + 3 * (L.length : Int) < 0) = false := decide_eq_false (by omega)
    have HC := Aside0.mk hC; clear hC
    go_wp2_with (go_at_call 11; refine (laws_szPairS A m.length c 1048576 _ hm (by omega)).mono ?_; rintro r w' ⟨rfl, rfl⟩; rw [HZ.out])
    obtain ⟨wb, hwb⟩ : ∃ wb, wb = w.alloc (.cells #[.int .i64 e.addr, .int .i64 e.port] 48) := ⟨_, rfl⟩
    have hBb : Below w.heap.size w wb := by rw [hwb]; exact (by repeat (first | (with_reducible exact (Below.refl _ _)) | (with_reducible apply below_alloc) | (with_reducible apply pw_below_drewN) | (with_reducible apply below_drew1) | with_reducible refine below_set ?_ (by first | (with_reducible exact Nat.le_refl _) | (with_reducible assumption) | (simp; done) | omega | (simp; omega))))
    have b0 : wb.cell? ⟨w.heap.size, 0, none⟩ = some (.int .i64 e.addr) := by rw [hwb]; exact (blk_cell (heap_alloc_new w _) 0).trans rfl
    have b1 : wb.cell? ⟨w.heap.size, 1, none⟩ = some (.int .i64 e.port) := by rw [hwb]; exact (blk_cell (heap_alloc_new w _) 1).trans rfl
    have bz : w.heap.size < wb.heap.size := by rw [hwb]; exact blk_lt (heap_alloc_new w _)
    have bb0 := b0
    have bb1 := b1
    rw [← hwb]
    clear hwb
    refine lin_start (fun w' => w'.cell? ⟨w.heap.size, 0, none⟩ = some (.int .i64 e.addr) ∧ w'.cell? ⟨w.heap.size, 1, none⟩ = some (.int .i64 e.port)) (true, [([], []), ([0], [0]), ([], []), ([2, 1], [2]), ([1, 3, 3], [1, 3]), ([4], [4]), ([5], [5]), ([5], [5]), ([5], [5]), ([6, 4, 0, 1, 2, 3, 4, 5, 6], [6]), ([7, 9, 0, 1, 2, 3, 4, 5, 6, 7, 9], [7]), ([8, 10, 0, 1, 2, 3, 4, 5, 6, 7, 8, 9, 10], [8])]) [0, 2, 1, 3, 4, 5, 6, 7, 8, 9, 10, 11] (by kernel_rfl) (by kernel_rfl) (by kernel_rfl) ⟨b0, b1⟩ ?_
    repeat (first | (refine lin_take rfl rfl (by kernel_rfl) (fun _ _ _ h => h) (by rfl) (v := ?_) (a' := ?_) ?_ ?_ ?_; rotate_left 2; (rintro w' ⟨s0, s1⟩; go_simp; with_reducible rfl); (simp only [List.getElem_toArray, List.getElem_cons_zero, List.getElem_cons_succ, Act.put, List.setIfInBounds_toArray, List.set_cons_zero, List.set_cons_succ]; rfl)) | (refine lin_off rfl rfl (by kernel_rfl) (fun _ _ _ h => h) (by rfl) (a' := ?_) ?_ ?_; rotate_left 1; (simp only [List.getElem_toArray, List.getElem_cons_zero, List.getElem_cons_succ, Act.put, List.setIfInBounds_toArray, List.set_cons_zero, List.set_cons_succ]; rfl)))
    refine lin_call rfl rfl rfl Try.func13 (by kernel_rfl) (by kernel_rfl) rfl (by rfl) (args := #[.slice A m.length c]) (by (try simp only [List.map_toArray, List.map_cons, List.map_nil]); first | done | rfl) (fun hS => ?_)
    refine (laws_toPairS A m.length c m _ (Kd.C_below HC.out (below_drew hBb)) hbig).mono ?_
    rintro r w1 ⟨v1, rfl, hR1, hb1⟩
    have z1 := hb1.size
    refine ⟨_, rfl, ?_, ?_⟩
    · first | exact (hb1.cell (by first | exact bz)).trans hS | (obtain ⟨s0, s1⟩ := hS; exact ⟨(hb1.cell (by first | exact bz)).trans s0, (hb1.cell (by first | exact bz)).trans s1⟩)
    refine lin_norm (a' := ?_) ?_ ?_; rotate_left 1; (simp only [List.getElem_toArray, List.getElem_cons_zero, List.getElem_cons_succ, Act.put, List.setIfInBounds_toArray, List.set_cons_zero, List.set_cons_succ]; rfl)
    repeat (first | (refine lin_take rfl rfl (by kernel_rfl) (fun _ _ _ h => h) (by rfl) (v := ?_) (a' := ?_) ?_ ?_ ?_; rotate_left 2; (rintro w' ⟨s0, s1⟩; go_simp; with_reducible rfl); (simp only [List.getElem_toArray, List.getElem_cons_zero, List.getElem_cons_succ, Act.put, List.setIfInBounds_toArray, List.set_cons_zero, List.set_cons_succ]; rfl)) | (refine lin_off rfl rfl (by kernel_rfl) (fun _ _ _ h => h) (by rfl) (a' := ?_) ?_ ?_; rotate_left 1; (simp only [List.getElem_toArray, List.getElem_cons_zero, List.getElem_cons_succ, Act.put, List.setIfInBounds_toArray, List.set_cons_zero, List.set_cons_succ]; rfl)))
    refine lin_call rfl rfl rfl Try.func27 (by kernel_rfl) (by kernel_rfl) rfl (by rfl) (args := #[vEn e]) (by (try simp only [List.map_toArray, List.map_cons, List.map_nil]); first | done | rfl) (fun hS => ?_)
    refine (laws_toEnd e _).mono ?_
    rintro r w2 ⟨rfl, hb2⟩
    have z2 := hb2.size
    refine ⟨_, rfl, ?_, ?_⟩
    · first | exact (hb2.cell (by first | exact Nat.lt_of_lt_of_le bz z1)).trans hS | (obtain ⟨s0, s1⟩ := hS; exact ⟨(hb2.cell (by first | exact Nat.lt_of_lt_of_le bz z1)).trans s0, (hb2.cell (by first | exact Nat.lt_of_lt_of_le bz z1)).trans s1⟩)
    refine lin_norm (a' := ?_) ?_ ?_; rotate_left 1; (simp only [List.getElem_toArray, List.getElem_cons_zero, List.getElem_cons_succ, Act.put, List.setIfInBounds_toArray, List.set_cons_zero, List.set_cons_succ]; rfl)
    repeat (first | (refine lin_take rfl rfl (by kernel_rfl) (fun _ _ _ h => h) (by rfl) (v := ?_) (a' := ?_) ?_ ?_ ?_; rotate_left 2; (rintro w' ⟨s0, s1⟩; go_simp; with_reducible rfl); (simp only [List.getElem_toArray, List.getElem_cons_zero, List.getElem_cons_succ, Act.put, List.setIfInBounds_toArray, List.set_cons_zero, List.set_cons_succ]; rfl)) | (refine lin_off rfl rfl (by kernel_rfl) (fun _ _ _ h => h) (by rfl) (a' := ?_) ?_ ?_; rotate_left 1; (simp only [List.getElem_toArray, List.getElem_cons_zero, List.getElem_cons_succ, Act.put, List.setIfInBounds_toArray, List.set_cons_zero, List.set_cons_succ]; rfl)))
    obtain ⟨A1, c1, rfl, hl1, hC1⟩ := Kd.R_reads hR1
    refine lin_call rfl rfl rfl Try.func22 (by kernel_rfl) (by kernel_rfl) rfl (by rfl) (args := #[.slice A1 m.length c1, vEn e]) (by (try simp only [List.map_toArray, List.map_cons, List.map_nil]); first | done | rfl) (fun hS => ?_)
    refine (SP.out A1 c1 _ (Kd.C_below hC1 hb2)).mono ?_
    rintro r w3 ⟨v3, rfl, hR3, hb3⟩
    have z3 := hb3.size
    refine ⟨_, rfl, ?_, ?_⟩
    · first | exact (hb3.cell (by first | exact Nat.lt_of_lt_of_le bz (Nat.le_trans z1 z2))).trans hS | (obtain ⟨s0, s1⟩ := hS; exact ⟨(hb3.cell (by first | exact Nat.lt_of_lt_of_le bz (Nat.le_trans z1 z2))).trans s0, (hb3.cell (by first | exact Nat.lt_of_lt_of_le bz (Nat.le_trans z1 z2))).trans s1⟩)
    refine lin_norm (a' := ?_) ?_ ?_; rotate_left 1; (simp only [List.getElem_toArray, List.getElem_cons_zero, List.getElem_cons_succ, Act.put, List.setIfInBounds_toArray, List.set_cons_zero, List.set_cons_succ]; rfl)
    repeat (first | (refine lin_take rfl rfl (by kernel_rfl) (fun _ _ _ h => h) (by rfl) (v := ?_) (a' := ?_) ?_ ?_ ?_; rotate_left 2; (rintro w' ⟨s0, s1⟩; go_simp; with_reducible rfl); (simp only [List.getElem_toArray, List.getElem_cons_zero, List.getElem_cons_succ, Act.put, List.setIfInBounds_toArray, List.set_cons_zero, List.set_cons_succ]; rfl)) | (refine lin_off rfl rfl (by kernel_rfl) (fun _ _ _ h => h) (by rfl) (a' := ?_) ?_ ?_; rotate_left 1; (simp only [List.getElem_toArray, List.getElem_cons_zero, List.getElem_cons_succ, Act.put, List.setIfInBounds_toArray, List.set_cons_zero, List.set_cons_succ]; rfl)))
    refine lin_done (by kernel_rfl) ?_
    have hB3 : Below wb.heap.size wb w3 := (below_drew (Below.refl _ _)).trans ((hb1.trans (hb2.mono z1)).trans (hb3.mono (Nat.le_trans z1 z2)))
    obtain ⟨A3, c3, rfl, hl3, hC3⟩ := Kd.R_reads hR3
    go_wp2_with fail; refine (laws_toPairS A m.length c m _ (Kd.C_below HC.out (hBb.trans (hB3.mono (Nat.le_of_lt bz)))) hbig).mono ?_; rintro r w4 ⟨v4, rfl, hR4, hb4⟩
    have z4 := hb4.size
    obtain ⟨A4, c4, rfl, hl4, hC4⟩ := Kd.R_reads hR4
    have hB4 : Below wb.heap.size wb w4 := hB3.trans (hb4.mono hB3.size)
    have b0 := (hB4.cell (p := ⟨w.heap.size, 0, none⟩) bz).trans b0
    have b1 := (hB4.cell (p := ⟨w.heap.size, 1, none⟩) bz).trans b1
    have g4 : w.heap.size < w4.heap.size := Nat.lt_of_lt_of_le bz hB4.size
    go_wp2_with fail; refine (laws_toEnd e _).mono ?_; rintro r w5 ⟨rfl, hb5⟩
    have z5 := hb5.size
    go_wp2_with fail; refine (IM.out A4 c4 _ (Kd.C_below hC4 hb5) hl4).mono ?_; rintro r w6 ⟨v6, rfl, hL6, hb6⟩
    have z6 := hb6.size
    have hb46 : Below w4.heap.size w4 w6 := hb5.trans (hb6.mono z5)
    have hb36 : Below w3.heap.size w3 w6 := hb4.trans (hb46.mono z4)
    obtain ⟨A6, c6, rfl, hR6⟩ := hL6
    have hC6 := (Kd.R_reads' hR6).2.2
    go_wp2_with fail; refine (laws_eqPairS A6 A3 L.length L.length L.length c3 L L _ hC6 (Kd.C_below hC3 hb36)).mono ?_; rintro r w7 ⟨rfl, hb7⟩
    rw [show decide (L = L) = true from decide_eq_true rfl]
    have z7 := hb7.size
    have hB7 : Below wb.heap.size wb w7 := hB4.trans ((hb46.trans (hb7.mono (Nat.le_trans z5 z6))).mono hB4.size)
    go_wp2_with fail; refine (laws_toPairS A m.length c m _ (Kd.C_below HC.out (hBb.trans (hB7.mono (Nat.le_of_lt bz)))) hbig).mono ?_; rintro r w8 ⟨v8, rfl, hR8, hb8⟩
    have z8 := hb8.size
    obtain ⟨A8, c8, rfl, hl8, hC8⟩ := Kd.R_reads hR8
    have hb68 : Below w6.heap.size w6 w8 := hb7.trans (hb8.mono z7)
    go_wp2_with fail; refine (laws_eqPairS A4 A8 m.length m.length c4 c8 m m _ (Kd.C_below hC4 (hb46.trans (hb68.mono (Nat.le_trans z5 z6)))) hC8).mono ?_; rintro r w9 ⟨rfl, hb9⟩
    rw [show decide (m = m) = true from decide_eq_true rfl]
    have z9 := hb9.size
    have hb69 : Below w6.heap.size w6 w9 := hb68.trans (hb9.mono (Nat.le_trans z7 z8))
    have hb49 : Below w4.heap.size w4 w9 := hb46.trans (hb69.mono (Nat.le_trans z5 z6))
    have lt4 := Kd.R_lt hR4
    go_wp2_with fail; refine (laws_markPairS A4 m.length c4 c4 m 1 w3.heap.size _ (Kd.R_below hR4 hb49) (by decide) hbig).mono ?_; rintro r w10 ⟨rfl, hR10, hk10, hb10⟩
    have z10 := hb10.size
    have hR6b : Kd.R kPr 34 w10 w5.heap.size (fun _ => True) (.slice A6 L.length c6) L :=
      Kd.R_mono (Kd.R_move (Kd.R_bound (Kd.R_below hR6 hb69)) (fun k hk2 => hk10 k (fun ad hA => by
        have h1 := lt4 ad.block (by rw [hA]; simp [Value.ownBlock]); have h2 := hk2.2.1; omega))) (fun _ _ => trivial)
    have hb3_10 : Below w3.heap.size w3 w10 := (hb36.trans (hb69.mono (by omega))).trans hb10
    go_wp2_with fail; refine (laws_eqPairS A6 A3 L.length L.length L.length c3 L L _ (Kd.R_reads' hR6b).2.2 (Kd.C_below hC3 hb3_10)).mono ?_; rintro r w11 ⟨rfl, hb11⟩
    rw [show decide (L = L) = true from decide_eq_true rfl]
    have z11 := hb11.size
    go_wp2_with fail; refine (laws_markPairS A6 L.length c6 L.length L 1 w5.heap.size _ (Kd.R_below hR6b hb11) (by decide) (by omega)).mono ?_; rintro r w12 ⟨rfl, hR12, hk12, hb12⟩
    have z12 := hb12.size
    have hC12 := (Kd.R_reads' hR12).2.2
    rw [marked_len L 1 L.length (Nat.le_refl _)] at hC12
    have HM12 := Aside0.mk (fun i (hi : i < L.length) => marked_all_get L 1 i hi)
    go_wp2_with fail; refine (laws_heldPairS A6 L.length L.length (marked L 1 L.length) 1 _ hC12 HM12.out (by decide) (by omega)).mono ?_; rintro r w12 ⟨rfl, rfl⟩
    have hb3_12 : Below w3.heap.size w3 w12 := hb3_10.trans ((hb11.mono (by omega)).trans (hb12.mono (by omega)))
    have hB12 : Below wb.heap.size wb w12 := hB3.trans (hb3_12.mono hB3.size)
    have hz12 := hB12.size
    have b0 := (hB12.cell (p := ⟨w.heap.size, 0, none⟩) bz).trans bb0
    have b1 := (hB12.cell (p := ⟨w.heap.size, 1, none⟩) bz).trans bb1
    go_wp2
    refine lin_start (fun w' => w'.cell? ⟨w.heap.size, 0, none⟩ = some (.int .i64 e.addr) ∧ w'.cell? ⟨w.heap.size, 1, none⟩ = some (.int .i64 e.port)) (true, [([], []), ([0], [0]), ([], []), ([2, 1], [2]), ([1, 3, 3], [1, 3]), ([4], [4]), ([5], [5]), ([5], [5]), ([5], [5]), ([6, 4, 0, 1, 2, 3, 4, 5, 6], [6]), ([7, 9, 0, 1, 2, 3, 4, 5, 6, 7, 9], [7]), ([8, 10, 0, 1, 2, 3, 4, 5, 6, 7, 8, 9, 10], [8])]) [0, 2, 1, 3, 4, 5, 6, 7, 8, 9, 10, 11] (by kernel_rfl) (by kernel_rfl) (by kernel_rfl) ⟨b0, b1⟩ ?_
    repeat (first | (refine lin_take rfl rfl (by kernel_rfl) (fun _ _ _ h => h) (by rfl) (v := ?_) (a' := ?_) ?_ ?_ ?_; rotate_left 2; (rintro w' ⟨s0, s1⟩; go_simp; with_reducible rfl); (simp only [List.getElem_toArray, List.getElem_cons_zero, List.getElem_cons_succ, Act.put, List.setIfInBounds_toArray, List.set_cons_zero, List.set_cons_succ]; rfl)) | (refine lin_off rfl rfl (by kernel_rfl) (fun _ _ _ h => h) (by rfl) (a' := ?_) ?_ ?_; rotate_left 1; (simp only [List.getElem_toArray, List.getElem_cons_zero, List.getElem_cons_succ, Act.put, List.setIfInBounds_toArray, List.set_cons_zero, List.set_cons_succ]; rfl)))
    refine lin_call rfl rfl rfl Try.func13 (by kernel_rfl) (by kernel_rfl) rfl (by rfl) (args := #[.slice A m.length c]) (by (try simp only [List.map_toArray, List.map_cons, List.map_nil]); first | done | rfl) (fun hS => ?_)
    refine (laws_toPairS A m.length c m _ (Kd.C_below HC.out (below_drew (hBb.trans (hB12.mono (Nat.le_of_lt bz))))) hbig).mono ?_
    rintro r w13 ⟨v13, rfl, hR13, hb13⟩
    have z13 := hb13.size
    refine ⟨_, rfl, ?_, ?_⟩
    · first | exact (hb13.cell (by first | exact Nat.lt_of_lt_of_le bz hz12)).trans hS | (obtain ⟨s0, s1⟩ := hS; exact ⟨(hb13.cell (by first | exact Nat.lt_of_lt_of_le bz hz12)).trans s0, (hb13.cell (by first | exact Nat.lt_of_lt_of_le bz hz12)).trans s1⟩)
    refine lin_norm (a' := ?_) ?_ ?_; rotate_left 1; (simp only [List.getElem_toArray, List.getElem_cons_zero, List.getElem_cons_succ, Act.put, List.setIfInBounds_toArray, List.set_cons_zero, List.set_cons_succ]; rfl)
    repeat (first | (refine lin_take rfl rfl (by kernel_rfl) (fun _ _ _ h => h) (by rfl) (v := ?_) (a' := ?_) ?_ ?_ ?_; rotate_left 2; (rintro w' ⟨s0, s1⟩; go_simp; with_reducible rfl); (simp only [List.getElem_toArray, List.getElem_cons_zero, List.getElem_cons_succ, Act.put, List.setIfInBounds_toArray, List.set_cons_zero, List.set_cons_succ]; rfl)) | (refine lin_off rfl rfl (by kernel_rfl) (fun _ _ _ h => h) (by rfl) (a' := ?_) ?_ ?_; rotate_left 1; (simp only [List.getElem_toArray, List.getElem_cons_zero, List.getElem_cons_succ, Act.put, List.setIfInBounds_toArray, List.set_cons_zero, List.set_cons_succ]; rfl)))
    refine lin_call rfl rfl rfl Try.func27 (by kernel_rfl) (by kernel_rfl) rfl (by rfl) (args := #[vEn e]) (by (try simp only [List.map_toArray, List.map_cons, List.map_nil]); first | done | rfl) (fun hS => ?_)
    refine (laws_toEnd e _).mono ?_
    rintro r w14 ⟨rfl, hb14⟩
    have z14 := hb14.size
    refine ⟨_, rfl, ?_, ?_⟩
    · first | exact (hb14.cell (by first | exact Nat.lt_of_lt_of_le bz (Nat.le_trans hz12 z13))).trans hS | (obtain ⟨s0, s1⟩ := hS; exact ⟨(hb14.cell (by first | exact Nat.lt_of_lt_of_le bz (Nat.le_trans hz12 z13))).trans s0, (hb14.cell (by first | exact Nat.lt_of_lt_of_le bz (Nat.le_trans hz12 z13))).trans s1⟩)
    refine lin_norm (a' := ?_) ?_ ?_; rotate_left 1; (simp only [List.getElem_toArray, List.getElem_cons_zero, List.getElem_cons_succ, Act.put, List.setIfInBounds_toArray, List.set_cons_zero, List.set_cons_succ]; rfl)
    repeat (first | (refine lin_take rfl rfl (by kernel_rfl) (fun _ _ _ h => h) (by rfl) (v := ?_) (a' := ?_) ?_ ?_ ?_; rotate_left 2; (rintro w' ⟨s0, s1⟩; go_simp; with_reducible rfl); (simp only [List.getElem_toArray, List.getElem_cons_zero, List.getElem_cons_succ, Act.put, List.setIfInBounds_toArray, List.set_cons_zero, List.set_cons_succ]; rfl)) | (refine lin_off rfl rfl (by kernel_rfl) (fun _ _ _ h => h) (by rfl) (a' := ?_) ?_ ?_; rotate_left 1; (simp only [List.getElem_toArray, List.getElem_cons_zero, List.getElem_cons_succ, Act.put, List.setIfInBounds_toArray, List.set_cons_zero, List.set_cons_succ]; rfl)))
    obtain ⟨A13, c13, rfl, hl13, hC13⟩ := Kd.R_reads hR13
    refine lin_call rfl rfl rfl Try.func23 (by kernel_rfl) (by kernel_rfl) rfl (by rfl) (args := #[.slice A13 m.length c13, vEn e]) (by (try simp only [List.map_toArray, List.map_cons, List.map_nil]); first | done | rfl) (fun hS => ?_)
    refine (IM.out A13 c13 _ (Kd.C_below hC13 hb14) hl13).mono ?_
    rintro r w15 ⟨v15, rfl, hL15, hb15⟩
    have z15 := hb15.size
    refine ⟨_, rfl, ?_, ?_⟩
    · first | exact (hb15.cell (by first | exact Nat.lt_of_lt_of_le bz (Nat.le_trans hz12 (Nat.le_trans z13 z14)))).trans hS | (obtain ⟨s0, s1⟩ := hS; exact ⟨(hb15.cell (by first | exact Nat.lt_of_lt_of_le bz (Nat.le_trans hz12 (Nat.le_trans z13 z14)))).trans s0, (hb15.cell (by first | exact Nat.lt_of_lt_of_le bz (Nat.le_trans hz12 (Nat.le_trans z13 z14)))).trans s1⟩)
    refine lin_norm (a' := ?_) ?_ ?_; rotate_left 1; (simp only [List.getElem_toArray, List.getElem_cons_zero, List.getElem_cons_succ, Act.put, List.setIfInBounds_toArray, List.set_cons_zero, List.set_cons_succ]; rfl)
    repeat (first | (refine lin_take rfl rfl (by kernel_rfl) (fun _ _ _ h => h) (by rfl) (v := ?_) (a' := ?_) ?_ ?_ ?_; rotate_left 2; (rintro w' ⟨s0, s1⟩; go_simp; with_reducible rfl); (simp only [List.getElem_toArray, List.getElem_cons_zero, List.getElem_cons_succ, Act.put, List.setIfInBounds_toArray, List.set_cons_zero, List.set_cons_succ]; rfl)) | (refine lin_off rfl rfl (by kernel_rfl) (fun _ _ _ h => h) (by rfl) (a' := ?_) ?_ ?_; rotate_left 1; (simp only [List.getElem_toArray, List.getElem_cons_zero, List.getElem_cons_succ, Act.put, List.setIfInBounds_toArray, List.set_cons_zero, List.set_cons_succ]; rfl)))
    refine lin_done (by kernel_rfl) ?_
    obtain ⟨A15, c15, rfl, hR15⟩ := hL15
    have hb12_15 : Below w12.heap.size w12 w15 := (below_drew (Below.refl _ _)).trans ((hb13.trans (hb14.mono z13)).trans (hb15.mono (Nat.le_trans z13 z14)))
    go_wp2_with fail; refine (laws_eqPairS A15 A3 L.length L.length L.length c3 L L _ (Kd.R_reads' hR15).2.2 (Kd.C_below hC3 (hb3_12.trans (hb12_15.mono (by omega))))).mono ?_; rintro r w16 ⟨rfl, hb16⟩
    rw [show decide (L = L) = true from decide_eq_true rfl]
    have hb12_16 : Below w12.heap.size w12 w16 := hb12_15.trans (hb16.mono hb12_15.size)
    go_wp2_with fail; refine (laws_heldPairS A6 L.length L.length (marked L 1 L.length) 1 _ (Kd.C_below hC12 hb12_16) HM12.out (by decide) (by omega)).mono ?_; rintro r w16 ⟨rfl, rfl⟩
    go_wp2
    go_ret
    exact ⟨rfl, hBb.trans ((hB12.trans (hb12_16.mono hz12)).mono (Nat.le_of_lt bz))⟩
  · have hz : szB n 1048576 = -1 := by unfold szB; rw [if_pos (by omega)]
    have HZ := Aside0.mk hz; clear hz
    go_enter Try.func10, Try.ntmps10
    go_wp2_with (go_at_call 11; refine (laws_szPairS A n c 1048576 _ hm (by omega)).mono ?_; rintro r w' ⟨rfl, rfl⟩; rw [HZ.out])
    go_ret
    exact ⟨rfl, (by repeat (first | (with_reducible exact (Below.refl _ _)) | (with_reducible apply below_alloc) | (with_reducible apply pw_below_drewN) | (with_reducible apply below_drew1) | with_reducible refine below_set ?_ (by first | (with_reducible exact Nat.le_refl _) | (with_reducible assumption) | (simp; done) | omega | (simp; omega))))⟩
end Go.Proofs.Ytdmbbocjaagfkaa.Z
