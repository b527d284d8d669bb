/- Draws: a reader opened; an end drawn. -/
import Derived.Test.YtdmbbocjaagfkaaDa
namespace Go.Proofs.Ytdmbbocjaagfkaa.Z
open Go.RowKit Go.Proofs.YtdmbbocjaagfkaaW.PrintWords
set_option linter.unusedVariables false
set_option linter.unusedSimpArgs false
attribute [local go_sem ↓] Go.wp_at_zero Go.wp_at_succ

theorem Dr.blk {r : Nat} {a b : World} (h : Dr r a b) {q : Nat} {o : Obj} (hb : a.heap[q]? = some o) (hq : q ≠ r) : b.heap[q]? = some o := h.1.blk hb hq (by simp)
theorem Dr.far {r : Nat} {a b : World} (h : Dr r a b) {q : Nat} (h1 : a.heap.size ≤ q) (h2 : r ≤ q) (j : Nat) (u : Value) : Dr r a (b.setCell ⟨q, j, none⟩ u) := ⟨keep_far h.1 h1 u, h.2.setCell h2 _⟩
theorem Rd.far {w : World} {r : Nat} {B : Int} (h : Rd w r B) {q : Nat} (hq : r < q) (j : Nat) (u : Value) : Rd (w.setCell ⟨q, j, none⟩ u) r B := h.keeps ((Below.refl _ _).setCell hq _)
theorem Rd.alloc {w : World} {r : Nat} {B : Int} (h : Rd w r B) (o : Obj) : Rd (w.alloc o) r B := h.keeps ((Below.refl _ _).alloc h.lt o)

theorem spec_l6Open (A : Option Addr) (n c : Nat) (bs : List Int) (w : World) (hC : Kd.C (Kd.int .u8) w A n bs) (hb : ∀ b ∈ bs, (0 : Int) ≤ b ∧ b ≤ 255) (hc : n ≤ c) (hlt : ∀ ad, A = some ad → 0 < n → ad.block < w.heap.size) :
    Calls Try.prog 34 #[.slice A n c] w fun e w' => ∃ r, e = .returned (.pointer (some ⟨r, 0, none⟩)) ∧ w.heap.size ≤ r ∧ Rd w' r 0 ∧ Below w.heap.size w w' := by
  have hm := max_len hC
  have HC := Aside0.mk hC; clear hC
  by_cases h2 : n > 2000
  · have t1 : decide ((n : Int) > 2000) = true := decide_eq_true (by omega)
    have t2 : decide ((2000 : Int) < (n : Int)) = true := decide_eq_true (by omega)
    have t3 : (2000 : Int) ≤ (c : Int) := by omega
    have HR : Aside0 (Kd.C (Kd.int .u8) w A 2000 (bs.take 2000)) := ⟨C_take' HC.out (by omega)⟩
    cases A with
    | none =>
      obtain ⟨ad, h, _⟩ := HC.out.2.2 (by omega)
      cases h
    | some ad =>
      go_enter Try.func34, Try.ntmps34
      go_wp2
      go_ret
      refine ⟨w.heap.size, by simp, Nat.le_refl _, ⟨some ad, 2000, c, bs.take 2000, 0, by simpa using heap_alloc_new w _, Kd.C_below HR.out (by repeat (first | (with_reducible exact (Below.refl _ _)) | (with_reducible apply below_alloc) | (with_reducible apply pw_below_drewN) | (with_reducible apply below_drew1) | with_reducible refine below_set ?_ (by first | (with_reducible exact Nat.le_refl _) | (with_reducible assumption) | (simp; done) | omega | (simp; omega)))), fun b hb2 => hb b (List.mem_of_mem_take hb2), by omega, by omega, fun ad h _ => hlt ad h (by omega), by omega, by omega⟩, (by repeat (first | (with_reducible exact (Below.refl _ _)) | (with_reducible apply below_alloc) | (with_reducible apply pw_below_drewN) | (with_reducible apply below_drew1) | with_reducible refine below_set ?_ (by first | (with_reducible exact Nat.le_refl _) | (with_reducible assumption) | (simp; done) | omega | (simp; omega))))⟩
  · have t1 : decide ((n : Int) > 2000) = false := decide_eq_false (by omega)
    have t2 : decide ((2000 : Int) < (n : Int)) = false := decide_eq_false (by omega)
    go_enter Try.func34, Try.ntmps34
    go_wp2
    go_ret
    refine ⟨w.heap.size, by simp, Nat.le_refl _, ⟨A, n, c, bs, 0, by simpa using heap_alloc_new w _, Kd.C_below HC.out (by repeat (first | (with_reducible exact (Below.refl _ _)) | (with_reducible apply below_alloc) | (with_reducible apply pw_below_drewN) | (with_reducible apply below_drew1) | with_reducible refine below_set ?_ (by first | (with_reducible exact Nat.le_refl _) | (with_reducible assumption) | (simp; done) | omega | (simp; omega)))), hb, by omega, hc, fun ad h h0 => hlt ad h h0, by omega, by omega⟩, (by repeat (first | (with_reducible exact (Below.refl _ _)) | (with_reducible apply below_alloc) | (with_reducible apply pw_below_drewN) | (with_reducible apply below_drew1) | with_reducible refine below_set ?_ (by first | (with_reducible exact Nat.le_refl _) | (with_reducible assumption) | (simp; done) | omega | (simp; omega))))⟩

/-- An end as drawn: small numbers. -/
def smallEn (e : En) : Prop := 0 ≤ e.addr ∧ e.addr ≤ 100 ∧ 0 ≤ e.port ∧ e.port ≤ 100

set_option maxHeartbeats 4000000 in
theorem spec_l71End (r : Nat) (B : Int) (w : World) (h : Rd w r B) (hB : B ≤ 100000000) :
    Calls Try.prog 37 #[.pointer (some ⟨r, 0, none⟩)] w fun e w' => ∃ x : En, e = .returned (vEn x) ∧ smallEn x ∧ Rd w' r (B + 3) ∧ Dr r w w' := by
  have hr := h.lt
  have bk := heap_alloc_new w (.cells #[.int .i64 0, .int .i64 0] 32)
  have HD := Aside0.mk ((Dr.refl r w).alloc (Nat.le_of_lt hr) (.cells #[.int .i64 0, .int .i64 0] 32))
  have hRd := h.alloc (.cells #[.int .i64 0, .int .i64 0] 32)
  go_enter Try.func37, Try.ntmps37
  go_wp2_with fail; refine (spec_pick r 12 B _ hRd (by omega)).mono ?_; rintro e w1 ⟨x1, rfl, hx1, _, hR1, hD1⟩
  replace HD := HD.out.trans hD1
  replace bk := hD1.blk bk (by omega)
  have z1 := hD1.size
  obtain ⟨hx0, hx2⟩ := hx1 (by omega)
  have hx : x1 = 0 ∨ x1 = 1 ∨ x1 = 2 ∨ x1 = 3 ∨ x1 = 4 ∨ x1 = 5 ∨ x1 = 6 ∨ x1 = 7 ∨ x1 = 8 ∨ x1 = 9 ∨ x1 = 10 ∨ x1 = 11 := by omega
  clear hx0 hx2 hx1 hD1
  rcases hx with rfl | rfl | rfl | rfl | rfl | rfl | rfl | rfl | rfl | rfl | rfl | rfl
  · go_wp2_with fail; refine (spec_pick r 3 (B + 1) _ hR1 (by omega)).mono ?_; rintro e w2 ⟨x2, rfl, hx2, _, hR2, hD2⟩
    go_wp2_with fail; refine (spec_pick r 9 (B + 1 + 1) _ hR2 (by omega)).mono ?_; rintro e w3 ⟨x3, rfl, hx3, _, hR3, hD3⟩
    obtain ⟨hx2a, hx2b⟩ := hx2 (by omega)
    obtain ⟨hx3a, hx3b⟩ := hx3 (by omega)
    replace bk := hD3.blk (hD2.blk bk (by omega)) (by omega)
    have HD := (HD.trans hD2).trans hD3
    have c0 := (blk_cell bk 0).trans rfl
    have c1 := (blk_cell bk 1).trans rfl
    have f0 := blk_frozen bk 0
    have f1 := blk_frozen bk 1
    clear bk hx2 hx3 hD2 hD3 hR1 hR2
    go_wp2
    refine bodyPost_ret (v := (vEn ⟨1 + x2, 1 + x3⟩)) (by simp [results, Try.results37, go_sem, zEn, *]) rfl ⟨⟨1 + x2, 1 + x3⟩, rfl, ⟨by simp; omega, by simp; omega, by simp; omega, by simp; omega⟩, ((hR3.far hr _ _).far hr _ _).mono (by omega), (HD.far (Nat.le_refl _) (Nat.le_of_lt hr) _ _).far (Nat.le_refl _) (Nat.le_of_lt hr) _ _⟩
  · go_wp2_with fail; refine (spec_pick r 3 (B + 1) _ hR1 (by omega)).mono ?_; rintro e w2 ⟨x2, rfl, hx2, _, hR2, hD2⟩
    go_wp2_with fail; refine (spec_pick r 9 (B + 1 + 1) _ hR2 (by omega)).mono ?_; rintro e w3 ⟨x3, rfl, hx3, _, hR3, hD3⟩
    obtain ⟨hx2a, hx2b⟩ := hx2 (by omega)
    obtain ⟨hx3a, hx3b⟩ := hx3 (by omega)
    replace bk := hD3.blk (hD2.blk bk (by omega)) (by omega)
    have HD := (HD.trans hD2).trans hD3
    have c0 := (blk_cell bk 0).trans rfl
    have c1 := (blk_cell bk 1).trans rfl
    have f0 := blk_frozen bk 0
    have f1 := blk_frozen bk 1
    clear bk hx2 hx3 hD2 hD3 hR1 hR2
    go_wp2
    refine bodyPost_ret (v := (vEn ⟨1 + x2, 1 + x3⟩)) (by simp [results, Try.results37, go_sem, zEn, *]) rfl ⟨⟨1 + x2, 1 + x3⟩, rfl, ⟨by simp; omega, by simp; omega, by simp; omega, by simp; omega⟩, ((hR3.far hr _ _).far hr _ _).mono (by omega), (HD.far (Nat.le_refl _) (Nat.le_of_lt hr) _ _).far (Nat.le_refl _) (Nat.le_of_lt hr) _ _⟩
  · go_wp2_with fail; refine (spec_pick r 3 (B + 1) _ hR1 (by omega)).mono ?_; rintro e w2 ⟨x2, rfl, hx2, _, hR2, hD2⟩
    go_wp2_with fail; refine (spec_pick r 9 (B + 1 + 1) _ hR2 (by omega)).mono ?_; rintro e w3 ⟨x3, rfl, hx3, _, hR3, hD3⟩
    obtain ⟨hx2a, hx2b⟩ := hx2 (by omega)
    obtain ⟨hx3a, hx3b⟩ := hx3 (by omega)
    replace bk := hD3.blk (hD2.blk bk (by omega)) (by omega)
    have HD := (HD.trans hD2).trans hD3
    have c0 := (blk_cell bk 0).trans rfl
    have c1 := (blk_cell bk 1).trans rfl
    have f0 := blk_frozen bk 0
    have f1 := blk_frozen bk 1
    clear bk hx2 hx3 hD2 hD3 hR1 hR2
    go_wp2
    refine bodyPost_ret (v := (vEn ⟨1 + x2, 1 + x3⟩)) (by simp [results, Try.results37, go_sem, zEn, *]) rfl ⟨⟨1 + x2, 1 + x3⟩, rfl, ⟨by simp; omega, by simp; omega, by simp; omega, by simp; omega⟩, ((hR3.far hr _ _).far hr _ _).mono (by omega), (HD.far (Nat.le_refl _) (Nat.le_of_lt hr) _ _).far (Nat.le_refl _) (Nat.le_of_lt hr) _ _⟩
  · go_wp2_with fail; refine (spec_pick r 3 (B + 1) _ hR1 (by omega)).mono ?_; rintro e w2 ⟨x2, rfl, hx2, _, hR2, hD2⟩
    go_wp2_with fail; refine (spec_pick r 9 (B + 1 + 1) _ hR2 (by omega)).mono ?_; rintro e w3 ⟨x3, rfl, hx3, _, hR3, hD3⟩
    obtain ⟨hx2a, hx2b⟩ := hx2 (by omega)
    obtain ⟨hx3a, hx3b⟩ := hx3 (by omega)
    replace bk := hD3.blk (hD2.blk bk (by omega)) (by omega)
    have HD := (HD.trans hD2).trans hD3
    have c0 := (blk_cell bk 0).trans rfl
    have c1 := (blk_cell bk 1).trans rfl
    have f0 := blk_frozen bk 0
    have f1 := blk_frozen bk 1
    clear bk hx2 hx3 hD2 hD3 hR1 hR2
    go_wp2
    refine bodyPost_ret (v := (vEn ⟨1 + x2, 1 + x3⟩)) (by simp [results, Try.results37, go_sem, zEn, *]) rfl ⟨⟨1 + x2, 1 + x3⟩, rfl, ⟨by simp; omega, by simp; omega, by simp; omega, by simp; omega⟩, ((hR3.far hr _ _).far hr _ _).mono (by omega), (HD.far (Nat.le_refl _) (Nat.le_of_lt hr) _ _).far (Nat.le_refl _) (Nat.le_of_lt hr) _ _⟩
  · go_wp2_with fail; refine (spec_pick r 3 (B + 1) _ hR1 (by omega)).mono ?_; rintro e w2 ⟨x2, rfl, hx2, _, hR2, hD2⟩
    go_wp2_with fail; refine (spec_pick r 9 (B + 1 + 1) _ hR2 (by omega)).mono ?_; rintro e w3 ⟨x3, rfl, hx3, _, hR3, hD3⟩
    obtain ⟨hx2a, hx2b⟩ := hx2 (by omega)
    obtain ⟨hx3a, hx3b⟩ := hx3 (by omega)
    replace bk := hD3.blk (hD2.blk bk (by omega)) (by omega)
    have HD := (HD.trans hD2).trans hD3
    have c0 := (blk_cell bk 0).trans rfl
    have c1 := (blk_cell bk 1).trans rfl
    have f0 := blk_frozen bk 0
    have f1 := blk_frozen bk 1
    clear bk hx2 hx3 hD2 hD3 hR1 hR2
    go_wp2
    refine bodyPost_ret (v := (vEn ⟨4 + x2, 1 + x3⟩)) (by simp [results, Try.results37, go_sem, zEn, *]) rfl ⟨⟨4 + x2, 1 + x3⟩, rfl, ⟨by simp; omega, by simp; omega, by simp; omega, by simp; omega⟩, ((hR3.far hr _ _).far hr _ _).mono (by omega), (HD.far (Nat.le_refl _) (Nat.le_of_lt hr) _ _).far (Nat.le_refl _) (Nat.le_of_lt hr) _ _⟩
  · go_wp2_with fail; refine (spec_pick r 3 (B + 1) _ hR1 (by omega)).mono ?_; rintro e w2 ⟨x2, rfl, hx2, _, hR2, hD2⟩
    go_wp2_with fail; refine (spec_pick r 9 (B + 1 + 1) _ hR2 (by omega)).mono ?_; rintro e w3 ⟨x3, rfl, hx3, _, hR3, hD3⟩
    obtain ⟨hx2a, hx2b⟩ := hx2 (by omega)
    obtain ⟨hx3a, hx3b⟩ := hx3 (by omega)
    replace bk := hD3.blk (hD2.blk bk (by omega)) (by omega)
    have HD := (HD.trans hD2).trans hD3
    have c0 := (blk_cell bk 0).trans rfl
    have c1 := (blk_cell bk 1).trans rfl
    have f0 := blk_frozen bk 0
    have f1 := blk_frozen bk 1
    clear bk hx2 hx3 hD2 hD3 hR1 hR2
    go_wp2
    refine bodyPost_ret (v := (vEn ⟨4 + x2, 1 + x3⟩)) (by simp [results, Try.results37, go_sem, zEn, *]) rfl ⟨⟨4 + x2, 1 + x3⟩, rfl, ⟨by simp; omega, by simp; omega, by simp; omega, by simp; omega⟩, ((hR3.far hr _ _).far hr _ _).mono (by omega), (HD.far (Nat.le_refl _) (Nat.le_of_lt hr) _ _).far (Nat.le_refl _) (Nat.le_of_lt hr) _ _⟩
  · go_wp2_with fail; refine (spec_pick r 3 (B + 1) _ hR1 (by omega)).mono ?_; rintro e w2 ⟨x2, rfl, hx2, _, hR2, hD2⟩
    go_wp2_with fail; refine (spec_pick r 9 (B + 1 + 1) _ hR2 (by omega)).mono ?_; rintro e w3 ⟨x3, rfl, hx3, _, hR3, hD3⟩
    obtain ⟨hx2a, hx2b⟩ := hx2 (by omega)
    obtain ⟨hx3a, hx3b⟩ := hx3 (by omega)
    replace bk := hD3.blk (hD2.blk bk (by omega)) (by omega)
    have HD := (HD.trans hD2).trans hD3
    have c0 := (blk_cell bk 0).trans rfl
    have c1 := (blk_cell bk 1).trans rfl
    have f0 := blk_frozen bk 0
    have f1 := blk_frozen bk 1
    clear bk hx2 hx3 hD2 hD3 hR1 hR2
    go_wp2
    refine bodyPost_ret (v := (vEn ⟨4 + x2, 1 + x3⟩)) (by simp [results, Try.results37, go_sem, zEn, *]) rfl ⟨⟨4 + x2, 1 + x3⟩, rfl, ⟨by simp; omega, by simp; omega, by simp; omega, by simp; omega⟩, ((hR3.far hr _ _).far hr _ _).mono (by omega), (HD.far (Nat.le_refl _) (Nat.le_of_lt hr) _ _).far (Nat.le_refl _) (Nat.le_of_lt hr) _ _⟩
  · go_wp2_with fail; refine (spec_pick r 8 (B + 1) _ hR1 (by omega)).mono ?_; rintro e w3 ⟨x3, rfl, hx3, _, hR3, hD3⟩
    obtain ⟨hx3a, hx3b⟩ := hx3 (by omega)
    replace bk := hD3.blk bk (by omega)
    have HD := HD.trans hD3
    have c0 := (blk_cell bk 0).trans rfl
    have c1 := (blk_cell bk 1).trans rfl
    have f0 := blk_frozen bk 0
    have f1 := blk_frozen bk 1
    clear bk hx3 hD3 hR1
    go_wp2
    refine bodyPost_ret (v := (vEn ⟨9, 10 + x3⟩)) (by simp [results, Try.results37, go_sem, zEn, *]) rfl ⟨⟨9, 10 + x3⟩, rfl, ⟨by simp, by simp, by simp; omega, by simp; omega⟩, ((hR3.far hr _ _).far hr _ _).mono (by omega), (HD.far (Nat.le_refl _) (Nat.le_of_lt hr) _ _).far (Nat.le_refl _) (Nat.le_of_lt hr) _ _⟩
  · go_wp2_with fail; refine (spec_pick r 8 (B + 1) _ hR1 (by omega)).mono ?_; rintro e w3 ⟨x3, rfl, hx3, _, hR3, hD3⟩
    obtain ⟨hx3a, hx3b⟩ := hx3 (by omega)
    replace bk := hD3.blk bk (by omega)
    have HD := HD.trans hD3
    have c0 := (blk_cell bk 0).trans rfl
    have c1 := (blk_cell bk 1).trans rfl
    have f0 := blk_frozen bk 0
    have f1 := blk_frozen bk 1
    clear bk hx3 hD3 hR1
    go_wp2
    refine bodyPost_ret (v := (vEn ⟨9, 10 + x3⟩)) (by simp [results, Try.results37, go_sem, zEn, *]) rfl ⟨⟨9, 10 + x3⟩, rfl, ⟨by simp, by simp, by simp; omega, by simp; omega⟩, ((hR3.far hr _ _).far hr _ _).mono (by omega), (HD.far (Nat.le_refl _) (Nat.le_of_lt hr) _ _).far (Nat.le_refl _) (Nat.le_of_lt hr) _ _⟩
  · go_wp2_with fail; refine (spec_pick r 8 (B + 1) _ hR1 (by omega)).mono ?_; rintro e w3 ⟨x3, rfl, hx3, _, hR3, hD3⟩
    obtain ⟨hx3a, hx3b⟩ := hx3 (by omega)
    replace bk := hD3.blk bk (by omega)
    have HD := HD.trans hD3
    have c0 := (blk_cell bk 0).trans rfl
    have c1 := (blk_cell bk 1).trans rfl
    have f0 := blk_frozen bk 0
    have f1 := blk_frozen bk 1
    clear bk hx3 hD3 hR1
    go_wp2
    refine bodyPost_ret (v := (vEn ⟨9, 10 + x3⟩)) (by simp [results, Try.results37, go_sem, zEn, *]) rfl ⟨⟨9, 10 + x3⟩, rfl, ⟨by simp, by simp, by simp; omega, by simp; omega⟩, ((hR3.far hr _ _).far hr _ _).mono (by omega), (HD.far (Nat.le_refl _) (Nat.le_of_lt hr) _ _).far (Nat.le_refl _) (Nat.le_of_lt hr) _ _⟩
  · go_wp2_with fail; refine (spec_pick r 8 (B + 1) _ hR1 (by omega)).mono ?_; rintro e w3 ⟨x3, rfl, hx3, _, hR3, hD3⟩
    obtain ⟨hx3a, hx3b⟩ := hx3 (by omega)
    replace bk := hD3.blk bk (by omega)
    have HD := HD.trans hD3
    have c0 := (blk_cell bk 0).trans rfl
    have c1 := (blk_cell bk 1).trans rfl
    have f0 := blk_frozen bk 0
    have f1 := blk_frozen bk 1
    clear bk hx3 hD3 hR1
    go_wp2
    refine bodyPost_ret (v := (vEn ⟨9, 10 + x3⟩)) (by simp [results, Try.results37, go_sem, zEn, *]) rfl ⟨⟨9, 10 + x3⟩, rfl, ⟨by simp, by simp, by simp; omega, by simp; omega⟩, ((hR3.far hr _ _).far hr _ _).mono (by omega), (HD.far (Nat.le_refl _) (Nat.le_of_lt hr) _ _).far (Nat.le_refl _) (Nat.le_of_lt hr) _ _⟩
  · go_wp2_with fail; refine (spec_pick r 12 (B + 1) _ hR1 (by omega)).mono ?_; rintro e w2 ⟨x2, rfl, hx2, _, hR2, hD2⟩
    go_wp2_with fail; refine (spec_pick r 20 (B + 1 + 1) _ hR2 (by omega)).mono ?_; rintro e w3 ⟨x3, rfl, hx3, _, hR3, hD3⟩
    obtain ⟨hx2a, hx2b⟩ := hx2 (by omega)
    obtain ⟨hx3a, hx3b⟩ := hx3 (by omega)
    replace bk := hD3.blk (hD2.blk bk (by omega)) (by omega)
    have HD := (HD.trans hD2).trans hD3
    have c0 := (blk_cell bk 0).trans rfl
    have c1 := (blk_cell bk 1).trans rfl
    have f0 := blk_frozen bk 0
    have f1 := blk_frozen bk 1
    clear bk hx2 hx3 hD2 hD3 hR1 hR2
    go_wp2
    refine bodyPost_ret (v := (vEn ⟨x2, x3⟩)) (by simp [results, Try.results37, go_sem, zEn, *]) rfl ⟨⟨x2, x3⟩, rfl, ⟨by simp; omega, by simp; omega, by simp; omega, by simp; omega⟩, ((hR3.far hr _ _).far hr _ _).mono (by omega), (HD.far (Nat.le_refl _) (Nat.le_of_lt hr) _ _).far (Nat.le_refl _) (Nat.le_of_lt hr) _ _⟩
end Go.Proofs.Ytdmbbocjaagfkaa.Z
