/- lzMap, and bytes as arguments. -/
import Derived.Test.YtdmbbocjaagfkaaDe
import Derived.Test.YtdmbbocjaagfkaaMg
import Derived.Test.YtdmbbocjaagfkaaOq
namespace Go.Proofs.Ytdmbbocjaagfkaa.Z
open Go.RowKit Go.Proofs.YtdmbbocjaagfkaaW.PrintWords
set_option linter.unusedVariables false
set_option linter.unusedSimpArgs false
attribute [local go_sem ↓] Go.wp_at_zero Go.wp_at_succ
attribute [local go_sem high] eqEn eqPr

theorem Pr_beq {p q : Pr} (h : p = q) : (p.port == q.port && (p.inside.addr == q.inside.addr && (p.inside.port == q.inside.port))) = true := by subst h; simp
theorem Pr_bne {p q : Pr} (h : p ≠ q) : (p.port == q.port && (p.inside.addr == q.inside.addr && (p.inside.port == q.inside.port))) = false := by
  rw [Bool.eq_false_iff]; intro h2; simp at h2
  exact h (by cases p with | mk a b => cases q with | mk c d => cases b; cases d; simp_all)

set_option maxHeartbeats 2000000 in
theorem laws_lzMap (A B : Option Addr) (n n2 c c2 : Nat) (xs ys : List Pr) (w : World) (hx : Kd.C kPr w A n xs) (hy : Kd.C kPr w B n2 ys) :
    Calls Try.prog 24 #[.slice A n c, .slice B n2 c2] w fun r w' => r = .returned (.bool (decide (xs = ys))) ∧ Below w.heap.size w w' := by
  obtain rfl : xs.length = n := hx.1
  obtain rfl : ys.length = n2 := hy.1
  have hm := max_len hx
  have HX := Aside0.mk hx; clear hx
  have HY := Aside0.mk hy; clear hy
  by_cases hl : xs.length = ys.length
  · rw [← hl]
    rw [← hl] at HY
    have HL := Aside0.mk hl; clear hl
    go_enter Try.func24, Try.ntmps24
    go_wp2
    go_loopw [5] (fun i w' => ∃ k : Nat, k ≤ xs.length ∧ i = .int .i64 k ∧ Aside0 (xs.take k = ys.take k) ∧ Below w.heap.size w w') (fun i _ => xs.length - (intOf i).toNat)
    case atStart => exact ⟨0, Nat.zero_le _, rfl, ⟨rfl⟩, Below.refl _ _⟩
    case round =>
      obtain ⟨k, hk, rfl, HP, hb⟩ := hrel
      by_cases hlt : k < xs.length
      · obtain ⟨ad, p, hA, hp, dL, d0, d1, d2⟩ := at_Pr (Kd.C_below HX.out hb) k hlt
        obtain ⟨ad2, q, hA2, hq, fL, f0, f1, f2⟩ := at_Pr (Kd.C_below HY.out hb) k hlt
        cases hA
        cases hA2
        have hk0 : (0 : Int) ≤ (k : Int) := Int.natCast_nonneg _
        have hk1 : (k : Int) < (xs.length : Int) := by omega
        by_cases he : p = q
        · have HF := Aside0.mk (eq_step hlt HL.out hp hq HP.out he)
          have t1 := Pr_beq he
          clear he
          go_wp2
          go_quiet (fail)
          go_wp2
          go_roundw
          case rel => exact ⟨k + 1, by omega, by go_num, HF, (by repeat (first | (with_reducible exact hb) | (with_reducible apply below_alloc) | (with_reducible apply pw_below_drewN) | (with_reducible apply below_drew1) | with_reducible refine below_set ?_ (by first | (with_reducible exact Nat.le_refl _) | (with_reducible assumption) | (simp; done) | omega | (simp; omega))))⟩
          case measure => simp [intOf]; omega
        · have HF := Aside0.mk (show decide (xs = ys) = false from decide_eq_false (ne_step hp hq he))
          have t1 := Pr_bne he
          clear he
          go_wp2
          go_quiet (fail)
          go_wp2
          go_ret
          exact ⟨ret_bool HF.out.symm, (by repeat (first | (with_reducible exact hb) | (with_reducible apply below_alloc) | (with_reducible apply pw_below_drewN) | (with_reducible apply below_drew1) | with_reducible refine below_set ?_ (by first | (with_reducible exact Nat.le_refl _) | (with_reducible assumption) | (simp; done) | omega | (simp; omega))))⟩
      · obtain rfl : k = xs.length := by omega
        have HF := Aside0.mk (show decide (xs = ys) = true from decide_eq_true (by have := HP.out; rw [List.take_length, HL.out, List.take_length] at this; exact this))
        go_wp2
        go_ret
        exact ⟨ret_bool HF.out.symm, hb⟩
  · have h1 : ((xs.length : Int) == (ys.length : Int)) = false := beq_eq_false_iff_ne.2 (by omega)
    have h2 : ((xs.length : Int) != (ys.length : Int)) = true := bne_iff_ne.2 (by omega)
    have h3 : (xs.length == ys.length) = false := beq_eq_false_iff_ne.2 hl
    have HF := Aside0.mk (show decide (xs = ys) = false from decide_eq_false (fun e => hl (by rw [e])))
    clear hl
    go_enter Try.func24, Try.ntmps24
    go_wp2
    go_ret
    exact ⟨ret_bool HF.out.symm, Below.refl _ _⟩

/-- A number that a byte holds. -/
def byteOk (n : Int) : Prop := (Lit.int .u8 n).wf = true
theorem byteOk.le {n : Int} (h : byteOk n) : 0 ≤ n ∧ n ≤ 255 := by
  unfold byteOk at h
  simpa [Lit.wf, IntKind.has, IntKind.min, IntKind.max, IntKind.signed, IntKind.bits] using h
theorem openByte : Opens Try.prog 5 (Kd.int .u8) byteOk := Opens.int Try.underlying5 (by kernel_rfl)
theorem openBytes : Opens Try.prog 29 (Kd.slice 5 (Kd.int .u8)) (fun xs => ∀ x ∈ xs, byteOk x) := Opens.slice Try.underlying29 (by kernel_rfl) openByte
theorem bytes_le {bs : List Int} (h : ∀ x ∈ bs, byteOk x) : ∀ b ∈ bs, (0 : Int) ≤ b ∧ b ≤ 255 := fun b hb => (h b hb).le
end Go.Proofs.Ytdmbbocjaagfkaa.Z
