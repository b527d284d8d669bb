/- The law FnMapIn: a port that stands for none stands for none. -/
import Derived.Test.YtdmbbocjaagfkaaDf
import Derived.Test.YtdmbbocjaagfkaaMh
namespace Go.Proofs.Ytdmbbocjaagfkaa.Z
open Go.RowKit Go.Proofs.YtdmbbocjaagfkaaW.PrintWords Go.Proofs.YtdmbbocjaagfkaaW.PrintLast
set_option linter.unusedVariables false
set_option linter.unusedSimpArgs false
attribute [local go_sem high] eqEn eqPr

/-- A box made, and the world it stands in. -/
theorem alloc_as (w : World) (o : Obj) : ∃ wb, wb = w.alloc o ∧ Below w.heap.size w wb ∧ wb.heap[w.heap.size]? = some o ∧ w.heap.size < wb.heap.size :=
  ⟨_, rfl, below_alloc (Below.refl _ _) _, heap_alloc_new w o, blk_lt (heap_alloc_new w o)⟩

set_option maxHeartbeats 4000000 in
theorem law_FnMapIn (A : Option Addr) (n c : Nat) (bs : List Int) (w : World) (hC : Kd.C (Kd.int .u8) w A n bs) (hc : n ≤ c) (hg : ∀ x ∈ bs, byteOk x) :
    Calls Try.prog 6 #[.slice A n c] w fun r w' => r = .returned (.bool true) ∧ Below w.heap.size w w' := by
  have hm := max_len hC
  have HC := Aside0.mk hC; clear hC
  by_cases h : (n : Int) > 1048576
  · have t1 : decide ((n : Int) > 1048576) = true := decide_eq_true h
    have t2 : decide ((1048576 : Int) < (n : Int)) = true := decide_eq_true (by omega)
    go_enter Try.func6, Try.ntmps6
    go_wp2
    go_ret
    exact ⟨rfl, Below.refl _ _⟩
  have t1 : decide ((n : Int) > 1048576) = false := decide_eq_false h
  have t2 : decide ((1048576 : Int) < (n : Int)) = false := decide_eq_false (by omega)
  go_enter Try.func6, Try.ntmps6
  go_wp2_with fail; refine (spec_DrawMapIn A n c bs w HC.out (bytes_le hg) hc).mono ?_; rintro r w1 ⟨v1, m, port, rfl, hW1, hl1, hp1, hp2, hb1⟩
  obtain ⟨Am, cm, he, hlc, hCm⟩ := hW1.reads
  subst he
  clear t1 t2
  have HV : Aside0 ((if mapOkB m then insideFrom m port 0 else none) = mapInO m port) := ⟨mapIn_eq m port⟩
  go_wp2_with fail; refine (spec_MapIn Am m.length cm m port w1 hCm (by omega) (by omega)).mono ?_; rintro r w2 ⟨rfl, hb2⟩
  rw [show (if mapOkB m then l3InO m port else none) = mapInO m port from rfl]
  have hB2 : Below w.heap.size w w2 := below_step hb1 hb2
  obtain ⟨o, ho⟩ : ∃ o, o = mapInO m port := ⟨_, rfl⟩
  rw [← ho] at HV ⊢
  have HO := Aside0.mk ho; clear ho
  have hz2 := hb2.size
  go_upto_region 5 with fail
  obtain ⟨x, hx⟩ : ∃ x, x = o.getD zEn := ⟨_, rfl⟩
  rw [← hx]
  have HX := Aside0.mk hx; clear hx
  obtain ⟨wb, hwb, hbb, bk, hzb⟩ := alloc_as w2 (.cells #[.int .i64 x.addr, .int .i64 x.port] 32)
  rw [← hwb]
  clear hwb
  have hb1b : Below w1.heap.size w1 wb := below_step hb2 hbb
  go_wp2_with fail; refine (impl_MapIn Am m.length cm m port wb (Kd.C_below hCm hb1b) (by omega) hlc).mono ?_; rintro r w3 ⟨rfl, hb3⟩
  rw [HV.out]
  replace bk := (hb3.block _ hzb).trans bk
  have hz3 := hb3.size
  go_upto_region 6 with fail
  rw [← HX.out]
  obtain ⟨wc, hwc, hbc, bk2, hzc⟩ := alloc_as w3 (.cells #[.int .i64 x.addr, .int .i64 x.port] 32)
  rw [← hwc]
  clear hwc
  replace bk := (hbc.block _ (by omega)).trans bk
  have hb1c : Below w1.heap.size w1 wc := below_step (below_step hb1b hb3) hbc
  have c0 : _ = some _ := (blk_cell bk 0).trans rfl
  have c1 : _ = some _ := (blk_cell bk 1).trans rfl
  have e0 : _ = some _ := (blk_cell bk2 0).trans rfl
  have e1 : _ = some _ := (blk_cell bk2 1).trans rfl
  have hxx : (x.addr == x.addr && (x.port == x.port)) = true := by simp
  have hoo : (o.isSome != o.isSome) = false := by simp
  have hoo2 : (o.isSome == o.isSome) = true := by simp
  go_wp2_with fail; refine (spec_MapOk Am m.length cm m wc (Kd.C_below hCm hb1c) (by omega)).mono ?_; rintro r w4 ⟨rfl, hb4⟩
  have hz4 := hb4.size
  replace bk := (hb4.block _ (by omega)).trans bk
  replace bk2 := (hb4.block _ (by omega)).trans bk2
  have hb14 : Below w1.heap.size w1 w4 := below_step hb1c hb4
  have hB4 : Below w.heap.size w w4 := below_step hb1 hb14
  have c0 : _ = some _ := (blk_cell bk 0).trans rfl
  have c1 : _ = some _ := (blk_cell bk 1).trans rfl
  have e0 : _ = some _ := (blk_cell bk2 0).trans rfl
  have e1 : _ = some _ := (blk_cell bk2 1).trans rfl
  cases hk : mapOkB m
  · go_wp2
    go_ret
    exact ⟨rfl, hB4⟩
  · have HF : Aside0 (insideFrom m port 0 = o) := ⟨by have := HV.out; rw [hk] at this; exact this⟩
    have HC4 := Aside0.mk (Kd.C_below hCm hb14)
    clear hCm
    go_wp2
    go_loopw [9] (fun i w' => ∃ k : Nat, k ≤ m.length ∧ i = .int .i64 k ∧ Aside0 (insideFrom m port k = o) ∧ Below w4.heap.size w4 w') (fun i _ => m.length - (intOf i).toNat)
    case atStart => exact ⟨0, Nat.zero_le _, rfl, HF, Below.refl _ _⟩
    case round =>
      obtain ⟨k, hk2, rfl, HP, hb⟩ := hrel
      replace bk := (hb.block _ (by omega)).trans bk
      replace bk2 := (hb.block _ (by omega)).trans bk2
      have c0 : _ = some _ := (blk_cell bk 0).trans rfl
      have c1 : _ = some _ := (blk_cell bk 1).trans rfl
      have e0 : _ = some _ := (blk_cell bk2 0).trans rfl
      have e1 : _ = some _ := (blk_cell bk2 1).trans rfl
      by_cases hlt : k < m.length
      · obtain ⟨ad, p, hA, hp, dL, d0, d1, d2⟩ := at_Pr (Kd.C_below HC4.out hb) k hlt
        cases hA
        have hk0 : (0 : Int) ≤ (k : Int) := Int.natCast_nonneg _
        have hk1 : (k : Int) < (m.length : Int) := by omega
        by_cases he : p.port = port
        · have ht : (p.port == port) = true := beq_iff_eq.2 he
          have HS := (insideFrom_hit hlt hp he).symm.trans HP.out
          have hoS : o.isSome = true := by rw [← HS]; rfl
          have hxp : (x.addr == p.inside.addr && (x.port == p.inside.port)) = true := by rw [HX.out, ← HS]; simp
          clear he HS
          go_wp2
          go_quiet (fail)
          go_wp2
          go_ret
          exact ⟨rfl, below_step hB4 (by repeat (first | (with_reducible exact hb) | (with_reducible apply below_alloc) | (with_reducible apply pw_below_drewN) | (with_reducible apply below_drew1) | with_reducible refine below_set ?_ (by first | (with_reducible exact Nat.le_refl _) | (with_reducible assumption) | (simp; done) | omega | (simp; omega))))⟩
        · have ht : (p.port == port) = false := beq_eq_false_iff_ne.2 he
          have HS := Aside0.mk ((insideFrom_miss hlt hp he).symm.trans HP.out)
          clear he
          go_wp2
          go_roundw
          case rel => exact ⟨k + 1, by omega, by go_num, HS, (by repeat (first | (with_reducible exact hb) | (with_reducible apply below_alloc) | (with_reducible apply pw_below_drewN) | (with_reducible apply below_drew1) | with_reducible refine below_set ?_ (by first | (with_reducible exact Nat.le_refl _) | (with_reducible assumption) | (simp; done) | omega | (simp; omega))))⟩
          case measure => simp [intOf]; omega
      · have HS := (insideFrom_end m port k (by omega)).symm.trans HP.out
        have hoS : o.isSome = false := by rw [← HS]; rfl
        clear HS
        go_wp2
        go_ret
        exact ⟨rfl, below_step hB4 (by repeat (first | (with_reducible exact hb) | (with_reducible apply below_alloc) | (with_reducible apply pw_below_drewN) | (with_reducible apply below_drew1) | with_reducible refine below_set ?_ (by first | (with_reducible exact Nat.le_refl _) | (with_reducible assumption) | (simp; done) | omega | (simp; omega))))⟩
end Go.Proofs.Ytdmbbocjaagfkaa.Z
