/- The law FnMapOnce: an end has one port, a port one end. -/
import Derived.Test.YtdmbbocjaagfkaaDf
import Derived.Test.YtdmbbocjaagfkaaMo
import Derived.Test.YtdmbbocjaagfkaaLaFnMapIn
namespace Go.Proofs.Ytdmbbocjaagfkaa.Z
open Go.RowKit Go.Proofs.YtdmbbocjaagfkaaW.PrintWords Go.Proofs.YtdmbbocjaagfkaaW.PrintLast
set_option linter.unusedVariables false
set_option linter.unusedSimpArgs false
attribute [local go_sem high] eqEn eqPr

set_option maxHeartbeats 4000000 in
theorem law_FnMapOnce (A : Option Addr) (n c : Nat) (bs : List Int) (w : World) (hC : Kd.C (Kd.int .u8) w A n bs) (hc : n ≤ c) (hg : ∀ x ∈ bs, byteOk x) :
    Calls Try.prog 9 #[.slice A n c] w fun r w' => r = .returned (.bool true) ∧ Below w.heap.size w w' := by
  have hm := max_len hC
  have HC := Aside0.mk hC; clear hC
  by_cases h : (n : Int) > 1048576
  · have t1 : decide ((n : Int) > 1048576) = true := decide_eq_true h
    have t2 : decide ((1048576 : Int) < (n : Int)) = true := decide_eq_true (by omega)
    go_enter Try.func9, Try.ntmps9
    go_wp2
    go_ret
    exact ⟨rfl, Below.refl _ _⟩
  have t1 : decide ((n : Int) > 1048576) = false := decide_eq_false h
  have t2 : decide ((1048576 : Int) < (n : Int)) = false := decide_eq_false (by omega)
  go_enter Try.func9, Try.ntmps9
  go_wp2_with fail; refine (spec_DrawMapOut A n c bs w HC.out (bytes_le hg) hc).mono ?_; rintro r w1 ⟨v1, m, q, rfl, hW1, hl1, hb1⟩
  obtain ⟨Am, cm, he, hlc, hCm⟩ := hW1.reads
  subst he
  clear t1 t2
  go_upto_region 4 with fail
  obtain ⟨wb, hwb, hbb, bk, hzb⟩ := alloc_as w1 (.cells #[.int .i64 q.addr, .int .i64 q.port] 32)
  rw [← hwb]
  clear hwb
  have hB : Below w.heap.size w wb := below_step hb1 hbb
  have hCb := Kd.C_below hCm hbb
  have c0 : _ = some _ := (blk_cell bk 0).trans rfl
  have c1 : _ = some _ := (blk_cell bk 1).trans rfl
  obtain ⟨L, pt, ok, hF⟩ : ∃ L pt ok, mapOutF m q = (L, pt, ok) := ⟨_, _, _, rfl⟩
  have hL : L.length ≤ 12 := by
    have h1 : (mapOutF m q).1.length ≤ m.length + 1 := by
      unfold mapOutF; split
      · exact outS_len m q
      · simp
    rw [hF] at h1; simp only at h1; omega
  have SP := Aside0.mk (spec_MapOut Am m.length cm m q wb hCb (by omega))
  rw [hF] at SP
  go_wp2_with fail; refine (SP.out).mono ?_; rintro r w2 ⟨v2, rfl, hR2, hb2⟩
  obtain ⟨A2, cA2, rfl, hl2, hC2⟩ := Kd.R_reads hR2
  have hz2 := hb2.size
  replace bk := (hb2.block _ hzb).trans bk
  have c0 : _ = some _ := (blk_cell bk 0).trans rfl
  have c1 : _ = some _ := (blk_cell bk 1).trans rfl
  have IM := Aside0.mk (impl_MapOut Am m.length cm m q w2 (Kd.C_below hCb hb2) (by omega) hlc)
  rw [hF] at IM
  go_wp2_with fail; refine (IM.out).mono ?_; rintro r w3 ⟨v3, rfl, hL3, hb3⟩
  obtain ⟨A3, rfl, hC3⟩ := hL3.reads
  have hz3 := hb3.size
  replace bk := (hb3.block _ (by omega)).trans bk
  have hpt : (pt != pt) = false := by simp
  have hok : (ok != ok) = false := by simp
  have hpt2 : (pt == pt) = true := by simp
  have hok2 : (ok == ok) = true := by simp
  go_wp2_with fail; refine (laws_lzMap A3 A2 L.length L.length L.length cA2 L L _ hC3 (Kd.C_below hC2 hb3)).mono ?_; rintro r w4 ⟨rfl, hb4⟩
  rw [show decide (L = L) = true from decide_eq_true rfl]
  have hz4 := hb4.size
  replace bk := (hb4.block _ (by omega)).trans bk
  have hB4 : Below w.heap.size w w4 := below_step (below_step (below_step hB hb2) hb3) hb4
  cases ok
  · go_wp2_with fail; refine (laws_lzMap A3 A2 L.length L.length L.length cA2 L L _ (Kd.C_below hC3 hb4) (Kd.C_below hC2 (below_step hb3 hb4))).mono ?_; rintro r w5 ⟨rfl, hb5⟩
    rw [show decide (L = L) = true from decide_eq_true rfl]
    go_wp2
    go_ret
    exact ⟨rfl, below_step hB4 hb5⟩
  · obtain ⟨hkL, hin, hagain, hge, hle, htake, hp1, hp2⟩ := mapOut_ok hF
    have hC4 := Kd.C_below hC3 hb4
    go_wp2_with fail; refine (impl_MapIn A3 L.length L.length L pt w4 hC4 (by omega) (Nat.le_refl _)).mono ?_; rintro r w5 ⟨rfl, hb5⟩
    rw [mapIn_eq L pt, hin]
    have hz5 := hb5.size
    replace bk := (hb5.block _ (by omega)).trans bk
    go_upto_region 9 with fail
    obtain ⟨wc, hwc, hbc, bk2, hzc⟩ := alloc_as w5 (.cells #[.int .i64 q.addr, .int .i64 q.port] 32)
    rw [← hwc]
    clear hwc
    have hzc2 := hbc.size
    replace bk := (hbc.block _ (by omega)).trans bk
    have c0 : _ = some _ := (blk_cell bk 0).trans rfl
    have c1 : _ = some _ := (blk_cell bk 1).trans rfl
    have hb4c : Below w4.heap.size w4 wc := below_step hb5 hbc
    have I2 := Aside0.mk (impl_MapOut A3 L.length L.length L q wc (Kd.C_below hC4 hb4c) (by omega) (Nat.le_refl _))
    rw [hagain] at I2
    go_wp2_with fail; refine (I2.out).mono ?_; rintro r w6 ⟨v6, rfl, hL6, hb6⟩
    obtain ⟨A6, rfl, hC6⟩ := hL6.reads
    have hz6 := hb6.size
    replace bk := (hb6.block _ (by omega)).trans bk
    replace bk2 := (hb6.block _ (by omega)).trans bk2
    have c0 : _ = some _ := (blk_cell bk 0).trans rfl
    have c1 : _ = some _ := (blk_cell bk 1).trans rfl
    have e0 : _ = some _ := (blk_cell bk2 0).trans rfl
    have e1 : _ = some _ := (blk_cell bk2 1).trans rfl
    have hqq : (q.addr == q.addr && (q.port == q.port)) = true := by simp
    have hb46 : Below w4.heap.size w4 w6 := below_step hb4c hb6
    go_wp2_with fail; refine (laws_lzMap A6 A3 L.length L.length L.length L.length L L _ hC6 (Kd.C_below hC4 hb46)).mono ?_; rintro r w7 ⟨rfl, hb7⟩
    rw [show decide (L = L) = true from decide_eq_true rfl]
    have hb47 : Below w4.heap.size w4 w7 := below_step hb46 hb7
    have s1 : decide ((L.length : Int) ≥ (m.length : Int)) = true := decide_eq_true (by omega)
    have s2 : decide ((m.length : Int) ≤ (L.length : Int)) = true := decide_eq_true (by omega)
    have s3 : decide ((L.length : Int) ≤ (m.length : Int) + 1) = true := decide_eq_true (by omega)
    have s4 : (m.length : Int) ≤ (L.length : Int) := by omega
    have s5 : (0 : Int) ≤ (m.length : Int) := by omega
    have s6 : (m.length : Int) + 1 ≤ 9223372036854775807 := by omega
    have hTk := Aside0.mk (C_take' (Kd.C_below hC4 hb47) hge)
    rw [htake] at hTk
    have hb17 : Below w1.heap.size w1 w7 := below_step (below_step (below_step (below_step hbb hb2) hb3) hb4) hb47
    cases A3 with
    | none =>
      have hL0 : L.length = 0 := by
        by_cases hp : 0 < L.length
        · obtain ⟨ad, h2, _⟩ := hC4.2.2 hp
          cases h2
        · omega
      exfalso
      have : 0 < L.length := by
        have h4 := hin
        unfold mapInO l3InO at h4
        rw [if_pos hkL] at h4
        split at h4
        · omega
        · cases h4
      omega
    | some ad3 =>
      go_wp2_with fail; refine (laws_lzMap (some ad3) Am m.length m.length L.length cm m m _ hTk.out (Kd.C_below hCm hb17)).mono ?_; rintro r w8 ⟨rfl, hb8⟩
      rw [show decide (m = m) = true from decide_eq_true rfl]
      go_wp2_with fail; refine (impl_MapOk (some ad3) L.length L.length L _ (Kd.C_below hC4 (below_step hb47 hb8)) (by omega) (Nat.le_refl _)).mono ?_; rintro r w9 ⟨rfl, hb9⟩
      rw [hkL]
      go_wp2
      go_ret
      exact ⟨rfl, below_step (below_step (below_step hB4 hb47) hb8) hb9⟩
end Go.Proofs.Ytdmbbocjaagfkaa.Z
