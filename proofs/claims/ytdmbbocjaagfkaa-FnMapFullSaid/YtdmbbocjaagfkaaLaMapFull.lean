/- The law FnMapFull: a door has so many ports. -/
import Derived.Test.YtdmbbocjaagfkaaDf
import Derived.Test.YtdmbbocjaagfkaaMo
import Derived.Test.YtdmbbocjaagfkaaLaFnMapIn
namespace Go.Proofs.Ytdmbbocjaagfkaa.Z
open Go.RowKit Go.Proofs.YtdmbbocjaagfkaaW.PrintWords Go.Proofs.YtdmbbocjaagfkaaW.PrintLast
set_option linter.unusedVariables false
set_option linter.unusedSimpArgs false
attribute [local go_sem high] eqEn eqPr

theorem any_step {m : List Pr} {e : En} {k : Nat} {p : Pr} (h : k < m.length) (hp : Aside0 (m.getD k zPr = p)) : (m.take (k + 1)).any (fun p => decide (p.inside = e)) = ((m.take k).any (fun p => decide (p.inside = e)) || decide (p.inside = e)) := by
  obtain rfl := hp.out
  rw [List.take_add_one, List.any_append, List.getD_eq_getElem?_getD, List.getElem?_eq_getElem h]
  simp
theorem any_outAt (m : List Pr) (e : En) : m.any (fun p => decide (p.inside = e)) = (outAt m e 0).isSome := by
  show _ = (m.find? _).isSome
  rw [Bool.eq_iff_iff, List.any_eq_true, List.find?_isSome]
/-- Whether there was room, plainly. -/
theorem mapOut_full {m L : List Pr} {e : En} {pt : Int} {ok : Bool} (h : mapOutF m e = (L, pt, ok)) (hk : mapOkB m = true) (hi : insideB e = true) :
    ok = (m.any (fun p => decide (p.inside = e)) || decide ((m.length : Int) < 8)) ∧ (ok = false → L = m) := by
  rw [any_outAt]
  rw [mapOutF_of hk hi, outS_of] at h
  cases hf : outAt m e 0 with
  | some p =>
    rw [hf] at h
    simp only [Prod.mk.injEq] at h
    obtain ⟨_, _, rfl⟩ := h
    simp
  | none =>
    rw [hf] at h
    simp only at h
    split at h
    · simp only [Prod.mk.injEq] at h
      obtain ⟨rfl, _, rfl⟩ := h
      refine ⟨?_, fun _ => rfl⟩
      simp; omega
    · simp only [Prod.mk.injEq] at h
      obtain ⟨_, _, rfl⟩ := h
      simp; omega

set_option maxHeartbeats 4000000 in
theorem law_FnMapFull (A : Option Addr) (n c : Nat) (bs : List Int) (w : World) (hC : Kd.C (Kd.int .u8) w A n bs) (hc : n ≤ c) (hg : ∀ x ∈ bs, byteOk x) :
    Calls Try.prog 8 #[.slice A n c] w fun r w' => r = .returned (.bool true) ∧ Below w.heap.size w w' := by
  have hm := max_len hC
  have HC := Aside0.mk hC; clear hC
  by_cases h : (n : Int) > 1048576
  · have t1 : decide ((n : Int) > 1048576) = true := decide_eq_true h
    have t2 : decide ((1048576 : Int) < (n : Int)) = true := decide_eq_true (by omega)
    go_enter Try.func8, Try.ntmps8
    go_wp2
    go_ret
    exact ⟨rfl, Below.refl _ _⟩
  have t1 : decide ((n : Int) > 1048576) = false := decide_eq_false h
  have t2 : decide ((1048576 : Int) < (n : Int)) = false := decide_eq_false (by omega)
  go_enter Try.func8, Try.ntmps8
  go_wp2_with fail; refine (spec_DrawMapOut A n c bs w HC.out (bytes_le hg) hc).mono ?_; rintro r w1 ⟨v1, m, q, rfl, hW1, hl1, hb1⟩
  obtain ⟨Am, cm, he, hlc, hCm⟩ := hW1.reads
  subst he
  clear t1 t2
  go_upto_region 4 with fail
  obtain ⟨wb, hwb, hbb, bk, hzb⟩ := alloc_as w1 (.cells #[.int .i64 q.addr, .int .i64 q.port] 32)
  rw [← hwb]
  clear hwb
  have hB : Below w.heap.size w wb := below_step hb1 hbb
  have hCb := Kd.C_below hCm hbb
  have c0 : _ = some _ := (blk_cell bk 0).trans rfl
  have c1 : _ = some _ := (blk_cell bk 1).trans rfl
  obtain ⟨L, pt, ok, hF⟩ : ∃ L pt ok, mapOutF m q = (L, pt, ok) := ⟨_, _, _, rfl⟩
  have hL : L.length ≤ 12 := by
    have h1 : (mapOutF m q).1.length ≤ m.length + 1 := by
      unfold mapOutF; split
      · exact outS_len m q
      · simp
    rw [hF] at h1; simp only at h1; omega
  have SP := Aside0.mk (spec_MapOut Am m.length cm m q wb hCb (by omega))
  rw [hF] at SP
  go_wp2_with fail; refine (SP.out).mono ?_; rintro r w2 ⟨v2, rfl, hR2, hb2⟩
  obtain ⟨A2, cA2, rfl, hl2, hC2⟩ := Kd.R_reads hR2
  have hz2 := hb2.size
  replace bk := (hb2.block _ hzb).trans bk
  have c0 : _ = some _ := (blk_cell bk 0).trans rfl
  have c1 : _ = some _ := (blk_cell bk 1).trans rfl
  have IM := Aside0.mk (impl_MapOut Am m.length cm m q w2 (Kd.C_below hCb hb2) (by omega) hlc)
  rw [hF] at IM
  go_wp2_with fail; refine (IM.out).mono ?_; rintro r w3 ⟨v3, rfl, hL3, hb3⟩
  obtain ⟨A3, rfl, hC3⟩ := hL3.reads
  have hz3 := hb3.size
  replace bk := (hb3.block _ (by omega)).trans bk
  have hpt : (pt != pt) = false := by simp
  have hok : (ok != ok) = false := by simp
  have hpt2 : (pt == pt) = true := by simp
  have hok2 : (ok == ok) = true := by simp
  go_wp2_with fail; refine (laws_lzMap A3 A2 L.length L.length L.length cA2 L L _ hC3 (Kd.C_below hC2 hb3)).mono ?_; rintro r w4 ⟨rfl, hb4⟩
  rw [show decide (L = L) = true from decide_eq_true rfl]
  have hz4 := hb4.size
  replace bk := (hb4.block _ (by omega)).trans bk
  have hB4 : Below w.heap.size w w4 := below_step (below_step (below_step hB hb2) hb3) hb4
  go_wp2_with fail; refine (spec_MapOk Am m.length cm m _ (Kd.C_below hCb (below_step (below_step hb2 hb3) hb4)) (by omega)).mono ?_; rintro r w5 ⟨rfl, hb5⟩
  have hz5 := hb5.size
  replace bk := (hb5.block _ (by omega)).trans bk
  have c0 : _ = some _ := (blk_cell bk 0).trans rfl
  have c1 : _ = some _ := (blk_cell bk 1).trans rfl
  cases hk : mapOkB m
  · go_wp2_with fail; refine (laws_lzMap A3 A2 L.length L.length L.length cA2 L L _ (Kd.C_below hC3 (below_step hb4 hb5)) (Kd.C_below hC2 (below_step hb3 (below_step hb4 hb5)))).mono ?_; rintro r w7 ⟨rfl, hb7⟩
    rw [show decide (L = L) = true from decide_eq_true rfl]
    go_wp2
    go_ret
    exact ⟨rfl, below_step (below_step hB4 hb5) hb7⟩
  · go_wp2_with fail; refine (spec_EndInside q _).mono ?_; rintro r w6 ⟨rfl, hb6⟩
    have hz6 := hb6.size
    replace bk := (hb6.block _ (by omega)).trans bk
    have c0 : _ = some _ := (blk_cell bk 0).trans rfl
    have c1 : _ = some _ := (blk_cell bk 1).trans rfl
    have hb46 : Below w4.heap.size w4 w6 := below_step hb5 hb6
    have hB6 : Below w.heap.size w w6 := below_step hB4 hb46
    cases hi : insideB q
    · go_wp2_with fail; refine (laws_lzMap A3 A2 L.length L.length L.length cA2 L L _ (Kd.C_below hC3 (below_step hb4 hb46)) (Kd.C_below hC2 (below_step hb3 (below_step hb4 hb46)))).mono ?_; rintro r w7 ⟨rfl, hb7⟩
      rw [show decide (L = L) = true from decide_eq_true rfl]
      go_wp2
      go_ret
      exact ⟨rfl, below_step (hB6) hb7⟩
    · obtain ⟨hfull, hsame⟩ := mapOut_full hF hk hi
      have HFL := Aside0.mk hfull; clear hfull
      have HSM := Aside0.mk hsame; clear hsame
      have HPT := Aside0.mk (show ok = true → 10 ≤ pt ∧ pt ≤ 17 from fun e => by subst e; obtain ⟨_, _, _, _, _, _, h1, h2⟩ := mapOut_ok hF; exact ⟨h1, h2⟩)
      have HC6 := Aside0.mk (Kd.C_below hCb (below_step (below_step (below_step hb2 hb3) hb4) hb46))
      have HL6 := Aside0.mk (Kd.C_below hC3 (below_step hb4 hb46))
      clear hF hC3 hC2 hCb hCm SP IM hL3 hR2
      go_wp2
      go_loopw [12, 11] (fun i x w' => ∃ (k : Nat) (b : Bool), k ≤ m.length ∧ i = .int .i64 k ∧ x = .bool b ∧ Aside0 ((m.take k).any (fun p => decide (p.inside = q)) = b) ∧ Below w6.heap.size w6 w') (fun i x _ => m.length - (intOf i).toNat)
      case atStart => exact ⟨0, false, Nat.zero_le _, rfl, rfl, ⟨by simp⟩, Below.refl _ _⟩
      case round =>
        obtain ⟨k, b, hk2, rfl, rfl, HP, hb⟩ := hrel
        replace bk := (hb.block _ (by omega)).trans bk
        have c0 : _ = some _ := (blk_cell bk 0).trans rfl
        have c1 : _ = some _ := (blk_cell bk 1).trans rfl
        by_cases hlt : k < m.length
        · obtain ⟨ad, p, hA, hp, dL, d0, d1, d2⟩ := at_Pr (Kd.C_below HC6.out hb) k hlt
          cases hA
          have hk0 : (0 : Int) ≤ (k : Int) := Int.natCast_nonneg _
          have hk1 : (k : Int) < (m.length : Int) := by omega
          have HS := any_step (e := q) hlt hp
          rw [HP.out] at HS
          cases b
          · by_cases he : p.inside = q
            · have ht := En_beq he
              rw [decide_eq_true he] at HS
              have HS := Aside0.mk HS
              clear he
              go_wp2
              go_quiet (fail)
              go_wp2
              go_roundw
              case rel => exact ⟨k + 1, true, by omega, by go_num, rfl, HS, (by repeat (first | (with_reducible exact hb) | (with_reducible apply below_alloc) | (with_reducible apply pw_below_drewN) | (with_reducible apply below_drew1) | with_reducible refine below_set ?_ (by first | (with_reducible exact Nat.le_refl _) | (with_reducible assumption) | (simp; done) | omega | (simp; omega))))⟩
              case measure => simp [intOf]; omega
            · have ht := En_bne he
              rw [decide_eq_false he] at HS
              have HS := Aside0.mk HS
              clear he
              go_wp2
              go_quiet (fail)
              go_wp2
              go_roundw
              case rel => exact ⟨k + 1, false, by omega, by go_num, rfl, HS, (by repeat (first | (with_reducible exact hb) | (with_reducible apply below_alloc) | (with_reducible apply pw_below_drewN) | (with_reducible apply below_drew1) | with_reducible refine below_set ?_ (by first | (with_reducible exact Nat.le_refl _) | (with_reducible assumption) | (simp; done) | omega | (simp; omega))))⟩
              case measure => simp [intOf]; omega
          · rw [Bool.true_or] at HS
            have HS := Aside0.mk HS
            go_wp2
            go_quiet (fail)
            go_wp2
            go_roundw
            case rel => exact ⟨k + 1, true, by omega, by go_num, rfl, HS, (by repeat (first | (with_reducible exact hb) | (with_reducible apply below_alloc) | (with_reducible apply pw_below_drewN) | (with_reducible apply below_drew1) | with_reducible refine below_set ?_ (by first | (with_reducible exact Nat.le_refl _) | (with_reducible assumption) | (simp; done) | omega | (simp; omega))))⟩
            case measure => simp [intOf]; omega
        · obtain rfl : k = m.length := by omega
          have hfl := HFL.out
          have hP := HP.out
          rw [List.take_length] at hP
          rw [hP] at hfl
          have hBf := below_step hB6 hb
          cases ok
          · have hb0 : b = false := by
              cases b
              · rfl
              · simp at hfl
            subst hb0
            have h8 : decide ((m.length : Int) < 8) = false := by rw [Bool.false_or] at hfl; exact hfl.symm
            have hLm := HSM.out rfl
            subst hLm
            clear hfl hP
            go_wp2_with fail; refine (laws_lzMap A3 Am L.length L.length L.length cm L L _ (Kd.C_below HL6.out hb) (Kd.C_below HC6.out hb)).mono ?_; rintro r w7 ⟨rfl, hb7⟩
            rw [show decide (L = L) = true from decide_eq_true rfl]
            go_wp2
            go_ret
            exact ⟨rfl, below_step hBf hb7⟩
          · obtain ⟨p1, p2⟩ := HPT.out rfl
            have hin : inB pt 10 17 = true := by unfold inB; simp; omega
            cases b
            · have h8 : decide ((m.length : Int) < 8) = true := by rw [Bool.false_or] at hfl; exact hfl.symm
              clear hfl hP
              go_wp2_with fail; refine (impl_EndDoor ⟨9, pt⟩ _).mono ?_; rintro r w7 ⟨rfl, hb7⟩
              rw [hin]
              go_wp2
              go_ret
              exact ⟨rfl, below_step hBf hb7⟩
            · clear hfl hP
              go_wp2_with fail; refine (impl_EndDoor ⟨9, pt⟩ _).mono ?_; rintro r w7 ⟨rfl, hb7⟩
              rw [hin]
              go_wp2
              go_ret
              exact ⟨rfl, below_step hBf hb7⟩
end Go.Proofs.Ytdmbbocjaagfkaa.Z
