/- The law FnMapMany: as many ends have ports as there are. -/
import Derived.Test.YtdmbbocjaagfkaaDf
import Derived.Test.YtdmbbocjaagfkaaMo
import Derived.Test.YtdmbbocjaagfkaaLaFnMapIn
namespace Go.Proofs.Ytdmbbocjaagfkaa.Z
open Go.RowKit Go.Proofs.YtdmbbocjaagfkaaW.PrintWords Go.Proofs.YtdmbbocjaagfkaaW.PrintLast
set_option linter.unusedVariables false
set_option linter.unusedSimpArgs false
attribute [local go_sem high] eqEn eqPr

/-- The k-th end inside. -/
def endAt (k : Nat) : En := ⟨1 + ((k % 3 : Nat) : Int), 1 + ((k / 3 : Nat) : Int)⟩
theorem endAt_in (k : Nat) (h : k < 27) : insideB (endAt k) = true := by
  unfold insideB inB endAt
  simp
  omega
theorem pigeons : ∀ (E Y : List En), E.Nodup → (∀ x ∈ E, x ∈ Y) → E.length ≤ Y.length
  | [], _, _, _ => Nat.zero_le _
  | a :: E, Y, hn, hs => by
    obtain ⟨h1, h2⟩ := List.nodup_cons.1 hn
    have ha := hs a (List.mem_cons_self ..)
    have := pigeons E (Y.erase a) h2 (fun x hx => (List.mem_erase_of_ne (fun e => h1 (by rw [← e]; exact hx))).2 (hs x (List.mem_cons_of_mem _ hx)))
    rw [List.length_erase_of_mem ha] at this
    have hp : 0 < Y.length := List.length_pos_of_mem ha
    rw [List.length_cons]
    omega
theorem nine_ends : ∀ r : Fin 27, ((List.range 9).map (fun i => endAt ((i + r.val) % 27))).Nodup := by decide
theorem full_of_ends {Y : List Pr} {n2 : Nat} (h : ∀ j, j < 27 → ∃ p ∈ Y, p.inside = endAt ((j + n2) % 27)) : 8 < Y.length := by
  have h1 := nine_ends ⟨n2 % 27, Nat.mod_lt _ (by decide)⟩
  have h2 := pigeons _ (Y.map (·.inside)) h1 (fun x hx => by
    obtain ⟨i, hi, rfl⟩ := List.mem_map.1 hx
    obtain ⟨p, hp, he⟩ := h i (by have := List.mem_range.1 hi; omega)
    rw [show (i + n2 % 27) % 27 = (i + n2) % 27 from by omega, ← he]
    exact List.mem_map_of_mem hp)
  rw [List.length_map, List.length_map, List.length_range] at h2
  omega
/-- One end more. -/
theorem many_step {Y L : List Pr} {e : En} {pt : Int} {ok : Bool} (hk : mapOkB Y = true) (hi : insideB e = true) (h : mapOutF Y e = (L, pt, ok)) :
    mapOkB L = true ∧ (ok = false → Y.length = 8) ∧ (∀ p ∈ Y, p ∈ L) ∧ (8 ≤ L.length ∨ ∃ p ∈ L, p.inside = e) ∧ Y.length ≤ L.length := by
  have h8 := (mapOkB_iff.1 hk).2
  rw [mapOutF_of hk hi, outS_of] at h
  cases hf : outAt Y e 0 with
  | some p =>
    rw [hf] at h
    simp only [Prod.mk.injEq] at h
    obtain ⟨rfl, rfl, rfl⟩ := h
    obtain ⟨he, k, hkl, hp⟩ := outAt_some hf
    refine ⟨hk, by simp, fun p hp => hp, .inr ⟨p, ?_, he⟩, Nat.le_refl _⟩
    rw [← hp, List.getD_eq_getElem?_getD, List.getElem?_eq_getElem hkl]
    exact List.getElem_mem _
  | none =>
    rw [hf] at h
    simp only at h
    split at h
    · simp only [Prod.mk.injEq] at h
      obtain ⟨rfl, rfl, rfl⟩ := h
      exact ⟨hk, fun _ => by omega, fun p hp => hp, .inl (by omega), Nat.le_refl _⟩
    · rename_i h7
      simp only [Prod.mk.injEq] at h
      obtain ⟨rfl, rfl, rfl⟩ := h
      exact ⟨mapOkB_snoc hk hi h7 hf, by simp, fun p hp => List.mem_append_left _ hp, .inr ⟨⟨10 + Y.length, e⟩, by simp, rfl⟩, by simp⟩

set_option maxHeartbeats 4000000 in
theorem law_FnMapMany (A : Option Addr) (n c : Nat) (bs : List Int) (A2 : Option Addr) (n2 c2 : Nat) (bs2 : List Int) (w : World) (hC : Kd.C (Kd.int .u8) w A n bs) (hc : n ≤ c) (hg : ∀ x ∈ bs, byteOk x) (hC2x : Kd.C (Kd.int .u8) w A2 n2 bs2) (hc2 : n2 ≤ c2) (hg2 : ∀ x ∈ bs2, byteOk x) :
    Calls Try.prog 7 #[.slice A n c, .slice A2 n2 c2] w fun r w' => r = .returned (.bool true) ∧ Below w.heap.size w w' := by
  have hm := max_len hC
  have hm2 := max_len hC2x
  have HC := Aside0.mk hC; clear hC
  by_cases h : (n : Int) > 1048576
  · have t1 : decide ((n : Int) > 1048576) = true := decide_eq_true h
    have t2 : decide ((1048576 : Int) < (n : Int)) = true := decide_eq_true (by omega)
    go_enter Try.func7, Try.ntmps7
    go_wp2
    go_ret
    exact ⟨rfl, Below.refl _ _⟩
  have t1 : decide ((n : Int) > 1048576) = false := decide_eq_false h
  have t2 : decide ((1048576 : Int) < (n : Int)) = false := decide_eq_false (by omega)
  by_cases h2 : (n2 : Int) > 1048576
  · have t3 : decide ((n2 : Int) > 1048576) = true := decide_eq_true h2
    have t4 : decide ((1048576 : Int) < (n2 : Int)) = true := decide_eq_true (by omega)
    go_enter Try.func7, Try.ntmps7
    go_wp2
    go_ret
    exact ⟨rfl, Below.refl _ _⟩
  have t3 : decide ((n2 : Int) > 1048576) = false := decide_eq_false h2
  have t4 : decide ((1048576 : Int) < (n2 : Int)) = false := decide_eq_false (by omega)
  go_enter Try.func7, Try.ntmps7
  go_wp2_with fail; refine (spec_DrawMapOut A n c bs w HC.out (bytes_le hg) hc).mono ?_; rintro r w1 ⟨v1, m, q, rfl, hW1, hl1, hb1⟩
  obtain ⟨Am, cm, he, hlc, hCm⟩ := hW1.reads
  subst he
  clear t1 t2 t3 t4
  go_upto_region 4 with fail
  obtain ⟨wb, hwb, hbb, bk, hzb⟩ := alloc_as w1 (.cells #[.int .i64 q.addr, .int .i64 q.port] 32)
  rw [← hwb]
  clear hwb
  have hB : Below w.heap.size w wb := below_step hb1 hbb
  have hCb := Kd.C_below hCm hbb
  have c0 : _ = some _ := (blk_cell bk 0).trans rfl
  have c1 : _ = some _ := (blk_cell bk 1).trans rfl
  obtain ⟨L, pt, ok, hF⟩ : ∃ L pt ok, mapOutF m q = (L, pt, ok) := ⟨_, _, _, rfl⟩
  have hL : L.length ≤ 12 := by
    have h1 : (mapOutF m q).1.length ≤ m.length + 1 := by
      unfold mapOutF; split
      · exact outS_len m q
      · simp
    rw [hF] at h1; simp only at h1; omega
  have SP := Aside0.mk (spec_MapOut Am m.length cm m q wb hCb (by omega))
  rw [hF] at SP
  go_wp2_with fail; refine (SP.out).mono ?_; rintro r w2 ⟨v2, rfl, hR2, hb2⟩
  obtain ⟨Ax, cAx, rfl, hl2, hC2⟩ := Kd.R_reads hR2
  have hz2 := hb2.size
  replace bk := (hb2.block _ hzb).trans bk
  have c0 : _ = some _ := (blk_cell bk 0).trans rfl
  have c1 : _ = some _ := (blk_cell bk 1).trans rfl
  have IM := Aside0.mk (impl_MapOut Am m.length cm m q w2 (Kd.C_below hCb hb2) (by omega) hlc)
  rw [hF] at IM
  go_wp2_with fail; refine (IM.out).mono ?_; rintro r w3 ⟨v3, rfl, hL3, hb3⟩
  obtain ⟨A3, rfl, hC3⟩ := hL3.reads
  have hz3 := hb3.size
  replace bk := (hb3.block _ (by omega)).trans bk
  have hpt : (pt != pt) = false := by simp
  have hok : (ok != ok) = false := by simp
  have hpt2 : (pt == pt) = true := by simp
  have hok2 : (ok == ok) = true := by simp
  go_wp2_with fail; refine (laws_lzMap A3 Ax L.length L.length L.length cAx L L _ hC3 (Kd.C_below hC2 hb3)).mono ?_; rintro r w4 ⟨rfl, hb4⟩
  rw [show decide (L = L) = true from decide_eq_true rfl]
  have hz4 := hb4.size
  replace bk := (hb4.block _ (by omega)).trans bk
  have hB4 : Below w.heap.size w w4 := below_step (below_step (below_step hB hb2) hb3) hb4
  go_wp2_with fail; refine (spec_MapOk Am m.length cm m _ (Kd.C_below hCb (below_step (below_step hb2 hb3) hb4)) (by omega)).mono ?_; rintro r w5 ⟨rfl, hb5⟩
  have hz5 := hb5.size
  cases hk : mapOkB m
  · go_wp2_with fail; refine (laws_lzMap A3 Ax L.length L.length L.length cAx L L _ (Kd.C_below hC3 (below_step hb4 hb5)) (Kd.C_below hC2 (below_step hb3 (below_step hb4 hb5)))).mono ?_; rintro r w7 ⟨rfl, hb7⟩
    rw [show decide (L = L) = true from decide_eq_true rfl]
    go_wp2
    go_ret
    exact ⟨rfl, below_step (below_step hB4 hb5) hb7⟩
  · have hB5 := below_step hB4 hb5
    have HK := Aside0.mk hk; clear hk
    have hC5 := Kd.C_below hCb (below_step (below_step (below_step hb2 hb3) hb4) hb5)
    clear hF hC3 hC2 hCb hCm SP IM hL3 hR2 bk
    go_upto_region 9 with (first | ((with_reducible refine gate_dst (N := 80) rfl ?_); refine Kd.R_lit kPr _ 34 ?hg (N := 80) ?hd (xs := ([] : List Pr)) (inner := []) (ok := fun _ => True) (okp := fun _ => True) ?hr ?hp (fun _ hk => hk) trivial (Below.refl _ _) (by first | exact Nat.le_refl _ | omega) (by simp) ?_; (case hd => rfl); (case hg => rfl); (case hr => first | (go_simp; done) | (go_simp; rfl)); (case hp => exact (Reps.none _ _)); intro v6 w6 ho6 hb6 _ _) | (at_builtin; refine Kd.R_append_rows kPr (w0 := _) _ rfl (.tmp 80) (.tmp 81) 25 34 (.agg #[(.int .i64 0), (.int .i64 0), (.int .i64 0)]) 24 rfl Try.underlying25 infoPr rfl (by decide) (by omega) v6 [] m Am m.length cm (fun _ => True) (fun _ => False) rfl rfl ho6 (Kd.C_below hC5 hb6) (fun _ _ h => h) (fun _ h => h.elim) (fun _ _ => trivial) hb6 (by first | exact Nat.le_refl _ | exact Below.size hb6 | omega) (by simp; omega) ?_; intro v7 w7 ho7 hb7 _ _))
    rw [List.nil_append] at ho7
    obtain ⟨A7, c7, hv7, hl7, hC7⟩ := Kd.R_reads ho7
    subst hv7
    have hB7 := below_step hB5 hb7
    clear ho6 ho7
    go_wp2
    go_loopw [15, 13] (fun i y w' => ∃ (k : Nat) (A : Option Addr) (c : Nat) (Y : List Pr), k ≤ 27 ∧ i = .int .i64 k ∧ y = .slice A Y.length c ∧ Y.length ≤ c ∧ Aside0 (Kd.C kPr w' A Y.length Y) ∧ Aside0 (mapOkB Y = true) ∧ Aside0 (8 ≤ Y.length ∨ ∀ j, j < k → ∃ p ∈ Y, p.inside = endAt ((j + n2) % 27)) ∧ Below w7.heap.size w7 w') (fun i y _ => 27 - (intOf i).toNat)
    case atStart => exact ⟨0, A7, c7, m, Nat.zero_le _, rfl, rfl, hl7, ⟨hC7⟩, HK, ⟨.inr (fun j hj => absurd hj (Nat.not_lt_zero _))⟩, Below.refl _ _⟩
    case round =>
      obtain ⟨k, Ay, cy, Y, hk2, rfl, rfl, hly, HCY, HY, HE, hb⟩ := hrel
      have hY8 := (mapOkB_iff.1 HY.out).2
      by_cases hlt : k < 27
      · obtain ⟨K, hK⟩ : ∃ K, (k + n2) % 27 = K := ⟨_, rfl⟩
        have hKl : K < 27 := by rw [← hK]; exact Nat.mod_lt _ (by decide)
        have hKe : ((k : Int) + (n2 : Int)) % 27 = (K : Int) := by omega
        have s1 : (k : Int) + (n2 : Int) ≤ 9223372036854775807 := by omega
        have hi := endAt_in K hKl
        obtain ⟨e, hee⟩ : ∃ e, e = endAt K := ⟨_, rfl⟩
        have e1 : e.addr = 1 + (K : Int) % 3 := by rw [hee]; show (1 : Int) + ((K % 3 : Nat) : Int) = _; omega
        have e2 : e.port = 1 + (K : Int) / 3 := by rw [hee]; show (1 : Int) + ((K / 3 : Nat) : Int) = _; omega
        obtain ⟨L2, pt2, ok2, hF2⟩ : ∃ L pt ok, mapOutF Y e = (L, pt, ok) := ⟨_, _, _, rfl⟩
        rw [← hee] at hi
        obtain ⟨hm1, hm2', hm3, hm4, hm5⟩ := many_step HY.out hi hF2
        have IM2 := Aside0.mk (impl_MapOut Ay Y.length cy Y e wr HCY.out (by omega) hly)
        rw [hF2] at IM2
        clear hF2
        unfold vEn at IM2
        rw [e1, e2] at IM2
        go_wp2_with fail; refine (IM2.out).mono ?_; rintro r w8 ⟨v8, rfl, hL8, hb8⟩
        obtain ⟨A8, rfl, hC8⟩ := hL8.reads
        have HN := Aside0.mk (show 8 ≤ L2.length ∨ ∀ j, j < k + 1 → ∃ p ∈ L2, p.inside = endAt ((j + n2) % 27) from by
          rcases HE.out with h8 | hall
          · left; omega
          · rcases hm4 with h8 | ⟨p, hp, hpe⟩
            · left; exact h8
            · right
              intro j hj
              rcases Nat.lt_succ_iff_lt_or_eq.1 hj with h9 | h9
              · obtain ⟨p2, hp2, hpe2⟩ := hall j h9
                exact ⟨p2, hm3 p2 hp2, hpe2⟩
              · subst h9
                exact ⟨p, hp, by rw [hpe, hee, hK]⟩)
        have hbn := below_step hb hb8
        clear hm3 hm4 HE HCY HY IM2 e1 e2
        cases ok2
        · have h8 := hm2' rfl
          have s2 : decide ((Y.length : Int) < 8) = false := decide_eq_false (by omega)
          clear hm2'
          go_wp2
          go_roundw
          case rel => exact ⟨k + 1, A8, L2.length, L2, by omega, by go_num, rfl, Nat.le_refl _, ⟨hC8⟩, ⟨hm1⟩, HN, hbn⟩
          case measure => simp [intOf]; omega
        · clear hm2'
          go_wp2
          go_roundw
          case rel => exact ⟨k + 1, A8, L2.length, L2, by omega, by go_num, rfl, Nat.le_refl _, ⟨hC8⟩, ⟨hm1⟩, HN, hbn⟩
          case measure => simp [intOf]; omega
      · obtain rfl : k = 27 := by omega
        have hl8 : Y.length = 8 := by
          rcases HE.out with h8 | hall
          · omega
          · have := full_of_ends hall; omega
        have s2 : ((Y.length : Int) == 8) = true := beq_iff_eq.2 (by omega)
        clear hl8
        clear HE
        go_wp2_with fail; refine (impl_MapOk Ay Y.length cy Y _ HCY.out (by omega) hly).mono ?_; rintro r w8 ⟨rfl, hb8⟩
        rw [HY.out]
        go_wp2
        go_ret
        exact ⟨rfl, below_step (below_step hB7 hb) hb8⟩
end Go.Proofs.Ytdmbbocjaagfkaa.Z
