/- The law FnMapLess: the first pairs are pairs; the later ones, and pairs with an end twice, are none. -/
import Derived.Test.YtdmbbocjaagfkaaDf
namespace Go.Proofs.Ytdmbbocjaagfkaa.Z
open Go.RowKit Go.Proofs.YtdmbbocjaagfkaaW.PrintWords Go.Proofs.YtdmbbocjaagfkaaW.PrintLast
set_option linter.unusedVariables false
set_option linter.unusedSimpArgs false

theorem mapOkB_take {m : List Pr} (h : mapOkB m = true) (k : Nat) (hk : k ≤ m.length) : mapOkB (m.take k) = true := by
  obtain ⟨h1, h2⟩ := mapOkB_iff.1 h
  have hl : (m.take k).length = k := by rw [List.length_take]; omega
  have hg : ∀ i, i < k → (m.take k).getD i zPr = m.getD i zPr := fun i hi => by
    rw [List.getD_eq_getElem?_getD, List.getD_eq_getElem?_getD, List.getElem?_take, if_pos hi]
  refine mapOkB_iff.2 ⟨fun i hi => ?_, by rw [hl]; omega⟩
  rw [hl] at hi
  obtain ⟨g1, g2, g3⟩ := h1 i (by omega)
  refine ⟨by rw [hg i hi]; exact g1, by rw [hg i hi]; exact g2, fun j hj => by rw [hg i hi, hg j (by omega)]; exact g3 j hj⟩
theorem mapOkB_tail {m : List Pr} (h : mapOkB m = true) (hk : 2 ≤ m.length) : mapOkB m.tail = false := by
  obtain ⟨h1, h2⟩ := mapOkB_iff.1 h
  refine mapOkB_no (k := 0) (by rw [List.length_tail]; omega) (fun hg => ?_)
  have e : m.tail.getD 0 zPr = m.getD 1 zPr := by
    match m, hk with
    | a :: b :: l, _ => rfl
  have g1 := hg.1
  rw [e, (h1 1 (by omega)).1] at g1
  omega
theorem mapOkB_twice {m : List Pr} (h : mapOkB m = true) (hk : 2 ≤ m.length) (k : Nat) (hlt : k < m.length) (x : Int) : mapOkB (m.set k ⟨x, (m.getD ((k + 1) % m.length) zPr).inside⟩) = false := by
  obtain ⟨j, hj⟩ : ∃ j, j = (k + 1) % m.length := ⟨_, rfl⟩
  rw [← hj]
  have hjl : j < m.length := by rw [hj]; exact Nat.mod_lt _ (by omega)
  have hne : j ≠ k := by
    rw [hj]
    rcases Nat.lt_or_ge (k + 1) m.length with h3 | h3
    · rw [Nat.mod_eq_of_lt h3]; omega
    · rw [show k + 1 = m.length from by omega, Nat.mod_self]; omega
  have e1 : (m.set k ⟨x, (m.getD j zPr).inside⟩).getD k zPr = ⟨x, (m.getD j zPr).inside⟩ := by
    rw [List.getD_eq_getElem?_getD, List.getElem?_set_self hlt]; rfl
  have e2 : (m.set k ⟨x, (m.getD j zPr).inside⟩).getD j zPr = m.getD j zPr := by
    rw [List.getD_eq_getElem?_getD, List.getD_eq_getElem?_getD, List.getElem?_set_ne (by omega)]
  rw [← Bool.not_eq_true]
  intro h4
  obtain ⟨h5, _⟩ := mapOkB_iff.1 h4
  rw [show okUpto (m.set k ⟨x, (m.getD j zPr).inside⟩) (m.set k ⟨x, (m.getD j zPr).inside⟩).length = okUpto (m.set k ⟨x, (m.getD j zPr).inside⟩) m.length from by rw [List.length_set]] at h5
  rcases Nat.lt_or_ge j k with h6 | h6
  · have := (h5 k hlt).2.2 j h6
    rw [e1, e2] at this
    exact this rfl
  · have := (h5 j hjl).2.2 k (by omega)
    rw [e1, e2] at this
    exact this rfl

set_option maxHeartbeats 4000000 in
theorem law_FnMapLess (A : Option Addr) (n c : Nat) (bs : List Int) (A2 : Option Addr) (n2 c2 : Nat) (bs2 : List Int) (w : World) (hC : Kd.C (Kd.int .u8) w A n bs) (hc : n ≤ c) (hg : ∀ x ∈ bs, byteOk x) (hC2 : Kd.C (Kd.int .u8) w A2 n2 bs2) (hc2 : n2 ≤ c2) (hg2 : ∀ x ∈ bs2, byteOk x) :
    Calls Try.prog 4 #[.slice A n c, .slice A2 n2 c2] w fun r w' => r = .returned (.bool true) ∧ Below w.heap.size w w' := by
  have hm := max_len hC
  have hm2 := max_len hC2
  have HC := Aside0.mk hC; clear hC
  by_cases h : (n : Int) > 1048576
  · have t1 : decide ((n : Int) > 1048576) = true := decide_eq_true h
    have t2 : decide ((1048576 : Int) < (n : Int)) = true := decide_eq_true (by omega)
    go_enter Try.func4, Try.ntmps4
    go_wp2
    go_ret
    exact ⟨rfl, Below.refl _ _⟩
  have t1 : decide ((n : Int) > 1048576) = false := decide_eq_false h
  have t2 : decide ((1048576 : Int) < (n : Int)) = false := decide_eq_false (by omega)
  by_cases h2 : (n2 : Int) > 1048576
  · have t3 : decide ((n2 : Int) > 1048576) = true := decide_eq_true h2
    have t4 : decide ((1048576 : Int) < (n2 : Int)) = true := decide_eq_true (by omega)
    go_enter Try.func4, Try.ntmps4
    go_wp2
    go_ret
    exact ⟨rfl, Below.refl _ _⟩
  have t3 : decide ((n2 : Int) > 1048576) = false := decide_eq_false h2
  have t4 : decide ((1048576 : Int) < (n2 : Int)) = false := decide_eq_false (by omega)
  go_enter Try.func4, Try.ntmps4
  go_wp2_with fail; refine (spec_DrawMapOk A n c bs w HC.out (bytes_le hg) hc).mono ?_; rintro r w1 ⟨v1, m, rfl, hW1, hl1, hb1⟩
  obtain ⟨Am, cm, he, hlc, hCm⟩ := hW1.reads
  subst he
  have hW1 := Aside0.mk hW1
  clear t1 t2 t3 t4
  go_wp2_with fail; refine (impl_MapOk Am m.length cm m w1 hCm (by omega) hlc).mono ?_; rintro r w2 ⟨rfl, hb2⟩
  have hB2 : Below w.heap.size w w2 := below_step hb1 hb2
  go_wp2_with fail; refine (spec_MapOk Am m.length cm m w2 (Kd.C_below hCm hb2) (by omega)).mono ?_; rintro r w3 ⟨rfl, hb3⟩
  have hB3 : Below w.heap.size w w3 := below_step hB2 hb3
  have hb13 : Below w1.heap.size w1 w3 := below_step hb2 hb3
  have hC3 := Kd.C_below hCm hb13
  cases hk : mapOkB m
  · go_wp2_with fail; refine (spec_MapOk Am m.length cm m w3 hC3 (by omega)).mono ?_; rintro r w4 ⟨rfl, hb4⟩
    rw [hk]
    go_wp2
    go_ret
    exact ⟨rfl, below_step hB3 hb4⟩
  · by_cases hl2 : (m.length : Int) < 2
    · have t1 : decide ((m.length : Int) < 2) = true := decide_eq_true hl2
      go_wp2_with fail; refine (spec_MapOk Am m.length cm m w3 hC3 (by omega)).mono ?_; rintro r w4 ⟨rfl, hb4⟩
      rw [hk]
      go_wp2
      go_ret
      exact ⟨rfl, below_step hB3 hb4⟩
    · have t1 : decide ((m.length : Int) < 2) = false := decide_eq_false hl2
      have hl3 : 2 ≤ m.length := by omega
      obtain ⟨K, hK⟩ : ∃ K, n2 % m.length = K := ⟨_, rfl⟩
      have hKl : K < m.length := by rw [← hK]; exact Nat.mod_lt _ (by omega)
      obtain ⟨J, hJ⟩ : ∃ J, (K + 1) % m.length = J := ⟨_, rfl⟩
      have hJl : J < m.length := by rw [← hJ]; exact Nat.mod_lt _ (by omega)
      have hKe : (n2 : Int) % (m.length : Int) = (K : Int) := by rw [← hK]; rfl
      have hJe : ((K : Int) + 1) % (m.length : Int) = (J : Int) := by rw [← hJ]; rfl
      have hne : ((m.length : Int) == 0) = false := beq_eq_false_iff_ne.2 (by omega)
      obtain ⟨b, off, hAm⟩ : ∃ b off, Am = some ⟨b, off, none⟩ := by
        obtain ⟨ad, h4, _⟩ := hCm.2.2 (by omega)
        obtain ⟨A', c', he, _, _, _, h5⟩ := hW1.out
        injection he with e1 e2 e3
        subst e1
        obtain ⟨b, off, h6, _⟩ := h5 ad h4
        exact ⟨b, off, by rw [h4, h6]⟩
      subst hAm
      have hW3 := Aside0.mk (hW1.out.below hb13)
      clear hW1 hl2
      have HM := Aside0.mk hk
      go_upto_region 9 with (first | ((with_reducible refine gate_dst (N := 43) rfl ?_); refine Kd.R_lit kPr _ 34 ?hg (N := 43) ?hd (xs := ([] : List Pr)) (inner := []) (ok := fun _ => True) (okp := fun _ => True) ?hr ?hp (fun _ hk => hk) trivial (Below.refl _ _) (by first | exact Nat.le_refl _ | omega) (by simp) ?_; (case hd => rfl); (case hg => rfl); (case hr => first | (go_simp; done) | (go_simp; rfl)); (case hp => exact (Reps.none _ _)); intro v5 w5 ho5 hb5 _ _) | (at_builtin; refine Kd.R_append_rows kPr (w0 := _) _ rfl (.tmp 43) (.tmp 44) 25 34 (.agg #[(.int .i64 0), (.int .i64 0), (.int .i64 0)]) 24 rfl Try.underlying25 infoPr rfl (by decide) (by omega) v5 [] m (some ⟨b, off, none⟩) m.length cm (fun _ => True) (fun _ => False) rfl rfl ho5 (Kd.C_below hC3 hb5) (fun _ _ h => h) (fun _ h => h.elim) (fun _ _ => trivial) hb5 (by first | exact Nat.le_refl _ | exact Below.size hb5 | omega) (by simp; omega) ?_; intro v6 w6 ho6 hb6 _ _))
      rw [List.nil_append] at ho6
      have hC6 := Kd.C_below hC3 hb6
      obtain ⟨ad, p, hA, hp, dL, d0, d1, d2⟩ := at_Pr hC6 J hJl
      cases hA
      obtain ⟨g, cap, hv, hg1, hg6, _⟩ := Kd.R_form ho6 (by omega)
      subst hv
      obtain ⟨y, x0, x1, x2, f0, f1, f2, HP⟩ := put_In ho6 K hKl p.inside
      have hB7 := (hb6.setCell hg1 (p := ⟨g, K * 3 + 1, none⟩) (.int .i64 p.inside.addr)).setCell hg1 (p := ⟨g, K * 3 + 2, none⟩) (.int .i64 p.inside.port)
      have hfin : mapOkB (m.set K ⟨y.port, p.inside⟩) = false := by
        rw [← hp.out, ← hJ]
        exact mapOkB_twice HM.out hl3 K hKl _
      have HT := Aside0.mk hfin; clear hfin
      obtain ⟨m2, hm2'⟩ : ∃ m2, m.set K ⟨y.port, p.inside⟩ = m2 := ⟨_, rfl⟩
      have hml : m2.length = m.length := by rw [← hm2', List.length_set]
      rw [hm2'] at HP HT
      clear hm2' hp
      simp only [Addr.add_lit] at d0 d1 d2
      have hcap : m.length ≤ cap := by have := (Kd.R_reads' ho6).2.1; omega
      have k1 : (K : Int) ≤ (m.length : Int) := by omega
      have k2 : (1 : Int) ≤ (m.length : Int) := by omega
      have k3 : (m.length : Int) ≤ (cm : Int) := by omega
      have hc1 : ¬ (cm = 1) := by omega
      go_wp2_with fail; refine (impl_MapOk (some ⟨b, off, none⟩) K cm (m.take K) _ (C_take' (Kd.C_below hC3 hB7) (Nat.le_of_lt hKl)) (by omega) (by omega)).mono ?_; rintro r w8 ⟨rfl, hb8⟩
      rw [mapOkB_take HM.out K (Nat.le_of_lt hKl)]
      have hB8 := hB7.trans (hb8.mono hB7.size)
      have hW8 := (hW3.out.below hB8).tail (by omega)
      go_wp2_with fail; refine (impl_MapOk (some ⟨b, off + 3, none⟩) (m.length - 1) (cm - 1) m.tail _ (by have := hW8.C; rw [← this.1] at this; exact this.2.2) (by omega) (by omega)).mono ?_; rintro r w9 ⟨rfl, hb9⟩
      rw [mapOkB_tail HM.out hl3]
      have hB9 := hB8.trans (hb9.mono hB8.size)
      have hR9 := Kd.R_below HP.out (hb8.trans (hb9.mono hb8.size))
      go_wp2_with fail; refine (impl_MapOk (some ⟨g, 0, none⟩) m.length cap m2 _ (by have := (Kd.R_reads' hR9).2.2; rw [hml] at this; exact this) (by omega) hcap).mono ?_; rintro r w10 ⟨rfl, hb10⟩
      rw [HT.out]
      go_wp2
      go_ret
      exact ⟨rfl, hB3.trans ((hB9.trans (hb10.mono hB9.size)).mono hB3.size)⟩
end Go.Proofs.Ytdmbbocjaagfkaa.Z
