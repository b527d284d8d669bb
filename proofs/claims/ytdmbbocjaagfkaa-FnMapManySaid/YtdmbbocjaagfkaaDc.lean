/- Draws: pairs. -/
import Derived.Test.YtdmbbocjaagfkaaDb
import Derived.Test.YtdmbbocjaagfkaaMk
import Derived.Test.YtdmbbocjaagfkaaWn
namespace Go.Proofs.Ytdmbbocjaagfkaa.Z
open Go.RowKit Go.Proofs.YtdmbbocjaagfkaaW.PrintWords
set_option linter.unusedVariables false
set_option linter.unusedSimpArgs false
attribute [local go_sem ↓] Go.wp_at_zero Go.wp_at_succ

theorem Dr.then_below {r : Nat} {w a b : World} (h : Dr r w a) (k : Below w.heap.size a b) (hr : r < w.heap.size) : Dr r w b :=
  ⟨⟨Nat.le_trans h.1.1 k.size, fun i hi hne hx => (k.block i hi).trans (h.1.2 i hi hne hx)⟩, h.2.trans (k.mono (Nat.le_of_lt hr))⟩
/-- The end of pair k of an own row, stored anew. -/
theorem put_In {w : World} {e base g n cap : Nat} {ok : Nat → Prop} {xs : List Pr} (h : Kd.R kPr e w base ok (.slice (some ⟨g, 0, none⟩) n cap) xs) (k : Nat) (hk : k < n) (x : En) :
    ∃ q : Pr, w.cell? ⟨g, k * 3, none⟩ = some (.int .i64 q.port) ∧ w.cell? ⟨g, k * 3 + 1, none⟩ = some (.int .i64 q.inside.addr) ∧ w.cell? ⟨g, k * 3 + 2, none⟩ = some (.int .i64 q.inside.port) ∧
      w.frozen? ⟨g, k * 3, none⟩ = false ∧ w.frozen? ⟨g, k * 3 + 1, none⟩ = false ∧ w.frozen? ⟨g, k * 3 + 2, none⟩ = false ∧
      Aside0 (Kd.R kPr e ((w.setCell ⟨g, k * 3 + 1, none⟩ (.int .i64 x.addr)).setCell ⟨g, k * 3 + 2, none⟩ (.int .i64 x.port)) base ok (.slice (some ⟨g, 0, none⟩) n cap) (xs.set k ⟨q.port, x⟩)) := by
  obtain ⟨cs, hcl, hM, hcc, hfr⟩ := Kd.R_elem h zPr (k : Int) (by omega) (by omega)
  obtain rfl := kPr_openM hM
  have HP := Kd.R_seg h (k : Int) (by omega) (by omega) (seg := [.int .i64 x.addr, .int .i64 x.port]) (j := 1) hcl hcc (show 1 + 2 ≤ 3 from by decide) (x' := ⟨(xs.getD k zPr).port, x⟩) (kPr_mkM _ _ _ ⟨(xs.getD k zPr).port, x⟩) (fun _ hk => hk)
  exact ⟨_, hcc 0 _ rfl, hcc 1 _ rfl, hcc 2 _ rfl, hfr 0, hfr 1, hfr 2, ⟨HP.1⟩⟩
theorem kPr_KK (w w' : World) (x : Pr) (cs : List Value) (h : kPr.K w x cs) : kPr.K w' x cs := by
  obtain rfl := kPr_open h
  exact kPr_mk w' x

set_option maxHeartbeats 4000000 in
theorem spec_l71Map (r : Nat) (B : Int) (w : World) (h : Rd w r B) (hB : B ≤ 1000000) :
    Calls Try.prog 35 #[.pointer (some ⟨r, 0, none⟩)] w fun e w' => ∃ v xs, e = .returned v ∧ Wn kPr w' w.heap.size v xs ∧ xs.length ≤ 10 ∧ Rd w' r (B + 60) ∧ Dr r w w' := by
  have hr := h.lt
  have HR := Aside0.mk h; clear h
  go_enter Try.func35, Try.ntmps35
  go_wp2_with (first | ((with_reducible refine gate_dst (N := 5) rfl ?_); refine Kd.R_lit kPr w.heap.size 34 ?hg (N := 5) ?hd (xs := ([] : List Pr)) (inner := []) (ok := fun _ => True) (okp := fun _ => True) ?hr ?hp (fun _ hk => hk) trivial (Below.refl _ _) (by first | exact Nat.le_refl _ | omega) (by simp) ?_; (case hd => rfl); (case hg => rfl); (case hr => first | (go_simp; done) | (go_simp; rfl)); (case hp => exact (Reps.none _ _)); intro v1 w1 ho1 hb1 _ _) | fail)
  have hD1 : Dr r w w1 := Dr.of_below hb1 (Nat.le_of_lt hr)
  have hz1 := hb1.size
  have hR1 := HR.out.keeps (hb1.mono hr)
  clear hb1
  refine (spec_pick r 10 B _ hR1 (by omega)).mono ?_
  rintro e w2 ⟨x2, rfl, hx2, _, hR2, hD2⟩
  obtain ⟨hxa, hxb⟩ := hx2 (by omega)
  have ho2 := Dr.R ho1 hD2 hr
  obtain ⟨k0, rfl⟩ : ∃ k : Nat, x2 = k := ⟨x2.toNat, by omega⟩
  have hD := Aside0.mk (hD1.trans hD2)
  clear hD1 hD2 ho1 hR1 hx2
  go_wp2
  go_loopw [3, 4] (fun m n w' => ∃ v xs, ∃ k : Nat, m = v ∧ n = .int .i64 k ∧ k ≤ 9 ∧ Aside0 (Kd.R kPr 34 w' w.heap.size (fun _ => True) v xs) ∧ xs.length + k ≤ 9 ∧ Aside0 (Rd w' r (B + 30 - 2 * k)) ∧ Aside0 (Dr r w w')) (fun m n _ => (intOf n).toNat)
  case atStart => exact ⟨v1, [], k0, rfl, rfl, by omega, ⟨ho2⟩, by simp; omega, ⟨hR2.mono (by omega)⟩, hD⟩
  case round =>
    clear ho2 hR2 hD
    obtain ⟨v, xs, k, hm, rfl, hk9, HO, hlen, HR, HD⟩ := hrel
    obtain ⟨A, c, he, hl⟩ : ∃ A c, v = .slice A xs.length c ∧ xs.length ≤ c := by
      obtain ⟨A, c, e, hl, _⟩ := Kd.R_reads HO.out
      exact ⟨A, c, e, hl⟩
    subst he
    subst hm
    by_cases hk : 0 < k
    · have t0 : decide ((k : Int) > 0) = true := decide_eq_true (by omega)
      have t1 : decide ((0 : Int) < (k : Int)) = true := decide_eq_true (by omega)
      go_wp2_with fail; refine (spec_pick r 3 _ _ HR.out (by omega)).mono ?_; rintro e w3 ⟨x3, rfl, hx3, _, hR3, hD3⟩
      have hO3 := Aside0.mk (Dr.R HO.out hD3 hr)
      go_wp2_with fail; refine (spec_pick r 9 _ _ hR3 (by omega)).mono ?_; rintro e w4 ⟨x4, rfl, hx4, _, hR4, hD4⟩
      have hO4 := Aside0.mk (Dr.R hO3.out hD4 hr)
      obtain ⟨hx3a, hx3b⟩ := hx3 (by omega)
      obtain ⟨hx4a, hx4b⟩ := hx4 (by omega)
      have HD4 := Aside0.mk ((HD.out.trans hD3).trans hD4)
      have hz4 := HD4.out.size
      clear hO3 hx3 hx4 hD3 hD4 HO HD HR hR3
      go_wp2_with fail; refine (spec_l3Out A c xs ⟨1 + x3, 1 + x4⟩ w.heap.size _ hO4.out hz4 (by omega)).mono ?_; rintro e w5 ⟨v5, rfl, hR5, hb5⟩
      have hR6 := Aside0.mk (hR4.keeps (hb5.mono hr))
      have HD5 := Aside0.mk (HD4.out.then_below hb5 hr)
      have hl5 := outS_len xs ⟨1 + x3, 1 + x4⟩
      obtain ⟨ys, hys⟩ : ∃ ys, (outS xs ⟨1 + x3, 1 + x4⟩).1 = ys := ⟨_, rfl⟩
      rw [hys] at hR5 hl5
      go_wp2
      go_roundw
      case rel => exact ⟨v5, ys, k - 1, rfl, by rw [show ((k - 1 : Nat) : Int) = (k : Int) - 1 from by omega], by omega, ⟨hR5⟩, by omega, ⟨hR6.out.mono (by omega)⟩, HD5⟩
      case measure => simp [intOf]; omega
    · obtain rfl : k = 0 := by omega
      go_wp2_with fail; refine (spec_pick r 20 _ _ HR.out (by omega)).mono ?_; rintro e w3 ⟨x3, rfl, hx3, _, hR3, hD3⟩
      have hO3 := Aside0.mk (Dr.R HO.out hD3 hr)
      have HD3 := Aside0.mk (HD.out.trans hD3)
      have hz3 := HD3.out.size
      obtain ⟨hx3a, hx3b⟩ := hx3 (by omega)
      clear hx3 hD3 HO HD HR
      by_cases h0 : x3 = 0
      · subst h0
        go_wp2_with fail; refine (spec_pick r 9 _ _ hR3 (by omega)).mono ?_; rintro e w4 ⟨x4, rfl, hx4, _, hR4, hD4⟩
        have hO4 := Aside0.mk (Dr.R hO3.out hD4 hr)
        have HD4 := Aside0.mk (HD3.out.trans hD4)
        obtain ⟨hx4a, hx4b⟩ := hx4 (by omega)
        clear hx4 hD4 hR3 HD3 hO3
        go_wp2_with fail; refine (spec_l71End r _ _ hR4 (by omega)).mono ?_; rintro e w5 ⟨q, rfl, hq, hR5, hD5⟩
        have hO5 := Aside0.mk (Dr.R hO4.out hD5 hr)
        have HD5 := Aside0.mk (HD4.out.trans hD5)
        have hz5 := HD5.out.size
        clear hD5 hR4 HD4 hO4
        go_wp2_with (at_builtin; refine Kd.R_append kPr (w0 := w5) w.heap.size rfl (.tmp 29) (.tmp 36) 25 34 (.agg #[(.int .i64 0), (.int .i64 0), (.int .i64 0)]) 24 rfl Try.underlying25 infoPr rfl (by decide) (by omega) (.slice A xs.length c) xs ⟨10 + x4, q⟩ [.int .i64 (10 + x4), .int .i64 q.addr, .int .i64 q.port] (fun _ => True) (fun _ => False) rfl rfl (kPr_mkM _ _ _ _) (fun _ hk => hk.elim) (fun _ _ => trivial) hO5.out (Below.refl _ _) hz5 (by omega) ?_; intro v6 w6 hR6 hb6 hg6 hx6)
        go_ret
        exact ⟨_, _, rfl, Wn.of_R hR6, by simp; omega, (hR5.keeps (hb6.mono hr)).mono (by omega), HD5.out.then_below hb6 hr⟩
      · have t0 : (x3 == 0) = false := beq_eq_false_iff_ne.2 h0
        by_cases h1 : x3 = 1
        · subst h1
          by_cases hn : 0 < xs.length
          · have t1 : decide ((xs.length : Int) > 0) = true := decide_eq_true (by omega)
            have t2 : decide ((0 : Int) < (xs.length : Int)) = true := decide_eq_true (by omega)
            obtain ⟨g, cap, hv, hg1, hg2, _⟩ := Kd.R_form hO3.out hn
            obtain ⟨rfl, -, rfl⟩ : A = some ⟨g, 0, none⟩ ∧ xs.length = xs.length ∧ c = cap := by injection hv with a b c; exact ⟨a, b, c⟩
            clear hv
            go_wp2_with fail; refine (spec_pick r xs.length _ _ hR3 (by omega)).mono ?_; rintro e w4 ⟨x4, rfl, hx4, _, hR4, hD4⟩
            have hO4 := Aside0.mk (Dr.R hO3.out hD4 hr)
            have HD4 := Aside0.mk (HD3.out.trans hD4)
            obtain ⟨hx4a, hx4b⟩ := hx4 (by omega)
            clear hx4 hD4 hR3 HD3 hO3
            go_wp2_with fail; refine (spec_l71End r _ _ hR4 (by omega)).mono ?_; rintro e w5 ⟨q, rfl, hq, hR5, hD5⟩
            have hO5 := Aside0.mk (Dr.R hO4.out hD5 hr)
            have HD5 := Aside0.mk (HD4.out.trans hD5)
            have hz5 := HD5.out.size
            obtain ⟨j, rfl⟩ : ∃ j : Nat, x4 = j := ⟨x4.toNat, by omega⟩
            obtain ⟨y, d0, d1, d2, f0, f1, f2, HP⟩ := put_In hO5.out j (by omega) q
            clear hD5 hR4 HD4 hO4 hO5
            go_wp2
            go_ret
            exact ⟨_, _, rfl, Wn.of_R HP.out, by simp; omega, ((hR5.far (Nat.lt_of_lt_of_le hr hg1) _ _).far (Nat.lt_of_lt_of_le hr hg1) _ _).mono (by omega), (HD5.out.far hg1 (Nat.le_of_lt (Nat.lt_of_lt_of_le hr hg1)) _ _).far hg1 (Nat.le_of_lt (Nat.lt_of_lt_of_le hr hg1)) _ _⟩
          · have t1 : decide ((xs.length : Int) > 0) = false := decide_eq_false (by omega)
            have t2 : decide ((0 : Int) < (xs.length : Int)) = false := decide_eq_false (by omega)
            go_wp2
            go_ret
            exact ⟨_, _, rfl, Wn.of_R hO3.out, by omega, hR3.mono (by omega), HD3.out⟩
        · have t1 : (x3 == 1) = false := beq_eq_false_iff_ne.2 h1
          by_cases h2 : x3 = 2
          · subst h2
            by_cases hn : 0 < xs.length
            · have t1 : decide ((xs.length : Int) > 0) = true := decide_eq_true (by omega)
              have t2 : decide ((0 : Int) < (xs.length : Int)) = true := decide_eq_true (by omega)
              have t3 : (1 : Int) ≤ (xs.length : Int) := by omega
              have t4 : (xs.length : Int) ≤ (c : Int) := by omega
              obtain ⟨g, cap, hv, hg1, hg2, _⟩ := Kd.R_form hO3.out hn
              obtain ⟨rfl, -, rfl⟩ : A = some ⟨g, 0, none⟩ ∧ xs.length = xs.length ∧ c = cap := by injection hv with a b c; exact ⟨a, b, c⟩
              clear hv
              by_cases hc1 : c = 1
              · obtain rfl := hc1
                have hl1 : xs.length - 1 = 0 := by omega
                go_wp2
                go_ret
                refine ⟨_, [], rfl, ⟨some ⟨g, 0, none⟩, 0, by simp [hl1], Nat.le_refl _, ⟨rfl, by simp, fun h => by simp at h⟩, fun h => (by cases h), fun ad h => ?_⟩, by simp, hR3.mono (by omega), HD3.out⟩
                cases h
                exact ⟨g, 0, rfl, hg1, hg2, fun j h1 h2 => by simp at h2⟩
              · go_wp2
                go_ret
                exact ⟨_, _, rfl, (Wn.of_R hO3.out).tail hn, by simp; omega, hR3.mono (by omega), HD3.out⟩
            · have t1 : decide ((xs.length : Int) > 0) = false := decide_eq_false (by omega)
              have t2 : decide ((0 : Int) < (xs.length : Int)) = false := decide_eq_false (by omega)
              go_wp2
              go_ret
              exact ⟨_, _, rfl, Wn.of_R hO3.out, by omega, hR3.mono (by omega), HD3.out⟩
          · have t2 : (x3 == 2) = false := beq_eq_false_iff_ne.2 h2
            go_wp2
            go_ret
            exact ⟨_, _, rfl, Wn.of_R hO3.out, by omega, hR3.mono (by omega), HD3.out⟩
end Go.Proofs.Ytdmbbocjaagfkaa.Z
