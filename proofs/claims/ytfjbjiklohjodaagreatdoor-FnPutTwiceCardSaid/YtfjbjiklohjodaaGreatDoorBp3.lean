/- Draws: one of some texts; a text that names some ends. Draws: pairs, as a row that may begin inside its block. As Rg, with operations behind which nothing is shown (a store that ends the region). Words that make printed walks short: each step of a walk as one theorem whose side goals are closed by a default of its own. Words for what stands often in the printed walks. Contracts of mine in the print's own form: ends, maps, texts, as they were walked by hand. The reference's l2Name. Plain laws of the printed functions: words; the pieces of a text. Contracts of mine in the print's own form: strings joined, and cloned. MapOut of the program and of the reference. Plain laws of maps: looked for, or told by its place, a port stands for the same end. What MapOut's answer is like, plainly. A word of mine for the print: make with a capacity, of no element yet. Plain laws of the printed functions: pieces as they go on. Plain laws of the printed functions: what a text goes out as, its pieces and names; maps compared. Texts as names and single bytes, plainly: what is written anew is read back as it was written. Texts as names and single bytes: how they go in and out over a map, plainly. What is held of a text, and texts over maps: the laws of texts, plainly. The pieces of a text stay when more comes behind it, plainly. -/
import Derived.Test.YtfjbjiklohjodaaGreatDoorBp2
import Derived.DataReads
import Derived.Laws.MakeOwn
namespace Go.Proofs.YtfjbjiklohjodaaGreatDoor.Z
open Go.RowKit Go.Proofs.YtfjbjiklohjodaaGreatDoorW.PrintWords Go.Proofs.YtfjbjiklohjodaaGreatDoorW.PrintLast
set_option linter.unusedVariables false
set_option linter.unusedSimpArgs false
attribute [local go_sem ↓] Go.wp_at_zero Go.wp_at_succ
theorem reps_str {W : World} {base : Nat} {ok : Nat → Prop} : ∀ xs : List ByteArray, Reps (Kd.M Kd.string W base ok) 1 xs (xs.map Value.string)
  | [] => Reps.none _ _
  | x :: xs => Reps.one (show Kd.M Kd.string W base ok x [.string x] from rfl) (reps_str xs)
theorem Dr.thenB {r : Nat} {w a b : World} (h : Dr r w a) (k : Below a.heap.size a b) (hr : r < w.heap.size) : Dr r w b :=
  have k := k.mono h.size
  ⟨⟨Nat.le_trans h.1.1 k.size, fun i hi hne hx => (k.block i hi).trans (h.1.2 i hi hne hx)⟩, h.2.trans (k.mono (Nat.le_of_lt hr))⟩
theorem rdOf_mem {xs : List ByteArray} {i : Int} (h0 : 0 ≤ i) (h1 : i < xs.length) : rdOf ByteArray.empty xs i ∈ xs := by
  unfold rdOf
  rw [List.getD_eq_getElem?_getD, List.getElem?_eq_getElem (by omega)]
  exact List.getElem_mem _
theorem z64 : (⟨#[64]⟩ : ByteArray).size = 1 := rfl
theorem z59 : (⟨#[59]⟩ : ByteArray).size = 1 := rfl
theorem spec_of (r : Nat) (B : Int) (A : Option Addr) (c : Nat) (xs : List ByteArray) (w : World) (h : Rd w r B) (hB : B ≤ 1000000000) (hC : Kd.C Kd.string w A xs.length xs) (hc : xs.length ≤ c) (hp : 0 < xs.length) (hA : ∀ ad, A = some ad → ad.block ≠ r) :
    Calls Tryz.prog 117 #[.pointer (some ⟨r, 0, none⟩), .slice A xs.length c] w fun e w' => ∃ x, x ∈ xs ∧ e = .returned (.string x) ∧ Rd w' r (B + 1) ∧ Dr r w w' := by
  have hm : xs.length ≤ 9223372036854775807 := hC.2.1
  go_enter Tryz.func117, Tryz.ntmps117
  go_wp2_with fail; refine (spec_pick r xs.length B _ h hB).mono ?_; rintro e w1 ⟨x1, rfl, hx1, _, hR1, hD1⟩
  obtain ⟨h0, h1⟩ := hx1 (by omega)
  have hC1 : Kd.C Kd.string w1 A xs.length xs := Kd.C_keep ByteArray.empty hC hD1.1 (fun ad ha _ => hA ad ha)
  obtain ⟨ad, hAd, d0⟩ := Kd.at_string hC1 x1 h0 h1
  subst hAd
  have t0 : decide (0 ≤ x1) = true := decide_eq_true h0
  have t1 : decide (x1 < (xs.length : Int)) = true := decide_eq_true h1
  have hmem := rdOf_mem h0 h1
  clear hC hC1 hx1
  go_wp2
  go_ret
  exact ⟨_, hmem, rfl, hR1, hD1⟩
set_option maxHeartbeats 4000000 in
theorem spec_l71Text (r : Nat) (most : Int) (B : Int) (w : World) (h : Rd w r B) (hB : B ≤ 1000000) (hm : 0 ≤ most ∧ most ≤ 1000) :
    Calls Tryz.prog 61 #[.pointer (some ⟨r, 0, none⟩), .int .i64 most] w fun e w' => ∃ s : ByteArray, e = .returned (.string s) ∧ (s.size : Int) ≤ most ∧ Rd w' r (B + 60) ∧ Dr r w w' := by
  have hr := h.lt
  go_enter Tryz.func61, Tryz.ntmps61
  go_wp2_with fail; refine (spec_pick r 7 B _ h (by omega)).mono ?_; rintro e w1 ⟨x1, rfl, hx1, _, hR1, hD1⟩
  obtain ⟨hx0, hx2⟩ := hx1 (by omega)
  obtain ⟨k0, rfl⟩ : ∃ k : Nat, x1 = k := ⟨x1.toNat, by omega⟩
  clear hx1
  go_wp2
  go_loopw [5, 6] (fun s n w' => ∃ (b : ByteArray) (k : Nat), s = .string b ∧ n = .int .i64 k ∧ k ≤ 6 ∧ (b.size : Int) ≤ most ∧ Aside0 (Rd w' r (B + 50 - 6 * k)) ∧ Aside0 (Dr r w w')) (fun s n _ => (intOf n).toNat)
  case atStart => exact ⟨⟨#[]⟩, k0, rfl, rfl, by omega, by show (0 : Int) ≤ most; omega, ⟨hR1.mono (by omega)⟩, ⟨hD1⟩⟩
  case round =>
    clear hR1 hD1 hx0 hx2
    obtain ⟨b, k, rfl, rfl, hk6, hbm, HR, HD⟩ := hrel
    by_cases hk : 0 < k
    · have t0 : decide ((k : Int) > 0) = true := decide_eq_true (by omega)
      have t1 : decide ((0 : Int) < (k : Int)) = true := decide_eq_true (by omega)
      have hwk : IntKind.i64.wrap ((k : Int) - 1) = (k : Int) - 1 := IntWalk.i64_in _ (by omega)
      have hlt := HR.out.lt
      go_wp2_with (first | ((with_reducible refine gate_dst (N := 15) rfl ?_); refine Kd.R_lit Kd.string _ 9 ?hg (N := 15) ?hd (xs := [⟨#[97]⟩, ⟨#[98, 99]⟩, ⟨#[64]⟩, ⟨#[64, 49]⟩, ⟨#[59]⟩, ⟨#[58, 53]⟩, ⟨#[120, 49]⟩, ⟨#[64, 64]⟩, ⟨#[64, 49, 58]⟩, ⟨#[55]⟩]) (inner := [.string ⟨#[97]⟩, .string ⟨#[98, 99]⟩, .string ⟨#[64]⟩, .string ⟨#[64, 49]⟩, .string ⟨#[59]⟩, .string ⟨#[58, 53]⟩, .string ⟨#[120, 49]⟩, .string ⟨#[64, 64]⟩, .string ⟨#[64, 49, 58]⟩, .string ⟨#[55]⟩]) (ok := fun _ => True) (okp := fun _ => True) ?hr ?hp (fun _ hk => hk) trivial (Below.refl _ _) (Nat.le_refl _) (by simp) ?_; (case hd => rfl); (case hg => rfl); (case hr => first | (go_simp; done) | (go_simp; rfl)); (case hp => exact reps_str _); intro v2 w2 ho2 hb2 hg2 hnew2) | fail)
      have hR2 := HR.out.keeps (hb2.mono hlt)
      have hD2 := Aside0.mk (HD.out.thenB hb2 hr)
      obtain ⟨bq, hbq, hbl⟩ := hnew2
      obtain ⟨A, c, rfl, hl, hC⟩ := Kd.R_reads ho2
      have hA : ∀ ad, A = some ad → ad.block ≠ r := by
        rintro ad rfl
        have e : some ad.block = some bq := by simpa [Value.ownBlock] using hbq
        have e2 : ad.block = bq := Option.some.inj e
        have := HD.out.size
        omega
      clear hb2 hg2 hbq hbl
      refine (spec_of r _ A c _ _ hR2 (by omega) hC hl (by decide) hA).mono ?_
      rintro e w3 ⟨x, hx, rfl, hR3, hD3⟩
      have hxs : x.size ≤ 3 := by
        simp only [List.mem_cons, List.not_mem_nil, or_false] at hx
        rcases hx with rfl | rfl | rfl | rfl | rfl | rfl | rfl | rfl | rfl | rfl <;> decide
      have hD3 := Aside0.mk (hD2.out.trans hD3)
      clear hx hC ho2 hR2 hD2 hA HD HR
      go_wp2_with fail; refine (spec_pick r 5 _ _ hR3 (by omega)).mono ?_; rintro e w4 ⟨x4, rfl, hx4, _, hR4, hD4⟩
      obtain ⟨h4a, h4b⟩ := hx4 (by omega)
      have hD4 := Aside0.mk (hD3.out.trans hD4)
      clear hx4 hD3 hR3
      by_cases h3 : x4 < 3
      · have t2 : decide (x4 < 3) = true := decide_eq_true h3
        go_wp2_with fail; refine (spec_l71End r _ _ hR4 (by omega)).mono ?_; rintro e w5 ⟨q, rfl, hq, hR5, hD5⟩
        obtain ⟨y, hy, hyl⟩ : ∃ y : ByteArray, (⟨(endText q).toArray⟩ : ByteArray) = y ∧ y.size ≤ 5 := ⟨_, rfl, endText_len q⟩
        go_wp2_with fail; refine (spec_EndText q _).mono ?_; rintro e w6 ⟨rfl, hb6⟩
        rw [show vS (endText q) = .string y from congrArg Value.string hy]
        have hR6 := hR5.keeps (hb6.mono hR5.lt)
        have hD6 := Aside0.mk ((hD4.out.trans hD5).thenB hb6 hr)
        clear hb6 hy hD5 hD4 hR5 hR4
        go_wp2
        · rename_i hh
          go_roundw
          case rel => exact ⟨_, k - 1, rfl, by rw [show ((k - 1 : Nat) : Int) = (k : Int) - 1 from by omega], by omega, by simp only [ByteArray.size_append, z64, z59, Int.natCast_add]; omega, ⟨hR6.mono (by omega)⟩, hD6⟩
          case measure => simp [intOf]; omega
        · rename_i hh
          go_roundw
          case rel => exact ⟨_, k - 1, rfl, by rw [show ((k - 1 : Nat) : Int) = (k : Int) - 1 from by omega], by omega, hbm, ⟨hR6.mono (by omega)⟩, hD6⟩
          case measure => simp [intOf]; omega
      · have t2 : decide (x4 < 3) = false := decide_eq_false h3
        go_wp2
        · rename_i hh
          go_roundw
          case rel => exact ⟨_, k - 1, rfl, by rw [show ((k - 1 : Nat) : Int) = (k : Int) - 1 from by omega], by omega, by simp only [ByteArray.size_append, z64, z59, Int.natCast_add]; omega, ⟨hR4.mono (by omega)⟩, hD4⟩
          case measure => simp [intOf]; omega
        · rename_i hh
          go_roundw
          case rel => exact ⟨_, k - 1, rfl, by rw [show ((k - 1 : Nat) : Int) = (k : Int) - 1 from by omega], by omega, hbm, ⟨hR4.mono (by omega)⟩, hD4⟩
          case measure => simp [intOf]; omega
    · obtain rfl : k = 0 := by omega
      go_wp2
      go_ret
      exact ⟨b, rfl, hbm, HR.out.mono (by omega), HD.out⟩
end Go.Proofs.YtfjbjiklohjodaaGreatDoor.Z
namespace Go.Proofs.YtfjbjiklohjodaaGreatDoor.Z
open Go.RowKit Go.Proofs.YtfjbjiklohjodaaGreatDoorW.PrintWords
set_option linter.unusedVariables false
set_option linter.unusedSimpArgs false
attribute [local go_sem ↓] Go.wp_at_zero Go.wp_at_succ
theorem Dr.then_below {r : Nat} {w a b : World} (h : Dr r w a) (k : Below w.heap.size a b) (hr : r < w.heap.size) : Dr r w b :=
  ⟨⟨Nat.le_trans h.1.1 k.size, fun i hi hne hx => (k.block i hi).trans (h.1.2 i hi hne hx)⟩, h.2.trans (k.mono (Nat.le_of_lt hr))⟩
theorem R_prTo {e : Nat} {w : World} {base : Nat} {ok : Nat → Prop} {v : Value} {xs : List Pr} (h : Kd.R kPr e w base ok v xs) : Kd.R Q.k111 e w base ok v (xs.map Q.prTo) := by
  obtain ⟨h0, inner, ho, hr⟩ := h
  refine ⟨h0, inner, by rw [List.length_map]; exact ho, ⟨by rw [List.length_map]; exact hr.1, fun j p hj => ?_⟩⟩
  rw [List.getElem?_map, Option.map_eq_some_iff] at hj
  obtain ⟨x, hx, rfl⟩ := hj
  exact hr.2 j x hx
theorem put_In {w : World} {e base g n cap : Nat} {ok : Nat → Prop} {xs : List Pr} (h : Kd.R kPr e w base ok (.slice (some ⟨g, 0, none⟩) n cap) xs) (k : Nat) (hk : k < n) (x : En) :
    ∃ q : Pr, w.cell? ⟨g, k * 3, none⟩ = some (.int .i64 q.port) ∧ w.cell? ⟨g, k * 3 + 1, none⟩ = some (.int .i64 q.inside.addr) ∧ w.cell? ⟨g, k * 3 + 2, none⟩ = some (.int .i64 q.inside.port) ∧
      w.frozen? ⟨g, k * 3, none⟩ = false ∧ w.frozen? ⟨g, k * 3 + 1, none⟩ = false ∧ w.frozen? ⟨g, k * 3 + 2, none⟩ = false ∧
      Aside0 (Kd.R kPr e ((w.setCell ⟨g, k * 3 + 1, none⟩ (.int .i64 x.addr)).setCell ⟨g, k * 3 + 2, none⟩ (.int .i64 x.port)) base ok (.slice (some ⟨g, 0, none⟩) n cap) (xs.set k ⟨q.port, x⟩)) := by
  obtain ⟨cs, hcl, hM, hcc, hfr⟩ := Kd.R_elem h zPr (k : Int) (by omega) (by omega)
  obtain rfl := kPr_openM hM
  have HP := Kd.R_seg h (k : Int) (by omega) (by omega) (seg := [.int .i64 x.addr, .int .i64 x.port]) (j := 1) hcl hcc (show 1 + 2 ≤ 3 from by decide) (x' := ⟨(xs.getD k zPr).port, x⟩) (kPr_mkM _ _ _ ⟨(xs.getD k zPr).port, x⟩) (fun _ hk => hk)
  exact ⟨_, hcc 0 _ rfl, hcc 1 _ rfl, hcc 2 _ rfl, hfr 0, hfr 1, hfr 2, ⟨HP.1⟩⟩
set_option maxHeartbeats 4000000 in
theorem spec_l71MapQ (r : Nat) (B : Int) (w : World) (h : Rd w r B) (hB : B ≤ 1000000) :
    Calls Tryz.prog 116 #[.pointer (some ⟨r, 0, none⟩)] w fun e w' => ∃ v, ∃ xs : List Pr, e = .returned v ∧ Kd.Q Q.k111 111 w' w.heap.size (fun _ => True) v (xs.map Q.prTo) ∧ xs.length ≤ 10 ∧ Rd w' r (B + 60) ∧ Dr r w w' := by
  have hr := h.lt
  have HR := Aside0.mk h; clear h
  go_enter Tryz.func116, Tryz.ntmps116
  go_wp2_with (first | ((with_reducible refine gate_dst (N := 5) rfl ?_); refine Kd.R_lit kPr _ 111 ?hg (N := 5) ?hd (xs := ([] : List Pr)) (inner := []) (ok := fun _ => True) (okp := fun _ => True) ?hr ?hp (fun _ hk => hk) trivial (Below.refl _ _) (by first | exact Nat.le_refl _ | omega) (by simp) ?_; (case hd => rfl); (case hg => rfl); (case hr => first | (go_simp; done) | (go_simp; rfl)); (case hp => exact (Reps.none _ _)); intro v1 w1 ho1 hb1 _ _) | fail)
  have hD1 : Dr r w w1 := Dr.of_below hb1 (Nat.le_of_lt hr)
  have hz1 := hb1.size
  have hR1 := HR.out.keeps (hb1.mono hr)
  clear hb1
  refine (spec_pick r 10 B _ hR1 (by omega)).mono ?_
  rintro e w2 ⟨x2, rfl, hx2, _, hR2, hD2⟩
  obtain ⟨hxa, hxb⟩ := hx2 (by omega)
  have ho2 := Dr.R ho1 hD2 hr
  obtain ⟨k0, rfl⟩ : ∃ k : Nat, x2 = k := ⟨x2.toNat, by omega⟩
  have hD := Aside0.mk (hD1.trans hD2)
  clear hD1 hD2 ho1 hR1 hx2
  go_wp2
  go_loopw [3, 4] (fun m n w' => ∃ v xs, ∃ k : Nat, m = v ∧ n = .int .i64 k ∧ k ≤ 9 ∧ Aside0 (Kd.R kPr 111 w' w.heap.size (fun _ => True) v xs) ∧ xs.length + k ≤ 9 ∧ Aside0 (Rd w' r (B + 30 - 2 * k)) ∧ Aside0 (Dr r w w')) (fun m n _ => (intOf n).toNat)
  case atStart => exact ⟨v1, [], k0, rfl, rfl, by omega, ⟨ho2⟩, by simp; omega, ⟨hR2.mono (by omega)⟩, hD⟩
  case round =>
    clear ho2 hR2 hD
    obtain ⟨v, xs, k, hm, rfl, hk9, HO, hlen, HR, HD⟩ := hrel
    obtain ⟨A, c, he, hl⟩ : ∃ A c, v = .slice A xs.length c ∧ xs.length ≤ c := by
      obtain ⟨A, c, e, hl, _⟩ := Kd.R_reads HO.out
      exact ⟨A, c, e, hl⟩
    subst he
    subst hm
    by_cases hk : 0 < k
    · have t0 : decide ((k : Int) > 0) = true := decide_eq_true (by omega)
      have t1 : decide ((0 : Int) < (k : Int)) = true := decide_eq_true (by omega)
      go_wp2_with fail; refine (spec_pick r 3 _ _ HR.out (by omega)).mono ?_; rintro e w3 ⟨x3, rfl, hx3, _, hR3, hD3⟩
      have hO3 := Aside0.mk (Dr.R HO.out hD3 hr)
      go_wp2_with fail; refine (spec_pick r 9 _ _ hR3 (by omega)).mono ?_; rintro e w4 ⟨x4, rfl, hx4, _, hR4, hD4⟩
      have hO4 := Aside0.mk (Dr.R hO3.out hD4 hr)
      obtain ⟨hx3a, hx3b⟩ := hx3 (by omega)
      obtain ⟨hx4a, hx4b⟩ := hx4 (by omega)
      have HD4 := Aside0.mk ((HD.out.trans hD3).trans hD4)
      have hz4 := HD4.out.size
      clear hO3 hx3 hx4 hD3 hD4 HO HD HR hR3
      go_wp2_with fail; refine (spec_l3Out A c xs ⟨1 + x3, 1 + x4⟩ w.heap.size _ hO4.out hz4 (by omega)).mono ?_; rintro e w5 ⟨v5, rfl, hR5, hb5⟩
      have hR6 := Aside0.mk (hR4.keeps (hb5.mono hr))
      have HD5 := Aside0.mk (HD4.out.then_below hb5 hr)
      have hl5 := outS_len xs ⟨1 + x3, 1 + x4⟩
      obtain ⟨ys, hys⟩ : ∃ ys, (outS xs ⟨1 + x3, 1 + x4⟩).1 = ys := ⟨_, rfl⟩
      rw [hys] at hR5 hl5
      go_wp2
      go_roundw
      case rel => exact ⟨v5, ys, k - 1, rfl, by rw [show ((k - 1 : Nat) : Int) = (k : Int) - 1 from by omega], by omega, ⟨hR5⟩, by omega, ⟨hR6.out.mono (by omega)⟩, HD5⟩
      case measure => simp [intOf]; omega
    · obtain rfl : k = 0 := by omega
      go_wp2_with fail; refine (spec_pick r 20 _ _ HR.out (by omega)).mono ?_; rintro e w3 ⟨x3, rfl, hx3, _, hR3, hD3⟩
      have hO3 := Aside0.mk (Dr.R HO.out hD3 hr)
      have HD3 := Aside0.mk (HD.out.trans hD3)
      have hz3 := HD3.out.size
      obtain ⟨hx3a, hx3b⟩ := hx3 (by omega)
      clear hx3 hD3 HO HD HR
      by_cases h0 : x3 = 0
      · subst h0
        go_wp2_with fail; refine (spec_pick r 9 _ _ hR3 (by omega)).mono ?_; rintro e w4 ⟨x4, rfl, hx4, _, hR4, hD4⟩
        have hO4 := Aside0.mk (Dr.R hO3.out hD4 hr)
        have HD4 := Aside0.mk (HD3.out.trans hD4)
        obtain ⟨hx4a, hx4b⟩ := hx4 (by omega)
        clear hx4 hD4 hR3 HD3 hO3
        go_wp2_with fail; refine (spec_l71End r _ _ hR4 (by omega)).mono ?_; rintro e w5 ⟨q, rfl, hq, hR5, hD5⟩
        have hO5 := Aside0.mk (Dr.R hO4.out hD5 hr)
        have HD5 := Aside0.mk (HD4.out.trans hD5)
        have hz5 := HD5.out.size
        clear hD5 hR4 HD4 hO4
        go_wp2_with (at_builtin; refine Kd.R_append kPr (w0 := w5) w.heap.size rfl (.tmp 29) (.tmp 36) 23 111 (.agg #[(.int .i64 0), (.int .i64 0), (.int .i64 0)]) 24 rfl Tryz.underlying23 infoPr rfl (by decide) (by omega) (.slice A xs.length c) xs ⟨10 + x4, q⟩ [.int .i64 (10 + x4), .int .i64 q.addr, .int .i64 q.port] (fun _ => True) (fun _ => False) rfl rfl (kPr_mkM _ _ _ _) (fun _ hk => hk.elim) (fun _ _ => trivial) hO5.out (Below.refl _ _) hz5 (by omega) ?_; intro v6 w6 hR6 hb6 hg6 hx6)
        go_ret
        exact ⟨_, _, rfl, Kd.Q_of_R (R_prTo hR6), by simp; omega, (hR5.keeps (hb6.mono hr)).mono (by omega), HD5.out.then_below hb6 hr⟩
      · have t0 : (x3 == 0) = false := beq_eq_false_iff_ne.2 h0
        by_cases h1 : x3 = 1
        · subst h1
          by_cases hn : 0 < xs.length
          · have t1 : decide ((xs.length : Int) > 0) = true := decide_eq_true (by omega)
            have t2 : decide ((0 : Int) < (xs.length : Int)) = true := decide_eq_true (by omega)
            obtain ⟨g, cap, hv, hg1, hg2, _⟩ := Kd.R_form hO3.out hn
            obtain ⟨rfl, -, rfl⟩ : A = some ⟨g, 0, none⟩ ∧ xs.length = xs.length ∧ c = cap := by injection hv with a b c; exact ⟨a, b, c⟩
            clear hv
            go_wp2_with fail; refine (spec_pick r xs.length _ _ hR3 (by omega)).mono ?_; rintro e w4 ⟨x4, rfl, hx4, _, hR4, hD4⟩
            have hO4 := Aside0.mk (Dr.R hO3.out hD4 hr)
            have HD4 := Aside0.mk (HD3.out.trans hD4)
            obtain ⟨hx4a, hx4b⟩ := hx4 (by omega)
            clear hx4 hD4 hR3 HD3 hO3
            go_wp2_with fail; refine (spec_l71End r _ _ hR4 (by omega)).mono ?_; rintro e w5 ⟨q, rfl, hq, hR5, hD5⟩
            have hO5 := Aside0.mk (Dr.R hO4.out hD5 hr)
            have HD5 := Aside0.mk (HD4.out.trans hD5)
            have hz5 := HD5.out.size
            obtain ⟨j, rfl⟩ : ∃ j : Nat, x4 = j := ⟨x4.toNat, by omega⟩
            obtain ⟨y, d0, d1, d2, f0, f1, f2, HP⟩ := put_In hO5.out j (by omega) q
            clear hD5 hR4 HD4 hO4 hO5
            go_wp2
            go_ret
            exact ⟨_, _, rfl, Kd.Q_of_R (R_prTo HP.out), by simp; omega, ((hR5.far (Nat.lt_of_lt_of_le hr hg1) _ _).far (Nat.lt_of_lt_of_le hr hg1) _ _).mono (by omega), (HD5.out.far hg1 (Nat.le_of_lt (Nat.lt_of_lt_of_le hr hg1)) _ _).far hg1 (Nat.le_of_lt (Nat.lt_of_lt_of_le hr hg1)) _ _⟩
          · have t1 : decide ((xs.length : Int) > 0) = false := decide_eq_false (by omega)
            have t2 : decide ((0 : Int) < (xs.length : Int)) = false := decide_eq_false (by omega)
            go_wp2
            go_ret
            exact ⟨_, _, rfl, Kd.Q_of_R (R_prTo hO3.out), by omega, hR3.mono (by omega), HD3.out⟩
        · have t1 : (x3 == 1) = false := beq_eq_false_iff_ne.2 h1
          by_cases h2 : x3 = 2
          · subst h2
            by_cases hn : 0 < xs.length
            · have t1 : decide ((xs.length : Int) > 0) = true := decide_eq_true (by omega)
              have t2 : decide ((0 : Int) < (xs.length : Int)) = true := decide_eq_true (by omega)
              have t3 : (1 : Int) ≤ (xs.length : Int) := by omega
              have t4 : (xs.length : Int) ≤ (c : Int) := by omega
              obtain ⟨g, cap, hv, hg1, hg2, _⟩ := Kd.R_form hO3.out hn
              obtain ⟨rfl, -, rfl⟩ : A = some ⟨g, 0, none⟩ ∧ xs.length = xs.length ∧ c = cap := by injection hv with a b c; exact ⟨a, b, c⟩
              clear hv
              by_cases hc1 : c = 1
              · obtain rfl := hc1
                have hl1 : xs.length - 1 = 0 := by omega
                go_wp2
                go_ret
                have hQ := Kd.Q_drop (k := 1) (Kd.Q_of_R (R_prTo hO3.out)) (by rw [List.length_map]; omega)
                rw [if_pos rfl, List.drop_one, ← List.map_tail, hl1] at hQ
                exact ⟨_, xs.tail, rfl, hQ, by simp; omega, hR3.mono (by omega), HD3.out⟩
              · go_wp2
                go_ret
                have hQ := Kd.Q_drop (k := 1) (Kd.Q_of_R (R_prTo hO3.out)) (by rw [List.length_map]; omega)
                rw [if_neg hc1, List.drop_one, ← List.map_tail] at hQ
                exact ⟨_, xs.tail, rfl, hQ, by simp; omega, hR3.mono (by omega), HD3.out⟩
            · have t1 : decide ((xs.length : Int) > 0) = false := decide_eq_false (by omega)
              have t2 : decide ((0 : Int) < (xs.length : Int)) = false := decide_eq_false (by omega)
              go_wp2
              go_ret
              exact ⟨_, _, rfl, Kd.Q_of_R (R_prTo hO3.out), by omega, hR3.mono (by omega), HD3.out⟩
          · have t2 : (x3 == 2) = false := beq_eq_false_iff_ne.2 h2
            go_wp2
            go_ret
            exact ⟨_, _, rfl, Kd.Q_of_R (R_prTo hO3.out), by omega, hR3.mono (by omega), HD3.out⟩
end Go.Proofs.YtfjbjiklohjodaaGreatDoor.Z
namespace Go.Proofs.YtfjbjiklohjodaaGreatDoor.Z
open Go.RowKit Go.Proofs.YtfjbjiklohjodaaGreatDoorW.PrintWords Go.Proofs.YtfjbjiklohjodaaGreatDoorW.PrintLast
set_option linter.unusedVariables false
def LinD (P : Program) (ops : Array Oper) (Q : Exit → Act → World → Prop) (S : World → Prop) (T : Bool × List (List Nat × List Nat)) (ds : List Nat) (n : Nat) (dn todo : List Nat) (a : Act) (w : World) : Prop :=
  Aside0 (rtab .any ops = T) → S w → wpAnyLast P .any ops Q S ds todo.length (lst n dn).toArray a w
section
variable {P : Program} {ops : Array Oper} {Q : Exit → Act → World → Prop} {S : World → Prop} {T : Bool × List (List Nat × List Nat)} {ds : List Nat} {n : Nat} {dn rest : List Nat} {i : Nat} {oi : Oper} {N : Option Tmp} {a : Act} {w : World}
theorem lind_start {id : Nat} (S : World → Prop) (ds : List Nat) (T : Bool × List (List Nat × List Nat)) (ord : List Nat) (hm : P.follows .mixedOrders = true) (hT : rtab .any ops = T) (hn : (ops.size == ord.length) = true) (hS : S w.drew)
    (h : LinD P ops Q S T ds ord.length [] ord a w.drew) : (Code.region id ops true).wp P Q a w := by
  have hn' : ops.size = ord.length := by simpa using hn
  refine start_ (n := ord.length) (S := S) (ds := ds) ((lst ord.length []).toArray) hm hn' ?_ hS (fun hS => h ⟨hT⟩ hS)
  apply Array.ext'
  simp [lst, List.map_const']
theorem lind_take {v : Value} {a' : Act} (hi : ops[i]? = some oi) (hN : oi.dst = N) (hc : takeT T ds (lst n dn) (lst n (i :: dn)) i = true)
    (hQ : ∀ c a w, Q (.panic c) (a.put oi.dst v) w → Q (.panic c) a w) (hw : Region.wanted oi (yielded ops a.tmps) = true) (hy : ∀ w, S w → (execOp a.eval oi).run P w = .ok (.value v) w) (ha : a.put N v = a')
    (h : LinD P ops Q S T ds n (i :: dn) rest a' w) : LinD P ops Q S T ds n dn (i :: rest) a w :=
  fun hT hS => take_ (lst n (i :: dn)).toArray hi hN (take_of hT.out (by simpa using hc)) hQ (.inl ⟨hw, hy⟩) hS ha (h hT hS)
theorem lind_off {a' : Act} (hi : ops[i]? = some oi) (hN : oi.dst = N) (hc : takeT T ds (lst n dn) (lst n (i :: dn)) i = true)
    (hQ : ∀ c a w, Q (.panic c) (a.put oi.dst undef) w → Q (.panic c) a w) (hw : Region.wanted oi (yielded ops a.tmps) = false) (ha : a.put N undef = a')
    (h : LinD P ops Q S T ds n (i :: dn) rest a' w) : LinD P ops Q S T ds n dn (i :: rest) a w :=
  fun hT hS => take_ (lst n (i :: dn)).toArray hi hN (take_of hT.out (by simpa using hc)) hQ (.inr ⟨hw, rfl⟩) hS ha (h hT hS)
theorem lind_call {f : FuncId} {fn : Func} {xs : Array Operand} {ts : Array TypeId} {args : Array Value} (hi : ops[i]? = some oi) (hop : oi.op = .call { callee := .value (.func f), args := xs, argTypes := ts }) (hN : oi.dst = N) (hf : P.funcs[f]? = some fn)
    (hc : ((readyT T.2 (lst n dn) == [i] && (lst n dn).set i true == lst n (i :: dn)) && !ds.contains i) = true) (hname : (fn.name == "runtime.NumGoroutine") = false) (hb : fn.body.isSome = true)
    (hw : Region.wanted oi (yielded ops a.tmps) = true) (hargs : xs.map a.eval = args)
    (h : S w → Calls P f args w fun e w' => ∃ v, e = .returned v ∧ S w' ∧ LinD P ops Q S T ds n (i :: dn) rest (a.put N v) w') : LinD P ops Q S T ds n dn (i :: rest) a w := by
  rw [Bool.and_eq_true] at hc
  exact fun hT hS => one_ (lst n (i :: dn)).toArray hi hN (one_of hT.out (by simpa using hc.1)) (by have := hc.2; simpa using this) (fun K hK => goes_ hf hname hb args hw hN hop hargs ((h hS).mono fun e w' ⟨v, he, h1, h2⟩ => ⟨v, he, hK.out _ _ h1 (fun h3 => h2 hT h3)⟩))
theorem lind_any {v : Value} {a' : Act} (hi : ops[i]? = some oi) (hN : oi.dst = N) (hc : anyT T (lst n dn) (lst n (i :: dn)) i = true)
    (hQ : ∀ c a w, Q (.panic c) (a.put oi.dst v) w → Q (.panic c) a w) (hw : Region.wanted oi (yielded ops a.tmps) = true) (hy : ∀ w, (execOp a.eval oi).run P w = .ok (.value v) w) (ha : a.put N v = a')
    (h : LinD P ops Q S T ds n (i :: dn) rest a' w) : LinD P ops Q S T ds n dn (i :: rest) a w :=
  fun hT hS => pure_ (lst n (i :: dn)).toArray hi hN (any_of hT.out (by simpa using hc)) hQ (.inl ⟨hw, hy⟩) ha (h hT hS)
theorem lind_norm {a' : Act} {todo : List Nat} (ha : a = a') (h : LinD P ops Q S T ds n dn todo a' w) : LinD P ops Q S T ds n dn todo a w := by
  subst ha
  exact h
theorem lind_last {w1 : World} (hi : ops[i]? = some oi) (hN : oi.dst = none) (hc : (readyT T.2 (lst n dn) == [i] && (lst n dn).set i true == lst n (i :: dn)) = true) (hd : ds.contains i = true)
    (hw : Region.wanted oi (yielded ops a.tmps) = true) (hrun : S w → (execOp a.eval oi).run P w = .ok .skip w1) (hdone : (readyT T.2 (lst n (i :: dn)) == []) = true) (h : Q .normal a w1) : LinD P ops Q S T ds n dn [i] a w := by
  refine fun hT hS => last_ (lst n (i :: dn)).toArray hi hN (one_of hT.out (by simpa using hc)) (by simpa using hd) (fun K hK => ?_)
  rw [if_pos hw]
  unfold Oper.wp
  rw [hrun hS]
  show K (a.put oi.dst undef) w1
  rw [hN]
  exact hK.out _ _ (done_ (done_of hT.out (by simpa using hdone)) h)
end
end Go.Proofs.YtfjbjiklohjodaaGreatDoor.Z
namespace Go.Proofs.YtfjbjiklohjodaaGreatDoor.Q
open Go Go.RowKit Go.Proofs.YtfjbjiklohjodaaGreatDoorW.PrintWords Go.Proofs.YtfjbjiklohjodaaGreatDoorW.PrintLast Go.Proofs.YtfjbjiklohjodaaGreatDoorW.PrintMore
set_option linter.unusedVariables false
theorem zb_ {w w' : World} {g : Nat} {o : Obj} (h : w.heap[g]? = some o) (hb : Below w.heap.size w w' := by (with_reducible repeat (first | apply below_alloc | apply pw_below_drewN | apply below_drew1)); exact Below.refl _ _) : w'.heap[g]? = some o := blk_below h hb
theorem zB_ {a w w' : World} (h : Below a.heap.size a w) (hb : Below w.heap.size w w' := by (with_reducible repeat (first | apply below_alloc | apply pw_below_drewN | apply below_drew1)); exact Below.refl _ _) : Below a.heap.size a w' := below_step h hb
theorem zv_ {α : Type} {d : Kd α} {e : Nat} {w w' : World} {base : Nat} {ok : Nat → Prop} {v : Value} {xs : List α} (h : Kd.V d e w base ok v xs) (hb : Below w.heap.size w w' := by (with_reducible repeat (first | apply below_alloc | apply pw_below_drewN | apply below_drew1)); exact Below.refl _ _) : Kd.V d e w' base ok v xs := Kd.V_below h hb
theorem zR_ {α : Type} {d : Kd α} {e : Nat} {w w' : World} {base : Nat} {ok : Nat → Prop} {v : Value} {xs : List α} (h : Kd.R d e w base ok v xs) (hb : Below w.heap.size w w' := by (with_reducible repeat (first | apply below_alloc | apply pw_below_drewN | apply below_drew1)); exact Below.refl _ _) : Kd.R d e w' base ok v xs := Kd.R_below h hb
theorem za_ {P : Prop} (h : P := by (try simp only [List.map_toArray, List.map_cons, List.map_nil]); first | done | rfl | (simp only [List.length_drop, List.length_take]; rfl) | (simp only [Int.tmod_eq_emod_of_nonneg (Int.natCast_nonneg _)]; rfl)) : P := h
theorem zs_ {P : Prop} (h : P := by first | rfl | (simp; done) | (simp [*]; done)) : P := h
section
variable {P : Program} {ops : Array Oper} {Q : Exit → Act → World → Prop} {S : World → Prop} {ds : List Nat} {T : Bool × List (List Nat × List Nat)} {oi : Oper} {v : Value} {fuel : Nat} {l l' : Array Bool} {a a' : Act} {w : World} {N : Option Tmp}
theorem zp_ (HT : Aside0 (rtab .any ops = T)) (i : Nat) (h : wpAnyLast P .any ops Q S ds fuel l' a' w)
    (hi : ops[i]? = some oi := by exact rfl) (hN : oi.dst = N := by exact rfl) (hl : l.setIfInBounds i true = l' := by simp only [List.setIfInBounds_toArray, List.set_cons_zero, List.set_cons_succ]; exact rfl) (hc : anyT T l.toList l'.toList i = true := by kernel_rfl)
    (hQ : ∀ c a w, Q (.panic c) (a.put oi.dst v) w → Q (.panic c) a w := by exact fun _ _ _ h => h) (hy : Yields P ops oi v a := by exact Or.inl ⟨by rfl, by (intro w'; go_simp; with_reducible rfl)⟩)
    (ha : a.put N v = a' := by simp only [Act.put, List.setIfInBounds_toArray, List.set_cons_zero, List.set_cons_succ, i64_w, i32_w]; rfl) : wpAnyLast P .any ops Q S ds (fuel + 1) l a w := pure_ l' hi hN (any_of HT.out hc) hQ hy ha h
theorem zt_ {B : List Nat} (HT : Aside0 (rtab .any ops = T)) (HW : Aside0 (waitsOk T.2 B = true)) (hS : S w) (i : Nat) (h : wpAnyLast P .any ops Q S ds fuel l' a' w)
    (hi : ops[i]? = some oi := by exact rfl) (hN : oi.dst = N := by exact rfl) (hl : l.setIfInBounds i true = l' := by simp only [List.setIfInBounds_toArray, List.set_cons_zero, List.set_cons_succ]; exact rfl) (hc : takeW T B ds l.toList l'.toList i = true := by kernel_rfl)
    (hQ : ∀ c a w, Q (.panic c) (a.put oi.dst v) w → Q (.panic c) a w := by exact fun _ _ _ h => h) (hy : YieldsIf P ops S oi v a := by exact Or.inl ⟨by rfl, by (intro w' hS_; (try simp only [and_imp] at hS_); (repeat (obtain ⟨_, hS_⟩ := hS_)); go_simp; with_reducible rfl)⟩)
    (ha : a.put N v = a' := by simp only [Act.put, List.setIfInBounds_toArray, List.set_cons_zero, List.set_cons_succ, i64_w, i32_w]; rfl) : wpAnyLast P .any ops Q S ds (fuel + 1) l a w := take_ l' hi hN (take_ofW HT.out HW.out hc) hQ hy hS ha h
end
section
variable {P : Program} {ops : Array Oper} {Q : Exit → Act → World → Prop} {rest : List Oper} {o : Oper} {a : Act} {W : World}
theorem zx_ {N : Tmp} (cs : Array Value) (t : TypeId)
    (h : ∀ g, g = W.heap.size → ∀ w1, w1.heap[g]? = some (.cells cs t (0, 0)) → Below W.heap.size W w1 → wpList P ops Q rest (a.put o.dst (.pointer (some ⟨g, 0, none⟩))) w1)
    (hgd : o.guard = none := by rfl) (hd : o.dst = some N := by rfl)
    (hrun : (execOp a.eval o).run P W = .ok (.value (.pointer (some ⟨W.heap.size, 0, none⟩))) (W.alloc (.cells cs t (0, 0))) := by first | (go_simp; done) | (go_simp; rfl)) : wpList P ops Q (o :: rest) a W := box_event hgd hd hrun h
theorem zc_ {f : FuncId} {fn : Func} {ars : Array Operand} {ts : Array TypeId} {w : World} (N : Option Tmp) (hf : P.funcs[f]? = some fn) (args : Array Value)
    (h : Calls P f args w fun e w' => ∃ v, e = .returned v ∧ wpList P ops Q rest (a.put N v) w')
    (hd : o.dst = N := by exact rfl) (hg : o.guard = none := by exact rfl) (hname : (fn.name == "runtime.NumGoroutine") = false := by kernel_rfl) (hb : fn.body.isSome = true := by exact rfl)
    (hop : o.op = .call { callee := .value (.func f), args := ars, argTypes := ts } := by exact rfl) (hargs : ars.map a.eval = args := by (try simp only [List.map_toArray, List.map_cons, List.map_nil]); first | done | rfl | (simp only [List.length_drop, List.length_take]; rfl) | (simp only [Int.tmod_eq_emod_of_nonneg (Int.natCast_nonneg _)]; rfl)) : wpList P ops Q (o :: rest) a w :=
  goesL_ N hd hg hf hname hb args hop hargs h
end
end Go.Proofs.YtfjbjiklohjodaaGreatDoor.Q
namespace Go.Proofs.YtfjbjiklohjodaaGreatDoor.Q
open Go Go.RowKit Go.Proofs.YtfjbjiklohjodaaGreatDoorW.PrintWords Go.Proofs.YtfjbjiklohjodaaGreatDoorW.PrintLast Go.Proofs.YtfjbjiklohjodaaGreatDoorW.PrintMore
set_option linter.unusedVariables false
theorem zH_ {α β : Type} {x : Option α} {f : α → Option β} {r : β} (h : x.bind f = some r) : ∃ t, Aside0 (x = some t) ∧ f t = some r := by
  obtain ⟨t, h1, h2⟩ := Option.bind_eq_some_iff.mp h
  exact ⟨t, ⟨h1⟩, h2⟩
theorem A_ {P : Prop} (h : P) : Aside0 P := ⟨h⟩
theorem zq_ {P : Prop} (h : P := by repeat' first | (with_reducible exact LeO.refl _) | (with_reducible apply ih0) | (with_reducible apply ih1) | (with_reducible apply ih2) | (with_reducible apply ih3) | (with_reducible apply ih4) | (with_reducible apply ih5) | (with_reducible apply ih6) | (with_reducible apply ih7) | (with_reducible apply ih8) | (with_reducible apply ih9) | (with_reducible apply m0) | (with_reducible apply m1) | (with_reducible apply m2) | (with_reducible apply m3) | (with_reducible apply m4) | (with_reducible apply m5) | (with_reducible apply m6) | (with_reducible apply m7) | (with_reducible apply m8) | (with_reducible apply m9) | (with_reducible apply m10) | (with_reducible apply m11) | (with_reducible exact LeO.none _) | (with_reducible refine LeO.ite ?_ ?_) | (with_reducible refine LeO.bind ?_ (fun _ => ?_)) | apply ih0 | apply ih1 | apply ih2 | apply ih3 | apply ih4 | apply ih5 | apply ih6 | apply ih7 | apply ih8 | apply ih9 | apply m0 | apply m1 | apply m2 | apply m3 | apply m4 | apply m5 | apply m6 | apply m7 | apply m8 | apply m9 | apply m10 | apply m11 | exact LeO.none _ | refine LeO.ite ?_ ?_ | refine LeO.bind ?_ (fun _ => ?_)) : P := h
theorem d0_ {P : Prop} (h : P := by rw [hg]; exact (below_size (zB_ HB.out))) : P := h
theorem d1_ {P : Prop} (h : P := by repeat (first | (with_reducible first | exact HB.out | apply below_alloc | apply pw_below_drewN | apply below_drew1 | refine below_set ?_ GE101.out) | exact HB.out)) : P := h
theorem d2_ {P : Prop} (h : P := by first | omega | exact Nat.le_refl _) : P := h
theorem d3_ {P : Prop} (h : P := by (with_reducible repeat (first | refine blk_drewN ?_ _ | refine blk_drew ?_ | refine blk_alloc ?_ _)); exact BK101.out) : P := h
theorem d4_ {P : Prop} (h : P := by first | rfl | (simp [errW_none, errW_some] <;> rfl) | (simp [*, errW_none, errW_some] <;> rfl)) : P := h
theorem d5_ {P : Prop} (h : P := by repeat (first | exact (Kd.C_below HR0.out HB.out) | (with_reducible refine Kd.C_alloc ?_ _) | (with_reducible refine Kd.C_drewN ?_ _) | (with_reducible refine Kd.C_drew ?_))) : P := h
theorem d6_ {P : Prop} (h : P := by rw [hg]; exact (below_size (by repeat (first | (with_reducible first | exact HB.out | apply below_alloc | apply pw_below_drewN | apply below_drew1 | refine below_set ?_ GE101.out) | exact HB.out)))) : P := h
theorem d7_ {P : Prop} (h : P := by rw [hg]; exact Nat.ne_of_lt (blk_lt (g := gb101) (o := .cells #[.int .i64 a1_0, .bool a1_1, .int .i64 a1_2, .int .i64 a1_3] 116 (0, 0)) (zb_ BK101.out))) : P := h
theorem d8_ {P : Prop} (h : P := by rw [hg]; exact Nat.ne_of_gt (blk_lt (g := gb101) (o := .cells #[.int .i64 a1_0, .bool a1_1, .int .i64 a1_2, .int .i64 a1_3] 116 (0, 0)) (zb_ BK101.out))) : P := h
theorem d9_ {P : Prop} (h : P := by repeat (first | (with_reducible first | exact HB.out | apply below_alloc | apply pw_below_drewN | apply below_drew1 | refine below_set ?_ GE101.out | refine below_set ?_ GE106.out) | exact HB.out)) : P := h
theorem d10_ {P : Prop} (h : P := by have : (0 : Int) < (a0.size : Int) := of_decide_eq_true (by first | (with_reducible assumption) | assumption); omega) : P := h
theorem d11_ {P : Prop} (h : P := by first | (with_reducible assumption) | assumption) : P := h
theorem d12_ {P : Prop} (h : P := by rw [hg]; exact Nat.ne_of_lt (blk_lt (g := gb101) (o := .cells #[.int .i64 x102000_1, .int .i64 x102001_1] 62 (0, 0)) (zb_ BK101.out))) : P := h
theorem d13_ {P : Prop} (h : P := by rw [hg]; exact Nat.ne_of_gt (blk_lt (g := gb101) (o := .cells #[.int .i64 x102000_1, .int .i64 x102001_1] 62 (0, 0)) (zb_ BK101.out))) : P := h
theorem d14_ {P : Prop} (h : P := by repeat (first | (with_reducible first | exact HB.out | apply below_alloc | apply pw_below_drewN | apply below_drew1 | refine below_set ?_ GE101.out | refine below_set ?_ GE105.out) | exact HB.out)) : P := h
theorem d15_ {P : Prop} (h : P := by first | (go_simp; done) | (go_simp; rfl)) : P := h
theorem d16_ {P : Prop} (h : P := by exact (Reps.none _ _)) : P := h
theorem d17_ {P : Prop} (h : P := by (with_reducible repeat (first | apply Kd.R_alloc | apply Kd.R_drewN | apply Kd.R_drew)); exact HO103.out) : P := h
theorem d18_ {P : Prop} (h : P := by repeat (first | (with_reducible first | exact HB.out | apply below_alloc | apply pw_below_drewN | apply below_drew1) | exact HB.out)) : P := h
theorem d19_ {P : Prop} (h : P := by exact (by repeat (first | (with_reducible first | exact HB.out | apply below_alloc | apply pw_below_drewN | apply below_drew1 | refine below_set ?_ GE108.out) | exact HB.out))) : P := h
theorem d20_ {P : Prop} (h : P := by exact (zR_ (Kd.R_mono (Kd.R_far (p := ⟨gb108, 1, none⟩) (Kd.R_far (p := ⟨gb108, 0, none⟩) (Kd.R_types HO_3.out BK108.out (by decide)) (fun _ hk => hk.2) (.int .i64 t105)) (fun _ hk => hk.2) (.int .i64 t106)) (fun _ hk => trivial)))) : P := h
theorem d21_ {P : Prop} (h : P := by exact (below_size (by repeat (first | (with_reducible first | exact HB.out | apply below_alloc | apply pw_below_drewN | apply below_drew1 | refine below_set ?_ GE108.out) | exact HB.out)))) : P := h
theorem d22_ {P : Prop} (h : P := by (with_reducible repeat (first | refine blk_drewN ?_ _ | refine blk_drew ?_ | refine blk_alloc ?_ _)); refine blk_put (cs := #[.int .i64 t105, .int .i64 0]) ?_ 1 _ rfl; (with_reducible repeat (first | refine blk_drewN ?_ _ | refine blk_drew ?_ | refine blk_alloc ?_ _)); refine blk_put (cs := #[.int .i64 0, .int .i64 0]) ?_ 0 _ rfl; (with_reducible repeat (first | refine blk_drewN ?_ _ | refine blk_drew ?_ | refine blk_alloc ?_ _)); exact BK108.out) : P := h
theorem d23_ {P : Prop} (h : P := by have := HK1.out; omega) : P := h
theorem d24_ {P : Prop} (h : P := by (with_reducible repeat (first | apply Kd.R_alloc | apply Kd.R_drewN | apply Kd.R_drew)); exact HO111.out) : P := h
theorem d25_ {P : Prop} (h : P := by repeat (first | (with_reducible first | exact HB.out | apply below_alloc | apply pw_below_drewN | apply below_drew1 | refine below_set ?_ GE108.out) | exact HB.out)) : P := h
theorem d26_ {P : Prop} (h : P := by (with_reducible repeat (first | apply Kd.R_alloc | apply Kd.R_drewN | apply Kd.R_drew)); exact HO_3.out) : P := h
theorem d27_ {P : Prop} (h : P := by (with_reducible repeat (first | apply Kd.R_alloc | apply Kd.R_drewN | apply Kd.R_drew)); exact Kd.R_mono HO103.out (fun _ hk => hk.1)) : P := h
theorem d28_ {P : Prop} (h : P := by repeat (first | (with_reducible first | exact HB.out | apply below_alloc | apply pw_below_drewN | apply below_drew1 | refine below_set ?_ GE112.out) | exact HB.out)) : P := h
theorem d29_ {P : Prop} (h : P := by (with_reducible repeat (first | refine blk_drewN ?_ _ | refine blk_drew ?_ | refine blk_alloc ?_ _)); refine blk_put (cs := #[.int .i64 t108, .bool t109, .int .i64 t110, .int .i64 0]) ?_ 3 _ rfl; (with_reducible repeat (first | refine blk_drewN ?_ _ | refine blk_drew ?_ | refine blk_alloc ?_ _)); refine blk_put (cs := #[.int .i64 t108, .bool t109, .int .i64 0, .int .i64 0]) ?_ 2 _ rfl; (with_reducible repeat (first | refine blk_drewN ?_ _ | refine blk_drew ?_ | refine blk_alloc ?_ _)); refine blk_put (cs := #[.int .i64 t108, .bool false, .int .i64 0, .int .i64 0]) ?_ 1 _ rfl; (with_reducible repeat (first | refine blk_drewN ?_ _ | refine blk_drew ?_ | refine blk_alloc ?_ _)); refine blk_put (cs := #[.int .i64 0, .bool false, .int .i64 0, .int .i64 0]) ?_ 0 _ rfl; (with_reducible repeat (first | refine blk_drewN ?_ _ | refine blk_drew ?_ | refine blk_alloc ?_ _)); exact BK112.out) : P := h
theorem d30_ {P : Prop} (h : P := by (with_reducible repeat (first | apply Kd.V_alloc | apply Kd.V_drewN | apply Kd.V_drew)); exact HO0.out) : P := h
theorem d31_ {P : Prop} (h : P := by repeat (first | exact (Kd.V_reads' HO_0.out).2.2 | (with_reducible refine Kd.C_alloc ?_ _) | (with_reducible refine Kd.C_drewN ?_ _) | (with_reducible refine Kd.C_drew ?_))) : P := h
theorem d32_ {P : Prop} (h : P := by (with_reducible repeat (first | apply Kd.V_alloc | apply Kd.V_drewN | apply Kd.V_drew)); exact Kd.V_mono HO_0.out (fun _ hk => hk.1)) : P := h
theorem d33_ {P : Prop} (h : P := by (with_reducible repeat (first | apply Kd.V_alloc | apply Kd.V_drewN | apply Kd.V_drew)); exact HO_0.out) : P := h
theorem d34_ {P : Prop} (h : P := by (with_reducible repeat (first | refine blk_drewN ?_ _ | refine blk_drew ?_ | refine blk_alloc ?_ _)); refine blk_far ?_ NB101_113.out _; (with_reducible repeat (first | refine blk_drewN ?_ _ | refine blk_drew ?_ | refine blk_alloc ?_ _)); refine blk_far ?_ NB101_113.out _; (with_reducible repeat (first | refine blk_drewN ?_ _ | refine blk_drew ?_ | refine blk_alloc ?_ _)); exact BK101.out) : P := h
theorem d35_ {P : Prop} (h : P := by repeat (first | (with_reducible first | exact HB.out | apply below_alloc | apply pw_below_drewN | apply below_drew1 | refine below_set ?_ GE101.out | refine below_set ?_ GE113.out) | exact HB.out)) : P := h
theorem d36_ {P : Prop} (h : P := by repeat (first | (with_reducible first | exact HB.out | apply below_alloc | apply pw_below_drewN | apply below_drew1 | refine below_set ?_ GE105.out) | exact HB.out)) : P := h
theorem d37_ {P : Prop} (h : P := by repeat (first | exact (Kd.V_reads' HO105.out).2.2 | (with_reducible refine Kd.C_alloc ?_ _) | (with_reducible refine Kd.C_drewN ?_ _) | (with_reducible refine Kd.C_drew ?_))) : P := h
theorem d38_ {P : Prop} (h : P := by repeat (first | exact (Kd.R_reads' HO111.out).2.2 | (with_reducible refine Kd.C_alloc ?_ _) | (with_reducible refine Kd.C_drewN ?_ _) | (with_reducible refine Kd.C_drew ?_))) : P := h
theorem d39_ {P : Prop} (h : P := by repeat (first | exact (Kd.V_reads' HO0.out).2.2 | (with_reducible refine Kd.C_alloc ?_ _) | (with_reducible refine Kd.C_drewN ?_ _) | (with_reducible refine Kd.C_drew ?_))) : P := h
theorem d40_ {P : Prop} (h : P := by exact (Kd.V_reads' HO0.out).2.1) : P := h
theorem d41_ {P : Prop} (h : P := by repeat (first | exact Drawn0.refl _ | apply Drawn0.step)) : P := h
theorem d42_ {P : Prop} (h : P := by first | rfl | (simp; done) | (simp [*]; done)) : P := h
theorem d43_ {P : Prop} (h : P := by rw [hg]; exact (by first | exact HK.out.1 | exact (show Kept w _ (fun k_ => P0_ k_) from by repeat (first | (with_reducible first | exact HK.out | apply Kept.alloc | apply Kept.drewN | apply Kept.drew) | exact HK.out)).1)) : P := h
theorem d44_ {P : Prop} (h : P := by repeat (first | (with_reducible first | exact HK.out | apply Kept.alloc | apply Kept.drewN | apply Kept.drew) | exact HK.out)) : P := h
theorem d45_ {P : Prop} (h : P := by (with_reducible repeat (first | apply Kd.R_alloc | apply Kd.R_drewN | apply Kd.R_drew)); exact HO0.out) : P := h
theorem d46_ {P : Prop} (h : P := by repeat (first | (with_reducible first | exact HK.out | apply Kept.alloc | apply Kept.drewN | apply Kept.drew | refine Kept.setCell ?_ (.inr GW101.out) _) | exact HK.out)) : P := h
theorem d47_ {P : Prop} (h : P := by (with_reducible repeat (first | apply Kd.R_alloc | apply Kd.R_drewN | apply Kd.R_drew)); exact HO_0.out) : P := h
theorem d48_ {P : Prop} (h : P := by exact k111_mkM _ _ _ (⟨wrap64 (10 + (l0.length : Int)), (⟨a1_0, a1_1⟩ : S62)⟩ : S111)) : P := h
theorem d49_ {P : Prop} (h : P := by exact (by repeat (first | (with_reducible first | exact HB.out | apply below_alloc | apply pw_below_drewN | apply below_drew1 | refine below_set ?_ GE101.out) | exact HB.out))) : P := h
theorem d50_ {P : Prop} (h : P := by exact (fun k_ hk => (.inr (Nat.le_trans (by first | exact HK.out.1 | exact (show Kept w _ (fun k_ => P0_ k_) from by repeat (first | (with_reducible first | exact HK.out | apply Kept.alloc | apply Kept.drewN | apply Kept.drew | refine Kept.setCell ?_ (.inr GW101.out) _) | exact HK.out)).1) hk)))) : P := h
theorem d51_ {P : Prop} (h : P := by exact (below_size (by repeat (first | (with_reducible first | exact HB.out | apply below_alloc | apply pw_below_drewN | apply below_drew1 | refine below_set ?_ GE101.out) | exact HB.out)))) : P := h
theorem d52_ {P : Prop} (h : P := by have := LMc13.out; omega) : P := h
theorem d53_ {P : Prop} (h : P := by (with_reducible repeat (first | apply Kd.R_alloc | apply Kd.R_drewN | apply Kd.R_drew)); exact HO106.out) : P := h
theorem d54_ {P : Prop} (h : P := by first | trivial | rfl | (intro hq_; rfl) | (intro hq_; cases hq_)) : P := h
theorem d56_ {P : Prop} (h : P := by (with_reducible repeat (first | refine blk_drewN ?_ _ | refine blk_drew ?_ | refine blk_alloc ?_ _)); exact BK102.out) : P := h
theorem d69_ {P : Prop} (h : P := by (with_reducible repeat (first | apply Kd.R_alloc | apply Kd.R_drewN | apply Kd.R_drew)); exact HO104.out) : P := h
theorem d70_ {P : Prop} (h : P := by (with_reducible repeat (first | apply RQ_alloc | apply RQ_drewN | apply RQ_drew)); exact HO0.out) : P := h
theorem d71_ {P : Prop} (h : P := by (with_reducible repeat (first | apply RQ_alloc | apply RQ_drewN | apply RQ_drew)); exact HO_0.out) : P := h
theorem d72_ {P : Prop} (h : P := by rw [hg]; exact (by first | exact HK.out.1 | exact (show Kept w _ (fun k_ => P0_ k_ ∨ P1_1_ k_) from by repeat (first | (with_reducible first | exact HK.out | apply Kept.alloc | apply Kept.drewN | apply Kept.drew) | exact HK.out)).1)) : P := h
theorem d73_ {P : Prop} (h : P := by rw [hg]; exact (by first | exact HK.out.1 | exact (show Kept w _ (fun k_ => P0_ k_ ∨ P1_1_ k_) from by repeat (first | (with_reducible first | exact HK.out | apply Kept.alloc | apply Kept.drewN | apply Kept.drew | refine Kept.setCell ?_ (.inr GW101.out) _) | exact HK.out)).1)) : P := h
theorem d74_ {P : Prop} (h : P := by rw [hg]; exact Nat.ne_of_lt (blk_lt (g := gb101) (o := .cells #[.string a1_0, .slice Ao7 l1_1.length co7] 26 (0, 0)) (zb_ BK101.out))) : P := h
theorem d75_ {P : Prop} (h : P := by rw [hg]; exact Nat.ne_of_gt (blk_lt (g := gb101) (o := .cells #[.string a1_0, .slice Ao7 l1_1.length co7] 26 (0, 0)) (zb_ BK101.out))) : P := h
theorem d76_ {P : Prop} (h : P := by repeat (first | (with_reducible first | exact HK.out | apply Kept.alloc | apply Kept.drewN | apply Kept.drew | refine Kept.setCell ?_ (.inr GW101.out) _ | refine Kept.setCell ?_ (.inr GW102.out) _) | exact HK.out)) : P := h
theorem d77_ {P : Prop} (h : P := by repeat (first | (with_reducible first | exact HB.out | apply below_alloc | apply pw_below_drewN | apply below_drew1 | refine below_set ?_ GE101.out | refine below_set ?_ GE102.out) | exact HB.out)) : P := h
theorem d78_ {P : Prop} (h : P := by (with_reducible repeat (first | refine blk_drewN ?_ _ | refine blk_drew ?_ | refine blk_alloc ?_ _)); refine blk_put (cs := #[.string a1_0, .slice none 0 0]) ?_ 1 _ rfl; (with_reducible repeat (first | refine blk_drewN ?_ _ | refine blk_drew ?_ | refine blk_alloc ?_ _)); refine blk_put (cs := #[.string (⟨#[]⟩ : ByteArray), .slice none 0 0]) ?_ 0 _ rfl; (with_reducible repeat (first | refine blk_drewN ?_ _ | refine blk_drew ?_ | refine blk_alloc ?_ _)); exact BK102.out) : P := h
theorem d82_ {P : Prop} (h : P := by (try simp only [List.map_toArray, List.map_cons, List.map_nil]); first | done | (simp only [hji21]; rfl) | rfl | (simp only [List.length_drop, List.length_take]; rfl)) : P := h
theorem d83_ {P : Prop} (h : P := by first | exact HK.out.1 | exact (show Kept w _ (fun k_ => P0_ k_ ∨ P1_1_ k_) from by repeat (first | (with_reducible first | exact HK.out | apply Kept.alloc | apply Kept.drewN | apply Kept.drew | refine Kept.setCell ?_ (.inr GW101.out) _ | refine Kept.setCell ?_ (.inr GW102.out) _) | exact HK.out)).1) : P := h
theorem d84_ {P : Prop} (h : P := by exact (by repeat (first | (with_reducible first | exact HB.out | apply below_alloc | apply pw_below_drewN | apply below_drew1 | refine below_set ?_ GE101.out | refine below_set ?_ GE102.out) | exact HB.out))) : P := h
theorem d85_ {P : Prop} (h : P := by exact (below_size (by repeat (first | (with_reducible first | exact HB.out | apply below_alloc | apply pw_below_drewN | apply below_drew1 | refine below_set ?_ GE101.out | refine below_set ?_ GE102.out) | exact HB.out)))) : P := h
theorem d86_ {P : Prop} (h : P := by rw [hg]; exact (by first | exact HK.out.1 | exact (show Kept w _ (fun k_ => P0_ k_ ∨ P1_1_ k_) from by repeat (first | (with_reducible first | exact HK.out | apply Kept.alloc | apply Kept.drewN | apply Kept.drew | refine Kept.setCell ?_ (.inr GW101.out) _ | refine Kept.setCell ?_ (.inr GW102.out) _) | exact HK.out)).1)) : P := h
theorem d87_ {P : Prop} (h : P := by rw [hg]; exact (below_size (by repeat (first | (with_reducible first | exact HB.out | apply below_alloc | apply pw_below_drewN | apply below_drew1 | refine below_set ?_ GE101.out | refine below_set ?_ GE102.out) | exact HB.out)))) : P := h
theorem d88_ {P : Prop} (h : P := by rw [hg]; exact Nat.ne_of_lt (blk_lt (g := gb102) (o := .cells #[.string (⟨#[]⟩ : ByteArray), .slice none 0 0] 26 (0, 0)) (zb_ BK102.out))) : P := h
theorem d89_ {P : Prop} (h : P := by rw [hg]; exact Nat.ne_of_gt (blk_lt (g := gb102) (o := .cells #[.string (⟨#[]⟩ : ByteArray), .slice none 0 0] 26 (0, 0)) (zb_ BK102.out))) : P := h
theorem d90_ {P : Prop} (h : P := by (with_reducible repeat (first | refine blk_drewN ?_ _ | refine blk_drew ?_ | refine blk_alloc ?_ _)); refine blk_far ?_ NB102_113.out _; (with_reducible repeat (first | refine blk_drewN ?_ _ | refine blk_drew ?_ | refine blk_alloc ?_ _)); refine blk_far ?_ NB102_113.out _; (with_reducible repeat (first | refine blk_drewN ?_ _ | refine blk_drew ?_ | refine blk_alloc ?_ _)); exact BK102.out) : P := h
theorem d91_ {P : Prop} (h : P := by (with_reducible repeat (first | refine blk_drewN ?_ _ | refine blk_drew ?_ | refine blk_alloc ?_ _)); refine blk_put (cs := #[.string (a1_0 ++ (a3.extract ((ji21) : Int).toNat a3.size)), .slice none 0 0]) ?_ 1 _ rfl; (with_reducible repeat (first | refine blk_drewN ?_ _ | refine blk_drew ?_ | refine blk_alloc ?_ _)); refine blk_put (cs := #[.string (⟨#[]⟩ : ByteArray), .slice none 0 0]) ?_ 0 _ rfl; (with_reducible repeat (first | refine blk_drewN ?_ _ | refine blk_drew ?_ | refine blk_alloc ?_ _)); exact BK113.out) : P := h
theorem d92_ {P : Prop} (h : P := by repeat (first | (with_reducible first | exact HK.out | apply Kept.alloc | apply Kept.drewN | apply Kept.drew | refine Kept.setCell ?_ (.inr GW101.out) _ | refine Kept.setCell ?_ (.inr GW102.out) _ | refine Kept.setCell ?_ (.inr GW113.out) _) | exact HK.out)) : P := h
theorem d93_ {P : Prop} (h : P := by repeat (first | (with_reducible first | exact HB.out | apply below_alloc | apply pw_below_drewN | apply below_drew1 | refine below_set ?_ GE101.out | refine below_set ?_ GE102.out | refine below_set ?_ GE113.out) | exact HB.out)) : P := h
theorem d94_ {P : Prop} (h : P := by first | exact HK.out.1 | exact (show Kept w _ (fun k_ => P0_ k_ ∨ P1_1_ k_) from by repeat (first | (with_reducible first | exact HK.out | apply Kept.alloc | apply Kept.drewN | apply Kept.drew | refine Kept.setCell ?_ (.inr GW101.out) _ | refine Kept.setCell ?_ (.inr GW102.out) _ | refine Kept.setCell ?_ (.inr GW113.out) _) | exact HK.out)).1) : P := h
theorem d95_ {P : Prop} (h : P := by exact (by repeat (first | (with_reducible first | exact HB.out | apply below_alloc | apply pw_below_drewN | apply below_drew1 | refine below_set ?_ GE101.out | refine below_set ?_ GE102.out | refine below_set ?_ GE113.out) | exact HB.out))) : P := h
theorem d97_ {P : Prop} (h : P := by exact (below_size (by repeat (first | (with_reducible first | exact HB.out | apply below_alloc | apply pw_below_drewN | apply below_drew1 | refine below_set ?_ GE101.out | refine below_set ?_ GE102.out | refine below_set ?_ GE113.out) | exact HB.out)))) : P := h
theorem d98_ {P : Prop} (h : P := by first | (rw [add_block]; exact hn124_0) | (show (Addr.add _ _).block ≠ _; rw [add_block]; exact hn124_0) | exact hn124_0) : P := h
theorem d99_ {P : Prop} (h : P := by (with_reducible repeat (first | refine blk_drewN ?_ _ | refine blk_drew ?_ | refine blk_alloc ?_ _)); refine blk_far ?_ NB101_113.out _; (with_reducible repeat (first | refine blk_drewN ?_ _ | refine blk_drew ?_ | refine blk_alloc ?_ _)); exact BK101.out) : P := h
theorem d100_ {P : Prop} (h : P := by (with_reducible repeat (first | refine blk_drewN ?_ _ | refine blk_drew ?_ | refine blk_alloc ?_ _)); refine blk_far ?_ NB102_113.out _; (with_reducible repeat (first | refine blk_drewN ?_ _ | refine blk_drew ?_ | refine blk_alloc ?_ _)); exact BK102.out) : P := h
theorem d101_ {P : Prop} (h : P := by (with_reducible repeat (first | refine blk_drewN ?_ _ | refine blk_drew ?_ | refine blk_alloc ?_ _)); refine blk_put (cs := #[.string (a1_0 ++ (a3.extract ((ji21) : Int).toNat a3.size)), u114001]) ?_ 1 _ rfl; (with_reducible repeat (first | refine blk_drewN ?_ _ | refine blk_drew ?_ | refine blk_alloc ?_ _)); exact BK113.out) : P := h
theorem d102_ {P : Prop} (h : P := by first | (rw [add_block]; exact hn131_0) | (show (Addr.add _ _).block ≠ _; rw [add_block]; exact hn131_0) | exact hn131_0) : P := h
theorem d103_ {P : Prop} (h : P := by (with_reducible repeat (first | refine blk_drewN ?_ _ | refine blk_drew ?_ | refine blk_alloc ?_ _)); refine blk_put (cs := #[.string (a1_0 ++ (a3.extract ((ji21) : Int).toNat a3.size)), .slice none 0 0]) ?_ 1 _ rfl; (with_reducible repeat (first | refine blk_drewN ?_ _ | refine blk_drew ?_ | refine blk_alloc ?_ _)); refine blk_put (cs := #[.string (⟨#[]⟩ : ByteArray), .slice none 0 0]) ?_ 0 _ rfl; (with_reducible repeat (first | refine blk_drewN ?_ _ | refine blk_drew ?_ | refine blk_alloc ?_ _)); exact BK102.out) : P := h
theorem d104_ {P : Prop} (h : P := by first | rfl | (simp [errW_none, errW_some] <;> rfl) | (simp only [← hji21]; first | rfl | (simp [errW_none, errW_some] <;> rfl)) | (simp [*, errW_none, errW_some] <;> rfl)) : P := h
theorem d105_ {P : Prop} (h : P := by (with_reducible repeat (first | apply RQ_alloc | apply RQ_drewN | apply RQ_drew)); exact RQ_mono (RQ_far (p := ⟨gb102, 1, none⟩) (RQ_far (p := ⟨gb102, 0, none⟩) (RQ_types HO_0.out BK102.out (by decide)) (fun _ hk => hk.2) (.string a1_0)) (fun _ hk => hk.2) (.slice Ao7 l1_1.length co7)) (fun _ hk => hk.1)) : P := h
theorem d106_ {P : Prop} (h : P := by (with_reducible repeat (first | apply RQ_alloc | apply RQ_drewN | apply RQ_drew)); exact RQ_mono (RQ_far (p := ⟨gb102, 1, none⟩) (RQ_far (p := ⟨gb102, 0, none⟩) (RQ_types HO_102001.out BK102.out (by decide)) (fun _ hk => hk.2) (.string a1_0)) (fun _ hk => hk.2) (.slice Ao7 l1_1.length co7)) (fun _ hk => hk.1)) : P := h
theorem d107_ {P : Prop} (h : P := by repeat (first | exact (RQ_reads' HO_102001.out).2.2 | (with_reducible refine Kd.C_alloc ?_ _) | (with_reducible refine Kd.C_drewN ?_ _) | (with_reducible refine Kd.C_drew ?_))) : P := h
theorem d108_ {P : Prop} (h : P := by exact (fun k_ hk => ⟨(.inr (Nat.le_trans (by first | exact HK.out.1 | exact (show Kept w _ (fun k_ => P0_ k_ ∨ P1_1_ k_) from by repeat (first | (with_reducible first | exact HK.out | apply Kept.alloc | apply Kept.drewN | apply Kept.drew | refine Kept.setCell ?_ (.inr GW101.out) _ | refine Kept.setCell ?_ (.inr GW102.out) _ | refine Kept.setCell ?_ (.inr GW113.out) _) | exact HK.out)).1) hk)), Kd.fresh' (RQ_lt (zr_ HO_102001.out)) k_ hk⟩)) : P := h
theorem d109_ {P : Prop} (h : P := by rw [hg]; exact Nat.ne_of_lt (blk_lt (g := gb101) (o := .cells #[.string a0_0, .slice A0_1 l0_1.length c0_1] 26 (0, 0)) (zb_ BK101.out))) : P := h
theorem d110_ {P : Prop} (h : P := by rw [hg]; exact Nat.ne_of_gt (blk_lt (g := gb101) (o := .cells #[.string a0_0, .slice A0_1 l0_1.length c0_1] 26 (0, 0)) (zb_ BK101.out))) : P := h
theorem d111_ {P : Prop} (h : P := by repeat (first | exact (Kd.C_below HR0_1.out HB.out) | (with_reducible refine Kd.C_alloc ?_ _) | (with_reducible refine Kd.C_drewN ?_ _) | (with_reducible refine Kd.C_drew ?_))) : P := h
theorem d112_ {P : Prop} (h : P := by (with_reducible repeat (first | refine blk_drewN ?_ _ | refine blk_drew ?_ | refine blk_alloc ?_ _)); refine blk_put (cs := #[.string a0_0, .slice none 0 0]) ?_ 1 _ rfl; (with_reducible repeat (first | refine blk_drewN ?_ _ | refine blk_drew ?_ | refine blk_alloc ?_ _)); refine blk_put (cs := #[.string (⟨#[]⟩ : ByteArray), .slice none 0 0]) ?_ 0 _ rfl; (with_reducible repeat (first | refine blk_drewN ?_ _ | refine blk_drew ?_ | refine blk_alloc ?_ _)); exact BK102.out) : P := h
theorem d113_ {P : Prop} (h : P := by rw [hg]; exact Nat.ne_of_lt (blk_lt (g := gb101) (o := .cells #[.string a1_0, .slice A1_1 l1_1.length c1_1] 26 (0, 0)) (zb_ BK101.out))) : P := h
theorem d114_ {P : Prop} (h : P := by rw [hg]; exact Nat.ne_of_gt (blk_lt (g := gb101) (o := .cells #[.string a1_0, .slice A1_1 l1_1.length c1_1] 26 (0, 0)) (zb_ BK101.out))) : P := h
theorem d115_ {P : Prop} (h : P := by repeat (first | exact (Kd.C_below HR1_1.out HB.out) | (with_reducible refine Kd.C_alloc ?_ _) | (with_reducible refine Kd.C_drewN ?_ _) | (with_reducible refine Kd.C_drew ?_))) : P := h
theorem d116_ {P : Prop} (h : P := by (with_reducible repeat (first | refine blk_drewN ?_ _ | refine blk_drew ?_ | refine blk_alloc ?_ _)); refine blk_put (cs := #[.string (⟨#[]⟩ : ByteArray), .slice none 0 0]) ?_ 1 _ rfl; (with_reducible repeat (first | refine blk_drewN ?_ _ | refine blk_drew ?_ | refine blk_alloc ?_ _)); refine blk_put (cs := #[.string (⟨#[]⟩ : ByteArray), .slice none 0 0]) ?_ 0 _ rfl; (with_reducible repeat (first | refine blk_drewN ?_ _ | refine blk_drew ?_ | refine blk_alloc ?_ _)); exact BK102.out) : P := h
theorem d117_ {P : Prop} (h : P := by exact hV.next (by repeat (first | (with_reducible first | exact HB.out | apply below_alloc | apply pw_below_drewN | apply below_drew1 | refine below_set ?_ GE101.out) | exact HB.out))) : P := h
theorem d118_ {P : Prop} (h : P := by rw [← hq_]; exact (zv_ (Kd.V_mono HO0_1.out (fun _ hk => by first | exact ⟨hk.1.1, ⟨hk.1.2, hk.2⟩⟩ | exact hk | exact ⟨hk.1, hk.2.2, hk.2.1⟩)))) : P := h
theorem d119_ {P : Prop} (h : P := by rw [← hq_]; exact (zv_ (Kd.V_mono HO1.out (fun _ hk => by first | exact ⟨hk.1.1, ⟨hk.1.2, hk.2⟩⟩ | exact hk | exact ⟨hk.1, hk.2.2, hk.2.1⟩)))) : P := h
theorem d120_ {P : Prop} (h : P := by rw [← hq_]; exact (by repeat (first | (with_reducible first | exact HB.out | apply below_alloc | apply pw_below_drewN | apply below_drew1 | refine below_set ?_ GE101.out | refine below_set ?_ GE102.out) | exact HB.out))) : P := h
theorem d121_ {P : Prop} (h : P := by exact hV.next (by repeat (first | (with_reducible first | exact HB.out | apply below_alloc | apply pw_below_drewN | apply below_drew1 | refine below_set ?_ GE101.out | refine below_set ?_ GE102.out) | exact HB.out))) : P := h
theorem d122_ {P : Prop} (h : P := by (with_reducible repeat (first | apply Kd.V_alloc | apply Kd.V_drewN | apply Kd.V_drew)); exact Kd.V_mono HO0_1.out (fun _ hk => by first | exact ⟨hk.1.1, ⟨hk.1.2, hk.2⟩⟩ | exact hk | exact ⟨hk.1, hk.2.2, hk.2.1⟩)) : P := h
theorem d123_ {P : Prop} (h : P := by repeat (first | (with_reducible first | exact HB.out | apply below_alloc | apply pw_below_drewN | apply below_drew1 | refine below_set ?_ GE101.out | refine below_set ?_ GE102.out | refine below_set ?_ GE125.out) | exact HB.out)) : P := h
theorem d124_ {P : Prop} (h : P := by repeat (first | exact (Kd.V_reads' HO1_1.out).2.2 | (with_reducible refine Kd.C_alloc ?_ _) | (with_reducible refine Kd.C_drewN ?_ _) | (with_reducible refine Kd.C_drew ?_))) : P := h
theorem d125_ {P : Prop} (h : P := by (with_reducible repeat (first | apply Kd.V_alloc | apply Kd.V_drewN | apply Kd.V_drew)); exact Kd.V_mono HO0.out (fun _ hk => ⟨hk.1.1, ⟨hk.1.2, hk.2⟩⟩)) : P := h
theorem d126_ {P : Prop} (h : P := by (with_reducible repeat (first | apply Kd.V_alloc | apply Kd.V_drewN | apply Kd.V_drew)); exact Kd.V_mono HO1_1.out (fun _ hk => ⟨hk.1.1, ⟨hk.1.2, hk.2⟩⟩)) : P := h
theorem d127_ {P : Prop} (h : P := by repeat (first | (with_reducible first | exact HB.out | apply below_alloc | apply pw_below_drewN | apply below_drew1 | refine below_set ?_ GE101.out | refine below_set ?_ GE102.out | refine below_set ?_ GE115.out) | exact HB.out)) : P := h
end Go.Proofs.YtfjbjiklohjodaaGreatDoor.Q
namespace Go.Proofs.YtfjbjiklohjodaaGreatDoor.Q
open Go.RowKit Go.Proofs.YtfjbjiklohjodaaGreatDoorW.PrintWords Go.Proofs.YtfjbjiklohjodaaGreatDoorW.PrintMore Go.Proofs.YtfjbjiklohjodaaGreatDoor.Z
set_option linter.unusedVariables false
set_option linter.unusedSimpArgs false
def impl_EndInside.f (a0_0 : Int) (a0_1 : Int) : Option Bool := some (insideB ⟨a0_0, a0_1⟩)
theorem impl_EndInside.calls (a0_0 : Int) (a0_1 : Int) (r : Bool) (w : World) (h : impl_EndInside.f a0_0 a0_1 = some r) :
    Calls Tryz.prog 75 #[.agg #[.int .i64 a0_0, .int .i64 a0_1]] w fun e w' => e = .returned (.bool r) ∧ Below w.heap.size w w' := by
  obtain rfl := Option.some.inj h
  exact impl_EndInside ⟨a0_0, a0_1⟩ w
def impl_EndOutside.f (a0_0 : Int) (a0_1 : Int) : Option Bool := some (outsideB ⟨a0_0, a0_1⟩)
theorem impl_EndOutside.calls (a0_0 : Int) (a0_1 : Int) (r : Bool) (w : World) (h : impl_EndOutside.f a0_0 a0_1 = some r) :
    Calls Tryz.prog 103 #[.agg #[.int .i64 a0_0, .int .i64 a0_1]] w fun e w' => e = .returned (.bool r) ∧ Below w.heap.size w w' := by
  obtain rfl := Option.some.inj h
  exact impl_EndOutside ⟨a0_0, a0_1⟩ w
def impl_EndDoor.f (a0_0 : Int) (a0_1 : Int) : Option Bool := some (doorB ⟨a0_0, a0_1⟩)
theorem impl_EndDoor.calls (a0_0 : Int) (a0_1 : Int) (r : Bool) (w : World) (h : impl_EndDoor.f a0_0 a0_1 = some r) :
    Calls Tryz.prog 147 #[.agg #[.int .i64 a0_0, .int .i64 a0_1]] w fun e w' => e = .returned (.bool r) ∧ Below w.heap.size w w' := by
  obtain rfl := Option.some.inj h
  exact impl_EndDoor ⟨a0_0, a0_1⟩ w
def impl_End_any.f (a0_0 : Int) (a0_1 : Int) : Option Bool := some (anyB ⟨a0_0, a0_1⟩)
theorem impl_End_any.calls (a0_0 : Int) (a0_1 : Int) (r : Bool) (w : World) (h : impl_End_any.f a0_0 a0_1 = some r) :
    Calls Tryz.prog 146 #[.agg #[.int .i64 a0_0, .int .i64 a0_1]] w fun e w' => e = .returned (.bool r) ∧ Below w.heap.size w w' := by
  obtain rfl := Option.some.inj h
  exact impl_any ⟨a0_0, a0_1⟩ w
def spec_EndInside.f (a0_0 : Int) (a0_1 : Int) : Option Bool := some (insideB ⟨a0_0, a0_1⟩)
theorem spec_EndInside.calls (a0_0 : Int) (a0_1 : Int) (r : Bool) (w : World) (h : spec_EndInside.f a0_0 a0_1 = some r) :
    Calls Tryz.prog 72 #[.agg #[.int .i64 a0_0, .int .i64 a0_1]] w fun e w' => e = .returned (.bool r) ∧ Below w.heap.size w w' := by
  obtain rfl := Option.some.inj h
  exact spec_EndInside ⟨a0_0, a0_1⟩ w
def spec_EndOutside.f (a0_0 : Int) (a0_1 : Int) : Option Bool := some (outsideB ⟨a0_0, a0_1⟩)
theorem spec_EndOutside.calls (a0_0 : Int) (a0_1 : Int) (r : Bool) (w : World) (h : spec_EndOutside.f a0_0 a0_1 = some r) :
    Calls Tryz.prog 100 #[.agg #[.int .i64 a0_0, .int .i64 a0_1]] w fun e w' => e = .returned (.bool r) ∧ Below w.heap.size w w' := by
  obtain rfl := Option.some.inj h
  exact spec_EndOutside ⟨a0_0, a0_1⟩ w
def spec_EndDoor.f (a0_0 : Int) (a0_1 : Int) : Option Bool := some (doorB ⟨a0_0, a0_1⟩)
theorem spec_EndDoor.calls (a0_0 : Int) (a0_1 : Int) (r : Bool) (w : World) (h : spec_EndDoor.f a0_0 a0_1 = some r) :
    Calls Tryz.prog 144 #[.agg #[.int .i64 a0_0, .int .i64 a0_1]] w fun e w' => e = .returned (.bool r) ∧ Below w.heap.size w w' := by
  obtain rfl := Option.some.inj h
  exact spec_EndDoor ⟨a0_0, a0_1⟩ w
def spec_l1Any.f (a0_0 : Int) (a0_1 : Int) : Option Bool := some (anyB ⟨a0_0, a0_1⟩)
theorem spec_l1Any.calls (a0_0 : Int) (a0_1 : Int) (r : Bool) (w : World) (h : spec_l1Any.f a0_0 a0_1 = some r) :
    Calls Tryz.prog 143 #[.agg #[.int .i64 a0_0, .int .i64 a0_1]] w fun e w' => e = .returned (.bool r) ∧ Below w.heap.size w w' := by
  obtain rfl := Option.some.inj h
  exact spec_l1Any ⟨a0_0, a0_1⟩ w
def spec_TextOk.f (a0 : ByteArray) : Option Bool := if a0.size ≤ 140737488355328 then some (textOk (bl a0)) else none
theorem spec_TextOk.calls (a0 : ByteArray) (r : Bool) (w : World) (h : spec_TextOk.f a0 = some r) :
    Calls Tryz.prog 22 #[.string a0] w fun e w' => e = .returned (.bool r) ∧ Below w.heap.size w w' := by
  unfold spec_TextOk.f at h
  split at h
  · rename_i hs
    obtain rfl := Option.some.inj h
    rw [← vS_bl]
    refine (spec_TextOk (bl a0) (by rw [bl_len]; exact hs) w).mono ?_
    rintro e w' ⟨rfl, rfl⟩
    exact ⟨rfl, Below.refl _ _⟩
  · cases h
def spec_l2Held.f (a0 : ByteArray) : Option Int := if a0.size ≤ 140737488355328 then some (heldN (bl a0)) else none
theorem spec_l2Held.calls (a0 : ByteArray) (r : Int) (w : World) (h : spec_l2Held.f a0 = some r) :
    Calls Tryz.prog 166 #[.string a0] w fun e w' => e = .returned (.int .i64 r) ∧ Below w.heap.size w w' := by
  unfold spec_l2Held.f at h
  split at h
  · rename_i hs
    obtain rfl := Option.some.inj h
    rw [← vS_bl]
    exact spec_l2Held (bl a0) (by rw [bl_len]; exact hs) w
  · cases h
def optE (o : Option En) : Int × Int × Bool := ((o.getD zEn).addr, (o.getD zEn).port, o.isSome)
def spec_EndRead.f (a0 : ByteArray) : Option (Int × Int × Bool) := if a0.size ≤ 100000000 then some (optE (endRead (bl a0))) else none
theorem spec_EndRead.calls (a0 : ByteArray) (r1 : Int) (r2 : Int) (r3 : Bool) (w : World) (h : spec_EndRead.f a0 = some (r1, r2, r3)) :
    Calls Tryz.prog 184 #[.string a0] w fun e w' => e = .returned (.tuple #[.agg #[.int .i64 r1, .int .i64 r2], .bool r3]) ∧ Below w.heap.size w w' := by
  unfold spec_EndRead.f at h
  split at h
  · rename_i hs
    have h2 := Option.some.inj h
    simp only [optE, Prod.mk.injEq] at h2
    obtain ⟨rfl, rfl, rfl⟩ := h2
    rw [← vS_bl]
    exact spec_EndRead (bl a0) (by rw [bl_len]; exact hs) w
  · cases h
noncomputable def impl_MapOk.f (l0 : List S111) : Option Bool := if l0.length ≤ 1099511627776 then some (mapOkB (l0.map prOf)) else none
theorem impl_MapOk.calls (A0 : Option Addr) (c0 : Nat) (l0 : List (S111)) (r : Bool) (w : World) (hr0 : Kd.C k111 w A0 l0.length l0) (hc0 : l0.length ≤ c0) (h : impl_MapOk.f l0 = some r) :
    Calls Tryz.prog 23 #[.slice A0 l0.length c0] w fun e w' => e = .returned (.bool r) ∧ Below w.heap.size w w' := by
  unfold impl_MapOk.f at h
  split at h
  · rename_i hs
    obtain rfl := Option.some.inj h
    exact impl_MapOk A0 l0.length c0 (l0.map prOf) w (C_pr hr0) hs hc0
  · cases h
noncomputable def spec_MapOk.f (l0 : List S111) : Option Bool := if l0.length ≤ 1099511627776 then some (mapOkB (l0.map prOf)) else none
theorem spec_MapOk.calls (A0 : Option Addr) (c0 : Nat) (l0 : List (S111)) (r : Bool) (w : World) (hr0 : Kd.C k111 w A0 l0.length l0) (hc0 : l0.length ≤ c0) (h : spec_MapOk.f l0 = some r) :
    Calls Tryz.prog 20 #[.slice A0 l0.length c0] w fun e w' => e = .returned (.bool r) ∧ Below w.heap.size w w' := by
  unfold spec_MapOk.f at h
  split at h
  · rename_i hs
    obtain rfl := Option.some.inj h
    exact spec_MapOk A0 l0.length c0 (l0.map prOf) w (C_pr hr0) hs
  · cases h
def impl_pairs_inside.f (l0 : List S111) (a1 : Int) : Option (Int × Int × Bool) := some (optE (insideFrom (l0.map prOf) a1 0))
theorem impl_pairs_inside.calls (A0 : Option Addr) (c0 : Nat) (l0 : List (S111)) (a1 : Int) (r1 : Int) (r2 : Int) (r3 : Bool) (w : World) (hr0 : Kd.C k111 w A0 l0.length l0) (hc0 : l0.length ≤ c0) (h : impl_pairs_inside.f l0 a1 = some (r1, r2, r3)) :
    Calls Tryz.prog 175 #[.slice A0 l0.length c0, .int .i64 a1] w fun e w' => e = .returned (.tuple #[.agg #[.int .i64 r1, .int .i64 r2], .bool r3]) ∧ Below w.heap.size w w' := by
  have h2 := Option.some.inj h
  simp only [optE, Prod.mk.injEq] at h2
  obtain ⟨rfl, rfl, rfl⟩ := h2
  exact impl_inside A0 l0.length c0 (l0.map prOf) a1 w (C_pr hr0)
def impl_pairs_port.f (l0 : List S111) (a1_0 : Int) (a1_1 : Int) : Option Int := some (portFrom (l0.map prOf) ⟨a1_0, a1_1⟩ 0)
theorem impl_pairs_port.calls (A0 : Option Addr) (c0 : Nat) (l0 : List (S111)) (a1_0 : Int) (a1_1 : Int) (r : Int) (w : World) (hr0 : Kd.C k111 w A0 l0.length l0) (hc0 : l0.length ≤ c0) (h : impl_pairs_port.f l0 a1_0 a1_1 = some r) :
    Calls Tryz.prog 76 #[.slice A0 l0.length c0, .agg #[.int .i64 a1_0, .int .i64 a1_1]] w fun e w' => e = .returned (.int .i64 r) ∧ Below w.heap.size w w' := by
  obtain rfl := Option.some.inj h
  exact impl_port A0 l0.length c0 (l0.map prOf) ⟨a1_0, a1_1⟩ w (C_pr hr0)
def spec_l3In.f (l0 : List S111) (a1 : Int) : Option (Int × Int × Bool) := if l0.length ≤ 1099511627776 ∧ -9223372036854775808 ≤ a1 ∧ a1 ≤ 9223372036854775807 then some (optE (l3InO (l0.map prOf) a1)) else none
theorem spec_l3In.calls (A0 : Option Addr) (c0 : Nat) (l0 : List (S111)) (a1 : Int) (r1 : Int) (r2 : Int) (r3 : Bool) (w : World) (hr0 : Kd.C k111 w A0 l0.length l0) (hc0 : l0.length ≤ c0) (h : spec_l3In.f l0 a1 = some (r1, r2, r3)) :
    Calls Tryz.prog 168 #[.slice A0 l0.length c0, .int .i64 a1] w fun e w' => e = .returned (.tuple #[.agg #[.int .i64 r1, .int .i64 r2], .bool r3]) ∧ Below w.heap.size w w' := by
  unfold spec_l3In.f at h
  split at h
  · rename_i hs
    have h2 := Option.some.inj h
    simp only [optE, Prod.mk.injEq] at h2
    obtain ⟨rfl, rfl, rfl⟩ := h2
    exact spec_l3In A0 l0.length c0 (l0.map prOf) a1 w (C_pr hr0) hs.1 hs.2
  · cases h
end Go.Proofs.YtfjbjiklohjodaaGreatDoor.Q
namespace Go.Proofs.YtfjbjiklohjodaaGreatDoor.Q
open Go.RowKit Go.Proofs.YtfjbjiklohjodaaGreatDoorW.PrintWords Go.Proofs.YtfjbjiklohjodaaGreatDoorW.PrintLast Go.Proofs.YtfjbjiklohjodaaGreatDoorW.PrintMore
attribute [local go_sem] max2_int min2_int max_two min_two max_three min_three max_four min_four
set_option linter.unusedVariables false
set_option linter.unusedSimpArgs false
noncomputable section
def spec_l3PieceIn.j0 : Nat → List (S111) → ByteArray → Bool → Int → Bool → Int → Int → Option (ByteArray)
 | 0, _, _, _, _, _, _, _ => none
 | k + 1, x0, x2, x17, x102000, x102001, x102002, x102003 => if x17 = true then (some x2) else ((spec_l3In.f x0 x102003).bind fun bt103 => (if bt103.2.2 = true then ((spec_EndText.f bt103.1 bt103.2.1).bind fun t107 => (if 1 + t107.size ≤ 9223372036854775807 then (if ((⟨#[64]⟩ : ByteArray) ++ t107).size + 1 ≤ 9223372036854775807 then (some (((⟨#[64]⟩ : ByteArray) ++ t107) ++ (⟨#[59]⟩ : ByteArray))) else (none)) else (none))) else (some x2)))
def spec_l3PieceIn.f (k : Nat) (l0 : List (S111)) (a1_0 : Int) (a1_1 : Bool) (a1_2 : Int) (a1_3 : Int) (a2 : ByteArray) : Option (ByteArray) := if a1_1 = true then ((spec_EndDoor.f a1_2 a1_3).bind fun t102 => (spec_l3PieceIn.j0 k l0 a2 (!t102) a1_0 a1_1 a1_2 a1_3)) else (spec_l3PieceIn.j0 k l0 a2 true a1_0 a1_1 a1_2 a1_3)
theorem spec_l3PieceIn.mono_l : ∀ k, (∀ y0 y1 y2 y3 y4 y5 y6, LeO (spec_l3PieceIn.j0 k y0 y1 y2 y3 y4 y5 y6) (spec_l3PieceIn.j0 (k + 1) y0 y1 y2 y3 y4 y5 y6))
 | 0 => fun _ _ _ _ _ _ _ r h => by simp [spec_l3PieceIn.j0] at h
 | k + 1 => by
  have ih0 := spec_l3PieceIn.mono_l k
  ·intro y0 y1 y2 y3 y4 y5 y6
   unfold spec_l3PieceIn.j0
   exact zq_
theorem spec_l3PieceIn.mono : ∀ a0 a1 a2 a3 a4 a5 k, LeO (spec_l3PieceIn.f k a0 a1 a2 a3 a4 a5) (spec_l3PieceIn.f (k + 1) a0 a1 a2 a3 a4 a5) := by
 intro a0 a1 a2 a3 a4 a5 k
 have ih0 := spec_l3PieceIn.mono_l k
 unfold spec_l3PieceIn.f
 exact zq_
set_option maxHeartbeats 8000000 in
set_option maxRecDepth 100000 in
theorem spec_l3PieceIn.calls (k : Nat) (A0 : Option Addr) (c0 : Nat) (l0 : List (S111)) (a1_0 : Int) (a1_1 : Bool) (a1_2 : Int) (a1_3 : Int) (a2 : ByteArray) (r : ByteArray) (w : World) (hr0 : Kd.C k111 w A0 l0.length l0) (hc0 : l0.length ≤ c0) (h : spec_l3PieceIn.f k l0 a1_0 a1_1 a1_2 a1_3 a2 = some r) :
  Calls Tryz.prog 123 #[.slice A0 l0.length c0, .agg #[.int .i64 a1_0, .bool a1_1, .int .i64 a1_2, .int .i64 a1_3], .string a2] w fun e w' => e = .returned (.string r) ∧ Below w.heap.size w w' := by
 have hu116 := Tryz.underlying116
 have hu62 := Tryz.underlying62
 have HR0 := Aside0.mk hr0
 have HC0 := Aside0.mk hc0
 clear hr0 hc0
 have HB := Aside0.mk (Below.refl w.heap.size w)
 have H : (if a1_1 = true then ((spec_EndDoor.f a1_2 a1_3).bind fun t102 => (spec_l3PieceIn.j0 k l0 a2 (!t102) a1_0 a1_1 a1_2 a1_3)) else (spec_l3PieceIn.j0 k l0 a2 true a1_0 a1_1 a1_2 a1_3)) = some r := h
 clear h
 have HC4 := Aside0.mk H
 clear H
 go_enter Tryz.func123, Tryz.ntmps123
 go_upto_region 1 with (first | ((with_reducible refine gate_dst (N := 4) rfl ?_); refine zx_ (N := 4) #[.int .i64 a1_0, .bool a1_1, .int .i64 a1_2, .int .i64 a1_3] 116 ?_; intro gb101 hg w5 hbox hb; have BK101 := A_ hbox; have GW101 := A_ ((d0_ : w.heap.size ≤ gb101)); have GE101 := A_ ((d0_ : w.heap.size ≤ gb101)); replace HB := A_ (below_step (zB_ HB.out) hb); clear hb hbox hg))
 (try simp only [Act.put, List.setIfInBounds_toArray, List.set_cons_zero, List.set_cons_succ])
 go_cut [17] (fun v17 wc => ∃ (kq : Nat) (x17_3 : Bool), v17 = .bool x17_3 ∧ Aside0 (spec_l3PieceIn.j0 kq l0 a2 x17_3 a1_0 a1_1 a1_2 a1_3 = some r) ∧ Aside0 (kq ≤ k) ∧ Aside0 (wc.heap[gb101]? = some (.cells #[.int .i64 a1_0, .bool a1_1, .int .i64 a1_2, .int .i64 a1_3] 116 (0, 0))) ∧ Aside0 (Below w.heap.size w wc))
 case first =>
  have H := HC4.out; clear HC4
  by_cases c6 : a1_1 = true
  ·subst c6; rw [if_pos rfl] at H; obtain ⟨t102, A7, H⟩ := zH_ H; have H' := Aside0.mk H; clear H; have hcz8_0 : w5.cell? ⟨gb101, 0, none⟩ = some (.int .i64 a1_0) := (blk_cell BK101.out 0).trans rfl; have hcz8_1 : w5.cell? ⟨gb101, 1, none⟩ = some (.bool true) := (blk_cell BK101.out 1).trans rfl; have hcz8_2 : w5.cell? ⟨gb101, 2, none⟩ = some (.int .i64 a1_2) := (blk_cell BK101.out 2).trans rfl; have hcz8_3 : w5.cell? ⟨gb101, 3, none⟩ = some (.int .i64 a1_3) := (blk_cell BK101.out 3).trans rfl; have hfz8_0 := blk_frozen BK101.out 0; have hfz8_1 := blk_frozen BK101.out 1; have hfz8_2 := blk_frozen BK101.out 2; have hfz8_3 := blk_frozen BK101.out 3
   go_wp2_with (first | (go_at_call 144; (with_reducible refine (spec_EndDoor.calls a1_2 a1_3 t102 _ A7.out).mono ?_); rintro e w9 ⟨rfl, hb⟩; replace BK101 := A_ (blk_below (g := gb101) (o := .cells #[.int .i64 a1_0, .bool true, .int .i64 a1_2, .int .i64 a1_3] 116 (0, 0)) (zb_ BK101.out) hb); replace HB := A_ (below_step d1_ hb); (try clear hb); (try clear hi)))
   go_meet
   case rel => exact ⟨_, (!t102), zs_, H', ⟨d2_⟩, ⟨d3_⟩, ⟨d1_⟩⟩
  replace c6 := Bool.eq_false_iff.mpr c6; subst c6; rw [if_neg (show ¬ (false = true) by decide)] at H; have H' := Aside0.mk H; clear H; have hcz10_0 : w5.cell? ⟨gb101, 0, none⟩ = some (.int .i64 a1_0) := (blk_cell BK101.out 0).trans rfl; have hcz10_1 : w5.cell? ⟨gb101, 1, none⟩ = some (.bool false) := (blk_cell BK101.out 1).trans rfl; have hcz10_2 : w5.cell? ⟨gb101, 2, none⟩ = some (.int .i64 a1_2) := (blk_cell BK101.out 2).trans rfl; have hcz10_3 : w5.cell? ⟨gb101, 3, none⟩ = some (.int .i64 a1_3) := (blk_cell BK101.out 3).trans rfl; have hfz10_0 := blk_frozen BK101.out 0; have hfz10_1 := blk_frozen BK101.out 1; have hfz10_2 := blk_frozen BK101.out 2; have hfz10_3 := blk_frozen BK101.out 3
  go_wp2
  go_meet
  case rel => exact ⟨_, (true), zs_, H', ⟨d2_⟩, ⟨d3_⟩, ⟨d1_⟩⟩
 case rest =>
  clear HC4
  try clear c1
  try clear p2
  try clear c6
  try clear hcz10_0
  try clear hcz10_1
  try clear hcz10_2
  try clear hcz10_3
  try clear hcz8_0
  try clear hcz8_1
  try clear hcz8_2
  try clear hcz8_3
  try clear hfz10_0
  try clear hfz10_1
  try clear hfz10_2
  try clear hfz10_3
  try clear hfz8_0
  try clear hfz8_1
  try clear hfz8_2
  try clear hfz8_3
  obtain ⟨kq, x17_3, rfl, HA, HJ3, BK101, HB⟩ := hcut
  cases kq with
  | zero => exact absurd HA.out (by simp [spec_l3PieceIn.j0])
  | succ kj3 =>
   have H := HA.out; clear HA; simp only [spec_l3PieceIn.j0] at H
   by_cases c11 : x17_3 = true
   ·subst c11; rw [if_pos rfl] at H; obtain rfl := Option.some.inj H
    go_wp2
    go_ret
    exact ⟨d4_, d1_⟩
   replace c11 := Bool.eq_false_iff.mpr c11; subst c11; rw [if_neg (show ¬ (false = true) by decide)] at H; obtain ⟨⟨t103, t104, t105⟩, A12, H⟩ := zH_ H; dsimp only at H
   by_cases c13 : t105 = true
   ·subst c13; rw [if_pos rfl] at H; obtain ⟨t107, A14, H⟩ := zH_ H
    by_cases c15 : 1 + t107.size ≤ 9223372036854775807
    ·rw [if_pos c15] at H; have c15b0 := eq_true c15; have c15b1 : decide (1 + t107.size ≤ 9223372036854775807) = true := decide_eq_true c15
     try have c15b2 : (9223372036854775807 < 1 + t107.size) = False := eq_false (Nat.not_lt.2 c15)
     by_cases c16 : ((⟨#[64]⟩ : ByteArray) ++ t107).size + 1 ≤ 9223372036854775807
     ·rw [if_pos c16] at H; have c16b0 := eq_true c16; have c16b1 : decide (((⟨#[64]⟩ : ByteArray) ++ t107).size + 1 ≤ 9223372036854775807) = true := decide_eq_true c16
      try (have c16z := c16; simp only [ByteArray.size_append, ByteArray.size_extract, Nat.min_self, Int.natCast_add] at c16z; have c16b3 := eq_true c16z; clear c16z)
      try have c16b2 : (9223372036854775807 < ((⟨#[64]⟩ : ByteArray) ++ t107).size + 1) = False := eq_false (Nat.not_lt.2 c16)
      try have c16b3 : (9223372036854775807 < 1 + t107.size + 1) = False := eq_false (Nat.not_lt.2 (by have h_ := c16; simp only [ByteArray.size_append] at h_; exact h_))
      obtain rfl := Option.some.inj H; have hcz17_0 : wc.cell? ⟨gb101, 0, none⟩ = some (.int .i64 a1_0) := (blk_cell BK101.out 0).trans rfl; have hcz17_1 : wc.cell? ⟨gb101, 1, none⟩ = some (.bool a1_1) := (blk_cell BK101.out 1).trans rfl; have hcz17_2 : wc.cell? ⟨gb101, 2, none⟩ = some (.int .i64 a1_2) := (blk_cell BK101.out 2).trans rfl; have hcz17_3 : wc.cell? ⟨gb101, 3, none⟩ = some (.int .i64 a1_3) := (blk_cell BK101.out 3).trans rfl; have hfz17_0 := blk_frozen BK101.out 0; have hfz17_1 := blk_frozen BK101.out 1; have hfz17_2 := blk_frozen BK101.out 2; have hfz17_3 := blk_frozen BK101.out 3
      go_wp2_with (first | ((with_reducible refine gate_callee (f := 168) rfl ?_); refine zc_ (some 24) Tryz.func168 #[.slice A0 l0.length c0, .int .i64 a1_3] ?_; (with_reducible refine (spec_l3In.calls _ _ l0 a1_3 t103 t104 true _ ?side1 ?side2 A12.out).mono ?_); (case side1 => exact d5_); (case side2 => exact HC0.out); rintro e w18 ⟨rfl, hb⟩; refine ⟨_, rfl, ?_⟩; replace BK101 := A_ (blk_below (g := gb101) (o := .cells #[.int .i64 a1_0, .bool a1_1, .int .i64 a1_2, .int .i64 a1_3] 116 (0, 0)) (zb_ BK101.out) hb); replace HB := A_ (below_step d1_ hb); (try clear hb); (try clear hi)) | ((with_reducible refine gate_dst (N := 7) rfl ?_); refine zx_ (N := 7) #[.int .i64 0, .int .i64 0] 62 ?_; intro gb106 hg w19 hbox hb; have BK106 := A_ hbox; have GW106 := A_ ((d6_ : w.heap.size ≤ gb106)); have GE106 := A_ ((d6_ : w.heap.size ≤ gb106)); replace HB := A_ (below_step d1_ hb); have NB101_106 := A_ ((d7_ : gb101 ≠ gb106)); have NB106_101 := A_ ((d8_ : gb106 ≠ gb101)); replace BK101 := A_ (blk_below (g := gb101) (o := .cells #[.int .i64 a1_0, .bool a1_1, .int .i64 a1_2, .int .i64 a1_3] 116 (0, 0)) (zb_ BK101.out) hb); clear hb hbox hg; have hnb20 := NB106_101.out; have hnc20 := NB101_106.out; have hcz21_0 : w19.cell? ⟨gb106, 0, none⟩ = some (.int .i64 0) := (blk_cell BK106.out 0).trans rfl; have hcz21_1 : w19.cell? ⟨gb106, 1, none⟩ = some (.int .i64 0) := (blk_cell BK106.out 1).trans rfl; have hfz21_0 := blk_frozen BK106.out 0; have hfz21_1 := blk_frozen BK106.out 1) | ((with_reducible refine gate_callee (f := 118) rfl ?_); refine zc_ (some 31) Tryz.func118 #[.agg #[.int .i64 t103, .int .i64 t104]] ?_; (with_reducible refine (spec_EndText.calls t103 t104 t107 _ A14.out).mono ?_); rintro e w22 ⟨rfl, hb⟩; refine ⟨_, rfl, ?_⟩; replace BK101 := A_ (blk_below (g := gb101) (o := .cells #[.int .i64 a1_0, .bool a1_1, .int .i64 a1_2, .int .i64 a1_3] 116 (0, 0)) (by (with_reducible repeat (first | refine blk_drewN ?_ _ | refine blk_drew ?_ | refine blk_alloc ?_ _)); refine blk_far ?_ NB101_106.out _; (with_reducible repeat (first | refine blk_drewN ?_ _ | refine blk_drew ?_ | refine blk_alloc ?_ _)); refine blk_far ?_ NB101_106.out _; (with_reducible repeat (first | refine blk_drewN ?_ _ | refine blk_drew ?_ | refine blk_alloc ?_ _)); exact BK101.out) hb); replace BK106 := A_ (blk_below (g := gb106) (o := .cells #[.int .i64 t103, .int .i64 t104] 62 (0, 0)) (by (with_reducible repeat (first | refine blk_drewN ?_ _ | refine blk_drew ?_ | refine blk_alloc ?_ _)); refine blk_put (cs := #[.int .i64 t103, .int .i64 0]) ?_ 1 _ rfl; (with_reducible repeat (first | refine blk_drewN ?_ _ | refine blk_drew ?_ | refine blk_alloc ?_ _)); refine blk_put (cs := #[.int .i64 0, .int .i64 0]) ?_ 0 _ rfl; (with_reducible repeat (first | refine blk_drewN ?_ _ | refine blk_drew ?_ | refine blk_alloc ?_ _)); exact BK106.out) hb); replace HB := A_ (below_step d9_ hb); (try clear hb); (try clear hi)))
      go_ret
      exact ⟨d4_, d9_⟩
     rw [if_neg c16] at H; exact absurd H (by simp)
    rw [if_neg c15] at H; exact absurd H (by simp)
   replace c13 := Bool.eq_false_iff.mpr c13; subst c13; rw [if_neg (show ¬ (false = true) by decide)] at H; obtain rfl := Option.some.inj H; have hcz23_0 : wc.cell? ⟨gb101, 0, none⟩ = some (.int .i64 a1_0) := (blk_cell BK101.out 0).trans rfl; have hcz23_1 : wc.cell? ⟨gb101, 1, none⟩ = some (.bool a1_1) := (blk_cell BK101.out 1).trans rfl; have hcz23_2 : wc.cell? ⟨gb101, 2, none⟩ = some (.int .i64 a1_2) := (blk_cell BK101.out 2).trans rfl; have hcz23_3 : wc.cell? ⟨gb101, 3, none⟩ = some (.int .i64 a1_3) := (blk_cell BK101.out 3).trans rfl; have hfz23_0 := blk_frozen BK101.out 0; have hfz23_1 := blk_frozen BK101.out 1; have hfz23_2 := blk_frozen BK101.out 2; have hfz23_3 := blk_frozen BK101.out 3
   go_wp2_with (first | ((with_reducible refine gate_callee (f := 168) rfl ?_); refine zc_ (some 24) Tryz.func168 #[.slice A0 l0.length c0, .int .i64 a1_3] ?_; (with_reducible refine (spec_l3In.calls _ _ l0 a1_3 t103 t104 false _ ?side1 ?side2 A12.out).mono ?_); (case side1 => exact d5_); (case side2 => exact HC0.out); rintro e w24 ⟨rfl, hb⟩; refine ⟨_, rfl, ?_⟩; replace BK101 := A_ (blk_below (g := gb101) (o := .cells #[.int .i64 a1_0, .bool a1_1, .int .i64 a1_2, .int .i64 a1_3] 116 (0, 0)) (zb_ BK101.out) hb); replace HB := A_ (below_step d1_ hb); (try clear hb); (try clear hi)) | ((with_reducible refine gate_dst (N := 7) rfl ?_); refine zx_ (N := 7) #[.int .i64 0, .int .i64 0] 62 ?_; intro gb106 hg w25 hbox hb; have BK106 := A_ hbox; have GW106 := A_ ((d6_ : w.heap.size ≤ gb106)); have GE106 := A_ ((d6_ : w.heap.size ≤ gb106)); replace HB := A_ (below_step d1_ hb); have NB101_106 := A_ ((d7_ : gb101 ≠ gb106)); have NB106_101 := A_ ((d8_ : gb106 ≠ gb101)); replace BK101 := A_ (blk_below (g := gb101) (o := .cells #[.int .i64 a1_0, .bool a1_1, .int .i64 a1_2, .int .i64 a1_3] 116 (0, 0)) (zb_ BK101.out) hb); clear hb hbox hg; have hnb26 := NB106_101.out; have hnc26 := NB101_106.out; have hcz27_0 : w25.cell? ⟨gb106, 0, none⟩ = some (.int .i64 0) := (blk_cell BK106.out 0).trans rfl; have hcz27_1 : w25.cell? ⟨gb106, 1, none⟩ = some (.int .i64 0) := (blk_cell BK106.out 1).trans rfl; have hfz27_0 := blk_frozen BK106.out 0; have hfz27_1 := blk_frozen BK106.out 1))
   go_ret
   exact ⟨d4_, d9_⟩
end
end Go.Proofs.YtfjbjiklohjodaaGreatDoor.Q
namespace Go.Proofs.YtfjbjiklohjodaaGreatDoor.Z
open Go.RowKit Go.Proofs.YtfjbjiklohjodaaGreatDoorW.PrintWords Go.Proofs.YtfjbjiklohjodaaGreatDoorW.PrintLast
set_option linter.unusedVariables false
set_option linter.unusedSimpArgs false
attribute [local go_sem ↓] Go.wp_at_zero Go.wp_at_succ
attribute [local go_sem high] bytes_append
def l2At (l : List UInt8) (n : Nat) : Option En := if n ≤ l.length ∧ l.getD 0 0 = 64 ∧ l.getD (n - 1) 0 = 59 then endRead ((l.drop 1).take (n - 2)) else none
theorem name_len (e : En) (h : anyB e = true) : (nameOf e).length = 5 ∨ (nameOf e).length = 6 := by
  have := text_len34 e (anyB_mem h)
  unfold nameOf
  simp
  omega
theorem l2At_some {l : List UInt8} {n : Nat} {e : En} (hn : 2 ≤ n) (h : l2At l n = some e) : nm l = some e ∧ (nameOf e).length = n := by
  unfold l2At at h
  split at h
  · rename_i hc
    obtain ⟨h1, h2, h3⟩ := hc
    obtain ⟨ha, ht⟩ := endRead_some h
    obtain ⟨m, rfl⟩ : ∃ m, n = m + 2 := ⟨n - 2, by omega⟩
    have e1 : l = nameOf e ++ l.drop (m + 2) := by
      unfold nameOf
      rw [ht]
      match l, h1, h2, h3 with
      | c :: t, h1, h2, h3 =>
        simp only [List.getD_cons_zero] at h2
        subst h2
        simp only [List.length_cons] at h1
        have h4 : t.getD m 0 = 59 := h3
        have h5 : m < t.length := by omega
        simp only [Nat.add_sub_cancel, List.drop_succ_cons, List.drop_zero, List.cons_append, List.append_assoc, List.singleton_append]
        congr 1
        rw [List.getD_eq_getElem?_getD, List.getElem?_eq_getElem h5] at h4
        simp only [Option.getD_some] at h4
        conv => lhs; rw [← List.take_append_drop m t, List.drop_eq_getElem_cons h5, h4]
        rfl
    have hlen : (nameOf e).length = m + 2 := by
      unfold nameOf
      rw [ht]
      simp
      omega
    refine ⟨?_, hlen⟩
    rw [e1]
    exact nm_name ha _
  · cases h
theorem nm_l2At {l : List UInt8} {e : En} (h : nm l = some e) : l2At l (nameOf e).length = some e := by
  obtain ⟨ha, r, hr⟩ := nm_some h
  unfold l2At
  have h1 : l.getD 0 0 = 64 := by rw [hr]; rfl
  have h2 : (nameOf e).length ≤ l.length := by rw [hr]; simp
  have h3 : l.getD ((nameOf e).length - 1) 0 = 59 := by
    rw [hr]; unfold nameOf; simp [List.getD_eq_getElem?_getD]
  have h4 : (l.drop 1).take ((nameOf e).length - 2) = endText e := by
    rw [hr]; unfold nameOf; simp
  rw [if_pos ⟨h2, h1, h3⟩, h4, endRead_of ha]
theorem nm_of_l2At {l : List UInt8} (h5 : l2At l 5 = none) (h6 : l2At l 6 = none) : nm l = none := by
  cases h : nm l with
  | none => rfl
  | some e =>
    have h1 := nm_l2At h
    rcases name_len e (nm_some h).1 with h2 | h2
    · rw [h2, h5] at h1; cases h1
    · rw [h2, h6] at h1; cases h1
end Go.Proofs.YtfjbjiklohjodaaGreatDoor.Z
namespace Go.Proofs.YtfjbjiklohjodaaGreatDoor.Q
open Go.RowKit Go.Proofs.YtfjbjiklohjodaaGreatDoorW.PrintWords Go.Proofs.YtfjbjiklohjodaaGreatDoorW.PrintLast Go.Proofs.YtfjbjiklohjodaaGreatDoorW.PrintMore
attribute [local go_sem] max2_int min2_int max_two min_two max_three min_three max_four min_four
set_option linter.unusedVariables false
set_option linter.unusedSimpArgs false
noncomputable section
mutual
def spec_l2Name.l0 : Nat → ByteArray → Int → Option (Int × Int × Int)
 | 0, _, _ => none
 | k + 1, x0, x4 => if x4 ≤ 6 then (spec_l2Name.j1 k x0 x4 (decide (x4 ≤ (x0.size : Int)))) else (spec_l2Name.j1 k x0 x4 false)
def spec_l2Name.j1 : Nat → ByteArray → Int → Bool → Option (Int × Int × Int)
 | 0, _, _, _ => none
 | k + 1, x0, x4, x14 => if x14 = true then (if 0 < (x0.size : Int) then (if (bt x0 0) = 64 then (if 0 ≤ (wrap64 (x4 - 1)) then (if (wrap64 (x4 - 1)) < (x0.size : Int) then (spec_l2Name.j2 k x0 x4 ((bt x0 (wrap64 (x4 - 1))) == 59)) else (none)) else (none)) else (spec_l2Name.j2 k x0 x4 false)) else (none)) else (some (0, 0, 0))
def spec_l2Name.j2 : Nat → ByteArray → Int → Bool → Option (Int × Int × Int)
 | 0, _, _, _ => none
 | k + 1, x0, x4, x26 => if x26 = true then (if 1 ≤ (wrap64 (x4 - 1)) then (if (wrap64 (x4 - 1)) ≤ (x0.size : Int) then ((spec_EndRead.f (x0.extract 1 ((wrap64 (x4 - 1)) : Int).toNat)).bind fun bt102 => (if bt102.2.2 = true then (some (bt102.1, bt102.2.1, x4)) else (spec_l2Name.l0 k x0 (wrap64 (x4 + 1))))) else (none)) else (none)) else (spec_l2Name.l0 k x0 (wrap64 (x4 + 1)))
end
def spec_l2Name.f (k : Nat) (a0 : ByteArray) : Option (Int × Int × Int) := spec_l2Name.l0 k a0 5
theorem spec_l2Name.mono_l : ∀ k, (∀ y0 y1, LeO (spec_l2Name.l0 k y0 y1) (spec_l2Name.l0 (k + 1) y0 y1)) ∧ (∀ y0 y1 y2, LeO (spec_l2Name.j1 k y0 y1 y2) (spec_l2Name.j1 (k + 1) y0 y1 y2)) ∧ (∀ y0 y1 y2, LeO (spec_l2Name.j2 k y0 y1 y2) (spec_l2Name.j2 (k + 1) y0 y1 y2))
 | 0 => ⟨fun _ _ r h => by simp [spec_l2Name.l0] at h, fun _ _ _ r h => by simp [spec_l2Name.j1] at h, fun _ _ _ r h => by simp [spec_l2Name.j2] at h⟩
 | k + 1 => by
  obtain ⟨ih0, ih1, ih2⟩ := spec_l2Name.mono_l k
  refine ⟨?_, ?_, ?_⟩
  ·intro y0 y1
   unfold spec_l2Name.l0
   exact zq_
  ·intro y0 y1 y2
   unfold spec_l2Name.j1
   exact zq_
  ·intro y0 y1 y2
   unfold spec_l2Name.j2
   exact zq_
theorem spec_l2Name.mono : ∀ a0 k, LeO (spec_l2Name.f k a0) (spec_l2Name.f (k + 1) a0) := by
 intro a0 k
 obtain ⟨ih0, ih1, ih2⟩ := spec_l2Name.mono_l k
 unfold spec_l2Name.f
 exact zq_
set_option maxHeartbeats 8000000 in
set_option maxRecDepth 100000 in
theorem spec_l2Name.calls (k : Nat) (a0 : ByteArray) (r1 : Int) (r2 : Int) (r3 : Int) (w : World) (h : spec_l2Name.f k a0 = some (r1, r2, r3)) :
  Calls Tryz.prog 167 #[.string a0] w fun e w' => e = .returned (.tuple #[.agg #[.int .i64 r1, .int .i64 r2], .int .i64 r3]) ∧ Below w.heap.size w w' := by
 have hu62 := Tryz.underlying62
 have HB := Aside0.mk (Below.refl w.heap.size w)
 have H : (spec_l2Name.l0 k a0 5) = some (r1, r2, r3) := h
 clear h
 have H' := Aside0.mk H
 clear H
 go_enter Tryz.func167, Tryz.ntmps167
 go_wp2_with (first | ((with_reducible refine gate_dst (N := 2) rfl ?_); (try (refine gate_guard (by rfl) ?_; dsimp only)); refine zx_ (N := 2) #[.int .i64 0, .int .i64 0] 62 ?_; intro gb101 hg w2 hbox hb; have BK101 := A_ hbox; have GW101 := A_ ((d0_ : w.heap.size ≤ gb101)); have GE101 := A_ ((d0_ : w.heap.size ≤ gb101)); replace HB := A_ (below_step (zB_ HB.out) hb); clear hb hbox hg))
 go_loopg [4] k (fun kq v4 w' => ∃ (x4_1 : Int) (x102000_1 : Int) (x102001_1 : Int), v4 = .int .i64 x4_1 ∧ Aside0 (spec_l2Name.l0 kq a0 x4_1 = some (r1, r2, r3)) ∧ Aside0 (kq ≤ k) ∧ Aside0 (w'.heap[gb101]? = some (.cells #[.int .i64 x102000_1, .int .i64 x102001_1] 62 (0, 0))) ∧ Aside0 (Below w.heap.size w w'))
 case atStart => exact ⟨(5), (0), (0), zs_, H', ⟨Nat.le_refl _⟩, ⟨d3_⟩, ⟨d1_⟩⟩
 case round =>
  clear H'
  try clear c1
  try clear p2
  obtain ⟨x4_1, x102000_1, x102001_1, rfl, HA, HK1, BK101, HB⟩ := hrel
  cases gk with
  | zero => exact absurd HA.out (by simp [spec_l2Name.l0])
  | succ k1 =>
   have H := HA.out; clear HA; simp only [spec_l2Name.l0] at H; have HC3 := Aside0.mk H; clear H
   go_upto_region 2 with (fail)
   go_cut [14] (fun v14 wc => ∃ (kq : Nat) (x14_2 : Bool), v14 = .bool x14_2 ∧ Aside0 (spec_l2Name.j1 kq a0 x4_1 x14_2 = some (r1, r2, r3)) ∧ Aside0 (kq ≤ k1) ∧ Aside0 (wc.heap[gb101]? = some (.cells #[.int .i64 x102000_1, .int .i64 x102001_1] 62 (0, 0))) ∧ Aside0 (Below w.heap.size w wc))
   case first =>
    have H := HC3.out; clear HC3
    by_cases c4 : x4_1 ≤ 6
    ·rw [if_pos c4] at H; have c4b0 : decide (x4_1 ≤ 6) = true := decide_eq_true c4; clear c4; (first | rw [c4b0] | (simp only [i64_w, i32_w]; rw [c4b0]) | skip); have H' := Aside0.mk H; clear H
     go_wp2
     go_meet
     case rel => exact ⟨_, (decide (x4_1 ≤ (a0.size : Int))), zs_, H', ⟨by have := HK1.out; first | omega | exact Nat.le_refl _⟩, ⟨d3_⟩, ⟨d1_⟩⟩
    rw [if_neg c4] at H; have c4b0 : decide (x4_1 ≤ 6) = false := decide_eq_false c4; clear c4; (first | rw [c4b0] | (simp only [i64_w, i32_w]; rw [c4b0]) | skip); have H' := Aside0.mk H; clear H
    go_wp2
    go_meet
    case rel => exact ⟨_, (false), zs_, H', ⟨by have := HK1.out; first | omega | exact Nat.le_refl _⟩, ⟨d3_⟩, ⟨d1_⟩⟩
   case rest =>
    clear HC3; (try clear c1); (try clear p2); (try clear c4); (try clear c4b0); (try clear p2); obtain ⟨kq, x14_2, rfl, HA, HJ2, BK101, HB⟩ := hcut
    cases kq with
    | zero => exact absurd HA.out (by simp [spec_l2Name.j1])
    | succ kj2 =>
     have H := HA.out; clear HA; simp only [spec_l2Name.j1] at H
     by_cases c5 : x14_2 = true
     ·subst c5; rw [if_pos rfl] at H; have HC6 := Aside0.mk H; clear H
      go_upto_region 4 with (fail)
      go_cut [26] (fun v26 wc => ∃ (kq : Nat) (x26_5 : Bool), v26 = .bool x26_5 ∧ Aside0 (spec_l2Name.j2 kq a0 x4_1 x26_5 = some (r1, r2, r3)) ∧ Aside0 (kq ≤ kj2) ∧ Aside0 (wc.heap[gb101]? = some (.cells #[.int .i64 x102000_1, .int .i64 x102001_1] 62 (0, 0))) ∧ Aside0 (Below w.heap.size w wc))
      case first =>
       have H := HC6.out; clear HC6
       by_cases c7 : 0 < (a0.size : Int)
       ·rw [if_pos c7] at H; have c7b0 : decide (0 < (a0.size : Int)) = true := decide_eq_true c7; have c7b1 : decide (0 < a0.size) = true := decide_eq_true (by omega); clear c7; (first | rw [c7b0] | (simp only [i64_w, i32_w]; rw [c7b0]) | skip)
        by_cases c9 : (bt a0 0) = 64
        ·rw [if_pos c9] at H; have c9b0 : ((bt a0 0) == 64) = true := beq_iff_eq.mpr c9; have c9b1 : ((bt a0 0) != 64) = false := bne_eq_false_iff_eq.mpr c9; clear c9; obtain ⟨ji10, hji10⟩ : ∃ j_ : Int, (wrap64 (x4_1 - 1)) = j_ := ⟨_, rfl⟩
         replace H : (if 0 ≤ (ji10) then (if (ji10) < (a0.size : Int) then (spec_l2Name.j2 kj2 a0 x4_1 ((bt a0 (ji10)) == 59)) else (none)) else (none)) = some (r1, r2, r3) := by first | (rw [hji10] at H; exact H) | (simp only [hji10] at H ⊢; exact H)
         have hji10w : (IntKind.i64.wrap (x4_1 - 1)) = ji10 := (i64_w _).trans hji10
         by_cases c11 : 0 ≤ (ji10)
         ·rw [if_pos c11] at H; have c11b0 : decide (0 ≤ (ji10)) = true := decide_eq_true c11; clear c11
          by_cases c12 : (ji10) < (a0.size : Int)
          ·rw [if_pos c12] at H; have c12b0 : decide ((ji10) < (a0.size : Int)) = true := decide_eq_true c12; clear c12; have H' := Aside0.mk H; clear H; have p8 : 0 ≤ (0 : Int) := (by omega); have q8 : 0 < a0.size := d10_; have hx8 : ∀ h : 0 < a0.size, ((a0[0]'h).toNat : Int) = bt a0 0 := bt_at a0 0; clear p8; have qi8 : (0 < (a0.size : Int)) = True := eq_true (of_decide_eq_true d11_); replace q8 := eq_true q8; have p13 : 0 ≤ ((ji10) : Int) := of_decide_eq_true d11_; have q13 : (ji10) < (a0.size : Int) := of_decide_eq_true d11_; have hx13 := bt_at a0 (ji10); replace p13 := eq_true p13; replace q13 := eq_true q13
           go_wp2
           go_meet
           case rel => exact ⟨_, (((bt a0 (ji10)) == 59)), (by first | rfl | (simp; done) | (simp only [← hji10] <;> (first | rfl | simp)) | (simp [*]; done)), H', ⟨by have := HK1.out; have := HJ2.out; first | omega | exact Nat.le_refl _⟩, ⟨d3_⟩, ⟨d1_⟩⟩
          rw [if_neg c12] at H; exact absurd H (by simp)
         rw [if_neg c11] at H; exact absurd H (by simp)
        rw [if_neg c9] at H; have c9b0 : ((bt a0 0) == 64) = false := beq_eq_false_iff_ne.mpr c9; have c9b1 : ((bt a0 0) != 64) = true := bne_iff_ne.mpr c9; have H' := Aside0.mk H; clear H; have p8 : 0 ≤ (0 : Int) := (by omega); have q8 : 0 < a0.size := d10_; have hx8 : ∀ h : 0 < a0.size, ((a0[0]'h).toNat : Int) = bt a0 0 := bt_at a0 0; clear p8; have qi8 : (0 < (a0.size : Int)) = True := eq_true (of_decide_eq_true d11_); replace q8 := eq_true q8
        go_wp2
        go_meet
        case rel => exact ⟨_, (false), zs_, H', ⟨by have := HK1.out; have := HJ2.out; first | omega | exact Nat.le_refl _⟩, ⟨d3_⟩, ⟨d1_⟩⟩
       rw [if_neg c7] at H; exact absurd H (by simp)
      case rest =>
       clear HC6; (try clear c1); (try clear p1); (try clear q1); (try clear hx1); (try clear p2); (try clear c4); (try clear c4b0); (try clear c5); (try clear p6); (try clear c7); (try clear c7b0); (try clear c7b1); (try clear p8); (try clear q8); (try clear hx8); (try clear qi8); (try clear c9); (try clear c9b0); (try clear c9b1); (try clear c11); (try clear c11b0); (try clear c12); (try clear c12b0); (try clear p13); (try clear q13); (try clear hx13); (try clear p13); (try clear p2); (try clear p8); (try clear q13); (try clear q8); obtain ⟨kq, x26_5, rfl, HA, HJ5, BK101, HB⟩ := hcut
       cases kq with
       | zero => exact absurd HA.out (by simp [spec_l2Name.j2])
       | succ kj5 =>
        have H := HA.out; clear HA; simp only [spec_l2Name.j2] at H
        by_cases c14 : x26_5 = true
        ·subst c14; rw [if_pos rfl] at H
         by_cases c15 : 1 ≤ (wrap64 (x4_1 - 1))
         ·rw [if_pos c15] at H; have c15b0 := eq_true c15; have c15b1 : decide (1 ≤ (wrap64 (x4_1 - 1))) = true := decide_eq_true c15; clear c15
          by_cases c16 : (wrap64 (x4_1 - 1)) ≤ (a0.size : Int)
          ·rw [if_pos c16] at H; have c16b0 := eq_true c16; have c16b1 : decide ((wrap64 (x4_1 - 1)) ≤ (a0.size : Int)) = true := decide_eq_true c16; clear c16; obtain ⟨⟨t102, t103, t104⟩, A17, H⟩ := zH_ H; dsimp only at H
           by_cases c18 : t104 = true
           ·subst c18; rw [if_pos rfl] at H; simp only [Option.some.injEq, Prod.mk.injEq] at H; obtain ⟨rfl, rfl, rfl⟩ := H
            go_wp2_with (first | ((with_reducible refine gate_callee (f := 184) rfl ?_); refine zc_ (some 32) Tryz.func184 #[.string (a0.extract 1 ((wrap64 (x4_1 - 1)) : Int).toNat)] ?_; (with_reducible refine (spec_EndRead.calls (a0.extract 1 ((wrap64 (x4_1 - 1)) : Int).toNat) t102 t103 true _ A17.out).mono ?_); rintro e w19 ⟨rfl, hb⟩; refine ⟨_, rfl, ?_⟩; replace BK101 := A_ (blk_below (g := gb101) (o := .cells #[.int .i64 x102000_1, .int .i64 x102001_1] 62 (0, 0)) (zb_ BK101.out) hb); replace HB := A_ (below_step d1_ hb); (try clear hb); (try clear hi)) | ((with_reducible refine gate_dst (N := 5) rfl ?_); (try (refine gate_guard (by rfl) ?_; dsimp only)); refine zx_ (N := 5) #[.int .i64 0, .int .i64 0] 62 ?_; intro gb105 hg w20 hbox hb; have BK105 := A_ hbox; have GW105 := A_ ((d6_ : w.heap.size ≤ gb105)); have GE105 := A_ ((d6_ : w.heap.size ≤ gb105)); replace HB := A_ (below_step d1_ hb); have NB101_105 := A_ ((d12_ : gb101 ≠ gb105)); have NB105_101 := A_ ((d13_ : gb105 ≠ gb101)); replace BK101 := A_ (blk_below (g := gb101) (o := .cells #[.int .i64 x102000_1, .int .i64 x102001_1] 62 (0, 0)) (zb_ BK101.out) hb); clear hb hbox hg; have hnb21 := NB105_101.out; have hnc21 := NB101_105.out; have hcz22_0 : w20.cell? ⟨gb105, 0, none⟩ = some (.int .i64 0) := (blk_cell BK105.out 0).trans rfl; have hcz22_1 : w20.cell? ⟨gb105, 1, none⟩ = some (.int .i64 0) := (blk_cell BK105.out 1).trans rfl; have hfz22_0 := blk_frozen BK105.out 0; have hfz22_1 := blk_frozen BK105.out 1; have hcz23_0 : w20.cell? ⟨gb101, 0, none⟩ = some (.int .i64 x102000_1) := (blk_cell BK101.out 0).trans rfl; have hcz23_1 : w20.cell? ⟨gb101, 1, none⟩ = some (.int .i64 x102001_1) := (blk_cell BK101.out 1).trans rfl; have hfz23_0 := blk_frozen BK101.out 0; have hfz23_1 := blk_frozen BK101.out 1))
            refine bodyPost_ret (results_ct rfl _ _ gb101 62 #[.int .i64 t102, .int .i64 t103] (0, 0) _ rfl (by (with_reducible repeat (first | refine blk_drewN ?_ _ | refine blk_drew ?_ | refine blk_alloc ?_ _)); refine blk_put (cs := #[.int .i64 t102, .int .i64 x102001_1]) ?_ 1 _ rfl; (with_reducible repeat (first | refine blk_drewN ?_ _ | refine blk_drew ?_ | refine blk_alloc ?_ _)); refine blk_put (cs := #[.int .i64 x102000_1, .int .i64 x102001_1]) ?_ 0 _ rfl; (with_reducible repeat (first | refine blk_drewN ?_ _ | refine blk_drew ?_ | refine blk_alloc ?_ _)); refine blk_far ?_ NB101_105.out _; (with_reducible repeat (first | refine blk_drewN ?_ _ | refine blk_drew ?_ | refine blk_alloc ?_ _)); refine blk_far ?_ NB101_105.out _; (with_reducible repeat (first | refine blk_drewN ?_ _ | refine blk_drew ?_ | refine blk_alloc ?_ _)); exact BK101.out) Tryz.underlying62 rfl (by kernel_rfl)) rfl ?_; exact ⟨d4_, d14_⟩
           replace c18 := Bool.eq_false_iff.mpr c18; subst c18; rw [if_neg (show ¬ (false = true) by decide)] at H; have H' := Aside0.mk H; clear H
           go_wp2_with (first | ((with_reducible refine gate_callee (f := 184) rfl ?_); refine zc_ (some 32) Tryz.func184 #[.string (a0.extract 1 ((wrap64 (x4_1 - 1)) : Int).toNat)] ?_; (with_reducible refine (spec_EndRead.calls (a0.extract 1 ((wrap64 (x4_1 - 1)) : Int).toNat) t102 t103 false _ A17.out).mono ?_); rintro e w24 ⟨rfl, hb⟩; refine ⟨_, rfl, ?_⟩; replace BK101 := A_ (blk_below (g := gb101) (o := .cells #[.int .i64 x102000_1, .int .i64 x102001_1] 62 (0, 0)) (zb_ BK101.out) hb); replace HB := A_ (below_step d1_ hb); (try clear hb); (try clear hi)) | ((with_reducible refine gate_dst (N := 5) rfl ?_); (try (refine gate_guard (by rfl) ?_; dsimp only)); refine zx_ (N := 5) #[.int .i64 0, .int .i64 0] 62 ?_; intro gb105 hg w25 hbox hb; have BK105 := A_ hbox; have GW105 := A_ ((d6_ : w.heap.size ≤ gb105)); have GE105 := A_ ((d6_ : w.heap.size ≤ gb105)); replace HB := A_ (below_step d1_ hb); have NB101_105 := A_ ((d12_ : gb101 ≠ gb105)); have NB105_101 := A_ ((d13_ : gb105 ≠ gb101)); replace BK101 := A_ (blk_below (g := gb101) (o := .cells #[.int .i64 x102000_1, .int .i64 x102001_1] 62 (0, 0)) (zb_ BK101.out) hb); clear hb hbox hg; have hnb26 := NB105_101.out; have hnc26 := NB101_105.out; have hcz27_0 : w25.cell? ⟨gb105, 0, none⟩ = some (.int .i64 0) := (blk_cell BK105.out 0).trans rfl; have hcz27_1 : w25.cell? ⟨gb105, 1, none⟩ = some (.int .i64 0) := (blk_cell BK105.out 1).trans rfl; have hfz27_0 := blk_frozen BK105.out 0; have hfz27_1 := blk_frozen BK105.out 1))
           go_roundg kj5
           case measure => have := HK1.out; have := HJ2.out; have := HJ5.out; omega
           case rel => exact ⟨(wrap64 (x4_1 + 1)), (x102000_1), (x102001_1), zs_, H', ⟨by have := HK1.out; have := HJ2.out; have := HJ5.out; omega⟩, ⟨by (with_reducible repeat (first | refine blk_drewN ?_ _ | refine blk_drew ?_ | refine blk_alloc ?_ _)); refine blk_far ?_ NB101_105.out _; (with_reducible repeat (first | refine blk_drewN ?_ _ | refine blk_drew ?_ | refine blk_alloc ?_ _)); refine blk_far ?_ NB101_105.out _; (with_reducible repeat (first | refine blk_drewN ?_ _ | refine blk_drew ?_ | refine blk_alloc ?_ _)); exact BK101.out⟩, ⟨d14_⟩⟩
          rw [if_neg c16] at H; exact absurd H (by simp)
         rw [if_neg c15] at H; exact absurd H (by simp)
        replace c14 := Bool.eq_false_iff.mpr c14; subst c14; rw [if_neg (show ¬ (false = true) by decide)] at H; have H' := Aside0.mk H; clear H
        go_wp2
        go_roundg kj5
        case measure => have := HK1.out; have := HJ2.out; have := HJ5.out; omega
        case rel => exact ⟨(wrap64 (x4_1 + 1)), (x102000_1), (x102001_1), zs_, H', ⟨by have := HK1.out; have := HJ2.out; have := HJ5.out; omega⟩, ⟨d3_⟩, ⟨d1_⟩⟩
     replace c5 := Bool.eq_false_iff.mpr c5; subst c5; rw [if_neg (show ¬ (false = true) by decide)] at H; simp only [Option.some.injEq, Prod.mk.injEq] at H; obtain ⟨rfl, rfl, rfl⟩ := H; have hcz28_0 : wc.cell? ⟨gb101, 0, none⟩ = some (.int .i64 x102000_1) := (blk_cell BK101.out 0).trans rfl; have hcz28_1 : wc.cell? ⟨gb101, 1, none⟩ = some (.int .i64 x102001_1) := (blk_cell BK101.out 1).trans rfl; have hfz28_0 := blk_frozen BK101.out 0; have hfz28_1 := blk_frozen BK101.out 1
     go_wp2
     refine bodyPost_ret (results_ct rfl _ _ gb101 62 #[.int .i64 0, .int .i64 0] (0, 0) _ rfl (by (with_reducible repeat (first | refine blk_drewN ?_ _ | refine blk_drew ?_ | refine blk_alloc ?_ _)); refine blk_put (cs := #[.int .i64 0, .int .i64 x102001_1]) ?_ 1 _ rfl; (with_reducible repeat (first | refine blk_drewN ?_ _ | refine blk_drew ?_ | refine blk_alloc ?_ _)); refine blk_put (cs := #[.int .i64 x102000_1, .int .i64 x102001_1]) ?_ 0 _ rfl; (with_reducible repeat (first | refine blk_drewN ?_ _ | refine blk_drew ?_ | refine blk_alloc ?_ _)); exact BK101.out) Tryz.underlying62 rfl (by kernel_rfl)) rfl ?_; exact ⟨d4_, d1_⟩
end
end Go.Proofs.YtfjbjiklohjodaaGreatDoor.Q
namespace Go.Proofs.YtfjbjiklohjodaaGreatDoor.Q
open Go.RowKit Go.Proofs.YtfjbjiklohjodaaGreatDoorW.PrintWords Go.Proofs.YtfjbjiklohjodaaGreatDoorW.PrintLast Go.Proofs.YtfjbjiklohjodaaGreatDoorW.PrintMore
attribute [local go_sem] max2_int min2_int max_two min_two max_three min_three max_four min_four
set_option linter.unusedVariables false
set_option linter.unusedSimpArgs false
noncomputable section
def spec_l2Pieces.l0 : Nat → ByteArray → List (S116) → Int → Int → Option ((List (S116)))
 | 0, _, _, _, _ => none
 | k + 1, x0, x3, x4, x5 => if x5 < x4 then (if 0 ≤ x5 then (if x5 ≤ x4 then (if x4 ≤ (x0.size : Int) then ((spec_l2Name.f k (x0.extract (x5 : Int).toNat (x4 : Int).toNat)).bind fun bt105 => (if bt105.2.2 > 0 then (if x3.length < 4398046511104 then (spec_l2Pieces.l0 k x0 (x3 ++ [(⟨bt105.2.2, true, (⟨bt105.1, bt105.2.1⟩ : S62)⟩ : S116)]) x4 (wrap64 (x5 + bt105.2.2))) else (none)) else (if x3.length < 4398046511104 then (spec_l2Pieces.l0 k x0 (x3 ++ [(⟨1, false, (⟨0, 0⟩ : S62)⟩ : S116)]) x4 (wrap64 (x5 + 1))) else (none)))) else (none)) else (none)) else (none)) else (some x3)
def spec_l2Pieces.f (k : Nat) (a0 : ByteArray) : Option ((List (S116))) := (spec_l2Held.f a0).bind fun t104 => (spec_l2Pieces.l0 k a0 (([] : List (S116))) (wrap64 ((a0.size : Int) - t104)) 0)
theorem spec_l2Pieces.mono_l : ∀ k, (∀ y0 y1 y2 y3, LeO (spec_l2Pieces.l0 k y0 y1 y2 y3) (spec_l2Pieces.l0 (k + 1) y0 y1 y2 y3))
 | 0 => fun _ _ _ _ r h => by simp [spec_l2Pieces.l0] at h
 | k + 1 => by
  have ih0 := spec_l2Pieces.mono_l k
  ·intro y0 y1 y2 y3
   unfold spec_l2Pieces.l0
   have m0 := @spec_l2Name.mono
   exact zq_
theorem spec_l2Pieces.mono : ∀ a0 k, LeO (spec_l2Pieces.f k a0) (spec_l2Pieces.f (k + 1) a0) := by
 intro a0 k
 have ih0 := spec_l2Pieces.mono_l k
 unfold spec_l2Pieces.f
 have m0 := @spec_l2Name.mono
 exact zq_
set_option maxHeartbeats 8000000 in
set_option maxRecDepth 100000 in
theorem spec_l2Pieces.calls (k : Nat) (a0 : ByteArray) (r : List (S116)) (w : World) (h : spec_l2Pieces.f k a0 = some r) :
  Calls Tryz.prog 121 #[.string a0] w fun e w' => ∃ v0_ : Value, e = .returned (v0_) ∧ Kd.R k116 116 w' w.heap.size (fun _ => True) v0_ r ∧ Below w.heap.size w w' := by
 have hu62 := Tryz.underlying62
 have hu116 := Tryz.underlying116
 have HB := Aside0.mk (Below.refl w.heap.size w)
 have H : ((spec_l2Held.f a0).bind fun t104 => (spec_l2Pieces.l0 k a0 (([] : List (S116))) (wrap64 ((a0.size : Int) - t104)) 0)) = some r := h
 clear h
 obtain ⟨y101, hy101⟩ : ∃ y_ : List (S116), y_ = (([] : List (S116))) := ⟨_, rfl⟩
 replace H : ((spec_l2Held.f a0).bind fun t104 => (spec_l2Pieces.l0 k a0 y101 (wrap64 ((a0.size : Int) - t104)) 0)) = some r := by first | (rw [hy101]; with_reducible exact H) | (have H2_ := (Option.bind_some _ _).symm.trans H; rw [hy101]; with_reducible exact H2_) | (have H2_ := (Option.bind_some _ _).symm.trans H; with_reducible exact H2_) | with_reducible exact H | (rw [hy101]; exact H) | exact H
 have Ny101 := Aside0.mk hy101
 clear hy101
 obtain ⟨t104, A2, H⟩ := zH_ H
 have H' := Aside0.mk H
 clear H
 go_enter Tryz.func121, Tryz.ntmps121
 go_wp2_with (first | ((with_reducible refine gate_dst (N := 8) rfl ?_); refine Kd.R_lit k116 _ 116 ?hg (N := 8) ?hd (xs := ([] : List (S116))) (inner := []) (ok := fun _ => True) (okp := fun _ => True) ?hr ?hp (fun _ hk => hk) trivial (Below.refl _ _) (Nat.le_refl _) (by simp) ?_; (case hd => rfl); (case hg => rfl); (case hr => exact d15_); (case hp => exact d16_); intro v102 w3 ho4 hb hg_ hnew_; clear hg_ hnew_; (first | rw [← Ny101.out] at ho4 | (simp only [Int.reduceToNat] at ho4; rw [← Ny101.out] at ho4)); have HO103 := A_ (Kd.R_lower ho4 (below_size (zB_ HB.out))); replace HB := A_ (below_step (zB_ HB.out) hb); clear hb ho4) | ((with_reducible refine gate_callee (f := 166) rfl ?_); refine zc_ (some 12) Tryz.func166 #[.string a0] ?_; (with_reducible refine (spec_l2Held.calls a0 t104 _ A2.out).mono ?_); rintro e w5 ⟨rfl, hb⟩; refine ⟨_, rfl, ?_⟩; replace HO103 := A_ (Kd.R_below (zR_ HO103.out) hb); replace HB := A_ (below_step (zB_ HB.out) hb); (try clear hb); (try clear hi)))
 go_loopg [3, 5] k (fun kq v3 v5 w' => ∃ (x3_1 : List (S116)) (x5_1 : Int), v5 = .int .i64 x5_1 ∧ Aside0 (spec_l2Pieces.l0 kq a0 x3_1 (wrap64 ((a0.size : Int) - t104)) x5_1 = some r) ∧ Aside0 (kq ≤ k) ∧ Aside0 (Kd.R k116 116 w' w.heap.size (fun _ => True) v3 x3_1) ∧ Aside0 (Below w.heap.size w w'))
 case atStart => exact ⟨(y101), (0), zs_, H', ⟨Nat.le_refl _⟩, ⟨d17_⟩, ⟨d18_⟩⟩
 case round =>
  clear H'
  try clear c1
  try clear p2
  obtain ⟨x3_1, x5_1, rfl, HA, HK1, HO_3, HB⟩ := hrel
  cases gk with
  | zero => exact absurd HA.out (by simp [spec_l2Pieces.l0])
  | succ k1 =>
   have H := HA.out; clear HA; simp only [spec_l2Pieces.l0] at H
   by_cases c6 : x5_1 < (wrap64 ((a0.size : Int) - t104))
   ·rw [if_pos c6] at H; have c6b0 : decide (x5_1 < (wrap64 ((a0.size : Int) - t104))) = true := decide_eq_true c6; clear c6
    by_cases c7 : 0 ≤ x5_1
    ·rw [if_pos c7] at H; have c7b0 := eq_true c7; have c7b1 : decide (0 ≤ x5_1) = true := decide_eq_true c7; clear c7
     by_cases c8 : x5_1 ≤ (wrap64 ((a0.size : Int) - t104))
     ·rw [if_pos c8] at H; have c8b0 := eq_true c8; have c8b1 : decide (x5_1 ≤ (wrap64 ((a0.size : Int) - t104))) = true := decide_eq_true c8; clear c8
      by_cases c9 : (wrap64 ((a0.size : Int) - t104)) ≤ (a0.size : Int)
      ·rw [if_pos c9] at H; have c9b0 := eq_true c9; have c9b1 : decide ((wrap64 ((a0.size : Int) - t104)) ≤ (a0.size : Int)) = true := decide_eq_true c9; clear c9; obtain ⟨⟨t105, t106, t107⟩, A10, H⟩ := zH_ H; dsimp only at H
       by_cases c11 : t107 > 0
       ·rw [if_pos c11] at H; have c11b0 : decide (0 < t107) = true := decide_eq_true c11; clear c11
        by_cases c12 : x3_1.length < 4398046511104
        ·rw [if_pos c12] at H; have LMc12 := Aside0.mk c12; clear c12; obtain ⟨y109, hy109⟩ : ∃ y_ : List (S116), y_ = (x3_1 ++ [(⟨t107, true, (⟨t105, t106⟩ : S62)⟩ : S116)]) := ⟨_, rfl⟩
         replace H : (spec_l2Pieces.l0 k1 a0 y109 (wrap64 ((a0.size : Int) - t104)) (wrap64 (x5_1 + t107))) = some r := by first | (rw [hy109]; with_reducible exact H) | (have H2_ := (Option.bind_some _ _).symm.trans H; rw [hy109]; with_reducible exact H2_) | (have H2_ := (Option.bind_some _ _).symm.trans H; with_reducible exact H2_) | with_reducible exact H | (rw [hy109]; exact H) | exact H
         have Ny109 := Aside0.mk hy109; clear hy109; have H' := Aside0.mk H; clear H
         go_wp2_with (first | ((with_reducible refine gate_callee (f := 167) rfl ?_); refine zc_ (some 22) Tryz.func167 #[.string (a0.extract (x5_1 : Int).toNat ((wrap64 ((a0.size : Int) - t104)) : Int).toNat)] ?_; (with_reducible refine (spec_l2Name.calls k1 (a0.extract (x5_1 : Int).toNat ((wrap64 ((a0.size : Int) - t104)) : Int).toNat) t105 t106 t107 _ A10.out).mono ?_); rintro e w13 ⟨rfl, hb⟩; refine ⟨_, rfl, ?_⟩; replace HO_3 := A_ (Kd.R_below (zR_ HO_3.out) hb); replace HB := A_ (below_step (zB_ HB.out) hb); (try clear hb); (try clear hi)) | ((with_reducible refine gate_dst (N := 6) rfl ?_); refine zx_ (N := 6) #[.int .i64 0, .int .i64 0] 62 ?_; intro gb108 hg w14 hbox hb; replace HO_3 := A_ (Kd.R_below (zR_ HO_3.out) hb); have BK108 := A_ hbox; have GW108 := A_ ((d0_ : w.heap.size ≤ gb108)); have GE108 := A_ ((d0_ : w.heap.size ≤ gb108)); replace HB := A_ (below_step (zB_ HB.out) hb); clear hb hbox hg; have hcz15_0 : w14.cell? ⟨gb108, 0, none⟩ = some (.int .i64 0) := (blk_cell BK108.out 0).trans rfl; have hcz15_1 : w14.cell? ⟨gb108, 1, none⟩ = some (.int .i64 0) := (blk_cell BK108.out 1).trans rfl; have hfz15_0 := blk_frozen BK108.out 0; have hfz15_1 := blk_frozen BK108.out 1) | ((with_reducible refine gate_builtin (b := .append) (xs := #[.tmp 27, .tmp 31]) rfl ?_); at_builtin; refine Kd.R_append k116 (w0 := w) w.heap.size rfl (.tmp 27) (.tmp 31) 113 116 (.agg #[(.int .i64 0), (.bool false), (.int .i64 0), (.int .i64 0)]) 32 rfl Tryz.underlying113 info116 rfl (by decide) (by omega) u3 x3_1 (⟨t107, true, (⟨t105, t106⟩ : S62)⟩ : S116) [.int .i64 t107, .bool true, .int .i64 t105, .int .i64 t106] (fun _ => True) (fun _ => False) rfl d15_ ?aP (fun _ hk => hk.elim) ?aF ?aO ?aB ?aS ?aL ?_; (case aP => exact k116_mkM _ _ _ (⟨t107, true, (⟨t105, t106⟩ : S62)⟩ : S116)); (case aB => exact d19_); (case aF => exact (fun _ _ => trivial)); (case aO => exact d20_); (case aS => exact d21_); (case aL => have := LMc12.out; omega); intro v110 w16 ho hb hg hat; rw [← Ny109.out] at ho; replace BK108 := A_ (blk_grown (g := gb108) (o := .cells #[.int .i64 t105, .int .i64 t106] 62 (0, 0)) d22_ hg (Kd.R_ne HO_3.out BK108.out (by decide))); replace HB := A_ hb; have HO111 := A_ ho; clear HO_3; clear ho hb hg hat))
         go_roundg k1
         case measure => have := HK1.out; omega
         case rel => exact ⟨(y109), (wrap64 (x5_1 + t107)), zs_, H', ⟨d23_⟩, ⟨d24_⟩, ⟨d25_⟩⟩
        rw [if_neg c12] at H; exact absurd H (by simp)
       rw [if_neg c11] at H; have c11b0 : decide (0 < t107) = false := decide_eq_false c11; clear c11
       by_cases c17 : x3_1.length < 4398046511104
       ·rw [if_pos c17] at H; have LMc17 := Aside0.mk c17; clear c17; obtain ⟨y112, hy112⟩ : ∃ y_ : List (S116), y_ = (x3_1 ++ [(⟨1, false, (⟨0, 0⟩ : S62)⟩ : S116)]) := ⟨_, rfl⟩
        replace H : (spec_l2Pieces.l0 k1 a0 y112 (wrap64 ((a0.size : Int) - t104)) (wrap64 (x5_1 + 1))) = some r := by first | (rw [hy112]; with_reducible exact H) | (have H2_ := (Option.bind_some _ _).symm.trans H; rw [hy112]; with_reducible exact H2_) | (have H2_ := (Option.bind_some _ _).symm.trans H; with_reducible exact H2_) | with_reducible exact H | (rw [hy112]; exact H) | exact H
        have Ny112 := Aside0.mk hy112; clear hy112; have H' := Aside0.mk H; clear H
        go_wp2_with (first | ((with_reducible refine gate_callee (f := 167) rfl ?_); refine zc_ (some 22) Tryz.func167 #[.string (a0.extract (x5_1 : Int).toNat ((wrap64 ((a0.size : Int) - t104)) : Int).toNat)] ?_; (with_reducible refine (spec_l2Name.calls k1 (a0.extract (x5_1 : Int).toNat ((wrap64 ((a0.size : Int) - t104)) : Int).toNat) t105 t106 t107 _ A10.out).mono ?_); rintro e w18 ⟨rfl, hb⟩; refine ⟨_, rfl, ?_⟩; replace HO_3 := A_ (Kd.R_below (zR_ HO_3.out) hb); replace HB := A_ (below_step (zB_ HB.out) hb); (try clear hb); (try clear hi)) | ((with_reducible refine gate_dst (N := 6) rfl ?_); refine zx_ (N := 6) #[.int .i64 0, .int .i64 0] 62 ?_; intro gb108 hg w19 hbox hb; replace HO_3 := A_ (Kd.R_below (zR_ HO_3.out) hb); have BK108 := A_ hbox; have GW108 := A_ ((d0_ : w.heap.size ≤ gb108)); have GE108 := A_ ((d0_ : w.heap.size ≤ gb108)); replace HB := A_ (below_step (zB_ HB.out) hb); clear hb hbox hg; have hcz20_0 : w19.cell? ⟨gb108, 0, none⟩ = some (.int .i64 0) := (blk_cell BK108.out 0).trans rfl; have hcz20_1 : w19.cell? ⟨gb108, 1, none⟩ = some (.int .i64 0) := (blk_cell BK108.out 1).trans rfl; have hfz20_0 := blk_frozen BK108.out 0; have hfz20_1 := blk_frozen BK108.out 1) | ((with_reducible refine gate_builtin (b := .append) (xs := #[.tmp 33, .tmp 35]) rfl ?_); at_builtin; refine Kd.R_append k116 (w0 := w) w.heap.size rfl (.tmp 33) (.tmp 35) 113 116 (.agg #[(.int .i64 0), (.bool false), (.int .i64 0), (.int .i64 0)]) 32 rfl Tryz.underlying113 info116 rfl (by decide) (by omega) u3 x3_1 (⟨1, false, (⟨0, 0⟩ : S62)⟩ : S116) [.int .i64 1, .bool false, .int .i64 0, .int .i64 0] (fun _ => True) (fun _ => False) rfl d15_ ?aP (fun _ hk => hk.elim) ?aF ?aO ?aB ?aS ?aL ?_; (case aP => exact k116_mkM _ _ _ (⟨1, false, (⟨0, 0⟩ : S62)⟩ : S116)); (case aB => exact d19_); (case aF => exact (fun _ _ => trivial)); (case aO => exact d20_); (case aS => exact d21_); (case aL => have := LMc17.out; omega); intro v113 w21 ho hb hg hat; rw [← Ny112.out] at ho; replace BK108 := A_ (blk_grown (g := gb108) (o := .cells #[.int .i64 t105, .int .i64 t106] 62 (0, 0)) d22_ hg (Kd.R_ne HO_3.out BK108.out (by decide))); replace HB := A_ hb; have HO114 := A_ ho; clear HO_3; clear ho hb hg hat))
        go_roundg k1
        case measure => have := HK1.out; omega
        case rel => exact ⟨(y112), (wrap64 (x5_1 + 1)), zs_, H', ⟨d23_⟩, ⟨by (with_reducible repeat (first | apply Kd.R_alloc | apply Kd.R_drewN | apply Kd.R_drew)); exact HO114.out⟩, ⟨d25_⟩⟩
       rw [if_neg c17] at H; exact absurd H (by simp)
      rw [if_neg c9] at H; exact absurd H (by simp)
     rw [if_neg c8] at H; exact absurd H (by simp)
    rw [if_neg c7] at H; exact absurd H (by simp)
   rw [if_neg c6] at H; have c6b0 : decide (x5_1 < (wrap64 ((a0.size : Int) - t104))) = false := decide_eq_false c6; clear c6; obtain rfl := Option.some.inj H
   go_wp2
   go_ret
   exact ⟨_, d4_, d26_, d18_⟩
end
end Go.Proofs.YtfjbjiklohjodaaGreatDoor.Q
namespace Go.Proofs.YtfjbjiklohjodaaGreatDoor.Q
open Go.RowKit Go.Proofs.YtfjbjiklohjodaaGreatDoorW.PrintWords Go.Proofs.YtfjbjiklohjodaaGreatDoorW.PrintLast Go.Proofs.YtfjbjiklohjodaaGreatDoorW.PrintMore Go.Proofs.YtfjbjiklohjodaaGreatDoor.Z
attribute [local go_sem] max2_int min2_int max_two min_two max_three min_three max_four min_four
set_option linter.unusedVariables false
set_option linter.unusedSimpArgs false
noncomputable section
def impl_pieces.l0 : Nat → List (S116) → ByteArray → Option ((List (S116)))
 | 0, _, _ => none
 | k + 1, x3, x4 => if x4.toList = ([] : List UInt8) then ((slices_Clip_Piece.f x3).bind fun t105 => (some t105)) else ((impl_piece.f x4).bind fun bt108 => (if x3.length < 4398046511104 then (if 0 ≤ bt108.1 then (if bt108.1 ≤ (x4.size : Int) then (impl_pieces.l0 k (x3 ++ [(⟨bt108.1, bt108.2.1, (⟨bt108.2.2.1, bt108.2.2.2⟩ : S62)⟩ : S116)]) (x4.extract (bt108.1 : Int).toNat x4.size)) else (none)) else (none)) else (none)))
def impl_pieces.f (k : Nat) (a0 : ByteArray) : Option ((List (S116))) := (impl_held.f a0).bind fun t104 => (if 0 ≤ (wrap64 ((a0.size : Int) - t104)) then (if (wrap64 ((a0.size : Int) - t104)) ≤ (a0.size : Int) then (impl_pieces.l0 k (([] : List (S116))) (a0.extract 0 ((wrap64 ((a0.size : Int) - t104)) : Int).toNat)) else (none)) else (none))
set_option maxHeartbeats 8000000 in
set_option maxRecDepth 100000 in
theorem impl_pieces.calls (k : Nat) (a0 : ByteArray) (r : List (S116)) (w : World) (hV : VarsIn w) (h : impl_pieces.f k a0 = some r) :
  Calls Tryz.prog 78 #[.string a0] w fun e w' => ∃ v0_ : Value, e = .returned (v0_) ∧ Kd.V k116 116 w' w.heap.size (fun k_ => (w.heap.size ≤ k_)) v0_ r ∧ Below w.heap.size w w' := by
 have hu116 := Tryz.underlying116
 have HB := Aside0.mk (Below.refl w.heap.size w)
 have H : ((impl_held.f a0).bind fun t104 => (if 0 ≤ (wrap64 ((a0.size : Int) - t104)) then (if (wrap64 ((a0.size : Int) - t104)) ≤ (a0.size : Int) then (impl_pieces.l0 k (([] : List (S116))) (a0.extract 0 ((wrap64 ((a0.size : Int) - t104)) : Int).toNat)) else (none)) else (none))) = some r := h
 clear h
 obtain ⟨y101, hy101⟩ : ∃ y_ : List (S116), y_ = (([] : List (S116))) := ⟨_, rfl⟩
 replace H : ((impl_held.f a0).bind fun t104 => (if 0 ≤ (wrap64 ((a0.size : Int) - t104)) then (if (wrap64 ((a0.size : Int) - t104)) ≤ (a0.size : Int) then (impl_pieces.l0 k y101 (a0.extract 0 ((wrap64 ((a0.size : Int) - t104)) : Int).toNat)) else (none)) else (none))) = some r := by first | (rw [hy101]; with_reducible exact H) | (have H2_ := (Option.bind_some _ _).symm.trans H; rw [hy101]; with_reducible exact H2_) | (have H2_ := (Option.bind_some _ _).symm.trans H; with_reducible exact H2_) | with_reducible exact H | (rw [hy101]; exact H) | exact H
 have Ny101 := Aside0.mk hy101
 clear hy101
 obtain ⟨t104, A2, H⟩ := zH_ H
 obtain ⟨ji3, hji3⟩ : ∃ j_ : Int, (wrap64 ((a0.size : Int) - t104)) = j_ := ⟨_, rfl⟩
 replace H : (if 0 ≤ (ji3) then (if (ji3) ≤ (a0.size : Int) then (impl_pieces.l0 k y101 (a0.extract 0 ((ji3) : Int).toNat)) else (none)) else (none)) = some r := by first | (rw [hji3] at H; exact H) | (simp only [hji3] at H ⊢; exact H)
 (try rw [hji3] at A2)
 have hji3w : (IntKind.i64.wrap ((a0.size : Int) - t104)) = ji3 := (i64_w _).trans hji3
 by_cases c4 : 0 ≤ (ji3)
 ·rw [if_pos c4] at H; have c4b0 := eq_true c4; have c4b1 : decide (0 ≤ (ji3)) = true := decide_eq_true c4; clear c4
  by_cases c5 : (ji3) ≤ (a0.size : Int)
  ·rw [if_pos c5] at H; have c5b0 := eq_true c5; have c5b1 : decide ((ji3) ≤ (a0.size : Int)) = true := decide_eq_true c5; clear c5; have H' := Aside0.mk H; clear H
   go_enter Tryz.func78, Tryz.ntmps78
   go_wp2_with (first | ((with_reducible refine gate_dst (N := 6) rfl ?_); refine Kd.R_lit k116 _ 116 ?hg (N := 6) ?hd (xs := ([] : List (S116))) (inner := []) (ok := fun _ => True) (okp := fun _ => True) ?hr ?hp (fun _ hk => hk) trivial (Below.refl _ _) (Nat.le_refl _) (by simp) ?_; (case hd => rfl); (case hg => rfl); (case hr => exact d15_); (case hp => exact d16_); intro v102 w6 ho7 hb hg_ hnew_; clear hg_ hnew_; (first | rw [← Ny101.out] at ho7 | (simp only [Int.reduceToNat] at ho7; rw [← Ny101.out] at ho7)); have HO103 := A_ (Kd.R_lower (Kd.R_newM (M := fun k_ => (w.heap.size ≤ k_)) ho7 (below_size (zB_ HB.out)) (fun k_ h_ => h_)) (below_size (zB_ HB.out))); replace HB := A_ (below_step (zB_ HB.out) hb); clear hb ho7) | ((with_reducible refine gate_callee (f := 131) rfl ?_); refine zc_ (some 11) Tryz.func131 #[.string a0] ?_; (with_reducible refine (impl_held.calls a0 t104 _ A2.out).mono ?_); rintro e w8 ⟨rfl, hb⟩; refine ⟨_, rfl, ?_⟩; replace HO103 := A_ (Kd.R_below (zR_ HO103.out) hb); replace HB := A_ (below_step (zB_ HB.out) hb); (try clear hb); (try clear hi)))
   go_loopg [3, 4] k (fun kq v3 v4 w' => ∃ (x3_1 : List (S116)) (x4_1 : ByteArray), v4 = .string x4_1 ∧ Aside0 (impl_pieces.l0 kq x3_1 x4_1 = some r) ∧ Aside0 (kq ≤ k) ∧ Aside0 (Kd.R k116 116 w' w.heap.size (fun k_ => (w.heap.size ≤ k_)) v3 x3_1) ∧ Aside0 (Below w.heap.size w w'))
   case atStart => exact ⟨(y101), (a0.extract 0 ((ji3) : Int).toNat), (by first | rfl | (simp; done) | (simp only [← hji3] <;> (first | rfl | simp)) | (simp [*]; done)), H', ⟨Nat.le_refl _⟩, ⟨d27_⟩, ⟨d18_⟩⟩
   case round =>
    clear H'; (try clear c1); (try clear p2); (try clear c4); (try clear c4b0); (try clear c4b1); (try clear c5); (try clear c5b0); (try clear c5b1); (try clear p6); (try clear c7); obtain ⟨x3_1, x4_1, rfl, HA, HK1, HO_3, HB⟩ := hrel
    cases gk with
    | zero => exact absurd HA.out (by simp [impl_pieces.l0])
    | succ k1 =>
     have H := HA.out; clear HA; simp only [impl_pieces.l0] at H
     by_cases c9 : x4_1.toList = ([] : List UInt8)
     ·rw [if_pos c9] at H; have c9b0 : (x4_1.toList == ([] : List UInt8)) = true := beq_iff_eq.mpr c9; have c9b1 : (x4_1.toList != ([] : List UInt8)) = false := bne_eq_false_iff_eq.mpr c9; clear c9; obtain ⟨t105, A10, H⟩ := zH_ H; obtain rfl := Option.some.inj H; obtain ⟨Ao11, co11, eo11⟩ := Kd.R_slice HO_3.out; subst eo11
      go_wp2_with (first | ((with_reducible refine gate_callee (f := 133) rfl ?_); refine zc_ (some 27) Tryz.func133 #[.slice Ao11 x3_1.length co11] ?_; (with_reducible refine (slices_Clip_Piece.calls (fun k_ => some k_ = (.slice Ao11 x3_1.length co11 : Value).ownBlock) _ _ x3_1 t105 _ ?side1 A10.out).mono ?_); (case side1 => exact Kd.R_V (Kd.R_tight rfl (HO_3.out))); rintro e w12 ⟨v106, rfl, ho0, hb⟩; refine ⟨_, rfl, ?_⟩; have HO107 := A_ (Kd.V_lower (Kd.V_mono (ok' := fun k_ => (w.heap.size ≤ k_)) ho0 (fun k_ hk_ => Or.elim hk_ (fun hs_ => ((HO_3.out).1 k_ hs_.symm)) (fun hn_ => (Nat.le_trans (below_size (zB_ HB.out)) hn_)))) (below_size (zB_ HB.out))); replace HO_3 := A_ (Kd.R_below (zR_ HO_3.out) hb); replace HB := A_ (below_step (zB_ HB.out) hb); (try clear hb); (try clear ho0)))
      go_ret
      exact ⟨_, by first | rfl | (simp [errW_none, errW_some] <;> rfl) | (simp only [← hji3]; first | rfl | (simp [errW_none, errW_some] <;> rfl)) | (simp [*, errW_none, errW_some] <;> rfl), by (with_reducible repeat (first | apply Kd.V_alloc | apply Kd.V_drewN | apply Kd.V_drew)); exact HO107.out, d18_⟩
     rw [if_neg c9] at H; have c9b0 : (x4_1.toList == ([] : List UInt8)) = false := beq_eq_false_iff_ne.mpr c9; have c9b1 : (x4_1.toList != ([] : List UInt8)) = true := bne_iff_ne.mpr c9; obtain ⟨⟨t108, t109, t110, t111⟩, A13, H⟩ := zH_ H; dsimp only at H
     by_cases c14 : x3_1.length < 4398046511104
     ·rw [if_pos c14] at H; have LMc14 := Aside0.mk c14; clear c14; obtain ⟨y113, hy113⟩ : ∃ y_ : List (S116), y_ = (x3_1 ++ [(⟨t108, t109, (⟨t110, t111⟩ : S62)⟩ : S116)]) := ⟨_, rfl⟩
      replace H : (if 0 ≤ t108 then (if t108 ≤ (x4_1.size : Int) then (impl_pieces.l0 k1 y113 (x4_1.extract (t108 : Int).toNat x4_1.size)) else (none)) else (none)) = some r := by first | (rw [hy113]; with_reducible exact H) | (have H2_ := (Option.bind_some _ _).symm.trans H; rw [hy113]; with_reducible exact H2_) | (have H2_ := (Option.bind_some _ _).symm.trans H; with_reducible exact H2_) | with_reducible exact H | (rw [hy113]; exact H) | exact H
      have Ny113 := Aside0.mk hy113; clear hy113
      by_cases c15 : 0 ≤ t108
      ·rw [if_pos c15] at H; have c15b0 := eq_true c15; have c15b1 : decide (0 ≤ t108) = true := decide_eq_true c15; clear c15
       by_cases c16 : t108 ≤ (x4_1.size : Int)
       ·rw [if_pos c16] at H; have c16b0 := eq_true c16; have c16b1 : decide (t108 ≤ (x4_1.size : Int)) = true := decide_eq_true c16; clear c16; have H' := Aside0.mk H; clear H
        go_wp2_with (first | ((with_reducible refine gate_callee (f := 132) rfl ?_); refine zc_ (some 17) Tryz.func132 #[.string x4_1] ?_; (with_reducible refine (impl_piece.calls x4_1 t108 t109 t110 t111 _ ?side1 A13.out).mono ?_); (case side1 => exact hV.next (zB_ HB.out)); rintro e w17 ⟨rfl, hb⟩; refine ⟨_, rfl, ?_⟩; replace HO_3 := A_ (Kd.R_below (zR_ HO_3.out) hb); replace HB := A_ (below_step (zB_ HB.out) hb); (try clear hb); (try clear hi)) | ((with_reducible refine gate_dst (N := 5) rfl ?_); refine zx_ (N := 5) #[.int .i64 0, .bool false, .int .i64 0, .int .i64 0] 116 ?_; intro gb112 hg w18 hbox hb; replace HO_3 := A_ (Kd.R_below (Kd.R_elderB (zR_ HO_3.out) gb112 (Nat.le_of_eq hg.symm)) hb); have BK112 := A_ hbox; have GW112 := A_ ((d0_ : w.heap.size ≤ gb112)); have GE112 := A_ ((d0_ : w.heap.size ≤ gb112)); replace HB := A_ (below_step (zB_ HB.out) hb); clear hb hbox hg; have hcz19_0 : w18.cell? ⟨gb112, 0, none⟩ = some (.int .i64 0) := (blk_cell BK112.out 0).trans rfl; have hcz19_1 : w18.cell? ⟨gb112, 1, none⟩ = some (.bool false) := (blk_cell BK112.out 1).trans rfl; have hcz19_2 : w18.cell? ⟨gb112, 2, none⟩ = some (.int .i64 0) := (blk_cell BK112.out 2).trans rfl; have hcz19_3 : w18.cell? ⟨gb112, 3, none⟩ = some (.int .i64 0) := (blk_cell BK112.out 3).trans rfl; have hfz19_0 := blk_frozen BK112.out 0; have hfz19_1 := blk_frozen BK112.out 1; have hfz19_2 := blk_frozen BK112.out 2; have hfz19_3 := blk_frozen BK112.out 3) | ((with_reducible refine gate_builtin (b := .append) (xs := #[.tmp 18, .tmp 20]) rfl ?_); at_builtin; refine Kd.R_append k116 (w0 := w) w.heap.size rfl (.tmp 18) (.tmp 20) 113 116 (.agg #[(.int .i64 0), (.bool false), (.int .i64 0), (.int .i64 0)]) 32 rfl Tryz.underlying113 info116 rfl (by decide) (by omega) u3 x3_1 (⟨t108, t109, (⟨t110, t111⟩ : S62)⟩ : S116) [.int .i64 t108, .bool t109, .int .i64 t110, .int .i64 t111] (fun k_ => (w.heap.size ≤ k_) ∧ k_ ≠ gb112) (fun _ => False) rfl d15_ ?aP (fun _ hk => hk.elim) ?aF ?aO ?aB ?aS ?aL ?_; (case aP => exact k116_mkM _ _ _ (⟨t108, t109, (⟨t110, t111⟩ : S62)⟩ : S116)); (case aB => exact d28_); (case aF => exact (fun k_ hk => ⟨(Nat.le_trans (below_size d28_) hk), Kd.freshB (g := gb112) (o := .cells #[.int .i64 t108, .bool t109, .int .i64 t110, .int .i64 t111] 116 (0, 0)) d29_ k_ hk⟩)); (case aO => exact (zR_ (Kd.R_mono (Kd.R_far (p := ⟨gb112, 3, none⟩) (Kd.R_far (p := ⟨gb112, 2, none⟩) (Kd.R_far (p := ⟨gb112, 1, none⟩) (Kd.R_far (p := ⟨gb112, 0, none⟩) (Kd.R_mono HO_3.out (fun k_ hk => (⟨hk, hk.2⟩ : _ ∧ k_ ≠ gb112))) (fun _ hk => hk.2) (.int .i64 t108)) (fun _ hk => hk.2) (.bool t109)) (fun _ hk => hk.2) (.int .i64 t110)) (fun _ hk => hk.2) (.int .i64 t111)) (fun _ hk => ⟨hk.1.1, hk.1.2⟩)))); (case aS => exact (below_size d28_)); (case aL => have := LMc14.out; omega); intro v114 w20 ho hb hg hat; rw [← Ny113.out] at ho; replace BK112 := A_ (blk_grown (g := gb112) (o := .cells #[.int .i64 t108, .bool t109, .int .i64 t110, .int .i64 t111] 116 (0, 0)) d29_ hg (Kd.R_away HO_3.out (fun _ hk => hk.2))); replace HB := A_ hb; have HO115 := A_ ho; clear HO_3; clear ho hb hg hat; have hcz21_0 : w20.cell? ⟨gb112, 0, none⟩ = some (.int .i64 t108) := (blk_cell BK112.out 0).trans rfl; have hcz21_1 : w20.cell? ⟨gb112, 1, none⟩ = some (.bool t109) := (blk_cell BK112.out 1).trans rfl; have hcz21_2 : w20.cell? ⟨gb112, 2, none⟩ = some (.int .i64 t110) := (blk_cell BK112.out 2).trans rfl; have hcz21_3 : w20.cell? ⟨gb112, 3, none⟩ = some (.int .i64 t111) := (blk_cell BK112.out 3).trans rfl; have hfz21_0 := blk_frozen BK112.out 0; have hfz21_1 := blk_frozen BK112.out 1; have hfz21_2 := blk_frozen BK112.out 2; have hfz21_3 := blk_frozen BK112.out 3))
        go_roundg k1
        case measure => have := HK1.out; omega
        case rel => exact ⟨(y113), (x4_1.extract (t108 : Int).toNat x4_1.size), zs_, H', ⟨d23_⟩, ⟨by (with_reducible repeat (first | apply Kd.R_alloc | apply Kd.R_drewN | apply Kd.R_drew)); exact Kd.R_mono HO115.out (fun _ hk => hk.1)⟩, ⟨d28_⟩⟩
       rw [if_neg c16] at H; exact absurd H (by simp)
      rw [if_neg c15] at H; exact absurd H (by simp)
     rw [if_neg c14] at H; exact absurd H (by simp)
  rw [if_neg c5] at H; exact absurd H (by simp)
 rw [if_neg c4] at H
 exact absurd H (by simp)
end
end Go.Proofs.YtfjbjiklohjodaaGreatDoor.Q
namespace Go.Proofs.YtfjbjiklohjodaaGreatDoor.Q
open Go.RowKit Go.Proofs.YtfjbjiklohjodaaGreatDoorW.PrintWords Go.Proofs.YtfjbjiklohjodaaGreatDoorW.PrintMore Go.Proofs.YtfjbjiklohjodaaGreatDoor.Z
set_option linter.unusedVariables false
set_option linter.unusedSimpArgs false
def To {α : Type} (g : Nat → Option α) (r : α) : Prop := ∃ K, ∀ k, K ≤ k → g k = some r
theorem To.of {α : Type} {g : Nat → Option α} {r : α} (h : ∀ k, g k = some r) : To g r := ⟨0, fun k _ => h k⟩
theorem To.step {α : Type} {g h : Nat → Option α} {r : α} (hg : ∀ k, g (k + 1) = h k) (hh : To h r) : To g r := by
  obtain ⟨K, hK⟩ := hh
  refine ⟨K + 1, fun k hk => ?_⟩
  obtain ⟨k, rfl⟩ : ∃ m, k = m + 1 := ⟨k - 1, by omega⟩
  rw [hg]
  exact hK k (by omega)
theorem To.bind {α β : Type} {g : Nat → Option α} {h : Nat → α → Option β} {a : α} {r : β} (hg : To g a) (hh : To (fun k => h k a) r) : To (fun k => (g k).bind (h k)) r := by
  obtain ⟨K, hK⟩ := hg
  obtain ⟨L, hL⟩ := hh
  exact ⟨K + L, fun k hk => by show (g k).bind (h k) = _; rw [hK k (by omega)]; exact hL k (by omega)⟩
theorem To.congr {α : Type} {g h : Nat → Option α} {r : α} (hh : To h r) (e : ∀ k, g k = h k) : To g r := by
  obtain ⟨K, hK⟩ := hh
  exact ⟨K, fun k hk => by rw [e]; exact hK k hk⟩
theorem w64 {x : Int} (h : -9223372036854775808 ≤ x ∧ x ≤ 9223372036854775807) : wrap64 x = x := by unfold wrap64; omega
abbrev mkB (l : List UInt8) : ByteArray := ⟨l.toArray⟩
theorem mkB_bl (a : ByteArray) : mkB (bl a) = a := bl_mk a
theorem size_mkB (l : List UInt8) : (mkB l).size = l.length := rfl
theorem ext_bl {a b : ByteArray} (h : bl a = bl b) : a = b := by rw [← bl_mk a, ← bl_mk b, h]
theorem toList_bl (a : ByteArray) : a.toList = bl a := by
  exact ByteArray.toList_eq a
theorem bt_bl (a : ByteArray) (i : Nat) : bt a (i : Int) = (((bl a).getD i 0).toNat : Int) := by
  unfold bt
  simp only [Int.toNat_natCast]
  by_cases h : i < a.size
  · rw [dif_pos h, List.getD_eq_getElem?_getD, List.getElem?_eq_getElem (by rw [bl_len]; exact h)]
    rfl
  · rw [dif_neg h, List.getD_eq_getElem?_getD, List.getElem?_eq_none (by rw [bl_len]; omega)]
    rfl
theorem bl_extract (a : ByteArray) (i j : Nat) : bl (a.extract i j) = ((bl a).drop i).take (j - i) := by
  unfold bl
  rw [ByteArray.data_extract]
  simp
theorem bl_append (a b : ByteArray) : bl (a ++ b) = bl a ++ bl b := by
  unfold bl
  rw [ByteArray.data_append]
  simp
theorem u8_eq {b : UInt8} {n : Nat} (hn : n < 256) : ((b.toNat : Int) = (n : Int)) ↔ b = UInt8.ofNat n := by
  constructor
  · intro h
    apply UInt8.toNat_inj.1
    rw [UInt8.toNat_ofNat']
    omega
  · rintro rfl
    rw [UInt8.toNat_ofNat']
    omega
theorem bt64 (a : ByteArray) : (bt a 0 = 64) ↔ (bl a).getD 0 0 = 64 := by
  have h := bt_bl a 0
  rw [show ((0 : Nat) : Int) = 0 from rfl] at h
  rw [h]
  exact u8_eq (n := 64) (by decide)
theorem bt59 (a : ByteArray) (i : Nat) : (bt a (i : Int) == 59) = decide ((bl a).getD i 0 = 59) := by
  rw [bt_bl, Bool.eq_iff_iff, beq_iff_eq, decide_eq_true_iff]
  exact u8_eq (n := 59) (by decide)
theorem l2_one (k : Nat) (a : ByteArray) (n : Nat) (hn : n = 5 ∨ n = 6) (h0 : 0 < a.size) (h1 : a.size ≤ 100000000) :
    spec_l2Name.l0 (k + 3) a n = if n ≤ a.size then (match l2At (bl a) n with | some e => some (e.addr, e.port, (n : Int)) | none => spec_l2Name.l0 k a ((n + 1 : Nat) : Int)) else some (0, 0, 0) := by
  have hw : wrap64 ((n : Int) - 1) = ((n - 1 : Nat) : Int) := by rw [w64 (by omega)]; omega
  have hw2 : wrap64 ((n : Int) + 1) = ((n + 1 : Nat) : Int) := by rw [w64 (by omega)]; omega
  simp only [spec_l2Name.l0, spec_l2Name.j1, spec_l2Name.j2, hw, hw2]
  rw [if_pos (by omega)]
  by_cases hle : n ≤ a.size
  · rw [if_pos hle, if_pos (by simpa using hle), if_pos (by omega)]
    unfold l2At
    rw [bl_len]
    by_cases h64 : (bl a).getD 0 0 = 64
    · rw [if_pos ((bt64 a).2 h64), bt59, if_pos (by omega), if_pos (by omega)]
      by_cases h59 : (bl a).getD (n - 1) 0 = 59
      · rw [if_pos (show decide ((bl a).getD (n - 1) 0 = 59) = true from decide_eq_true h59), if_pos (show (1 : Int) ≤ ((n - 1 : Nat) : Int) by omega), if_pos (show ((n - 1 : Nat) : Int) ≤ (a.size : Int) by omega), if_pos (show n ≤ a.size ∧ (bl a).getD 0 0 = 64 ∧ (bl a).getD (n - 1) 0 = 59 from ⟨hle, h64, h59⟩)]
        unfold spec_EndRead.f
        have hx : bl (a.extract 1 ((n - 1 : Nat) : Int).toNat) = ((bl a).drop 1).take (n - 2) := by rw [bl_extract, Int.toNat_natCast]; congr 1
        rw [hx, if_pos (by rw [← bl_len, hx, List.length_take]; omega), Option.bind_some]
        unfold optE
        cases endRead (((bl a).drop 1).take (n - 2)) with
        | none => simp
        | some e => simp
      · rw [if_neg (show ¬ decide ((bl a).getD (n - 1) 0 = 59) = true by simpa using h59), if_neg (show ¬ (n ≤ a.size ∧ (bl a).getD 0 0 = 64 ∧ (bl a).getD (n - 1) 0 = 59) from fun h => h59 h.2.2)]
    · rw [if_neg (fun h => h64 ((bt64 a).1 h)), if_neg (show ¬ (n ≤ a.size ∧ (bl a).getD 0 0 = 64 ∧ (bl a).getD (n - 1) 0 = 59) from fun h => h64 h.2.1), if_neg (show ¬ false = true by simp)]
  · rw [if_neg hle, if_neg (by simpa using hle)]
def l2N (l : List UInt8) : Int × Int × Int := match nm l with
  | some e => (e.addr, e.port, ((nameOf e).length : Int))
  | none => (0, 0, 0)
theorem l2N_none {l : List UInt8} (h : nm l = none) : l2N l = (0, 0, 0) := by unfold l2N; rw [h]
theorem l2N_some {l : List UInt8} {e : En} (h : nm l = some e) : l2N l = (e.addr, e.port, ((nameOf e).length : Int)) := by unfold l2N; rw [h]
theorem nm_len {l : List UInt8} {e : En} (h : nm l = some e) : (nameOf e).length ≤ l.length := by
  obtain ⟨_, r, hr⟩ := nm_some h
  rw [hr]; simp
theorem l2Name_to (k : Nat) (a : ByteArray) (h0 : 0 < a.size) (h1 : a.size ≤ 100000000) : spec_l2Name.f (k + 8) a = some (l2N (bl a)) := by
  have hs := bl_len a
  show spec_l2Name.l0 (k + 5 + 3) a ((5 : Nat) : Int) = _
  rw [l2_one (k + 5) a 5 (.inl rfl) h0 h1]
  by_cases h5 : 5 ≤ a.size
  · rw [if_pos h5]
    cases e5 : l2At (bl a) 5 with
    | some e =>
      obtain ⟨hn, hl⟩ := l2At_some (by decide) e5
      rw [l2N_some hn, hl]
    | none =>
      show spec_l2Name.l0 (k + 2 + 3) a ((6 : Nat) : Int) = _
      rw [l2_one (k + 2) a 6 (.inr rfl) h0 h1]
      by_cases h6 : 6 ≤ a.size
      · rw [if_pos h6]
        cases e6 : l2At (bl a) 6 with
        | some e =>
          obtain ⟨hn, hl⟩ := l2At_some (by decide) e6
          rw [l2N_some hn, hl]
        | none =>
          rw [l2N_none (nm_of_l2At e5 e6)]
          rfl
      · rw [if_neg h6, l2N_none (nm_of_l2At e5 (by unfold l2At; rw [if_neg (fun h => h6 (by rw [← hs]; exact h.1))]))]
  · rw [if_neg h5, l2N_none (nm_of_l2At (by unfold l2At; rw [if_neg (fun h => h5 (by rw [← hs]; exact h.1))]) (by unfold l2At; rw [if_neg (fun h => h5 (by rw [← hs]; have := h.1; omega))]))]
def pcTo (p : Pc) : S116 := ⟨p.size, p.named, ⟨p.fin.addr, p.fin.port⟩⟩
def pcL (l : List UInt8) : List Pc := pcs l.length l
theorem pcs_nil (n : Nat) : pcs n [] = [] := by cases n <;> simp [pcs]
theorem pcs_enough : ∀ (n m : Nat) (l : List UInt8), l.length ≤ n → l.length ≤ m → pcs n l = pcs m l := by
  intro n
  induction n with
  | zero => intro m l h1 h2; obtain rfl := List.length_eq_zero_iff.1 (Nat.le_zero.1 h1); rw [pcs_nil, pcs_nil]
  | succ n ih =>
    intro m l h1 h2
    by_cases hl : l = []
    · subst hl; rw [pcs_nil, pcs_nil]
    · cases m with
      | zero => exact absurd (List.length_eq_zero_iff.1 (Nat.le_zero.1 h2)) hl
      | succ m =>
        have hp := pieceAt_size hl
        show (if l = [] then [] else pieceAt l :: pcs n (l.drop (pieceAt l).size.toNat)) = (if l = [] then [] else pieceAt l :: pcs m (l.drop (pieceAt l).size.toNat))
        rw [if_neg hl, if_neg hl, ih m _ (by rw [List.length_drop]; omega) (by rw [List.length_drop]; omega)]
theorem pcL_nil : pcL [] = [] := rfl
theorem pcL_cons {l : List UInt8} (hl : l ≠ []) : pcL l = pieceAt l :: pcL (l.drop (pieceAt l).size.toNat) := by
  have hp := pieceAt_size hl
  have h0 : 0 < l.length := List.length_pos_iff.2 hl
  unfold pcL
  obtain ⟨n, hn⟩ : ∃ n, l.length = n + 1 := ⟨l.length - 1, by omega⟩
  rw [hn]
  show (if l = [] then [] else pieceAt l :: pcs n (l.drop (pieceAt l).size.toNat)) = _
  rw [if_neg hl, pcs_enough n (l.drop (pieceAt l).size.toNat).length _ (by rw [List.length_drop]; omega) (Nat.le_refl _)]
theorem pcL_len : ∀ (n : Nat) (l : List UInt8), l.length ≤ n → (pcL l).length ≤ l.length := by
  intro n
  induction n with
  | zero => intro l h; obtain rfl := List.length_eq_zero_iff.1 (Nat.le_zero.1 h); exact Nat.le_refl _
  | succ n ih =>
    intro l h
    by_cases hl : l = []
    · subst hl; exact Nat.le_refl _
    · have hp := pieceAt_size hl
      have := ih (l.drop (pieceAt l).size.toNat) (by rw [List.length_drop]; omega)
      rw [pcL_cons hl, List.length_cons]
      rw [List.length_drop] at this
      omega
theorem impl_pieces_l0 (n : Nat) : ∀ (k : Nat) (x3 : List S116) (l : List UInt8), l.length ≤ n → n < k → x3.length + l.length ≤ 1000 → impl_pieces.l0 k x3 (mkB l) = some (x3 ++ (pcL l).map pcTo) := by
  induction n with
  | zero =>
    intro k x3 l hl hk hx
    obtain rfl := List.length_eq_zero_iff.1 (Nat.le_zero.1 hl)
    obtain ⟨k, rfl⟩ : ∃ m, k = m + 1 := ⟨k - 1, by omega⟩
    simp only [impl_pieces.l0]
    rw [if_pos (by rw [toList_bl]), pcL_nil]
    simp [slices_Clip_Piece.f]
  | succ n ih =>
    intro k x3 l hl hk hx
    obtain ⟨k, rfl⟩ : ∃ m, k = m + 1 := ⟨k - 1, by omega⟩
    simp only [impl_pieces.l0]
    by_cases hne : l = []
    · subst hne
      rw [if_pos (by rw [toList_bl]), pcL_nil]
      simp [slices_Clip_Piece.f]
    · have hp := pieceAt_size hne
      have hsz : (mkB l).size = l.length := rfl
      have hb : bl (mkB l) = l := rfl
      rw [if_neg (by rw [toList_bl]; exact hne)]
      unfold impl_piece.f
      rw [if_pos (by rw [hsz]; omega), Option.bind_some]
      simp only [hb, hsz]
      rw [if_pos (by omega), if_pos (by omega), if_pos (by omega)]
      have he : (mkB l).extract (pieceAt l).size.toNat l.length = mkB (l.drop (pieceAt l).size.toNat) := by
        apply ext_bl
        rw [bl_extract]
        show (l.drop _).take _ = l.drop _
        rw [List.take_of_length_le (by rw [List.length_drop]; exact Nat.le_refl _)]
      rw [he, ih k _ _ (by rw [List.length_drop]; omega) (by omega) (by rw [List.length_append, List.length_singleton, List.length_drop]; omega)]
      rw [pcL_cons hne, List.map_cons, List.append_assoc]
      rfl
def body (l : List UInt8) : List UInt8 := l.take (l.length - heldN l)
theorem heldFrom_le (l : List UInt8) : ∀ n, heldFrom l n ≤ n := by
  intro n
  induction n with
  | zero => exact Nat.le_refl _
  | succ n ih => unfold heldFrom; split <;> omega
theorem heldN_le (l : List UInt8) : heldN l ≤ l.length := by unfold heldN; have := heldFrom_le l (min 5 l.length); omega
theorem impl_pieces_to (k : Nat) (l : List UInt8) (hl : l.length ≤ 1000) (hk : 1000 < k) : impl_pieces.f k (mkB l) = some ((pcL (body l)).map pcTo) := by
  have hh := heldN_le l
  unfold impl_pieces.f impl_held.f
  have hsz : (mkB l).size = l.length := rfl
  have hb : bl (mkB l) = l := rfl
  rw [if_pos (by rw [hsz]; omega), Option.bind_some, hsz, hb]
  have hw : wrap64 ((l.length : Int) - (heldN l : Int)) = ((l.length - heldN l : Nat) : Int) := by rw [w64 (by omega)]; omega
  rw [hw, if_pos (by omega), if_pos (by omega)]
  have he : (mkB l).extract 0 ((l.length - heldN l : Nat) : Int).toNat = mkB (body l) := by
    apply ext_bl
    rw [bl_extract, Int.toNat_natCast]
    rfl
  rw [he, impl_pieces_l0 1000 k [] (body l) (by unfold body; rw [List.length_take]; omega) hk (by unfold body; rw [List.length_take]; simp; omega)]
  rfl
theorem spec_pieces_l0 (l : List UInt8) (hl : l.length ≤ 1000) (M : Nat) (hM : M ≤ l.length) (n : Nat) : ∀ (k : Nat) (x3 : List S116) (p : Nat), p ≤ M → M - p ≤ n → n + 8 < k → x3.length + (M - p) ≤ 1000 →
    spec_l2Pieces.l0 k (mkB l) x3 M p = some (x3 ++ (pcL ((l.take M).drop p)).map pcTo) := by
  induction n with
  | zero =>
    intro k x3 p hp hn hk hx
    obtain ⟨k, rfl⟩ : ∃ m, k = m + 1 := ⟨k - 1, by omega⟩
    simp only [spec_l2Pieces.l0]
    rw [if_neg (by omega), List.drop_of_length_le (by rw [List.length_take]; omega), pcL_nil]
    simp
  | succ n ih =>
    intro k x3 p hp hn hk hx
    obtain ⟨k, rfl⟩ : ∃ m, k = m + 1 := ⟨k - 1, by omega⟩
    simp only [spec_l2Pieces.l0]
    by_cases hlt : p < M
    · have hsz : (mkB l).size = l.length := rfl
      have hb : bl (mkB l) = l := rfl
      obtain ⟨t, ht⟩ : ∃ t, t = (l.take M).drop p := ⟨_, rfl⟩
      have htl : t.length = M - p := by rw [ht, List.length_drop, List.length_take]; omega
      have hne : t ≠ [] := by intro h; rw [h] at htl; simp at htl; omega
      have he : (mkB l).extract (p : Int).toNat (M : Int).toNat = mkB t := by
        apply ext_bl
        rw [bl_extract, Int.toNat_natCast, Int.toNat_natCast, ht, List.drop_take]
      obtain ⟨k2, hk2⟩ : ∃ m, k = m + 8 := ⟨k - 8, by omega⟩
      rw [if_pos (by omega), if_pos (by omega), if_pos (by omega), if_pos (by rw [hsz]; omega), he]
      have h2 : spec_l2Name.f k (mkB t) = some (l2N t) := by rw [hk2]; exact l2Name_to k2 (mkB t) (by show 0 < t.length; omega) (by show t.length ≤ _; omega)
      rw [h2, Option.bind_some]
      have hps := pieceAt_size hne
      have hdrop : ∀ j, t.drop j = (l.take M).drop (p + j) := fun j => by rw [ht, List.drop_drop]
      rw [← ht, pcL_cons hne]
      cases hn2 : nm t with
      | some e =>
        have hpc : pieceAt t = ⟨(nameOf e).length, true, e⟩ := by unfold pieceAt; rw [hn2]
        have hln := nm_len hn2
        rw [hpc] at hps ⊢
        simp only at hps
        rw [l2N_some hn2]
        simp only
        rw [if_pos (by omega), if_pos (by omega), w64 (by omega)]
        have := ih k (x3 ++ [(⟨((nameOf e).length : Int), true, ⟨e.addr, e.port⟩⟩ : S116)]) (p + (nameOf e).length) (by omega) (by omega) (by omega) (by rw [List.length_append, List.length_singleton]; omega)
        rw [Int.natCast_add] at this
        rw [this, ← hdrop, List.append_assoc, Int.toNat_natCast]
        rfl
      | none =>
        have hpc : pieceAt t = ⟨1, false, zEn⟩ := by unfold pieceAt; rw [hn2]
        rw [hpc] at hps ⊢
        rw [l2N_none hn2]
        simp only
        rw [if_neg (by omega), if_pos (by omega), w64 (by omega)]
        have := ih k (x3 ++ [(⟨1, false, ⟨0, 0⟩⟩ : S116)]) (p + 1) (by omega) (by omega) (by omega) (by rw [List.length_append, List.length_singleton]; omega)
        rw [Int.natCast_add] at this
        rw [show ((p : Int) + 1) = (p : Int) + ((1 : Nat) : Int) from rfl, this, ← hdrop, List.append_assoc]
        rfl
    · rw [if_neg (by omega), List.drop_of_length_le (by rw [List.length_take]; omega), pcL_nil]
      simp
theorem spec_pieces_to (k : Nat) (l : List UInt8) (hl : l.length ≤ 1000) (hk : 1008 < k) : spec_l2Pieces.f k (mkB l) = some ((pcL (body l)).map pcTo) := by
  have hh := heldN_le l
  unfold spec_l2Pieces.f spec_l2Held.f
  have hsz : (mkB l).size = l.length := rfl
  have hb : bl (mkB l) = l := rfl
  rw [if_pos (by rw [hsz]; omega), Option.bind_some, hsz, hb]
  have hw : wrap64 ((l.length : Int) - (heldN l : Int)) = ((l.length - heldN l : Nat) : Int) := by rw [w64 (by omega)]; omega
  rw [hw]
  have := spec_pieces_l0 l hl (l.length - heldN l) (by omega) 1000 k [] 0 (by omega) (by omega) hk (by simp; omega)
  rw [show ((0 : Nat) : Int) = 0 from rfl] at this
  rw [this]
  rfl
end Go.Proofs.YtfjbjiklohjodaaGreatDoor.Q
namespace Go.Proofs.YtfjbjiklohjodaaGreatDoor.Q
open Go.RowKit Go.Proofs.YtfjbjiklohjodaaGreatDoorW.PrintWords Go.Proofs.YtfjbjiklohjodaaGreatDoorW.PrintMore Go.Proofs.YtfjbjiklohjodaaGreatDoor.Z
set_option linter.unusedVariables false
set_option linter.unusedSimpArgs false
attribute [local go_sem ↓] Go.wp_at_zero Go.wp_at_succ
def strings_Clone.f (a0 : ByteArray) : Option ByteArray := if a0.size ≤ 281474976710656 then some a0 else none
theorem strings_Clone.calls (a0 : ByteArray) (r : ByteArray) (w : World) (h : strings_Clone.f a0 = some r) :
    Calls Tryz.prog 137 #[.string a0] w fun e w' => e = .returned (.string r) ∧ Below w.heap.size w w' := by
  unfold strings_Clone.f at h
  split at h
  · rename_i hs
    obtain rfl := Option.some.inj h
    have HC := Aside0.mk (fun w => Tryz.stringslite_Clone a0 w hs)
    clear hs h
    go_enter Tryz.func137, Tryz.ntmps137
    go_wp2_with (go_at_call 176; refine (HC.out _).mono ?_; rintro r w1 ⟨rfl, hb1⟩)
    go_ret
    exact ⟨rfl, hb1⟩
  · cases h
def joinB (l0 : List ByteArray) (a1 : ByteArray) : List UInt8 := Go.Lib.join (l0.map (·.data.toList)) a1.data.toList
def strings_Join.f (l0 : List ByteArray) (a1 : ByteArray) : Option ByteArray := if l0.length ≤ 140737488355328 ∧ (joinB l0 a1).length ≤ 140737488355328 then some ⟨(joinB l0 a1).toArray⟩ else none
theorem strings_Join.calls (A0 : Option Addr) (c0 : Nat) (l0 : List ByteArray) (a1 : ByteArray) (r : ByteArray) (w : World) (hr0 : Kd.C Kd.string w A0 l0.length l0) (hc0 : l0.length ≤ c0) (h : strings_Join.f l0 a1 = some r) :
    Calls Tryz.prog 83 #[.slice A0 l0.length c0, .string a1] w fun e w' => e = .returned (.string r) ∧ Below w.heap.size w w' := by
  unfold strings_Join.f at h
  split at h
  · rename_i hs
    obtain rfl := Option.some.inj h
    rcases Nat.eq_zero_or_pos l0.length with h0 | h0
    · obtain rfl := List.length_eq_zero_iff.1 h0
      refine (Tryz.strings_Join_none A0 c0 a1 w).mono ?_
      rintro e w' ⟨rfl, rfl⟩
      exact ⟨rfl, Below.refl _ _⟩
    · obtain ⟨ad, rfl, hx⟩ := hr0.2.2 h0
      have hcell : ∀ (j : Nat) x, l0[j]? = some x → w.cell? (ad.add j) = some (.string x) := by
        intro j x hj
        obtain ⟨cs, hl, hK, hc⟩ := hx j x hj
        have h1 : cs = [.string x] := hK
        subst h1
        have h2 := hc 0 (.string x) rfl
        rw [Nat.add_zero, show Kd.string.sz = 1 from rfl, Nat.mul_one] at h2
        exact h2
      have hlt : ad.block < w.heap.size := by
        have h1 := hcell 0 _ (List.getElem?_eq_getElem h0)
        have h2 := World.block_lt_of_cell? w _ h1
        have h3 : (ad.add 0).block = ad.block := by unfold Addr.add; split <;> rfl
        omega
      obtain ⟨b, o, p⟩ := ad
      cases p with
      | none => exact Tryz.strings_Join b o c0 l0 a1 w (fun j x hj => by have := hcell j x hj; rwa [Addr.add_lit] at this) hlt hs.1 hc0 hs.2
      | some p =>
        have h1 := hcell 0 _ (List.getElem?_eq_getElem h0)
        have h2 := World.cell?_spot h1
        cases h2
  · cases h
end Go.Proofs.YtfjbjiklohjodaaGreatDoor.Q
namespace Go.Proofs.YtfjbjiklohjodaaGreatDoor.Z
open Go.RowKit Go.Proofs.YtfjbjiklohjodaaGreatDoorW.PrintWords
set_option linter.unusedVariables false
set_option linter.unusedSimpArgs false
attribute [local go_sem ↓] Go.wp_at_zero Go.wp_at_succ
attribute [local go_sem high] eqEn eqPr
noncomputable def mapOutF (m : List Pr) (e : En) : List Pr × Int × Bool := if mapOkB m && insideB e then outS m e else ([], 0, false)
theorem outI_eq {m : List Pr} {e : En} (h : mapOkB m = true) : outI m e = outS m e := by
  have key : portFrom m e 0 = (outAt m e 0).elim 0 (·.port) := rfl
  unfold outI
  rw [outS_of, key]
  cases ho : outAt m e 0 with
  | none => simp
  | some p =>
    have hm : p ∈ m := List.mem_of_find?_eq_some (show (m.drop 0).find? _ = some p from ho)
    obtain ⟨k, hk, rfl⟩ := List.getElem_of_mem hm
    have hg := ((mapOkB_iff.1 h).1 k hk).1
    rw [List.getD_eq_getElem?_getD, List.getElem?_eq_getElem hk] at hg
    simp only [Option.elim, Option.getD_some] at hg ⊢
    have hne : m[k].port ≠ 0 := by omega
    exact if_pos hne
end Go.Proofs.YtfjbjiklohjodaaGreatDoor.Z
namespace Go.Proofs.YtfjbjiklohjodaaGreatDoor.Z
open Go.RowKit Go.Proofs.YtfjbjiklohjodaaGreatDoorW.PrintWords
set_option linter.unusedVariables false
noncomputable def mapInO (m : List Pr) (port : Int) : Option En := if mapOkB m then l3InO m port else none
theorem insideFrom_skip {m : List Pr} {port : Int} (h : mapOk m) : ∀ j, j ≤ m.length → (∀ i, i < j → port ≠ 10 + i) → insideFrom m port 0 = insideFrom m port j := by
  intro j
  induction j with
  | zero => intro _ _; rfl
  | succ j ih =>
    intro hj hne
    rw [ih (by omega) (fun i hi => hne i (by omega))]
    exact insideFrom_miss (by omega) ⟨rfl⟩ (by rw [(h.1 j (by omega)).1]; exact fun e => hne j (by omega) e.symm)
theorem inside_eq {m : List Pr} {port : Int} (h : mapOk m) : insideFrom m port 0 = l3InO m port := by
  unfold l3InO
  by_cases hp : 10 ≤ port ∧ port - 10 < m.length
  · rw [if_pos hp]
    obtain ⟨k, hk⟩ : ∃ k : Nat, port = 10 + k := ⟨(port - 10).toNat, by omega⟩
    subst hk
    rw [insideFrom_skip h k (by omega) (fun i hi => by omega)]
    rw [insideFrom_hit (p := m.getD k zPr) (by omega) ⟨rfl⟩ (by rw [(h.1 k (by omega)).1])]
    congr 3
    omega
  · rw [if_neg hp, insideFrom_skip h m.length (Nat.le_refl _) (fun i hi => by omega), insideFrom_end m port m.length (Nat.le_refl _)]
end Go.Proofs.YtfjbjiklohjodaaGreatDoor.Z
namespace Go.Proofs.YtfjbjiklohjodaaGreatDoor.Z
open Go.RowKit Go.Proofs.YtfjbjiklohjodaaGreatDoorW.PrintWords
set_option linter.unusedVariables false
theorem mapOkB_getD {m : List Pr} (h : mapOkB m = true) (k : Nat) (hk : k < m.length) : (m.getD k zPr).port = 10 + k := ((mapOkB_iff.1 h).1 k hk).1
theorem mapOutF_some {m L : List Pr} {e : En} {pt : Int} (h : mapOutF m e = (L, pt, true)) : mapOkB m = true ∧ insideB e = true ∧ outS m e = (L, pt, true) := by
  unfold mapOutF at h
  split at h
  · rename_i h2
    rw [Bool.and_eq_true] at h2
    exact ⟨h2.1, h2.2, h⟩
  · simp at h
theorem mapOutF_of {m : List Pr} {e : En} (h : mapOkB m = true) (hi : insideB e = true) : mapOutF m e = outS m e := by
  unfold mapOutF; rw [h, hi]; rfl
theorem outAt_some {m : List Pr} {e : En} {p : Pr} (h : outAt m e 0 = some p) : p.inside = e ∧ ∃ k, k < m.length ∧ m.getD k zPr = p := by
  have h1 : m.find? (fun p => decide (p.inside = e)) = some p := h
  refine ⟨by simpa using List.find?_some h1, ?_⟩
  obtain ⟨k, hk, hp⟩ := List.getElem_of_mem (List.mem_of_find?_eq_some h1)
  exact ⟨k, hk, by rw [List.getD_eq_getElem?_getD, List.getElem?_eq_getElem hk]; exact hp⟩
theorem outAt_none {m : List Pr} {e : En} (h : outAt m e 0 = none) : ∀ p ∈ m, p.inside ≠ e := by
  have h1 : m.find? (fun p => decide (p.inside = e)) = none := h
  intro p hp
  simpa using List.find?_eq_none.1 h1 p hp
theorem l3InO_at {m : List Pr} (k : Nat) (hk : k < m.length) : l3InO m (10 + k) = some (m.getD k zPr).inside := by
  unfold l3InO
  rw [if_pos (by omega)]
  rw [show ((10 : Int) + k - 10).toNat = k from by omega]
theorem mapOkB_snoc {m : List Pr} {e : En} (h : mapOkB m = true) (hi : insideB e = true) (hl : ¬ 7 < m.length) (hn : outAt m e 0 = none) : mapOkB (m ++ [⟨10 + m.length, e⟩]) = true := by
  obtain ⟨h1, h2⟩ := mapOkB_iff.1 h
  have hlt : ∀ i, i < m.length → (m ++ [(⟨10 + m.length, e⟩ : Pr)]).getD i zPr = m.getD i zPr := fun i hi => by
    rw [List.getD_eq_getElem?_getD, List.getElem?_append_left hi, List.getD_eq_getElem?_getD]
  have heq : (m ++ [(⟨10 + m.length, e⟩ : Pr)]).getD m.length zPr = ⟨10 + m.length, e⟩ := by
    rw [List.getD_eq_getElem?_getD, List.getElem?_append_right (Nat.le_refl _)]; simp
  refine mapOkB_iff.2 ⟨fun i hi2 => ?_, by simp; omega⟩
  rw [List.length_append, List.length_singleton] at hi2
  rcases Nat.lt_or_ge i m.length with h3 | h3
  · obtain ⟨g1, g2, g3⟩ := h1 i h3
    exact ⟨by rw [hlt i h3]; exact g1, by rw [hlt i h3]; exact g2, fun j hj => by rw [hlt i h3, hlt j (by omega)]; exact g3 j hj⟩
  · obtain rfl : i = m.length := by omega
    refine ⟨by rw [heq], by rw [heq]; exact hi, fun j hj => ?_⟩
    rw [heq, hlt j hj, List.getD_eq_getElem?_getD, List.getElem?_eq_getElem hj]
    exact outAt_none hn _ (List.getElem_mem hj)
theorem mapOut_ok {m L : List Pr} {e : En} {pt : Int} (h : mapOutF m e = (L, pt, true)) :
    mapOkB L = true ∧ mapInO L pt = some e ∧ mapOutF L e = (L, pt, true) ∧ m.length ≤ L.length ∧ L.length ≤ m.length + 1 ∧ L.take m.length = m ∧ 10 ≤ pt ∧ pt ≤ 17 := by
  obtain ⟨hk, hi, ho⟩ := mapOutF_some h
  have h8 := (mapOkB_iff.1 hk).2
  rw [outS_of] at ho
  cases hf : outAt m e 0 with
  | some p =>
    rw [hf] at ho
    simp only [Prod.mk.injEq, and_true] at ho
    obtain ⟨rfl, rfl⟩ := ho
    obtain ⟨he, k, hkl, hp⟩ := outAt_some hf
    have hpp := mapOkB_getD hk k hkl
    rw [hp] at hpp
    refine ⟨hk, ?_, by rw [mapOutF_of hk hi, outS_of, hf], Nat.le_refl _, Nat.le_succ _, List.take_length, by omega, by omega⟩
    unfold mapInO
    rw [if_pos hk, hpp, l3InO_at k hkl, hp, he]
  | none =>
    rw [hf] at ho
    simp only at ho
    split at ho
    · simp at ho
    · rename_i h7
      simp only [Prod.mk.injEq, and_true] at ho
      obtain ⟨rfl, rfl⟩ := ho
      have hk2 := mapOkB_snoc hk hi h7 hf
      have heq : (m ++ [(⟨10 + m.length, e⟩ : Pr)]).getD m.length zPr = ⟨10 + m.length, e⟩ := by
        rw [List.getD_eq_getElem?_getD, List.getElem?_append_right (Nat.le_refl _)]; simp
      refine ⟨hk2, ?_, ?_, by simp, by simp, by simp, by omega, by omega⟩
      · unfold mapInO
        rw [if_pos hk2, l3InO_at m.length (by simp), heq]
      · rw [mapOutF_of hk2 hi, outS_of]
        have : outAt (m ++ [(⟨10 + m.length, e⟩ : Pr)]) e 0 = some ⟨10 + m.length, e⟩ := by
          show (m ++ [(⟨10 + m.length, e⟩ : Pr)]).find? _ = _
          rw [List.find?_append, show m.find? (fun p => decide (p.inside = e)) = none from hf]
          simp
        rw [this]
end Go.Proofs.YtfjbjiklohjodaaGreatDoor.Z
namespace Go.Proofs.YtfjbjiklohjodaaGreatDoor.Q
open Go.RowKit Go.Proofs.YtfjbjiklohjodaaGreatDoorW.PrintWords Go.Proofs.YtfjbjiklohjodaaGreatDoorW.PrintLast Go.Proofs.YtfjbjiklohjodaaGreatDoorW.PrintMore
attribute [local go_sem] max2_int min2_int max_two min_two max_three min_three max_four min_four
set_option linter.unusedVariables false
set_option linter.unusedSimpArgs false
noncomputable section
mutual
def impl_pairs_turn.j0 : Nat → List (S111) → ByteArray → Bool → Bool → Int → Bool → Int → Int → Option ((List (S111)) × ByteArray)
 | 0, _, _, _, _, _, _, _, _ => none
 | k + 1, x0, x2, x3, x15, x102000, x102001, x102002, x102003 => if x15 = true then ((impl_pairs_out.f x0 x102002 x102003).bind fun bt103 => (if bt103.2.2 = true then ((impl_name.f 9 bt103.2.1).bind fun t108 => (some (bt103.1, t108))) else (some (x0, x2)))) else (if x102001 = true then (if x3 = true then (impl_pairs_turn.j1 k x0 x2 false x102000 x102001 x102002 x102003) else ((impl_EndDoor.f x102002 x102003).bind fun t109 => (impl_pairs_turn.j1 k x0 x2 t109 x102000 x102001 x102002 x102003))) else (impl_pairs_turn.j1 k x0 x2 false x102000 x102001 x102002 x102003))
def impl_pairs_turn.j1 : Nat → List (S111) → ByteArray → Bool → Int → Bool → Int → Int → Option ((List (S111)) × ByteArray)
 | 0, _, _, _, _, _, _, _ => none
 | k + 1, x0, x2, x39, x102000, x102001, x102002, x102003 => if x39 = true then ((impl_pairs_inside.f x0 x102003).bind fun bt110 => (if bt110.2.2 = true then ((impl_name.f bt110.1 bt110.2.1).bind fun t114 => (some (x0, t114))) else (some (x0, x2)))) else (some (x0, x2))
end
def impl_pairs_turn.f (k : Nat) (l0 : List (S111)) (a1_0 : Int) (a1_1 : Bool) (a1_2 : Int) (a1_3 : Int) (a2 : ByteArray) (a3 : Bool) : Option ((List (S111)) × ByteArray) := if a1_1 = true then (if a3 = true then ((impl_EndInside.f a1_2 a1_3).bind fun t102 => (impl_pairs_turn.j0 k l0 a2 a3 t102 a1_0 a1_1 a1_2 a1_3)) else (impl_pairs_turn.j0 k l0 a2 a3 false a1_0 a1_1 a1_2 a1_3)) else (impl_pairs_turn.j0 k l0 a2 a3 false a1_0 a1_1 a1_2 a1_3)
set_option maxHeartbeats 8000000 in
set_option maxRecDepth 100000 in
theorem impl_pairs_turn.calls (k : Nat) (P0_ : Nat → Prop) (A0 : Option Addr) (c0 : Nat) (l0 : List (S111)) (a1_0 : Int) (a1_1 : Bool) (a1_2 : Int) (a1_3 : Int) (a2 : ByteArray) (a3 : Bool) (r1 : List (S111)) (r2 : ByteArray) (w : World) (hs0 : Kd.V k111 111 w w.heap.size (fun k_ => P0_ k_) (.slice A0 l0.length c0) l0) (h : impl_pairs_turn.f k l0 a1_0 a1_1 a1_2 a1_3 a2 a3 = some (r1, r2)) :
  Calls Tryz.prog 136 #[.slice A0 l0.length c0, .agg #[.int .i64 a1_0, .bool a1_1, .int .i64 a1_2, .int .i64 a1_3], .string a2, .bool a3] w fun e w' => ∃ v0_ : Value, e = .returned (.tuple #[v0_, .string r2]) ∧ Kd.V k111 111 w' w.heap.size (fun k_ => (P0_ k_ ∨ w.heap.size ≤ k_)) v0_ r1 ∧ Below w.heap.size w w' := by
 have hu116 := Tryz.underlying116
 have hu62 := Tryz.underlying62
 have HO0 := Aside0.mk (show Kd.V k111 111 w w.heap.size (fun k_ => (P0_ k_ ∨ w.heap.size ≤ k_)) (.slice A0 l0.length c0) l0 from Kd.V_mono hs0 (fun k_ hk => .inl hk))
 have HB := Aside0.mk (Below.refl w.heap.size w)
 have H : (if a1_1 = true then (if a3 = true then ((impl_EndInside.f a1_2 a1_3).bind fun t102 => (impl_pairs_turn.j0 k l0 a2 a3 t102 a1_0 a1_1 a1_2 a1_3)) else (impl_pairs_turn.j0 k l0 a2 a3 false a1_0 a1_1 a1_2 a1_3)) else (impl_pairs_turn.j0 k l0 a2 a3 false a1_0 a1_1 a1_2 a1_3)) = some (r1, r2) := h
 clear h
 have HC5 := Aside0.mk H
 clear H
 go_enter Tryz.func136, Tryz.ntmps136
 go_upto_region 1 with (first | ((with_reducible refine gate_dst (N := 5) rfl ?_); refine zx_ (N := 5) #[.int .i64 a1_0, .bool a1_1, .int .i64 a1_2, .int .i64 a1_3] 116 ?_; intro gb101 hg w6 hbox hb; replace HO0 := A_ (Kd.V_below (Kd.V_elderB (zv_ HO0.out) gb101 (Nat.le_of_eq hg.symm)) hb); have BK101 := A_ hbox; have GW101 := A_ ((d0_ : w.heap.size ≤ gb101)); have GE101 := A_ ((d0_ : w.heap.size ≤ gb101)); replace HB := A_ (below_step (zB_ HB.out) hb); clear hb hbox hg))
 (try simp only [Act.put, List.setIfInBounds_toArray, List.set_cons_zero, List.set_cons_succ])
 go_cut [15] (fun v15 wc => ∃ (kq : Nat) (x15_4 : Bool), v15 = .bool x15_4 ∧ Aside0 (impl_pairs_turn.j0 kq l0 a2 a3 x15_4 a1_0 a1_1 a1_2 a1_3 = some (r1, r2)) ∧ Aside0 (kq ≤ k) ∧ Aside0 (Kd.V k111 111 wc w.heap.size (fun k_ => (P0_ k_ ∨ w.heap.size ≤ k_) ∧ k_ ≠ gb101) (.slice A0 l0.length c0) l0) ∧ Aside0 (wc.heap[gb101]? = some (.cells #[.int .i64 a1_0, .bool a1_1, .int .i64 a1_2, .int .i64 a1_3] 116 (0, 0))) ∧ Aside0 (Below w.heap.size w wc))
 case first =>
  have H := HC5.out; clear HC5
  by_cases c7 : a1_1 = true
  ·subst c7; rw [if_pos rfl] at H
   by_cases c8 : a3 = true
   ·subst c8; rw [if_pos rfl] at H; obtain ⟨t102, A9, H⟩ := zH_ H; have H' := Aside0.mk H; clear H; have hcz10_0 : w6.cell? ⟨gb101, 0, none⟩ = some (.int .i64 a1_0) := (blk_cell BK101.out 0).trans rfl; have hcz10_1 : w6.cell? ⟨gb101, 1, none⟩ = some (.bool true) := (blk_cell BK101.out 1).trans rfl; have hcz10_2 : w6.cell? ⟨gb101, 2, none⟩ = some (.int .i64 a1_2) := (blk_cell BK101.out 2).trans rfl; have hcz10_3 : w6.cell? ⟨gb101, 3, none⟩ = some (.int .i64 a1_3) := (blk_cell BK101.out 3).trans rfl; have hfz10_0 := blk_frozen BK101.out 0; have hfz10_1 := blk_frozen BK101.out 1; have hfz10_2 := blk_frozen BK101.out 2; have hfz10_3 := blk_frozen BK101.out 3
    go_wp2_with (first | (go_at_call 75; (with_reducible refine (impl_EndInside.calls a1_2 a1_3 t102 _ A9.out).mono ?_); rintro e w11 ⟨rfl, hb⟩; replace HO0 := A_ (Kd.V_below (zv_ HO0.out) hb); replace BK101 := A_ (blk_below (g := gb101) (o := .cells #[.int .i64 a1_0, .bool true, .int .i64 a1_2, .int .i64 a1_3] 116 (0, 0)) (zb_ BK101.out) hb); replace HB := A_ (below_step d1_ hb); (try clear hb); (try clear hi)))
    go_meet
    case rel => exact ⟨_, (t102), zs_, H', ⟨d2_⟩, ⟨d30_⟩, ⟨d3_⟩, ⟨d1_⟩⟩
   replace c8 := Bool.eq_false_iff.mpr c8; subst c8; rw [if_neg (show ¬ (false = true) by decide)] at H; have H' := Aside0.mk H; clear H; have hcz12_0 : w6.cell? ⟨gb101, 0, none⟩ = some (.int .i64 a1_0) := (blk_cell BK101.out 0).trans rfl; have hcz12_1 : w6.cell? ⟨gb101, 1, none⟩ = some (.bool true) := (blk_cell BK101.out 1).trans rfl; have hcz12_2 : w6.cell? ⟨gb101, 2, none⟩ = some (.int .i64 a1_2) := (blk_cell BK101.out 2).trans rfl; have hcz12_3 : w6.cell? ⟨gb101, 3, none⟩ = some (.int .i64 a1_3) := (blk_cell BK101.out 3).trans rfl; have hfz12_0 := blk_frozen BK101.out 0; have hfz12_1 := blk_frozen BK101.out 1; have hfz12_2 := blk_frozen BK101.out 2; have hfz12_3 := blk_frozen BK101.out 3
   go_wp2
   go_meet
   case rel => exact ⟨_, (false), zs_, H', ⟨d2_⟩, ⟨d30_⟩, ⟨d3_⟩, ⟨d1_⟩⟩
  replace c7 := Bool.eq_false_iff.mpr c7; subst c7; rw [if_neg (show ¬ (false = true) by decide)] at H; have H' := Aside0.mk H; clear H; have hcz13_0 : w6.cell? ⟨gb101, 0, none⟩ = some (.int .i64 a1_0) := (blk_cell BK101.out 0).trans rfl; have hcz13_1 : w6.cell? ⟨gb101, 1, none⟩ = some (.bool false) := (blk_cell BK101.out 1).trans rfl; have hcz13_2 : w6.cell? ⟨gb101, 2, none⟩ = some (.int .i64 a1_2) := (blk_cell BK101.out 2).trans rfl; have hcz13_3 : w6.cell? ⟨gb101, 3, none⟩ = some (.int .i64 a1_3) := (blk_cell BK101.out 3).trans rfl; have hfz13_0 := blk_frozen BK101.out 0; have hfz13_1 := blk_frozen BK101.out 1; have hfz13_2 := blk_frozen BK101.out 2; have hfz13_3 := blk_frozen BK101.out 3
  go_wp2
  go_meet
  case rel => exact ⟨_, (false), zs_, H', ⟨d2_⟩, ⟨d30_⟩, ⟨d3_⟩, ⟨d1_⟩⟩
 case rest =>
  clear HC5
  try clear c1
  try clear p2
  try clear c7
  try clear c8
  try clear c13
  try clear hcz10_0
  try clear hcz10_1
  try clear hcz10_2
  try clear hcz10_3
  try clear hcz12_0
  try clear hcz12_1
  try clear hcz12_2
  try clear hcz12_3
  try clear hcz13_0
  try clear hcz13_1
  try clear hcz13_2
  try clear hcz13_3
  try clear hfz10_0
  try clear hfz10_1
  try clear hfz10_2
  try clear hfz10_3
  try clear hfz12_0
  try clear hfz12_1
  try clear hfz12_2
  try clear hfz12_3
  try clear hfz13_0
  try clear hfz13_1
  try clear hfz13_2
  try clear hfz13_3
  obtain ⟨kq, x15_4, rfl, HA, HJ4, HO_0, BK101, HB⟩ := hcut
  cases kq with
  | zero => exact absurd HA.out (by simp [impl_pairs_turn.j0])
  | succ kj4 =>
   have H := HA.out; clear HA; simp only [impl_pairs_turn.j0] at H
   by_cases c14 : x15_4 = true
   ·subst c14; rw [if_pos rfl] at H; obtain ⟨⟨t103, t106, t107⟩, A15, H⟩ := zH_ H; dsimp only at H
    by_cases c16 : t107 = true
    ·subst c16; rw [if_pos rfl] at H; obtain ⟨t108, A17, H⟩ := zH_ H; simp only [Option.some.injEq, Prod.mk.injEq] at H; obtain ⟨rfl, rfl⟩ := H; have hcz18_0 : wc.cell? ⟨gb101, 0, none⟩ = some (.int .i64 a1_0) := (blk_cell BK101.out 0).trans rfl; have hcz18_1 : wc.cell? ⟨gb101, 1, none⟩ = some (.bool a1_1) := (blk_cell BK101.out 1).trans rfl; have hcz18_2 : wc.cell? ⟨gb101, 2, none⟩ = some (.int .i64 a1_2) := (blk_cell BK101.out 2).trans rfl; have hcz18_3 : wc.cell? ⟨gb101, 3, none⟩ = some (.int .i64 a1_3) := (blk_cell BK101.out 3).trans rfl; have hfz18_0 := blk_frozen BK101.out 0; have hfz18_1 := blk_frozen BK101.out 1; have hfz18_2 := blk_frozen BK101.out 2; have hfz18_3 := blk_frozen BK101.out 3
     go_wp2_with (first | ((with_reducible refine gate_callee (f := 174) rfl ?_); refine zc_ (some 30) Tryz.func174 #[.slice A0 l0.length c0, .agg #[.int .i64 a1_2, .int .i64 a1_3]] ?_; (with_reducible refine (impl_pairs_out.calls _ _ l0 a1_2 a1_3 t103 t106 true _ ?side1 ?side2 A15.out).mono ?_); (case side1 => exact d31_); (case side2 => exact (Kd.V_reads' HO_0.out).2.1); rintro e w19 ⟨v104, rfl, ho0, hb⟩; refine ⟨_, rfl, ?_⟩; replace HO_0 := A_ (Kd.V_below (zv_ HO_0.out) hb); have HO105 := A_ (Kd.V_lower (Kd.V_mono (ok' := fun k_ => (P0_ k_ ∨ w.heap.size ≤ k_) ∧ k_ ≠ gb101) ho0 (fun k_ hk_ => ⟨(.inr (Nat.le_trans (below_size d1_) hk_)), (Kd.freshB (g := gb101) (o := .cells #[.int .i64 a1_0, .bool a1_1, .int .i64 a1_2, .int .i64 a1_3] 116 (0, 0)) (zb_ BK101.out) k_ hk_)⟩)) (below_size d1_)); replace BK101 := A_ (blk_below (g := gb101) (o := .cells #[.int .i64 a1_0, .bool a1_1, .int .i64 a1_2, .int .i64 a1_3] 116 (0, 0)) (zb_ BK101.out) hb); replace HB := A_ (below_step d1_ hb); (try clear hb); (try clear ho0)) | ((with_reducible refine gate_callee (f := 172) rfl ?_); refine zc_ (some 38) Tryz.func172 #[.agg #[.int .i64 9, .int .i64 t106]] ?_; (with_reducible refine (impl_name.calls 9 t106 t108 _ A17.out).mono ?_); rintro e w20 ⟨rfl, hb⟩; refine ⟨_, rfl, ?_⟩; replace HO_0 := A_ (Kd.V_below (zv_ HO_0.out) hb); replace HO105 := A_ (Kd.V_below (zv_ HO105.out) hb); replace BK101 := A_ (blk_below (g := gb101) (o := .cells #[.int .i64 a1_0, .bool a1_1, .int .i64 a1_2, .int .i64 a1_3] 116 (0, 0)) (zb_ BK101.out) hb); replace HB := A_ (below_step d1_ hb); (try clear hb); (try clear hi)))
     go_ret2
     exact ⟨_, d4_, by (with_reducible repeat (first | apply Kd.V_alloc | apply Kd.V_drewN | apply Kd.V_drew)); exact Kd.V_mono HO105.out (fun _ hk => hk.1), d1_⟩
    replace c16 := Bool.eq_false_iff.mpr c16; subst c16; rw [if_neg (show ¬ (false = true) by decide)] at H; simp only [Option.some.injEq, Prod.mk.injEq] at H; obtain ⟨rfl, rfl⟩ := H; have hcz21_0 : wc.cell? ⟨gb101, 0, none⟩ = some (.int .i64 a1_0) := (blk_cell BK101.out 0).trans rfl; have hcz21_1 : wc.cell? ⟨gb101, 1, none⟩ = some (.bool a1_1) := (blk_cell BK101.out 1).trans rfl; have hcz21_2 : wc.cell? ⟨gb101, 2, none⟩ = some (.int .i64 a1_2) := (blk_cell BK101.out 2).trans rfl; have hcz21_3 : wc.cell? ⟨gb101, 3, none⟩ = some (.int .i64 a1_3) := (blk_cell BK101.out 3).trans rfl; have hfz21_0 := blk_frozen BK101.out 0; have hfz21_1 := blk_frozen BK101.out 1; have hfz21_2 := blk_frozen BK101.out 2; have hfz21_3 := blk_frozen BK101.out 3
    go_wp2_with (first | ((with_reducible refine gate_callee (f := 174) rfl ?_); refine zc_ (some 30) Tryz.func174 #[.slice A0 l0.length c0, .agg #[.int .i64 a1_2, .int .i64 a1_3]] ?_; (with_reducible refine (impl_pairs_out.calls _ _ l0 a1_2 a1_3 t103 t106 false _ ?side1 ?side2 A15.out).mono ?_); (case side1 => exact d31_); (case side2 => exact (Kd.V_reads' HO_0.out).2.1); rintro e w22 ⟨v104, rfl, ho0, hb⟩; refine ⟨_, rfl, ?_⟩; replace HO_0 := A_ (Kd.V_below (zv_ HO_0.out) hb); have HO105 := A_ (Kd.V_lower (Kd.V_mono (ok' := fun k_ => (P0_ k_ ∨ w.heap.size ≤ k_) ∧ k_ ≠ gb101) ho0 (fun k_ hk_ => ⟨(.inr (Nat.le_trans (below_size d1_) hk_)), (Kd.freshB (g := gb101) (o := .cells #[.int .i64 a1_0, .bool a1_1, .int .i64 a1_2, .int .i64 a1_3] 116 (0, 0)) (zb_ BK101.out) k_ hk_)⟩)) (below_size d1_)); replace BK101 := A_ (blk_below (g := gb101) (o := .cells #[.int .i64 a1_0, .bool a1_1, .int .i64 a1_2, .int .i64 a1_3] 116 (0, 0)) (zb_ BK101.out) hb); replace HB := A_ (below_step d1_ hb); (try clear hb); (try clear ho0)))
    go_ret2
    exact ⟨_, d4_, d32_, d1_⟩
   replace c14 := Bool.eq_false_iff.mpr c14; subst c14; rw [if_neg (show ¬ (false = true) by decide)] at H; have HC23 := Aside0.mk H; clear H
   go_upto_region 5 with (fail)
   go_cut [39] (fun v39 wc => ∃ (kq : Nat) (x39_22 : Bool), v39 = .bool x39_22 ∧ Aside0 (impl_pairs_turn.j1 kq l0 a2 x39_22 a1_0 a1_1 a1_2 a1_3 = some (r1, r2)) ∧ Aside0 (kq ≤ kj4) ∧ Aside0 (Kd.V k111 111 wc w.heap.size (fun k_ => (P0_ k_ ∨ w.heap.size ≤ k_) ∧ k_ ≠ gb101) (.slice A0 l0.length c0) l0) ∧ Aside0 (wc.heap[gb101]? = some (.cells #[.int .i64 a1_0, .bool a1_1, .int .i64 a1_2, .int .i64 a1_3] 116 (0, 0))) ∧ Aside0 (Below w.heap.size w wc))
   case first =>
    have H := HC23.out; clear HC23
    by_cases c24 : a1_1 = true
    ·subst c24; rw [if_pos rfl] at H
     by_cases c25 : a3 = true
     ·subst c25; rw [if_pos rfl] at H; have H' := Aside0.mk H; clear H; have hcz26_0 : wc.cell? ⟨gb101, 0, none⟩ = some (.int .i64 a1_0) := (blk_cell BK101.out 0).trans rfl; have hcz26_1 : wc.cell? ⟨gb101, 1, none⟩ = some (.bool true) := (blk_cell BK101.out 1).trans rfl; have hcz26_2 : wc.cell? ⟨gb101, 2, none⟩ = some (.int .i64 a1_2) := (blk_cell BK101.out 2).trans rfl; have hcz26_3 : wc.cell? ⟨gb101, 3, none⟩ = some (.int .i64 a1_3) := (blk_cell BK101.out 3).trans rfl; have hfz26_0 := blk_frozen BK101.out 0; have hfz26_1 := blk_frozen BK101.out 1; have hfz26_2 := blk_frozen BK101.out 2; have hfz26_3 := blk_frozen BK101.out 3
      go_wp2
      go_meet
      case rel => exact ⟨_, (false), zs_, H', ⟨by have := HJ4.out; first | omega | exact Nat.le_refl _⟩, ⟨d33_⟩, ⟨d3_⟩, ⟨d1_⟩⟩
     replace c25 := Bool.eq_false_iff.mpr c25; subst c25; rw [if_neg (show ¬ (false = true) by decide)] at H; obtain ⟨t109, A27, H⟩ := zH_ H; have H' := Aside0.mk H; clear H; have hcz28_0 : wc.cell? ⟨gb101, 0, none⟩ = some (.int .i64 a1_0) := (blk_cell BK101.out 0).trans rfl; have hcz28_1 : wc.cell? ⟨gb101, 1, none⟩ = some (.bool true) := (blk_cell BK101.out 1).trans rfl; have hcz28_2 : wc.cell? ⟨gb101, 2, none⟩ = some (.int .i64 a1_2) := (blk_cell BK101.out 2).trans rfl; have hcz28_3 : wc.cell? ⟨gb101, 3, none⟩ = some (.int .i64 a1_3) := (blk_cell BK101.out 3).trans rfl; have hfz28_0 := blk_frozen BK101.out 0; have hfz28_1 := blk_frozen BK101.out 1; have hfz28_2 := blk_frozen BK101.out 2; have hfz28_3 := blk_frozen BK101.out 3
     go_wp2_with (first | (go_at_call 147; (with_reducible refine (impl_EndDoor.calls a1_2 a1_3 t109 _ A27.out).mono ?_); rintro e w29 ⟨rfl, hb⟩; replace HO_0 := A_ (Kd.V_below (zv_ HO_0.out) hb); replace BK101 := A_ (blk_below (g := gb101) (o := .cells #[.int .i64 a1_0, .bool true, .int .i64 a1_2, .int .i64 a1_3] 116 (0, 0)) (zb_ BK101.out) hb); replace HB := A_ (below_step d1_ hb); (try clear hb); (try clear hi)))
     go_meet
     case rel => exact ⟨_, (t109), zs_, H', ⟨by have := HJ4.out; first | omega | exact Nat.le_refl _⟩, ⟨d33_⟩, ⟨d3_⟩, ⟨d1_⟩⟩
    replace c24 := Bool.eq_false_iff.mpr c24; subst c24; rw [if_neg (show ¬ (false = true) by decide)] at H; have H' := Aside0.mk H; clear H; have hcz30_0 : wc.cell? ⟨gb101, 0, none⟩ = some (.int .i64 a1_0) := (blk_cell BK101.out 0).trans rfl; have hcz30_1 : wc.cell? ⟨gb101, 1, none⟩ = some (.bool false) := (blk_cell BK101.out 1).trans rfl; have hcz30_2 : wc.cell? ⟨gb101, 2, none⟩ = some (.int .i64 a1_2) := (blk_cell BK101.out 2).trans rfl; have hcz30_3 : wc.cell? ⟨gb101, 3, none⟩ = some (.int .i64 a1_3) := (blk_cell BK101.out 3).trans rfl; have hfz30_0 := blk_frozen BK101.out 0; have hfz30_1 := blk_frozen BK101.out 1; have hfz30_2 := blk_frozen BK101.out 2; have hfz30_3 := blk_frozen BK101.out 3
    go_wp2
    go_meet
    case rel => exact ⟨_, (false), zs_, H', ⟨by have := HJ4.out; first | omega | exact Nat.le_refl _⟩, ⟨d33_⟩, ⟨d3_⟩, ⟨d1_⟩⟩
   case rest =>
    clear HC23; (try clear c1); (try clear c2); (try clear p2); (try clear c7); (try clear c8); (try clear c13); (try clear c14); (try clear c16); (try clear c17); (try clear c24); (try clear c25); (try clear hcz10_0); (try clear hcz10_1); (try clear hcz10_2); (try clear hcz10_3); (try clear hcz12_0); (try clear hcz12_1); (try clear hcz12_2); (try clear hcz12_3); (try clear hcz13_0); (try clear hcz13_1); (try clear hcz13_2); (try clear hcz13_3); (try clear hcz18_0); (try clear hcz18_1); (try clear hcz18_2); (try clear hcz18_3); (try clear hcz21_0); (try clear hcz21_1); (try clear hcz21_2); (try clear hcz21_3); (try clear hcz26_0); (try clear hcz26_1); (try clear hcz26_2); (try clear hcz26_3); (try clear hcz28_0); (try clear hcz28_1); (try clear hcz28_2); (try clear hcz28_3); (try clear hcz30_0); (try clear hcz30_1); (try clear hcz30_2); (try clear hcz30_3); (try clear hfz10_0); (try clear hfz10_1); (try clear hfz10_2); (try clear hfz10_3); (try clear hfz12_0); (try clear hfz12_1); (try clear hfz12_2); (try clear hfz12_3); (try clear hfz13_0); (try clear hfz13_1); (try clear hfz13_2); (try clear hfz13_3); (try clear hfz18_0); (try clear hfz18_1); (try clear hfz18_2); (try clear hfz18_3); (try clear hfz21_0); (try clear hfz21_1); (try clear hfz21_2); (try clear hfz21_3); (try clear hfz26_0); (try clear hfz26_1); (try clear hfz26_2); (try clear hfz26_3); (try clear hfz28_0); (try clear hfz28_1); (try clear hfz28_2); (try clear hfz28_3); (try clear hfz30_0); (try clear hfz30_1); (try clear hfz30_2); (try clear hfz30_3); (try clear p2); obtain ⟨kq, x39_22, rfl, HA, HJ22, HO_0, BK101, HB⟩ := hcut
    cases kq with
    | zero => exact absurd HA.out (by simp [impl_pairs_turn.j1])
    | succ kj22 =>
     have H := HA.out; clear HA; simp only [impl_pairs_turn.j1] at H
     by_cases c31 : x39_22 = true
     ·subst c31; rw [if_pos rfl] at H; obtain ⟨⟨t110, t111, t112⟩, A32, H⟩ := zH_ H; dsimp only at H
      by_cases c33 : t112 = true
      ·subst c33; rw [if_pos rfl] at H; obtain ⟨t114, A34, H⟩ := zH_ H; simp only [Option.some.injEq, Prod.mk.injEq] at H; obtain ⟨rfl, rfl⟩ := H; have hcz35_0 : wc.cell? ⟨gb101, 0, none⟩ = some (.int .i64 a1_0) := (blk_cell BK101.out 0).trans rfl; have hcz35_1 : wc.cell? ⟨gb101, 1, none⟩ = some (.bool a1_1) := (blk_cell BK101.out 1).trans rfl; have hcz35_2 : wc.cell? ⟨gb101, 2, none⟩ = some (.int .i64 a1_2) := (blk_cell BK101.out 2).trans rfl; have hcz35_3 : wc.cell? ⟨gb101, 3, none⟩ = some (.int .i64 a1_3) := (blk_cell BK101.out 3).trans rfl; have hfz35_0 := blk_frozen BK101.out 0; have hfz35_1 := blk_frozen BK101.out 1; have hfz35_2 := blk_frozen BK101.out 2; have hfz35_3 := blk_frozen BK101.out 3
       go_wp2_with (first | ((with_reducible refine gate_callee (f := 175) rfl ?_); refine zc_ (some 56) Tryz.func175 #[.slice A0 l0.length c0, .int .i64 a1_3] ?_; (with_reducible refine (impl_pairs_inside.calls _ _ l0 a1_3 t110 t111 true _ ?side1 ?side2 A32.out).mono ?_); (case side1 => exact d31_); (case side2 => exact (Kd.V_reads' HO_0.out).2.1); rintro e w36 ⟨rfl, hb⟩; refine ⟨_, rfl, ?_⟩; replace HO_0 := A_ (Kd.V_below (zv_ HO_0.out) hb); replace BK101 := A_ (blk_below (g := gb101) (o := .cells #[.int .i64 a1_0, .bool a1_1, .int .i64 a1_2, .int .i64 a1_3] 116 (0, 0)) (zb_ BK101.out) hb); replace HB := A_ (below_step d1_ hb); (try clear hb); (try clear hi)) | ((with_reducible refine gate_dst (N := 13) rfl ?_); refine zx_ (N := 13) #[.int .i64 0, .int .i64 0] 62 ?_; intro gb113 hg w37 hbox hb; replace HO_0 := A_ (Kd.V_below (Kd.V_elderB (zv_ HO_0.out) gb113 (Nat.le_of_eq hg.symm)) hb); have BK113 := A_ hbox; have GW113 := A_ ((d6_ : w.heap.size ≤ gb113)); have GE113 := A_ ((d6_ : w.heap.size ≤ gb113)); replace HB := A_ (below_step d1_ hb); have NB101_113 := A_ ((d7_ : gb101 ≠ gb113)); have NB113_101 := A_ ((d8_ : gb113 ≠ gb101)); replace BK101 := A_ (blk_below (g := gb101) (o := .cells #[.int .i64 a1_0, .bool a1_1, .int .i64 a1_2, .int .i64 a1_3] 116 (0, 0)) (zb_ BK101.out) hb); clear hb hbox hg; have hnb38 := NB113_101.out; have hnc38 := NB101_113.out; have hcz39_0 : w37.cell? ⟨gb113, 0, none⟩ = some (.int .i64 0) := (blk_cell BK113.out 0).trans rfl; have hcz39_1 : w37.cell? ⟨gb113, 1, none⟩ = some (.int .i64 0) := (blk_cell BK113.out 1).trans rfl; have hfz39_0 := blk_frozen BK113.out 0; have hfz39_1 := blk_frozen BK113.out 1) | ((with_reducible refine gate_callee (f := 172) rfl ?_); refine zc_ (some 62) Tryz.func172 #[.agg #[.int .i64 t110, .int .i64 t111]] ?_; (with_reducible refine (impl_name.calls t110 t111 t114 _ A34.out).mono ?_); rintro e w40 ⟨rfl, hb⟩; refine ⟨_, rfl, ?_⟩; replace HO_0 := A_ (Kd.V_below (zv_ ((Kd.V_mono (Kd.V_far (p := ⟨gb113, 1, none⟩) (Kd.V_far (p := ⟨gb113, 0, none⟩) (Kd.V_mono HO_0.out (fun k_ hk => (⟨hk, hk.2⟩ : _ ∧ k_ ≠ gb113))) (fun _ hk => hk.2) (.int .i64 t110)) (fun _ hk => hk.2) (.int .i64 t111)) (fun _ h_ => h_.1)))) hb); replace BK101 := A_ (blk_below (g := gb101) (o := .cells #[.int .i64 a1_0, .bool a1_1, .int .i64 a1_2, .int .i64 a1_3] 116 (0, 0)) d34_ hb); replace BK113 := A_ (blk_below (g := gb113) (o := .cells #[.int .i64 t110, .int .i64 t111] 62 (0, 0)) (by (with_reducible repeat (first | refine blk_drewN ?_ _ | refine blk_drew ?_ | refine blk_alloc ?_ _)); refine blk_put (cs := #[.int .i64 t110, .int .i64 0]) ?_ 1 _ rfl; (with_reducible repeat (first | refine blk_drewN ?_ _ | refine blk_drew ?_ | refine blk_alloc ?_ _)); refine blk_put (cs := #[.int .i64 0, .int .i64 0]) ?_ 0 _ rfl; (with_reducible repeat (first | refine blk_drewN ?_ _ | refine blk_drew ?_ | refine blk_alloc ?_ _)); exact BK113.out) hb); replace HB := A_ (below_step d35_ hb); (try clear hb); (try clear hi)))
       go_ret2
       exact ⟨_, d4_, by (with_reducible repeat (first | apply Kd.V_alloc | apply Kd.V_drewN | apply Kd.V_drew)); exact Kd.V_mono HO_0.out (fun _ hk => hk.1.1), d35_⟩
      replace c33 := Bool.eq_false_iff.mpr c33; subst c33; rw [if_neg (show ¬ (false = true) by decide)] at H; simp only [Option.some.injEq, Prod.mk.injEq] at H; obtain ⟨rfl, rfl⟩ := H; have hcz41_0 : wc.cell? ⟨gb101, 0, none⟩ = some (.int .i64 a1_0) := (blk_cell BK101.out 0).trans rfl; have hcz41_1 : wc.cell? ⟨gb101, 1, none⟩ = some (.bool a1_1) := (blk_cell BK101.out 1).trans rfl; have hcz41_2 : wc.cell? ⟨gb101, 2, none⟩ = some (.int .i64 a1_2) := (blk_cell BK101.out 2).trans rfl; have hcz41_3 : wc.cell? ⟨gb101, 3, none⟩ = some (.int .i64 a1_3) := (blk_cell BK101.out 3).trans rfl; have hfz41_0 := blk_frozen BK101.out 0; have hfz41_1 := blk_frozen BK101.out 1; have hfz41_2 := blk_frozen BK101.out 2; have hfz41_3 := blk_frozen BK101.out 3
      go_wp2_with (first | ((with_reducible refine gate_callee (f := 175) rfl ?_); refine zc_ (some 56) Tryz.func175 #[.slice A0 l0.length c0, .int .i64 a1_3] ?_; (with_reducible refine (impl_pairs_inside.calls _ _ l0 a1_3 t110 t111 false _ ?side1 ?side2 A32.out).mono ?_); (case side1 => exact d31_); (case side2 => exact (Kd.V_reads' HO_0.out).2.1); rintro e w42 ⟨rfl, hb⟩; refine ⟨_, rfl, ?_⟩; replace HO_0 := A_ (Kd.V_below (zv_ HO_0.out) hb); replace BK101 := A_ (blk_below (g := gb101) (o := .cells #[.int .i64 a1_0, .bool a1_1, .int .i64 a1_2, .int .i64 a1_3] 116 (0, 0)) (zb_ BK101.out) hb); replace HB := A_ (below_step d1_ hb); (try clear hb); (try clear hi)) | ((with_reducible refine gate_dst (N := 13) rfl ?_); refine zx_ (N := 13) #[.int .i64 0, .int .i64 0] 62 ?_; intro gb113 hg w43 hbox hb; replace HO_0 := A_ (Kd.V_below (Kd.V_elderB (zv_ HO_0.out) gb113 (Nat.le_of_eq hg.symm)) hb); have BK113 := A_ hbox; have GW113 := A_ ((d6_ : w.heap.size ≤ gb113)); have GE113 := A_ ((d6_ : w.heap.size ≤ gb113)); replace HB := A_ (below_step d1_ hb); have NB101_113 := A_ ((d7_ : gb101 ≠ gb113)); have NB113_101 := A_ ((d8_ : gb113 ≠ gb101)); replace BK101 := A_ (blk_below (g := gb101) (o := .cells #[.int .i64 a1_0, .bool a1_1, .int .i64 a1_2, .int .i64 a1_3] 116 (0, 0)) (zb_ BK101.out) hb); clear hb hbox hg; have hnb44 := NB113_101.out; have hnc44 := NB101_113.out; have hcz45_0 : w43.cell? ⟨gb113, 0, none⟩ = some (.int .i64 0) := (blk_cell BK113.out 0).trans rfl; have hcz45_1 : w43.cell? ⟨gb113, 1, none⟩ = some (.int .i64 0) := (blk_cell BK113.out 1).trans rfl; have hfz45_0 := blk_frozen BK113.out 0; have hfz45_1 := blk_frozen BK113.out 1))
      go_ret2
      exact ⟨_, d4_, by (with_reducible repeat (first | apply Kd.V_alloc | apply Kd.V_drewN | apply Kd.V_drew)); exact Kd.V_mono (Kd.V_far (p := ⟨gb113, 1, none⟩) (Kd.V_far (p := ⟨gb113, 0, none⟩) (Kd.V_mono HO_0.out (fun k_ hk => (⟨hk, hk.2⟩ : _ ∧ k_ ≠ gb113))) (fun _ hk => hk.2) (.int .i64 t110)) (fun _ hk => hk.2) (.int .i64 t111)) (fun _ hk => hk.1.1.1), d35_⟩
     replace c31 := Bool.eq_false_iff.mpr c31; subst c31; rw [if_neg (show ¬ (false = true) by decide)] at H; simp only [Option.some.injEq, Prod.mk.injEq] at H; obtain ⟨rfl, rfl⟩ := H
     go_wp2
     go_ret2
     exact ⟨_, d4_, d32_, d1_⟩
end
end Go.Proofs.YtfjbjiklohjodaaGreatDoor.Q
namespace Go.Proofs.YtfjbjiklohjodaaGreatDoor.Q.Kd
open Go.RowKit Go.Proofs.YtfjbjiklohjodaaGreatDoorW.PrintWords
set_option linter.unusedVariables false
section
variable {P : Program} {ops : Array Oper} {rest : List Oper} {o : Oper} {a : Act} {Q : Exit → Act → World → Prop} {α : Type}
theorem R_make0 (d : Kd α) {w0 W : World} (base e : Nat) (hgd : o.guard = none) {N : Tmp} (hd : o.dst = some N) (t : TypeId) (x y : Operand) (ho : o.op = .makeSlice t x y) (n : Int) (hx : a.eval x = .int .i64 0) (hy : a.eval y = .int .i64 n)
    (ht : P.underlying t = some (.slice e)) (z : Value) (bytes : Nat) (hinfo : (P.info? e).map (fun i => (i.zero, i.size, i.bytes)) = some (some z, d.sz, bytes)) (hb0 : 0 < bytes)
    {ok okp : Nat → Prop} (hok : ∀ k, okp k → ok k) (hfresh : ok W.heap.size) (h0 : 0 ≤ n) (hl : n.toNat * bytes ≤ 281474976710656) (HB : Below base w0 W) (hbase : base ≤ W.heap.size)
    (h : ∀ v1 w1, d.R e w1 base ok v1 [] → Below base w0 w1 → W.grownBy w1 none → (∃ b, v1.ownBlock = some b ∧ W.heap.size ≤ b) → wpList P ops Q rest (a.put o.dst v1) w1) : wpList P ops Q (o :: rest) a W := by
  obtain ⟨m, rfl⟩ := Int.eq_ofNat_of_zero_le h0
  simp only [Int.toNat_natCast] at hl
  obtain ⟨i0, hi, hzz⟩ := Option.map_eq_some_iff.1 hinfo
  simp only [Prod.mk.injEq] at hzz
  obtain ⟨hz0, hz1, hz2⟩ := hzz
  have hm : m ≤ 281474976710656 := Nat.le_trans (Nat.le_mul_of_pos_right _ hb0) hl
  obtain ⟨w', hr, hown, hg⟩ := run_make_own (P := P) W base t e i0 z d.sz ht hi hz0 hz1 .i64 .i64 m (by rw [hz2, Nat.mul_comm]; exact hl) (by simp only [maxLen]; omega) hbase
  have hb : Below base w0 w' := HB.grown hg hbase (fun k hk => by cases hk)
  refine Kd.event_run hgd (v := .slice (some ⟨W.heap.size, 0, none⟩) 0 m) (w1 := w') (by simp [execOp, ho, hx, hy, hr]) (h _ _ ⟨fun k hk => ?_, [], hown, Reps.none _ _⟩ hb hg ⟨W.heap.size, by simp [Value.ownBlock], Nat.le_refl _⟩)
  have : W.heap.size = k := by simpa [Value.ownBlock] using hk
  subst this
  exact hfresh
end
end Go.Proofs.YtfjbjiklohjodaaGreatDoor.Q.Kd
namespace Go.Proofs.YtfjbjiklohjodaaGreatDoor.Q
open Go.RowKit Go.Proofs.YtfjbjiklohjodaaGreatDoorW.PrintWords Go.Proofs.YtfjbjiklohjodaaGreatDoorW.PrintLast Go.Proofs.YtfjbjiklohjodaaGreatDoorW.PrintMore
attribute [local go_sem] max2_int min2_int max_two min_two max_three min_three max_four min_four
set_option linter.unusedVariables false
set_option linter.unusedSimpArgs false
noncomputable section
def impl_pairs_turned.l0 : Nat → List (S111) → ByteArray → Bool → List ByteArray → List (S116) → Int → Int → Option ((List (S111)) × List ByteArray)
 | 0, _, _, _, _, _, _, _ => none
 | k + 1, x0, x2, x3, x10, x18, x19, x20 => if x20 < x19 then (if 0 ≤ x20 then (if x20 < (x18.length : Int) then (if 0 ≤ ((rd_T116 x18 x20).f0) then (if ((rd_T116 x18 x20).f0) ≤ (x2.size : Int) then ((impl_pairs_turn.f k x0 ((rd_T116 x18 x20).f0) ((rd_T116 x18 x20).f1) ((rd_T116 x18 x20).f2.f0) ((rd_T116 x18 x20).f2.f1) (x2.extract 0 (((rd_T116 x18 x20).f0) : Int).toNat) x3).bind fun bt106 => ((strings_Clone.f bt106.2).bind fun t110 => (if x10.length < 8796093022208 then (impl_pairs_turned.l0 k bt106.1 (x2.extract (((rd_T116 x18 x20).f0) : Int).toNat x2.size) x3 (x10 ++ [t110]) x18 x19 (wrap64 (x20 + 1))) else (none)))) else (none)) else (none)) else (none)) else (none)) else (some (x0, x10))
def impl_pairs_turned.f (k : Nat) (l0 : List (S111)) (l1 : List (S116)) (a2 : ByteArray) (a3 : Bool) : Option ((List (S111)) × List ByteArray) := if 0 ≤ (l1.length : Int) then (if ((l1.length : Int) : Int).toNat ≤ 17592186044416 then (impl_pairs_turned.l0 k l0 a2 a3 (([] : List ByteArray)) l1 (l1.length : Int) 0) else (none)) else (none)
def impl_pairs_turned.T5 : Bool × List (List Nat × List Nat) := (true, [([], []), ([], []), ([], []), ([], []), ([3], [3]), ([2, 4], [2, 4]), ([], []), ([0, 1, 5, 6], [0, 1, 5, 6]), ([7], [7]), ([8], [8]), ([8], [8]), ([9, 7, 0, 1, 2, 3, 4, 5, 6, 7, 8, 9], [9]), ([10, 11, 0, 1, 2, 3, 4, 5, 6, 7, 8, 9, 10, 11], [10])])
def impl_pairs_turned.B5 : List Nat := [0, 0, 0, 0, 8, 28, 0, 127, 255, 511, 511, 1023, 4095]
theorem impl_pairs_turned.tab5 : rtab .any (opsOf Tryz.f82 5) = impl_pairs_turned.T5 := by kernel_rfl
theorem impl_pairs_turned.bits5 : waitsOk impl_pairs_turned.T5.2 impl_pairs_turned.B5 = true := by kernel_rfl
set_option maxHeartbeats 8000000 in
set_option maxRecDepth 100000 in
theorem impl_pairs_turned.calls (k : Nat) (P0_ : Nat → Prop) (A0 : Option Addr) (c0 : Nat) (l0 : List (S111)) (A1 : Option Addr) (c1 : Nat) (l1 : List (S116)) (a2 : ByteArray) (a3 : Bool) (r1 : List (S111)) (r2 : List ByteArray) (w : World) (hs0 : Kd.V k111 111 w w.heap.size (fun k_ => P0_ k_) (.slice A0 l0.length c0) l0) (hr1 : Kd.C k116 w A1 l1.length l1) (hc1 : l1.length ≤ c1) (h : impl_pairs_turned.f k l0 l1 a2 a3 = some (r1, r2)) :
  Calls Tryz.prog 82 #[.slice A0 l0.length c0, .slice A1 l1.length c1, .string a2, .bool a3] w fun e w' => ∃ v0_ v1_ : Value, e = .returned (.tuple #[v0_, v1_]) ∧ Kd.V k111 111 w' w.heap.size (fun k_ => (P0_ k_ ∨ w.heap.size ≤ k_) ∧ some k_ ≠ (v1_ : Value).ownBlock) v0_ r1 ∧ Kd.R Kd.string 9 w' w.heap.size (fun k_ => (w.heap.size ≤ k_)) v1_ r2 ∧ Below w.heap.size w w' := by
 have hu116 := Tryz.underlying116
 have HO0 := Aside0.mk (show Kd.V k111 111 w w.heap.size (fun k_ => (P0_ k_ ∨ w.heap.size ≤ k_)) (.slice A0 l0.length c0) l0 from Kd.V_mono hs0 (fun k_ hk => .inl hk))
 have HR1 := Aside0.mk hr1
 have HC1 := Aside0.mk hc1
 clear hr1 hc1
 have HB := Aside0.mk (Below.refl w.heap.size w)
 have H : (if 0 ≤ (l1.length : Int) then (if ((l1.length : Int) : Int).toNat ≤ 17592186044416 then (impl_pairs_turned.l0 k l0 a2 a3 (([] : List ByteArray)) l1 (l1.length : Int) 0) else (none)) else (none)) = some (r1, r2) := h
 clear h
 by_cases c5 : 0 ≤ (l1.length : Int)
 ·rw [if_pos c5] at H; have c5b0 := eq_true c5; have c5b1 : decide (0 ≤ (l1.length : Int)) = true := decide_eq_true c5; clear c5
  by_cases c6 : ((l1.length : Int) : Int).toNat ≤ 17592186044416
  ·rw [if_pos c6] at H; have c6b0 := eq_true c6; have c6b1 : decide (((l1.length : Int) : Int).toNat ≤ 17592186044416) = true := decide_eq_true c6; clear c6; obtain ⟨y101, hy101⟩ : ∃ y_ : List ByteArray, y_ = (([] : List ByteArray)) := ⟨_, rfl⟩
   replace H : (impl_pairs_turned.l0 k l0 a2 a3 y101 l1 (l1.length : Int) 0) = some (r1, r2) := by first | (rw [hy101]; with_reducible exact H) | (have H2_ := (Option.bind_some _ _).symm.trans H; rw [hy101]; with_reducible exact H2_) | (have H2_ := (Option.bind_some _ _).symm.trans H; with_reducible exact H2_) | with_reducible exact H | (rw [hy101]; exact H) | exact H
   have Ny101 := Aside0.mk hy101; clear hy101; have H' := Aside0.mk H; clear H
   go_enter Tryz.func82, Tryz.ntmps82
   go_wp2_with (first | ((with_reducible refine gate_dst (N := 17) rfl ?_); refine Kd.R_make0 Kd.string _ 9 rfl (N := 17) rfl 122 _ _ rfl (l1.length : Int) rfl rfl Tryz.underlying122 (.string ⟨#[]⟩) 16 info9 (by omega) (ok := fun _ => True) (okp := fun _ => True) (fun _ hk => hk) trivial (of_decide_eq_true d11_) (Nat.le_trans (Nat.mul_le_mul_right _ (of_decide_eq_true d11_ : (l1.length : Int).toNat ≤ 17592186044416)) (by omega)) (Below.refl _ _) (Nat.le_refl _) ?_; intro v102 w7 ho8 hb hg_ hnew_; clear hg_ hnew_; (first | rw [← Ny101.out] at ho8 | (simp only [Int.reduceToNat] at ho8; rw [← Ny101.out] at ho8)); replace HO0 := A_ (Kd.V_elder' (zv_ HO0.out) (Kd.R_base ho8) hb); have HO103 := A_ (Kd.R_lower (Kd.R_newM (M := fun k_ => (w.heap.size ≤ k_)) ho8 (below_size (zB_ HB.out)) (fun k_ h_ => h_)) (below_size (zB_ HB.out))); replace HB := A_ (below_step (zB_ HB.out) hb); clear hb ho8))
   go_loopg [0, 2, 10, 20] k (fun kq v0 v2 v10 v20 w' => ∃ (x0_1 : List (S111)) (x2_1 : ByteArray) (x10_1 : List ByteArray) (x20_1 : Int), v2 = .string x2_1 ∧ v20 = .int .i64 x20_1 ∧ Aside0 (impl_pairs_turned.l0 kq x0_1 x2_1 a3 x10_1 l1 (l1.length : Int) x20_1 = some (r1, r2)) ∧ Aside0 (kq ≤ k) ∧ Aside0 (Kd.V k111 111 w' w.heap.size (fun k_ => (P0_ k_ ∨ w.heap.size ≤ k_) ∧ some k_ ≠ (v10 : Value).ownBlock) v0 x0_1) ∧ Aside0 (Kd.R Kd.string 9 w' w.heap.size (fun k_ => (w.heap.size ≤ k_)) v10 x10_1) ∧ Aside0 (Below w.heap.size w w'))
   case atStart => exact ⟨(l0), (a2), (y101), (0), zs_, zs_, H', ⟨Nat.le_refl _⟩, ⟨d30_⟩, ⟨d27_⟩, ⟨d18_⟩⟩
   case round =>
    clear H'; (try clear c1); (try clear p2); (try clear c5); (try clear c5b0); (try clear c5b1); (try clear c6); (try clear c6b0); (try clear c6b1); (try clear c8); obtain ⟨x0_1, x2_1, x10_1, x20_1, rfl, rfl, HA, HK1, HO_0, HO_10, HB⟩ := hrel
    cases gk with
    | zero => exact absurd HA.out (by simp [impl_pairs_turned.l0])
    | succ k1 =>
     have H := HA.out; clear HA; simp only [impl_pairs_turned.l0] at H
     by_cases c9 : x20_1 < (l1.length : Int)
     ·rw [if_pos c9] at H; have c9b0 : decide (x20_1 < (l1.length : Int)) = true := decide_eq_true c9; clear c9
      by_cases c10 : 0 ≤ x20_1
      ·rw [if_pos c10] at H; have c10b0 : decide (0 ≤ x20_1) = true := decide_eq_true c10; clear c10
       by_cases c11 : x20_1 < (l1.length : Int)
       ·rw [if_pos c11] at H; have c11b0 : decide (x20_1 < (l1.length : Int)) = true := decide_eq_true c11; clear c11
        by_cases c12 : 0 ≤ ((rd_T116 l1 x20_1).f0)
        ·rw [if_pos c12] at H; have c12b0 := eq_true c12; have c12b1 : decide (0 ≤ ((rd_T116 l1 x20_1).f0)) = true := decide_eq_true c12; clear c12
         by_cases c13 : ((rd_T116 l1 x20_1).f0) ≤ (x2_1.size : Int)
         ·rw [if_pos c13] at H; have c13b0 := eq_true c13; have c13b1 : decide (((rd_T116 l1 x20_1).f0) ≤ (x2_1.size : Int)) = true := decide_eq_true c13; clear c13; obtain ⟨⟨t106, t109⟩, A14, H⟩ := zH_ H; dsimp only at H; obtain ⟨t110, A15, H⟩ := zH_ H
          by_cases c16 : x10_1.length < 8796093022208
          ·rw [if_pos c16] at H; have LMc16 := Aside0.mk c16; clear c16; obtain ⟨y111, hy111⟩ : ∃ y_ : List ByteArray, y_ = (x10_1 ++ [t110]) := ⟨_, rfl⟩
           replace H : (impl_pairs_turned.l0 k1 t106 (x2_1.extract (((rd_T116 l1 x20_1).f0) : Int).toNat x2_1.size) a3 y111 l1 (l1.length : Int) (wrap64 (x20_1 + 1))) = some (r1, r2) := by first | (rw [hy111]; with_reducible exact H) | (have H2_ := (Option.bind_some _ _).symm.trans H; rw [hy111]; with_reducible exact H2_) | (have H2_ := (Option.bind_some _ _).symm.trans H; with_reducible exact H2_) | with_reducible exact H | (rw [hy111]; exact H) | exact H
           have Ny111 := Aside0.mk hy111; clear hy111; have c17b0 := eq_true (of_decide_eq_true d11_ : 0 ≤ ((rd_T116 l1 x20_1).f0)); have c18b0 := eq_true (of_decide_eq_true d11_ : ((rd_T116 l1 x20_1).f0) ≤ (x2_1.size : Int)); have H' := Aside0.mk H; clear H; have p104 : 0 ≤ (x20_1 : Int) := of_decide_eq_true d11_; have q104 : x20_1 < (l1.length : Int) := of_decide_eq_true d11_; obtain ⟨ad104, e104, hx104_0, hx104_1, hx104_2, hx104_3⟩ := at_T116 HR1.out x20_1 p104 q104
           cases e104
           replace hx104_0 := (HB.out.cell (World.block_lt_of_cell? w _ hx104_0)).trans hx104_0; replace hx104_1 := (HB.out.cell (World.block_lt_of_cell? w _ hx104_1)).trans hx104_1; replace hx104_2 := (HB.out.cell (World.block_lt_of_cell? w _ hx104_2)).trans hx104_2; replace hx104_3 := (HB.out.cell (World.block_lt_of_cell? w _ hx104_3)).trans hx104_3; replace p104 := eq_true p104; replace q104 := eq_true q104
           try go_wp2_with (first | ((with_reducible refine gate_dst (N := 12) rfl ?_); refine zx_ (N := 12) #[.int .i64 0, .bool false, .int .i64 0, .int .i64 0] 116 ?_; intro gb105 hg w19 hbox hb; replace HO_0 := A_ (Kd.V_below (Kd.V_elderB (zv_ HO_0.out) gb105 (Nat.le_of_eq hg.symm)) hb); replace HO_10 := A_ (Kd.R_below (zR_ HO_10.out) hb); have BK105 := A_ hbox; have GW105 := A_ ((d0_ : w.heap.size ≤ gb105)); have GE105 := A_ ((d0_ : w.heap.size ≤ gb105)); replace HB := A_ (below_step (zB_ HB.out) hb); clear hb hbox hg; have hcz20_0 : w19.cell? ⟨gb105, 0, none⟩ = some (.int .i64 0) := (blk_cell BK105.out 0).trans rfl; have hcz20_1 : w19.cell? ⟨gb105, 1, none⟩ = some (.bool false) := (blk_cell BK105.out 1).trans rfl; have hcz20_2 : w19.cell? ⟨gb105, 2, none⟩ = some (.int .i64 0) := (blk_cell BK105.out 2).trans rfl; have hcz20_3 : w19.cell? ⟨gb105, 3, none⟩ = some (.int .i64 0) := (blk_cell BK105.out 3).trans rfl; have hfz20_0 := blk_frozen BK105.out 0; have hfz20_1 := blk_frozen BK105.out 1; have hfz20_2 := blk_frozen BK105.out 2; have hfz20_3 := blk_frozen BK105.out 3))
           have n0_ : Aside0 (Kd.V k111 111 ((((w19.setCell ⟨gb105, 0, none⟩ (.int .i64 ((rd_T116 l1 x20_1).f0))).setCell ⟨gb105, 1, none⟩ (.bool ((rd_T116 l1 x20_1).f1))).setCell ⟨gb105, 2, none⟩ (.int .i64 ((rd_T116 l1 x20_1).f2.f0))).setCell ⟨gb105, 3, none⟩ (.int .i64 ((rd_T116 l1 x20_1).f2.f1))) w.heap.size (fun k_ => (P0_ k_ ∨ w.heap.size ≤ k_) ∧ some k_ ≠ (u10 : Value).ownBlock ∧ k_ ≠ gb105) u0 x0_1) := ⟨by (with_reducible repeat (first | apply Kd.V_alloc | apply Kd.V_drewN | apply Kd.V_drew)); exact Kd.V_mono (Kd.V_far (p := ⟨gb105, 3, none⟩) (Kd.V_far (p := ⟨gb105, 2, none⟩) (Kd.V_far (p := ⟨gb105, 1, none⟩) (Kd.V_far (p := ⟨gb105, 0, none⟩) (Kd.V_mono HO_0.out (fun k_ hk => (⟨hk, hk.2⟩ : _ ∧ k_ ≠ gb105))) (fun _ hk => hk.2) (.int .i64 ((rd_T116 l1 x20_1).f0))) (fun _ hk => hk.2) (.bool ((rd_T116 l1 x20_1).f1))) (fun _ hk => hk.2) (.int .i64 ((rd_T116 l1 x20_1).f2.f0))) (fun _ hk => hk.2) (.int .i64 ((rd_T116 l1 x20_1).f2.f1))) (fun _ hk => ⟨hk.1.1.1, ⟨hk.1.1.2, hk.1.2⟩⟩)⟩; have n1_ : Aside0 (Kd.R Kd.string 9 ((((w19.setCell ⟨gb105, 0, none⟩ (.int .i64 ((rd_T116 l1 x20_1).f0))).setCell ⟨gb105, 1, none⟩ (.bool ((rd_T116 l1 x20_1).f1))).setCell ⟨gb105, 2, none⟩ (.int .i64 ((rd_T116 l1 x20_1).f2.f0))).setCell ⟨gb105, 3, none⟩ (.int .i64 ((rd_T116 l1 x20_1).f2.f1))) w.heap.size (fun k_ => (w.heap.size ≤ k_)) u10 x10_1) := ⟨by (with_reducible repeat (first | apply Kd.R_alloc | apply Kd.R_drewN | apply Kd.R_drew)); exact Kd.R_mono (Kd.R_far (p := ⟨gb105, 3, none⟩) (Kd.R_far (p := ⟨gb105, 2, none⟩) (Kd.R_far (p := ⟨gb105, 1, none⟩) (Kd.R_far (p := ⟨gb105, 0, none⟩) (Kd.R_types HO_10.out BK105.out (by decide)) (fun _ hk => hk.2) (.int .i64 ((rd_T116 l1 x20_1).f0))) (fun _ hk => hk.2) (.bool ((rd_T116 l1 x20_1).f1))) (fun _ hk => hk.2) (.int .i64 ((rd_T116 l1 x20_1).f2.f0))) (fun _ hk => hk.2) (.int .i64 ((rd_T116 l1 x20_1).f2.f1))) (fun _ hk => hk.1)⟩; have n2_ : Aside0 (((((w19.setCell ⟨gb105, 0, none⟩ (.int .i64 ((rd_T116 l1 x20_1).f0))).setCell ⟨gb105, 1, none⟩ (.bool ((rd_T116 l1 x20_1).f1))).setCell ⟨gb105, 2, none⟩ (.int .i64 ((rd_T116 l1 x20_1).f2.f0))).setCell ⟨gb105, 3, none⟩ (.int .i64 ((rd_T116 l1 x20_1).f2.f1))).heap[gb105]? = some (.cells #[.int .i64 ((rd_T116 l1 x20_1).f0), .bool ((rd_T116 l1 x20_1).f1), .int .i64 ((rd_T116 l1 x20_1).f2.f0), .int .i64 ((rd_T116 l1 x20_1).f2.f1)] 116 (0, 0))) := ⟨by (with_reducible repeat (first | refine blk_drewN ?_ _ | refine blk_drew ?_ | refine blk_alloc ?_ _)); refine blk_put (cs := #[.int .i64 ((rd_T116 l1 x20_1).f0), .bool ((rd_T116 l1 x20_1).f1), .int .i64 ((rd_T116 l1 x20_1).f2.f0), .int .i64 0]) ?_ 3 _ rfl; (with_reducible repeat (first | refine blk_drewN ?_ _ | refine blk_drew ?_ | refine blk_alloc ?_ _)); refine blk_put (cs := #[.int .i64 ((rd_T116 l1 x20_1).f0), .bool ((rd_T116 l1 x20_1).f1), .int .i64 0, .int .i64 0]) ?_ 2 _ rfl; (with_reducible repeat (first | refine blk_drewN ?_ _ | refine blk_drew ?_ | refine blk_alloc ?_ _)); refine blk_put (cs := #[.int .i64 ((rd_T116 l1 x20_1).f0), .bool false, .int .i64 0, .int .i64 0]) ?_ 1 _ rfl; (with_reducible repeat (first | refine blk_drewN ?_ _ | refine blk_drew ?_ | refine blk_alloc ?_ _)); refine blk_put (cs := #[.int .i64 0, .bool false, .int .i64 0, .int .i64 0]) ?_ 0 _ rfl; (with_reducible repeat (first | refine blk_drewN ?_ _ | refine blk_drew ?_ | refine blk_alloc ?_ _)); exact BK105.out⟩; have n3_ : Aside0 (Below w.heap.size w ((((w19.setCell ⟨gb105, 0, none⟩ (.int .i64 ((rd_T116 l1 x20_1).f0))).setCell ⟨gb105, 1, none⟩ (.bool ((rd_T116 l1 x20_1).f1))).setCell ⟨gb105, 2, none⟩ (.int .i64 ((rd_T116 l1 x20_1).f2.f0))).setCell ⟨gb105, 3, none⟩ (.int .i64 ((rd_T116 l1 x20_1).f2.f1)))) := ⟨d36_⟩; (try clear HO_0); (try clear HO_10); (try clear BK105); (try clear HB)
           generalize ((((w19.setCell ⟨gb105, 0, none⟩ (.int .i64 ((rd_T116 l1 x20_1).f0))).setCell ⟨gb105, 1, none⟩ (.bool ((rd_T116 l1 x20_1).f1))).setCell ⟨gb105, 2, none⟩ (.int .i64 ((rd_T116 l1 x20_1).f2.f0))).setCell ⟨gb105, 3, none⟩ (.int .i64 ((rd_T116 l1 x20_1).f2.f1))) = w21 at n0_ n1_ n2_ n3_ ⊢; have HO_0 := n0_; have HO_10 := n1_; have BK105 := n2_; have HB := n3_; clear n0_ n1_ n2_ n3_; have n0_ := Aside0.mk (Kd.V_drew HO_0.out); have n1_ := Aside0.mk (Kd.R_drew HO_10.out); have n2_ := Aside0.mk (blk_drew BK105.out); have n3_ := Aside0.mk (below_drew1 HB.out); clear HO_0; clear HO_10; clear BK105; clear HB; have HO_0 := n0_; have HO_10 := n1_; have BK105 := n2_; have HB := n3_; clear n0_ n1_ n2_ n3_; obtain ⟨Ao23, co23, eo23⟩ := Kd.V_slice HO_0.out; (first | subst eo23 | (injection eo23 with f1_ f2_ f3_; have f4_ := f1_.symm; have f5_ := f3_.symm; clear f1_ f2_ f3_; subst f4_; subst f5_)); refine start_ (n := 13) (S := fun w' => w'.cell? ⟨gb105, 0, none⟩ = some (.int .i64 ((rd_T116 l1 x20_1).f0)) ∧ w'.cell? ⟨gb105, 1, none⟩ = some (.bool ((rd_T116 l1 x20_1).f1)) ∧ w'.cell? ⟨gb105, 2, none⟩ = some (.int .i64 ((rd_T116 l1 x20_1).f2.f0)) ∧ w'.cell? ⟨gb105, 3, none⟩ = some (.int .i64 ((rd_T116 l1 x20_1).f2.f1))) (ds := []) #[false, false, false, false, false, false, false, false, false, false, false, false, false] (by kernel_rfl) rfl rfl ⟨(blk_cell BK105.out 0).trans rfl, (blk_cell BK105.out 1).trans rfl, (blk_cell BK105.out 2).trans rfl, (blk_cell BK105.out 3).trans rfl⟩ (fun hHeld => ?_); refine with_tabW impl_pairs_turned.tab5 impl_pairs_turned.bits5 (fun HT_ HW_ => ?_); generalize w21.drew = w22 at HO_0 HO_10 BK105 HB hHeld ⊢; refine zp_ HT_ 0 ?_; refine zp_ HT_ 2 ?_; refine zp_ HT_ 3 ?_; refine zp_ HT_ 6 ?_; refine zt_ HT_ HW_ hHeld 1 ?_; refine zt_ HT_ HW_ hHeld 4 ?_; refine zp_ HT_ 5 ?_; refine one_ (i := 7) (N := some 32) #[true, true, true, true, true, true, true, true, false, false, false, false, false] rfl rfl (one_of HT_.out (by kernel_rfl)) (by decide) (fun K hK => ?_); refine goes_ Tryz.func136 (by kernel_rfl) rfl #[.slice Ao23 x0_1.length co23, .agg #[.int .i64 ((rd_T116 l1 x20_1).f0), .bool ((rd_T116 l1 x20_1).f1), .int .i64 ((rd_T116 l1 x20_1).f2.f0), .int .i64 ((rd_T116 l1 x20_1).f2.f1)], .string (x2_1.extract 0 (((rd_T116 l1 x20_1).f0) : Int).toNat), .bool a3] (by rfl) rfl rfl za_ ?_
           with_reducible refine (impl_pairs_turn.calls k1 (fun k_ => ((P0_ k_ ∨ w.heap.size ≤ k_) ∧ (some k_ ≠ (u10 : Value).ownBlock ∧ k_ ≠ gb105))) _ _ x0_1 ((rd_T116 l1 x20_1).f0) ((rd_T116 l1 x20_1).f1) ((rd_T116 l1 x20_1).f2.f0) ((rd_T116 l1 x20_1).f2.f1) (x2_1.extract 0 (((rd_T116 l1 x20_1).f0) : Int).toNat) a3 t106 t109 _ ?side1 A14.out).mono ?_
           (case side1 => exact HO_0.out); rintro e w24 ⟨v107, rfl, ho0, hb⟩; refine ⟨_, rfl, ?_⟩; have n0_ := Aside0.mk (Kd.V_below (zv_ HO_0.out) hb); have n1_ := Aside0.mk (Kd.R_below (zR_ HO_10.out) hb); have n2_ := Aside0.mk (Kd.V_lower (Kd.V_mono (ok' := fun k_ => (P0_ k_ ∨ w.heap.size ≤ k_) ∧ some k_ ≠ (u10 : Value).ownBlock ∧ k_ ≠ gb105) ho0 (fun k_ hk_ => ⟨Or.elim hk_ (fun hs_ => hs_.1) (fun hn_ => (.inr (Nat.le_trans (below_size d36_) hn_))), Or.elim hk_ (fun hs_ => hs_.2.1) (fun hn_ => (Kd.fresh' (Kd.R_lt (zR_ HO_10.out)) k_ hn_)), Or.elim hk_ (fun hs_ => hs_.2.2) (fun hn_ => (Kd.freshB (g := gb105) (o := .cells #[.int .i64 ((rd_T116 l1 x20_1).f0), .bool ((rd_T116 l1 x20_1).f1), .int .i64 ((rd_T116 l1 x20_1).f2.f0), .int .i64 ((rd_T116 l1 x20_1).f2.f1)] 116 (0, 0)) (zb_ BK105.out) k_ hn_))⟩)) (below_size d36_)); have n3_ := Aside0.mk (blk_below (g := gb105) (o := .cells #[.int .i64 ((rd_T116 l1 x20_1).f0), .bool ((rd_T116 l1 x20_1).f1), .int .i64 ((rd_T116 l1 x20_1).f2.f0), .int .i64 ((rd_T116 l1 x20_1).f2.f1)] 116 (0, 0)) (zb_ BK105.out) hb); have n4_ := Aside0.mk (below_step d36_ hb); clear HO_0; clear HO_10; clear BK105; clear HB; have HO_0 := n0_; have HO_10 := n1_; have HO108 := n2_; have BK105 := n3_; have HB := n4_; clear n0_ n1_ n2_ n3_ n4_; (try clear hb); (try clear hb2); (try clear hk); (try clear hi); (try clear ho0); refine hK.out _ _ ⟨(blk_cell BK105.out 0).trans rfl, (blk_cell BK105.out 1).trans rfl, (blk_cell BK105.out 2).trans rfl, (blk_cell BK105.out 3).trans rfl⟩ (fun hHeld => ?_); clear hK K; refine norm_ (a' := ?_) ?_ ?_; rotate_left
           ·show Act.put _ (some 32) _ = _
            simp only [Act.put, List.setIfInBounds_toArray, List.set_cons_zero, List.set_cons_succ, i64_w, i32_w]; rfl
           refine zp_ HT_ 8 ?_; refine zp_ HT_ 9 ?_; refine zp_ HT_ 10 ?_; refine zp_ HT_ 11 ?_; refine zp_ HT_ 12 ?_; refine done_ (done_of HT_.out (by kernel_rfl)) ?_
           try go_wp2_with (first | ((with_reducible refine gate_callee (f := 137) rfl ?_); refine zc_ (some 38) Tryz.func137 #[.string t109] ?_; (with_reducible refine (strings_Clone.calls t109 t110 _ A15.out).mono ?_); rintro e w25 ⟨rfl, hb⟩; refine ⟨_, rfl, ?_⟩; replace HO_0 := A_ (Kd.V_below (zv_ HO_0.out) hb); replace HO_10 := A_ (Kd.R_below (zR_ HO_10.out) hb); replace HO108 := A_ (Kd.V_below (zv_ HO108.out) hb); replace BK105 := A_ (blk_below (g := gb105) (o := .cells #[.int .i64 ((rd_T116 l1 x20_1).f0), .bool ((rd_T116 l1 x20_1).f1), .int .i64 ((rd_T116 l1 x20_1).f2.f0), .int .i64 ((rd_T116 l1 x20_1).f2.f1)] 116 (0, 0)) (zb_ BK105.out) hb); replace HB := A_ (below_step d36_ hb); (try clear hb); (try clear hi)) | ((with_reducible refine gate_builtin (b := .append) (xs := #[.tmp 36, .tmp 39]) rfl ?_); at_builtin; refine Kd.R_append Kd.string (w0 := w) w.heap.size rfl (.tmp 36) (.tmp 39) 122 9 (.string ⟨#[]⟩) 16 rfl Tryz.underlying122 info9 rfl (by decide) (by omega) u10 x10_1 t110 [.string t110] (fun k_ => (w.heap.size ≤ k_)) (fun _ => False) rfl rfl ?aP (fun _ hk => hk.elim) ?aF ?aO ?aB ?aS ?aL ?_; (case aP => exact rfl); (case aB => exact d36_); (case aF => exact (fun k_ hk => (Nat.le_trans (below_size d36_) hk))); (case aO => exact (zR_ HO_10.out)); (case aS => exact (below_size d36_)); (case aL => have := LMc16.out; omega); intro v112 w26 ho hb hg hat; rw [← Ny111.out] at ho; replace HO_0 := A_ (Kd.V_afterv (ok := (fun k_ => (P0_ k_ ∨ w.heap.size ≤ k_) ∧ k_ ≠ gb105)) (zv_ (Kd.V_mono HO_0.out (fun _ hk => ⟨⟨hk.1, hk.2.2⟩, hk.2.1⟩))) hg hat); replace BK105 := A_ (blk_grown (g := gb105) (o := .cells #[.int .i64 ((rd_T116 l1 x20_1).f0), .bool ((rd_T116 l1 x20_1).f1), .int .i64 ((rd_T116 l1 x20_1).f2.f0), .int .i64 ((rd_T116 l1 x20_1).f2.f1)] 116 (0, 0)) (zb_ BK105.out) hg (Kd.R_ne HO_10.out BK105.out (by decide))); replace HO108 := A_ (Kd.V_afterv (ok := (fun k_ => (P0_ k_ ∨ w.heap.size ≤ k_) ∧ k_ ≠ gb105)) (zv_ (Kd.V_mono HO108.out (fun _ hk => ⟨⟨hk.1, hk.2.2⟩, hk.2.1⟩))) hg hat); replace HB := A_ hb; have HO113 := A_ ho; clear HO_10; clear ho hb hg hat; have hcz27_0 : w26.cell? ⟨gb105, 0, none⟩ = some (.int .i64 ((rd_T116 l1 x20_1).f0)) := (blk_cell BK105.out 0).trans rfl; have hcz27_1 : w26.cell? ⟨gb105, 1, none⟩ = some (.bool ((rd_T116 l1 x20_1).f1)) := (blk_cell BK105.out 1).trans rfl; have hcz27_2 : w26.cell? ⟨gb105, 2, none⟩ = some (.int .i64 ((rd_T116 l1 x20_1).f2.f0)) := (blk_cell BK105.out 2).trans rfl; have hcz27_3 : w26.cell? ⟨gb105, 3, none⟩ = some (.int .i64 ((rd_T116 l1 x20_1).f2.f1)) := (blk_cell BK105.out 3).trans rfl; have hfz27_0 := blk_frozen BK105.out 0; have hfz27_1 := blk_frozen BK105.out 1; have hfz27_2 := blk_frozen BK105.out 2; have hfz27_3 := blk_frozen BK105.out 3))
           go_roundg k1
           case measure => have := HK1.out; omega
           case rel => exact ⟨(t106), (x2_1.extract (((rd_T116 l1 x20_1).f0) : Int).toNat x2_1.size), (y111), (wrap64 (x20_1 + 1)), zs_, zs_, H', ⟨d23_⟩, ⟨by (with_reducible repeat (first | apply Kd.V_alloc | apply Kd.V_drewN | apply Kd.V_drew)); exact Kd.V_mono HO108.out (fun _ hk => ⟨hk.1.1, hk.2⟩)⟩, ⟨by (with_reducible repeat (first | apply Kd.R_alloc | apply Kd.R_drewN | apply Kd.R_drew)); exact HO113.out⟩, ⟨d36_⟩⟩
          rw [if_neg c16] at H; exact absurd H (by simp)
         rw [if_neg c13] at H; exact absurd H (by simp)
        rw [if_neg c12] at H; exact absurd H (by simp)
       rw [if_neg c11] at H; exact absurd H (by simp)
      rw [if_neg c10] at H; exact absurd H (by simp)
     rw [if_neg c9] at H; have c9b0 : decide (x20_1 < (l1.length : Int)) = false := decide_eq_false c9; clear c9; simp only [Option.some.injEq, Prod.mk.injEq] at H; obtain ⟨rfl, rfl⟩ := H
     go_wp2
     go_ret2
     exact ⟨_, _, d4_, d33_, by (with_reducible repeat (first | apply Kd.R_alloc | apply Kd.R_drewN | apply Kd.R_drew)); exact HO_10.out, d18_⟩
  rw [if_neg c6] at H; exact absurd H (by simp)
 rw [if_neg c5] at H
 exact absurd H (by simp)
end
end Go.Proofs.YtfjbjiklohjodaaGreatDoor.Q
namespace Go.Proofs.YtfjbjiklohjodaaGreatDoor.Q
open Go.RowKit Go.Proofs.YtfjbjiklohjodaaGreatDoorW.PrintWords Go.Proofs.YtfjbjiklohjodaaGreatDoorW.PrintLast Go.Proofs.YtfjbjiklohjodaaGreatDoorW.PrintMore Go.Proofs.YtfjbjiklohjodaaGreatDoor.Z
attribute [local go_sem] max2_int min2_int max_two min_two max_three min_three max_four min_four
set_option linter.unusedVariables false
set_option linter.unusedSimpArgs false
noncomputable section
def impl_MapTextIn.j0 : Nat → List (S111) → ByteArray → Bool → Option (ByteArray)
 | 0, _, _, _ => none
 | k + 1, x0, x1, x14 => if x14 = true then (some (⟨#[]⟩ : ByteArray)) else ((impl_pieces.f k x1).bind fun t103 => ((impl_pairs_turned.f k x0 t103 x1 false).bind fun bt106 => ((strings_Join.f bt106.2 (⟨#[]⟩ : ByteArray)).bind fun t112 => (some t112))))
def impl_MapTextIn.f (k : Nat) (l0 : List (S111)) (a1 : ByteArray) : Option (ByteArray) := (impl_MapOk.f l0).bind fun t101 => (if t101 = true then ((impl_TextOk.f a1).bind fun t102 => (impl_MapTextIn.j0 k l0 a1 (!t102))) else (impl_MapTextIn.j0 k l0 a1 true))
set_option maxHeartbeats 8000000 in
set_option maxRecDepth 100000 in
theorem impl_MapTextIn.calls (k : Nat) (A0 : Option Addr) (c0 : Nat) (l0 : List (S111)) (a1 : ByteArray) (r : ByteArray) (w : World) (hr0 : Kd.C k111 w A0 l0.length l0) (hc0 : l0.length ≤ c0) (hV : VarsIn w) (h : impl_MapTextIn.f k l0 a1 = some r) :
  Calls Tryz.prog 28 #[.slice A0 l0.length c0, .string a1] w fun e w' => e = .returned (.string r) ∧ Below w.heap.size w w' := by
 have HR0 := Aside0.mk hr0
 have HC0 := Aside0.mk hc0
 clear hr0 hc0
 have HB := Aside0.mk (Below.refl w.heap.size w)
 have H : ((impl_MapOk.f l0).bind fun t101 => (if t101 = true then ((impl_TextOk.f a1).bind fun t102 => (impl_MapTextIn.j0 k l0 a1 (!t102))) else (impl_MapTextIn.j0 k l0 a1 true))) = some r := h
 clear h
 have HC3 := Aside0.mk H
 clear H
 go_enter Tryz.func28, Tryz.ntmps28
 go_upto_region 1 with (fail)
 go_cut [14] (fun v14 wc => ∃ (kq : Nat) (x14_2 : Bool), v14 = .bool x14_2 ∧ Aside0 (impl_MapTextIn.j0 kq l0 a1 x14_2 = some r) ∧ Aside0 (kq ≤ k) ∧ Aside0 (Below w.heap.size w wc))
 case first =>
  have H := HC3.out; clear HC3; obtain ⟨t101, A4, H⟩ := zH_ H
  by_cases c5 : t101 = true
  ·subst c5; rw [if_pos rfl] at H; obtain ⟨t102, A6, H⟩ := zH_ H; have H' := Aside0.mk H; clear H
   go_wp2_with (first | ((with_reducible refine gate_callee (f := 23) rfl ?_); refine zc_ (some 8) Tryz.func23 #[.slice A0 l0.length c0] ?_; (with_reducible refine (impl_MapOk.calls _ _ l0 true _ ?side1 ?side2 A4.out).mono ?_); (case side1 => exact d5_); (case side2 => exact HC0.out); rintro e w7 ⟨rfl, hb⟩; refine ⟨_, rfl, ?_⟩; replace HB := A_ (below_step (zB_ HB.out) hb); (try clear hb); (try clear hi)) | (go_at_call 67; (with_reducible refine (impl_TextOk.calls a1 t102 _ A6.out).mono ?_); rintro e w8 ⟨rfl, hb⟩; replace HB := A_ (below_step (zB_ HB.out) hb); (try clear hb); (try clear hi)))
   go_meet
   case rel => exact ⟨_, (!t102), zs_, H', ⟨d2_⟩, ⟨d18_⟩⟩
  replace c5 := Bool.eq_false_iff.mpr c5; subst c5; rw [if_neg (show ¬ (false = true) by decide)] at H; have H' := Aside0.mk H; clear H
  go_wp2_with (first | ((with_reducible refine gate_callee (f := 23) rfl ?_); refine zc_ (some 8) Tryz.func23 #[.slice A0 l0.length c0] ?_; (with_reducible refine (impl_MapOk.calls _ _ l0 false _ ?side1 ?side2 A4.out).mono ?_); (case side1 => exact d5_); (case side2 => exact HC0.out); rintro e w9 ⟨rfl, hb⟩; refine ⟨_, rfl, ?_⟩; replace HB := A_ (below_step (zB_ HB.out) hb); (try clear hb); (try clear hi)))
  go_meet
  case rel => exact ⟨_, (true), zs_, H', ⟨d2_⟩, ⟨d18_⟩⟩
 case rest =>
  clear HC3
  try clear c2
  try clear p2
  try clear c5
  obtain ⟨kq, x14_2, rfl, HA, HJ2, HB⟩ := hcut
  cases kq with
  | zero => exact absurd HA.out (by simp [impl_MapTextIn.j0])
  | succ kj2 =>
   have H := HA.out; clear HA; simp only [impl_MapTextIn.j0] at H
   by_cases c10 : x14_2 = true
   ·subst c10; rw [if_pos rfl] at H; obtain rfl := Option.some.inj H
    go_wp2
    go_ret
    exact ⟨d4_, d18_⟩
   replace c10 := Bool.eq_false_iff.mpr c10; subst c10; rw [if_neg (show ¬ (false = true) by decide)] at H; obtain ⟨t103, A11, H⟩ := zH_ H; obtain ⟨⟨t106, t109⟩, A12, H⟩ := zH_ H; dsimp only at H; obtain ⟨t112, A13, H⟩ := zH_ H; obtain rfl := Option.some.inj H
   go_wp2_with (first | ((with_reducible refine gate_callee (f := 78) rfl ?_); refine zc_ (some 18) Tryz.func78 #[.string a1] ?_; (with_reducible refine (impl_pieces.calls kj2 a1 t103 _ ?side1 A11.out).mono ?_); (case side1 => exact hV.next (zB_ HB.out)); rintro e w14 ⟨v104, rfl, ho0, hb⟩; refine ⟨_, rfl, ?_⟩; have HO105 := A_ (Kd.V_lower (Kd.V_mono (ok' := fun k_ => True) ho0 (fun k_ hk_ => trivial)) (below_size (zB_ HB.out))); replace HB := A_ (below_step (zB_ HB.out) hb); (try clear hb); (try clear ho0); obtain ⟨Ao15, co15, eo15⟩ := Kd.V_slice HO105.out; subst eo15) | ((with_reducible refine gate_callee (f := 82) rfl ?_); refine zc_ (some 20) Tryz.func82 #[.slice A0 l0.length c0, .slice Ao15 t103.length co15, .string a1, .bool false] ?_; (with_reducible refine (impl_pairs_turned.calls kj2 (fun k_ => k_ < w.heap.size) _ _ l0 _ _ t103 a1 false t106 t109 _ ?side1 ?side2 ?side3 A12.out).mono ?_); (case side1 => exact Kd.V_mk HC0.out (Kd.F_below (Kd.C_F k111_heap HR0.out) (zB_ HB.out))); (case side2 => exact d37_); (case side3 => exact (Kd.V_reads' HO105.out).2.1); rintro e w16 ⟨v107, v110, rfl, ho0, ho1, hb⟩; refine ⟨_, rfl, ?_⟩; replace HO105 := A_ (Kd.V_elder' (zv_ HO105.out) (Kd.R_base ho1) hb); have HO108 := A_ (Kd.V_lower (Kd.V_mono (ok' := fun k_ => some k_ ≠ (v110 : Value).ownBlock) ho0 (fun k_ hk_ => hk_.2)) (below_size (zB_ HB.out))); have HO111 := A_ (Kd.R_lower (Kd.R_mono (ok' := fun k_ => True) ho1 (fun _ hk_ => trivial)) (below_size (zB_ HB.out))); replace HB := A_ (below_step (zB_ HB.out) hb); (try clear hb); (try clear ho0); (try clear ho1); obtain ⟨Ao17, co17, eo17⟩ := Kd.R_slice HO111.out; subst eo17) | ((with_reducible refine gate_callee (f := 83) rfl ?_); refine zc_ (some 24) Tryz.func83 #[.slice Ao17 t109.length co17, .string (⟨#[]⟩ : ByteArray)] ?_; (with_reducible refine (strings_Join.calls _ _ t109 (⟨#[]⟩ : ByteArray) t112 _ ?side1 ?side2 A13.out).mono ?_); (case side1 => exact d38_); (case side2 => exact (Kd.R_reads' HO111.out).2.1); rintro e w18 ⟨rfl, hb⟩; refine ⟨_, rfl, ?_⟩; replace HO105 := A_ (Kd.V_below (zv_ HO105.out) hb); replace HO108 := A_ (Kd.V_below (zv_ HO108.out) hb); replace HO111 := A_ (Kd.R_below (zR_ HO111.out) hb); replace HB := A_ (below_step (zB_ HB.out) hb); (try clear hb); (try clear hi)))
   go_ret
   exact ⟨d4_, d18_⟩
end
end Go.Proofs.YtfjbjiklohjodaaGreatDoor.Q
namespace Go.Proofs.YtfjbjiklohjodaaGreatDoor.Q
open Go.RowKit Go.Proofs.YtfjbjiklohjodaaGreatDoorW.PrintWords Go.Proofs.YtfjbjiklohjodaaGreatDoorW.PrintMore Go.Proofs.YtfjbjiklohjodaaGreatDoor.Z
set_option linter.unusedVariables false
set_option linter.unusedSimpArgs false
def inP (m : List Pr) (p : Pc) (t : List UInt8) : List UInt8 := if p.named && doorB p.fin then (match l3InO m p.fin.port with | some e => nameOf e | none => t) else t
def outP (m : List Pr) (p : Pc) (t : List UInt8) : List Pr × List UInt8 := if p.named && insideB p.fin then (if (outS m p.fin).2.2 then ((outS m p.fin).1, nameOf ⟨9, (outS m p.fin).2.1⟩) else (m, t)) else (m, t)
def turnI (m : List Pr) (p : Pc) (t : List UInt8) (out : Bool) : List Pr × List UInt8 :=
  if p.named && out && insideB p.fin then (if (outI m p.fin).2.2 then ((outI m p.fin).1, nameOf ⟨9, (outI m p.fin).2.1⟩) else (m, t))
  else if p.named && !out && doorB p.fin then (match insideFrom m p.fin.port 0 with | some e => (m, nameOf e) | none => (m, t))
  else (m, t)
theorem map_pr (m : List Pr) : (m.map prTo).length = m.length := List.length_map _
theorem turn_to (k : Nat) (m : List Pr) (hm : m.length ≤ 1000) (p : Pc) (t : List UInt8) (out : Bool) :
    impl_pairs_turn.f (k + 2) (m.map prTo) p.size p.named p.fin.addr p.fin.port (mkB t) out = some ((turnI m p t out).1.map prTo, mkB (turnI m p t out).2) := by
  unfold impl_pairs_turn.f turnI
  simp only [impl_pairs_turn.j0, impl_pairs_turn.j1, impl_EndInside.f, impl_EndDoor.f, impl_pairs_out.f, impl_pairs_inside.f, impl_name.f, prs_of_to, map_pr, optE]
  rw [if_pos (show m.length ≤ 1099511627776 by omega)]
  have hfin : (⟨p.fin.addr, p.fin.port⟩ : En) = p.fin := rfl
  rw [hfin]
  cases p.named
  · simp
  · cases out
    · cases hd : doorB p.fin
      · simp [hd]
      · cases hi : insideFrom m p.fin.port 0 with
        | none => simp [hd, hi]
        | some e => simp [hd, hi]
    · cases hd : insideB p.fin
      · simp [hd]
      · cases ho : (outI m p.fin).2.2
        · simp [hd, ho]
        · simp [hd, ho]
theorem turnI_out {m : List Pr} (h : mapOkB m = true) (p : Pc) (t : List UInt8) : turnI m p t true = outP m p t := by
  unfold turnI outP
  rw [outI_eq h]
  cases p.named
  · simp
  · cases hd : insideB p.fin <;> simp
theorem turnI_in {m : List Pr} (h : mapOkB m = true) (p : Pc) (t : List UInt8) : turnI m p t false = (m, inP m p t) := by
  unfold turnI inP
  rw [inside_eq (mapOkB_iff.1 h)]
  cases p.named
  · simp
  · cases hd : doorB p.fin
    · simp
    · cases l3InO m p.fin.port <;> simp
theorem nameOf_len (e : En) : (nameOf e).length ≤ 10 := by
  have := endText_len e
  unfold nameOf
  simp
  omega
theorem name_mk (e : En) : (((⟨#[64]⟩ : ByteArray) ++ mkB (endText e)) ++ (⟨#[59]⟩ : ByteArray)) = mkB (nameOf e) := by
  apply ext_bl
  rw [bl_append, bl_append]
  rfl
theorem pieceIn_to (k : Nat) (m : List Pr) (hm : m.length ≤ 1000) (p : Pc) (hp : -9223372036854775808 ≤ p.fin.port ∧ p.fin.port ≤ 9223372036854775807) (t : List UInt8) :
    spec_l3PieceIn.f (k + 1) (m.map prTo) p.size p.named p.fin.addr p.fin.port (mkB t) = some (mkB (inP m p t)) := by
  have hfin : (⟨p.fin.addr, p.fin.port⟩ : En) = p.fin := rfl
  have h3 : spec_l3In.f (m.map prTo) p.fin.port = some (optE (l3InO m p.fin.port)) := by unfold spec_l3In.f; rw [map_pr, if_pos ⟨by omega, hp⟩, prs_of_to]
  unfold spec_l3PieceIn.f inP
  simp only [spec_l3PieceIn.j0, spec_EndDoor.f, spec_EndText.f, h3, optE]
  rw [hfin]
  cases p.named
  · simp
  · cases hd : doorB p.fin
    · simp [hd]
    · cases hi : l3InO m p.fin.port with
      | none => simp [hd, hi]
      | some e =>
        have hl := endText_len e
        have hs : ((⟨#[64]⟩ : ByteArray) ++ mkB (endText e)).size = 1 + (endText e).length := by rw [ByteArray.size_append]; rfl
        have hfe : (⟨e.addr, e.port⟩ : En) = e := rfl
        simp only [hd, hi, Option.bind_some, Bool.not_true, Option.getD_some, Option.isSome_some, if_true, Bool.and_self, Bool.false_eq_true, if_false, hfe]
        rw [if_pos (by show 1 + (endText e).length ≤ _; omega), if_pos (by rw [hs]; omega)]
        rw [name_mk]
def fits : List Pc → List UInt8 → Prop
  | [], _ => True
  | p :: ps, t => 0 ≤ p.size ∧ p.size.toNat ≤ t.length ∧ (0 ≤ p.fin.port ∧ p.fin.port ≤ 100) ∧ fits ps (t.drop p.size.toNat)
def turnAll (out : Bool) : List Pr → List Pc → List UInt8 → List Pr × List (List UInt8)
  | m, [], _ => (m, [])
  | m, p :: ps, t => ((turnAll out (turnI m p (t.take p.size.toNat) out).1 ps (t.drop p.size.toNat)).1, (turnI m p (t.take p.size.toNat) out).2 :: (turnAll out (turnI m p (t.take p.size.toNat) out).1 ps (t.drop p.size.toNat)).2)
def goIn (m : List Pr) : List Pc → List UInt8 → List (List UInt8)
  | [], _ => []
  | p :: ps, t => inP m p (t.take p.size.toNat) :: goIn m ps (t.drop p.size.toNat)
def goOut : List Pr → List Pc → List UInt8 → List Pr × List (List UInt8)
  | m, [], _ => (m, [])
  | m, p :: ps, t => ((goOut (outP m p (t.take p.size.toNat)).1 ps (t.drop p.size.toNat)).1, (outP m p (t.take p.size.toNat)).2 :: (goOut (outP m p (t.take p.size.toNat)).1 ps (t.drop p.size.toNat)).2)
theorem turnAll_in {m : List Pr} (h : mapOkB m = true) : ∀ (ps : List Pc) (t : List UInt8), turnAll false m ps t = (m, goIn m ps t)
  | [], _ => rfl
  | p :: ps, t => by
    have e := turnI_in h p (t.take p.size.toNat)
    show (_, _) = (_, _)
    rw [e, turnAll_in h ps]
    rfl
theorem outP_ok {m : List Pr} (h : mapOkB m = true) (p : Pc) (t : List UInt8) : mapOkB (outP m p t).1 = true := by
  unfold outP
  split
  · rename_i hc
    split
    · rename_i ho
      rw [Bool.and_eq_true] at hc
      exact (mapOut_ok (m := m) (e := p.fin) (L := (outS m p.fin).1) (pt := (outS m p.fin).2.1) (by rw [mapOutF_of h hc.2]; exact Prod.ext rfl (Prod.ext rfl ho))).1
    · exact h
  · exact h
theorem turnAll_out : ∀ (ps : List Pc) (m : List Pr) (t : List UInt8), mapOkB m = true → turnAll true m ps t = goOut m ps t
  | [], _, _, _ => rfl
  | p :: ps, m, t, h => by
    have e := turnI_out h p (t.take p.size.toNat)
    show (_, _) = (_, _)
    rw [e, turnAll_out ps _ _ (outP_ok h _ _)]
theorem turnI_len (m : List Pr) (p : Pc) (t : List UInt8) (out : Bool) : (turnI m p t out).1.length ≤ m.length + 1 ∧ (turnI m p t out).2.length ≤ t.length + 10 := by
  have hs : (outI m p.fin).1.length ≤ m.length + 1 := by
    unfold outI
    split
    · simp
    · split <;> simp
  unfold turnI
  split
  · split
    · exact ⟨hs, by have := nameOf_len ⟨9, (outI m p.fin).2.1⟩; simp only; omega⟩
    · exact ⟨by simp, by simp⟩
  · split
    · split
      · rename_i e _
        exact ⟨by simp, by have := nameOf_len e; simp only; omega⟩
      · exact ⟨by simp, by simp⟩
    · exact ⟨by simp, by simp⟩
theorem rd_pc (ps : List Pc) (i : Nat) (p : Pc) (h : ps[i]? = some p) : rd_T116 (ps.map pcTo) (i : Int) = pcTo p := by
  unfold rd_T116
  rw [Int.toNat_natCast, List.getD_eq_getElem?_getD, List.getElem?_map, h]
  rfl
theorem drop_of {α : Type} {ps : List α} {i : Nat} {p : α} (h : ps[i]? = some p) : ps.drop i = p :: ps.drop (i + 1) := by
  obtain ⟨hi, e⟩ := List.getElem?_eq_some_iff.1 h
  rw [List.drop_eq_getElem_cons hi, e]
theorem ext0 (t : List UInt8) (n : Nat) : (mkB t).extract 0 n = mkB (t.take n) := by
  apply ext_bl
  rw [bl_extract]
  rfl
theorem extE (t : List UInt8) (n : Nat) : (mkB t).extract n t.length = mkB (t.drop n) := by
  apply ext_bl
  rw [bl_extract]
  show (t.drop n).take _ = t.drop n
  rw [List.take_of_length_le (by rw [List.length_drop]; exact Nat.le_refl _)]
theorem extM (t : List UInt8) (a b : Nat) : (mkB t).extract a b = mkB ((t.drop a).take (b - a)) := by
  apply ext_bl
  rw [bl_extract]
theorem turned_l0 (ps : List Pc) (hps : ps.length ≤ 1000) (out : Bool) (n : Nat) : ∀ (k : Nat) (m : List Pr) (ts : List (List UInt8)) (t : List UInt8) (i : Nat), ps.length - i ≤ n → n + 3 < k → i ≤ ps.length → fits (ps.drop i) t →
    t.length ≤ 1000 → m.length + (ps.length - i) ≤ 1000 → ts.length + (ps.length - i) ≤ 1000 →
    impl_pairs_turned.l0 k (m.map prTo) (mkB t) out (ts.map mkB) (ps.map pcTo) ps.length i = some ((turnAll out m (ps.drop i) t).1.map prTo, (ts ++ (turnAll out m (ps.drop i) t).2).map mkB) := by
  induction n with
  | zero =>
    intro k m ts t i hn hk hi hf ht hm hts
    obtain ⟨k, rfl⟩ : ∃ m, k = m + 1 := ⟨k - 1, by omega⟩
    simp only [impl_pairs_turned.l0]
    rw [if_neg (by omega), List.drop_of_length_le (by omega)]
    simp [turnAll]
  | succ n ih =>
    intro k m ts t i hn hk hi hf ht hm hts
    obtain ⟨k, rfl⟩ : ∃ m, k = m + 1 := ⟨k - 1, by omega⟩
    simp only [impl_pairs_turned.l0]
    by_cases hlt : i < ps.length
    · obtain ⟨p, hp⟩ : ∃ p, ps[i]? = some p := ⟨_, List.getElem?_eq_getElem hlt⟩
      rw [drop_of hp] at hf ⊢
      obtain ⟨h0, h1, h2, hf⟩ := hf
      have hsz : (mkB t).size = t.length := rfl
      have hl := turnI_len m p (t.take p.size.toNat) out
      rw [List.length_take] at hl
      have q0 : (i : Int) < (ps.length : Int) := by omega
      have q1 : (0 : Int) ≤ (i : Int) := by omega
      have q2 : p.size ≤ (t.length : Int) := by omega
      have q3 : ts.length < 8796093022208 := by omega
      have hw3 : wrap64 ((i : Int) + 1) = ((i + 1 : Nat) : Int) := by rw [w64 (by omega)]; omega
      have hf0 : (rd_T116 (ps.map pcTo) (i : Int)).f0 = p.size := by rw [rd_pc ps i p hp]; rfl
      have hf1 : (rd_T116 (ps.map pcTo) (i : Int)).f1 = p.named := by rw [rd_pc ps i p hp]; rfl
      have hf2 : (rd_T116 (ps.map pcTo) (i : Int)).f2.f0 = p.fin.addr := by rw [rd_pc ps i p hp]; rfl
      have hf3 : (rd_T116 (ps.map pcTo) (i : Int)).f2.f1 = p.fin.port := by rw [rd_pc ps i p hp]; rfl
      have hT : impl_pairs_turn.f k (m.map prTo) p.size p.named p.fin.addr p.fin.port (mkB (t.take p.size.toNat)) out = some ((turnI m p (t.take p.size.toNat) out).1.map prTo, mkB (turnI m p (t.take p.size.toNat) out).2) := by
        obtain ⟨k2, rfl⟩ : ∃ m, k = m + 2 := ⟨k - 2, by omega⟩
        exact turn_to k2 m (by omega) p _ out
      have hC : strings_Clone.f (mkB (turnI m p (t.take p.size.toNat) out).2) = some (mkB (turnI m p (t.take p.size.toNat) out).2) := by
        unfold strings_Clone.f
        rw [if_pos (by rw [size_mkB]; omega)]
      simp only [hf0, hf1, hf2, hf3, hw3, ext0, hT, hC, Option.bind_some, List.length_map, hsz, size_mkB, extE]
      simp only [q0, q1, q2, q3, h0, if_true]
      clear hf0 hf1 hf2 hf3 hw3 hT hC
      have := ih k (turnI m p (t.take p.size.toNat) out).1 (ts ++ [(turnI m p (t.take p.size.toNat) out).2]) (t.drop p.size.toNat) (i + 1) (by omega) (by omega) (by omega) hf (by rw [List.length_drop]; omega) (by omega) (by rw [List.length_append, List.length_singleton]; omega)
      rw [List.map_append] at this
      refine this.trans ?_
      simp [turnAll]
    · rw [if_neg (by omega), List.drop_of_length_le (by omega)]
      simp [turnAll]
theorem turned_to (k : Nat) (hk : 2000 < k) (m : List Pr) (ps : List Pc) (t : List UInt8) (out : Bool) (hf : fits ps t) (ht : t.length ≤ 500) (hm : m.length ≤ 500) (hp : ps.length ≤ 500) :
    impl_pairs_turned.f k (m.map prTo) (ps.map pcTo) (mkB t) out = some ((turnAll out m ps t).1.map prTo, (turnAll out m ps t).2.map mkB) := by
  unfold impl_pairs_turned.f
  rw [List.length_map, if_pos (by omega), if_pos (by omega)]
  have := turned_l0 ps (by omega) out 1000 k m [] t 0 (by omega) (by omega) (by omega) (by rw [List.drop_zero]; exact hf) (by omega) (by omega) (by simp; omega)
  rw [List.drop_zero, List.nil_append] at this
  exact this
theorem pieceAt_port {l : List UInt8} : 0 ≤ (pieceAt l).fin.port ∧ (pieceAt l).fin.port ≤ 100 := by
  unfold pieceAt
  cases h : nm l with
  | none => exact ⟨by decide, by decide⟩
  | some e =>
    have ha := (nm_some h).1
    simp only [anyB, insideB, outsideB, doorB, inB, Bool.or_eq_true, Bool.and_eq_true, decide_eq_true_eq, beq_iff_eq] at ha
    simp only
    omega
theorem fits_pcL : ∀ (n : Nat) (l r : List UInt8), l.length ≤ n → fits (pcL l) (l ++ r) := by
  intro n
  induction n with
  | zero => intro l r h; obtain rfl := List.length_eq_zero_iff.1 (Nat.le_zero.1 h); exact trivial
  | succ n ih =>
    intro l r h
    by_cases hl : l = []
    · subst hl; exact trivial
    · have hp := pieceAt_size hl
      rw [pcL_cons hl]
      refine ⟨by omega, by rw [List.length_append]; omega, pieceAt_port, ?_⟩
      rw [List.drop_append_of_le_length hp.2]
      exact ih _ _ (by rw [List.length_drop]; omega)
theorem fits_body (l : List UInt8) : fits (pcL (body l)) l := by
  have := fits_pcL (body l).length (body l) (l.drop (l.length - heldN l)) (Nat.le_refl _)
  rwa [show body l ++ l.drop (l.length - heldN l) = l from List.take_append_drop _ _] at this
theorem body_len (l : List UInt8) : (body l).length ≤ l.length := by unfold body; rw [List.length_take]; omega
theorem join_nil : ∀ xs : List (List UInt8), Go.Lib.join xs [] = xs.flatten
  | [] => rfl
  | [x] => by simp [Go.Lib.join]
  | x :: y :: xs => by
    have h := join_nil (y :: xs)
    unfold Go.Lib.join at h ⊢
    have h2 : List.intercalate ([] : List UInt8) (x :: y :: xs) = x ++ List.intercalate [] (y :: xs) := by simp [List.intercalate, List.intersperse]
    rw [h2, h]
    simp
theorem turnAll_len (out : Bool) : ∀ (ps : List Pc) (m : List Pr) (t : List UInt8), t.length ≤ 1000 → (turnAll out m ps t).2.flatten.length ≤ 1010 * ps.length ∧ (turnAll out m ps t).2.length = ps.length ∧ (turnAll out m ps t).1.length ≤ m.length + ps.length
  | [], _, _, _ => by simp [turnAll]
  | p :: ps, m, t, h => by
    have h1 := turnAll_len out ps (turnI m p (t.take p.size.toNat) out).1 (t.drop p.size.toNat) (by rw [List.length_drop]; omega)
    have h2 := turnI_len m p (t.take p.size.toNat) out
    rw [List.length_take] at h2
    simp only [turnAll, List.flatten_cons, List.length_append, List.length_cons]
    omega
theorem joinB_map (xs : List (List UInt8)) : joinB (xs.map mkB) (⟨#[]⟩ : ByteArray) = xs.flatten := by
  unfold joinB
  rw [List.map_map]
  have : ((fun x : ByteArray => x.data.toList) ∘ mkB) = id := by funext x; rfl
  rw [this, List.map_id]
  exact join_nil xs
noncomputable def mapIn (m : List Pr) (l : List UInt8) : List UInt8 := if mapOkB m && textOk l then (goIn m (pcL (body l)) l).flatten else []
noncomputable def mapOutT (m : List Pr) (l : List UInt8) : List Pr × List UInt8 := if mapOkB m && textOk l then ((goOut m (pcL (body l)) l).1, (goOut m (pcL (body l)) l).2.flatten) else ([], [])
theorem textOk_len {l : List UInt8} (h : textOk l = true) : l.length ≤ 40 := by
  unfold textOk at h
  rw [Bool.and_eq_true, decide_eq_true_iff] at h
  omega
theorem mapOk_len {m : List Pr} (h : mapOkB m = true) : m.length ≤ 8 := (mapOkB_iff.1 h).2
theorem impl_MapTextIn_to (k : Nat) (hk : 3000 < k) (m : List Pr) (hm : m.length ≤ 1099511627776) (l : List UInt8) (hl : l.length ≤ 140737488355328) : impl_MapTextIn.f k (m.map prTo) (mkB l) = some (mkB (mapIn m l)) := by
  obtain ⟨k, rfl⟩ : ∃ m, k = m + 1 := ⟨k - 1, by omega⟩
  unfold impl_MapTextIn.f impl_MapOk.f impl_TextOk.f mapIn
  rw [map_pr, if_pos hm, prs_of_to, Option.bind_some, size_mkB, if_pos hl, bl_of]
  simp only [impl_MapTextIn.j0]
  cases h1 : mapOkB m
  · simp
  · cases h2 : textOk l
    · simp
    · have hl2 := textOk_len h2
      have hm2 := mapOk_len h1
      have hp := pcL_len (body l).length (body l) (Nat.le_refl _)
      have hb := body_len l
      have hT := turnAll_len false (pcL (body l)) m l (by omega)
      rw [turnAll_in h1] at hT
      simp only [Bool.and_self, if_true, Option.bind_some, Bool.not_true, Bool.false_eq_true, if_false]
      rw [impl_pieces_to k l (by omega) (by omega), Option.bind_some, turned_to k (by omega) m _ l false (fits_body l) (by omega) (by omega) (by omega), Option.bind_some, turnAll_in h1]
      unfold strings_Join.f
      rw [joinB_map, if_pos ⟨by rw [List.length_map]; omega, by omega⟩]
      rfl
end Go.Proofs.YtfjbjiklohjodaaGreatDoor.Q
namespace Go.Proofs.YtfjbjiklohjodaaGreatDoor.Q
open Go.RowKit Go.Proofs.YtfjbjiklohjodaaGreatDoorW.PrintWords Go.Proofs.YtfjbjiklohjodaaGreatDoorW.PrintLast Go.Proofs.YtfjbjiklohjodaaGreatDoorW.PrintMore
attribute [local go_sem] max2_int min2_int max_two min_two max_three min_three max_four min_four
set_option linter.unusedVariables false
set_option linter.unusedSimpArgs false
noncomputable section
def impl_pairs_copied.f (l0 : List (S111)) : Option ((List (S111))) := (slices_Clone_Pair.f l0).bind fun t101 => ((slices_Clip_Pair.f t101).bind fun t104 => (some t104))
set_option maxHeartbeats 8000000 in
set_option maxRecDepth 100000 in
theorem impl_pairs_copied.calls (A0 : Option Addr) (c0 : Nat) (l0 : List (S111)) (r : List (S111)) (w : World) (hr0 : Kd.C k111 w A0 l0.length l0) (hc0 : l0.length ≤ c0) (h : impl_pairs_copied.f l0 = some r) :
  Calls Tryz.prog 70 #[.slice A0 l0.length c0] w fun e w' => ∃ v0_ : Value, e = .returned (v0_) ∧ Kd.V k111 111 w' w.heap.size (fun k_ => (w.heap.size ≤ k_)) v0_ r ∧ Below w.heap.size w w' := by
 have HR0 := Aside0.mk hr0
 have HC0 := Aside0.mk hc0
 clear hr0 hc0
 have HB := Aside0.mk (Below.refl w.heap.size w)
 have H : ((slices_Clone_Pair.f l0).bind fun t101 => ((slices_Clip_Pair.f t101).bind fun t104 => (some t104))) = some r := h
 clear h
 obtain ⟨t101, A2, H⟩ := zH_ H
 obtain ⟨t104, A3, H⟩ := zH_ H
 obtain rfl := Option.some.inj H
 go_enter Tryz.func70, Tryz.ntmps70
 go_wp2_with (first | ((with_reducible refine gate_callee (f := 128) rfl ?_); refine zc_ (some 4) Tryz.func128 #[.slice A0 l0.length c0] ?_; (with_reducible refine (slices_Clone_Pair.calls _ _ l0 t101 _ ?side1 ?side2 A2.out).mono ?_); (case side1 => repeat (first | exact HR0.out | (with_reducible refine Kd.C_alloc ?_ _) | (with_reducible refine Kd.C_drewN ?_ _) | (with_reducible refine Kd.C_drew ?_))); (case side2 => exact HC0.out); rintro e w4 ⟨v102, rfl, ho0, hb⟩; refine ⟨_, rfl, ?_⟩; have HO103 := A_ (Kd.R_lower (Kd.R_newM (M := fun k_ => (w.heap.size ≤ k_)) ho0 (below_size (zB_ HB.out)) (fun k_ h_ => h_)) (below_size (zB_ HB.out))); replace HB := A_ (below_step (zB_ HB.out) hb); (try clear hb); (try clear ho0); obtain ⟨Ao5, co5, eo5⟩ := Kd.R_slice HO103.out; subst eo5) | ((with_reducible refine gate_callee (f := 127) rfl ?_); refine zc_ (some 5) Tryz.func127 #[.slice Ao5 t101.length co5] ?_; (with_reducible refine (slices_Clip_Pair.calls (fun k_ => some k_ = (.slice Ao5 t101.length co5 : Value).ownBlock) _ _ t101 t104 _ ?side1 A3.out).mono ?_); (case side1 => exact Kd.R_V (Kd.R_tight rfl (HO103.out))); rintro e w6 ⟨v105, rfl, ho0, hb⟩; refine ⟨_, rfl, ?_⟩; have HO106 := A_ (Kd.V_lower (Kd.V_mono (ok' := fun k_ => (w.heap.size ≤ k_)) ho0 (fun k_ hk_ => Or.elim hk_ (fun hs_ => ((HO103.out).1 k_ hs_.symm).1) (fun hn_ => (Nat.le_trans (below_size (zB_ HB.out)) hn_)))) (below_size (zB_ HB.out))); replace HO103 := A_ (Kd.R_below (zR_ HO103.out) hb); replace HB := A_ (below_step (zB_ HB.out) hb); (try clear hb); (try clear ho0)))
 go_ret
 exact ⟨_, d4_, by (with_reducible repeat (first | apply Kd.V_alloc | apply Kd.V_drewN | apply Kd.V_drew)); exact HO106.out, d18_⟩
end
end Go.Proofs.YtfjbjiklohjodaaGreatDoor.Q
namespace Go.Proofs.YtfjbjiklohjodaaGreatDoor.Q
open Go.RowKit Go.Proofs.YtfjbjiklohjodaaGreatDoorW.PrintWords Go.Proofs.YtfjbjiklohjodaaGreatDoorW.PrintLast Go.Proofs.YtfjbjiklohjodaaGreatDoorW.PrintMore Go.Proofs.YtfjbjiklohjodaaGreatDoor.Z
attribute [local go_sem] max2_int min2_int max_two min_two max_three min_three max_four min_four
set_option linter.unusedVariables false
set_option linter.unusedSimpArgs false
noncomputable section
def impl_MapTextOut.j0 : Nat → List (S111) → ByteArray → Bool → Option ((List (S111)) × ByteArray)
 | 0, _, _, _ => none
 | k + 1, x0, x1, x15 => if x15 = true then (some (([] : List (S111)), (⟨#[]⟩ : ByteArray))) else ((impl_pieces.f k x1).bind fun t103 => ((impl_pairs_turned.f k x0 t103 x1 true).bind fun bt106 => ((impl_pairs_copied.f bt106.1).bind fun t112 => ((strings_Join.f bt106.2 (⟨#[]⟩ : ByteArray)).bind fun t115 => (some (t112, t115))))))
def impl_MapTextOut.f (k : Nat) (l0 : List (S111)) (a1 : ByteArray) : Option ((List (S111)) × ByteArray) := (impl_MapOk.f l0).bind fun t101 => (if t101 = true then ((impl_TextOk.f a1).bind fun t102 => (impl_MapTextOut.j0 k l0 a1 (!t102))) else (impl_MapTextOut.j0 k l0 a1 true))
set_option maxHeartbeats 8000000 in
set_option maxRecDepth 100000 in
theorem impl_MapTextOut.calls (k : Nat) (P0_ : Nat → Prop) (A0 : Option Addr) (c0 : Nat) (l0 : List (S111)) (a1 : ByteArray) (r1 : List (S111)) (r2 : ByteArray) (w : World) (hs0 : Kd.V k111 111 w w.heap.size (fun k_ => P0_ k_) (.slice A0 l0.length c0) l0) (hV : VarsIn w) (h : impl_MapTextOut.f k l0 a1 = some (r1, r2)) :
  Calls Tryz.prog 29 #[.slice A0 l0.length c0, .string a1] w fun e w' => ∃ v0_ : Value, e = .returned (.tuple #[v0_, .string r2]) ∧ Kd.V k111 111 w' w.heap.size (fun k_ => (P0_ k_ ∨ w.heap.size ≤ k_)) v0_ r1 ∧ Below w.heap.size w w' := by
 have HO0 := Aside0.mk (show Kd.V k111 111 w w.heap.size (fun k_ => (P0_ k_ ∨ w.heap.size ≤ k_)) (.slice A0 l0.length c0) l0 from Kd.V_mono hs0 (fun k_ hk => .inl hk))
 have HB := Aside0.mk (Below.refl w.heap.size w)
 have H : ((impl_MapOk.f l0).bind fun t101 => (if t101 = true then ((impl_TextOk.f a1).bind fun t102 => (impl_MapTextOut.j0 k l0 a1 (!t102))) else (impl_MapTextOut.j0 k l0 a1 true))) = some (r1, r2) := h
 clear h
 have HC3 := Aside0.mk H
 clear H
 go_enter Tryz.func29, Tryz.ntmps29
 go_upto_region 1 with (fail)
 go_cut [15] (fun v15 wc => ∃ (kq : Nat) (x15_2 : Bool), v15 = .bool x15_2 ∧ Aside0 (impl_MapTextOut.j0 kq l0 a1 x15_2 = some (r1, r2)) ∧ Aside0 (kq ≤ k) ∧ Aside0 (Kd.V k111 111 wc w.heap.size (fun k_ => (P0_ k_ ∨ w.heap.size ≤ k_)) (.slice A0 l0.length c0) l0) ∧ Aside0 (Below w.heap.size w wc))
 case first =>
  have H := HC3.out; clear HC3; obtain ⟨t101, A4, H⟩ := zH_ H
  by_cases c5 : t101 = true
  ·subst c5; rw [if_pos rfl] at H; obtain ⟨t102, A6, H⟩ := zH_ H; have H' := Aside0.mk H; clear H
   go_wp2_with (first | ((with_reducible refine gate_callee (f := 23) rfl ?_); refine zc_ (some 9) Tryz.func23 #[.slice A0 l0.length c0] ?_; (with_reducible refine (impl_MapOk.calls _ _ l0 true _ ?side1 ?side2 A4.out).mono ?_); (case side1 => exact d39_); (case side2 => exact d40_); rintro e w7 ⟨rfl, hb⟩; refine ⟨_, rfl, ?_⟩; replace HO0 := A_ (Kd.V_below (zv_ HO0.out) hb); replace HB := A_ (below_step (zB_ HB.out) hb); (try clear hb); (try clear hi)) | (go_at_call 67; (with_reducible refine (impl_TextOk.calls a1 t102 _ A6.out).mono ?_); rintro e w8 ⟨rfl, hb⟩; replace HO0 := A_ (Kd.V_below (zv_ HO0.out) hb); replace HB := A_ (below_step (zB_ HB.out) hb); (try clear hb); (try clear hi)))
   go_meet
   case rel => exact ⟨_, (!t102), zs_, H', ⟨d2_⟩, ⟨d30_⟩, ⟨d18_⟩⟩
  replace c5 := Bool.eq_false_iff.mpr c5; subst c5; rw [if_neg (show ¬ (false = true) by decide)] at H; have H' := Aside0.mk H; clear H
  go_wp2_with (first | ((with_reducible refine gate_callee (f := 23) rfl ?_); refine zc_ (some 9) Tryz.func23 #[.slice A0 l0.length c0] ?_; (with_reducible refine (impl_MapOk.calls _ _ l0 false _ ?side1 ?side2 A4.out).mono ?_); (case side1 => exact d39_); (case side2 => exact d40_); rintro e w9 ⟨rfl, hb⟩; refine ⟨_, rfl, ?_⟩; replace HO0 := A_ (Kd.V_below (zv_ HO0.out) hb); replace HB := A_ (below_step (zB_ HB.out) hb); (try clear hb); (try clear hi)))
  go_meet
  case rel => exact ⟨_, (true), zs_, H', ⟨d2_⟩, ⟨d30_⟩, ⟨d18_⟩⟩
 case rest =>
  clear HC3
  try clear c2
  try clear p2
  try clear c5
  obtain ⟨kq, x15_2, rfl, HA, HJ2, HO_0, HB⟩ := hcut
  cases kq with
  | zero => exact absurd HA.out (by simp [impl_MapTextOut.j0])
  | succ kj2 =>
   have H := HA.out; clear HA; simp only [impl_MapTextOut.j0] at H
   by_cases c10 : x15_2 = true
   ·subst c10; rw [if_pos rfl] at H; simp only [Option.some.injEq, Prod.mk.injEq] at H; obtain ⟨rfl, rfl⟩ := H
    go_wp2
    go_ret2
    exact ⟨_, d4_, (Kd.V_nil _ _ _ _ _), d18_⟩
   replace c10 := Bool.eq_false_iff.mpr c10; subst c10; rw [if_neg (show ¬ (false = true) by decide)] at H; obtain ⟨t103, A11, H⟩ := zH_ H; obtain ⟨⟨t106, t109⟩, A12, H⟩ := zH_ H; dsimp only at H; obtain ⟨t112, A13, H⟩ := zH_ H; obtain ⟨t115, A14, H⟩ := zH_ H; simp only [Option.some.injEq, Prod.mk.injEq] at H; obtain ⟨rfl, rfl⟩ := H
   go_wp2_with (first | ((with_reducible refine gate_callee (f := 78) rfl ?_); refine zc_ (some 19) Tryz.func78 #[.string a1] ?_; (with_reducible refine (impl_pieces.calls kj2 a1 t103 _ ?side1 A11.out).mono ?_); (case side1 => exact hV.next (zB_ HB.out)); rintro e w15 ⟨v104, rfl, ho0, hb⟩; refine ⟨_, rfl, ?_⟩; replace HO_0 := A_ (Kd.V_below (zv_ HO_0.out) hb); have HO105 := A_ (Kd.V_lower (Kd.V_mono (ok' := fun k_ => (P0_ k_ ∨ w.heap.size ≤ k_)) ho0 (fun k_ hk_ => (.inr (Nat.le_trans (below_size (zB_ HB.out)) hk_)))) (below_size (zB_ HB.out))); replace HB := A_ (below_step (zB_ HB.out) hb); (try clear hb); (try clear ho0); obtain ⟨Ao16, co16, eo16⟩ := Kd.V_slice HO105.out; subst eo16) | ((with_reducible refine gate_callee (f := 82) rfl ?_); refine zc_ (some 21) Tryz.func82 #[.slice A0 l0.length c0, .slice Ao16 t103.length co16, .string a1, .bool true] ?_; (with_reducible refine (impl_pairs_turned.calls kj2 (fun k_ => (P0_ k_ ∨ w.heap.size ≤ k_)) _ _ l0 _ _ t103 a1 true t106 t109 _ ?side1 ?side2 ?side3 A12.out).mono ?_); (case side1 => exact HO_0.out); (case side2 => exact d37_); (case side3 => exact (Kd.V_reads' HO105.out).2.1); rintro e w17 ⟨v107, v110, rfl, ho0, ho1, hb⟩; refine ⟨_, rfl, ?_⟩; replace HO_0 := A_ (Kd.V_elder' (zv_ HO_0.out) (Kd.R_base ho1) hb); replace HO105 := A_ (Kd.V_elder' (zv_ HO105.out) (Kd.R_base ho1) hb); have HO108 := A_ (Kd.V_lower (Kd.V_mono (ok' := fun k_ => (P0_ k_ ∨ w.heap.size ≤ k_) ∧ some k_ ≠ (v110 : Value).ownBlock) ho0 (fun k_ hk_ => ⟨Or.elim hk_.1 (fun hs_ => hs_) (fun hn_ => (.inr (Nat.le_trans (below_size (zB_ HB.out)) hn_))), hk_.2⟩)) (below_size (zB_ HB.out))); have HO111 := A_ (Kd.R_lower (Kd.R_newM (M := fun k_ => (w.heap.size ≤ k_)) (Kd.R_mono (ok' := fun k_ => True) ho1 (fun _ hk_ => trivial)) (below_size (zB_ HB.out)) (fun k_ h_ => h_)) (below_size (zB_ HB.out))); replace HB := A_ (below_step (zB_ HB.out) hb); (try clear hb); (try clear ho0); (try clear ho1); obtain ⟨Ao18, co18, eo18⟩ := Kd.V_slice HO108.out; subst eo18) | ((with_reducible refine gate_callee (f := 70) rfl ?_); refine zc_ (some 25) Tryz.func70 #[.slice Ao18 t106.length co18] ?_; (with_reducible refine (impl_pairs_copied.calls _ _ t106 t112 _ ?side1 ?side2 A13.out).mono ?_); (case side1 => repeat (first | exact (Kd.V_reads' HO108.out).2.2 | (with_reducible refine Kd.C_alloc ?_ _) | (with_reducible refine Kd.C_drewN ?_ _) | (with_reducible refine Kd.C_drew ?_))); (case side2 => exact (Kd.V_reads' HO108.out).2.1); rintro e w19 ⟨v113, rfl, ho0, hb⟩; refine ⟨_, rfl, ?_⟩; replace HO_0 := A_ (Kd.V_below (zv_ HO_0.out) hb); replace HO105 := A_ (Kd.V_below (zv_ HO105.out) hb); replace HO108 := A_ (Kd.V_below (zv_ HO108.out) hb); have HO114 := A_ (Kd.V_lower (Kd.V_mono (ok' := fun k_ => (P0_ k_ ∨ w.heap.size ≤ k_) ∧ some k_ ≠ (v110 : Value).ownBlock) ho0 (fun k_ hk_ => ⟨(.inr (Nat.le_trans (below_size (zB_ HB.out)) hk_)), (Kd.fresh' (Kd.R_lt (zR_ HO111.out)) k_ hk_)⟩)) (below_size (zB_ HB.out))); replace HO111 := A_ (Kd.R_below (zR_ HO111.out) hb); replace HB := A_ (below_step (zB_ HB.out) hb); (try clear hb); (try clear ho0); obtain ⟨Ao20, co20, eo20⟩ := Kd.R_slice HO111.out; subst eo20) | ((with_reducible refine gate_callee (f := 83) rfl ?_); refine zc_ (some 27) Tryz.func83 #[.slice Ao20 t109.length co20, .string (⟨#[]⟩ : ByteArray)] ?_; (with_reducible refine (strings_Join.calls _ _ t109 (⟨#[]⟩ : ByteArray) t115 _ ?side1 ?side2 A14.out).mono ?_); (case side1 => exact d38_); (case side2 => exact (Kd.R_reads' HO111.out).2.1); rintro e w21 ⟨rfl, hb⟩; refine ⟨_, rfl, ?_⟩; replace HO_0 := A_ (Kd.V_below (zv_ HO_0.out) hb); replace HO105 := A_ (Kd.V_below (zv_ HO105.out) hb); replace HO108 := A_ (Kd.V_below (zv_ HO108.out) hb); replace HO111 := A_ (Kd.R_below (zR_ HO111.out) hb); replace HO114 := A_ (Kd.V_below (zv_ HO114.out) hb); replace HB := A_ (below_step (zB_ HB.out) hb); (try clear hb); (try clear hi)))
   go_ret2
   exact ⟨_, d4_, by (with_reducible repeat (first | apply Kd.V_alloc | apply Kd.V_drewN | apply Kd.V_drew)); exact Kd.V_mono HO114.out (fun _ hk => hk.1), d18_⟩
end
end Go.Proofs.YtfjbjiklohjodaaGreatDoor.Q
namespace Go.Proofs.YtfjbjiklohjodaaGreatDoor.Q
open Go.RowKit Go.Proofs.YtfjbjiklohjodaaGreatDoorW.PrintWords Go.Proofs.YtfjbjiklohjodaaGreatDoorW.PrintLast Go.Proofs.YtfjbjiklohjodaaGreatDoorW.PrintMore
attribute [local go_sem] max2_int min2_int max_two min_two max_three min_three max_four min_four
set_option linter.unusedVariables false
set_option linter.unusedSimpArgs false
noncomputable section
theorem eqA62 (d : Nat) (w : World) (x0 y0 : Int) (x1 y1 : Int) :
    (Op.equalIn (d + 2) 62 (.agg #[.int .i64 x0, .int .i64 x1]) (.agg #[.int .i64 y0, .int .i64 y1])).run Tryz.prog w = .ok (x0 == y0 && (x1 == y1)) w := by
  refine eqA_of Tryz.underlying62 (by kernel_rfl) ?_
  refine eqf_cons (by rfl) (by go_simp; rfl) (by go_simp; rfl) (by go_simp) ?_
  exact eqf_last (by rfl) (by go_simp; rfl) (by go_simp; rfl) (by go_simp)
end
end Go.Proofs.YtfjbjiklohjodaaGreatDoor.Q
namespace Go.Proofs.YtfjbjiklohjodaaGreatDoor.Q
open Go.RowKit Go.Proofs.YtfjbjiklohjodaaGreatDoorW.PrintWords Go.Proofs.YtfjbjiklohjodaaGreatDoorW.PrintLast Go.Proofs.YtfjbjiklohjodaaGreatDoorW.PrintMore
attribute [local go_sem] max2_int min2_int max_two min_two max_three min_three max_four min_four
set_option linter.unusedVariables false
set_option linter.unusedSimpArgs false
noncomputable section
theorem eqA111 (d : Nat) (w : World) (x0 y0 : Int) (x1 y1 : Int) (x2 y2 : Int) :
    (Op.equalIn (d + 3) 111 (.agg #[.int .i64 x0, .int .i64 x1, .int .i64 x2]) (.agg #[.int .i64 y0, .int .i64 y1, .int .i64 y2])).run Tryz.prog w = .ok (x0 == y0 && ((x1 == y1 && (x2 == y2)))) w := by
  refine eqA_of Tryz.underlying111 (by kernel_rfl) ?_
  refine eqf_cons (by rfl) (by go_simp; rfl) (by go_simp; rfl) (by go_simp) ?_
  exact eqf_last (by rfl) (by go_simp) (by go_simp) (eqA62 (d + 0) w _ _ _ _)
end
end Go.Proofs.YtfjbjiklohjodaaGreatDoor.Q
namespace Go.Proofs.YtfjbjiklohjodaaGreatDoor.Q
open Go.RowKit Go.Proofs.YtfjbjiklohjodaaGreatDoorW.PrintWords Go.Proofs.YtfjbjiklohjodaaGreatDoorW.PrintLast Go.Proofs.YtfjbjiklohjodaaGreatDoorW.PrintMore
attribute [local go_sem] max2_int min2_int max_two min_two max_three min_three max_four min_four
set_option linter.unusedVariables false
set_option linter.unusedSimpArgs false
noncomputable section
attribute [local go_sem high] eqA111
def laws_lzMap.l0 : Nat → List (S111) → List (S111) → Int → Option (Bool)
 | 0, _, _, _ => none
 | k + 1, x0, x1, x5 => if x5 < (x0.length : Int) then (if 0 ≤ x5 then (if x5 < (x1.length : Int) then (if (!(((rd_T111 x0 x5).f0) == ((rd_T111 x1 x5).f0)) || ((!(((rd_T111 x0 x5).f1.f0) == ((rd_T111 x1 x5).f1.f0)) || (!(((rd_T111 x0 x5).f1.f1) == ((rd_T111 x1 x5).f1.f1)))))) = true then (some false) else (laws_lzMap.l0 k x0 x1 (wrap64 (x5 + 1)))) else (none)) else (none)) else (some true)
def laws_lzMap.f (k : Nat) (l0 : List (S111)) (l1 : List (S111)) : Option (Bool) := if (l0.length : Int) = (l1.length : Int) then (laws_lzMap.l0 k l0 l1 0) else (some false)
set_option maxHeartbeats 8000000 in
set_option maxRecDepth 100000 in
theorem laws_lzMap.calls (k : Nat) (A0 : Option Addr) (c0 : Nat) (l0 : List (S111)) (A1 : Option Addr) (c1 : Nat) (l1 : List (S111)) (r : Bool) (w : World) (hr0 : Kd.C k111 w A0 l0.length l0) (hc0 : l0.length ≤ c0) (hr1 : Kd.C k111 w A1 l1.length l1) (hc1 : l1.length ≤ c1) (h : laws_lzMap.f k l0 l1 = some r) :
  Calls Tryz.prog 19 #[.slice A0 l0.length c0, .slice A1 l1.length c1] w fun e w' => e = .returned (.bool r) ∧ Drawn0 w w' := by
 have hu111 := Tryz.underlying111
 have HR0 := Aside0.mk hr0
 have HC0 := Aside0.mk hc0
 clear hr0 hc0
 have HR1 := Aside0.mk hr1
 have HC1 := Aside0.mk hc1
 clear hr1 hc1
 have H : (if (l0.length : Int) = (l1.length : Int) then (laws_lzMap.l0 k l0 l1 0) else (some false)) = some r := h
 clear h
 by_cases c3 : (l0.length : Int) = (l1.length : Int)
 ·rw [if_pos c3] at H; have c3b0 : ((l0.length : Int) == (l1.length : Int)) = true := beq_iff_eq.mpr c3; have c3b1 : ((l0.length : Int) != (l1.length : Int)) = false := bne_eq_false_iff_eq.mpr c3
  have c3b2 : (l0.length == l1.length) = true := by first | simpa using c3 | (simp at c3 ⊢; omega)
  clear c3; have H' := Aside0.mk H; clear H
  go_enter Tryz.func19, Tryz.ntmps19
  go_wp2
  repeat (go_quiet (fail); try go_wp2)
  go_loopg [5] k (fun kq v5 w' => ∃ (x5_1 : Int), v5 = .int .i64 x5_1 ∧ Aside0 (laws_lzMap.l0 kq l0 l1 x5_1 = some r) ∧ Aside0 (kq ≤ k) ∧ Drawn0 w w')
  case atStart => exact ⟨(0), zs_, H', ⟨Nat.le_refl _⟩, d41_⟩
  case round =>
   clear H'
   try clear c1
   try clear p2
   try clear c3
   try clear c3b0
   try clear c3b1
   try clear c3b2
   obtain ⟨x5_1, rfl, HA, HK1, ⟨m1, rfl⟩⟩ := hrel
   cases gk with
   | zero => exact absurd HA.out (by simp [laws_lzMap.l0])
   | succ k1 =>
    have H := HA.out; clear HA; simp only [laws_lzMap.l0] at H
    by_cases c4 : x5_1 < (l0.length : Int)
    ·rw [if_pos c4] at H; have c4b0 : decide (x5_1 < (l0.length : Int)) = true := decide_eq_true c4; clear c4
     by_cases c5 : 0 ≤ x5_1
     ·rw [if_pos c5] at H; have c5b0 : decide (0 ≤ x5_1) = true := decide_eq_true c5; clear c5
      by_cases c6 : x5_1 < (l1.length : Int)
      ·rw [if_pos c6] at H; have c6b0 : decide (x5_1 < (l1.length : Int)) = true := decide_eq_true c6; clear c6
       by_cases c7 : (!(((rd_T111 l0 x5_1).f0) == ((rd_T111 l1 x5_1).f0)) || ((!(((rd_T111 l0 x5_1).f1.f0) == ((rd_T111 l1 x5_1).f1.f0)) || (!(((rd_T111 l0 x5_1).f1.f1) == ((rd_T111 l1 x5_1).f1.f1)))))) = true
       ·rw [if_pos c7] at H; have c7b0 : (!(((rd_T111 l0 x5_1).f0) == ((rd_T111 l1 x5_1).f0)) || ((!(((rd_T111 l0 x5_1).f1.f0) == ((rd_T111 l1 x5_1).f1.f0)) || (!(((rd_T111 l0 x5_1).f1.f1) == ((rd_T111 l1 x5_1).f1.f1)))))) = true := c7; clear c7; obtain rfl := Option.some.inj H; have p101 : 0 ≤ (x5_1 : Int) := of_decide_eq_true d11_; have q101 : x5_1 < (l0.length : Int) := of_decide_eq_true d11_; obtain ⟨ad101, e101, hx101_0, hx101_1, hx101_2⟩ := at_T111 HR0.out x5_1 p101 q101
        cases e101
        replace p101 := eq_true p101; replace q101 := eq_true q101; have p102 : 0 ≤ (x5_1 : Int) := of_decide_eq_true d11_; have q102 : x5_1 < (l1.length : Int) := of_decide_eq_true d11_; obtain ⟨ad102, e102, hx102_0, hx102_1, hx102_2⟩ := at_T111 HR1.out x5_1 p102 q102
        cases e102
        replace p102 := eq_true p102; replace q102 := eq_true q102
        go_wp2
        repeat (go_quiet (fail); try go_wp2)
        go_ret
        exact ⟨d42_, d41_⟩
       rw [if_neg c7] at H
       have c7b0 : (!(((rd_T111 l0 x5_1).f0) == ((rd_T111 l1 x5_1).f0)) || ((!(((rd_T111 l0 x5_1).f1.f0) == ((rd_T111 l1 x5_1).f1.f0)) || (!(((rd_T111 l0 x5_1).f1.f1) == ((rd_T111 l1 x5_1).f1.f1)))))) = false := by simpa using c7
       clear c7; have H' := Aside0.mk H; clear H; have p101 : 0 ≤ (x5_1 : Int) := of_decide_eq_true d11_; have q101 : x5_1 < (l0.length : Int) := of_decide_eq_true d11_; obtain ⟨ad101, e101, hx101_0, hx101_1, hx101_2⟩ := at_T111 HR0.out x5_1 p101 q101
       cases e101
       replace p101 := eq_true p101; replace q101 := eq_true q101; have p102 : 0 ≤ (x5_1 : Int) := of_decide_eq_true d11_; have q102 : x5_1 < (l1.length : Int) := of_decide_eq_true d11_; obtain ⟨ad102, e102, hx102_0, hx102_1, hx102_2⟩ := at_T111 HR1.out x5_1 p102 q102
       cases e102
       replace p102 := eq_true p102; replace q102 := eq_true q102
       go_wp2
       repeat (go_quiet (fail); try go_wp2)
       go_roundg k1
       case measure => have := HK1.out; omega
       case rel => exact ⟨(wrap64 (x5_1 + 1)), zs_, H', ⟨d23_⟩, d41_⟩
      rw [if_neg c6] at H; exact absurd H (by simp)
     rw [if_neg c5] at H; exact absurd H (by simp)
    rw [if_neg c4] at H; have c4b0 : decide (x5_1 < (l0.length : Int)) = false := decide_eq_false c4; clear c4; obtain rfl := Option.some.inj H
    go_wp2
    repeat (go_quiet (fail); try go_wp2)
    go_ret
    exact ⟨d42_, d41_⟩
 rw [if_neg c3] at H
 have c3b0 : ((l0.length : Int) == (l1.length : Int)) = false := beq_eq_false_iff_ne.mpr c3
 have c3b1 : ((l0.length : Int) != (l1.length : Int)) = true := bne_iff_ne.mpr c3
 have c3b2 : (l0.length == l1.length) = false := by first | simpa using c3 | (simp at c3 ⊢; omega)
 obtain rfl := Option.some.inj H
 go_enter Tryz.func19, Tryz.ntmps19
 go_wp2
 repeat (go_quiet (fail); try go_wp2)
 go_ret
 exact ⟨d42_, d41_⟩
end
end Go.Proofs.YtfjbjiklohjodaaGreatDoor.Q
namespace Go.Proofs.YtfjbjiklohjodaaGreatDoor.Q
open Go.RowKit Go.Proofs.YtfjbjiklohjodaaGreatDoorW.PrintWords Go.Proofs.YtfjbjiklohjodaaGreatDoorW.PrintMore Go.Proofs.YtfjbjiklohjodaaGreatDoor.Z
set_option linter.unusedVariables false
set_option linter.unusedSimpArgs false
theorem impl_MapTextOut_to (k : Nat) (hk : 3000 < k) (m : List Pr) (hm : m.length ≤ 1099511627776) (l : List UInt8) (hl : l.length ≤ 140737488355328) : impl_MapTextOut.f k (m.map prTo) (mkB l) = some ((mapOutT m l).1.map prTo, mkB (mapOutT m l).2) := by
  obtain ⟨k, rfl⟩ : ∃ m, k = m + 1 := ⟨k - 1, by omega⟩
  unfold impl_MapTextOut.f impl_MapOk.f impl_TextOk.f mapOutT
  rw [map_pr, if_pos hm, prs_of_to, Option.bind_some, size_mkB, if_pos hl, bl_of]
  simp only [impl_MapTextOut.j0]
  cases h1 : mapOkB m
  · simp
  · cases h2 : textOk l
    · simp
    · have hl2 := textOk_len h2
      have hm2 := mapOk_len h1
      have hp := pcL_len (body l).length (body l) (Nat.le_refl _)
      have hb := body_len l
      have hT := turnAll_len true (pcL (body l)) m l (by omega)
      rw [turnAll_out _ _ _ h1] at hT
      simp only [Bool.and_self, if_true, Option.bind_some, Bool.not_true, Bool.false_eq_true, if_false]
      rw [impl_pieces_to k l (by omega) (by omega), Option.bind_some, turned_to k (by omega) m _ l true (fits_body l) (by omega) (by omega) (by omega), Option.bind_some, turnAll_out _ _ _ h1]
      unfold impl_pairs_copied.f slices_Clone_Pair.f slices_Clip_Pair.f strings_Join.f
      rw [joinB_map, if_pos (by rw [map_pr]; omega), if_pos ⟨by rw [List.length_map]; omega, by omega⟩]
      rfl
def pieces (l : List UInt8) : List Pc := if textOk l then pcL (body l) else []
def names (ps : List Pc) : List En := (ps.filter (·.named)).map (·.fin)
theorem lzMap_l0 (l : List S111) (hl : l.length ≤ 1099511627776) (n : Nat) : ∀ (k i : Nat), l.length - i ≤ n → n < k → laws_lzMap.l0 k l l i = some true := by
  induction n with
  | zero =>
    intro k i hn hk
    obtain ⟨k, rfl⟩ : ∃ m, k = m + 1 := ⟨k - 1, by omega⟩
    simp only [laws_lzMap.l0]
    rw [if_neg (by omega)]
  | succ n ih =>
    intro k i hn hk
    obtain ⟨k, rfl⟩ : ∃ m, k = m + 1 := ⟨k - 1, by omega⟩
    simp only [laws_lzMap.l0]
    by_cases hlt : i < l.length
    · have q0 : (i : Int) < (l.length : Int) := by omega
      have q1 : (0 : Int) ≤ (i : Int) := by omega
      have hw3 : wrap64 ((i : Int) + 1) = ((i + 1 : Nat) : Int) := by rw [w64 (by omega)]; omega
      have ih2 := ih k (i + 1) (by omega) (by omega)
      simp only [q0, q1, hw3, if_true, beq_self_eq_true, Bool.not_true, Bool.or_self, Bool.false_eq_true, if_false]
      exact ih2
    · rw [if_neg (by omega)]
theorem lzMap_same (k : Nat) (l : List S111) (hl : l.length ≤ 100000) (hk : 100001 < k) : laws_lzMap.f k l l = some true := by
  unfold laws_lzMap.f
  rw [if_pos rfl]
  exact lzMap_l0 l (by omega) l.length k 0 (by omega) (by omega)
end Go.Proofs.YtfjbjiklohjodaaGreatDoor.Q
namespace Go.Proofs.YtfjbjiklohjodaaGreatDoor.Q
open Go.RowKit Go.Proofs.YtfjbjiklohjodaaGreatDoorW.PrintWords Go.Proofs.YtfjbjiklohjodaaGreatDoor.Z
set_option linter.unusedVariables false
set_option linter.unusedSimpArgs false
inductive Tok where
  | b (c : UInt8)
  | n (e : En)
def tx : Tok → List UInt8
  | .b c => [c]
  | .n e => nameOf e
def flat (T : List Tok) : List UInt8 := T.flatMap tx
theorem flat_cons (t : Tok) (T : List Tok) : flat (t :: T) = tx t ++ flat T := by simp [flat]
theorem flat_append (A B : List Tok) : flat (A ++ B) = flat A ++ flat B := by simp [flat]
theorem flat_nil : flat [] = [] := rfl
def tokF : Nat → List UInt8 → List Tok
  | 0, _ => []
  | _ + 1, [] => []
  | k + 1, c :: l => match nm (c :: l) with
    | some e => .n e :: tokF k ((c :: l).drop (nameOf e).length)
    | none => .b c :: tokF k l
def toks (l : List UInt8) : List Tok := tokF l.length l
def pcOf : Tok → Pc
  | .b _ => ⟨1, false, zEn⟩
  | .n e => ⟨(nameOf e).length, true, e⟩
theorem pcs_tokF : ∀ (k : Nat) (l : List UInt8), pcs k l = (tokF k l).map pcOf
  | 0, _ => rfl
  | k + 1, [] => rfl
  | k + 1, c :: l => by
    show (if (c :: l) = [] then [] else pieceAt (c :: l) :: pcs k ((c :: l).drop (pieceAt (c :: l)).size.toNat)) = _
    rw [if_neg (by simp)]
    unfold tokF pieceAt
    cases h : nm (c :: l) with
    | some e =>
      simp only
      rw [pcs_tokF k]
      rfl
    | none =>
      simp only
      rw [pcs_tokF k]
      rfl
theorem pcL_toks (l : List UInt8) : pcL l = (toks l).map pcOf := pcs_tokF _ _
theorem flat_tokF : ∀ (k : Nat) (l : List UInt8), l.length ≤ k → flat (tokF k l) = l
  | 0, l, h => by rw [List.length_eq_zero_iff.1 (Nat.le_zero.1 h)]; rfl
  | k + 1, [], _ => rfl
  | k + 1, c :: l, h => by
    unfold tokF
    cases hn : nm (c :: l) with
    | some e =>
      obtain ⟨_, r, hr⟩ := nm_some hn
      have hl : 0 < (nameOf e).length := by simp [nameOf]
      simp only
      rw [flat_cons, flat_tokF k _ (by rw [List.length_drop]; omega), hr]
      show nameOf e ++ (nameOf e ++ r).drop (nameOf e).length = _
      rw [List.drop_left]
    | none =>
      simp only
      rw [flat_cons, flat_tokF k l (by simpa using h)]
      rfl
theorem flat_toks (l : List UInt8) : flat (toks l) = l := flat_tokF _ _ (Nat.le_refl _)
def run : List Tok → List UInt8
  | .b c :: T => c :: run T
  | _ => []
theorem no64 : ∀ e ∈ allEnds, (endText e).all (fun c => c != 64) = true := by decide +kernel
theorem endRead_64 {l : List UInt8} (h : (64 : UInt8) ∈ l) : endRead l = none := by
  refine endRead_none (fun e he ht => ?_)
  have := no64 e (anyB_mem he)
  rw [ht, List.all_eq_true] at this
  simpa using this 64 h
theorem flat_run (T : List Tok) : ∃ r, flat T = run T ++ r ∧ (r = [] ∨ ∃ q, r = 64 :: q) := by
  induction T with
  | nil => exact ⟨[], rfl, .inl rfl⟩
  | cons t T ih =>
    cases t with
    | b c =>
      obtain ⟨r, h1, h2⟩ := ih
      exact ⟨r, by rw [flat_cons, h1]; rfl, h2⟩
    | n e => exact ⟨flat (.n e :: T), rfl, .inr ⟨_, rfl⟩⟩
theorem takeWhile_app {l r : List UInt8} (h : (59 : UInt8) ∈ l) : upto59 (l ++ r) = upto59 l := by
  induction l with
  | nil => cases h
  | cons c l ih =>
    unfold upto59 at *
    by_cases hc : c = 59
    · subst hc; simp
    · have h2 : (c != 59) = true := by simpa using hc
      rw [List.cons_append, List.takeWhile_cons, h2, List.takeWhile_cons, h2]
      simp only [if_true]
      rw [ih (by rcases List.mem_cons.1 h with h | h; exact absurd h.symm hc; exact h)]
theorem upto59_not {l r : List UInt8} (h : (59 : UInt8) ∉ l) : upto59 (l ++ r) = l ++ upto59 r := by
  unfold upto59
  rw [List.takeWhile_append_of_pos (fun c hc => by simpa using fun e : c = 59 => h (e ▸ hc))]
theorem nm_run (T : List Tok) : nm (64 :: flat T) = if (59 : UInt8) ∈ run T then endRead (upto59 (run T)) else none := by
  obtain ⟨r, h1, h2⟩ := flat_run T
  show (if ((64 : UInt8) == 64 && (flat T).contains 59) = true then endRead (upto59 (flat T)) else none) = _
  rw [beq_self_eq_true, Bool.true_and, h1]
  by_cases hm : (59 : UInt8) ∈ run T
  · rw [if_pos hm, if_pos (by simp [hm]), takeWhile_app hm]
  · rw [if_neg hm]
    rcases h2 with rfl | ⟨q, rfl⟩
    · rw [if_neg (by simpa using hm)]
    · split
      · rw [upto59_not hm]
        refine endRead_64 ?_
        unfold upto59
        rw [List.takeWhile_cons, show ((64 : UInt8) != 59) = true from by decide]
        simp
      · rfl
def good : List Tok → Prop
  | [] => True
  | .n e :: T => anyB e = true ∧ good T
  | .b c :: T => (c = 64 → (59 : UInt8) ∈ run T → endRead (upto59 (run T)) = none) ∧ good T
theorem nm_b {c : UInt8} {T : List Tok} (h : good (.b c :: T)) : nm (c :: flat T) = none := by
  by_cases hc : c = 64
  · subst hc
    rw [nm_run]
    split
    · rename_i hm; exact h.1 rfl hm
    · rfl
  · show (if (c == 64 && (flat T).contains 59) = true then _ else none) = none
    rw [show (c == (64 : UInt8)) = false from beq_eq_false_iff_ne.2 hc, Bool.false_and]
    rfl
theorem tokF_flat : ∀ (T : List Tok) (k : Nat), good T → (flat T).length ≤ k → tokF k (flat T) = T
  | [], k, _, _ => by cases k <;> rfl
  | .n e :: T, k, h, hk => by
    have hl : 0 < (nameOf e).length := by simp [nameOf]
    have hc : flat (.n e :: T) = 64 :: (endText e ++ [59] ++ flat T) := by rw [flat_cons]; rfl
    rw [flat_cons, show tx (.n e) = nameOf e from rfl, List.length_append] at hk
    obtain ⟨k, rfl⟩ : ∃ m, k = m + 1 := ⟨k - 1, by omega⟩
    have hn : nm (64 :: (endText e ++ [59] ++ flat T)) = some e := nm_name h.1 (flat T)
    rw [hc]
    unfold tokF
    rw [hn]
    simp only
    have hd : (64 :: (endText e ++ [59] ++ flat T)).drop (nameOf e).length = flat T := by
      show (nameOf e ++ flat T).drop (nameOf e).length = flat T
      rw [List.drop_left]
    rw [hd, tokF_flat T k h.2 (by omega)]
  | .b c :: T, k, h, hk => by
    have hc : flat (.b c :: T) = c :: flat T := by rw [flat_cons]; rfl
    rw [hc] at hk ⊢
    rw [List.length_cons] at hk
    obtain ⟨k, rfl⟩ : ∃ m, k = m + 1 := ⟨k - 1, by omega⟩
    unfold tokF
    rw [nm_b h]
    simp only
    rw [tokF_flat T k h.2 (by omega)]
theorem toks_flat {T : List Tok} (h : good T) : toks (flat T) = T := tokF_flat T _ h (Nat.le_refl _)
theorem good_tokF : ∀ (k : Nat) (l : List UInt8), l.length ≤ k → good (tokF k l)
  | 0, _, _ => trivial
  | k + 1, [], _ => trivial
  | k + 1, c :: l, h => by
    unfold tokF
    cases hn : nm (c :: l) with
    | some e =>
      have hl : 0 < (nameOf e).length := by simp [nameOf]
      exact ⟨(nm_some hn).1, good_tokF k _ (by rw [List.length_drop]; omega)⟩
    | none =>
      have hl : l.length ≤ k := by simpa using h
      refine ⟨fun hc hm => ?_, good_tokF k l hl⟩
      subst hc
      have := nm_run (tokF k l)
      rw [flat_tokF k l hl, hn, if_pos hm] at this
      exact this.symm
theorem good_toks (l : List UInt8) : good (toks l) := good_tokF _ _ (Nat.le_refl _)
inductive Like : List Tok → List Tok → Prop
  | nil : Like [] []
  | b (c : UInt8) {T U : List Tok} : Like T U → Like (.b c :: T) (.b c :: U)
  | n {d e : En} {T U : List Tok} : anyB e = true → Like T U → Like (.n d :: T) (.n e :: U)
theorem Like.run {T U : List Tok} (h : Like T U) : run T = run U := by
  induction h with
  | nil => rfl
  | b c _ ih => simp only [Q.run, ih]
  | n _ _ _ => rfl
theorem Like.good {T U : List Tok} (h : Like T U) (g : good T) : good U := by
  induction h with
  | nil => trivial
  | b c hl ih => exact ⟨by rw [← hl.run]; exact g.1, ih g.2⟩
  | n ha _ ih => exact ⟨ha, ih g.2⟩
theorem good_left : ∀ {A B : List Tok}, good (A ++ B) → good A
  | [], _, _ => trivial
  | .n e :: A, B, g => ⟨g.1, good_left g.2⟩
  | .b c :: A, B, g => by
    refine ⟨fun hc hm => ?_, good_left g.2⟩
    have hr : ∀ (A B : List Tok), ∃ q, run (A ++ B) = run A ++ q := by
      intro A B
      induction A with
      | nil => exact ⟨run B, rfl⟩
      | cons t A ih =>
        cases t with
        | b c => obtain ⟨q, hq⟩ := ih; exact ⟨q, by simp only [List.cons_append, run, hq]⟩
        | n e => exact ⟨[], by simp [run]⟩
    obtain ⟨q, hq⟩ := hr A B
    have g1 : (59 : UInt8) ∈ run (A ++ B) → endRead (upto59 (run (A ++ B))) = none := g.1 hc
    rw [hq, takeWhile_app hm] at g1
    exact g1 (List.mem_append_left _ hm)
theorem good_right : ∀ {A B : List Tok}, good (A ++ B) → good B
  | [], _, g => g
  | .n e :: A, B, g => good_right g.2
  | .b c :: A, B, g => good_right g.2
end Go.Proofs.YtfjbjiklohjodaaGreatDoor.Q
namespace Go.Proofs.YtfjbjiklohjodaaGreatDoor.Q
open Go.RowKit Go.Proofs.YtfjbjiklohjodaaGreatDoorW.PrintWords Go.Proofs.YtfjbjiklohjodaaGreatDoor.Z
set_option linter.unusedVariables false
set_option linter.unusedSimpArgs false
theorem inside_any {e : En} (h : insideB e = true) : anyB e = true := by unfold anyB; rw [h]; rfl
theorem door_of {p : Int} (h1 : 10 ≤ p) (h2 : p ≤ 17) : doorB ⟨9, p⟩ = true := by
  unfold doorB inB
  rw [decide_eq_true h1, decide_eq_true h2]
  rfl
theorem door_any {e : En} (h : doorB e = true) : anyB e = true := by unfold anyB; rw [h, Bool.or_true]
theorem mapAt_inside {m : List Pr} (h : mapOkB m = true) {k : Nat} (hk : k < m.length) : insideB (m.getD k zPr).inside = true := ((mapOkB_iff.1 h).1 k hk).2.1
theorem l3InO_inside {m : List Pr} (h : mapOkB m = true) {p : Int} {e : En} (h2 : l3InO m p = some e) : insideB e = true := by
  unfold l3InO at h2
  split at h2
  · rename_i hc
    obtain rfl := Option.some.inj h2
    exact mapAt_inside h (by omega)
  · cases h2
def inE (m : List Pr) (e : En) : En := if doorB e then (l3InO m e.port).getD e else e
def inTok (m : List Pr) : Tok → Tok
  | .b c => .b c
  | .n e => .n (inE m e)
theorem pcOf_size (t : Tok) : (pcOf t).size.toNat = (tx t).length := by cases t <;> rfl
theorem inP_tok (m : List Pr) (t : Tok) : inP m (pcOf t) (tx t) = tx (inTok m t) := by
  cases t with
  | b c => rfl
  | n e =>
    unfold inP
    show (if (true && doorB e) = true then _ else nameOf e) = nameOf (inE m e)
    unfold inE
    cases hd : doorB e
    · simp
    · simp only [Bool.and_self, if_true]
      show (match l3InO m e.port with | some e' => nameOf e' | none => nameOf e) = _
      cases l3InO m e.port <;> rfl
theorem goIn_toks (m : List Pr) : ∀ (T : List Tok) (r : List UInt8), goIn m (T.map pcOf) (flat T ++ r) = (T.map (inTok m)).map tx
  | [], _ => rfl
  | t :: T, r => by
    simp only [List.map_cons, goIn, flat_cons, pcOf_size, List.append_assoc, List.take_left, List.drop_left]
    rw [goIn_toks m T r, inP_tok]
theorem flat_eq (T : List Tok) : (T.map tx).flatten = flat T := by unfold flat; rw [List.flatMap_def]
theorem like_in {m : List Pr} (h : mapOkB m = true) : ∀ {T : List Tok}, good T → Like T (T.map (inTok m))
  | [], _ => .nil
  | .b c :: T, g => .b c (like_in h g.2)
  | .n e :: T, g => by
    refine .n ?_ (like_in h g.2)
    unfold inE
    split
    · cases hi : l3InO m e.port with
      | none => exact g.1
      | some e' => exact inside_any (l3InO_inside h hi)
    · exact g.1
def outTok (m : List Pr) : Tok → List Pr × Tok
  | .b c => (m, .b c)
  | .n e => if insideB e && (outS m e).2.2 then ((outS m e).1, .n ⟨9, (outS m e).2.1⟩) else (m, .n e)
def outToks : List Pr → List Tok → List Pr × List Tok
  | m, [] => (m, [])
  | m, t :: T => ((outToks (outTok m t).1 T).1, (outTok m t).2 :: (outToks (outTok m t).1 T).2)
theorem outP_tok (m : List Pr) (t : Tok) : outP m (pcOf t) (tx t) = ((outTok m t).1, tx (outTok m t).2) := by
  cases t with
  | b c => rfl
  | n e =>
    unfold outP
    show (if (true && insideB e) = true then (if (outS m e).2.2 = true then ((outS m e).1, nameOf ⟨9, (outS m e).2.1⟩) else (m, nameOf e)) else (m, nameOf e)) = _
    unfold outTok
    simp only
    cases insideB e
    · rfl
    · cases (outS m e).2.2 <;> rfl
theorem goOut_toks : ∀ (T : List Tok) (m : List Pr) (r : List UInt8), goOut m (T.map pcOf) (flat T ++ r) = ((outToks m T).1, (outToks m T).2.map tx)
  | [], _, _ => rfl
  | t :: T, m, r => by
    simp only [List.map_cons, goOut, flat_cons, pcOf_size, List.append_assoc, List.take_left, List.drop_left, outToks]
    rw [outP_tok, goOut_toks T _ r]
theorem outS_hit {m : List Pr} {e : En} (h : mapOkB m = true) (hi : insideB e = true) (ho : (outS m e).2.2 = true) :
    mapOkB (outS m e).1 = true ∧ l3InO (outS m e).1 (outS m e).2.1 = some e ∧ (outS m e).1.take m.length = m ∧ m.length ≤ (outS m e).1.length ∧ 10 ≤ (outS m e).2.1 ∧ (outS m e).2.1 ≤ 17 := by
  obtain ⟨h1, h2, h3, h4, h5, h6, h7, h8⟩ := mapOut_ok (m := m) (e := e) (L := (outS m e).1) (pt := (outS m e).2.1) (by rw [mapOutF_of h hi]; exact Prod.ext rfl (Prod.ext rfl ho))
  unfold mapInO at h2
  rw [if_pos h1] at h2
  exact ⟨h1, h2, h6, h4, h7, h8⟩
theorem outTok_ok {m : List Pr} (h : mapOkB m = true) (t : Tok) : mapOkB (outTok m t).1 = true ∧ (outTok m t).1.take m.length = m ∧ m.length ≤ (outTok m t).1.length := by
  cases t with
  | b c => exact ⟨h, List.take_length, Nat.le_refl _⟩
  | n e =>
    unfold outTok
    simp only
    split
    · rename_i hc
      rw [Bool.and_eq_true] at hc
      obtain ⟨h1, _, h3, h4, _⟩ := outS_hit h hc.1 hc.2
      exact ⟨h1, h3, h4⟩
    · exact ⟨h, List.take_length, Nat.le_refl _⟩
theorem pre_trans {a b c : List Pr} (h1 : b.take a.length = a) (h2 : c.take b.length = b) (h3 : a.length ≤ b.length) : c.take a.length = a := by
  have e : (c.take b.length).take a.length = c.take a.length := by rw [List.take_take, Nat.min_eq_left h3]
  rw [← e, h2, h1]
theorem outToks_ok : ∀ (T : List Tok) {m : List Pr}, mapOkB m = true → mapOkB (outToks m T).1 = true ∧ (outToks m T).1.take m.length = m ∧ m.length ≤ (outToks m T).1.length
  | [], m, h => ⟨h, List.take_length, Nat.le_refl _⟩
  | t :: T, m, h => by
    obtain ⟨a1, a2, a3⟩ := outTok_ok h t
    obtain ⟨b1, b2, b3⟩ := outToks_ok T a1
    exact ⟨b1, pre_trans a2 b2 a3, Nat.le_trans a3 b3⟩
theorem like_out : ∀ {T : List Tok} {m : List Pr}, mapOkB m = true → good T → Like T (outToks m T).2
  | [], _, _, _ => .nil
  | .b c :: T, m, h, g => .b c (like_out h g.2)
  | .n e :: T, m, h, g => by
    have h2 := (outTok_ok h (.n e)).1
    obtain ⟨x, u, hu, ha⟩ : ∃ x u, outTok m (.n e) = (x, .n u) ∧ anyB u = true := by
      unfold outTok
      simp only
      split
      · rename_i hc
        rw [Bool.and_eq_true] at hc
        obtain ⟨_, _, _, _, h5, h6⟩ := outS_hit h hc.1 hc.2
        exact ⟨_, _, rfl, door_any (door_of h5 h6)⟩
      · exact ⟨_, _, rfl, g.1⟩
    rw [hu] at h2
    unfold outToks
    rw [hu]
    exact .n ha (like_out h2 g.2)
def Ext (m y : List Pr) : Prop := mapOkB y = true ∧ y.take m.length = m ∧ m.length ≤ y.length
theorem Ext.refl {m : List Pr} (h : mapOkB m = true) : Ext m m := ⟨h, List.take_length, Nat.le_refl _⟩
end Go.Proofs.YtfjbjiklohjodaaGreatDoor.Q
namespace Go.Proofs.YtfjbjiklohjodaaGreatDoor.Q
open Go.RowKit Go.Proofs.YtfjbjiklohjodaaGreatDoorW.PrintWords Go.Proofs.YtfjbjiklohjodaaGreatDoor.Z
set_option linter.unusedVariables false
set_option linter.unusedSimpArgs false
theorem heldFrom_beg (l : List UInt8) : ∀ n, heldFrom l n = 0 ∨ begB (l.drop (l.length - heldFrom l n)) = true
  | 0 => .inl rfl
  | n + 1 => by
    unfold heldFrom
    split
    · rename_i h; exact .inr h
    · exact heldFrom_beg l n
theorem heldFrom_max (l : List UInt8) : ∀ n j, heldFrom l n < j → j ≤ n → begB (l.drop (l.length - j)) = false
  | 0, j, h1, h2 => by omega
  | n + 1, j, h1, h2 => by
    unfold heldFrom at h1
    split at h1
    · omega
    · rename_i h
      by_cases hj : j = n + 1
      · rw [hj]; simpa using h
      · exact heldFrom_max l n j h1 (by omega)
theorem body_rest (l : List UInt8) : body l ++ l.drop (l.length - heldN l) = l := List.take_append_drop _ _
theorem body_length (l : List UInt8) : (body l).length = l.length - heldN l := by unfold body; rw [List.length_take]; omega
theorem body_of0 {l : List UInt8} (h : heldN l = 0) : body l = l := by unfold body; rw [h, Nat.sub_zero, List.take_length]
theorem mapIn_ok {m : List Pr} {l : List UInt8} (h1 : mapOkB m = true) (h2 : textOk l = true) : mapIn m l = flat ((toks (body l)).map (inTok m)) := by
  have e := goIn_toks m (toks (body l)) (l.drop (l.length - heldN l))
  rw [flat_toks, ← pcL_toks, body_rest] at e
  unfold mapIn
  rw [h1, h2, e, flat_eq]
  rfl
theorem mapOutT_ok {m : List Pr} {l : List UInt8} (h1 : mapOkB m = true) (h2 : textOk l = true) : mapOutT m l = ((outToks m (toks (body l))).1, flat (outToks m (toks (body l))).2) := by
  have e := goOut_toks (toks (body l)) m (l.drop (l.length - heldN l))
  rw [flat_toks, ← pcL_toks, body_rest] at e
  unfold mapOutT
  rw [h1, h2, e]
  simp only [Bool.and_self, if_true, flat_eq]
theorem name_ok : ∀ e ∈ allEnds, (nameOf e).all okByte = true := by decide +kernel
theorem textOk_iff {l : List UInt8} : textOk l = true ↔ l.all okByte = true ∧ l.length ≤ 40 := by
  unfold textOk
  rw [Bool.and_eq_true, decide_eq_true_iff]
  constructor <;> rintro ⟨h1, h2⟩ <;> exact ⟨h1, by omega⟩
theorem body_all {l : List UInt8} (h : l.all okByte = true) : (body l).all okByte = true := by
  rw [← body_rest l, List.all_append, Bool.and_eq_true] at h
  exact h.1
theorem body_okAll {s : List UInt8} (h2 : textOk s = true) : (flat (toks (body s))).all okByte = true := by
  rw [flat_toks]
  exact body_all (textOk_iff.1 h2).1
end Go.Proofs.YtfjbjiklohjodaaGreatDoor.Q
namespace Go.Proofs.YtfjbjiklohjodaaGreatDoor.Q
open Go.RowKit Go.Proofs.YtfjbjiklohjodaaGreatDoorW.PrintWords Go.Proofs.YtfjbjiklohjodaaGreatDoor.Z
set_option linter.unusedVariables false
set_option linter.unusedSimpArgs false
theorem held_posi {l : List UInt8} {j : Nat} (h1 : 1 ≤ j) (h2 : j ≤ min 5 l.length) (hb : begB (l.drop (l.length - j)) = true) : 0 < heldN l := by
  apply Classical.byContradiction
  intro h
  have := heldFrom_max l (min 5 l.length) j (by have e : heldFrom l (min 5 l.length) = heldN l := rfl; omega) h2
  rw [hb] at this
  cases this
theorem begB_left {a b : List UInt8} (h : begB (a ++ b) = true) : begB a = true := by
  unfold begB at h ⊢
  rw [List.all_eq_true] at h ⊢
  intro i hi
  have hi2 := List.mem_range.1 hi
  have := h i (List.mem_range.2 (by rw [List.length_append]; omega))
  rw [List.getD_eq_getElem?_getD, List.getElem?_append_left hi2, ← List.getD_eq_getElem?_getD] at this
  exact this
theorem begB_head {l : List UInt8} (hl : l ≠ []) (h : begB l = true) : ∃ t, l = 64 :: t := by
  cases l with
  | nil => exact absurd rfl hl
  | cons c t =>
    have h1 := List.all_eq_true.1 h 0 (List.mem_range.2 (by simp))
    have h2 : ((c.toNat : Int) == 64) = true := h1
    rw [beq_iff_eq] at h2
    have h3 : c = 64 := UInt8.toNat_inj.1 (by show c.toNat = 64; omega)
    exact ⟨t, by rw [h3]⟩
theorem name_begins : ∀ e ∈ allEnds, ∀ i ∈ [1, 2, 3, 4, 5], i < (nameOf e).length → begB ((nameOf e).take i) = true := by decide +kernel
theorem name_64 : ∀ e ∈ allEnds, ((nameOf e).tail).all (fun c => c != 64) = true := by decide +kernel
theorem name_len6 : ∀ e ∈ allEnds, (nameOf e).length ≤ 6 := by decide +kernel
theorem heldN_le5 (l : List UInt8) : heldN l ≤ min 5 l.length := heldFrom_le l _
theorem held_beg {l : List UInt8} (h : 0 < heldN l) : begB (l.drop (l.length - heldN l)) = true := by
  rcases heldFrom_beg l (min 5 l.length) with h1 | h1
  · have h2 : heldN l = 0 := h1
    omega
  · exact h1
theorem held_ext (l r : List UInt8) : heldN (l ++ r) ≤ r.length + heldN l := by
  by_cases h : heldN (l ++ r) ≤ r.length
  · omega
  · obtain ⟨j, hj⟩ : ∃ j, heldN (l ++ r) = r.length + j := ⟨heldN (l ++ r) - r.length, by omega⟩
    have h5 := heldN_le5 (l ++ r)
    rw [List.length_append] at h5
    have hb := held_beg (l := l ++ r) (by omega)
    rw [hj, List.length_append, show l.length + r.length - (r.length + j) = l.length - j from by omega, List.drop_append_of_le_length (by omega)] at hb
    have hb2 := begB_left hb
    by_cases hle : heldN l < j
    · have := heldFrom_max l (min 5 l.length) j hle (by omega)
      rw [hb2] at this
      cases this
    · omega
theorem body_ext (l r : List UInt8) : ∃ q, body (l ++ r) = body l ++ q := by
  have h := held_ext l r
  have h1 := heldN_le l
  have h2 := heldN_le (l ++ r)
  refine ⟨(body (l ++ r)).drop (body l).length, ?_⟩
  have h3 : (body (l ++ r)).take (body l).length = body l := by
    rw [body_length]
    unfold body
    rw [List.take_take, Nat.min_eq_left (by rw [List.length_append]; omega), List.take_append_of_le_length (by omega)]
  have h4 := List.take_append_drop (body l).length (body (l ++ r))
  rw [h3] at h4
  exact h4.symm
theorem split_at (T : List Tok) : ∀ (P S : List UInt8), flat T = P ++ S → (∃ A B, T = A ++ B ∧ flat A = P) ∨ (∃ A e B u v s, T = A ++ .n e :: B ∧ u ≠ [] ∧ v ≠ [] ∧ nameOf e = u ++ v ∧ P = flat A ++ u ∧ S = v ++ s) := by
  induction T with
  | nil =>
    intro P S h
    have h2 : P ++ S = [] := h.symm
    rw [List.append_eq_nil_iff] at h2
    exact .inl ⟨[], [], rfl, by rw [h2.1]; rfl⟩
  | cons t T ih =>
    intro P S h
    cases P with
    | nil => exact .inl ⟨[], t :: T, rfl, rfl⟩
    | cons p P =>
      rw [flat_cons] at h
      cases t with
      | b c =>
        have h2 : c :: flat T = p :: (P ++ S) := h
        rw [List.cons.injEq] at h2
        rcases ih P S h2.2 with ⟨A, B, h3, h4⟩ | ⟨A, e, B, u, v, s, h3, h4, h5, h6, h7, h8⟩
        · exact .inl ⟨.b c :: A, B, by rw [h3]; rfl, by rw [flat_cons, h4, h2.1]; rfl⟩
        · exact .inr ⟨.b c :: A, e, B, u, v, s, by rw [h3]; rfl, h4, h5, h6, by rw [flat_cons, h7, h2.1]; rfl, h8⟩
      | n e =>
        have h2 : nameOf e ++ flat T = (p :: P) ++ S := h
        rcases List.append_eq_append_iff.1 h2 with ⟨Q, h3, h4⟩ | ⟨Q, h3, h4⟩
        · rcases ih Q S h4 with ⟨A, B, h5, h6⟩ | ⟨A, e', B, u, v, s, h5, h6, h7, h8, h9, h10⟩
          · exact .inl ⟨.n e :: A, B, by rw [h5]; rfl, by rw [flat_cons, h6, h3]; rfl⟩
          · exact .inr ⟨.n e :: A, e', B, u, v, s, by rw [h5]; rfl, h6, h7, h8, by rw [flat_cons, h3, h9, List.append_assoc]; rfl, h10⟩
        · by_cases hq : Q = []
          · subst hq
            rw [List.append_nil] at h3
            exact .inl ⟨[.n e], T, rfl, by rw [← h3, flat_cons, flat_nil, List.append_nil]; rfl⟩
          · exact .inr ⟨[], e, T, p :: P, Q, flat T, rfl, by simp, hq, h3, rfl, h4⟩
theorem toks_ext (l r : List UInt8) : ∃ B, toks (body (l ++ r)) = toks (body l) ++ B := by
  obtain ⟨q, hq⟩ := body_ext l r
  have g := good_toks (body (l ++ r))
  rcases split_at (toks (body (l ++ r))) (body l) q (by rw [flat_toks, hq]) with ⟨A, B, h1, h2⟩ | ⟨A, e, B, u, v, s, h1, h2, h3, h4, h5, h6⟩
  · refine ⟨B, ?_⟩
    rw [h1] at g ⊢
    rw [← h2, toks_flat (good_left g)]
  · exfalso
    rw [h1] at g
    have hm := anyB_mem (good_right g).1
    have hv0 := List.length_pos_iff.2 h3
    have hu0 := List.length_pos_iff.2 h2
    by_cases h0 : heldN l = 0
    · rw [body_of0 h0] at h5
      have hul : u.length < (nameOf e).length := by rw [h4, List.length_append]; omega
      have h7 := name_len6 e hm
      have hbeg := name_begins e hm u.length (by simp; omega) hul
      rw [h4, List.take_left] at hbeg
      have h8 := held_posi (l := l) (j := u.length) (by omega) (by rw [h5, List.length_append]; omega) (by rw [h5, List.length_append, Nat.add_sub_cancel, List.drop_left]; exact hbeg)
      omega
    · have hl := body_rest l
      have hlr := body_rest (l ++ r)
      obtain ⟨t, ht⟩ := begB_head (l := l.drop (l.length - heldN l)) (by
        intro h9
        have h10 := congrArg List.length h9
        rw [List.length_drop, List.length_nil] at h10
        have h11 := heldN_le l
        omega) (held_beg (by omega))
      rw [ht] at hl
      rw [hq, h6] at hlr
      have h12 : body l ++ (v ++ s ++ (l ++ r).drop ((l ++ r).length - heldN (l ++ r))) = body l ++ (64 :: t ++ r) := by
        rw [← List.append_assoc, hlr, ← List.append_assoc, hl]
      have h13 := List.append_cancel_left h12
      cases v with
      | nil => exact h3 rfl
      | cons c v =>
        have h14 : c = 64 := by
          have h15 := congrArg List.head? h13
          simpa using h15
        cases u with
        | nil => exact h2 rfl
        | cons d u =>
          have h16 := name_64 e hm
          rw [h4, List.all_eq_true] at h16
          have h17 := h16 c (by simp)
          rw [h14] at h17
          simp at h17
end Go.Proofs.YtfjbjiklohjodaaGreatDoor.Q
