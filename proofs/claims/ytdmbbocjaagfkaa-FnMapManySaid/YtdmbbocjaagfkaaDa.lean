/- Draws out of a code: the reader's block, and that a pick answers a number below its bound. -/
import Derived.Test.YtdmbbocjaagfkaaMa
import Derived.OpenShut
namespace Go.Proofs.Ytdmbbocjaagfkaa.Z
open Go.RowKit Go.Proofs.YtdmbbocjaagfkaaW.PrintWords
set_option linter.unusedVariables false
set_option linter.unusedSimpArgs false
attribute [local go_sem ↓] Go.wp_at_zero Go.wp_at_succ

/-- A reader at block r: its bytes lie below r; its place is at most B. -/
def Rd (w : World) (r : Nat) (B : Int) : Prop := ∃ A n c bs p, w.heap[r]? = some (.cells #[.slice A n c, .int .i64 p] 68 (0, 0)) ∧ Kd.C (Kd.int .u8) w A n bs ∧ (∀ b ∈ bs, (0 : Int) ≤ b ∧ b ≤ 255) ∧ n ≤ 2000 ∧ n ≤ c ∧ (∀ ad, A = some ad → 0 < n → ad.block < r) ∧ 0 ≤ p ∧ p ≤ B
/-- Block r alone has been written, beside new memory. -/
def Dr (r : Nat) (w w' : World) : Prop := KeepBut w w' r none ∧ Below r w w'
theorem Dr.refl (r : Nat) (w : World) : Dr r w w := ⟨KeepBut.refl _ _ _, Below.refl _ _⟩
theorem Dr.trans {r : Nat} {a b c : World} (h : Dr r a b) (k : Dr r b c) : Dr r a c := ⟨h.1.trans k.1 (.inl rfl), h.2.trans k.2⟩
theorem Dr.drew {r : Nat} {a b : World} (h : Dr r a b) : Dr r a b.drew := ⟨h.1, below_drew h.2⟩
theorem Dr.drewN {r : Nat} {a b : World} (h : Dr r a b) (m : Nat) : Dr r a (b.drewN m) := ⟨h.1, pw_below_drewN h.2 m⟩
theorem Dr.set {r : Nat} {a b : World} (h : Dr r a b) (j : Nat) (u : Value) : Dr r a (b.setCell ⟨r, j, none⟩ u) := ⟨h.1.set_ j u, h.2.setCell (Nat.le_refl _) _⟩
theorem Dr.alloc {r : Nat} {a b : World} (h : Dr r a b) (hr : r ≤ b.heap.size) (o : Obj) : Dr r a (b.alloc o) := ⟨keep_alloc h.1 o, h.2.alloc hr o⟩
theorem Dr.of_below {r : Nat} {a b : World} (h : Below a.heap.size a b) (hr : r ≤ a.heap.size) : Dr r a b := ⟨KeepBut.of_below h r none, h.mono hr⟩
theorem Dr.size {r : Nat} {a b : World} (h : Dr r a b) : a.heap.size ≤ b.heap.size := h.2.size
theorem Dr.R {α : Type} {d : Kd α} {e : Nat} {w w1 : World} {base r : Nat} {v : Value} {xs : List α} (h : Kd.R d e w base (fun _ => True) v xs) (hd : Dr r w w1) (hr : r < base) : Kd.R d e w1 base (fun _ => True) v xs :=
  Kd.R_mono (Kd.R_step (Kd.R_bound h) (fun k hk hlt => hd.1.2 k hlt (by have := hk.2.1; omega) (by simp))) (fun _ _ => trivial)
theorem Dr.C {α : Type} {d : Kd α} {w w1 : World} {r : Nat} {A : Option Addr} {n : Nat} {xs : List α} (hd : Dr r w w1) {w0 : World} (h : Kd.C d w0 A n xs) (h0 : Below w0.heap.size w0 w) (hr : w0.heap.size ≤ r) : Kd.C d w1 A n xs := Kd.C_below h (h0.trans (hd.2.mono hr))
theorem Rd.lt {w : World} {r : Nat} {B : Int} (h : Rd w r B) : r < w.heap.size := by
  obtain ⟨_, _, _, _, _, h, _⟩ := h
  exact blk_lt h
theorem Rd.mono {w : World} {r : Nat} {B B' : Int} (h : Rd w r B) (hB : B ≤ B') : Rd w r B' := by
  obtain ⟨A, n, c, bs, p, h1, h2, h3, h4, h5, h6, h7, h8⟩ := h
  exact ⟨A, n, c, bs, p, h1, h2, h3, h4, h5, h6, h7, by omega⟩
theorem Rd.keeps {w w1 : World} {r : Nat} {B : Int} (h : Rd w r B) (hb : Below (r + 1) w w1) : Rd w1 r B := by
  obtain ⟨A, n, c, bs, p, h1, h2, h3, h4, h5, h6, h7, h8⟩ := h
  refine ⟨A, n, c, bs, p, (hb.block r (by omega)).trans h1, ?_, h3, h4, h5, h6, h7, h8⟩
  refine ⟨h2.1, h2.2.1, fun hn => ?_⟩
  obtain ⟨ad, e, hc⟩ := h2.2.2 hn
  have hlt := h6 ad e hn
  refine ⟨ad, e, fun j p hj => ?_⟩
  obtain ⟨cs, k1, k2, k3⟩ := hc j p hj
  refine ⟨cs, k1, k2, fun i u hu => ?_⟩
  rw [← k3 i u hu]
  exact hb.cell (by rw [show (ad.add (j * (Kd.int IntKind.u8).sz + i)).block = ad.block from by unfold Addr.add; split <;> rfl]; omega)
theorem Rd.set {w : World} {r : Nat} {A : Option Addr} {n c : Nat} {bs : List Int} {p : Int} (h1 : w.heap[r]? = some (.cells #[.slice A n c, .int .i64 p] 68 (0, 0))) (h2 : Kd.C (Kd.int .u8) w A n bs) (h3 : ∀ b ∈ bs, (0 : Int) ≤ b ∧ b ≤ 255) (h4 : n ≤ 2000) (h5 : n ≤ c) (h6 : ∀ ad, A = some ad → 0 < n → ad.block < r) (q B : Int) (hq : 0 ≤ q ∧ q ≤ B) :
    Rd (w.setCell ⟨r, 1, none⟩ (.int .i64 q)) r B :=
  ⟨A, n, c, bs, q, by simpa using blk_set h1 1 (.int .i64 q), Kd.C_keep 0 h2 ((KeepBut.refl w r none).set_ 1 _) (fun ad hA hn => by have := h6 ad hA hn; omega), h3, h4, h5, h6, hq.1, hq.2⟩

theorem xor_nonneg (x y : Int) (hx : 0 ≤ x ∧ x < 9223372036854775808) (hy : 0 ≤ y ∧ y < 9223372036854775808) : 0 ≤ Go.bits .xor .i64 x y := by
  obtain ⟨a, rfl⟩ : ∃ a : Nat, x = a := ⟨x.toNat, by omega⟩
  obtain ⟨b, rfl⟩ : ∃ b : Nat, y = b := ⟨y.toNat, by omega⟩
  unfold Go.bits
  simp only [BitVec.toNat_xor, BitVec.toNat_ofInt]
  have e1 : ((a : Int) % ((2 ^ IntKind.i64.bits : Nat) : Int)).toNat = a := by
    have : ((2 ^ IntKind.i64.bits : Nat) : Int) = 18446744073709551616 := by decide
    rw [this]; omega
  have e2 : ((b : Int) % ((2 ^ IntKind.i64.bits : Nat) : Int)).toNat = b := by
    have : ((2 ^ IntKind.i64.bits : Nat) : Int) = 18446744073709551616 := by decide
    rw [this]; omega
  rw [e1, e2]
  have h := Nat.xor_lt_two_pow (n := 63) (x := a) (y := b) (by have : (2 : Nat) ^ 63 = 9223372036854775808 := by decide
                                                               omega) (by have : (2 : Nat) ^ 63 = 9223372036854775808 := by decide
                                                                          omega)
  have h63 : (2 : Nat) ^ 63 = 9223372036854775808 := by decide
  rw [IntWalk.i64_in _ (by omega)]
  omega

theorem byte_at {bs : List Int} (h : ∀ b ∈ bs, (0 : Int) ≤ b ∧ b ≤ 255) (i : Int) (h0 : 0 ≤ i) (h1 : i < bs.length) : 0 ≤ rd bs i ∧ rd bs i ≤ 255 := by
  have : rd bs i ∈ bs := by
    unfold rd
    rw [List.getD_eq_getElem?_getD, List.getElem?_eq_getElem (by omega)]
    exact List.getElem_mem _
  exact h _ this

set_option maxHeartbeats 4000000 in
theorem spec_pick (r : Nat) (k : Int) (B : Int) (w : World) (h : Rd w r B) (hB : B ≤ 1000000000) :
    Calls Try.prog 36 #[.pointer (some ⟨r, 0, none⟩), .int .i64 k] w fun e w' => ∃ x, e = .returned (.int .i64 x) ∧ (1 ≤ k → 0 ≤ x ∧ x < k) ∧ (k < 1 → x = 0) ∧ Rd w' r (B + 1) ∧ Dr r w w' := by
  obtain ⟨A, n, c, bs, p, h1, h2, h3, h4, h5, h6, h7, h8⟩ := h
  have HS := Aside0.mk (Rd.set h1 h2 h3 h4 h5 h6 (p + 1) (B + 1) (by omega))
  have c0 : w.cell? ⟨r, 0, none⟩ = some (.slice A n c) := (blk_cell h1 0).trans rfl
  have c1 : w.cell? ⟨r, 1, none⟩ = some (.int .i64 p) := (blk_cell h1 1).trans rfl
  have f1 := blk_frozen h1 1
  have hw1 : IntKind.i64.wrap (p + 1) = p + 1 := IntWalk.i64_in _ (by omega)
  by_cases hk : k < 1
  · have t1 : decide (k < 1) = true := decide_eq_true hk
    have HK := Aside0.mk hk
    clear hk h1 h2
    go_enter Try.func36, Try.ntmps36
    go_wp2
    go_ret
    exact ⟨0, rfl, fun hh => absurd HK.out (by omega), fun _ => rfl, HS.out, (Dr.refl r w).set _ _⟩
  · have t1 : decide (k < 1) = false := decide_eq_false hk
    by_cases hn : n = 0
    · have t2 : ((n : Int) == 0) = true := by rw [beq_iff_eq]; omega
      have HK := Aside0.mk hk
      clear hk h1 h2
      go_enter Try.func36, Try.ntmps36
      go_wp2
      go_ret
      exact ⟨0, rfl, fun hh => ⟨by omega, by omega⟩, fun _ => rfl, HS.out, (Dr.refl r w).set _ _⟩
    · have t2 : ((n : Int) == 0) = false := beq_eq_false_iff_ne.2 (by omega)
      have hw2 : IntKind.i64.wrap (p + 1 - 1) = p := by rw [IntWalk.i64_in _ (by omega)]; omega
      have e1 : p + 1 - 1 = p := by omega
      have hk0 : (k == 0) = false := beq_eq_false_iff_ne.2 (by omega)
      obtain rfl : bs.length = n := h2.1
      have hdr : Dr r w (w.setCell ⟨r, 1, none⟩ (.int .i64 (p + 1))) := (Dr.refl r w).set _ _
      have HD := Aside0.mk hdr
      have hx1 := blk_set h1 1 (.int .i64 (p + 1))
      have x0 : (w.setCell ⟨r, 1, none⟩ (.int .i64 (p + 1))).cell? ⟨r, 0, none⟩ = some (.slice A bs.length c) := (blk_cell hx1 0).trans (by simp)
      have x1 : (w.setCell ⟨r, 1, none⟩ (.int .i64 (p + 1))).cell? ⟨r, 1, none⟩ = some (.int .i64 (p + 1)) := (blk_cell hx1 1).trans (by simp)
      have hcell : ∀ i : Int, 0 ≤ i → i < bs.length → ∃ ad, A = some ad ∧ (w.setCell ⟨r, 1, none⟩ (.int .i64 (p + 1))).cell? (ad.add i.toNat) = some (.int .u8 (rd bs i)) := by
        intro i h0 hi
        obtain ⟨ad, hA, hc⟩ := Kd.at_int h2 i h0 hi
        refine ⟨ad, hA, ?_⟩
        rw [← hc]
        exact hdr.2.cell (by rw [show (ad.add i.toNat).block = ad.block from by unfold Addr.add; split <;> rfl]; exact h6 ad hA (by omega))
      have H3 := Aside0.mk h3
      by_cases hp : p < bs.length
      · obtain ⟨ad, hA, d0⟩ := hcell p h7 hp
        subst hA
        have hb := byte_at h3 p h7 hp
        obtain ⟨b, hbb⟩ : ∃ b, rd bs p = b := ⟨_, rfl⟩
        rw [hbb] at d0 hb
        have t3 : decide (p < (bs.length : Int)) = true := decide_eq_true hp
        have hwb : IntKind.i64.wrap b = b := IntWalk.i64_in _ (by omega)
        have HF := Aside0.mk (show 0 ≤ b % k ∧ b % k < k from ⟨Int.emod_nonneg _ (by omega), Int.emod_lt_of_pos _ (by omega)⟩)
        obtain ⟨w1, hw⟩ : ∃ w1, w1 = w.setCell ⟨r, 1, none⟩ (.int .i64 (p + 1)) := ⟨_, rfl⟩
        rw [← hw] at x0 x1 d0 HS HD
        have HW := Aside0.mk hw; clear hw
        have HX := Aside0.mk (And.intro x0 (And.intro x1 d0))
        clear hcell h1 h2 hx1 hdr h6 h3 x0 x1 d0
        go_enter Try.func36, Try.ntmps36
        go_upto_region 2 with (fail)
        rw [← HW.out]
        clear HW c0 c1 f1
        obtain ⟨x0, x1, d0⟩ := HX.out
        clear HX
        go_wp2
        go_ret
        refine ⟨_, rfl, ?_, ?_, HS.out, HD.out⟩
        · first | exact HF.out | exact fun _ => HF.out
        · first | (intro h; omega) | trivial
      · have hi1 : 0 ≤ Int.tmod p bs.length ∧ Int.tmod p bs.length < bs.length := ⟨Int.tmod_nonneg _ h7, Int.tmod_lt_of_pos _ (by omega)⟩
        have hi2 : 0 ≤ Int.tmod (p * 7 + 3) bs.length ∧ Int.tmod (p * 7 + 3) bs.length < bs.length := ⟨Int.tmod_nonneg _ (by omega), Int.tmod_lt_of_pos _ (by omega)⟩
        have hq : 0 ≤ Int.tdiv p bs.length ∧ Int.tdiv p bs.length ≤ p := ⟨Int.tdiv_nonneg h7 (by omega), Int.tdiv_le_self _ h7⟩
        obtain ⟨ad, hA, d0⟩ := hcell _ hi1.1 hi1.2
        obtain ⟨ad2, hA2, d1⟩ := hcell _ hi2.1 hi2.2
        subst hA
        cases hA2
        have hb1 := byte_at h3 _ hi1.1 hi1.2
        have hb2 := byte_at h3 _ hi2.1 hi2.2
        obtain ⟨i1, e2⟩ : ∃ i1, Int.tmod p bs.length = i1 := ⟨_, rfl⟩
        obtain ⟨i2, e3⟩ : ∃ i2, Int.tmod (p * 7 + 3) bs.length = i2 := ⟨_, rfl⟩
        obtain ⟨q, e4⟩ : ∃ q, Int.tdiv p bs.length = q := ⟨_, rfl⟩
        rw [e2] at hi1 d0 hb1
        rw [e3] at hi2 d1 hb2
        rw [e4] at hq
        obtain ⟨b1, hbb1⟩ : ∃ b, rd bs i1 = b := ⟨_, rfl⟩
        rw [hbb1] at d0 hb1
        obtain ⟨b2, hbb2⟩ : ∃ b, rd bs i2 = b := ⟨_, rfl⟩
        rw [hbb2] at d1 hb2
        clear hbb1 hbb2
        have t3 : decide (p < (bs.length : Int)) = false := decide_eq_false hp
        have v0 : IntKind.i64.wrap b1 = b1 := IntWalk.i64_in _ (by omega)
        have v1 : IntKind.i64.wrap (b1 * 131) = b1 * 131 := IntWalk.i64_in _ (by omega)
        have v2 : IntKind.i64.wrap (p * 7) = p * 7 := IntWalk.i64_in _ (by omega)
        have v3 : IntKind.i64.wrap (p * 7 + 3) = p * 7 + 3 := IntWalk.i64_in _ (by omega)
        have v4 : IntKind.i64.wrap b2 = b2 := IntWalk.i64_in _ (by omega)
        have v5 : IntKind.i64.wrap (b2 * 1117) = b2 * 1117 := IntWalk.i64_in _ (by omega)
        have v6 : IntKind.i64.wrap (b1 * 131 + b2 * 1117) = b1 * 131 + b2 * 1117 := IntWalk.i64_in _ (by omega)
        have v7 : IntKind.i64.wrap (p * 29) = p * 29 := IntWalk.i64_in _ (by omega)
        have v8 : IntKind.i64.wrap (b1 * 131 + b2 * 1117 + p * 29) = b1 * 131 + b2 * 1117 + p * 29 := IntWalk.i64_in _ (by omega)
        have v9 : IntKind.i64.wrap q = q := IntWalk.i64_in _ (by omega)
        have v10 : IntKind.i64.wrap (q * 53) = q * 53 := IntWalk.i64_in _ (by omega)
        have v11 : IntKind.i64.wrap (b1 * 131 + b2 * 1117 + p * 29 + q * 53) = b1 * 131 + b2 * 1117 + p * 29 + q * 53 := IntWalk.i64_in _ (by omega)
        obtain ⟨w1, hw⟩ : ∃ w1, w1 = w.setCell ⟨r, 1, none⟩ (.int .i64 (p + 1)) := ⟨_, rfl⟩
        rw [← hw] at x0 x1 d0 d1 HS HD
        have HW := Aside0.mk hw; clear hw
        have HX := Aside0.mk (And.intro x0 (And.intro x1 (And.intro d0 d1)))
        clear hcell h1 h2 hx1 hdr h6 h3 x0 x1 d0 d1
        go_enter Try.func36, Try.ntmps36
        go_upto_region 2 with (fail)
        rw [← HW.out]
        clear HW c0 c1 f1
        obtain ⟨x0, x1, d0, d1⟩ := HX.out
        clear HX
        go_upto_region 7 with (fail)
        obtain ⟨i1p, i1q⟩ := hi1
        obtain ⟨i2p, i2q⟩ := hi2
        go_quiet (fail)
        obtain ⟨X, hX, hX0, hX1⟩ : ∃ X, X = b1 * 131 + b2 * 1117 + p * 29 + q * 53 ∧ 0 ≤ X ∧ X < 1000000000000 := ⟨_, rfl, by omega, by omega⟩
        rw [← hX]
        have HY := xor_nonneg X (X / 64) (by omega) (by omega)
        obtain ⟨Y, hY⟩ : ∃ Y, Go.bits .xor .i64 X (X / 64) = Y := ⟨_, rfl⟩
        rw [hY] at HY
        have HF := Aside0.mk (show 0 ≤ Y % k ∧ Y % k < k from ⟨Int.emod_nonneg _ (by omega), Int.emod_lt_of_pos _ (by omega)⟩)
        clear hX v0 v1 v2 v3 v4 v5 v6 v7 v8 v9 v10 v11 e2 e3 e4 hw1 hw2
        go_wp2
        go_ret
        refine ⟨_, rfl, ?_, ?_, HS.out, HD.out.drewN _⟩
        · first | exact HF.out | exact fun _ => HF.out
        · first | (intro h; omega) | trivial
end Go.Proofs.Ytdmbbocjaagfkaa.Z
