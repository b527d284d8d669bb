/- Draws: what the laws of pairs draw. -/
import Derived.Test.YtdmbbocjaagfkaaDc
namespace Go.Proofs.Ytdmbbocjaagfkaa.Z
open Go.RowKit Go.Proofs.YtdmbbocjaagfkaaW.PrintWords Go.Proofs.YtdmbbocjaagfkaaW.PrintLast
set_option linter.unusedVariables false
set_option linter.unusedSimpArgs false
attribute [local go_sem ↓] Go.wp_at_zero Go.wp_at_succ

theorem Wn.moved {α : Type} {d : Kd α} {w w1 : World} {base : Nat} {v : Value} {xs : List α} (hKK : ∀ w w' x cs, d.K w x cs → d.K w' x cs) (h : Wn d w base v xs) (hs : w.heap.size ≤ w1.heap.size) (hk : ∀ b, base ≤ b → b < w.heap.size → w1.heap[b]? = w.heap[b]?) : Wn d w1 base v xs := by
  obtain ⟨A, c, rfl, hl, hC, h2, h3⟩ := h
  refine ⟨A, c, rfl, hl, ⟨rfl, hC.2.1, fun hp => ?_⟩, h2, fun ad hA => ?_⟩
  · obtain ⟨ad, e, hc⟩ := hC.2.2 hp
    obtain ⟨b, off, rfl, hb, hlt, _⟩ := h3 ad e
    refine ⟨_, e, fun j p hj => ?_⟩
    obtain ⟨cs, k1, k2, k3⟩ := hc j p hj
    refine ⟨cs, k1, hKK _ _ _ _ k2, fun i u hu => ?_⟩
    rw [← k3 i u hu, Addr.add_lit]
    exact World.cell?_of_block (hk b hb hlt)
  · obtain ⟨b, off, e, hb, hlt, hj⟩ := h3 ad hA
    refine ⟨b, off, e, hb, by omega, fun j h4 h5 => ?_⟩
    have he := hk b hb hlt
    rw [World.cell?_of_block (a := ⟨b, off + j, none⟩) he, World.frozen?_of_block (a := ⟨b, off + j, none⟩) he]
    exact hj j h4 h5
theorem Wn.dr {α : Type} {d : Kd α} {w w1 : World} {base r : Nat} {v : Value} {xs : List α} (hKK : ∀ w w' x cs, d.K w x cs → d.K w' x cs) (h : Wn d w base v xs) (hd : Dr r w w1) (hr : r < base) : Wn d w1 base v xs :=
  h.moved hKK hd.size (fun b hb hlt => hd.1.2 b hlt (by omega) (by simp))
theorem code_lt {w : World} {A : Option Addr} {n : Nat} {bs : List Int} (hC : Kd.C (Kd.int .u8) w A n bs) : ∀ ad, A = some ad → 0 < n → ad.block < w.heap.size := by
  intro ad hA hn
  obtain ⟨ad2, e, hc⟩ := Kd.at_int hC 0 (by omega) (by omega)
  rw [hA] at e
  cases e
  have := World.block_lt_of_cell? w _ hc
  rwa [show (ad.add (0 : Int).toNat).block = ad.block from by unfold Addr.add; split <;> rfl] at this

set_option maxHeartbeats 4000000 in
theorem spec_DrawMapOk (A : Option Addr) (n c : Nat) (bs : List Int) (w : World) (hC : Kd.C (Kd.int .u8) w A n bs) (hb : ∀ b ∈ bs, (0 : Int) ≤ b ∧ b ≤ 255) (hc : n ≤ c) :
    Calls Try.prog 16 #[.slice A n c] w fun e w' => ∃ v xs, e = .returned v ∧ Wn kPr w' w.heap.size v xs ∧ xs.length ≤ 11 ∧ Below w.heap.size w w' := by
  have HC := Aside0.mk hC; clear hC
  go_enter Try.func16, Try.ntmps16
  go_wp2_with fail; refine (spec_l6Open A n c bs _ HC.out hb hc (code_lt HC.out)).mono ?_; rintro e w1 ⟨r, rfl, hr, hR1, hb1⟩
  have hlt1 := hR1.lt
  go_wp2_with fail; refine (spec_l71Map r 0 _ hR1 (by omega)).mono ?_; rintro e w2 ⟨v2, xs, rfl, hW2, hl2, hR2, hD2⟩
  go_wp2_with fail; refine (spec_pick r 4 _ _ hR2 (by omega)).mono ?_; rintro e w3 ⟨x3, rfl, hx3, _, hR3, hD3⟩
  have hW3 := Aside0.mk (hW2.dr kPr_KK hD3 hlt1)
  have hD := Aside0.mk (hD2.trans hD3)
  clear hW2 hD2 hD3 hx3
  by_cases h0 : x3 = 0
  · subst h0
    go_wp2_with fail; refine (spec_pick r 9 _ _ hR3 (by omega)).mono ?_; rintro e w4 ⟨x4, rfl, hx4, _, hR4, hD4⟩
    have hW4 := Aside0.mk (hW3.out.dr kPr_KK hD4 hlt1)
    obtain ⟨hx4a, hx4b⟩ := hx4 (by omega)
    go_wp2_with fail; refine (spec_l71End r _ _ hR4 (by omega)).mono ?_; rintro e w5 ⟨q, rfl, hq, hR5, hD5⟩
    have hW5 := Aside0.mk (hW4.out.dr kPr_KK hD5 hlt1)
    have hD5 := Aside0.mk ((hD.out.trans hD4).trans hD5)
    have hz5 := hD5.out.size
    go_wp2_with (at_builtin; refine W_append kPr (w0 := w5) w1.heap.size rfl (.tmp 12) (.tmp 19) 25 34 (.agg #[(.int .i64 0), (.int .i64 0), (.int .i64 0)]) 24 rfl Try.underlying25 infoPr rfl (by decide) (by omega) v2 xs ⟨10 + x4, q⟩ [.int .i64 (10 + x4), .int .i64 q.addr, .int .i64 q.port] rfl rfl kPr_KK (kPr_mk _ _) hW5.out (Below.refl _ _) hz5 (by omega) ?_; intro v6 w6 hW6 hb6)
    go_ret
    exact ⟨_, _, rfl, hW6.lower hb1.size, by simp; omega, (hb1.trans (hD5.out.2.mono hr)).trans (hb6.mono hb1.size)⟩
  · have t0 : (x3 == 0) = false := beq_eq_false_iff_ne.2 h0
    go_wp2
    go_ret
    exact ⟨_, _, rfl, hW3.out.lower hb1.size, by omega, hb1.trans (hD.out.2.mono hr)⟩

set_option maxHeartbeats 4000000 in
theorem spec_DrawMapIn (A : Option Addr) (n c : Nat) (bs : List Int) (w : World) (hC : Kd.C (Kd.int .u8) w A n bs) (hb : ∀ b ∈ bs, (0 : Int) ≤ b ∧ b ≤ 255) (hc : n ≤ c) :
    Calls Try.prog 20 #[.slice A n c] w fun e w' => ∃ v xs, ∃ port : Int, e = .returned (.tuple #[v, .int .i64 port]) ∧ Wn kPr w' w.heap.size v xs ∧ xs.length ≤ 11 ∧ -100 ≤ port ∧ port ≤ 100 ∧ Below w.heap.size w w' := by
  have HC := Aside0.mk hC; clear hC
  go_enter Try.func20, Try.ntmps20
  go_wp2_with fail; refine (spec_l6Open A n c bs _ HC.out hb hc (code_lt HC.out)).mono ?_; rintro e w1 ⟨r, rfl, hr, hR1, hb1⟩
  have hlt1 := hR1.lt
  go_wp2_with fail; refine (spec_l71Map r 0 _ hR1 (by omega)).mono ?_; rintro e w2 ⟨v2, xs, rfl, hW2, hl2, hR2, hD2⟩
  obtain ⟨A2, c2, he, hlc, _⟩ := hW2.reads
  subst he
  have hW2 := Aside0.mk hW2
  have s1 : (xs.length : Int) + 1 ≤ 9223372036854775807 := by omega
  go_wp2_with fail; refine (spec_pick r (xs.length + 1) _ _ hR2 (by omega)).mono ?_; rintro e w3 ⟨x3, rfl, hx3, _, hR3, hD3⟩
  obtain ⟨hx3a, hx3b⟩ := hx3 (by omega)
  go_wp2_with fail; refine (spec_pick r 12 _ _ hR3 (by omega)).mono ?_; rintro e w4 ⟨x4, rfl, hx4, _, hR4, hD4⟩
  obtain ⟨hx4a, hx4b⟩ := hx4 (by omega)
  have hW4 := Aside0.mk ((hW2.out.dr kPr_KK hD3 hlt1).dr kPr_KK hD4 hlt1)
  have hD := Aside0.mk ((hD2.trans hD3).trans hD4)
  clear hD2 hD3 hD4 hx3 hx4
  go_wp2
  go_ret2
  exact ⟨_, xs, _, rfl, hW4.out.lower hb1.size, by omega, by omega, by omega, hb1.trans (hD.out.2.mono hr)⟩
end Go.Proofs.Ytdmbbocjaagfkaa.Z
