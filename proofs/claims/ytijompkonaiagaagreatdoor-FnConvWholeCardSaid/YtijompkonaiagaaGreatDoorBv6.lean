/- The reference's l3Out plainly; its l3PieceOut: a contract of mine in the print's own form. Plain laws of the printed functions: the reference's text out; what the laws of texts draw. Plain laws of the printed functions: how much is held; whether a text names no end of the door. Two conversations compared. ConvNew of the program and of the reference, walked: what they hand back. The law FnConvWhole: whatever conversation is drawn, what may be said is said to its end. How a row's argument, read as data, is a value of one of our kinds. How a row's code, a slice of bytes, is a list of small numbers. For every code FnConvWhole returns true and leaves its arguments as they were: what is said is said to its end. -/
import Derived.Test.YtijompkonaiagaaGreatDoorRows
import Derived.Test.YtijompkonaiagaaGreatDoorTie
import Derived.Test.YtijompkonaiagaaGreatDoorCards
import Derived.Test.YtijompkonaiagaaGreatDoorBv5
import Derived.Deep.Slices
import Derived.ChangeArms
import Derived.SevenTiedAt
import Derived.WalkKit
import Derived.ProofKit
import Derived.OpenShut
import Derived.ShutString
import Derived.ChangeOld
import Derived.Below
import Derived.SizedLaws
namespace Go.Proofs.YtijompkonaiagaaGreatDoor.Q
open Go.RowKit Go.Proofs.YtijompkonaiagaaGreatDoorW.PrintWords Go.Proofs.YtijompkonaiagaaGreatDoorW.PrintMore Go.Proofs.YtijompkonaiagaaGreatDoor.Z
set_option linter.unusedVariables false
set_option linter.unusedSimpArgs false
attribute [local go_sem ↓] Go.wp_at_zero Go.wp_at_succ
theorem w64f {x : Int} (h : -9223372036854775808 ≤ x ∧ x ≤ 9223372036854775807) : wrap64 x = x := by unfold wrap64; omega
theorem rd_prTo (m : List Pr) (i : Nat) (p : Pr) (h : m[i]? = some p) : rd_T69 (m.map prTo) (i : Int) = prTo p := by
  unfold rd_T69
  rw [Int.toNat_natCast, List.getD_eq_getElem?_getD, List.getElem?_map, h]
  rfl
theorem l3Out_at (m : List Pr) (hm : m.length ≤ 1099511627776) (e : En) (n : Nat) : ∀ (k i : Nat), m.length - i ≤ n → n < k → i ≤ m.length →
    spec_l3Out.l0 k (m.map prTo) i e.addr e.port = some (match outAt m e i with
      | some p => (m.map prTo, p.port, true)
      | none => if 7 < m.length then (m.map prTo, 0, false) else ((m ++ [(⟨10 + (m.length : Int), e⟩ : Pr)]).map prTo, 10 + (m.length : Int), true)) := by
  induction n with
  | zero =>
    intro k i hn hk hi
    obtain ⟨k, rfl⟩ : ∃ m, k = m + 1 := ⟨k - 1, by omega⟩
    simp only [spec_l3Out.l0, List.length_map]
    rw [if_neg (by omega), outAt_end m e i (by omega)]
    simp only
    by_cases h7 : 7 < m.length
    · rw [if_pos (by omega), if_pos h7]
    · rw [if_neg (by omega), if_neg h7, if_pos (by omega), w64f (by omega), List.map_append]
      rfl
  | succ n ih =>
    intro k i hn hk hi
    obtain ⟨k, rfl⟩ : ∃ m, k = m + 1 := ⟨k - 1, by omega⟩
    by_cases hlt : i < m.length
    · simp only [spec_l3Out.l0, List.length_map]
      rw [if_pos (by omega), if_pos (by omega)]
      obtain ⟨p, hp⟩ : ∃ p, m[i]? = some p := ⟨_, List.getElem?_eq_getElem hlt⟩
      have hpd : m.getD i zPr = p := by rw [List.getD_eq_getElem?_getD, hp]; rfl
      rw [rd_prTo m i p hp]
      by_cases he : p.inside = e
      · rw [if_pos (by show (p.inside.addr == e.addr && p.inside.port == e.port) = true; rw [he]; simp), outAt_hit hlt ⟨hpd⟩ he]
        rfl
      · rw [if_neg (by
          show ¬ (p.inside.addr == e.addr && p.inside.port == e.port) = true
          rw [Bool.and_eq_true, beq_iff_eq, beq_iff_eq]
          rintro ⟨h1, h2⟩
          apply he
          cases hx : p.inside
          cases e
          rw [hx] at h1 h2
          simp only at h1 h2
          rw [h1, h2]), w64f (by omega)]
        have := ih k (i + 1) (by omega) (by omega) (by omega)
        rw [show ((i + 1 : Nat) : Int) = (i : Int) + 1 from by omega] at this
        rw [this, outAt_miss hlt ⟨hpd⟩ he]
    · obtain rfl : i = m.length := by omega
      simp only [spec_l3Out.l0, List.length_map]
      rw [if_neg (by omega), outAt_end m e _ (Nat.le_refl _)]
      simp only
      by_cases h7 : 7 < m.length
      · rw [if_pos (by omega), if_pos h7]
      · rw [if_neg (by omega), if_neg h7, if_pos (by omega), w64f (by omega), List.map_append]
        rfl
theorem l3Out_to (k : Nat) (m : List Pr) (hm : m.length ≤ 1099511627776) (hk : m.length < k) (e : En) : spec_l3Out.f k (m.map prTo) e.addr e.port = some ((outS m e).1.map prTo, (outS m e).2.1, (outS m e).2.2) := by
  unfold spec_l3Out.f
  have := l3Out_at m hm e m.length k 0 (by omega) hk (Nat.zero_le _)
  rw [show ((0 : Nat) : Int) = 0 from rfl] at this
  rw [this, outS_of]
  cases outAt m e 0 with
  | some p => rfl
  | none => simp only; split <;> rfl
def pieceOut (m : List Pr) (named : Bool) (e : En) (t : List UInt8) : List Pr × List UInt8 := if named && insideB e then (if (outS m e).2.2 then ((outS m e).1, nameOf ⟨9, (outS m e).2.1⟩) else (m, t)) else (m, t)
def spec_l3PieceOut.f (l0 : List S69) (a1_0 : Int) (a1_1 : Bool) (a1_2 : Int) (a1_3 : Int) (a2 : ByteArray) : Option (List S69 × ByteArray) :=
  if l0.length ≤ 1099511627776 then some ((pieceOut (l0.map prOf) a1_1 ⟨a1_2, a1_3⟩ (bl a2)).1.map prTo, ⟨(pieceOut (l0.map prOf) a1_1 ⟨a1_2, a1_3⟩ (bl a2)).2.toArray⟩) else none
set_option maxHeartbeats 1000000 in
theorem spec_l3PieceOut.calls (P0_ : Nat → Prop) (u9000_ : Value) (l0 : List (S69)) (a1_0 : Int) (a1_1 : Bool) (a1_2 : Int) (a1_3 : Int) (a2 : ByteArray) (r1 : List (S69)) (r2 : ByteArray) (w0 w : World) (hB : Below w0.heap.size w0 w) (ho0 : Kd.R k69 69 w w0.heap.size P0_ u9000_ l0) (h : spec_l3PieceOut.f l0 a1_0 a1_1 a1_2 a1_3 a2 = some (r1, r2)) :
    Calls Tryz.prog 63 #[u9000_, .agg #[.int .i64 a1_0, .bool a1_1, .int .i64 a1_2, .int .i64 a1_3], .string a2] w fun e w' => ∃ v0_ : Value, e = .returned (.tuple #[v0_, .string r2]) ∧ Kd.R k69 69 w' w0.heap.size (fun k_ => (P0_ k_ ∨ w.heap.size ≤ k_)) v0_ r1 ∧ Below w0.heap.size w0 w' ∧ Kept w w' (fun k_ => P0_ k_) := by
  unfold spec_l3PieceOut.f at h
  split at h
  · rename_i hs
    have h2 := Option.some.inj h
    simp only [Prod.mk.injEq] at h2
    obtain ⟨h3, h4⟩ := h2
    have HO := Aside0.mk ho0
    have HB := Aside0.mk hB
    clear h ho0 hB
    have hin : (⟨a1_2, a1_3⟩ : En) = ⟨a1_2, a1_3⟩ := rfl
    obtain ⟨A, c, e9⟩ := Kd.R_slice HO.out
    subst e9
    have hstay : ∀ n : Bool, (n && insideB ⟨a1_2, a1_3⟩ && (outS (l0.map prOf) ⟨a1_2, a1_3⟩).2.2) = false → (pieceOut (l0.map prOf) n ⟨a1_2, a1_3⟩ (bl a2)).1.map prTo = l0 ∧ (⟨(pieceOut (l0.map prOf) n ⟨a1_2, a1_3⟩ (bl a2)).2.toArray⟩ : ByteArray) = a2 := by
      intro n hn
      unfold pieceOut
      cases hc : (n && insideB ⟨a1_2, a1_3⟩)
      · exact ⟨prs_to_of l0, rfl⟩
      · rw [hc, Bool.true_and] at hn
        rw [hn]
        exact ⟨prs_to_of l0, rfl⟩
    cases a1_1 with
    | false =>
      obtain ⟨e1, e2⟩ := hstay false rfl
      rw [e1] at h3
      rw [e2] at h4
      subst h3 h4
      clear hstay e1 e2
      go_enter Tryz.func63, Tryz.ntmps63
      go_wp2
      go_ret2
      exact ⟨_, rfl, Kd.R_alloc (Kd.R_mono HO.out (fun _ hk => .inl hk)) _, below_alloc HB.out _, (Kept.refl w _).alloc _⟩
    | true =>
      cases hi : insideB ⟨a1_2, a1_3⟩ with
      | false =>
        obtain ⟨e1, e2⟩ := hstay true (by rw [hi]; rfl)
        rw [e1] at h3
        rw [e2] at h4
        subst h3 h4
        have HI := Aside0.mk (show spec_EndInside.f a1_2 a1_3 = some false from congrArg some hi)
        clear hstay e1 e2 hi
        go_enter Tryz.func63, Tryz.ntmps63
        go_wp2_with (go_at_call 46; refine (spec_EndInside.calls a1_2 a1_3 false _ HI.out).mono ?_; rintro e w2 ⟨rfl, hb⟩; have HB2 := Aside0.mk hb; clear hb)
        go_ret2
        exact ⟨_, rfl, Kd.R_below (Kd.R_alloc (Kd.R_mono HO.out (fun _ hk => .inl hk)) _) HB2.out, below_step (below_alloc HB.out _) HB2.out, ((Kept.refl w _).alloc _).below HB2.out⟩
      | true =>
        have HI := Aside0.mk (show spec_EndInside.f a1_2 a1_3 = some true from congrArg some hi)
        have HL := Aside0.mk (l3Out_to (l0.length + 1) (l0.map prOf) (by rw [List.length_map]; exact hs) (by rw [List.length_map]; omega) ⟨a1_2, a1_3⟩)
        rw [prs_to_of] at HL
        obtain ⟨x1, x2, x3, hx⟩ : ∃ x1 x2 x3, outS (l0.map prOf) ⟨a1_2, a1_3⟩ = (x1, x2, x3) := ⟨_, _, _, rfl⟩
        rw [hx] at HL
        have hk2 : ∀ w2 : World, Below (w.alloc (.cells #[.int .i64 a1_0, .bool true, .int .i64 a1_2, .int .i64 a1_3] 67 (0, 0))).heap.size (w.alloc (.cells #[.int .i64 a1_0, .bool true, .int .i64 a1_2, .int .i64 a1_3] 67 (0, 0))) w2 → w.heap.size ≤ w2.heap.size ∧ Kept w w2 (fun k_ => P0_ k_) := fun w2 hb => ⟨(((Kept.refl w (fun k_ => P0_ k_)).alloc _).below hb).1, ((Kept.refl w _).alloc _).below hb⟩
        cases x3 with
        | false =>
          obtain ⟨e1, e2⟩ := hstay true (by rw [hx]; simp)
          rw [e1] at h3
          rw [e2] at h4
          have hx1 : x1.map prTo = l0 := by
            have h8 := congrArg (fun t : List Pr × Int × Bool => (t.2.2, t.1)) hx
            simp only [Prod.mk.injEq] at h8
            have h9 : (outS (l0.map prOf) ⟨a1_2, a1_3⟩).1 = l0.map prOf := by
              have h10 := h8.1
              rw [outS_of] at h10 ⊢
              cases hq : outAt (l0.map prOf) ⟨a1_2, a1_3⟩ 0 with
              | some p => rfl
              | none =>
                rw [hq] at h10
                simp only at h10 ⊢
                split at h10
                · rename_i h7; rw [if_pos h7]
                · cases h10
            rw [← h8.2, h9, prs_to_of]
          rw [hx1] at HL
          subst h3 h4
          clear hstay e1 e2 hi hx hx1
          go_enter Tryz.func63, Tryz.ntmps63
          go_wp2_with (first
            | (go_at_call 46; refine (spec_EndInside.calls a1_2 a1_3 true _ HI.out).mono ?_; rintro e w2 ⟨rfl, hb⟩; have BK := blk_below (g := w.heap.size) (o := .cells #[.int .i64 a1_0, .bool true, .int .i64 a1_2, .int .i64 a1_3] 67 (0, 0)) (heap_alloc_new w _) hb; have c2 : w2.cell? ⟨w.heap.size, 2, none⟩ = some (.int .i64 a1_2) := (blk_cell BK 2).trans rfl; have c3 : w2.cell? ⟨w.heap.size, 3, none⟩ = some (.int .i64 a1_3) := (blk_cell BK 3).trans rfl; have z2 := blk_frozen BK 2; have z3 := blk_frozen BK 3; have HB2 := Aside0.mk hb; clear hb BK)
            | (go_at_call 95; refine (spec_l3Out.calls2 (l0.length + 1) P0_ (.slice A l0.length c) l0 a1_2 a1_3 _ _ _ w0 _ ?hB ?hR HL.out).mono ?_; (case hB => exact below_step (below_alloc HB.out _) HB2.out); (case hR => exact Kd.R_below (Kd.R_alloc HO.out _) HB2.out); rintro e w3 ⟨v3, rfl, hR3, hB3, hK3, hv3⟩; have HR3 := Aside0.mk hR3; have HB3 := Aside0.mk hB3; have HK3 := Aside0.mk hK3; have HV3 := Aside0.mk (hv3 rfl); clear hR3 hB3 hK3 hv3))
          obtain ⟨hs2, hK2⟩ := hk2 _ HB2.out
          go_ret2
          exact ⟨_, rfl, by rw [← HV3.out]; exact Kd.R_mono HR3.out (fun k hk => hk.elim .inl (fun h9 => .inr (Nat.le_trans hs2 h9))), HB3.out, hK2.then_ HK3.out (fun _ hk => .inl hk)⟩
        | true =>
          have hm : pieceOut (l0.map prOf) true ⟨a1_2, a1_3⟩ (bl a2) = (x1, nameOf ⟨9, x2⟩) := by
            unfold pieceOut
            rw [hi, hx]
            rfl
          rw [hm] at h3 h4
          simp only at h3 h4
          subst h3
          have hl := endText_len ⟨9, x2⟩
          have HE := Aside0.mk (show spec_EndText.f 9 x2 = some ⟨(endText ⟨9, x2⟩).toArray⟩ from rfl)
          have H4 := Aside0.mk (show ((⟨#[64]⟩ : ByteArray) ++ ⟨(endText ⟨9, x2⟩).toArray⟩) ++ (⟨#[59]⟩ : ByteArray) = r2 by
            rw [← h4]
            apply ByteArray.ext
            simp [nameOf])
          have s1 : ((⟨#[64]⟩ : ByteArray) ++ ⟨(endText ⟨9, x2⟩).toArray⟩).size = 1 + (endText ⟨9, x2⟩).length := by rw [ByteArray.size_append]; rfl
          have s2 : (⟨(endText ⟨9, x2⟩).toArray⟩ : ByteArray).size = (endText ⟨9, x2⟩).length := rfl
          have t1 : ¬ (9223372036854775807 < 1 + (endText ⟨9, x2⟩).length) := by omega
          have t2 : ¬ (9223372036854775807 < 1 + (endText ⟨9, x2⟩).length + 1) := by omega
          clear hstay hi hx h4 hm hl
          go_enter Tryz.func63, Tryz.ntmps63
          go_wp2_with (first
            | (go_at_call 46; refine (spec_EndInside.calls a1_2 a1_3 true _ HI.out).mono ?_; rintro e w2 ⟨rfl, hb⟩; have BK := blk_below (g := w.heap.size) (o := .cells #[.int .i64 a1_0, .bool true, .int .i64 a1_2, .int .i64 a1_3] 67 (0, 0)) (heap_alloc_new w _) hb; have c2 : w2.cell? ⟨w.heap.size, 2, none⟩ = some (.int .i64 a1_2) := (blk_cell BK 2).trans rfl; have c3 : w2.cell? ⟨w.heap.size, 3, none⟩ = some (.int .i64 a1_3) := (blk_cell BK 3).trans rfl; have z2 := blk_frozen BK 2; have z3 := blk_frozen BK 3; have HB2 := Aside0.mk hb; clear hb BK)
            | (go_at_call 95; refine (spec_l3Out.calls2 (l0.length + 1) P0_ (.slice A l0.length c) l0 a1_2 a1_3 _ _ _ w0 _ ?hB ?hR HL.out).mono ?_; (case hB => exact below_step (below_alloc HB.out _) HB2.out); (case hR => exact Kd.R_below (Kd.R_alloc HO.out _) HB2.out); rintro e w3 ⟨v3, rfl, hR3, hB3, hK3, hv3⟩; have HR3 := Aside0.mk hR3; have HB3 := Aside0.mk hB3; have HK3 := Aside0.mk hK3; skip; clear hR3 hB3 hK3 hv3)
            | (go_at_call 85; refine (spec_EndText.calls 9 x2 _ _ HE.out).mono ?_; rintro e w4 ⟨rfl, hb⟩; have HB4 := Aside0.mk hb; clear hb))
          obtain ⟨hs2, hK2⟩ := hk2 _ HB2.out
          go_ret2
          refine ⟨_, ?_, Kd.R_below (Kd.R_mono HR3.out (fun k hk => hk.elim .inl (fun h9 => .inr (Nat.le_trans hs2 h9)))) HB4.out, below_step HB3.out HB4.out, (hK2.then_ HK3.out (fun _ hk => .inl hk)).below HB4.out⟩
          rw [← H4.out]
          rfl
  · cases h
end Go.Proofs.YtijompkonaiagaaGreatDoor.Q
namespace Go.Proofs.YtijompkonaiagaaGreatDoor.Q
open Go.RowKit Go.Proofs.YtijompkonaiagaaGreatDoorW.PrintWords Go.Proofs.YtijompkonaiagaaGreatDoorW.PrintMore Go.Proofs.YtijompkonaiagaaGreatDoor.Z
set_option linter.unusedVariables false
set_option linter.unusedSimpArgs false
theorem rd_ends (es : List En) (i : Nat) (e : En) (h : es[i]? = some e) : rd_T24 (es.map enTo) (i : Int) = enTo e := by
  unfold rd_T24
  rw [Int.toNat_natCast, List.getD_eq_getElem?_getD, List.getElem?_map, h]
  rfl
theorem names_len40 (l : List UInt8) : (names (pieces l)).length ≤ 40 := by
  have h := pieces_len l
  unfold names
  rw [List.length_map]
  have h9 := List.length_filter_le (fun p : Pc => p.named) (pieces l)
  omega
end Go.Proofs.YtijompkonaiagaaGreatDoor.Q
namespace Go.Proofs.YtijompkonaiagaaGreatDoor.Q
open Go.RowKit Go.Proofs.YtijompkonaiagaaGreatDoorW.PrintWords Go.Proofs.YtijompkonaiagaaGreatDoorW.PrintLast Go.Proofs.YtijompkonaiagaaGreatDoorW.PrintMore
attribute [local go_sem] max2_int min2_int max_two min_two max_three min_three max_four min_four
set_option linter.unusedVariables false
set_option linter.unusedSimpArgs false
noncomputable section
def impl_TextHeld.f (a0 : ByteArray) : Option (Int) := (impl_TextOk.f a0).bind fun t101 => (if t101 = true then ((impl_held.f a0).bind fun t102 => (some t102)) else (some 0))
set_option maxHeartbeats 8000000 in
set_option maxRecDepth 100000 in
theorem impl_TextHeld.calls (a0 : ByteArray) (r : Int) (w : World) (h : impl_TextHeld.f a0 = some r) :
    Calls Tryz.prog 17 #[.string a0] w fun e w' => e = .returned (.int .i64 r) ∧ Below w.heap.size w w' := by
  have HB := Aside0.mk (Below.refl w.heap.size w)
  have H : ((impl_TextOk.f a0).bind fun t101 => (if t101 = true then ((impl_held.f a0).bind fun t102 => (some t102)) else (some 0))) = some r := h
  clear h
  replace H := Option.bind_eq_some_iff.mp H
  obtain ⟨t101, A20, H⟩ := H
  replace H : (if t101 = true then ((impl_held.f a0).bind fun t102 => (some t102)) else (some 0)) = some r := H
  have A2 := Aside0.mk A20
  clear A20
  by_cases c3 : t101 = true
  · subst c3
    have H1 : ((impl_held.f a0).bind fun t102 => (some t102)) = some r := by rw [if_pos rfl] at H; exact H
    clear H
    have H := H1
    clear H1
    replace H := Option.bind_eq_some_iff.mp H
    obtain ⟨t102, A40, H⟩ := H
    replace H : (some t102) = some r := H
    have A4 := Aside0.mk A40
    clear A40
    obtain rfl := Option.some.inj H
    go_enter Tryz.func17, Tryz.ntmps17
    go_wp2_with (first | ((with_reducible refine gate_callee (f := 53) rfl ?_); refine goesL_ (some 4) rfl rfl Tryz.func53 (by kernel_rfl) rfl #[.string a0] rfl (by (try simp only [List.map_toArray, List.map_cons, List.map_nil]); first | done | rfl | (simp only [List.length_drop, List.length_take]; rfl)) ?_; (with_reducible refine (impl_TextOk.calls a0 true _ A2.out).mono ?_); rintro e w5 ⟨rfl, hb⟩; refine ⟨_, rfl, ?_⟩; have n0_ := Aside0.mk (below_step (by repeat (first | (with_reducible first | exact HB.out | apply below_alloc | apply pw_below_drewN | apply below_drew1) | exact HB.out)) hb); clear HB; have HB := n0_; clear n0_; (try clear hb); (try clear hb2); (try clear hk); (try clear hi)) | ((with_reducible refine gate_callee (f := 54) rfl ?_); refine goesL_ (some 7) rfl rfl Tryz.func54 (by kernel_rfl) rfl #[.string a0] rfl (by (try simp only [List.map_toArray, List.map_cons, List.map_nil]); first | done | rfl | (simp only [List.length_drop, List.length_take]; rfl)) ?_; (with_reducible refine (impl_held.calls a0 t102 _ A4.out).mono ?_); rintro e w6 ⟨rfl, hb⟩; refine ⟨_, rfl, ?_⟩; have n0_ := Aside0.mk (below_step (by repeat (first | (with_reducible first | exact HB.out | apply below_alloc | apply pw_below_drewN | apply below_drew1) | exact HB.out)) hb); clear HB; have HB := n0_; clear n0_; (try clear hb); (try clear hb2); (try clear hk); (try clear hi)))
    go_ret
    exact ⟨by first | rfl | (simp [errW_none, errW_some] <;> rfl) | (simp [*, errW_none, errW_some] <;> rfl), by repeat (first | (with_reducible first | exact HB.out | apply below_alloc | apply pw_below_drewN | apply below_drew1) | exact HB.out)⟩
  · replace c3 := Bool.eq_false_iff.mpr c3
    subst c3
    have H1 : (some 0) = some r := by rw [if_neg (show ¬ (false = true) by decide)] at H; exact H
    clear H
    have H := H1
    clear H1
    obtain rfl := Option.some.inj H
    go_enter Tryz.func17, Tryz.ntmps17
    go_wp2_with (first | ((with_reducible refine gate_callee (f := 53) rfl ?_); refine goesL_ (some 4) rfl rfl Tryz.func53 (by kernel_rfl) rfl #[.string a0] rfl (by (try simp only [List.map_toArray, List.map_cons, List.map_nil]); first | done | rfl | (simp only [List.length_drop, List.length_take]; rfl)) ?_; (with_reducible refine (impl_TextOk.calls a0 false _ A2.out).mono ?_); rintro e w7 ⟨rfl, hb⟩; refine ⟨_, rfl, ?_⟩; have n0_ := Aside0.mk (below_step (by repeat (first | (with_reducible first | exact HB.out | apply below_alloc | apply pw_below_drewN | apply below_drew1) | exact HB.out)) hb); clear HB; have HB := n0_; clear n0_; (try clear hb); (try clear hb2); (try clear hk); (try clear hi)))
    go_ret
    exact ⟨by first | rfl | (simp [errW_none, errW_some] <;> rfl) | (simp [*, errW_none, errW_some] <;> rfl), by repeat (first | (with_reducible first | exact HB.out | apply below_alloc | apply pw_below_drewN | apply below_drew1) | exact HB.out)⟩
end
end Go.Proofs.YtijompkonaiagaaGreatDoor.Q
namespace Go.Proofs.YtijompkonaiagaaGreatDoor.Q
open Go.RowKit Go.Proofs.YtijompkonaiagaaGreatDoorW.PrintWords Go.Proofs.YtijompkonaiagaaGreatDoorW.PrintLast Go.Proofs.YtijompkonaiagaaGreatDoorW.PrintMore Go.Proofs.YtijompkonaiagaaGreatDoor.Z
attribute [local go_sem] max2_int min2_int max_two min_two max_three min_three max_four min_four
set_option linter.unusedVariables false
set_option linter.unusedSimpArgs false
noncomputable section
def laws_lzOwn.l0 : Nat → List (S24) → Int → Option (Bool)
  | 0, _, _ => none
  | k + 1, x3, x4 => if x4 < (x3.length : Int) then (if 0 ≤ x4 then ((impl_EndDoor.f ((rd_T24 x3 x4).f0) ((rd_T24 x3 x4).f1)).bind fun t105 => (if t105 = true then (some false) else (laws_lzOwn.l0 k x3 (wrap64 (x4 + 1))))) else (none)) else (some true)
def laws_lzOwn.f (k : Nat) (a0 : ByteArray) : Option (Bool) := (impl_TextNames.f k a0).bind fun t101 => (laws_lzOwn.l0 k t101 0)
set_option maxHeartbeats 8000000 in
set_option maxRecDepth 100000 in
theorem laws_lzOwn.calls (k : Nat) (a0 : ByteArray) (r : Bool) (w : World) (hV : VarsIn w) (h : laws_lzOwn.f k a0 = some r) :
    Calls Tryz.prog 18 #[.string a0] w fun e w' => e = .returned (.bool r) ∧ Below w.heap.size w w' := by
  have hu24 := Tryz.underlying24
  have HB := Aside0.mk (Below.refl w.heap.size w)
  have H : ((impl_TextNames.f k a0).bind fun t101 => (laws_lzOwn.l0 k t101 0)) = some r := h
  clear h
  replace H := Option.bind_eq_some_iff.mp H
  obtain ⟨t101, A20, H⟩ := H
  replace H : (laws_lzOwn.l0 k t101 0) = some r := H
  have A2 := Aside0.mk A20
  clear A20
  have H' := Aside0.mk H
  clear H
  go_enter Tryz.func18, Tryz.ntmps18
  go_wp2_with (first | ((with_reducible refine gate_callee (f := 34) rfl ?_); refine goesL_ (some 6) rfl rfl Tryz.func34 (by kernel_rfl) rfl #[.string a0] rfl (by (try simp only [List.map_toArray, List.map_cons, List.map_nil]); first | done | rfl | (simp only [List.length_drop, List.length_take]; rfl)) ?_; (with_reducible refine (impl_TextNames.calls k a0 t101 _ ?side1 A2.out).mono ?_); (case side1 => exact hV.next (by repeat (first | (with_reducible first | exact HB.out | apply below_alloc | apply pw_below_drewN | apply below_drew1) | exact HB.out))); rintro e w3 ⟨v102, rfl, ho0, hb⟩; refine ⟨_, rfl, ?_⟩; have n0_ := Aside0.mk (Kd.V_lower (Kd.V_mono (ok' := fun k_ => True) ho0 (fun k_ hk_ => trivial)) (below_size (by repeat (first | (with_reducible first | exact HB.out | apply below_alloc | apply pw_below_drewN | apply below_drew1) | exact HB.out)))); have n1_ := Aside0.mk (below_step (by repeat (first | (with_reducible first | exact HB.out | apply below_alloc | apply pw_below_drewN | apply below_drew1) | exact HB.out)) hb); clear HB; have HO103 := n0_; have HB := n1_; clear n0_ n1_; (try clear hb); (try clear hb2); (try clear hk); (try clear hi); (try clear ho0)))
  go_loopg [4] k (fun kq v4 w' => ∃ (x4_1 : Int), v4 = .int .i64 x4_1 ∧ Aside0 (laws_lzOwn.l0 kq t101 x4_1 = some r) ∧ Aside0 (kq ≤ k) ∧ Aside0 (Kd.V k24 24 w' w.heap.size (fun _ => True) v102 t101) ∧ Aside0 (Below w.heap.size w w'))
  case atStart => exact ⟨(0), (by first | rfl | (simp; done) | (simp [*]; done)), H', ⟨Nat.le_refl _⟩, ⟨by (with_reducible repeat (first | apply Kd.V_alloc | apply Kd.V_drewN | apply Kd.V_drew)); exact HO103.out⟩, ⟨by repeat (first | (with_reducible first | exact HB.out | apply below_alloc | apply pw_below_drewN | apply below_drew1) | exact HB.out)⟩⟩
  case round =>
    clear H'
    try clear c1
    try clear p2
    try clear c3
    obtain ⟨x4_1, rfl, HA, HK1, HO_3, HB⟩ := hrel
    cases gk with
    | zero => exact absurd HA.out (by simp [laws_lzOwn.l0])
    | succ k1 =>
      have H := HA.out
      clear HA
      simp only [laws_lzOwn.l0] at H
      by_cases c4 : x4_1 < (t101.length : Int)
      · rw [if_pos c4] at H
        have c4b0 : decide (x4_1 < (t101.length : Int)) = true := decide_eq_true c4
        clear c4
        by_cases c5 : 0 ≤ x4_1
        · rw [if_pos c5] at H
          have c5b0 : decide (0 ≤ x4_1) = true := decide_eq_true c5
          clear c5
          replace H := Option.bind_eq_some_iff.mp H
          obtain ⟨t105, A60, H⟩ := H
          replace H : (if t105 = true then (some false) else (laws_lzOwn.l0 k1 t101 (wrap64 (x4_1 + 1)))) = some r := H
          have A6 := Aside0.mk A60
          clear A60
          by_cases c7 : t105 = true
          · subst c7
            have H1 : (some false) = some r := by rw [if_pos rfl] at H; exact H
            clear H
            have H := H1
            clear H1
            obtain rfl := Option.some.inj H
            obtain ⟨Ao8, co8, eo8⟩ := Kd.V_slice HO_3.out
            subst eo8
            have p104 : 0 ≤ (x4_1 : Int) := of_decide_eq_true (by first | (with_reducible assumption) | assumption)
            have q104 : x4_1 < (t101.length : Int) := of_decide_eq_true (by first | (with_reducible assumption) | assumption)
            obtain ⟨ad104, e104, hx104_0, hx104_1⟩ := at_T24 (Kd.V_reads' HO_3.out).2.2 x4_1 p104 q104
            cases e104
            replace p104 := eq_true p104
            replace q104 := eq_true q104
            go_wp2_with (first | ((with_reducible refine gate_callee (f := 36) rfl ?_); refine goesL_ (some 17) rfl rfl Tryz.func36 (by kernel_rfl) rfl #[.agg #[.int .i64 ((rd_T24 t101 x4_1).f0), .int .i64 ((rd_T24 t101 x4_1).f1)]] rfl (by (try simp only [List.map_toArray, List.map_cons, List.map_nil]); first | done | rfl | (simp only [List.length_drop, List.length_take]; rfl)) ?_; (with_reducible refine (impl_EndDoor.calls ((rd_T24 t101 x4_1).f0) ((rd_T24 t101 x4_1).f1) true _ A6.out).mono ?_); rintro e w9 ⟨rfl, hb⟩; refine ⟨_, rfl, ?_⟩; have n0_ := Aside0.mk (Kd.V_below (by (with_reducible repeat (first | apply Kd.V_alloc | apply Kd.V_drewN | apply Kd.V_drew)); exact HO_3.out) hb); have n1_ := Aside0.mk (below_step (by repeat (first | (with_reducible first | exact HB.out | apply below_alloc | apply pw_below_drewN | apply below_drew1) | exact HB.out)) hb); clear HO_3; clear HB; have HO_3 := n0_; have HB := n1_; clear n0_ n1_; (try clear hb); (try clear hb2); (try clear hk); (try clear hi)))
            go_ret
            exact ⟨by first | rfl | (simp [errW_none, errW_some] <;> rfl) | (simp [*, errW_none, errW_some] <;> rfl), by repeat (first | (with_reducible first | exact HB.out | apply below_alloc | apply pw_below_drewN | apply below_drew1) | exact HB.out)⟩
          · replace c7 := Bool.eq_false_iff.mpr c7
            subst c7
            have H1 : (laws_lzOwn.l0 k1 t101 (wrap64 (x4_1 + 1))) = some r := by rw [if_neg (show ¬ (false = true) by decide)] at H; exact H
            clear H
            have H := H1
            clear H1
            have H' := Aside0.mk H
            clear H
            obtain ⟨Ao10, co10, eo10⟩ := Kd.V_slice HO_3.out
            subst eo10
            have p104 : 0 ≤ (x4_1 : Int) := of_decide_eq_true (by first | (with_reducible assumption) | assumption)
            have q104 : x4_1 < (t101.length : Int) := of_decide_eq_true (by first | (with_reducible assumption) | assumption)
            obtain ⟨ad104, e104, hx104_0, hx104_1⟩ := at_T24 (Kd.V_reads' HO_3.out).2.2 x4_1 p104 q104
            cases e104
            replace p104 := eq_true p104
            replace q104 := eq_true q104
            go_wp2_with (first | ((with_reducible refine gate_callee (f := 36) rfl ?_); refine goesL_ (some 17) rfl rfl Tryz.func36 (by kernel_rfl) rfl #[.agg #[.int .i64 ((rd_T24 t101 x4_1).f0), .int .i64 ((rd_T24 t101 x4_1).f1)]] rfl (by (try simp only [List.map_toArray, List.map_cons, List.map_nil]); first | done | rfl | (simp only [List.length_drop, List.length_take]; rfl)) ?_; (with_reducible refine (impl_EndDoor.calls ((rd_T24 t101 x4_1).f0) ((rd_T24 t101 x4_1).f1) false _ A6.out).mono ?_); rintro e w11 ⟨rfl, hb⟩; refine ⟨_, rfl, ?_⟩; have n0_ := Aside0.mk (Kd.V_below (by (with_reducible repeat (first | apply Kd.V_alloc | apply Kd.V_drewN | apply Kd.V_drew)); exact HO_3.out) hb); have n1_ := Aside0.mk (below_step (by repeat (first | (with_reducible first | exact HB.out | apply below_alloc | apply pw_below_drewN | apply below_drew1) | exact HB.out)) hb); clear HO_3; clear HB; have HO_3 := n0_; have HB := n1_; clear n0_ n1_; (try clear hb); (try clear hb2); (try clear hk); (try clear hi)))
            go_roundg k1
            case measure => have := HK1.out; omega
            case rel => exact ⟨(wrap64 (x4_1 + 1)), (by first | rfl | (simp; done) | (simp [*]; done)), H', ⟨by have := HK1.out; omega⟩, ⟨by (with_reducible repeat (first | apply Kd.V_alloc | apply Kd.V_drewN | apply Kd.V_drew)); exact HO_3.out⟩, ⟨by repeat (first | (with_reducible first | exact HB.out | apply below_alloc | apply pw_below_drewN | apply below_drew1) | exact HB.out)⟩⟩
        · rw [if_neg c5] at H
          exact absurd H (by simp)
      · rw [if_neg c4] at H
        have c4b0 : decide (x4_1 < (t101.length : Int)) = false := decide_eq_false c4
        clear c4
        obtain rfl := Option.some.inj H
        obtain ⟨Ao12, co12, eo12⟩ := Kd.V_slice HO_3.out
        subst eo12
        go_wp2
        go_ret
        exact ⟨by first | rfl | (simp [errW_none, errW_some] <;> rfl) | (simp [*, errW_none, errW_some] <;> rfl), by repeat (first | (with_reducible first | exact HB.out | apply below_alloc | apply pw_below_drewN | apply below_drew1) | exact HB.out)⟩
end
end Go.Proofs.YtijompkonaiagaaGreatDoor.Q
namespace Go.Proofs.YtijompkonaiagaaGreatDoor.Q
open Go.RowKit Go.Proofs.YtijompkonaiagaaGreatDoorW.PrintWords Go.Proofs.YtijompkonaiagaaGreatDoorW.PrintMore Go.Proofs.YtijompkonaiagaaGreatDoor.Z
set_option linter.unusedVariables false
set_option linter.unusedSimpArgs false
theorem textHeld_is (l : List UInt8) (hl : l.length ≤ 140737488355328) : impl_TextHeld.f (mkB l) = some (if textOk l then (heldN l : Int) else 0) := by
  unfold impl_TextHeld.f impl_TextOk.f impl_held.f
  rw [size_mkB, if_pos hl, bl_of, Option.bind_some]
  cases textOk l
  · rfl
  · rw [if_pos rfl, if_pos hl, Option.bind_some]
    rfl
theorem ownText_l0 (es : List En) (hes : es.length ≤ 1000) (n : Nat) : ∀ (k i : Nat), es.length - i ≤ n → n < k → laws_lzOwn.l0 k (es.map enTo) i = some (!(es.drop i).any doorB) := by
  induction n with
  | zero =>
    intro k i hn hk
    obtain ⟨k, rfl⟩ : ∃ m, k = m + 1 := ⟨k - 1, by omega⟩
    simp only [laws_lzOwn.l0]
    rw [if_neg (by rw [List.length_map]; omega), List.drop_of_length_le (by omega)]
    rfl
  | succ n ih =>
    intro k i hn hk
    obtain ⟨k, rfl⟩ : ∃ m, k = m + 1 := ⟨k - 1, by omega⟩
    simp only [laws_lzOwn.l0]
    by_cases hlt : i < es.length
    · obtain ⟨e, he⟩ : ∃ e, es[i]? = some e := ⟨_, List.getElem?_eq_getElem hlt⟩
      have ih1 := ih k (i + 1) (by omega) (by omega)
      have hw3 : wrap64 ((i : Int) + 1) = ((i + 1 : Nat) : Int) := by rw [w64 (by omega)]; omega
      rw [if_pos (by rw [List.length_map]; omega), if_pos (by omega), rd_ends es i e he, hw3, ih1, drop_of he]
      show (some (doorB ⟨e.addr, e.port⟩)).bind _ = _
      rw [Option.bind_some, show (⟨e.addr, e.port⟩ : En) = e from rfl]
      cases hd : doorB e
      · simp [hd]
      · simp [hd]
    · rw [if_neg (by rw [List.length_map]; omega), List.drop_of_length_le (by omega)]
      rfl
theorem ownText_is (k : Nat) (hk : 2000 < k) (l : List UInt8) (hl : l.length ≤ 140737488355328) : laws_lzOwn.f k (mkB l) = some (!(names (pieces l)).any doorB) := by
  have h := names_len40 l
  unfold laws_lzOwn.f
  rw [impl_TextNames_to k hk l hl, Option.bind_some]
  have := ownText_l0 (names (pieces l)) (by omega) 1000 k 0 (by omega) (by omega)
  rw [List.drop_zero] at this
  exact this
end Go.Proofs.YtijompkonaiagaaGreatDoor.Q
namespace Go.Proofs.YtijompkonaiagaaGreatDoor.Z
open Go.RowKit Go.Proofs.YtijompkonaiagaaGreatDoorW.PrintWords
set_option linter.unusedVariables false
set_option linter.unusedSimpArgs false
theorem eqCv (d : Nat) (w : World) (x0 y0 : Int) (x1 y1 : Int) (x2 y2 : Int) (x3 y3 : Int) (x4 y4 : ByteArray) (x5 y5 : ByteArray) (x6 y6 : Int) (x7 y7 : Int) (x8 y8 : ByteArray) (x9 y9 : ByteArray) :
    (Op.equalIn (d + 3) 28 (.agg #[.int .i64 x0, .int .i64 x1, .int .i64 x2, .int .i64 x3, .string x4, .string x5, .int .i64 x6, .int .i64 x7, .string x8, .string x9]) (.agg #[.int .i64 y0, .int .i64 y1, .int .i64 y2, .int .i64 y3, .string y4, .string y5, .int .i64 y6, .int .i64 y7, .string y8, .string y9])).run Tryz.prog w = .ok ((x0 == y0 && (x1 == y1)) && ((x2 == y2 && (x3 == y3)) && (x4.toList == y4.toList && (x5.toList == y5.toList && (x6 == y6 && (x7 == y7 && (x8.toList == y8.toList && (x9.toList == y9.toList)))))))) w := by
  refine eqA_of Tryz.underlying28 (by kernel_rfl) ?_
  refine eqf_cons (by rfl) (by go_simp) (by go_simp) (eqEn (d + 0) w _ _ _ _) ?_
  refine eqf_cons (by rfl) (by go_simp) (by go_simp) (eqEn (d + 0) w _ _ _ _) ?_
  refine eqf_cons (by rfl) (by go_simp; rfl) (by go_simp; rfl) (by go_simp) ?_
  refine eqf_cons (by rfl) (by go_simp; rfl) (by go_simp; rfl) (by go_simp) ?_
  refine eqf_cons (by rfl) (by go_simp; rfl) (by go_simp; rfl) (by go_simp) ?_
  refine eqf_cons (by rfl) (by go_simp; rfl) (by go_simp; rfl) (by go_simp) ?_
  refine eqf_cons (by rfl) (by go_simp; rfl) (by go_simp; rfl) (by go_simp) ?_
  exact eqf_last (by rfl) (by go_simp; rfl) (by go_simp; rfl) (by go_simp)
end Go.Proofs.YtijompkonaiagaaGreatDoor.Z
namespace Go.Proofs.YtijompkonaiagaaGreatDoor.Z
open Go.RowKit Go.Proofs.YtijompkonaiagaaGreatDoorW.PrintWords Go.Proofs.YtijompkonaiagaaGreatDoorW.PrintLast Go.Proofs.YtijompkonaiagaaGreatDoorW.PrintMore
set_option linter.unusedVariables false
set_option linter.unusedSimpArgs false
attribute [local go_sem ↓] Go.wp_at_zero Go.wp_at_succ
set_option maxRecDepth 100000 in
set_option maxHeartbeats 4000000 in
theorem spec_conv (k : Nat) (hk : 3000 < k) (i o : En) (up down : List UInt8) (hu : up.length ≤ 1000000) (hd : down.length ≤ 1000000) (w : World) :
    Calls Tryz.prog 15 #[vEn i, vEn o, vS up, vS down] w fun r w' => r = .returned (.tuple #[(if Q.convB i o up down = true then .agg #[.int .i64 i.addr, .int .i64 i.port, .int .i64 o.addr, .int .i64 o.port, .string (Q.mkB up), .string (Q.mkB down), .int .i64 0, .int .i64 0, .string ⟨#[]⟩, .string ⟨#[]⟩] else .agg #[.int .i64 0, .int .i64 0, .int .i64 0, .int .i64 0, .string ⟨#[]⟩, .string ⟨#[]⟩, .int .i64 0, .int .i64 0, .string ⟨#[]⟩, .string ⟨#[]⟩]), .bool (Q.convB i o up down)]) ∧ Below w.heap.size w w' := by
  have B0 := Aside0.mk (Below.refl w.heap.size w)
  obtain ⟨b0, e0⟩ : ∃ b, insideB i = b := ⟨_, rfl⟩
  have F0 := Aside0.mk (show Q.spec_EndInside.f i.addr i.port = some b0 from congrArg some e0)
  obtain ⟨b1, e1⟩ : ∃ b, outsideB o = b := ⟨_, rfl⟩
  have F1 := Aside0.mk (show Q.spec_EndOutside.f o.addr o.port = some b1 from congrArg some e1)
  obtain ⟨b2, e2⟩ : ∃ b, Q.sayOk up = b := ⟨_, rfl⟩
  have F2 := Aside0.mk (show Q.spec_l21Whole.f (Q.mkB up) = some b2 from by rw [Q.spec_l21Whole_to up (by omega), e2])
  obtain ⟨b3, e3⟩ : ∃ b, (!(Q.names (Q.pieces up)).any doorB) = b := ⟨_, rfl⟩
  have F3 := Aside0.mk (show Q.spec_l21Own.f k (Q.mkB up) = some b3 from by rw [Q.spec_l21Own_to k (by omega) up (by omega), e3])
  obtain ⟨b4, e4⟩ : ∃ b, Q.sayOk down = b := ⟨_, rfl⟩
  have F4 := Aside0.mk (show Q.spec_l21Whole.f (Q.mkB down) = some b4 from by rw [Q.spec_l21Whole_to down (by omega), e4])
  have hconv : Q.convB i o up down = (b0 && b1 && b2 && b4 && b3) := by unfold Q.convB; rw [e0, e1, e2, e3, e4]
  clear e0 e1 e2 e3 e4
  cases b0 with
  | false =>
    have hc : Q.convB i o up down = false := hconv.trans (by simp)
    rw [hc, if_neg (by decide)]
    clear hconv hc
    go_enter Tryz.func15, Tryz.ntmps15
    go_wp2_with (first | (go_at_call 46; with_reducible refine (Q.spec_EndInside.calls i.addr i.port _ _ F0.out).mono ?_; rintro r w1 ⟨rfl, hb1⟩; obtain ⟨hb1c, hb1f, hb1z⟩ := bcell hb1; (try simp at hb1z); (try have hb10 : w.heap.size < w1.heap.size := by omega); (try have hb11 : w.heap.size + 1 < w1.heap.size := by omega); (try have hb12 : w.heap.size + 2 < w1.heap.size := by omega); have B1 := Aside0.mk (show Below w.heap.size w w1 from (by refine below_step ?_ hb1; repeat (first | (with_reducible exact B0.out) | (with_reducible apply below_alloc) | (with_reducible apply pw_below_drewN) | (with_reducible apply below_drew1) | with_reducible refine below_set ?_ (by first | (with_reducible exact Nat.le_refl _) | (with_reducible assumption) | (simp; done) | omega | (simp; omega)))))))
    refine bodyPost_ret (v := (.tuple #[(.agg #[.int .i64 0, .int .i64 0, .int .i64 0, .int .i64 0, .string ⟨#[]⟩, .string ⟨#[]⟩, .int .i64 0, .int .i64 0, .string ⟨#[]⟩, .string ⟨#[]⟩]), .bool false])) (by simp [results, Tryz.results15, go_sem, zEn, *]) rfl ⟨by simp, (by repeat (first | (with_reducible exact B1.out) | (with_reducible apply below_alloc) | (with_reducible apply pw_below_drewN) | (with_reducible apply below_drew1) | with_reducible refine below_set ?_ (by first | (with_reducible exact Nat.le_refl _) | (with_reducible assumption) | (simp; done) | omega | (simp; omega))))⟩
  | true =>
    cases b1 with
    | false =>
      have hc : Q.convB i o up down = false := hconv.trans (by simp)
      rw [hc, if_neg (by decide)]
      clear hconv hc
      go_enter Tryz.func15, Tryz.ntmps15
      go_wp2_with (first | (go_at_call 46; with_reducible refine (Q.spec_EndInside.calls i.addr i.port _ _ F0.out).mono ?_; rintro r w1 ⟨rfl, hb1⟩; obtain ⟨hb1c, hb1f, hb1z⟩ := bcell hb1; (try simp at hb1z); (try have hb10 : w.heap.size < w1.heap.size := by omega); (try have hb11 : w.heap.size + 1 < w1.heap.size := by omega); (try have hb12 : w.heap.size + 2 < w1.heap.size := by omega); have B1 := Aside0.mk (show Below w.heap.size w w1 from (by refine below_step ?_ hb1; repeat (first | (with_reducible exact B0.out) | (with_reducible apply below_alloc) | (with_reducible apply pw_below_drewN) | (with_reducible apply below_drew1) | with_reducible refine below_set ?_ (by first | (with_reducible exact Nat.le_refl _) | (with_reducible assumption) | (simp; done) | omega | (simp; omega)))))) | (go_at_call 47; with_reducible refine (Q.spec_EndOutside.calls o.addr o.port _ _ F1.out).mono ?_; rintro r w2 ⟨rfl, hb2⟩; obtain ⟨hb2c, hb2f, hb2z⟩ := bcell hb2; (try simp at hb2z); (try have hb20 : w.heap.size < w2.heap.size := by omega); (try have hb21 : w.heap.size + 1 < w2.heap.size := by omega); (try have hb22 : w.heap.size + 2 < w2.heap.size := by omega); have B2 := Aside0.mk (show Below w.heap.size w w2 from (by refine below_step ?_ hb2; repeat (first | (with_reducible exact B1.out) | (with_reducible apply below_alloc) | (with_reducible apply pw_below_drewN) | (with_reducible apply below_drew1) | with_reducible refine below_set ?_ (by first | (with_reducible exact Nat.le_refl _) | (with_reducible assumption) | (simp; done) | omega | (simp; omega)))))))
      refine bodyPost_ret (v := (.tuple #[(.agg #[.int .i64 0, .int .i64 0, .int .i64 0, .int .i64 0, .string ⟨#[]⟩, .string ⟨#[]⟩, .int .i64 0, .int .i64 0, .string ⟨#[]⟩, .string ⟨#[]⟩]), .bool false])) (by simp [results, Tryz.results15, go_sem, zEn, *]) rfl ⟨by simp, (by repeat (first | (with_reducible exact B2.out) | (with_reducible apply below_alloc) | (with_reducible apply pw_below_drewN) | (with_reducible apply below_drew1) | with_reducible refine below_set ?_ (by first | (with_reducible exact Nat.le_refl _) | (with_reducible assumption) | (simp; done) | omega | (simp; omega))))⟩
    | true =>
      cases b2 with
      | false =>
        have hc : Q.convB i o up down = false := hconv.trans (by simp)
        rw [hc, if_neg (by decide)]
        clear hconv hc
        go_enter Tryz.func15, Tryz.ntmps15
        go_wp2_with (first | (go_at_call 46; with_reducible refine (Q.spec_EndInside.calls i.addr i.port _ _ F0.out).mono ?_; rintro r w1 ⟨rfl, hb1⟩; obtain ⟨hb1c, hb1f, hb1z⟩ := bcell hb1; (try simp at hb1z); (try have hb10 : w.heap.size < w1.heap.size := by omega); (try have hb11 : w.heap.size + 1 < w1.heap.size := by omega); (try have hb12 : w.heap.size + 2 < w1.heap.size := by omega); have B1 := Aside0.mk (show Below w.heap.size w w1 from (by refine below_step ?_ hb1; repeat (first | (with_reducible exact B0.out) | (with_reducible apply below_alloc) | (with_reducible apply pw_below_drewN) | (with_reducible apply below_drew1) | with_reducible refine below_set ?_ (by first | (with_reducible exact Nat.le_refl _) | (with_reducible assumption) | (simp; done) | omega | (simp; omega)))))) | (go_at_call 47; with_reducible refine (Q.spec_EndOutside.calls o.addr o.port _ _ F1.out).mono ?_; rintro r w2 ⟨rfl, hb2⟩; obtain ⟨hb2c, hb2f, hb2z⟩ := bcell hb2; (try simp at hb2z); (try have hb20 : w.heap.size < w2.heap.size := by omega); (try have hb21 : w.heap.size + 1 < w2.heap.size := by omega); (try have hb22 : w.heap.size + 2 < w2.heap.size := by omega); have B2 := Aside0.mk (show Below w.heap.size w w2 from (by refine below_step ?_ hb2; repeat (first | (with_reducible exact B1.out) | (with_reducible apply below_alloc) | (with_reducible apply pw_below_drewN) | (with_reducible apply below_drew1) | with_reducible refine below_set ?_ (by first | (with_reducible exact Nat.le_refl _) | (with_reducible assumption) | (simp; done) | omega | (simp; omega)))))) | (go_at_call 48; with_reducible refine (Q.spec_l21Whole.calls (Q.mkB up) _ _ F2.out).mono ?_; rintro r w3 ⟨rfl, hb3⟩; obtain ⟨hb3c, hb3f, hb3z⟩ := bcell hb3; (try simp at hb3z); (try have hb30 : w.heap.size < w3.heap.size := by omega); (try have hb31 : w.heap.size + 1 < w3.heap.size := by omega); (try have hb32 : w.heap.size + 2 < w3.heap.size := by omega); have B3 := Aside0.mk (show Below w.heap.size w w3 from (by refine below_step ?_ hb3; repeat (first | (with_reducible exact B2.out) | (with_reducible apply below_alloc) | (with_reducible apply pw_below_drewN) | (with_reducible apply below_drew1) | with_reducible refine below_set ?_ (by first | (with_reducible exact Nat.le_refl _) | (with_reducible assumption) | (simp; done) | omega | (simp; omega)))))))
        refine bodyPost_ret (v := (.tuple #[(.agg #[.int .i64 0, .int .i64 0, .int .i64 0, .int .i64 0, .string ⟨#[]⟩, .string ⟨#[]⟩, .int .i64 0, .int .i64 0, .string ⟨#[]⟩, .string ⟨#[]⟩]), .bool false])) (by simp [results, Tryz.results15, go_sem, zEn, *]) rfl ⟨by simp, (by repeat (first | (with_reducible exact B3.out) | (with_reducible apply below_alloc) | (with_reducible apply pw_below_drewN) | (with_reducible apply below_drew1) | with_reducible refine below_set ?_ (by first | (with_reducible exact Nat.le_refl _) | (with_reducible assumption) | (simp; done) | omega | (simp; omega))))⟩
      | true =>
        cases b3 with
        | false =>
          have hc : Q.convB i o up down = false := hconv.trans (by simp)
          rw [hc, if_neg (by decide)]
          clear hconv hc
          go_enter Tryz.func15, Tryz.ntmps15
          go_wp2_with (first | (go_at_call 46; with_reducible refine (Q.spec_EndInside.calls i.addr i.port _ _ F0.out).mono ?_; rintro r w1 ⟨rfl, hb1⟩; obtain ⟨hb1c, hb1f, hb1z⟩ := bcell hb1; (try simp at hb1z); (try have hb10 : w.heap.size < w1.heap.size := by omega); (try have hb11 : w.heap.size + 1 < w1.heap.size := by omega); (try have hb12 : w.heap.size + 2 < w1.heap.size := by omega); have B1 := Aside0.mk (show Below w.heap.size w w1 from (by refine below_step ?_ hb1; repeat (first | (with_reducible exact B0.out) | (with_reducible apply below_alloc) | (with_reducible apply pw_below_drewN) | (with_reducible apply below_drew1) | with_reducible refine below_set ?_ (by first | (with_reducible exact Nat.le_refl _) | (with_reducible assumption) | (simp; done) | omega | (simp; omega)))))) | (go_at_call 47; with_reducible refine (Q.spec_EndOutside.calls o.addr o.port _ _ F1.out).mono ?_; rintro r w2 ⟨rfl, hb2⟩; obtain ⟨hb2c, hb2f, hb2z⟩ := bcell hb2; (try simp at hb2z); (try have hb20 : w.heap.size < w2.heap.size := by omega); (try have hb21 : w.heap.size + 1 < w2.heap.size := by omega); (try have hb22 : w.heap.size + 2 < w2.heap.size := by omega); have B2 := Aside0.mk (show Below w.heap.size w w2 from (by refine below_step ?_ hb2; repeat (first | (with_reducible exact B1.out) | (with_reducible apply below_alloc) | (with_reducible apply pw_below_drewN) | (with_reducible apply below_drew1) | with_reducible refine below_set ?_ (by first | (with_reducible exact Nat.le_refl _) | (with_reducible assumption) | (simp; done) | omega | (simp; omega)))))) | (go_at_call 48; with_reducible refine (Q.spec_l21Whole.calls (Q.mkB up) _ _ F2.out).mono ?_; rintro r w3 ⟨rfl, hb3⟩; obtain ⟨hb3c, hb3f, hb3z⟩ := bcell hb3; (try simp at hb3z); (try have hb30 : w.heap.size < w3.heap.size := by omega); (try have hb31 : w.heap.size + 1 < w3.heap.size := by omega); (try have hb32 : w.heap.size + 2 < w3.heap.size := by omega); have B3 := Aside0.mk (show Below w.heap.size w w3 from (by refine below_step ?_ hb3; repeat (first | (with_reducible exact B2.out) | (with_reducible apply below_alloc) | (with_reducible apply pw_below_drewN) | (with_reducible apply below_drew1) | with_reducible refine below_set ?_ (by first | (with_reducible exact Nat.le_refl _) | (with_reducible assumption) | (simp; done) | omega | (simp; omega)))))) | (go_at_call 49; with_reducible refine (Q.spec_l21Own.calls k (Q.mkB up) _ _ F3.out).mono ?_; rintro r w4 ⟨rfl, hb4⟩; obtain ⟨hb4c, hb4f, hb4z⟩ := bcell hb4; (try simp at hb4z); (try have hb40 : w.heap.size < w4.heap.size := by omega); (try have hb41 : w.heap.size + 1 < w4.heap.size := by omega); (try have hb42 : w.heap.size + 2 < w4.heap.size := by omega); have B4 := Aside0.mk (show Below w.heap.size w w4 from (by refine below_step ?_ hb4; repeat (first | (with_reducible exact B3.out) | (with_reducible apply below_alloc) | (with_reducible apply pw_below_drewN) | (with_reducible apply below_drew1) | with_reducible refine below_set ?_ (by first | (with_reducible exact Nat.le_refl _) | (with_reducible assumption) | (simp; done) | omega | (simp; omega)))))))
          refine bodyPost_ret (v := (.tuple #[(.agg #[.int .i64 0, .int .i64 0, .int .i64 0, .int .i64 0, .string ⟨#[]⟩, .string ⟨#[]⟩, .int .i64 0, .int .i64 0, .string ⟨#[]⟩, .string ⟨#[]⟩]), .bool false])) (by simp [results, Tryz.results15, go_sem, zEn, *]) rfl ⟨by simp, (by repeat (first | (with_reducible exact B4.out) | (with_reducible apply below_alloc) | (with_reducible apply pw_below_drewN) | (with_reducible apply below_drew1) | with_reducible refine below_set ?_ (by first | (with_reducible exact Nat.le_refl _) | (with_reducible assumption) | (simp; done) | omega | (simp; omega))))⟩
        | true =>
          cases b4 with
          | false =>
            have hc : Q.convB i o up down = false := hconv.trans (by simp)
            rw [hc, if_neg (by decide)]
            clear hconv hc
            go_enter Tryz.func15, Tryz.ntmps15
            go_wp2_with (first | (go_at_call 46; with_reducible refine (Q.spec_EndInside.calls i.addr i.port _ _ F0.out).mono ?_; rintro r w1 ⟨rfl, hb1⟩; obtain ⟨hb1c, hb1f, hb1z⟩ := bcell hb1; (try simp at hb1z); (try have hb10 : w.heap.size < w1.heap.size := by omega); (try have hb11 : w.heap.size + 1 < w1.heap.size := by omega); (try have hb12 : w.heap.size + 2 < w1.heap.size := by omega); have B1 := Aside0.mk (show Below w.heap.size w w1 from (by refine below_step ?_ hb1; repeat (first | (with_reducible exact B0.out) | (with_reducible apply below_alloc) | (with_reducible apply pw_below_drewN) | (with_reducible apply below_drew1) | with_reducible refine below_set ?_ (by first | (with_reducible exact Nat.le_refl _) | (with_reducible assumption) | (simp; done) | omega | (simp; omega)))))) | (go_at_call 47; with_reducible refine (Q.spec_EndOutside.calls o.addr o.port _ _ F1.out).mono ?_; rintro r w2 ⟨rfl, hb2⟩; obtain ⟨hb2c, hb2f, hb2z⟩ := bcell hb2; (try simp at hb2z); (try have hb20 : w.heap.size < w2.heap.size := by omega); (try have hb21 : w.heap.size + 1 < w2.heap.size := by omega); (try have hb22 : w.heap.size + 2 < w2.heap.size := by omega); have B2 := Aside0.mk (show Below w.heap.size w w2 from (by refine below_step ?_ hb2; repeat (first | (with_reducible exact B1.out) | (with_reducible apply below_alloc) | (with_reducible apply pw_below_drewN) | (with_reducible apply below_drew1) | with_reducible refine below_set ?_ (by first | (with_reducible exact Nat.le_refl _) | (with_reducible assumption) | (simp; done) | omega | (simp; omega)))))) | (go_at_call 48; with_reducible refine (Q.spec_l21Whole.calls (Q.mkB up) _ _ F2.out).mono ?_; rintro r w3 ⟨rfl, hb3⟩; obtain ⟨hb3c, hb3f, hb3z⟩ := bcell hb3; (try simp at hb3z); (try have hb30 : w.heap.size < w3.heap.size := by omega); (try have hb31 : w.heap.size + 1 < w3.heap.size := by omega); (try have hb32 : w.heap.size + 2 < w3.heap.size := by omega); have B3 := Aside0.mk (show Below w.heap.size w w3 from (by refine below_step ?_ hb3; repeat (first | (with_reducible exact B2.out) | (with_reducible apply below_alloc) | (with_reducible apply pw_below_drewN) | (with_reducible apply below_drew1) | with_reducible refine below_set ?_ (by first | (with_reducible exact Nat.le_refl _) | (with_reducible assumption) | (simp; done) | omega | (simp; omega)))))) | (go_at_call 49; with_reducible refine (Q.spec_l21Own.calls k (Q.mkB up) _ _ F3.out).mono ?_; rintro r w4 ⟨rfl, hb4⟩; obtain ⟨hb4c, hb4f, hb4z⟩ := bcell hb4; (try simp at hb4z); (try have hb40 : w.heap.size < w4.heap.size := by omega); (try have hb41 : w.heap.size + 1 < w4.heap.size := by omega); (try have hb42 : w.heap.size + 2 < w4.heap.size := by omega); have B4 := Aside0.mk (show Below w.heap.size w w4 from (by refine below_step ?_ hb4; repeat (first | (with_reducible exact B3.out) | (with_reducible apply below_alloc) | (with_reducible apply pw_below_drewN) | (with_reducible apply below_drew1) | with_reducible refine below_set ?_ (by first | (with_reducible exact Nat.le_refl _) | (with_reducible assumption) | (simp; done) | omega | (simp; omega)))))) | (go_at_call 48; with_reducible refine (Q.spec_l21Whole.calls (Q.mkB down) _ _ F4.out).mono ?_; rintro r w5 ⟨rfl, hb5⟩; obtain ⟨hb5c, hb5f, hb5z⟩ := bcell hb5; (try simp at hb5z); (try have hb50 : w.heap.size < w5.heap.size := by omega); (try have hb51 : w.heap.size + 1 < w5.heap.size := by omega); (try have hb52 : w.heap.size + 2 < w5.heap.size := by omega); have B5 := Aside0.mk (show Below w.heap.size w w5 from (by refine below_step ?_ hb5; repeat (first | (with_reducible exact B4.out) | (with_reducible apply below_alloc) | (with_reducible apply pw_below_drewN) | (with_reducible apply below_drew1) | with_reducible refine below_set ?_ (by first | (with_reducible exact Nat.le_refl _) | (with_reducible assumption) | (simp; done) | omega | (simp; omega)))))))
            refine bodyPost_ret (v := (.tuple #[(.agg #[.int .i64 0, .int .i64 0, .int .i64 0, .int .i64 0, .string ⟨#[]⟩, .string ⟨#[]⟩, .int .i64 0, .int .i64 0, .string ⟨#[]⟩, .string ⟨#[]⟩]), .bool false])) (by simp [results, Tryz.results15, go_sem, zEn, *]) rfl ⟨by simp, (by repeat (first | (with_reducible exact B5.out) | (with_reducible apply below_alloc) | (with_reducible apply pw_below_drewN) | (with_reducible apply below_drew1) | with_reducible refine below_set ?_ (by first | (with_reducible exact Nat.le_refl _) | (with_reducible assumption) | (simp; done) | omega | (simp; omega))))⟩
          | true =>
            have hc : Q.convB i o up down = true := hconv.trans (by simp)
            rw [hc, if_pos rfl]
            clear hconv hc
            go_enter Tryz.func15, Tryz.ntmps15
            go_wp2_with (first | (go_at_call 46; with_reducible refine (Q.spec_EndInside.calls i.addr i.port _ _ F0.out).mono ?_; rintro r w1 ⟨rfl, hb1⟩; obtain ⟨hb1c, hb1f, hb1z⟩ := bcell hb1; (try simp at hb1z); (try have hb10 : w.heap.size < w1.heap.size := by omega); (try have hb11 : w.heap.size + 1 < w1.heap.size := by omega); (try have hb12 : w.heap.size + 2 < w1.heap.size := by omega); have B1 := Aside0.mk (show Below w.heap.size w w1 from (by refine below_step ?_ hb1; repeat (first | (with_reducible exact B0.out) | (with_reducible apply below_alloc) | (with_reducible apply pw_below_drewN) | (with_reducible apply below_drew1) | with_reducible refine below_set ?_ (by first | (with_reducible exact Nat.le_refl _) | (with_reducible assumption) | (simp; done) | omega | (simp; omega)))))) | (go_at_call 47; with_reducible refine (Q.spec_EndOutside.calls o.addr o.port _ _ F1.out).mono ?_; rintro r w2 ⟨rfl, hb2⟩; obtain ⟨hb2c, hb2f, hb2z⟩ := bcell hb2; (try simp at hb2z); (try have hb20 : w.heap.size < w2.heap.size := by omega); (try have hb21 : w.heap.size + 1 < w2.heap.size := by omega); (try have hb22 : w.heap.size + 2 < w2.heap.size := by omega); have B2 := Aside0.mk (show Below w.heap.size w w2 from (by refine below_step ?_ hb2; repeat (first | (with_reducible exact B1.out) | (with_reducible apply below_alloc) | (with_reducible apply pw_below_drewN) | (with_reducible apply below_drew1) | with_reducible refine below_set ?_ (by first | (with_reducible exact Nat.le_refl _) | (with_reducible assumption) | (simp; done) | omega | (simp; omega)))))) | (go_at_call 48; with_reducible refine (Q.spec_l21Whole.calls (Q.mkB up) _ _ F2.out).mono ?_; rintro r w3 ⟨rfl, hb3⟩; obtain ⟨hb3c, hb3f, hb3z⟩ := bcell hb3; (try simp at hb3z); (try have hb30 : w.heap.size < w3.heap.size := by omega); (try have hb31 : w.heap.size + 1 < w3.heap.size := by omega); (try have hb32 : w.heap.size + 2 < w3.heap.size := by omega); have B3 := Aside0.mk (show Below w.heap.size w w3 from (by refine below_step ?_ hb3; repeat (first | (with_reducible exact B2.out) | (with_reducible apply below_alloc) | (with_reducible apply pw_below_drewN) | (with_reducible apply below_drew1) | with_reducible refine below_set ?_ (by first | (with_reducible exact Nat.le_refl _) | (with_reducible assumption) | (simp; done) | omega | (simp; omega)))))) | (go_at_call 49; with_reducible refine (Q.spec_l21Own.calls k (Q.mkB up) _ _ F3.out).mono ?_; rintro r w4 ⟨rfl, hb4⟩; obtain ⟨hb4c, hb4f, hb4z⟩ := bcell hb4; (try simp at hb4z); (try have hb40 : w.heap.size < w4.heap.size := by omega); (try have hb41 : w.heap.size + 1 < w4.heap.size := by omega); (try have hb42 : w.heap.size + 2 < w4.heap.size := by omega); have B4 := Aside0.mk (show Below w.heap.size w w4 from (by refine below_step ?_ hb4; repeat (first | (with_reducible exact B3.out) | (with_reducible apply below_alloc) | (with_reducible apply pw_below_drewN) | (with_reducible apply below_drew1) | with_reducible refine below_set ?_ (by first | (with_reducible exact Nat.le_refl _) | (with_reducible assumption) | (simp; done) | omega | (simp; omega)))))) | (go_at_call 48; with_reducible refine (Q.spec_l21Whole.calls (Q.mkB down) _ _ F4.out).mono ?_; rintro r w5 ⟨rfl, hb5⟩; obtain ⟨hb5c, hb5f, hb5z⟩ := bcell hb5; (try simp at hb5z); (try have hb50 : w.heap.size < w5.heap.size := by omega); (try have hb51 : w.heap.size + 1 < w5.heap.size := by omega); (try have hb52 : w.heap.size + 2 < w5.heap.size := by omega); have B5 := Aside0.mk (show Below w.heap.size w w5 from (by refine below_step ?_ hb5; repeat (first | (with_reducible exact B4.out) | (with_reducible apply below_alloc) | (with_reducible apply pw_below_drewN) | (with_reducible apply below_drew1) | with_reducible refine below_set ?_ (by first | (with_reducible exact Nat.le_refl _) | (with_reducible assumption) | (simp; done) | omega | (simp; omega)))))))
            refine bodyPost_ret (v := (.tuple #[(.agg #[.int .i64 i.addr, .int .i64 i.port, .int .i64 o.addr, .int .i64 o.port, .string (Q.mkB up), .string (Q.mkB down), .int .i64 0, .int .i64 0, .string ⟨#[]⟩, .string ⟨#[]⟩]), .bool true])) (by simp [results, Tryz.results15, go_sem, zEn, *]) rfl ⟨by simp, (by repeat (first | (with_reducible exact B5.out) | (with_reducible apply below_alloc) | (with_reducible apply pw_below_drewN) | (with_reducible apply below_drew1) | with_reducible refine below_set ?_ (by first | (with_reducible exact Nat.le_refl _) | (with_reducible assumption) | (simp; done) | omega | (simp; omega))))⟩
set_option maxRecDepth 100000 in
set_option maxHeartbeats 4000000 in
theorem impl_conv (k : Nat) (hk : 3000 < k) (i o : En) (up down : List UInt8) (hu : up.length ≤ 1000000) (hd : down.length ≤ 1000000) (w : World) (hV : VarsIn w) :
    Calls Tryz.prog 16 #[vEn i, vEn o, vS up, vS down] w fun r w' => r = .returned (.tuple #[(if Q.convB i o up down = true then .agg #[.int .i64 i.addr, .int .i64 i.port, .int .i64 o.addr, .int .i64 o.port, .string (Q.mkB up), .string (Q.mkB down), .int .i64 0, .int .i64 0, .string ⟨#[]⟩, .string ⟨#[]⟩] else .agg #[.int .i64 0, .int .i64 0, .int .i64 0, .int .i64 0, .string ⟨#[]⟩, .string ⟨#[]⟩, .int .i64 0, .int .i64 0, .string ⟨#[]⟩, .string ⟨#[]⟩]), .bool (Q.convB i o up down)]) ∧ Below w.heap.size w w' := by
  have B0 := Aside0.mk (Below.refl w.heap.size w)
  obtain ⟨b0, e0⟩ : ∃ b, insideB i = b := ⟨_, rfl⟩
  have F0 := Aside0.mk (show Q.impl_EndInside.f i.addr i.port = some b0 from congrArg some e0)
  obtain ⟨b1, e1⟩ : ∃ b, outsideB o = b := ⟨_, rfl⟩
  have F1 := Aside0.mk (show Q.impl_EndOutside.f o.addr o.port = some b1 from congrArg some e1)
  obtain ⟨b2, e2⟩ : ∃ b, Q.sayOk up = b := ⟨_, rfl⟩
  have F2 := Aside0.mk (show Q.impl_saying.f (Q.mkB up) = some b2 from by rw [Q.impl_saying_to up (by omega), e2])
  obtain ⟨b3, e3⟩ : ∃ b, Q.sayOk down = b := ⟨_, rfl⟩
  have F3 := Aside0.mk (show Q.impl_saying.f (Q.mkB down) = some b3 from by rw [Q.impl_saying_to down (by omega), e3])
  obtain ⟨b4, e4⟩ : ∃ b, (Q.names (Q.pieces up)).any doorB = b := ⟨_, rfl⟩
  have F4 := Aside0.mk (show Q.slices_ContainsFunc_End.f ((Q.names (Q.pieces up)).map Q.enTo) = some b4 from by (unfold Q.slices_ContainsFunc_End.f; rw [if_pos (by rw [List.length_map]; have := Q.names_len up; omega), Q.any_door, e4]))
  have hconv : Q.convB i o up down = (b0 && b1 && b2 && b3 && !b4) := by unfold Q.convB; rw [e0, e1, e2, e3, e4]
  have hnl := Q.names_len up
  have HN := Aside0.mk (Q.impl_TextNames_to k (by omega) up (by omega))
  have HV := Aside0.mk hV
  clear hV
  generalize (Q.names (Q.pieces up)).map Q.enTo = xs at HN F4
  clear e0 e1 e2 e3 e4
  cases b0 with
  | false =>
    have hc : Q.convB i o up down = false := hconv.trans (by simp)
    rw [hc, if_neg (by decide)]
    clear hconv hc
    go_enter Tryz.func16, Tryz.ntmps16
    go_wp2_with (first | (go_at_call 37; with_reducible refine (Q.impl_EndInside.calls i.addr i.port _ _ F0.out).mono ?_; rintro r w1 ⟨rfl, hb1⟩; obtain ⟨hb1c, hb1f, hb1z⟩ := bcell hb1; (try simp at hb1z); (try have hb10 : w.heap.size < w1.heap.size := by omega); (try have hb11 : w.heap.size + 1 < w1.heap.size := by omega); (try have hb12 : w.heap.size + 2 < w1.heap.size := by omega); have B1 := Aside0.mk (show Below w.heap.size w w1 from (by refine below_step ?_ hb1; repeat (first | (with_reducible exact B0.out) | (with_reducible apply below_alloc) | (with_reducible apply pw_below_drewN) | (with_reducible apply below_drew1) | with_reducible refine below_set ?_ (by first | (with_reducible exact Nat.le_refl _) | (with_reducible assumption) | (simp; done) | omega | (simp; omega)))))))
    refine bodyPost_ret (v := (.tuple #[(.agg #[.int .i64 0, .int .i64 0, .int .i64 0, .int .i64 0, .string ⟨#[]⟩, .string ⟨#[]⟩, .int .i64 0, .int .i64 0, .string ⟨#[]⟩, .string ⟨#[]⟩]), .bool false])) (by simp [results, Tryz.results16, go_sem, zEn, *]) rfl ⟨by simp, (by repeat (first | (with_reducible exact B1.out) | (with_reducible apply below_alloc) | (with_reducible apply pw_below_drewN) | (with_reducible apply below_drew1) | with_reducible refine below_set ?_ (by first | (with_reducible exact Nat.le_refl _) | (with_reducible assumption) | (simp; done) | omega | (simp; omega))))⟩
  | true =>
    cases b1 with
    | false =>
      have hc : Q.convB i o up down = false := hconv.trans (by simp)
      rw [hc, if_neg (by decide)]
      clear hconv hc
      go_enter Tryz.func16, Tryz.ntmps16
      go_wp2_with (first | (go_at_call 37; with_reducible refine (Q.impl_EndInside.calls i.addr i.port _ _ F0.out).mono ?_; rintro r w1 ⟨rfl, hb1⟩; obtain ⟨hb1c, hb1f, hb1z⟩ := bcell hb1; (try simp at hb1z); (try have hb10 : w.heap.size < w1.heap.size := by omega); (try have hb11 : w.heap.size + 1 < w1.heap.size := by omega); (try have hb12 : w.heap.size + 2 < w1.heap.size := by omega); have B1 := Aside0.mk (show Below w.heap.size w w1 from (by refine below_step ?_ hb1; repeat (first | (with_reducible exact B0.out) | (with_reducible apply below_alloc) | (with_reducible apply pw_below_drewN) | (with_reducible apply below_drew1) | with_reducible refine below_set ?_ (by first | (with_reducible exact Nat.le_refl _) | (with_reducible assumption) | (simp; done) | omega | (simp; omega)))))) | (go_at_call 50; with_reducible refine (Q.impl_EndOutside.calls o.addr o.port _ _ F1.out).mono ?_; rintro r w2 ⟨rfl, hb2⟩; obtain ⟨hb2c, hb2f, hb2z⟩ := bcell hb2; (try simp at hb2z); (try have hb20 : w.heap.size < w2.heap.size := by omega); (try have hb21 : w.heap.size + 1 < w2.heap.size := by omega); (try have hb22 : w.heap.size + 2 < w2.heap.size := by omega); have B2 := Aside0.mk (show Below w.heap.size w w2 from (by refine below_step ?_ hb2; repeat (first | (with_reducible exact B1.out) | (with_reducible apply below_alloc) | (with_reducible apply pw_below_drewN) | (with_reducible apply below_drew1) | with_reducible refine below_set ?_ (by first | (with_reducible exact Nat.le_refl _) | (with_reducible assumption) | (simp; done) | omega | (simp; omega)))))))
      refine bodyPost_ret (v := (.tuple #[(.agg #[.int .i64 0, .int .i64 0, .int .i64 0, .int .i64 0, .string ⟨#[]⟩, .string ⟨#[]⟩, .int .i64 0, .int .i64 0, .string ⟨#[]⟩, .string ⟨#[]⟩]), .bool false])) (by simp [results, Tryz.results16, go_sem, zEn, *]) rfl ⟨by simp, (by repeat (first | (with_reducible exact B2.out) | (with_reducible apply below_alloc) | (with_reducible apply pw_below_drewN) | (with_reducible apply below_drew1) | with_reducible refine below_set ?_ (by first | (with_reducible exact Nat.le_refl _) | (with_reducible assumption) | (simp; done) | omega | (simp; omega))))⟩
    | true =>
      cases b2 with
      | false =>
        have hc : Q.convB i o up down = false := hconv.trans (by simp)
        rw [hc, if_neg (by decide)]
        clear hconv hc
        go_enter Tryz.func16, Tryz.ntmps16
        go_wp2_with (first | (go_at_call 37; with_reducible refine (Q.impl_EndInside.calls i.addr i.port _ _ F0.out).mono ?_; rintro r w1 ⟨rfl, hb1⟩; obtain ⟨hb1c, hb1f, hb1z⟩ := bcell hb1; (try simp at hb1z); (try have hb10 : w.heap.size < w1.heap.size := by omega); (try have hb11 : w.heap.size + 1 < w1.heap.size := by omega); (try have hb12 : w.heap.size + 2 < w1.heap.size := by omega); have B1 := Aside0.mk (show Below w.heap.size w w1 from (by refine below_step ?_ hb1; repeat (first | (with_reducible exact B0.out) | (with_reducible apply below_alloc) | (with_reducible apply pw_below_drewN) | (with_reducible apply below_drew1) | with_reducible refine below_set ?_ (by first | (with_reducible exact Nat.le_refl _) | (with_reducible assumption) | (simp; done) | omega | (simp; omega)))))) | (go_at_call 50; with_reducible refine (Q.impl_EndOutside.calls o.addr o.port _ _ F1.out).mono ?_; rintro r w2 ⟨rfl, hb2⟩; obtain ⟨hb2c, hb2f, hb2z⟩ := bcell hb2; (try simp at hb2z); (try have hb20 : w.heap.size < w2.heap.size := by omega); (try have hb21 : w.heap.size + 1 < w2.heap.size := by omega); (try have hb22 : w.heap.size + 2 < w2.heap.size := by omega); have B2 := Aside0.mk (show Below w.heap.size w w2 from (by refine below_step ?_ hb2; repeat (first | (with_reducible exact B1.out) | (with_reducible apply below_alloc) | (with_reducible apply pw_below_drewN) | (with_reducible apply below_drew1) | with_reducible refine below_set ?_ (by first | (with_reducible exact Nat.le_refl _) | (with_reducible assumption) | (simp; done) | omega | (simp; omega)))))) | (go_at_call 51; with_reducible refine (Q.impl_saying.calls (Q.mkB up) _ _ F2.out).mono ?_; rintro r w3 ⟨rfl, hb3⟩; obtain ⟨hb3c, hb3f, hb3z⟩ := bcell hb3; (try simp at hb3z); (try have hb30 : w.heap.size < w3.heap.size := by omega); (try have hb31 : w.heap.size + 1 < w3.heap.size := by omega); (try have hb32 : w.heap.size + 2 < w3.heap.size := by omega); have B3 := Aside0.mk (show Below w.heap.size w w3 from (by refine below_step ?_ hb3; repeat (first | (with_reducible exact B2.out) | (with_reducible apply below_alloc) | (with_reducible apply pw_below_drewN) | (with_reducible apply below_drew1) | with_reducible refine below_set ?_ (by first | (with_reducible exact Nat.le_refl _) | (with_reducible assumption) | (simp; done) | omega | (simp; omega)))))))
        refine bodyPost_ret (v := (.tuple #[(.agg #[.int .i64 0, .int .i64 0, .int .i64 0, .int .i64 0, .string ⟨#[]⟩, .string ⟨#[]⟩, .int .i64 0, .int .i64 0, .string ⟨#[]⟩, .string ⟨#[]⟩]), .bool false])) (by simp [results, Tryz.results16, go_sem, zEn, *]) rfl ⟨by simp, (by repeat (first | (with_reducible exact B3.out) | (with_reducible apply below_alloc) | (with_reducible apply pw_below_drewN) | (with_reducible apply below_drew1) | with_reducible refine below_set ?_ (by first | (with_reducible exact Nat.le_refl _) | (with_reducible assumption) | (simp; done) | omega | (simp; omega))))⟩
      | true =>
        cases b3 with
        | false =>
          have hc : Q.convB i o up down = false := hconv.trans (by simp)
          rw [hc, if_neg (by decide)]
          clear hconv hc
          go_enter Tryz.func16, Tryz.ntmps16
          go_wp2_with (first | (go_at_call 37; with_reducible refine (Q.impl_EndInside.calls i.addr i.port _ _ F0.out).mono ?_; rintro r w1 ⟨rfl, hb1⟩; obtain ⟨hb1c, hb1f, hb1z⟩ := bcell hb1; (try simp at hb1z); (try have hb10 : w.heap.size < w1.heap.size := by omega); (try have hb11 : w.heap.size + 1 < w1.heap.size := by omega); (try have hb12 : w.heap.size + 2 < w1.heap.size := by omega); have B1 := Aside0.mk (show Below w.heap.size w w1 from (by refine below_step ?_ hb1; repeat (first | (with_reducible exact B0.out) | (with_reducible apply below_alloc) | (with_reducible apply pw_below_drewN) | (with_reducible apply below_drew1) | with_reducible refine below_set ?_ (by first | (with_reducible exact Nat.le_refl _) | (with_reducible assumption) | (simp; done) | omega | (simp; omega)))))) | (go_at_call 50; with_reducible refine (Q.impl_EndOutside.calls o.addr o.port _ _ F1.out).mono ?_; rintro r w2 ⟨rfl, hb2⟩; obtain ⟨hb2c, hb2f, hb2z⟩ := bcell hb2; (try simp at hb2z); (try have hb20 : w.heap.size < w2.heap.size := by omega); (try have hb21 : w.heap.size + 1 < w2.heap.size := by omega); (try have hb22 : w.heap.size + 2 < w2.heap.size := by omega); have B2 := Aside0.mk (show Below w.heap.size w w2 from (by refine below_step ?_ hb2; repeat (first | (with_reducible exact B1.out) | (with_reducible apply below_alloc) | (with_reducible apply pw_below_drewN) | (with_reducible apply below_drew1) | with_reducible refine below_set ?_ (by first | (with_reducible exact Nat.le_refl _) | (with_reducible assumption) | (simp; done) | omega | (simp; omega)))))) | (go_at_call 51; with_reducible refine (Q.impl_saying.calls (Q.mkB up) _ _ F2.out).mono ?_; rintro r w3 ⟨rfl, hb3⟩; obtain ⟨hb3c, hb3f, hb3z⟩ := bcell hb3; (try simp at hb3z); (try have hb30 : w.heap.size < w3.heap.size := by omega); (try have hb31 : w.heap.size + 1 < w3.heap.size := by omega); (try have hb32 : w.heap.size + 2 < w3.heap.size := by omega); have B3 := Aside0.mk (show Below w.heap.size w w3 from (by refine below_step ?_ hb3; repeat (first | (with_reducible exact B2.out) | (with_reducible apply below_alloc) | (with_reducible apply pw_below_drewN) | (with_reducible apply below_drew1) | with_reducible refine below_set ?_ (by first | (with_reducible exact Nat.le_refl _) | (with_reducible assumption) | (simp; done) | omega | (simp; omega)))))) | (go_at_call 51; with_reducible refine (Q.impl_saying.calls (Q.mkB down) _ _ F3.out).mono ?_; rintro r w4 ⟨rfl, hb4⟩; obtain ⟨hb4c, hb4f, hb4z⟩ := bcell hb4; (try simp at hb4z); (try have hb40 : w.heap.size < w4.heap.size := by omega); (try have hb41 : w.heap.size + 1 < w4.heap.size := by omega); (try have hb42 : w.heap.size + 2 < w4.heap.size := by omega); have B4 := Aside0.mk (show Below w.heap.size w w4 from (by refine below_step ?_ hb4; repeat (first | (with_reducible exact B3.out) | (with_reducible apply below_alloc) | (with_reducible apply pw_below_drewN) | (with_reducible apply below_drew1) | with_reducible refine below_set ?_ (by first | (with_reducible exact Nat.le_refl _) | (with_reducible assumption) | (simp; done) | omega | (simp; omega)))))))
          refine bodyPost_ret (v := (.tuple #[(.agg #[.int .i64 0, .int .i64 0, .int .i64 0, .int .i64 0, .string ⟨#[]⟩, .string ⟨#[]⟩, .int .i64 0, .int .i64 0, .string ⟨#[]⟩, .string ⟨#[]⟩]), .bool false])) (by simp [results, Tryz.results16, go_sem, zEn, *]) rfl ⟨by simp, (by repeat (first | (with_reducible exact B4.out) | (with_reducible apply below_alloc) | (with_reducible apply pw_below_drewN) | (with_reducible apply below_drew1) | with_reducible refine below_set ?_ (by first | (with_reducible exact Nat.le_refl _) | (with_reducible assumption) | (simp; done) | omega | (simp; omega))))⟩
        | true =>
          cases b4 with
          | true =>
            have hc : Q.convB i o up down = false := hconv.trans (by simp)
            rw [hc, if_neg (by decide)]
            clear hconv hc
            go_enter Tryz.func16, Tryz.ntmps16
            go_wp2_with (first | (go_at_call 37; with_reducible refine (Q.impl_EndInside.calls i.addr i.port _ _ F0.out).mono ?_; rintro r w1 ⟨rfl, hb1⟩; obtain ⟨hb1c, hb1f, hb1z⟩ := bcell hb1; (try simp at hb1z); (try have hb10 : w.heap.size < w1.heap.size := by omega); (try have hb11 : w.heap.size + 1 < w1.heap.size := by omega); (try have hb12 : w.heap.size + 2 < w1.heap.size := by omega); have B1 := Aside0.mk (show Below w.heap.size w w1 from (by refine below_step ?_ hb1; repeat (first | (with_reducible exact B0.out) | (with_reducible apply below_alloc) | (with_reducible apply pw_below_drewN) | (with_reducible apply below_drew1) | with_reducible refine below_set ?_ (by first | (with_reducible exact Nat.le_refl _) | (with_reducible assumption) | (simp; done) | omega | (simp; omega)))))) | (go_at_call 50; with_reducible refine (Q.impl_EndOutside.calls o.addr o.port _ _ F1.out).mono ?_; rintro r w2 ⟨rfl, hb2⟩; obtain ⟨hb2c, hb2f, hb2z⟩ := bcell hb2; (try simp at hb2z); (try have hb20 : w.heap.size < w2.heap.size := by omega); (try have hb21 : w.heap.size + 1 < w2.heap.size := by omega); (try have hb22 : w.heap.size + 2 < w2.heap.size := by omega); have B2 := Aside0.mk (show Below w.heap.size w w2 from (by refine below_step ?_ hb2; repeat (first | (with_reducible exact B1.out) | (with_reducible apply below_alloc) | (with_reducible apply pw_below_drewN) | (with_reducible apply below_drew1) | with_reducible refine below_set ?_ (by first | (with_reducible exact Nat.le_refl _) | (with_reducible assumption) | (simp; done) | omega | (simp; omega)))))) | (go_at_call 51; with_reducible refine (Q.impl_saying.calls (Q.mkB up) _ _ F2.out).mono ?_; rintro r w3 ⟨rfl, hb3⟩; obtain ⟨hb3c, hb3f, hb3z⟩ := bcell hb3; (try simp at hb3z); (try have hb30 : w.heap.size < w3.heap.size := by omega); (try have hb31 : w.heap.size + 1 < w3.heap.size := by omega); (try have hb32 : w.heap.size + 2 < w3.heap.size := by omega); have B3 := Aside0.mk (show Below w.heap.size w w3 from (by refine below_step ?_ hb3; repeat (first | (with_reducible exact B2.out) | (with_reducible apply below_alloc) | (with_reducible apply pw_below_drewN) | (with_reducible apply below_drew1) | with_reducible refine below_set ?_ (by first | (with_reducible exact Nat.le_refl _) | (with_reducible assumption) | (simp; done) | omega | (simp; omega)))))) | (go_at_call 51; with_reducible refine (Q.impl_saying.calls (Q.mkB down) _ _ F3.out).mono ?_; rintro r w4 ⟨rfl, hb4⟩; obtain ⟨hb4c, hb4f, hb4z⟩ := bcell hb4; (try simp at hb4z); (try have hb40 : w.heap.size < w4.heap.size := by omega); (try have hb41 : w.heap.size + 1 < w4.heap.size := by omega); (try have hb42 : w.heap.size + 2 < w4.heap.size := by omega); have B4 := Aside0.mk (show Below w.heap.size w w4 from (by refine below_step ?_ hb4; repeat (first | (with_reducible exact B3.out) | (with_reducible apply below_alloc) | (with_reducible apply pw_below_drewN) | (with_reducible apply below_drew1) | with_reducible refine below_set ?_ (by first | (with_reducible exact Nat.le_refl _) | (with_reducible assumption) | (simp; done) | omega | (simp; omega)))))) | (go_at_call 34; with_reducible refine (Q.impl_TextNames.calls k (Q.mkB up) _ _ (HV.out.next (by repeat (first | (with_reducible exact B4.out) | (with_reducible apply below_alloc) | (with_reducible apply pw_below_drewN) | (with_reducible apply below_drew1) | with_reducible refine below_set ?_ (by first | (with_reducible exact Nat.le_refl _) | (with_reducible assumption) | (simp; done) | omega | (simp; omega))))) HN.out).mono ?_; rintro r v5 ⟨x5, rfl, hx5, hb5n⟩; obtain ⟨hb5nc, hb5nf, hb5nz⟩ := bcell hb5n; (try simp at hb5nz); (try have hb5n0 : w.heap.size < v5.heap.size := by omega); (try have hb5n1 : w.heap.size + 1 < v5.heap.size := by omega); (try have hb5n2 : w.heap.size + 2 < v5.heap.size := by omega); have Bn := Aside0.mk (show Below w.heap.size w v5 from (by refine below_step ?_ hb5n; repeat (first | (with_reducible exact B4.out) | (with_reducible apply below_alloc) | (with_reducible apply pw_below_drewN) | (with_reducible apply below_drew1) | with_reducible refine below_set ?_ (by first | (with_reducible exact Nat.le_refl _) | (with_reducible assumption) | (simp; done) | omega | (simp; omega))))); obtain ⟨A5, c5, ex5⟩ := Kd.V_slice hx5; subst ex5; have HX5 := Aside0.mk hx5; clear hx5) | (go_at_call 52; with_reducible refine (Q.slices_ContainsFunc_End.calls A5 c5 _ _ _ (Kd.V_reads' HX5.out).2.2 (Kd.V_reads' HX5.out).2.1 F4.out).mono ?_; rintro r w5 ⟨rfl, hb5⟩; obtain ⟨hb5c, hb5f, hb5z⟩ := bcell hb5; (try simp at hb5z); (try have hb50 : w.heap.size < w5.heap.size := by omega); (try have hb51 : w.heap.size + 1 < w5.heap.size := by omega); (try have hb52 : w.heap.size + 2 < w5.heap.size := by omega); have B5 := Aside0.mk (show Below w.heap.size w w5 from (by refine below_step ?_ hb5; repeat (first | (with_reducible exact Bn.out) | (with_reducible apply below_alloc) | (with_reducible apply pw_below_drewN) | (with_reducible apply below_drew1) | with_reducible refine below_set ?_ (by first | (with_reducible exact Nat.le_refl _) | (with_reducible assumption) | (simp; done) | omega | (simp; omega)))))))
            refine bodyPost_ret (v := (.tuple #[(.agg #[.int .i64 0, .int .i64 0, .int .i64 0, .int .i64 0, .string ⟨#[]⟩, .string ⟨#[]⟩, .int .i64 0, .int .i64 0, .string ⟨#[]⟩, .string ⟨#[]⟩]), .bool false])) (by simp [results, Tryz.results16, go_sem, zEn, *]) rfl ⟨by simp, (by repeat (first | (with_reducible exact B5.out) | (with_reducible apply below_alloc) | (with_reducible apply pw_below_drewN) | (with_reducible apply below_drew1) | with_reducible refine below_set ?_ (by first | (with_reducible exact Nat.le_refl _) | (with_reducible assumption) | (simp; done) | omega | (simp; omega))))⟩
          | false =>
            have hc : Q.convB i o up down = true := hconv.trans (by simp)
            rw [hc, if_pos rfl]
            clear hconv hc
            go_enter Tryz.func16, Tryz.ntmps16
            go_wp2_with (first | (go_at_call 37; with_reducible refine (Q.impl_EndInside.calls i.addr i.port _ _ F0.out).mono ?_; rintro r w1 ⟨rfl, hb1⟩; obtain ⟨hb1c, hb1f, hb1z⟩ := bcell hb1; (try simp at hb1z); (try have hb10 : w.heap.size < w1.heap.size := by omega); (try have hb11 : w.heap.size + 1 < w1.heap.size := by omega); (try have hb12 : w.heap.size + 2 < w1.heap.size := by omega); have B1 := Aside0.mk (show Below w.heap.size w w1 from (by refine below_step ?_ hb1; repeat (first | (with_reducible exact B0.out) | (with_reducible apply below_alloc) | (with_reducible apply pw_below_drewN) | (with_reducible apply below_drew1) | with_reducible refine below_set ?_ (by first | (with_reducible exact Nat.le_refl _) | (with_reducible assumption) | (simp; done) | omega | (simp; omega)))))) | (go_at_call 50; with_reducible refine (Q.impl_EndOutside.calls o.addr o.port _ _ F1.out).mono ?_; rintro r w2 ⟨rfl, hb2⟩; obtain ⟨hb2c, hb2f, hb2z⟩ := bcell hb2; (try simp at hb2z); (try have hb20 : w.heap.size < w2.heap.size := by omega); (try have hb21 : w.heap.size + 1 < w2.heap.size := by omega); (try have hb22 : w.heap.size + 2 < w2.heap.size := by omega); have B2 := Aside0.mk (show Below w.heap.size w w2 from (by refine below_step ?_ hb2; repeat (first | (with_reducible exact B1.out) | (with_reducible apply below_alloc) | (with_reducible apply pw_below_drewN) | (with_reducible apply below_drew1) | with_reducible refine below_set ?_ (by first | (with_reducible exact Nat.le_refl _) | (with_reducible assumption) | (simp; done) | omega | (simp; omega)))))) | (go_at_call 51; with_reducible refine (Q.impl_saying.calls (Q.mkB up) _ _ F2.out).mono ?_; rintro r w3 ⟨rfl, hb3⟩; obtain ⟨hb3c, hb3f, hb3z⟩ := bcell hb3; (try simp at hb3z); (try have hb30 : w.heap.size < w3.heap.size := by omega); (try have hb31 : w.heap.size + 1 < w3.heap.size := by omega); (try have hb32 : w.heap.size + 2 < w3.heap.size := by omega); have B3 := Aside0.mk (show Below w.heap.size w w3 from (by refine below_step ?_ hb3; repeat (first | (with_reducible exact B2.out) | (with_reducible apply below_alloc) | (with_reducible apply pw_below_drewN) | (with_reducible apply below_drew1) | with_reducible refine below_set ?_ (by first | (with_reducible exact Nat.le_refl _) | (with_reducible assumption) | (simp; done) | omega | (simp; omega)))))) | (go_at_call 51; with_reducible refine (Q.impl_saying.calls (Q.mkB down) _ _ F3.out).mono ?_; rintro r w4 ⟨rfl, hb4⟩; obtain ⟨hb4c, hb4f, hb4z⟩ := bcell hb4; (try simp at hb4z); (try have hb40 : w.heap.size < w4.heap.size := by omega); (try have hb41 : w.heap.size + 1 < w4.heap.size := by omega); (try have hb42 : w.heap.size + 2 < w4.heap.size := by omega); have B4 := Aside0.mk (show Below w.heap.size w w4 from (by refine below_step ?_ hb4; repeat (first | (with_reducible exact B3.out) | (with_reducible apply below_alloc) | (with_reducible apply pw_below_drewN) | (with_reducible apply below_drew1) | with_reducible refine below_set ?_ (by first | (with_reducible exact Nat.le_refl _) | (with_reducible assumption) | (simp; done) | omega | (simp; omega)))))) | (go_at_call 34; with_reducible refine (Q.impl_TextNames.calls k (Q.mkB up) _ _ (HV.out.next (by repeat (first | (with_reducible exact B4.out) | (with_reducible apply below_alloc) | (with_reducible apply pw_below_drewN) | (with_reducible apply below_drew1) | with_reducible refine below_set ?_ (by first | (with_reducible exact Nat.le_refl _) | (with_reducible assumption) | (simp; done) | omega | (simp; omega))))) HN.out).mono ?_; rintro r v5 ⟨x5, rfl, hx5, hb5n⟩; obtain ⟨hb5nc, hb5nf, hb5nz⟩ := bcell hb5n; (try simp at hb5nz); (try have hb5n0 : w.heap.size < v5.heap.size := by omega); (try have hb5n1 : w.heap.size + 1 < v5.heap.size := by omega); (try have hb5n2 : w.heap.size + 2 < v5.heap.size := by omega); have Bn := Aside0.mk (show Below w.heap.size w v5 from (by refine below_step ?_ hb5n; repeat (first | (with_reducible exact B4.out) | (with_reducible apply below_alloc) | (with_reducible apply pw_below_drewN) | (with_reducible apply below_drew1) | with_reducible refine below_set ?_ (by first | (with_reducible exact Nat.le_refl _) | (with_reducible assumption) | (simp; done) | omega | (simp; omega))))); obtain ⟨A5, c5, ex5⟩ := Kd.V_slice hx5; subst ex5; have HX5 := Aside0.mk hx5; clear hx5) | (go_at_call 52; with_reducible refine (Q.slices_ContainsFunc_End.calls A5 c5 _ _ _ (Kd.V_reads' HX5.out).2.2 (Kd.V_reads' HX5.out).2.1 F4.out).mono ?_; rintro r w5 ⟨rfl, hb5⟩; obtain ⟨hb5c, hb5f, hb5z⟩ := bcell hb5; (try simp at hb5z); (try have hb50 : w.heap.size < w5.heap.size := by omega); (try have hb51 : w.heap.size + 1 < w5.heap.size := by omega); (try have hb52 : w.heap.size + 2 < w5.heap.size := by omega); have B5 := Aside0.mk (show Below w.heap.size w w5 from (by refine below_step ?_ hb5; repeat (first | (with_reducible exact Bn.out) | (with_reducible apply below_alloc) | (with_reducible apply pw_below_drewN) | (with_reducible apply below_drew1) | with_reducible refine below_set ?_ (by first | (with_reducible exact Nat.le_refl _) | (with_reducible assumption) | (simp; done) | omega | (simp; omega)))))))
            refine bodyPost_ret (v := (.tuple #[(.agg #[.int .i64 i.addr, .int .i64 i.port, .int .i64 o.addr, .int .i64 o.port, .string (Q.mkB up), .string (Q.mkB down), .int .i64 0, .int .i64 0, .string ⟨#[]⟩, .string ⟨#[]⟩]), .bool true])) (by simp [results, Tryz.results16, go_sem, zEn, *]) rfl ⟨by simp, (by repeat (first | (with_reducible exact B5.out) | (with_reducible apply below_alloc) | (with_reducible apply pw_below_drewN) | (with_reducible apply below_drew1) | with_reducible refine below_set ?_ (by first | (with_reducible exact Nat.le_refl _) | (with_reducible assumption) | (simp; done) | omega | (simp; omega))))⟩
end Go.Proofs.YtijompkonaiagaaGreatDoor.Z
namespace Go.Proofs.YtijompkonaiagaaGreatDoor.Z
open Go.RowKit Go.Proofs.YtijompkonaiagaaGreatDoorW.PrintWords Go.Proofs.YtijompkonaiagaaGreatDoorW.PrintLast
set_option linter.unusedVariables false
set_option linter.unusedSimpArgs false
attribute [local go_sem ↓] Go.wp_at_zero Go.wp_at_succ
attribute [local go_sem high] eqCv bytes_append
set_option maxRecDepth 100000 in
set_option maxHeartbeats 4000000 in
theorem law_ConvWhole (k : Nat) (hk : 3000 < k) (A : Option Addr) (c : Nat) (code : List Int) (i o : En) (up down : List UInt8) (w : World) (hC : Kd.C (Kd.int .u8) w A code.length code) (hc : code.length ≤ c) (hV : VarsIn w)
    (hlen : code.length ≤ 1048576) (hD : Q.spec_DrawConvNew.f k code = some (i.addr, i.port, o.addr, o.port, Q.mkB up, Q.mkB down)) (hu : up.length ≤ 100) (hd : down.length ≤ 100) :
    Calls Tryz.prog 3 #[.slice A code.length c] w fun r w' => r = .returned (.bool true) ∧ Below w.heap.size w w' := by
  have tl : decide ((code.length : Int) > 1048576) = false := decide_eq_false (by omega)
  have tl2 : decide ((1048576 : Int) < (code.length : Int)) = false := decide_eq_false (by omega)
  have B0 := Aside0.mk (Below.refl w.heap.size w)
  have HC := Aside0.mk hC; clear hC
  have HV := Aside0.mk hV; clear hV
  have HD := Aside0.mk hD; clear hD
  cases hb : Q.convB i o up down with
  | false =>
    have HS := Aside0.mk (show ∀ w : World, Calls Tryz.prog 15 #[.agg #[.int .i64 i.addr, .int .i64 i.port], .agg #[.int .i64 o.addr, .int .i64 o.port], .string (Q.mkB up), .string (Q.mkB down)] w fun r w' => r = .returned (.tuple #[.agg #[.int .i64 0, .int .i64 0, .int .i64 0, .int .i64 0, .string ⟨#[]⟩, .string ⟨#[]⟩, .int .i64 0, .int .i64 0, .string ⟨#[]⟩, .string ⟨#[]⟩], .bool false]) ∧ Below w.heap.size w w' from fun w => by
      have := spec_conv k (by omega) i o up down (by omega) (by omega) w
      rw [hb, if_neg (by decide)] at this
      exact this)
    have HI := Aside0.mk (show ∀ w : World, VarsIn w → Calls Tryz.prog 16 #[.agg #[.int .i64 i.addr, .int .i64 i.port], .agg #[.int .i64 o.addr, .int .i64 o.port], .string (Q.mkB up), .string (Q.mkB down)] w fun r w' => r = .returned (.tuple #[.agg #[.int .i64 0, .int .i64 0, .int .i64 0, .int .i64 0, .string ⟨#[]⟩, .string ⟨#[]⟩, .int .i64 0, .int .i64 0, .string ⟨#[]⟩, .string ⟨#[]⟩], .bool false]) ∧ Below w.heap.size w w' from fun w hV => by
      have := impl_conv k (by omega) i o up down (by omega) (by omega) w hV
      rw [hb, if_neg (by decide)] at this
      exact this)
    clear hb
    go_enter Tryz.func3, Tryz.ntmps3
    go_wp2_with (first | (go_at_call 14; with_reducible refine (Q.spec_DrawConvNew.calls k A c code _ _ _ _ _ _ _ HC.out hc HD.out).mono ?_; rintro r w1 ⟨rfl, hb1⟩; obtain ⟨hb1c, hb1f, hb1z⟩ := bcell hb1; (try simp at hb1z); (try have hb10 : w.heap.size < w1.heap.size := by omega); (try have hb11 : w.heap.size + 1 < w1.heap.size := by omega); (try have hb12 : w.heap.size + 2 < w1.heap.size := by omega); have B1 := Aside0.mk (show Below w.heap.size w w1 from (by refine below_step ?_ hb1; repeat (first | (with_reducible exact B0.out) | (with_reducible apply below_alloc) | (with_reducible apply pw_below_drewN) | (with_reducible apply below_drew1) | with_reducible refine below_set ?_ (by first | (with_reducible exact Nat.le_refl _) | (with_reducible assumption) | (simp; done) | omega | (simp; omega)))))) | (go_at_call 15; with_reducible refine (HS.out _).mono ?_; rintro r w2 ⟨rfl, hb2⟩; obtain ⟨hb2c, hb2f, hb2z⟩ := bcell hb2; (try simp at hb2z); (try have hb20 : w.heap.size < w2.heap.size := by omega); (try have hb21 : w.heap.size + 1 < w2.heap.size := by omega); (try have hb22 : w.heap.size + 2 < w2.heap.size := by omega); have B2 := Aside0.mk (show Below w.heap.size w w2 from (by refine below_step ?_ hb2; repeat (first | (with_reducible exact B1.out) | (with_reducible apply below_alloc) | (with_reducible apply pw_below_drewN) | (with_reducible apply below_drew1) | with_reducible refine below_set ?_ (by first | (with_reducible exact Nat.le_refl _) | (with_reducible assumption) | (simp; done) | omega | (simp; omega))))); have y2_1_0 : w1.heap.size < w2.heap.size := (by omega); have y2_1_1 : w1.heap.size + 1 < w2.heap.size := (by omega)) | (go_at_call 16; with_reducible refine (HI.out _ (HV.out.next (by repeat (first | (with_reducible exact B2.out) | (with_reducible apply below_alloc) | (with_reducible apply pw_below_drewN) | (with_reducible apply below_drew1) | with_reducible refine below_set ?_ (by first | (with_reducible exact Nat.le_refl _) | (with_reducible assumption) | (simp; done) | omega | (simp; omega)))))).mono ?_; rintro r w3 ⟨rfl, hb3⟩; obtain ⟨hb3c, hb3f, hb3z⟩ := bcell hb3; (try simp at hb3z); (try have hb30 : w.heap.size < w3.heap.size := by omega); (try have hb31 : w.heap.size + 1 < w3.heap.size := by omega); (try have hb32 : w.heap.size + 2 < w3.heap.size := by omega); have B3 := Aside0.mk (show Below w.heap.size w w3 from (by refine below_step ?_ hb3; repeat (first | (with_reducible exact B2.out) | (with_reducible apply below_alloc) | (with_reducible apply pw_below_drewN) | (with_reducible apply below_drew1) | with_reducible refine below_set ?_ (by first | (with_reducible exact Nat.le_refl _) | (with_reducible assumption) | (simp; done) | omega | (simp; omega))))); have y3_1_0 : w1.heap.size < w3.heap.size := (by omega); have y3_1_1 : w1.heap.size + 1 < w3.heap.size := (by omega); have y3_2_0 : w2.heap.size < w3.heap.size := (by omega)))
    all_goals first | (go_ret; exact ⟨by simp, (by repeat (first | (with_reducible exact B3.out) | (with_reducible apply below_alloc) | (with_reducible apply pw_below_drewN) | (with_reducible apply below_drew1) | with_reducible refine below_set ?_ (by first | (with_reducible exact Nat.le_refl _) | (with_reducible assumption) | (simp; done) | omega | (simp; omega))))⟩) | exact ⟨.bool true, rfl, rfl, (by repeat (first | (with_reducible exact B3.out) | (with_reducible apply below_alloc) | (with_reducible apply pw_below_drewN) | (with_reducible apply below_drew1) | with_reducible refine below_set ?_ (by first | (with_reducible exact Nat.le_refl _) | (with_reducible assumption) | (simp; done) | omega | (simp; omega))))⟩ | exact ⟨.bool true, by go_simp, rfl, (by repeat (first | (with_reducible exact B3.out) | (with_reducible apply below_alloc) | (with_reducible apply pw_below_drewN) | (with_reducible apply below_drew1) | with_reducible refine below_set ?_ (by first | (with_reducible exact Nat.le_refl _) | (with_reducible assumption) | (simp; done) | omega | (simp; omega))))⟩
  | true =>
    obtain ⟨g1, g2, g3, g4, g5, g6, g7, g8⟩ := Q.conv_whole hb
    have HS := Aside0.mk (show ∀ w : World, Calls Tryz.prog 15 #[.agg #[.int .i64 i.addr, .int .i64 i.port], .agg #[.int .i64 o.addr, .int .i64 o.port], .string (Q.mkB up), .string (Q.mkB down)] w fun r w' => r = .returned (.tuple #[.agg #[.int .i64 i.addr, .int .i64 i.port, .int .i64 o.addr, .int .i64 o.port, .string (Q.mkB up), .string (Q.mkB down), .int .i64 0, .int .i64 0, .string ⟨#[]⟩, .string ⟨#[]⟩], .bool true]) ∧ Below w.heap.size w w' from fun w => by
      have := spec_conv k (by omega) i o up down (by omega) (by omega) w
      rw [hb, if_pos rfl] at this
      exact this)
    have HI := Aside0.mk (show ∀ w : World, VarsIn w → Calls Tryz.prog 16 #[.agg #[.int .i64 i.addr, .int .i64 i.port], .agg #[.int .i64 o.addr, .int .i64 o.port], .string (Q.mkB up), .string (Q.mkB down)] w fun r w' => r = .returned (.tuple #[.agg #[.int .i64 i.addr, .int .i64 i.port, .int .i64 o.addr, .int .i64 o.port, .string (Q.mkB up), .string (Q.mkB down), .int .i64 0, .int .i64 0, .string ⟨#[]⟩, .string ⟨#[]⟩], .bool true]) ∧ Below w.heap.size w w' from fun w hV => by
      have := impl_conv k (by omega) i o up down (by omega) (by omega) w hV
      rw [hb, if_pos rfl] at this
      exact this)
    have HI2 := Aside0.mk (show ∀ w : World, VarsIn w → Calls Tryz.prog 16 #[.agg #[.int .i64 i.addr, .int .i64 i.port], .agg #[.int .i64 o.addr, .int .i64 o.port], .string (Q.mkB (up ++ [64])), .string (Q.mkB down)] w fun r w' => r = .returned (.tuple #[.agg #[.int .i64 0, .int .i64 0, .int .i64 0, .int .i64 0, .string ⟨#[]⟩, .string ⟨#[]⟩, .int .i64 0, .int .i64 0, .string ⟨#[]⟩, .string ⟨#[]⟩], .bool false]) ∧ Below w.heap.size w w' from fun w hV => by
      have := impl_conv k (by omega) i o (up ++ [64]) down (by rw [List.length_append, List.length_singleton]; omega) (by omega) w hV
      rw [g6, if_neg (by decide)] at this
      exact this)
    have HI3 := Aside0.mk (show ∀ w : World, VarsIn w → Calls Tryz.prog 16 #[.agg #[.int .i64 i.addr, .int .i64 i.port], .agg #[.int .i64 o.addr, .int .i64 o.port], .string (Q.mkB up), .string (Q.mkB (down ++ [64, 49]))] w fun r w' => r = .returned (.tuple #[.agg #[.int .i64 0, .int .i64 0, .int .i64 0, .int .i64 0, .string ⟨#[]⟩, .string ⟨#[]⟩, .int .i64 0, .int .i64 0, .string ⟨#[]⟩, .string ⟨#[]⟩], .bool false]) ∧ Below w.heap.size w w' from fun w hV => by
      have := impl_conv k (by omega) i o up (down ++ [64, 49]) (by omega) (by rw [List.length_append]; show down.length + 2 ≤ _; omega) w hV
      rw [g7, if_neg (by decide)] at this
      exact this)
    have HI4 := Aside0.mk (show ∀ w : World, VarsIn w → Calls Tryz.prog 16 #[.agg #[.int .i64 o.addr, .int .i64 o.port], .agg #[.int .i64 i.addr, .int .i64 i.port], .string (Q.mkB up), .string (Q.mkB down)] w fun r w' => r = .returned (.tuple #[.agg #[.int .i64 0, .int .i64 0, .int .i64 0, .int .i64 0, .string ⟨#[]⟩, .string ⟨#[]⟩, .int .i64 0, .int .i64 0, .string ⟨#[]⟩, .string ⟨#[]⟩], .bool false]) ∧ Below w.heap.size w w' from fun w hV => by
      have := impl_conv k (by omega) o i up down (by omega) (by omega) w hV
      rw [g8, if_neg (by decide)] at this
      exact this)
    have T1 := Q.textHeld_is up (by omega)
    have T2 := Q.textHeld_is down (by omega)
    have e5 : (if textOk up then (heldN up : Int) else 0) = 0 := by rw [g3]; split <;> rfl
    have e6 : (if textOk down then (heldN down : Int) else 0) = 0 := by rw [g4]; split <;> rfl
    rw [e5] at T1
    rw [e6] at T2
    have O1 := Q.ownText_is k (by omega) up (by omega)
    rw [g5] at O1
    have HT1 := Aside0.mk T1; clear T1
    have HT2 := Aside0.mk T2; clear T2
    have HO1 := Aside0.mk O1; clear O1
    clear e5 e6 hb g3 g4 g5 g6 g7 g8
    have t1 : decide ((up.length : Int) ≤ 24) = true := decide_eq_true (by omega)
    have t2 : decide ((down.length : Int) ≤ 24) = true := decide_eq_true (by omega)
    have s1 : ¬ (9223372036854775807 < up.length + 1) := by omega
    have s2 : ¬ (9223372036854775807 < down.length + 2) := by omega
    clear g1 g2 hu hd
    go_enter Tryz.func3, Tryz.ntmps3
    go_wp2_with (first | (go_at_call 14; with_reducible refine (Q.spec_DrawConvNew.calls k A c code _ _ _ _ _ _ _ HC.out hc HD.out).mono ?_; rintro r w1 ⟨rfl, hb1⟩; obtain ⟨hb1c, hb1f, hb1z⟩ := bcell hb1; (try simp at hb1z); (try have hb10 : w.heap.size < w1.heap.size := by omega); (try have hb11 : w.heap.size + 1 < w1.heap.size := by omega); (try have hb12 : w.heap.size + 2 < w1.heap.size := by omega); have B1 := Aside0.mk (show Below w.heap.size w w1 from (by refine below_step ?_ hb1; repeat (first | (with_reducible exact B0.out) | (with_reducible apply below_alloc) | (with_reducible apply pw_below_drewN) | (with_reducible apply below_drew1) | with_reducible refine below_set ?_ (by first | (with_reducible exact Nat.le_refl _) | (with_reducible assumption) | (simp; done) | omega | (simp; omega)))))) | (go_at_call 15; with_reducible refine (HS.out _).mono ?_; rintro r w2 ⟨rfl, hb2⟩; obtain ⟨hb2c, hb2f, hb2z⟩ := bcell hb2; (try simp at hb2z); (try have hb20 : w.heap.size < w2.heap.size := by omega); (try have hb21 : w.heap.size + 1 < w2.heap.size := by omega); (try have hb22 : w.heap.size + 2 < w2.heap.size := by omega); have B2 := Aside0.mk (show Below w.heap.size w w2 from (by refine below_step ?_ hb2; repeat (first | (with_reducible exact B1.out) | (with_reducible apply below_alloc) | (with_reducible apply pw_below_drewN) | (with_reducible apply below_drew1) | with_reducible refine below_set ?_ (by first | (with_reducible exact Nat.le_refl _) | (with_reducible assumption) | (simp; done) | omega | (simp; omega))))); have y2_1_0 : w1.heap.size < w2.heap.size := (by omega); have y2_1_1 : w1.heap.size + 1 < w2.heap.size := (by omega)) | (go_at_call 16; with_reducible refine (HI.out _ (HV.out.next (by repeat (first | (with_reducible exact B2.out) | (with_reducible apply below_alloc) | (with_reducible apply pw_below_drewN) | (with_reducible apply below_drew1) | with_reducible refine below_set ?_ (by first | (with_reducible exact Nat.le_refl _) | (with_reducible assumption) | (simp; done) | omega | (simp; omega)))))).mono ?_; rintro r w3 ⟨rfl, hb3⟩; obtain ⟨hb3c, hb3f, hb3z⟩ := bcell hb3; (try simp at hb3z); (try have hb30 : w.heap.size < w3.heap.size := by omega); (try have hb31 : w.heap.size + 1 < w3.heap.size := by omega); (try have hb32 : w.heap.size + 2 < w3.heap.size := by omega); have B3 := Aside0.mk (show Below w.heap.size w w3 from (by refine below_step ?_ hb3; repeat (first | (with_reducible exact B2.out) | (with_reducible apply below_alloc) | (with_reducible apply pw_below_drewN) | (with_reducible apply below_drew1) | with_reducible refine below_set ?_ (by first | (with_reducible exact Nat.le_refl _) | (with_reducible assumption) | (simp; done) | omega | (simp; omega))))); have y3_1_0 : w1.heap.size < w3.heap.size := (by omega); have y3_1_1 : w1.heap.size + 1 < w3.heap.size := (by omega); have y3_2_0 : w2.heap.size < w3.heap.size := (by omega)) | (go_at_call 16; with_reducible refine (HI2.out _ (HV.out.next (by repeat (first | (with_reducible exact B3.out) | (with_reducible apply below_alloc) | (with_reducible apply pw_below_drewN) | (with_reducible apply below_drew1) | with_reducible refine below_set ?_ (by first | (with_reducible exact Nat.le_refl _) | (with_reducible assumption) | (simp; done) | omega | (simp; omega)))))).mono ?_; rintro r w4 ⟨rfl, hb4⟩; obtain ⟨hb4c, hb4f, hb4z⟩ := bcell hb4; (try simp at hb4z); (try have hb40 : w.heap.size < w4.heap.size := by omega); (try have hb41 : w.heap.size + 1 < w4.heap.size := by omega); (try have hb42 : w.heap.size + 2 < w4.heap.size := by omega); have B4 := Aside0.mk (show Below w.heap.size w w4 from (by refine below_step ?_ hb4; repeat (first | (with_reducible exact B3.out) | (with_reducible apply below_alloc) | (with_reducible apply pw_below_drewN) | (with_reducible apply below_drew1) | with_reducible refine below_set ?_ (by first | (with_reducible exact Nat.le_refl _) | (with_reducible assumption) | (simp; done) | omega | (simp; omega))))); have y4_1_0 : w1.heap.size < w4.heap.size := (by omega); have y4_1_1 : w1.heap.size + 1 < w4.heap.size := (by omega); have y4_2_0 : w2.heap.size < w4.heap.size := (by omega); have y4_3_0 : w3.heap.size < w4.heap.size := (by omega)) | (go_at_call 16; with_reducible refine (HI3.out _ (HV.out.next (by repeat (first | (with_reducible exact B4.out) | (with_reducible apply below_alloc) | (with_reducible apply pw_below_drewN) | (with_reducible apply below_drew1) | with_reducible refine below_set ?_ (by first | (with_reducible exact Nat.le_refl _) | (with_reducible assumption) | (simp; done) | omega | (simp; omega)))))).mono ?_; rintro r w5 ⟨rfl, hb5⟩; obtain ⟨hb5c, hb5f, hb5z⟩ := bcell hb5; (try simp at hb5z); (try have hb50 : w.heap.size < w5.heap.size := by omega); (try have hb51 : w.heap.size + 1 < w5.heap.size := by omega); (try have hb52 : w.heap.size + 2 < w5.heap.size := by omega); have B5 := Aside0.mk (show Below w.heap.size w w5 from (by refine below_step ?_ hb5; repeat (first | (with_reducible exact B4.out) | (with_reducible apply below_alloc) | (with_reducible apply pw_below_drewN) | (with_reducible apply below_drew1) | with_reducible refine below_set ?_ (by first | (with_reducible exact Nat.le_refl _) | (with_reducible assumption) | (simp; done) | omega | (simp; omega))))); have y5_1_0 : w1.heap.size < w5.heap.size := (by omega); have y5_1_1 : w1.heap.size + 1 < w5.heap.size := (by omega); have y5_2_0 : w2.heap.size < w5.heap.size := (by omega); have y5_3_0 : w3.heap.size < w5.heap.size := (by omega); have y5_4_0 : w4.heap.size < w5.heap.size := (by omega)) | (go_at_call 16; with_reducible refine (HI4.out _ (HV.out.next (by repeat (first | (with_reducible exact B5.out) | (with_reducible apply below_alloc) | (with_reducible apply pw_below_drewN) | (with_reducible apply below_drew1) | with_reducible refine below_set ?_ (by first | (with_reducible exact Nat.le_refl _) | (with_reducible assumption) | (simp; done) | omega | (simp; omega)))))).mono ?_; rintro r w6 ⟨rfl, hb6⟩; obtain ⟨hb6c, hb6f, hb6z⟩ := bcell hb6; (try simp at hb6z); (try have hb60 : w.heap.size < w6.heap.size := by omega); (try have hb61 : w.heap.size + 1 < w6.heap.size := by omega); (try have hb62 : w.heap.size + 2 < w6.heap.size := by omega); have B6 := Aside0.mk (show Below w.heap.size w w6 from (by refine below_step ?_ hb6; repeat (first | (with_reducible exact B5.out) | (with_reducible apply below_alloc) | (with_reducible apply pw_below_drewN) | (with_reducible apply below_drew1) | with_reducible refine below_set ?_ (by first | (with_reducible exact Nat.le_refl _) | (with_reducible assumption) | (simp; done) | omega | (simp; omega))))); have y6_1_0 : w1.heap.size < w6.heap.size := (by omega); have y6_1_1 : w1.heap.size + 1 < w6.heap.size := (by omega); have y6_2_0 : w2.heap.size < w6.heap.size := (by omega); have y6_3_0 : w3.heap.size < w6.heap.size := (by omega); have y6_4_0 : w4.heap.size < w6.heap.size := (by omega); have y6_5_0 : w5.heap.size < w6.heap.size := (by omega)) | (go_at_call 17; with_reducible refine (Q.impl_TextHeld.calls (Q.mkB up) 0 _ HT1.out).mono ?_; rintro r w7 ⟨rfl, hb7⟩; obtain ⟨hb7c, hb7f, hb7z⟩ := bcell hb7; (try simp at hb7z); (try have hb70 : w.heap.size < w7.heap.size := by omega); (try have hb71 : w.heap.size + 1 < w7.heap.size := by omega); (try have hb72 : w.heap.size + 2 < w7.heap.size := by omega); have B7 := Aside0.mk (show Below w.heap.size w w7 from (by refine below_step ?_ hb7; repeat (first | (with_reducible exact B6.out) | (with_reducible apply below_alloc) | (with_reducible apply pw_below_drewN) | (with_reducible apply below_drew1) | with_reducible refine below_set ?_ (by first | (with_reducible exact Nat.le_refl _) | (with_reducible assumption) | (simp; done) | omega | (simp; omega))))); have y7_1_0 : w1.heap.size < w7.heap.size := (by omega); have y7_1_1 : w1.heap.size + 1 < w7.heap.size := (by omega); have y7_2_0 : w2.heap.size < w7.heap.size := (by omega); have y7_3_0 : w3.heap.size < w7.heap.size := (by omega); have y7_4_0 : w4.heap.size < w7.heap.size := (by omega); have y7_5_0 : w5.heap.size < w7.heap.size := (by omega); have y7_6_0 : w6.heap.size < w7.heap.size := (by omega)) | (go_at_call 17; with_reducible refine (Q.impl_TextHeld.calls (Q.mkB down) 0 _ HT2.out).mono ?_; rintro r w8 ⟨rfl, hb8⟩; obtain ⟨hb8c, hb8f, hb8z⟩ := bcell hb8; (try simp at hb8z); (try have hb80 : w.heap.size < w8.heap.size := by omega); (try have hb81 : w.heap.size + 1 < w8.heap.size := by omega); (try have hb82 : w.heap.size + 2 < w8.heap.size := by omega); have B8 := Aside0.mk (show Below w.heap.size w w8 from (by refine below_step ?_ hb8; repeat (first | (with_reducible exact B7.out) | (with_reducible apply below_alloc) | (with_reducible apply pw_below_drewN) | (with_reducible apply below_drew1) | with_reducible refine below_set ?_ (by first | (with_reducible exact Nat.le_refl _) | (with_reducible assumption) | (simp; done) | omega | (simp; omega))))); have y8_1_0 : w1.heap.size < w8.heap.size := (by omega); have y8_1_1 : w1.heap.size + 1 < w8.heap.size := (by omega); have y8_2_0 : w2.heap.size < w8.heap.size := (by omega); have y8_3_0 : w3.heap.size < w8.heap.size := (by omega); have y8_4_0 : w4.heap.size < w8.heap.size := (by omega); have y8_5_0 : w5.heap.size < w8.heap.size := (by omega); have y8_6_0 : w6.heap.size < w8.heap.size := (by omega)) | (go_at_call 18; with_reducible refine (Q.laws_lzOwn.calls k (Q.mkB up) _ _ (HV.out.next (by repeat (first | (with_reducible exact B8.out) | (with_reducible apply below_alloc) | (with_reducible apply pw_below_drewN) | (with_reducible apply below_drew1) | with_reducible refine below_set ?_ (by first | (with_reducible exact Nat.le_refl _) | (with_reducible assumption) | (simp; done) | omega | (simp; omega))))) HO1.out).mono ?_; rintro r w9 ⟨rfl, hb9⟩; obtain ⟨hb9c, hb9f, hb9z⟩ := bcell hb9; (try simp at hb9z); (try have hb90 : w.heap.size < w9.heap.size := by omega); (try have hb91 : w.heap.size + 1 < w9.heap.size := by omega); (try have hb92 : w.heap.size + 2 < w9.heap.size := by omega); have B9 := Aside0.mk (show Below w.heap.size w w9 from (by refine below_step ?_ hb9; repeat (first | (with_reducible exact B8.out) | (with_reducible apply below_alloc) | (with_reducible apply pw_below_drewN) | (with_reducible apply below_drew1) | with_reducible refine below_set ?_ (by first | (with_reducible exact Nat.le_refl _) | (with_reducible assumption) | (simp; done) | omega | (simp; omega))))); have y9_1_0 : w1.heap.size < w9.heap.size := (by omega); have y9_1_1 : w1.heap.size + 1 < w9.heap.size := (by omega); have y9_2_0 : w2.heap.size < w9.heap.size := (by omega); have y9_3_0 : w3.heap.size < w9.heap.size := (by omega); have y9_4_0 : w4.heap.size < w9.heap.size := (by omega); have y9_5_0 : w5.heap.size < w9.heap.size := (by omega); have y9_6_0 : w6.heap.size < w9.heap.size := (by omega)))
    all_goals first | (go_ret; exact ⟨by simp, (by repeat (first | (with_reducible exact B9.out) | (with_reducible apply below_alloc) | (with_reducible apply pw_below_drewN) | (with_reducible apply below_drew1) | with_reducible refine below_set ?_ (by first | (with_reducible exact Nat.le_refl _) | (with_reducible assumption) | (simp; done) | omega | (simp; omega))))⟩) | exact ⟨.bool true, rfl, rfl, (by repeat (first | (with_reducible exact B9.out) | (with_reducible apply below_alloc) | (with_reducible apply pw_below_drewN) | (with_reducible apply below_drew1) | with_reducible refine below_set ?_ (by first | (with_reducible exact Nat.le_refl _) | (with_reducible assumption) | (simp; done) | omega | (simp; omega))))⟩ | exact ⟨.bool true, by go_simp, rfl, (by repeat (first | (with_reducible exact B9.out) | (with_reducible apply below_alloc) | (with_reducible apply pw_below_drewN) | (with_reducible apply below_drew1) | with_reducible refine below_set ?_ (by first | (with_reducible exact Nat.le_refl _) | (with_reducible assumption) | (simp; done) | omega | (simp; omega))))⟩
theorem law_FnConvWhole (A : Option Addr) (n c : Nat) (code : List Int) (w : World) (hC : Kd.C (Kd.int .u8) w A n code) (hc : n ≤ c) (hg : ∀ b ∈ code, (0 : Int) ≤ b ∧ b ≤ 255) (hV : VarsIn w) :
    Calls Tryz.prog 3 #[.slice A n c] w fun r w' => r = .returned (.bool true) ∧ Below w.heap.size w w' := by
  obtain rfl : code.length = n := hC.1
  by_cases h : code.length ≤ 1048576
  · obtain ⟨i, o, up, down, hD, hu, hd⟩ := Q.drawConv_to 3001 (by omega) hg
    exact law_ConvWhole 3001 (by omega) A c code i o up down w hC hc hV h hD hu hd
  · have tl : decide ((code.length : Int) > 1048576) = true := decide_eq_true (by omega)
    have tl2 : decide ((1048576 : Int) < (code.length : Int)) = true := decide_eq_true (by omega)
    go_enter Tryz.func3, Tryz.ntmps3
    go_wp2
    go_ret
    exact ⟨rfl, Below.refl _ _⟩
end Go.Proofs.YtijompkonaiagaaGreatDoor.Z
namespace Go.Proofs.YtijompkonaiagaaGreatDoor.Z
open Go.RowKit Go.Proofs.YtijompkonaiagaaGreatDoorW.PrintWords
set_option linter.unusedVariables false
def Opens {α : Type} (P : Program) (t : TypeId) (d : Kd α) (good : α → Prop) : Prop := P.cellsOf t = d.sz ∧
  ∀ (H : Type) (enc : TypeId × Value → H) (w : World) (base : Nat) (spare : Nat → Bool) (held : Bool) (fuel : Nat) (cs : List Value) (x : DataW H × List MemPlace), DataW.trod enc P w base spare held fuel t cs = some x → ∃ v, d.K w v cs ∧ good v
section
variable {P : Program} {t e : TypeId}
theorem Opens.int {k : IntKind} (ht : P.underlying t = some (.int k)) (hc : P.cellsOf t = 1) : Opens P t (Kd.int k) (fun n => (Lit.int k n).wf = true) :=
  ⟨hc, fun H enc w base spare held fuel cs x h => let ⟨n, e, _, g⟩ := DataW.trod_int ht h; ⟨n, e, g⟩⟩
theorem Opens.bool (ht : P.underlying t = some .bool) (hc : P.cellsOf t = 1) : Opens P t Kd.bool (fun _ => True) :=
  ⟨hc, fun H enc w base spare held fuel cs x h => let ⟨n, e, _⟩ := DataW.trod_bool ht h; ⟨n, e, trivial⟩⟩
theorem Opens.string (ht : P.underlying t = some .string) (hc : P.cellsOf t = 1) : Opens P t Kd.string (fun s => s.size ≤ maxLen) :=
  ⟨hc, fun H enc w base spare held fuel cs x h => let ⟨n, e, _, g⟩ := DataW.trod_string ht h; ⟨n, e, g⟩⟩
theorem Opens.slice {α : Type} [Inhabited α] {d : Kd α} {good : α → Prop} (ht : P.underlying t = some (.slice e)) (hc : P.cellsOf t = 1) (he : Opens P e d good) : Opens P t (Kd.slice e d) (fun xs => ∀ x ∈ xs, good x) := by
  refine ⟨hc, fun H enc w base spare held fuel cs x h => ?_⟩
  rcases Deep.open_slice ht h with ⟨rfl, _⟩ | ⟨a, len, cap, m, n, D, Pl, rfl, _, hl, hm, hmm, _, hx⟩
  · exact ⟨[], ⟨none, 0, rfl, Nat.le_refl _, rfl, by simp, fun h => absurd h (Nat.lt_irrefl _)⟩, fun x hx => by cases hx⟩
  · have hlm : len ≤ m := by rw [hmm]; split <;> omega
    have each : ∀ i, i < len → ∃ v, ∃ cs', cs'.length = d.sz ∧ d.K w v cs' ∧ good v ∧ ∀ j u, cs'[j]? = some u → w.cell? (a.add (i * d.sz + j)) = some u := fun i hi => by
      obtain ⟨cs', h1, h2⟩ := hx i (by omega)
      rw [he.1] at h1
      obtain ⟨_, hlen, hcell⟩ := World.cells?_some h1
      obtain ⟨v, hK, hg⟩ := he.2 H enc w base spare held n cs' _ h2
      refine ⟨v, cs', hlen, hK, hg, fun j u hu => ?_⟩
      have hj : j < cs'.length := (List.getElem?_eq_some_iff.1 hu).1
      have := hcell j (by omega)
      rw [Deep.add_add] at this
      rw [this, hu]
    obtain ⟨f, hf⟩ := Deep.choose_lt each
    refine ⟨(List.range len).map f, ⟨some a, cap, by simp, by simpa using hl, by simp, ?_, ?_⟩, ?_⟩
    · have := hm; unfold maxLen at this; simp; omega
    · intro _
      refine ⟨a, rfl, fun j p hj => ?_⟩
      obtain ⟨hj1, hj2⟩ := List.getElem?_eq_some_iff.1 hj
      simp at hj1 hj2
      obtain ⟨cs', h1, h2, _, h4⟩ := hf j hj1
      exact ⟨cs', h1, hj2 ▸ h2, h4⟩
    · intro x hx
      obtain ⟨i, hi, rfl⟩ := List.mem_map.1 hx
      obtain ⟨_, _, _, h3, _⟩ := hf i (List.mem_range.1 hi)
      exact h3
def OpensF {α : Type} (P : Program) (fs : List Field) (off : Nat) (d : Kd α) (good : α → Prop) : Prop :=
  ∀ (H : Type) (enc : TypeId × Value → H) (w : World) (base : Nat) (spare : Nat → Bool) (held : Bool) (n : Nat) (cs : List Value) (xs : List (DataW H × List MemPlace)), cs.length = off + d.sz → xs.length = fs.length →
    (∀ (i : Nat) (f : Field), fs[i]? = some f → DataW.trod enc P w base spare held n f.type ((cs.drop f.offset).take (P.cellsOf f.type)) = xs[i]?) → ∃ v, d.K w v (cs.drop off) ∧ good v
theorem OpensF.last {α : Type} {f : Field} {off : Nat} {d : Kd α} {good : α → Prop} (ho : f.offset = off) (h : Opens P f.type d good) : OpensF P [f] off d good := by
  intro H enc w base spare held n cs xs hl hx ht
  have h0 := ht 0 f rfl
  rw [ho, h.1, List.take_of_length_le (by rw [List.length_drop]; omega), List.getElem?_eq_getElem (by rw [hx]; exact Nat.one_pos)] at h0
  exact h.2 H enc w base spare held n _ _ h0
theorem OpensF.cons {α β : Type} {f : Field} {fs : List Field} {off off' : Nat} {d : Kd α} {d' : Kd β} {good : α → Prop} {good' : β → Prop} (ho : f.offset = off) (h : Opens P f.type d good) (hoff : off' = off + d.sz) (hr : OpensF P fs off' d' good') :
    OpensF P (f :: fs) off (Kd.pair d d') (fun x => good x.1 ∧ good' x.2) := by
  subst hoff
  intro H enc w base spare held n cs xs hl hx ht
  have hl' : cs.length = off + (d.sz + d'.sz) := hl
  cases xs with
  | nil => simp at hx
  | cons y ys =>
    have h0 := ht 0 f rfl
    rw [ho, h.1] at h0
    obtain ⟨v, hK, hg⟩ := h.2 H enc w base spare held n _ y h0
    obtain ⟨v', hK', hg'⟩ := hr H enc w base spare held n cs ys (by omega) (by simpa using hx) (fun i f hf => ht (i + 1) f (by simpa using hf))
    refine ⟨(v, v'), ⟨(cs.drop off).take d.sz, cs.drop (off + d.sz), ?_, hK, hK'⟩, hg, hg'⟩
    have e := List.take_append_drop d.sz (cs.drop off)
    rw [List.drop_drop] at e
    exact e.symm
theorem Opens.struct {α β : Type} {fs : Array Field} {d : Kd α} {good : α → Prop} (ht : P.underlying t = some (.struct fs)) (hc : P.cellsOf t = d.sz) (hF : OpensF P fs.toList 0 d good) (f : β → α) (g : α → β) (hfg : ∀ a, f (g a) = a) : Opens P t (Kd.iso d f) (fun x => good (f x)) := by
  refine ⟨hc, fun H enc w base spare held fuel cs x h => ?_⟩
  obtain ⟨xs, n, _, _, hl, hx, hf⟩ := DataW.trod_struct ht h
  obtain ⟨v, hK, hg⟩ := hF H enc w base spare held n cs xs (by rw [hl, hc]; omega) (by simpa using hx) (fun i fd hi => hf i fd (by simpa using hi))
  refine ⟨g v, ?_, by show good (f (g v)); rw [hfg]; exact hg⟩
  show d.K w (f (g v)) cs
  rw [hfg]
  simpa using hK
end
def i64ok (n : Int) : Prop := (Lit.int .i64 n).wf = true
theorem i64ok.le {n : Int} (h : i64ok n) : -9223372036854775808 ≤ n ∧ n ≤ 9223372036854775807 := by
  unfold i64ok at h
  simpa [Lit.wf, IntKind.has, IntKind.min, IntKind.signed, IntKind.bits] using h
end Go.Proofs.YtijompkonaiagaaGreatDoor.Z
namespace Go.Proofs.YtijompkonaiagaaGreatDoor.Z
open Go.RowKit Go.Proofs.YtijompkonaiagaaGreatDoorW.PrintWords
set_option linter.unusedVariables false
def byteOk (n : Int) : Prop := (Lit.int .u8 n).wf = true
theorem byteOk.le {n : Int} (h : byteOk n) : 0 ≤ n ∧ n ≤ 255 := by
  unfold byteOk at h
  simpa [Lit.wf, IntKind.has, IntKind.min, IntKind.max, IntKind.signed, IntKind.bits] using h
theorem openByte : Opens Tryz.prog 5 (Kd.int .u8) byteOk := Opens.int Tryz.underlying5 (by kernel_rfl)
theorem openBytes : Opens Tryz.prog 22 (Kd.slice 5 (Kd.int .u8)) (fun xs => ∀ x ∈ xs, byteOk x) := Opens.slice Tryz.underlying22 (by kernel_rfl) openByte
theorem bytes_le {bs : List Int} (h : ∀ x ∈ bs, byteOk x) : ∀ b ∈ bs, (0 : Int) ≤ b ∧ b ≤ 255 := fun b hb => (h b hb).le
end Go.Proofs.YtijompkonaiagaaGreatDoor.Z
namespace Go.Proofs.YtijompkonaiagaaGreatDoor.fnConvWhole
open Go.ChangeShapes Go.WideShapes Go.ChangeAt Go.RowKit Go.Proofs.YtijompkonaiagaaGreatDoorW.PrintWords
open Go.ChangeMaps (open_string shut_string)
set_option linter.unusedVariables false
theorem own : ownKnob Tryz.prog.godebug = none := by kernel_rfl
theorem laidOut : laidOutB Tryz.prog = true := by kernel_rfl
set_option maxRecDepth 100000 in
theorem lifted (os : Os) (started : os.Started) (H : Type) (enc : TypeId × Value → H) :
    ReturnsInHanded {} Tryz.checked os 3 .any (fun w args => (Rows.fnConvWholeSpec.pre enc Tryz.prog Tryz.f3 Rows.fnConvWholeRow.domain false w args ∧ laidMetH Tryz.prog Z.laidL w) ∧ sizedMet enc Tryz.prog Tryz.f3 (OpenSpec.ofChange Rows.fnConvWholeSpec) false w args)
      (Rows.fnConvWholeSpec.post enc Tryz.prog Tryz.f3 false true false false) := by
  refine Z.wrap_laid (C := Tryz.checked) (X := fun w _ => laidMetH Tryz.prog Z.laidL w) (fun _ _ _ hh h => h.of_heap hh) own started (by kernel_rfl) Tryz.func3
    (ChangeSpec.witness_shaped (enc := enc) (C := Tryz.checked) (os := os) (X := fun w _ => laidMetH Tryz.prog Z.laidL w) false (World.laidAll Tryz.prog os Z.laidL) #[.slice none 0 0] 8 (World.laidAll_os _ _ _)
      (World.shaped_of_ZipB (by kernel_rfl) (by kernel_rfl)) (by kernel_rfl) (by kernel_rfl) (by kernel_rfl) (Z.laid_met os _)) ?_
  intro W base args ds gs before hval0 hW hL hsh
  have hvars := Z.vars_of hL hsh
  have hval : ∀ (j : Nat) t v, Tryz.f3.params[j]? = some t → args[j]? = some v → Value.okWide Tryz.prog W .any base t v := hval0
  have hW' := hW
  obtain ⟨p, q, hA0, hV, rfl, hfz, hnd⟩ := hW
  have hA : DataW.TrodAll enc Tryz.prog W 0 (fun _ => true) true Tryz.f3.params.toList args.toList ds p := hA0
  rw [Tryz.params3] at hA hval
  obtain ⟨v0, vs0, d0, ds0, p0, q0, hargs, rfl, rfl, h0, r0⟩ := trodAll_cons hA
  obtain ⟨rfl, rfl, rfl⟩ := trodAll_nil r0
  obtain rfl : args = #[v0] := by cases args; simp_all
  obtain ⟨rfl, rfl⟩ := trodVars_none hV
  obtain ⟨a0, len0, cap0, rfl⟩ := okWide_slice Tryz.underlying22 (hval 0 22 v0 rfl rfl)
  have k0 := h0
  have lt0 : ∀ x ∈ p0, x.block < W.heap.size := by obtain ⟨m, hm⟩ := k0; exact DataW.trod_lt m _ _ _ hm
  obtain ⟨fuel0, hf0⟩ := h0
  obtain ⟨xs0, ⟨A0, c0, hcs0, hl0, hC0⟩, hg0⟩ := Z.openBytes.2 _ _ _ _ _ _ _ _ _ hf0
  simp [Value.cells] at hcs0
  obtain ⟨rfl, rfl, rfl⟩ := hcs0
  clear hA0 hval0
  refine (Z.law_FnConvWhole a0 xs0.length cap0 xs0 W hC0 hl0 (Z.bytes_le hg0) hvars).mono ?_
  rintro e W' ⟨rfl, bel⟩
  exact ⟨_, rfl, _, _, _, [], _, [], hW', trodAll_mk1 (shut_bool Tryz.underlying4 _), (trodAll_cons_mk (Below.trod laidOut (by kernel_rfl) (of_decide_eq_true (by kernel_rfl)) k0 bel lt0) trodAll_mk0), rfl, bel.frame _, fun h => by cases h⟩
theorem over : Rows.fnConvWholeRow.holds Tryz.pinned (OpenSpec.ofChange Rows.fnConvWholeSpec) :=
  OpenClaim.holds_of_wide 3 Tryz.f3 rfl rfl rfl rfl rfl rfl rfl ⟨rfl, rfl, rfl, rfl, rfl⟩ rfl rfl rfl rfl rfl (by kernel_rfl) Tryz.func3 (by kernel_rfl)
    (of_decide_eq_true (by kernel_rfl)) (by unfold Func.isWrapper; first | (rw [if_pos (by decide +kernel)]; kernel_rfl) | (rw [if_neg (by decide +kernel)]; exact ⟨rfl, rfl⟩))
    (fun os started H enc _ => lifted os started H enc)
end Go.Proofs.YtijompkonaiagaaGreatDoor.fnConvWhole
namespace Go.Proofs.YtijompkonaiagaaGreatDoor
theorem fnConvWhole_card : Rows.FnConvWholeCardSaid :=
  Claim7.holds_tied_plain_at .later [] Rows.fnConvWholeCard.laidKinds true Rows.fnConvWholeCard.stood.harness true
    fnConvWhole.over (fun _ h => by cases h) (by kernel_rfl) (fun _ h => by cases h) fnConvWhole_row_tie rfl ⟨rfl, rfl⟩ (by kernel_rfl) rfl
    (fun f fn hf hfn => by
      obtain rfl : f = 3 := Option.some.inj ((show Tryz.prog.funcNamed Rows.fnConvWholeRow.func = some 3 by kernel_rfl).symm.trans hf) |>.symm
      obtain rfl : fn = Tryz.f3 := (Option.some.inj (Tryz.func3.symm.trans hfn)).symm
      exact ⟨by kernel_rfl, fun j t ht => by
        rw [Tryz.params3] at ht
        have hm : t ∈ [22] := by simpa using Array.mem_of_getElem? ht
        have hall : ([22].all fun u => !Tryz.prog.wantsStandIn u) = true := by kernel_rfl
        exact (show Tryz.prog.wantsStandIn t = false by simpa using List.all_eq_true.1 hall t hm)⟩)
    (by kernel_rfl)
#print axioms fnConvWhole_card
end Go.Proofs.YtijompkonaiagaaGreatDoor
