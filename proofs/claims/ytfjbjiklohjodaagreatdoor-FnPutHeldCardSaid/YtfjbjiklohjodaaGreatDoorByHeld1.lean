/- The closed facts of the row of FnPutHeld. Words for what stands often in the printed walks. What is held of a text, and texts over maps: the laws of texts, plainly. Streams, plainly: what is held goes on; how much came for what went on. Plain laws of the printed functions: as what a stream went on; how much came for what went on. How much of a stream's text so much of what went on is; what the laws FnPutHeld, FnPutParts, FnPutTwice say, plainly. The law FnPutHeld, walked by hand over what it calls. For every code FnPutHeld returns true and leaves its argument as it was: what is behind the last end goes on. -/
import Derived.Test.YtfjbjiklohjodaaGreatDoorRows
import Derived.Test.YtfjbjiklohjodaaGreatDoorTie
import Derived.Test.YtfjbjiklohjodaaGreatDoorCards
import Derived.Test.YtfjbjiklohjodaaGreatDoorBp6
import Derived.Stop.Joined
import Derived.WalkKit
import Derived.ProofKit
import Derived.Deep.CutBlock
import Derived.SevenTiedAt
import Derived.OpenShut
import Derived.ShutString
import Derived.ChangeOld
import Derived.Below
import Derived.SizedLaws
namespace Go.Proofs.YtfjbjiklohjodaaGreatDoor.fnPutHeld
open Go.ChangeShapes Go.WideShapes Go.ChangeAt Go.RowKit
set_option maxHeartbeats 8000000 in
set_option maxRecDepth 100000 in
theorem jf : joinedFacts Tryz.pinned.checked.prog 9 Tryz.f9 Rows.fnPutHeldSpec Rows.fnPutHeldRow = true := by
  unfold joinedFacts
  repeat' (with_reducible refine Bool.and_eq_true_iff.2 ⟨?_, ?_⟩)
  all_goals (as_aux_lemma => kernel_rfl)
end Go.Proofs.YtfjbjiklohjodaaGreatDoor.fnPutHeld
namespace Go.Proofs.YtfjbjiklohjodaaGreatDoor.Q
open Go Go.RowKit Go.Proofs.YtfjbjiklohjodaaGreatDoorW.PrintWords Go.Proofs.YtfjbjiklohjodaaGreatDoorW.PrintLast Go.Proofs.YtfjbjiklohjodaaGreatDoorW.PrintMore
set_option linter.unusedVariables false
theorem d128_ {P : Prop} (h : P := by rw [hg]; exact Nat.ne_of_lt (blk_lt (g := gb101) (o := .cells #[.string a0_0, .slice (some ad102) l0_1.length c0_1] 26 (0, 0)) (zb_ BK101.out))) : P := h
theorem d129_ {P : Prop} (h : P := by rw [hg]; exact Nat.ne_of_gt (blk_lt (g := gb101) (o := .cells #[.string a0_0, .slice (some ad102) l0_1.length c0_1] 26 (0, 0)) (zb_ BK101.out))) : P := h
theorem d130_ {P : Prop} (h : P := by repeat (first | (with_reducible first | exact HB.out | apply below_alloc | apply pw_below_drewN | apply below_drew1 | refine below_set ?_ GE101.out | refine below_set ?_ GE103.out) | exact HB.out)) : P := h
end Go.Proofs.YtfjbjiklohjodaaGreatDoor.Q
namespace Go.Proofs.YtfjbjiklohjodaaGreatDoor.Q
open Go.RowKit Go.Proofs.YtfjbjiklohjodaaGreatDoorW.PrintWords Go.Proofs.YtfjbjiklohjodaaGreatDoor.Z
set_option linter.unusedVariables false
set_option linter.unusedSimpArgs false
theorem begB_no {l : List UInt8} {c : UInt8} (hc : ∀ i, chk i c = false) (h : begB l = true) : c ∉ l := by
  intro hm
  obtain ⟨i, hi, he⟩ := List.getElem_of_mem hm
  have h2 := beg_no (k := i) hi (by rw [he]; exact hc i)
  rw [h] at h2
  cases h2
theorem held_uniq {l : List UInt8} {n : Nat} (h1 : n ≤ min 5 l.length) (h2 : n = 0 ∨ begB (l.drop (l.length - n)) = true) (h3 : ∀ j, n < j → j ≤ min 5 l.length → begB (l.drop (l.length - j)) = false) : heldN l = n := by
  rcases Nat.lt_trichotomy (heldN l) n with h | h | h
  · rcases h2 with h2 | h2
    · omega
    · have := heldFrom_max l (min 5 l.length) n h h1
      rw [h2] at this
      cases this
  · exact h
  · have hle : heldN l ≤ min 5 l.length := heldFrom_le l _
    have := h3 (heldN l) h hle
    rcases heldFrom_beg l (min 5 l.length) with h4 | h4
    · have h0 : heldN l = 0 := h4
      omega
    · have h5 : begB (l.drop (l.length - heldN l)) = true := h4
      rw [h5] at this
      cases this
end Go.Proofs.YtfjbjiklohjodaaGreatDoor.Q
namespace Go.Proofs.YtfjbjiklohjodaaGreatDoor.Q
open Go.RowKit Go.Proofs.YtfjbjiklohjodaaGreatDoorW.PrintWords Go.Proofs.YtfjbjiklohjodaaGreatDoor.Z
set_option linter.unusedVariables false
set_option linter.unusedSimpArgs false
theorem chk107 (i : Nat) : chk i 107 = false := by
  unfold chk figB
  split
  · rfl
  · split
    · rfl
    · split
      · rfl
      · split <;> rfl
theorem held_k (l : List UInt8) : heldN (l ++ [107]) = 0 := by
  refine held_uniq (Nat.zero_le _) (.inl rfl) (fun j h1 h2 => ?_)
  rw [← Bool.not_eq_true]
  intro hb
  refine begB_no chk107 hb ?_
  rw [List.length_append, List.length_singleton] at h2 ⊢
  rw [List.drop_append_of_le_length (by omega)]
  exact List.mem_append_right _ (List.mem_singleton.2 rfl)
theorem k_ok : textOk [107] = true := by decide
def backP : List Sp → Int → Int
  | [], _ => 0
  | p :: ps, o => if (p.text.length : Int) ≤ o then p.size + backP ps (o - p.text.length) else 0
theorem backP_all : ∀ {ps : List Sp} {T : List Tok}, fit ps T → backP ps ((outS2 ps).length : Int) = ((flat T).length : Int)
  | [], [], _ => rfl
  | p :: ps, t :: T, h => by
    have ih := backP_all h.2
    have e : outS2 (p :: ps) = p.text ++ outS2 ps := rfl
    unfold backP
    rw [e, List.length_append, if_pos (by omega), show ((p.text.length + (outS2 ps).length : Nat) : Int) - (p.text.length : Int) = ((outS2 ps).length : Int) from by omega, ih, h.1.1, flat_cons, List.length_append]
    omega
  | [], _ :: _, h => h.elim
  | _ :: _, [], h => h.elim
theorem put_held {m : List Pr} {l : List UInt8} {ps : List Sp} {out : Bool} (hm : mapOkB m = true) (hs : stOk l ps) (hl : l.length < 40) {m' : List Pr} {l' : List UInt8} {ps' : List Sp} {ok : Bool} (h : putS m l ps (l.length : Int) [107] out = (m', l', ps', ok)) :
    ok = true ∧ l' = l ++ [107] ∧ stOk l' ps' ∧ backP ps' ((outS2 ps').length : Int) = (l'.length : Int) := by
  have h9 := putS_ok hm hs k_ok (by omega) h
  have hk : ([107] : List UInt8).length = 1 := rfl
  obtain ⟨B, hB⟩ := toks_ext l (([107] : List UInt8).drop (l.length - (l.length : Int).toNat))
  rw [putS_new (by omega) (by omega) (by omega) hB hs.2] at h
  simp only [Prod.mk.injEq] at h
  obtain ⟨_, e2, _, e4⟩ := h
  have e5 : ([107] : List UInt8).drop (l.length - (l.length : Int).toNat) = [107] := by rw [Int.toNat_natCast, Nat.sub_self]; rfl
  rw [e5] at e2
  refine ⟨e4.symm, e2.symm, h9.2.1, ?_⟩
  rw [backP_all h9.2.1.2, flat_toks, ← e2, body_of0 (held_k l)]
end Go.Proofs.YtfjbjiklohjodaaGreatDoor.Q
namespace Go.Proofs.YtfjbjiklohjodaaGreatDoor.Q
open Go.RowKit Go.Proofs.YtfjbjiklohjodaaGreatDoorW.PrintWords Go.Proofs.YtfjbjiklohjodaaGreatDoorW.PrintLast Go.Proofs.YtfjbjiklohjodaaGreatDoorW.PrintMore
attribute [local go_sem] max2_int min2_int max_two min_two max_three min_three max_four min_four
set_option linter.unusedVariables false
set_option linter.unusedSimpArgs false
noncomputable section
def impl_Stream_back.l0 : Nat → Int → Int → List (S109) → Int → Int → Option (Int)
 | 0, _, _, _, _, _ => none
 | k + 1, x1, x5, x9, x10, x11 => if x11 < x10 then (if 0 ≤ x11 then (if x11 < (x9.length : Int) then (if (wrap64 (x1 - (((rd_T109 x9 x11).f1).size : Int))) < 0 then (some x5) else (impl_Stream_back.l0 k (wrap64 (x1 - (((rd_T109 x9 x11).f1).size : Int))) (wrap64 (x5 + ((rd_T109 x9 x11).f0))) x9 x10 (wrap64 (x11 + 1)))) else (none)) else (none)) else (some x5)
def impl_Stream_back.f (k : Nat) (a0_0 : ByteArray) (l0_1 : List (S109)) (a1 : Int) : Option (Int) := impl_Stream_back.l0 k a1 0 l0_1 (l0_1.length : Int) 0
set_option maxHeartbeats 8000000 in
set_option maxRecDepth 100000 in
theorem impl_Stream_back.calls (k : Nat) (a0_0 : ByteArray) (A0_1 : Option Addr) (c0_1 : Nat) (l0_1 : List (S109)) (a1 : Int) (r : Int) (w : World) (hr0_1 : Kd.C k109 w A0_1 l0_1.length l0_1) (hc0_1 : l0_1.length ≤ c0_1) (h : impl_Stream_back.f k a0_0 l0_1 a1 = some r) :
  Calls Tryz.prog 81 #[.agg #[.string a0_0, .slice A0_1 l0_1.length c0_1], .int .i64 a1] w fun e w' => e = .returned (.int .i64 r) ∧ Below w.heap.size w w' := by
 have hu26 := Tryz.underlying26
 have hu109 := Tryz.underlying109
 have HR0_1 := Aside0.mk hr0_1
 have HC0_1 := Aside0.mk hc0_1
 clear hr0_1 hc0_1
 have HB := Aside0.mk (Below.refl w.heap.size w)
 have H : (impl_Stream_back.l0 k a1 0 l0_1 (l0_1.length : Int) 0) = some r := h
 clear h
 have H' := Aside0.mk H
 clear H
 go_enter Tryz.func81, Tryz.ntmps81
 go_wp2_with (first | ((with_reducible refine gate_dst (N := 2) rfl ?_); refine zx_ (N := 2) #[.string a0_0, .slice A0_1 l0_1.length c0_1] 26 ?_; intro gb101 hg w3 hbox hb; have BK101 := A_ hbox; have GW101 := A_ ((d0_ : w.heap.size ≤ gb101)); have GE101 := A_ ((d0_ : w.heap.size ≤ gb101)); replace HB := A_ (below_step (zB_ HB.out) hb); clear hb hbox hg; have hcz4_0 : w3.cell? ⟨gb101, 0, none⟩ = some (.string a0_0) := (blk_cell BK101.out 0).trans rfl; have hcz4_1 : w3.cell? ⟨gb101, 1, none⟩ = some (.slice A0_1 l0_1.length c0_1) := (blk_cell BK101.out 1).trans rfl; have hfz4_0 := blk_frozen BK101.out 0; have hfz4_1 := blk_frozen BK101.out 1))
 go_loopg [1, 5, 11] k (fun kq v1 v5 v11 w' => ∃ (x1_1 : Int) (x5_1 : Int) (x11_1 : Int), v1 = .int .i64 x1_1 ∧ v5 = .int .i64 x5_1 ∧ v11 = .int .i64 x11_1 ∧ Aside0 (impl_Stream_back.l0 kq x1_1 x5_1 l0_1 (l0_1.length : Int) x11_1 = some r) ∧ Aside0 (kq ≤ k) ∧ Aside0 (w'.heap[gb101]? = some (.cells #[.string a0_0, (.slice A0_1 l0_1.length c0_1)] 26 (0, 0))) ∧ Aside0 (Below w.heap.size w w'))
 case atStart => exact ⟨(a1), (0), (0), zs_, zs_, zs_, H', ⟨Nat.le_refl _⟩, ⟨d3_⟩, ⟨d1_⟩⟩
 case round =>
  clear H'
  try clear p2
  try clear hcz4_0
  try clear hcz4_1
  try clear hfz4_0
  try clear hfz4_1
  obtain ⟨x1_1, x5_1, x11_1, rfl, rfl, rfl, HA, HK1, BK101, HB⟩ := hrel
  cases gk with
  | zero => exact absurd HA.out (by simp [impl_Stream_back.l0])
  | succ k1 =>
   have H := HA.out; clear HA; simp only [impl_Stream_back.l0] at H
   by_cases c5 : x11_1 < (l0_1.length : Int)
   ·rw [if_pos c5] at H; have c5b0 : decide (x11_1 < (l0_1.length : Int)) = true := decide_eq_true c5; clear c5
    by_cases c6 : 0 ≤ x11_1
    ·rw [if_pos c6] at H; have c6b0 : decide (0 ≤ x11_1) = true := decide_eq_true c6; clear c6
     by_cases c7 : x11_1 < (l0_1.length : Int)
     ·rw [if_pos c7] at H; have c7b0 : decide (x11_1 < (l0_1.length : Int)) = true := decide_eq_true c7; clear c7
      by_cases c8 : (wrap64 (x1_1 - (((rd_T109 l0_1 x11_1).f1).size : Int))) < 0
      ·rw [if_pos c8] at H; have c8b0 : decide ((wrap64 (x1_1 - (((rd_T109 l0_1 x11_1).f1).size : Int))) < 0) = true := decide_eq_true c8; clear c8; obtain rfl := Option.some.inj H; have p102 : 0 ≤ (x11_1 : Int) := of_decide_eq_true d11_; have q102 : x11_1 < (l0_1.length : Int) := of_decide_eq_true d11_; obtain ⟨ad102, e102, hx102_0, hx102_1⟩ := at_T109 HR0_1.out x11_1 p102 q102
       cases e102
       replace hx102_0 := (HB.out.cell (World.block_lt_of_cell? w _ hx102_0)).trans hx102_0; replace hx102_1 := (HB.out.cell (World.block_lt_of_cell? w _ hx102_1)).trans hx102_1; replace p102 := eq_true p102; replace q102 := eq_true q102
       go_wp2_with (first | ((with_reducible refine gate_dst (N := 7) rfl ?_); refine zx_ (N := 7) #[.int .i64 0, .string (⟨#[]⟩ : ByteArray)] 109 ?_; intro gb103 hg w9 hbox hb; have BK103 := A_ hbox; have GW103 := A_ ((d6_ : w.heap.size ≤ gb103)); have GE103 := A_ ((d6_ : w.heap.size ≤ gb103)); replace HB := A_ (below_step d1_ hb); have NB101_103 := A_ ((d128_ : gb101 ≠ gb103)); have NB103_101 := A_ ((d129_ : gb103 ≠ gb101)); replace BK101 := A_ (blk_below (g := gb101) (o := .cells #[.string a0_0, .slice (some ad102) l0_1.length c0_1] 26 (0, 0)) (zb_ BK101.out) hb); clear hb hbox hg; have hnb10 := NB103_101.out; have hnc10 := NB101_103.out; have hcz11_0 : w9.cell? ⟨gb103, 0, none⟩ = some (.int .i64 0) := (blk_cell BK103.out 0).trans rfl; have hcz11_1 : w9.cell? ⟨gb103, 1, none⟩ = some (.string (⟨#[]⟩ : ByteArray)) := (blk_cell BK103.out 1).trans rfl; have hfz11_0 := blk_frozen BK103.out 0; have hfz11_1 := blk_frozen BK103.out 1))
       go_ret
       exact ⟨d4_, d130_⟩
      rw [if_neg c8] at H; have c8b0 : decide ((wrap64 (x1_1 - (((rd_T109 l0_1 x11_1).f1).size : Int))) < 0) = false := decide_eq_false c8; clear c8; have H' := Aside0.mk H; clear H; have p102 : 0 ≤ (x11_1 : Int) := of_decide_eq_true d11_; have q102 : x11_1 < (l0_1.length : Int) := of_decide_eq_true d11_; obtain ⟨ad102, e102, hx102_0, hx102_1⟩ := at_T109 HR0_1.out x11_1 p102 q102
      cases e102
      replace hx102_0 := (HB.out.cell (World.block_lt_of_cell? w _ hx102_0)).trans hx102_0; replace hx102_1 := (HB.out.cell (World.block_lt_of_cell? w _ hx102_1)).trans hx102_1; replace p102 := eq_true p102; replace q102 := eq_true q102
      go_wp2_with (first | ((with_reducible refine gate_dst (N := 7) rfl ?_); refine zx_ (N := 7) #[.int .i64 0, .string (⟨#[]⟩ : ByteArray)] 109 ?_; intro gb103 hg w12 hbox hb; have BK103 := A_ hbox; have GW103 := A_ ((d6_ : w.heap.size ≤ gb103)); have GE103 := A_ ((d6_ : w.heap.size ≤ gb103)); replace HB := A_ (below_step d1_ hb); have NB101_103 := A_ ((d128_ : gb101 ≠ gb103)); have NB103_101 := A_ ((d129_ : gb103 ≠ gb101)); replace BK101 := A_ (blk_below (g := gb101) (o := .cells #[.string a0_0, .slice (some ad102) l0_1.length c0_1] 26 (0, 0)) (zb_ BK101.out) hb); clear hb hbox hg; have hnb13 := NB103_101.out; have hnc13 := NB101_103.out; have hcz14_0 : w12.cell? ⟨gb103, 0, none⟩ = some (.int .i64 0) := (blk_cell BK103.out 0).trans rfl; have hcz14_1 : w12.cell? ⟨gb103, 1, none⟩ = some (.string (⟨#[]⟩ : ByteArray)) := (blk_cell BK103.out 1).trans rfl; have hfz14_0 := blk_frozen BK103.out 0; have hfz14_1 := blk_frozen BK103.out 1))
      go_roundg k1
      case measure => have := HK1.out; omega
      case rel => exact ⟨(wrap64 (x1_1 - (((rd_T109 l0_1 x11_1).f1).size : Int))), (wrap64 (x5_1 + ((rd_T109 l0_1 x11_1).f0))), (wrap64 (x11_1 + 1)), zs_, zs_, zs_, H', ⟨d23_⟩, ⟨by (with_reducible repeat (first | refine blk_drewN ?_ _ | refine blk_drew ?_ | refine blk_alloc ?_ _)); refine blk_far ?_ NB101_103.out _; (with_reducible repeat (first | refine blk_drewN ?_ _ | refine blk_drew ?_ | refine blk_alloc ?_ _)); refine blk_far ?_ NB101_103.out _; (with_reducible repeat (first | refine blk_drewN ?_ _ | refine blk_drew ?_ | refine blk_alloc ?_ _)); exact BK101.out⟩, ⟨d130_⟩⟩
     rw [if_neg c7] at H; exact absurd H (by simp)
    rw [if_neg c6] at H; exact absurd H (by simp)
   rw [if_neg c5] at H; have c5b0 : decide (x11_1 < (l0_1.length : Int)) = false := decide_eq_false c5; clear c5; obtain rfl := Option.some.inj H
   go_wp2
   go_ret
   exact ⟨d4_, d1_⟩
end
end Go.Proofs.YtfjbjiklohjodaaGreatDoor.Q
namespace Go.Proofs.YtfjbjiklohjodaaGreatDoor.Q
open Go.RowKit Go.Proofs.YtfjbjiklohjodaaGreatDoorW.PrintWords Go.Proofs.YtfjbjiklohjodaaGreatDoorW.PrintLast Go.Proofs.YtfjbjiklohjodaaGreatDoorW.PrintMore Go.Proofs.YtfjbjiklohjodaaGreatDoor.Z
attribute [local go_sem] max2_int min2_int max_two min_two max_three min_three max_four min_four
set_option linter.unusedVariables false
set_option linter.unusedSimpArgs false
noncomputable section
def impl_StreamBack.f (k : Nat) (a0_0 : ByteArray) (l0_1 : List (S109)) (a1 : Int) : Option (Int) := (impl_StreamOk.f k a0_0 l0_1).bind fun t102 => (if t102 = true then ((impl_Stream_out.f a0_0 l0_1).bind fun t103 => ((impl_within.f a1 0 (t103.size : Int)).bind fun t104 => (if t104 = true then ((impl_Stream_back.f k a0_0 l0_1 a1).bind fun t105 => (some t105)) else (some (-1))))) else (some (-1)))
set_option maxHeartbeats 8000000 in
set_option maxRecDepth 100000 in
theorem impl_StreamBack.calls (k : Nat) (a0_0 : ByteArray) (A0_1 : Option Addr) (c0_1 : Nat) (l0_1 : List (S109)) (a1 : Int) (r : Int) (w : World) (hr0_1 : Kd.C k109 w A0_1 l0_1.length l0_1) (hc0_1 : l0_1.length ≤ c0_1) (hV : VarsIn w) (h : impl_StreamBack.f k a0_0 l0_1 a1 = some r) :
  Calls Tryz.prog 27 #[.agg #[.string a0_0, .slice A0_1 l0_1.length c0_1], .int .i64 a1] w fun e w' => e = .returned (.int .i64 r) ∧ Below w.heap.size w w' := by
 have hu26 := Tryz.underlying26
 have HR0_1 := Aside0.mk hr0_1
 have HC0_1 := Aside0.mk hc0_1
 clear hr0_1 hc0_1
 have HB := Aside0.mk (Below.refl w.heap.size w)
 have H : ((impl_StreamOk.f k a0_0 l0_1).bind fun t102 => (if t102 = true then ((impl_Stream_out.f a0_0 l0_1).bind fun t103 => ((impl_within.f a1 0 (t103.size : Int)).bind fun t104 => (if t104 = true then ((impl_Stream_back.f k a0_0 l0_1 a1).bind fun t105 => (some t105)) else (some (-1))))) else (some (-1)))) = some r := h
 clear h
 obtain ⟨t102, A3, H⟩ := zH_ H
 by_cases c4 : t102 = true
 ·subst c4; rw [if_pos rfl] at H; obtain ⟨t103, A5, H⟩ := zH_ H; obtain ⟨t104, A6, H⟩ := zH_ H
  by_cases c7 : t104 = true
  ·subst c7; rw [if_pos rfl] at H; obtain ⟨t105, A8, H⟩ := zH_ H; obtain rfl := Option.some.inj H
   go_enter Tryz.func27, Tryz.ntmps27
   go_wp2_with (first | ((with_reducible refine gate_dst (N := 2) rfl ?_); (try (refine gate_guard (by rfl) ?_; dsimp only)); refine zx_ (N := 2) #[.string a0_0, .slice A0_1 l0_1.length c0_1] 26 ?_; intro gb101 hg w9 hbox hb; have BK101 := A_ hbox; have GW101 := A_ ((d0_ : w.heap.size ≤ gb101)); have GE101 := A_ ((d0_ : w.heap.size ≤ gb101)); replace HB := A_ (below_step (zB_ HB.out) hb); clear hb hbox hg; have hcz10_0 : w9.cell? ⟨gb101, 0, none⟩ = some (.string a0_0) := (blk_cell BK101.out 0).trans rfl; have hcz10_1 : w9.cell? ⟨gb101, 1, none⟩ = some (.slice A0_1 l0_1.length c0_1) := (blk_cell BK101.out 1).trans rfl; have hfz10_0 := blk_frozen BK101.out 0; have hfz10_1 := blk_frozen BK101.out 1) | ((with_reducible refine gate_callee (f := 25) rfl ?_); refine zc_ (some 6) Tryz.func25 #[.agg #[.string a0_0, .slice A0_1 l0_1.length c0_1]] ?_; (with_reducible refine (impl_StreamOk.calls k a0_0 _ _ l0_1 true _ ?side1 ?side2 ?side3 A3.out).mono ?_); (case side1 => exact d111_); (case side2 => exact HC0_1.out); (case side3 => exact d117_); rintro e w11 ⟨rfl, hb⟩; refine ⟨_, rfl, ?_⟩; replace BK101 := A_ (blk_below (g := gb101) (o := .cells #[.string a0_0, .slice A0_1 l0_1.length c0_1] 26 (0, 0)) (zb_ BK101.out) hb); replace HB := A_ (below_step d1_ hb); (try clear hb); have hcz12_0 : w11.cell? ⟨gb101, 0, none⟩ = some (.string a0_0) := (blk_cell BK101.out 0).trans rfl; have hcz12_1 : w11.cell? ⟨gb101, 1, none⟩ = some (.slice A0_1 l0_1.length c0_1) := (blk_cell BK101.out 1).trans rfl; have hfz12_0 := blk_frozen BK101.out 0; have hfz12_1 := blk_frozen BK101.out 1) | (go_at_call 80; (with_reducible refine (impl_Stream_out.calls a0_0 _ _ l0_1 t103 _ ?side1 ?side2 A5.out).mono ?_); (case side1 => exact d111_); (case side2 => exact HC0_1.out); rintro e w13 ⟨rfl, hb⟩; replace BK101 := A_ (blk_below (g := gb101) (o := .cells #[.string a0_0, .slice A0_1 l0_1.length c0_1] 26 (0, 0)) (zb_ BK101.out) hb); replace HB := A_ (below_step d1_ hb); (try clear hb); (try clear hi)) | (go_at_call 68; (with_reducible refine (impl_within.calls a1 0 (t103.size : Int) true _ A6.out).mono ?_); rintro e w' ⟨rfl, ⟨nd, rfl⟩⟩; have hcz14_0 : w13.cell? ⟨gb101, 0, none⟩ = some (.string a0_0) := (blk_cell BK101.out 0).trans rfl; have hcz14_1 : w13.cell? ⟨gb101, 1, none⟩ = some (.slice A0_1 l0_1.length c0_1) := (blk_cell BK101.out 1).trans rfl; have hfz14_0 := blk_frozen BK101.out 0; have hfz14_1 := blk_frozen BK101.out 1) | ((with_reducible refine gate_callee (f := 81) rfl ?_); refine zc_ (some 18) Tryz.func81 #[.agg #[.string a0_0, .slice A0_1 l0_1.length c0_1], .int .i64 a1] ?_; (with_reducible refine (impl_Stream_back.calls k a0_0 _ _ l0_1 a1 t105 _ ?side1 ?side2 A8.out).mono ?_); (case side1 => repeat (first | exact (Kd.C_below HR0_1.out d1_) | (with_reducible refine Kd.C_alloc ?_ _) | (with_reducible refine Kd.C_drewN ?_ _) | (with_reducible refine Kd.C_drew ?_))); (case side2 => exact HC0_1.out); rintro e w15 ⟨rfl, hb⟩; refine ⟨_, rfl, ?_⟩; replace BK101 := A_ (blk_below (g := gb101) (o := .cells #[.string a0_0, .slice A0_1 l0_1.length c0_1] 26 (0, 0)) (zb_ BK101.out) hb); replace HB := A_ (below_step d1_ hb); (try clear hb); (try clear hi)))
   go_ret
   exact ⟨d4_, d1_⟩
  replace c7 := Bool.eq_false_iff.mpr c7; subst c7; rw [if_neg (show ¬ (false = true) by decide)] at H; obtain rfl := Option.some.inj H
  go_enter Tryz.func27, Tryz.ntmps27
  go_wp2_with (first | ((with_reducible refine gate_dst (N := 2) rfl ?_); (try (refine gate_guard (by rfl) ?_; dsimp only)); refine zx_ (N := 2) #[.string a0_0, .slice A0_1 l0_1.length c0_1] 26 ?_; intro gb101 hg w16 hbox hb; have BK101 := A_ hbox; have GW101 := A_ ((d0_ : w.heap.size ≤ gb101)); have GE101 := A_ ((d0_ : w.heap.size ≤ gb101)); replace HB := A_ (below_step (zB_ HB.out) hb); clear hb hbox hg; have hcz17_0 : w16.cell? ⟨gb101, 0, none⟩ = some (.string a0_0) := (blk_cell BK101.out 0).trans rfl; have hcz17_1 : w16.cell? ⟨gb101, 1, none⟩ = some (.slice A0_1 l0_1.length c0_1) := (blk_cell BK101.out 1).trans rfl; have hfz17_0 := blk_frozen BK101.out 0; have hfz17_1 := blk_frozen BK101.out 1) | ((with_reducible refine gate_callee (f := 25) rfl ?_); refine zc_ (some 6) Tryz.func25 #[.agg #[.string a0_0, .slice A0_1 l0_1.length c0_1]] ?_; (with_reducible refine (impl_StreamOk.calls k a0_0 _ _ l0_1 true _ ?side1 ?side2 ?side3 A3.out).mono ?_); (case side1 => exact d111_); (case side2 => exact HC0_1.out); (case side3 => exact d117_); rintro e w18 ⟨rfl, hb⟩; refine ⟨_, rfl, ?_⟩; replace BK101 := A_ (blk_below (g := gb101) (o := .cells #[.string a0_0, .slice A0_1 l0_1.length c0_1] 26 (0, 0)) (zb_ BK101.out) hb); replace HB := A_ (below_step d1_ hb); (try clear hb); have hcz19_0 : w18.cell? ⟨gb101, 0, none⟩ = some (.string a0_0) := (blk_cell BK101.out 0).trans rfl; have hcz19_1 : w18.cell? ⟨gb101, 1, none⟩ = some (.slice A0_1 l0_1.length c0_1) := (blk_cell BK101.out 1).trans rfl; have hfz19_0 := blk_frozen BK101.out 0; have hfz19_1 := blk_frozen BK101.out 1) | (go_at_call 80; (with_reducible refine (impl_Stream_out.calls a0_0 _ _ l0_1 t103 _ ?side1 ?side2 A5.out).mono ?_); (case side1 => exact d111_); (case side2 => exact HC0_1.out); rintro e w20 ⟨rfl, hb⟩; replace BK101 := A_ (blk_below (g := gb101) (o := .cells #[.string a0_0, .slice A0_1 l0_1.length c0_1] 26 (0, 0)) (zb_ BK101.out) hb); replace HB := A_ (below_step d1_ hb); (try clear hb); (try clear hi)) | (go_at_call 68; (with_reducible refine (impl_within.calls a1 0 (t103.size : Int) false _ A6.out).mono ?_); rintro e w' ⟨rfl, ⟨nd, rfl⟩⟩))
  go_ret
  exact ⟨d4_, d1_⟩
 replace c4 := Bool.eq_false_iff.mpr c4
 subst c4
 rw [if_neg (show ¬ (false = true) by decide)] at H
 obtain rfl := Option.some.inj H
 go_enter Tryz.func27, Tryz.ntmps27
 go_wp2_with (first | ((with_reducible refine gate_dst (N := 2) rfl ?_); (try (refine gate_guard (by rfl) ?_; dsimp only)); refine zx_ (N := 2) #[.string a0_0, .slice A0_1 l0_1.length c0_1] 26 ?_; intro gb101 hg w21 hbox hb; have BK101 := A_ hbox; have GW101 := A_ ((d0_ : w.heap.size ≤ gb101)); have GE101 := A_ ((d0_ : w.heap.size ≤ gb101)); replace HB := A_ (below_step (zB_ HB.out) hb); clear hb hbox hg; have hcz22_0 : w21.cell? ⟨gb101, 0, none⟩ = some (.string a0_0) := (blk_cell BK101.out 0).trans rfl; have hcz22_1 : w21.cell? ⟨gb101, 1, none⟩ = some (.slice A0_1 l0_1.length c0_1) := (blk_cell BK101.out 1).trans rfl; have hfz22_0 := blk_frozen BK101.out 0; have hfz22_1 := blk_frozen BK101.out 1) | ((with_reducible refine gate_callee (f := 25) rfl ?_); refine zc_ (some 6) Tryz.func25 #[.agg #[.string a0_0, .slice A0_1 l0_1.length c0_1]] ?_; (with_reducible refine (impl_StreamOk.calls k a0_0 _ _ l0_1 false _ ?side1 ?side2 ?side3 A3.out).mono ?_); (case side1 => exact d111_); (case side2 => exact HC0_1.out); (case side3 => exact d117_); rintro e w23 ⟨rfl, hb⟩; refine ⟨_, rfl, ?_⟩; replace BK101 := A_ (blk_below (g := gb101) (o := .cells #[.string a0_0, .slice A0_1 l0_1.length c0_1] 26 (0, 0)) (zb_ BK101.out) hb); replace HB := A_ (below_step d1_ hb); (try clear hb); (try clear hi)))
 go_ret
 exact ⟨d4_, d1_⟩
end
end Go.Proofs.YtfjbjiklohjodaaGreatDoor.Q
namespace Go.Proofs.YtfjbjiklohjodaaGreatDoor.Q
open Go.RowKit Go.Proofs.YtfjbjiklohjodaaGreatDoorW.PrintWords Go.Proofs.YtfjbjiklohjodaaGreatDoorW.PrintMore Go.Proofs.YtfjbjiklohjodaaGreatDoor.Z
set_option linter.unusedVariables false
set_option linter.unusedSimpArgs false
theorem back_l0 (ps : List Sp) (h0 : ∀ p ∈ ps, 0 ≤ p.size ∧ p.text.length ≤ 100) (hps : ps.length ≤ 1000) (n : Nat) : ∀ (k i : Nat) (o acc : Int), ps.length - i ≤ n → n < k → i ≤ ps.length → 0 ≤ o → o ≤ 1000000 → 0 ≤ acc → acc + sizes (ps.drop i) ≤ 1000000 →
    impl_Stream_back.l0 k o acc (ps.map spTo) ps.length i = some (acc + backP (ps.drop i) o) := by
  induction n with
  | zero =>
    intro k i o acc hn hk hi ho ho2 ha hs
    obtain ⟨k, rfl⟩ : ∃ m, k = m + 1 := ⟨k - 1, by omega⟩
    simp only [impl_Stream_back.l0]
    rw [if_neg (by omega), List.drop_of_length_le (by omega)]
    simp [backP]
  | succ n ih =>
    intro k i o acc hn hk hi ho ho2 ha hs
    obtain ⟨k, rfl⟩ : ∃ m, k = m + 1 := ⟨k - 1, by omega⟩
    by_cases hlt : i < ps.length
    · obtain ⟨p, hp⟩ : ∃ p, ps[i]? = some p := ⟨_, List.getElem?_eq_getElem hlt⟩
      have hp0 := h0 p (List.mem_of_getElem? hp)
      have hr := sizes_nn (ps := ps.drop (i + 1)) (fun q hq => (h0 q (List.mem_of_mem_drop hq)).1)
      have hsz : sizes (ps.drop i) = p.size + sizes (ps.drop (i + 1)) := by rw [drop_of hp]; rfl
      have hbk : backP (ps.drop i) o = if (p.text.length : Int) ≤ o then p.size + backP (ps.drop (i + 1)) (o - p.text.length) else 0 := by rw [drop_of hp]; rfl
      have q1 : (i : Int) < (ps.length : Int) := by omega
      have q2 : (0 : Int) ≤ (i : Int) := by omega
      have q3 : (i : Int) < ((ps.map spTo).length : Int) := by rw [List.length_map]; omega
      have q4 := hp0.2
      have q5 := hp0.1
      rw [hbk]
      clear hbk
      by_cases hc : (p.text.length : Int) ≤ o
      · have hih := ih k (i + 1) (o - p.text.length) (acc + p.size) (by omega) (by omega) (by omega) (by omega) (by omega) (by omega) (by omega)
        have q6 : ¬ (o - (p.text.length : Int) < 0) := by omega
        have hw3 : wrap64 ((i : Int) + 1) = ((i + 1 : Nat) : Int) := by rw [w64 (by omega)]; omega
        have hw : wrap64 (o - (p.text.length : Int)) = o - (p.text.length : Int) := w64 (by omega)
        have hw2 : wrap64 (acc + p.size) = acc + p.size := w64 (by omega)
        have hf0 : (rd_T109 (ps.map spTo) (i : Int)).f0 = p.size := by rw [rd_sp ps i p hp]; rfl
        have hf1 : (rd_T109 (ps.map spTo) (i : Int)).f1 = mkB p.text := by rw [rd_sp ps i p hp]; rfl
        simp only [impl_Stream_back.l0]
        rw [if_pos q1, if_pos q2, if_pos q3, hf1, hf0, size_mkB, hw, if_neg q6, hw2, hw3, hih, if_pos hc, Int.add_assoc]
      · have q6 : o - (p.text.length : Int) < 0 := by omega
        have hw : wrap64 (o - (p.text.length : Int)) = o - (p.text.length : Int) := w64 (by omega)
        have hf1 : (rd_T109 (ps.map spTo) (i : Int)).f1 = mkB p.text := by rw [rd_sp ps i p hp]; rfl
        simp only [impl_Stream_back.l0]
        rw [if_pos q1, if_pos q2, if_pos q3, hf1, size_mkB, hw, if_pos q6, if_neg hc, Int.add_zero]
    · simp only [impl_Stream_back.l0]
      rw [if_neg (by omega), List.drop_of_length_le (by omega)]
      simp [backP]
theorem fit_nn : ∀ {ps : List Sp} {T : List Tok}, fit ps T → ∀ p ∈ ps, 0 ≤ p.size ∧ p.text.length ≤ 100
  | [], _, _, p, hp => by cases hp
  | q :: ps, t :: T, h, p, hp => by
    rcases List.mem_cons.1 hp with rfl | hp
    · have h1 := h.1.1
      have h2 := h.1.2.2.1
      omega
    · exact fit_nn h.2 p hp
  | _ :: _, [], h, _, _ => h.elim
theorem impl_StreamBack_to (k : Nat) (hk : 3000 < k) {l : List UInt8} {ps : List Sp} (h : stOk l ps) {o : Int} (ho : 0 ≤ o ∧ o ≤ ((outS2 ps).length : Int)) : impl_StreamBack.f k (mkB l) (ps.map spTo) o = some (backP ps o) := by
  have h1 := st_len h
  have h2 := fitS_sum (fit_S h.2)
  rw [flat_toks] at h2
  have h3 := body_len l
  have hin : impl_within.f o 0 ((outS2 ps).length : Int) = some true := by
    unfold impl_within.f
    by_cases c1 : 0 ≤ o
    · simp [c1, ho.2]
    · exact absurd ho.1 c1
  have hb := back_l0 ps (fit_nn h.2) (by omega) ps.length k 0 o 0 (by omega) (by omega) (by omega) ho.1 (by omega) (by omega) (by rw [List.drop_zero]; omega)
  rw [List.drop_zero, Int.zero_add, show ((0 : Nat) : Int) = 0 from rfl] at hb
  have hb2 : impl_Stream_back.f k (mkB l) (ps.map spTo) o = some (backP ps o) := by
    unfold impl_Stream_back.f
    rw [List.length_map]
    exact hb
  unfold impl_StreamBack.f
  rw [impl_StreamOk_to k hk l (by omega) ps (by omega), Option.bind_some, stOkB_iff.2 h, if_pos rfl, streamOut_f h, Option.bind_some, size_mkB, hin, Option.bind_some, if_pos rfl, hb2, Option.bind_some]
end Go.Proofs.YtfjbjiklohjodaaGreatDoor.Q
namespace Go.Proofs.YtfjbjiklohjodaaGreatDoor.Q
open Go Go.RowKit Go.Proofs.YtfjbjiklohjodaaGreatDoorW.PrintWords Go.Proofs.YtfjbjiklohjodaaGreatDoorW.PrintMore Go.Proofs.YtfjbjiklohjodaaGreatDoor.Z
set_option linter.unusedVariables false
set_option linter.unusedSimpArgs false
section
variable {w : World} {A A2 : Option Addr} {c c2 : Nat} {L L1 : List S111} {l l1 : ByteArray} {P P1 : List S109} {a : Int} {x : ByteArray} {out ok : Bool}
theorem back_c {o : Int} (hs : stOk (bl l) (P.map spOf)) (h : VT w A c P) (hV : VarsIn w) (ho : 0 ≤ o ∧ o ≤ ((outS2 (P.map spOf)).length : Int)) : Calls Tryz.prog 27 #[vSt l A c P, .int .i64 o] w fun e w' => e = .returned (.int .i64 (backP (P.map spOf) o)) ∧ Below w.heap.size w w' := by
  have h1 := impl_StreamBack_to 3001 (by omega) hs ho
  rw [mkB_bl, sps_to_of] at h1
  exact impl_StreamBack.calls 3001 l A c P _ _ w h.C h.c hV h1
theorem putF_case (hR : putF L l P a x out = (L1, l1, P1, true)) : mapOkB (L.map prOf) = true ∧ stOkB (bl l) (P.map spOf) = true ∧ textOk (bl x) = true ∧ (0 ≤ a ∧ a ≤ 40) := by
  unfold putF at hR
  rcases putAll_cases (m := L.map prOf) (l := bl l) (ps := P.map spOf) (a := a) (x := bl x) (out := out) with ⟨h1, h2, h3, h4, _⟩ | h5
  · exact ⟨h1, h2, h3, h4⟩
  · rw [h5] at hR
    simp only [Prod.mk.injEq] at hR
    exact absurd hR.2.2.2 (by decide)
theorem putF_held (hR : putF L l P a x out = (L1, l1, P1, true)) (h40 : ¬ l1.size = 40) : ∃ L2 l2 P2, putF L1 l1 P1 (l1.size : Int) ⟨#[107]⟩ out = (L2, l2, P2, true) ∧ stOk (bl l2) (P2.map spOf) ∧ l2.size = l1.size + 1 ∧ backP (P2.map spOf) ((outS2 (P2.map spOf)).length : Int) = (l2.size : Int) := by
  obtain ⟨hm, hs, hx, ha⟩ := putF_case hR
  obtain ⟨⟨m, l', ps, ok'⟩, hR2⟩ : ∃ R, putS (L.map prOf) (bl l) (P.map spOf) a (bl x) out = R := ⟨_, rfl⟩
  unfold putF at hR
  rw [putAll_ok hm hs hx ha, hR2] at hR
  simp only [Prod.mk.injEq] at hR
  obtain ⟨rfl, rfl, rfl, rfl⟩ := hR
  rw [size_mkB] at h40
  have hP := putS_ok (out := out) hm (stOkB_iff.1 hs) hx ha.1 hR2
  have h41 := (st_len hP.2.1).1
  obtain ⟨⟨um, ul, up, uok⟩, hU⟩ : ∃ R, putS m l' ps (l'.length : Int) [107] out = R := ⟨_, rfl⟩
  obtain ⟨g1, g2, g3, g4⟩ := put_held hP.1.1 hP.2.1 (by omega) hU
  subst g1
  refine ⟨um.map prTo, mkB ul, up.map spTo, ?_, ?_, ?_, ?_⟩
  · unfold putF
    rw [prs_of_to, sps_of_to, size_mkB, show bl (⟨#[107]⟩ : ByteArray) = [107] from rfl, show bl (mkB l') = l' from rfl, putAll_ok hP.1.1 (stOkB_iff.2 hP.2.1) k_ok ⟨by omega, by omega⟩, hU]
  · rw [sps_of_to]
    exact g3
  · rw [size_mkB, size_mkB, g2, List.length_append]
    rfl
  · rw [sps_of_to, size_mkB]
    exact g4
end
end Go.Proofs.YtfjbjiklohjodaaGreatDoor.Q
namespace Go.Proofs.YtfjbjiklohjodaaGreatDoor.Z
open Go Go.RowKit Go.Proofs.YtfjbjiklohjodaaGreatDoorW.PrintWords Go.Proofs.YtfjbjiklohjodaaGreatDoorW.PrintLast Go.Proofs.YtfjbjiklohjodaaGreatDoorW.PrintMore Go.Proofs.YtfjbjiklohjodaaGreatDoor.Q
set_option linter.unusedVariables false
set_option linter.unusedSimpArgs false
attribute [local go_sem ↓] Go.wp_at_zero Go.wp_at_succ
set_option maxRecDepth 100000 in
set_option maxHeartbeats 4000000 in
theorem law_FnPutHeld (A : Option Addr) (n c : Nat) (bs : List Int) (w : World) (hC : Kd.C (Kd.int .u8) w A n bs) (hl : n ≤ c) (hb : ∀ b ∈ bs, (0 : Int) ≤ b ∧ b ≤ 255) (hV : VarsIn w) :
    Calls Tryz.prog 9 #[.slice A n c] w fun e w' => e = .returned (.bool true) ∧ Below w.heap.size w w' := by
  have HB := Aside0.mk (Below.refl w.heap.size w)
  have HV := Aside0.mk hV
  have HC := Aside0.mk hC
  clear hV hC
  by_cases h0 : n > 1048576
  · have t0 : decide ((n : Int) > 1048576) = true := decide_eq_true (by omega)
    have t1 : decide ((1048576 : Int) < (n : Int)) = true := decide_eq_true (by omega)
    go_enter Tryz.func9, Tryz.ntmps9
    go_wp2
    refine bodyPost_ret (v := (.bool true)) (by simp [results, Tryz.results9, go_sem, zEn, *]) rfl ⟨rfl, HB.out⟩
  have t0 : decide ((n : Int) > 1048576) = false := decide_eq_false (by omega)
  have t1 : decide ((1048576 : Int) < (n : Int)) = false := decide_eq_false (by omega)
  go_enter Tryz.func9, Tryz.ntmps9
  go_wp2_with fail; refine (draw_put A n c bs _ HC.out hb hl).mono ?_; rintro e1 w1 ⟨A1, c1, L, l, A2, c2, P, a, x, out, rfl, hL, hP, hm, hLn, hln, hPn, ha, hx, hb1⟩
  have hx1 := hb1
  replace HB := Aside0.mk (below_step HB.out hx1)
  replace HV := Aside0.mk (HV.out.next hx1)
  clear hx1 hb1
  obtain ⟨⟨L1, l1, P1, ok⟩, hR⟩ : ∃ R, putF L l P a x out = R := ⟨_, rfl⟩
  obtain ⟨hL1n, hl1n, hP1n⟩ := putF_len hR
  have HR := Aside0.mk hR
  clear hR
  have kn_0 : (w1.alloc (.cells #[.string l, .slice A2 P.length c2] 26 (0, 0))).cell? ⟨w1.heap.size, 0, none⟩ = some (.string l) := (blk_cell (heap_alloc_new w1 _) 0).trans rfl
  have kn_1 : (w1.alloc (.cells #[.string l, .slice A2 P.length c2] 26 (0, 0))).cell? ⟨w1.heap.size, 1, none⟩ = some (.slice A2 P.length c2) := (blk_cell (heap_alloc_new w1 _) 1).trans rfl
  go_wp2_with fail; refine (spec_put (hL.below (below_alloc (Below.refl _ _) _)) (hP.below (below_alloc (Below.refl _ _) _)) (by omega) (by omega) (by omega) HR.out).mono ?_; rintro e2 w2 ⟨A3, c3, A4, c4, rfl, hL3, hP3, hb2⟩
  have hx2 : Below w1.heap.size w1 w2 := below_step (below_alloc (Below.refl _ _) _) hb2
  obtain ⟨g1, hg1⟩ : ∃ g, g = w1.heap.size := ⟨_, rfl⟩
  have bg1 : Aside0 (w2.heap[g1]? = some (.cells #[.string l, .slice A2 P.length c2] 26 (0, 0))) := ⟨by rw [hg1]; exact (hb2.block _ (by show w1.heap.size < (w1.heap.push _).size; simp)).trans (heap_alloc_new w1 _)⟩
  rw [← hg1]
  clear hg1
  clear kn_0 kn_1
  replace hL := hL.below hx2
  replace hP := hP.below hx2
  replace HB := Aside0.mk (below_step HB.out hx2)
  replace HV := Aside0.mk (HV.out.next hx2)
  clear hx2 hb2
  have k1_0 : (w2.alloc (.cells #[.string l1, .slice A4 P1.length c4] 26 (0, 0))).cell? ⟨g1, 0, none⟩ = some (.string l) := (blk_cell (blk_alloc bg1.out _) 0).trans rfl
  have k1_1 : (w2.alloc (.cells #[.string l1, .slice A4 P1.length c4] 26 (0, 0))).cell? ⟨g1, 1, none⟩ = some (.slice A2 P.length c2) := (blk_cell (blk_alloc bg1.out _) 1).trans rfl
  have kn_0 : (w2.alloc (.cells #[.string l1, .slice A4 P1.length c4] 26 (0, 0))).cell? ⟨w2.heap.size, 0, none⟩ = some (.string l1) := (blk_cell (heap_alloc_new w2 _) 0).trans rfl
  have kn_1 : (w2.alloc (.cells #[.string l1, .slice A4 P1.length c4] 26 (0, 0))).cell? ⟨w2.heap.size, 1, none⟩ = some (.slice A4 P1.length c4) := (blk_cell (heap_alloc_new w2 _) 1).trans rfl
  go_wp2_with fail; refine (impl_put (hL.below (below_alloc (Below.refl _ _) _)) (hP.below (below_alloc (Below.refl _ _) _)) (by omega) (by omega) (by omega) (by omega) HR.out (HV.out.next (below_alloc (Below.refl _ _) _))).mono ?_; rintro e3 w3 ⟨A5, c5, A6, c6, rfl, hL5, hP5, hb3⟩
  have hx3 : Below w2.heap.size w2 w3 := below_step (below_alloc (Below.refl _ _) _) hb3
  obtain ⟨g2, hg2⟩ : ∃ g, g = w2.heap.size := ⟨_, rfl⟩
  have bg2 : Aside0 (w3.heap[g2]? = some (.cells #[.string l1, .slice A4 P1.length c4] 26 (0, 0))) := ⟨by rw [hg2]; exact (hb3.block _ (by show w2.heap.size < (w2.heap.push _).size; simp)).trans (heap_alloc_new w2 _)⟩
  rw [← hg2]
  clear hg2
  clear k1_0 k1_1 kn_0 kn_1
  replace hL := hL.below hx3
  replace hP := hP.below hx3
  replace hL3 := hL3.below hx3
  replace hP3 := hP3.below hx3
  replace bg1 := Aside0.mk ((hx3.block g1 (blk_lt bg1.out)).trans bg1.out)
  replace HB := Aside0.mk (below_step HB.out hx3)
  replace HV := Aside0.mk (HV.out.next hx3)
  clear hx3 hb3
  have hne : (ok != ok) = false := by simp
  have heq : (ok == ok) = true := by simp
  have k1_0 : (w3.alloc (.cells #[.string l1, .slice A6 P1.length c6] 26 (0, 0))).cell? ⟨g1, 0, none⟩ = some (.string l) := (blk_cell (blk_alloc bg1.out _) 0).trans rfl
  have k1_1 : (w3.alloc (.cells #[.string l1, .slice A6 P1.length c6] 26 (0, 0))).cell? ⟨g1, 1, none⟩ = some (.slice A2 P.length c2) := (blk_cell (blk_alloc bg1.out _) 1).trans rfl
  have k2_0 : (w3.alloc (.cells #[.string l1, .slice A6 P1.length c6] 26 (0, 0))).cell? ⟨g2, 0, none⟩ = some (.string l1) := (blk_cell (blk_alloc bg2.out _) 0).trans rfl
  have k2_1 : (w3.alloc (.cells #[.string l1, .slice A6 P1.length c6] 26 (0, 0))).cell? ⟨g2, 1, none⟩ = some (.slice A4 P1.length c4) := (blk_cell (blk_alloc bg2.out _) 1).trans rfl
  have kn_0 : (w3.alloc (.cells #[.string l1, .slice A6 P1.length c6] 26 (0, 0))).cell? ⟨w3.heap.size, 0, none⟩ = some (.string l1) := (blk_cell (heap_alloc_new w3 _) 0).trans rfl
  have kn_1 : (w3.alloc (.cells #[.string l1, .slice A6 P1.length c6] 26 (0, 0))).cell? ⟨w3.heap.size, 1, none⟩ = some (.slice A6 P1.length c6) := (blk_cell (heap_alloc_new w3 _) 1).trans rfl
  go_wp2_with fail; refine (lz_S l1 (by omega) (hP5.below (below_alloc (Below.refl _ _) _)) (hP3.below (below_alloc (Below.refl _ _) _))).mono ?_; rintro e4 w4 ⟨rfl, hb4⟩
  have hx4 : Below w3.heap.size w3 w4 := below_step (below_alloc (Below.refl _ _) _) hb4
  obtain ⟨g3, hg3⟩ : ∃ g, g = w3.heap.size := ⟨_, rfl⟩
  have bg3 : Aside0 (w4.heap[g3]? = some (.cells #[.string l1, .slice A6 P1.length c6] 26 (0, 0))) := ⟨by rw [hg3]; exact (hb4.block _ (by show w3.heap.size < (w3.heap.push _).size; simp)).trans (heap_alloc_new w3 _)⟩
  rw [← hg3]
  clear hg3
  clear k1_0 k1_1 k2_0 k2_1 kn_0 kn_1
  replace hL := hL.below hx4
  replace hP := hP.below hx4
  replace hL3 := hL3.below hx4
  replace hP3 := hP3.below hx4
  replace hL5 := hL5.below hx4
  replace hP5 := hP5.below hx4
  replace bg1 := Aside0.mk ((hx4.block g1 (blk_lt bg1.out)).trans bg1.out)
  replace bg2 := Aside0.mk ((hx4.block g2 (blk_lt bg2.out)).trans bg2.out)
  replace HB := Aside0.mk (below_step HB.out hx4)
  replace HV := Aside0.mk (HV.out.next hx4)
  clear hx4 hb4
  have k1_0 : w4.cell? ⟨g1, 0, none⟩ = some (.string l) := (blk_cell bg1.out 0).trans rfl
  have k1_1 : w4.cell? ⟨g1, 1, none⟩ = some (.slice A2 P.length c2) := (blk_cell bg1.out 1).trans rfl
  have k2_0 : w4.cell? ⟨g2, 0, none⟩ = some (.string l1) := (blk_cell bg2.out 0).trans rfl
  have k2_1 : w4.cell? ⟨g2, 1, none⟩ = some (.slice A4 P1.length c4) := (blk_cell bg2.out 1).trans rfl
  have k3_0 : w4.cell? ⟨g3, 0, none⟩ = some (.string l1) := (blk_cell bg3.out 0).trans rfl
  have k3_1 : w4.cell? ⟨g3, 1, none⟩ = some (.slice A6 P1.length c6) := (blk_cell bg3.out 1).trans rfl
  go_wp2_with fail; refine (lz_M (by omega) hL5 hL3).mono ?_; rintro e5 w5 ⟨rfl, hb5⟩
  have hx5 := hb5
  clear k1_0 k1_1 k2_0 k2_1 k3_0 k3_1
  replace hL := hL.below hx5
  replace hP := hP.below hx5
  replace hL3 := hL3.below hx5
  replace hP3 := hP3.below hx5
  replace hL5 := hL5.below hx5
  replace hP5 := hP5.below hx5
  replace bg1 := Aside0.mk ((hx5.block g1 (blk_lt bg1.out)).trans bg1.out)
  replace bg2 := Aside0.mk ((hx5.block g2 (blk_lt bg2.out)).trans bg2.out)
  replace bg3 := Aside0.mk ((hx5.block g3 (blk_lt bg3.out)).trans bg3.out)
  replace HB := Aside0.mk (below_step HB.out hx5)
  replace HV := Aside0.mk (HV.out.next hx5)
  clear hx5 hb5
  cases ok with
  | false =>
    have k1_0 : w5.cell? ⟨g1, 0, none⟩ = some (.string l) := (blk_cell bg1.out 0).trans rfl
    have k1_1 : w5.cell? ⟨g1, 1, none⟩ = some (.slice A2 P.length c2) := (blk_cell bg1.out 1).trans rfl
    have k2_0 : w5.cell? ⟨g2, 0, none⟩ = some (.string l1) := (blk_cell bg2.out 0).trans rfl
    have k2_1 : w5.cell? ⟨g2, 1, none⟩ = some (.slice A4 P1.length c4) := (blk_cell bg2.out 1).trans rfl
    have k3_0 : w5.cell? ⟨g3, 0, none⟩ = some (.string l1) := (blk_cell bg3.out 0).trans rfl
    have k3_1 : w5.cell? ⟨g3, 1, none⟩ = some (.slice A6 P1.length c6) := (blk_cell bg3.out 1).trans rfl
    go_wp2_with fail; refine (lz_S l1 (by omega) hP5 hP3).mono ?_; rintro e6 w6 ⟨rfl, hb6⟩
    have hx6 := hb6
    clear k1_0 k1_1 k2_0 k2_1 k3_0 k3_1
    replace hL := hL.below hx6
    replace hP := hP.below hx6
    replace hL3 := hL3.below hx6
    replace hP3 := hP3.below hx6
    replace hL5 := hL5.below hx6
    replace hP5 := hP5.below hx6
    replace bg1 := Aside0.mk ((hx6.block g1 (blk_lt bg1.out)).trans bg1.out)
    replace bg2 := Aside0.mk ((hx6.block g2 (blk_lt bg2.out)).trans bg2.out)
    replace bg3 := Aside0.mk ((hx6.block g3 (blk_lt bg3.out)).trans bg3.out)
    replace HB := Aside0.mk (below_step HB.out hx6)
    replace HV := Aside0.mk (HV.out.next hx6)
    clear hx6 hb6
    have k1_0 : w6.cell? ⟨g1, 0, none⟩ = some (.string l) := (blk_cell bg1.out 0).trans rfl
    have k1_1 : w6.cell? ⟨g1, 1, none⟩ = some (.slice A2 P.length c2) := (blk_cell bg1.out 1).trans rfl
    have k2_0 : w6.cell? ⟨g2, 0, none⟩ = some (.string l1) := (blk_cell bg2.out 0).trans rfl
    have k2_1 : w6.cell? ⟨g2, 1, none⟩ = some (.slice A4 P1.length c4) := (blk_cell bg2.out 1).trans rfl
    have k3_0 : w6.cell? ⟨g3, 0, none⟩ = some (.string l1) := (blk_cell bg3.out 0).trans rfl
    have k3_1 : w6.cell? ⟨g3, 1, none⟩ = some (.slice A6 P1.length c6) := (blk_cell bg3.out 1).trans rfl
    go_wp2_with fail; refine (lz_M (by omega) hL5 hL3).mono ?_; rintro e7 w7 ⟨rfl, hb7⟩
    have hx7 := hb7
    clear k1_0 k1_1 k2_0 k2_1 k3_0 k3_1
    replace hL := hL.below hx7
    replace hP := hP.below hx7
    replace hL3 := hL3.below hx7
    replace hP3 := hP3.below hx7
    replace hL5 := hL5.below hx7
    replace hP5 := hP5.below hx7
    replace bg1 := Aside0.mk ((hx7.block g1 (blk_lt bg1.out)).trans bg1.out)
    replace bg2 := Aside0.mk ((hx7.block g2 (blk_lt bg2.out)).trans bg2.out)
    replace bg3 := Aside0.mk ((hx7.block g3 (blk_lt bg3.out)).trans bg3.out)
    replace HB := Aside0.mk (below_step HB.out hx7)
    replace HV := Aside0.mk (HV.out.next hx7)
    clear hx7 hb7
    go_wp2
    refine bodyPost_ret (v := (.bool true)) (by simp [results, Tryz.results9, go_sem, zEn, *]) rfl ⟨rfl, HB.out⟩
  | true =>
    by_cases h40 : l1.size = 40
    · have q4 : ((l1.size : Int) == 40) = true := beq_iff_eq.2 (by omega)
      have q5 : decide ((l1.size : Int) = 40) = true := decide_eq_true (by omega)
      have k1_0 : w5.cell? ⟨g1, 0, none⟩ = some (.string l) := (blk_cell bg1.out 0).trans rfl
      have k1_1 : w5.cell? ⟨g1, 1, none⟩ = some (.slice A2 P.length c2) := (blk_cell bg1.out 1).trans rfl
      have k2_0 : w5.cell? ⟨g2, 0, none⟩ = some (.string l1) := (blk_cell bg2.out 0).trans rfl
      have k2_1 : w5.cell? ⟨g2, 1, none⟩ = some (.slice A4 P1.length c4) := (blk_cell bg2.out 1).trans rfl
      have k3_0 : w5.cell? ⟨g3, 0, none⟩ = some (.string l1) := (blk_cell bg3.out 0).trans rfl
      have k3_1 : w5.cell? ⟨g3, 1, none⟩ = some (.slice A6 P1.length c6) := (blk_cell bg3.out 1).trans rfl
      go_wp2_with fail; refine (lz_S l1 (by omega) hP5 hP3).mono ?_; rintro e6 w6 ⟨rfl, hb6⟩
      have hx6 := hb6
      clear k1_0 k1_1 k2_0 k2_1 k3_0 k3_1
      replace hL := hL.below hx6
      replace hP := hP.below hx6
      replace hL3 := hL3.below hx6
      replace hP3 := hP3.below hx6
      replace hL5 := hL5.below hx6
      replace hP5 := hP5.below hx6
      replace bg1 := Aside0.mk ((hx6.block g1 (blk_lt bg1.out)).trans bg1.out)
      replace bg2 := Aside0.mk ((hx6.block g2 (blk_lt bg2.out)).trans bg2.out)
      replace bg3 := Aside0.mk ((hx6.block g3 (blk_lt bg3.out)).trans bg3.out)
      replace HB := Aside0.mk (below_step HB.out hx6)
      replace HV := Aside0.mk (HV.out.next hx6)
      clear hx6 hb6
      have k1_0 : w6.cell? ⟨g1, 0, none⟩ = some (.string l) := (blk_cell bg1.out 0).trans rfl
      have k1_1 : w6.cell? ⟨g1, 1, none⟩ = some (.slice A2 P.length c2) := (blk_cell bg1.out 1).trans rfl
      have k2_0 : w6.cell? ⟨g2, 0, none⟩ = some (.string l1) := (blk_cell bg2.out 0).trans rfl
      have k2_1 : w6.cell? ⟨g2, 1, none⟩ = some (.slice A4 P1.length c4) := (blk_cell bg2.out 1).trans rfl
      have k3_0 : w6.cell? ⟨g3, 0, none⟩ = some (.string l1) := (blk_cell bg3.out 0).trans rfl
      have k3_1 : w6.cell? ⟨g3, 1, none⟩ = some (.slice A6 P1.length c6) := (blk_cell bg3.out 1).trans rfl
      go_wp2_with fail; refine (lz_M (by omega) hL5 hL3).mono ?_; rintro e7 w7 ⟨rfl, hb7⟩
      have hx7 := hb7
      clear k1_0 k1_1 k2_0 k2_1 k3_0 k3_1
      replace hL := hL.below hx7
      replace hP := hP.below hx7
      replace hL3 := hL3.below hx7
      replace hP3 := hP3.below hx7
      replace hL5 := hL5.below hx7
      replace hP5 := hP5.below hx7
      replace bg1 := Aside0.mk ((hx7.block g1 (blk_lt bg1.out)).trans bg1.out)
      replace bg2 := Aside0.mk ((hx7.block g2 (blk_lt bg2.out)).trans bg2.out)
      replace bg3 := Aside0.mk ((hx7.block g3 (blk_lt bg3.out)).trans bg3.out)
      replace HB := Aside0.mk (below_step HB.out hx7)
      replace HV := Aside0.mk (HV.out.next hx7)
      clear hx7 hb7
      go_wp2
      refine bodyPost_ret (v := (.bool true)) (by simp [results, Tryz.results9, go_sem, zEn, *]) rfl ⟨rfl, HB.out⟩
    · have q4 : ((l1.size : Int) == 40) = false := beq_eq_false_iff_ne.2 (by omega)
      have q5 : decide ((l1.size : Int) = 40) = false := decide_eq_false (by omega)
      obtain ⟨L2, l2, P2, hI, hs2, hz2, hbk⟩ := putF_held HR.out h40
      obtain ⟨_, hl2n, hP2n⟩ := putF_len hI
      have HI := Aside0.mk hI
      have HS := Aside0.mk hs2
      obtain ⟨T, hT⟩ : ∃ T, mkB (outS2 (P2.map spOf)) = T := ⟨_, rfl⟩
      have hbk2 : backP (P2.map spOf) (T.size : Int) = (l2.size : Int) := by rw [← hT]; exact hbk
      have hTz : (T.size : Int) ≤ ((outS2 (P2.map spOf)).length : Int) := by rw [← hT]; exact Int.le_refl _
      have HBK := Aside0.mk hbk2
      have HT := Aside0.mk hT
      have hw1 : IntKind.i64.wrap ((l1.size : Int) + 1) = (l1.size : Int) + 1 := IntWalk.i64_in _ (by omega)
      have hw2 : ((l2.size : Int) == (l1.size : Int) + 1) = true := beq_iff_eq.2 (by omega)
      have hw3 : decide ((l2.size : Int) = (l1.size : Int) + 1) = true := decide_eq_true (by omega)
      have HTZ := Aside0.mk hTz
      clear hI hs2 hz2 hbk hbk2 hTz hT h40
      have k1_0 : w5.cell? ⟨g1, 0, none⟩ = some (.string l) := (blk_cell bg1.out 0).trans rfl
      have k1_1 : w5.cell? ⟨g1, 1, none⟩ = some (.slice A2 P.length c2) := (blk_cell bg1.out 1).trans rfl
      have k2_0 : w5.cell? ⟨g2, 0, none⟩ = some (.string l1) := (blk_cell bg2.out 0).trans rfl
      have k2_1 : w5.cell? ⟨g2, 1, none⟩ = some (.slice A4 P1.length c4) := (blk_cell bg2.out 1).trans rfl
      have k3_0 : w5.cell? ⟨g3, 0, none⟩ = some (.string l1) := (blk_cell bg3.out 0).trans rfl
      have k3_1 : w5.cell? ⟨g3, 1, none⟩ = some (.slice A6 P1.length c6) := (blk_cell bg3.out 1).trans rfl
      go_wp2_with fail; refine (impl_put hL5 hP5 (by omega) (by omega) (by omega) (by decide) HI.out HV.out).mono ?_; rintro e6 w6 ⟨A7, c7, A8, c8, rfl, hL7, hP7, hb6⟩
      have hx6 := hb6
      clear k1_0 k1_1 k2_0 k2_1 k3_0 k3_1
      replace hL := hL.below hx6
      replace hP := hP.below hx6
      replace hL3 := hL3.below hx6
      replace hP3 := hP3.below hx6
      replace hL5 := hL5.below hx6
      replace hP5 := hP5.below hx6
      replace bg1 := Aside0.mk ((hx6.block g1 (blk_lt bg1.out)).trans bg1.out)
      replace bg2 := Aside0.mk ((hx6.block g2 (blk_lt bg2.out)).trans bg2.out)
      replace bg3 := Aside0.mk ((hx6.block g3 (blk_lt bg3.out)).trans bg3.out)
      replace HB := Aside0.mk (below_step HB.out hx6)
      replace HV := Aside0.mk (HV.out.next hx6)
      clear hx6 hb6
      have k1_0 : (w6.alloc (.cells #[.string l2, .slice A8 P2.length c8] 26 (0, 0))).cell? ⟨g1, 0, none⟩ = some (.string l) := (blk_cell (blk_alloc bg1.out _) 0).trans rfl
      have k1_1 : (w6.alloc (.cells #[.string l2, .slice A8 P2.length c8] 26 (0, 0))).cell? ⟨g1, 1, none⟩ = some (.slice A2 P.length c2) := (blk_cell (blk_alloc bg1.out _) 1).trans rfl
      have k2_0 : (w6.alloc (.cells #[.string l2, .slice A8 P2.length c8] 26 (0, 0))).cell? ⟨g2, 0, none⟩ = some (.string l1) := (blk_cell (blk_alloc bg2.out _) 0).trans rfl
      have k2_1 : (w6.alloc (.cells #[.string l2, .slice A8 P2.length c8] 26 (0, 0))).cell? ⟨g2, 1, none⟩ = some (.slice A4 P1.length c4) := (blk_cell (blk_alloc bg2.out _) 1).trans rfl
      have k3_0 : (w6.alloc (.cells #[.string l2, .slice A8 P2.length c8] 26 (0, 0))).cell? ⟨g3, 0, none⟩ = some (.string l1) := (blk_cell (blk_alloc bg3.out _) 0).trans rfl
      have k3_1 : (w6.alloc (.cells #[.string l2, .slice A8 P2.length c8] 26 (0, 0))).cell? ⟨g3, 1, none⟩ = some (.slice A6 P1.length c6) := (blk_cell (blk_alloc bg3.out _) 1).trans rfl
      have kn_0 : (w6.alloc (.cells #[.string l2, .slice A8 P2.length c8] 26 (0, 0))).cell? ⟨w6.heap.size, 0, none⟩ = some (.string l2) := (blk_cell (heap_alloc_new w6 _) 0).trans rfl
      have kn_1 : (w6.alloc (.cells #[.string l2, .slice A8 P2.length c8] 26 (0, 0))).cell? ⟨w6.heap.size, 1, none⟩ = some (.slice A8 P2.length c8) := (blk_cell (heap_alloc_new w6 _) 1).trans rfl
      go_upto_region 9 with (fail)
      clear k1_0 k1_1 k2_0 k2_1 k3_0 k3_1 kn_0 kn_1
      obtain ⟨wf1, hwf⟩ : ∃ v, v = (w6.alloc (.cells #[.string l2, .slice A8 P2.length c8] 26 (0, 0))) := ⟨_, rfl⟩
      rw [← hwf]
      obtain ⟨g4, hg_⟩ : ∃ g, g = w6.heap.size := ⟨_, rfl⟩
      rw [← hg_]
      have hx_ : Below w6.heap.size w6 wf1 := by rw [hwf]; exact below_alloc (Below.refl _ _) _
      have bg4 : Aside0 (wf1.heap[g4]? = some (.cells #[.string l2, .slice A8 P2.length c8] 26 (0, 0))) := ⟨by rw [hwf, hg_]; exact heap_alloc_new w6 _⟩
      replace hL := hL.below hx_
      replace hP := hP.below hx_
      replace hL3 := hL3.below hx_
      replace hP3 := hP3.below hx_
      replace hL5 := hL5.below hx_
      replace hP5 := hP5.below hx_
      replace hL7 := hL7.below hx_
      replace hP7 := hP7.below hx_
      replace bg1 := Aside0.mk ((hx_.block g1 (blk_lt bg1.out)).trans bg1.out)
      replace bg2 := Aside0.mk ((hx_.block g2 (blk_lt bg2.out)).trans bg2.out)
      replace bg3 := Aside0.mk ((hx_.block g3 (blk_lt bg3.out)).trans bg3.out)
      replace HB := Aside0.mk (below_step HB.out hx_)
      replace HV := Aside0.mk (HV.out.next hx_)
      clear hx_ hwf hg_
      have k1_0 : wf1.cell? ⟨g1, 0, none⟩ = some (.string l) := (blk_cell bg1.out 0).trans rfl
      have k1_1 : wf1.cell? ⟨g1, 1, none⟩ = some (.slice A2 P.length c2) := (blk_cell bg1.out 1).trans rfl
      have k2_0 : wf1.cell? ⟨g2, 0, none⟩ = some (.string l1) := (blk_cell bg2.out 0).trans rfl
      have k2_1 : wf1.cell? ⟨g2, 1, none⟩ = some (.slice A4 P1.length c4) := (blk_cell bg2.out 1).trans rfl
      have k3_0 : wf1.cell? ⟨g3, 0, none⟩ = some (.string l1) := (blk_cell bg3.out 0).trans rfl
      have k3_1 : wf1.cell? ⟨g3, 1, none⟩ = some (.slice A6 P1.length c6) := (blk_cell bg3.out 1).trans rfl
      have k4_0 : wf1.cell? ⟨g4, 0, none⟩ = some (.string l2) := (blk_cell bg4.out 0).trans rfl
      have k4_1 : wf1.cell? ⟨g4, 1, none⟩ = some (.slice A8 P2.length c8) := (blk_cell bg4.out 1).trans rfl
      refine lin_start (fun w' => w'.cell? ⟨g4, 0, none⟩ = some (.string l2) ∧ w'.cell? ⟨g4, 1, none⟩ = some (.slice A8 P2.length c8) ∧ w'.cell? ⟨g3, 0, none⟩ = some (.string l1) ∧ w'.cell? ⟨g3, 1, none⟩ = some (.slice A6 P1.length c6)) (true, [([], []), ([0], [0]), ([1], [1]), ([1], [1]), ([3, 1, 1], [1, 3]), ([4, 1], [1, 4]), ([2, 5, 4, 1], [1, 2, 5]), ([1], [1]), ([7, 1], [1, 7]), ([8, 1], [1, 8]), ([6, 9, 1], [1, 6, 9]), ([1, 10], [1, 10]), ([11, 6], [11]), ([12], [12]), ([13, 12], [12, 13]), ([14, 12], [12, 14]), ([12], [12]), ([16, 12], [12, 16]), ([17, 12], [12, 17]), ([18, 12], [12, 18]), ([15, 19, 12], [12, 15, 19]), ([12, 20], [12, 20]), ([21, 12, 0, 1, 2, 3, 4, 5, 6, 7, 8, 9, 10, 11, 12, 13, 14, 15, 16, 17, 18, 19, 20, 21], [21])]) [0, 1, 2, 3, 7, 8, 9, 4, 5, 6, 10, 11, 12, 13, 14, 15, 16, 17, 18, 19, 20, 21, 22] (by kernel_rfl) (by kernel_rfl) (by kernel_rfl) ⟨by go_simp, by go_simp, by go_simp, by go_simp⟩ ?_
      repeat (first | (refine lin_take rfl rfl (by kernel_rfl) (fun _ _ _ h => h) (by rfl) (v := ?_) (a' := ?_) ?_ ?_ ?_; rotate_left 2; (rintro w' ⟨s0, s1, s2, s3⟩; go_simp; with_reducible rfl); (simp only [List.getElem_toArray, List.getElem_cons_zero, List.getElem_cons_succ, Act.put, List.setIfInBounds_toArray, List.set_cons_zero, List.set_cons_succ]; rfl)) | (refine lin_off rfl rfl (by kernel_rfl) (fun _ _ _ h => h) (by rfl) (a' := ?_) ?_ ?_; rotate_left 1; (simp only [List.getElem_toArray, List.getElem_cons_zero, List.getElem_cons_succ, Act.put, List.setIfInBounds_toArray, List.set_cons_zero, List.set_cons_succ]; rfl)))
      have hd0 : Below wf1.heap.size wf1 wf1.drew := below_drew (Below.refl _ _)
      refine lin_call rfl rfl rfl Tryz.func26 (by kernel_rfl) (by kernel_rfl) rfl (by rfl) (args := #[vSt l2 A8 c8 P2]) (by (try simp only [List.map_toArray, List.map_cons, List.map_nil]); first | done | rfl) (fun hS => ?_)
      refine (out_c HS.out (hP7.below hd0) (HV.out.next hd0)).mono ?_
      rintro e wR0 ⟨rfl, hr0⟩
      rw [HT.out]
      have hd1 : Below wf1.heap.size wf1 wR0 := below_step hd0 hr0
      have tg4_0 := (hd1.block g4 (blk_lt bg4.out)).trans bg4.out
      have tg3_0 := (hd1.block g3 (blk_lt bg3.out)).trans bg3.out
      refine ⟨_, rfl, ⟨(blk_cell (tg4_0) 0).trans rfl, (blk_cell (tg4_0) 1).trans rfl, (blk_cell (tg3_0) 0).trans rfl, (blk_cell (tg3_0) 1).trans rfl⟩, ?_⟩
      refine lin_norm (a' := ?_) ?_ ?_; rotate_left 1; (simp only [List.getElem_toArray, List.getElem_cons_zero, List.getElem_cons_succ, Act.put, List.setIfInBounds_toArray, List.set_cons_zero, List.set_cons_succ]; rfl)
      repeat (first | (refine lin_take rfl rfl (by kernel_rfl) (fun _ _ _ h => h) (by rfl) (v := ?_) (a' := ?_) ?_ ?_ ?_; rotate_left 2; (rintro w' ⟨s0, s1, s2, s3⟩; go_simp; with_reducible rfl); (simp only [List.getElem_toArray, List.getElem_cons_zero, List.getElem_cons_succ, Act.put, List.setIfInBounds_toArray, List.set_cons_zero, List.set_cons_succ]; rfl)) | (refine lin_off rfl rfl (by kernel_rfl) (fun _ _ _ h => h) (by rfl) (a' := ?_) ?_ ?_; rotate_left 1; (simp only [List.getElem_toArray, List.getElem_cons_zero, List.getElem_cons_succ, Act.put, List.setIfInBounds_toArray, List.set_cons_zero, List.set_cons_succ]; rfl)))
      refine lin_call rfl rfl rfl Tryz.func27 (by kernel_rfl) (by kernel_rfl) rfl (by rfl) (args := #[vSt l2 A8 c8 P2, .int .i64 (T.size : Int)]) (by (try simp only [List.map_toArray, List.map_cons, List.map_nil]); first | done | rfl) (fun hS => ?_)
      refine (back_c HS.out (hP7.below hd1) (HV.out.next hd1) ⟨by omega, HTZ.out⟩).mono ?_
      rintro e wR1 ⟨rfl, hr1⟩
      rw [HBK.out]
      have hd2 : Below wf1.heap.size wf1 wR1 := below_step hd1 hr1
      have tg4_1 := (hd2.block g4 (blk_lt bg4.out)).trans bg4.out
      have tg3_1 := (hd2.block g3 (blk_lt bg3.out)).trans bg3.out
      refine ⟨_, rfl, ⟨(blk_cell (tg4_1) 0).trans rfl, (blk_cell (tg4_1) 1).trans rfl, (blk_cell (tg3_1) 0).trans rfl, (blk_cell (tg3_1) 1).trans rfl⟩, ?_⟩
      refine lin_norm (a' := ?_) ?_ ?_; rotate_left 1; (simp only [List.getElem_toArray, List.getElem_cons_zero, List.getElem_cons_succ, Act.put, List.setIfInBounds_toArray, List.set_cons_zero, List.set_cons_succ]; rfl)
      repeat (first | (refine lin_take rfl rfl (by kernel_rfl) (fun _ _ _ h => h) (by rfl) (v := ?_) (a' := ?_) ?_ ?_ ?_; rotate_left 2; (rintro w' ⟨s0, s1, s2, s3⟩; go_simp; with_reducible rfl); (simp only [List.getElem_toArray, List.getElem_cons_zero, List.getElem_cons_succ, Act.put, List.setIfInBounds_toArray, List.set_cons_zero, List.set_cons_succ]; rfl)) | (refine lin_off rfl rfl (by kernel_rfl) (fun _ _ _ h => h) (by rfl) (a' := ?_) ?_ ?_; rotate_left 1; (simp only [List.getElem_toArray, List.getElem_cons_zero, List.getElem_cons_succ, Act.put, List.setIfInBounds_toArray, List.set_cons_zero, List.set_cons_succ]; rfl)))
      refine lin_done (by kernel_rfl) ?_
      clear k1_0 k1_1 k2_0 k2_1 k3_0 k3_1 k4_0 k4_1
      have hx_ := hd2
      replace hL := hL.below hx_
      replace hP := hP.below hx_
      replace hL3 := hL3.below hx_
      replace hP3 := hP3.below hx_
      replace hL5 := hL5.below hx_
      replace hP5 := hP5.below hx_
      replace hL7 := hL7.below hx_
      replace hP7 := hP7.below hx_
      replace bg1 := Aside0.mk ((hx_.block g1 (blk_lt bg1.out)).trans bg1.out)
      replace bg2 := Aside0.mk ((hx_.block g2 (blk_lt bg2.out)).trans bg2.out)
      replace bg3 := Aside0.mk ((hx_.block g3 (blk_lt bg3.out)).trans bg3.out)
      replace bg4 := Aside0.mk ((hx_.block g4 (blk_lt bg4.out)).trans bg4.out)
      replace HB := Aside0.mk (below_step HB.out hx_)
      replace HV := Aside0.mk (HV.out.next hx_)
      go_wp2
      refine bodyPost_ret (v := (.bool true)) (by simp [results, Tryz.results9, go_sem, zEn, *]) rfl ⟨rfl, HB.out⟩
end Go.Proofs.YtfjbjiklohjodaaGreatDoor.Z
namespace Go.Proofs.YtfjbjiklohjodaaGreatDoor.fnPutHeld
open Go.ChangeShapes Go.WideShapes Go.ChangeAt Go.RowKit Go.Proofs.YtfjbjiklohjodaaGreatDoorW.PrintWords
open Go.ChangeMaps (open_string shut_string)
set_option linter.unusedVariables false
theorem own : ownKnob Tryz.prog.godebug = none := by kernel_rfl
theorem laidOut : laidOutB Tryz.prog = true := by kernel_rfl
set_option maxRecDepth 100000 in
theorem lifted (os : Os) (started : os.Started) (H : Type) (enc : TypeId × Value → H) :
    ReturnsInHanded {} Tryz.checked os 9 .any (fun w args => (Rows.fnPutHeldSpec.pre enc Tryz.prog Tryz.f9 Rows.fnPutHeldRow.domain false w args ∧ laidMetH Tryz.prog Z.laidL w) ∧ sizedMet enc Tryz.prog Tryz.f9 (OpenSpec.ofChange Rows.fnPutHeldSpec) false w args)
      (Rows.fnPutHeldSpec.post enc Tryz.prog Tryz.f9 false true false false) := by
  refine Z.wrap_laid (C := Tryz.checked) (X := fun w _ => laidMetH Tryz.prog Z.laidL w) (fun _ _ _ hh h => h.of_heap hh) own started (by kernel_rfl) Tryz.func9
    (ChangeSpec.witness_shaped (enc := enc) (C := Tryz.checked) (os := os) (X := fun w _ => laidMetH Tryz.prog Z.laidL w) false (World.laidAll Tryz.prog os Z.laidL) #[.slice none 0 0] 8 (World.laidAll_os _ _ _)
      (World.shaped_of_ZipB (by kernel_rfl) (by kernel_rfl)) (by kernel_rfl) (by kernel_rfl) (by kernel_rfl) (Z.laid_met os _)) ?_
  intro W base args ds gs before hval0 hW hL hsh
  have hvars := Z.vars_of hL hsh
  have hval : ∀ (j : Nat) t v, Tryz.f9.params[j]? = some t → args[j]? = some v → Value.okWide Tryz.prog W .any base t v := hval0
  have hW' := hW
  obtain ⟨p, q, hA0, hV, rfl, hfz, hnd⟩ := hW
  have hA : DataW.TrodAll enc Tryz.prog W 0 (fun _ => true) true Tryz.f9.params.toList args.toList ds p := hA0
  rw [Tryz.params9] at hA hval
  obtain ⟨v0, vs0, d0, ds0, p0, q0, hargs, rfl, rfl, h0, r0⟩ := trodAll_cons hA
  obtain ⟨rfl, rfl, rfl⟩ := trodAll_nil r0
  obtain rfl : args = #[v0] := by cases args; simp_all
  obtain ⟨rfl, rfl⟩ := trodVars_none hV
  obtain ⟨a0, len0, cap0, rfl⟩ := okWide_slice Tryz.underlying22 (hval 0 22 v0 rfl rfl)
  have k0 := h0
  have lt0 : ∀ x ∈ p0, x.block < W.heap.size := by obtain ⟨m, hm⟩ := k0; exact DataW.trod_lt m _ _ _ hm
  obtain ⟨fuel0, hf0⟩ := h0
  obtain ⟨xs0, ⟨A0, c0, hcs0, hl0, hC0⟩, hg0⟩ := Z.openBytes.2 _ _ _ _ _ _ _ _ _ hf0
  simp [Value.cells] at hcs0
  obtain ⟨rfl, rfl, rfl⟩ := hcs0
  clear hA0 hval0
  refine (Z.law_FnPutHeld a0 xs0.length cap0 xs0 W hC0 hl0 (Z.bytes_le hg0) hvars).mono ?_
  rintro e W' ⟨rfl, bel⟩
  exact ⟨_, rfl, _, _, _, [], _, [], hW', trodAll_mk1 (shut_bool Tryz.underlying4 _), (trodAll_cons_mk (Below.trod laidOut (by kernel_rfl) (of_decide_eq_true (by kernel_rfl)) k0 bel lt0) trodAll_mk0), rfl, bel.frame _, fun h => by cases h⟩
theorem over : Rows.fnPutHeldRow.holds Tryz.pinned (OpenSpec.ofChange Rows.fnPutHeldSpec) :=
  OpenClaim.holds_of_wide 9 Tryz.f9 rfl rfl rfl rfl rfl rfl rfl ⟨rfl, rfl, rfl, rfl, rfl⟩ rfl rfl rfl rfl rfl (by kernel_rfl) Tryz.func9 jf
    (of_decide_eq_true (by kernel_rfl)) (by unfold Func.isWrapper; first | (rw [if_pos (by decide +kernel)]; kernel_rfl) | (rw [if_neg (by decide +kernel)]; exact ⟨rfl, rfl⟩))
    (fun os started H enc _ => lifted os started H enc)
end Go.Proofs.YtfjbjiklohjodaaGreatDoor.fnPutHeld
namespace Go.Proofs.YtfjbjiklohjodaaGreatDoor
theorem fnPutHeld_card : Rows.FnPutHeldCardSaid :=
  Claim7.holds_tied_plain_at .later [] Rows.fnPutHeldCard.laidKinds true Rows.fnPutHeldCard.stood.harness true
    fnPutHeld.over (fun _ h => by cases h) (by kernel_rfl) (fun _ h => by cases h) fnPutHeld_row_tie rfl ⟨rfl, rfl⟩ (by kernel_rfl) rfl
    (fun f fn hf hfn => by
      obtain rfl : f = 9 := Option.some.inj ((show Tryz.prog.funcNamed Rows.fnPutHeldRow.func = some 9 by kernel_rfl).symm.trans hf) |>.symm
      obtain rfl : fn = Tryz.f9 := (Option.some.inj (Tryz.func9.symm.trans hfn)).symm
      exact ⟨by kernel_rfl, fun j t ht => by
        rw [Tryz.params9] at ht
        have hm : t ∈ [22] := by simpa using Array.mem_of_getElem? ht
        have hall : ([22].all fun u => !Tryz.prog.wantsStandIn u) = true := by kernel_rfl
        exact (show Tryz.prog.wantsStandIn t = false by simpa using List.all_eq_true.1 hall t hm)⟩)
    (by kernel_rfl)
#print axioms fnPutHeld_card
end Go.Proofs.YtfjbjiklohjodaaGreatDoor
