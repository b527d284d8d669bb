/- Streams, plainly: what a text put to a stream makes of it. The reference's l3Out once more: where there was no room the row handed back is the row handed in. The reference's l3Out plainly; its l3PieceOut: a contract of mine in the print's own form. Plain laws of the printed functions: the reference's text out; what the laws of texts draw. Contracts of mine in the print's own form: whether a row of ends holds a door's; a conversation made. Plain laws of the printed functions: conversations made, of both. Words for steps in a region that draws, with the slot told. Rows of the call's own, and rows that begin inside their block, under one word. Written by rq.py out of a walk: the same, over a row that may begin inside its block. Written by rq.py out of a walk: the same, over a row that may begin inside its block. Written by rq.py out of a walk: the same, over a row that may begin inside its block. turned in place by rq.py: rows that may begin inside their block Contracts of mine in the print's own form: whether a stream's parts are those of its text. -/
import Derived.Test.YtfjbjiklohjodaaGreatDoorBp3
namespace Go.Proofs.YtfjbjiklohjodaaGreatDoor.Q
open Go.RowKit Go.Proofs.YtfjbjiklohjodaaGreatDoorW.PrintWords Go.Proofs.YtfjbjiklohjodaaGreatDoor.Z
set_option linter.unusedVariables false
set_option linter.unusedSimpArgs false
structure Sp where
  size : Int
  text : List UInt8
def fit : List Sp → List Tok → Prop
  | [], [] => True
  | p :: ps, t :: T => (p.size = ((tx t).length : Int) ∧ 1 ≤ p.text.length ∧ p.text.length ≤ 6 ∧ textOk p.text = true) ∧ fit ps T
  | _, _ => False
theorem fit_len : ∀ {ps : List Sp} {T : List Tok}, fit ps T → ps.length = T.length
  | [], [], _ => rfl
  | p :: ps, t :: T, h => by rw [List.length_cons, List.length_cons, fit_len h.2]
  | [], _ :: _, h => h.elim
  | _ :: _, [], h => h.elim
theorem fit_append : ∀ {ps qs : List Sp} {T U : List Tok}, fit ps T → fit qs U → fit (ps ++ qs) (T ++ U)
  | [], _, [], _, _, h => h
  | p :: ps, _, t :: T, _, h, h2 => ⟨h.1, fit_append h.2 h2⟩
  | [], _, _ :: _, _, h, _ => h.elim
  | _ :: _, _, [], _, h, _ => h.elim
def made : List Tok → List Tok → List Sp
  | t :: T, u :: U => ⟨((tx t).length : Int), tx u⟩ :: made T U
  | _, _ => []
theorem textOk_short {l : List UInt8} (h : l.all okByte = true) (hl : l.length ≤ 6) : textOk l = true := textOk_iff.2 ⟨h, by omega⟩
theorem fit_made {T U : List Tok} (h : Like T U) (h2 : (flat T).all okByte = true) : fit (made T U) T := by
  induction h with
  | nil => trivial
  | b c _ ih =>
    rw [flat_cons, List.all_append, Bool.and_eq_true] at h2
    exact ⟨⟨rfl, Nat.le_refl 1, (show 1 ≤ 6 by decide), textOk_short h2.1 (show 1 ≤ 6 by decide)⟩, ih h2.2⟩
  | @n d e T U ha _ ih =>
    rw [flat_cons, List.all_append, Bool.and_eq_true] at h2
    have h6 := name_len6 e (anyB_mem ha)
    exact ⟨⟨rfl, by show 1 ≤ (nameOf e).length; simp [nameOf], h6, textOk_short (name_ok e (anyB_mem ha)) h6⟩, ih h2.2⟩
def goTok (out : Bool) (m : List Pr) (T : List Tok) : List Pr × List Tok := if out then outToks m T else (m, T.map (inTok m))
theorem outToks_len : ∀ (T : List Tok) (m : List Pr), (outToks m T).2.length = T.length
  | [], _ => rfl
  | t :: T, m => by
    show ((outToks (outTok m t).1 T).2).length + 1 = T.length + 1
    rw [outToks_len T]
theorem goTok_len (out : Bool) (m : List Pr) (T : List Tok) : (goTok out m T).2.length = T.length := by
  unfold goTok
  cases out
  · simp
  · simp [outToks_len]
theorem goTok_like {m : List Pr} (hm : mapOkB m = true) {T : List Tok} (g : good T) (out : Bool) : Like T (goTok out m T).2 := by
  unfold goTok
  cases out
  · exact like_in hm g
  · exact like_out hm g
theorem goTok_ext {m : List Pr} (hm : mapOkB m = true) (T : List Tok) (out : Bool) : Ext m (goTok out m T).1 := by
  unfold goTok
  cases out
  · exact Ext.refl hm
  · exact outToks_ok T hm
def stOk (l : List UInt8) (ps : List Sp) : Prop := textOk l = true ∧ fit ps (toks (body l))
def putS (m : List Pr) (l : List UInt8) (ps : List Sp) (a : Int) (x : List UInt8) (out : Bool) : List Pr × List UInt8 × List Sp × Bool :=
  if a > (l.length : Int) ∨ a + (x.length : Int) > 40 then (m, l, ps, false)
  else if a + (x.length : Int) ≤ (l.length : Int) then (m, l, ps, true)
  else ((goTok out m ((toks (body (l ++ x.drop (l.length - a.toNat)))).drop ps.length)).1, l ++ x.drop (l.length - a.toNat),
    ps ++ made ((toks (body (l ++ x.drop (l.length - a.toNat)))).drop ps.length) (goTok out m ((toks (body (l ++ x.drop (l.length - a.toNat)))).drop ps.length)).2, true)
theorem putS_no {m : List Pr} {l : List UInt8} {ps : List Sp} {a : Int} {x : List UInt8} {out : Bool} (h : a > (l.length : Int) ∨ a + (x.length : Int) > 40) : putS m l ps a x out = (m, l, ps, false) := by
  unfold putS; rw [if_pos h]
theorem putS_old {m : List Pr} {l : List UInt8} {ps : List Sp} {a : Int} {x : List UInt8} {out : Bool} (h1 : a ≤ (l.length : Int)) (h2 : a + (x.length : Int) ≤ 40) (h3 : a + (x.length : Int) ≤ (l.length : Int)) : putS m l ps a x out = (m, l, ps, true) := by
  unfold putS; rw [if_neg (by omega), if_pos h3]
theorem putS_new {m : List Pr} {l : List UInt8} {ps : List Sp} {a : Int} {x : List UInt8} {out : Bool} (h1 : a ≤ (l.length : Int)) (h2 : a + (x.length : Int) ≤ 40) (h3 : ¬ a + (x.length : Int) ≤ (l.length : Int)) {B : List Tok} (hB : toks (body (l ++ x.drop (l.length - a.toNat))) = toks (body l) ++ B) (hf : fit ps (toks (body l))) :
    putS m l ps a x out = ((goTok out m B).1, l ++ x.drop (l.length - a.toNat), ps ++ made B (goTok out m B).2, true) := by
  have hd : (toks (body (l ++ x.drop (l.length - a.toNat)))).drop ps.length = B := by rw [hB, fit_len hf, List.drop_left]
  unfold putS; rw [if_neg (by omega), if_neg h3, hd]
theorem all_drop {x : List UInt8} (h : x.all okByte = true) (n : Nat) : (x.drop n).all okByte = true := by
  rw [List.all_eq_true] at h ⊢
  exact fun c hc => h c (List.mem_of_mem_drop hc)
theorem new_len {l x : List UInt8} {a : Int} (h0 : 0 ≤ a) (h1 : a ≤ (l.length : Int)) (h3 : ¬ a + (x.length : Int) ≤ (l.length : Int)) : ((l ++ x.drop (l.length - a.toNat)).length : Int) = a + (x.length : Int) := by
  rw [List.length_append, List.length_drop]
  omega
theorem putS_ok {m : List Pr} {l : List UInt8} {ps : List Sp} {a : Int} {x : List UInt8} {out : Bool} (hm : mapOkB m = true) (hs : stOk l ps) (hx : textOk x = true) (h0 : 0 ≤ a) {m' : List Pr} {l' : List UInt8} {ps' : List Sp} {ok : Bool} (h : putS m l ps a x out = (m', l', ps', ok)) :
    Ext m m' ∧ stOk l' ps' ∧ (∃ r, l' = l ++ r) ∧ (∃ qs, ps' = ps ++ qs) ∧ (ok = true → (l'.length : Int) = max (l.length : Int) (a + (x.length : Int)) ∧ a ≤ (l.length : Int) ∧ a + (x.length : Int) ≤ 40) ∧ (ok = false → m' = m ∧ l' = l ∧ ps' = ps ∧ (a > (l.length : Int) ∨ a + (x.length : Int) > 40)) ∧ (out = false → m' = m) := by
  by_cases c1 : a > (l.length : Int) ∨ a + (x.length : Int) > 40
  · rw [putS_no c1] at h
    simp only [Prod.mk.injEq] at h
    obtain ⟨rfl, rfl, rfl, rfl⟩ := h
    exact ⟨Ext.refl hm, hs, ⟨[], by simp⟩, ⟨[], by simp⟩, (fun h => by cases h), fun _ => ⟨rfl, rfl, rfl, c1⟩, fun _ => rfl⟩
  · by_cases c2 : a + (x.length : Int) ≤ (l.length : Int)
    · rw [putS_old (by omega) (by omega) c2] at h
      simp only [Prod.mk.injEq] at h
      obtain ⟨rfl, rfl, rfl, rfl⟩ := h
      exact ⟨Ext.refl hm, hs, ⟨[], by simp⟩, ⟨[], by simp⟩, fun _ => ⟨by omega, by omega, by omega⟩, (fun h => by cases h), fun _ => rfl⟩
    · obtain ⟨B, hB⟩ := toks_ext l (x.drop (l.length - a.toNat))
      rw [putS_new (by omega) (by omega) c2 hB hs.2] at h
      simp only [Prod.mk.injEq] at h
      obtain ⟨rfl, rfl, rfl, rfl⟩ := h
      have hlen := new_len (l := l) (x := x) h0 (by omega) c2
      have hok : textOk (l ++ x.drop (l.length - a.toNat)) = true := by
        rw [textOk_iff, List.all_append, (textOk_iff.1 hs.1).1, all_drop (textOk_iff.1 hx).1]
        exact ⟨rfl, by omega⟩
      have g : good (toks (body l) ++ B) := by rw [← hB]; exact good_toks _
      have hall : (flat B).all okByte = true := by
        have h9 := body_okAll hok
        rw [hB, flat_append, List.all_append, Bool.and_eq_true] at h9
        exact h9.2
      refine ⟨goTok_ext hm B out, ⟨hok, ?_⟩, ⟨_, rfl⟩, ⟨_, rfl⟩, fun _ => ⟨by omega, by omega, by omega⟩, (fun h => by cases h), (fun h => by rw [h]; rfl)⟩
      rw [hB]
      exact fit_append hs.2 (fit_made (goTok_like hm (good_right g) out) hall)
def outS2 (ps : List Sp) : List UInt8 := (ps.map (·.text)).flatten
theorem outS2_made : ∀ {T U : List Tok}, T.length = U.length → outS2 (made T U) = flat U
  | [], [], _ => rfl
  | t :: T, u :: U, h => by
    have := outS2_made (T := T) (U := U) (by simpa using h)
    show tx u ++ outS2 (made T U) = _
    rw [this, flat_cons]
  | [], _ :: _, h => by simp at h
  | _ :: _, [], h => by simp at h
theorem putS_text {m : List Pr} {x : List UInt8} {out : Bool} (hm : mapOkB m = true) (hx : textOk x = true) {m' : List Pr} {l' : List UInt8} {ps' : List Sp} {ok : Bool} (h : putS m [] [] 0 x out = (m', l', ps', ok)) :
    ok = true ∧ (out = false → outS2 ps' = mapIn m x ∧ m' = m) ∧ (out = true → mapOutT m x = (m', outS2 ps')) := by
  have hl := textOk_len hx
  by_cases c : x = []
  · subst c
    rw [putS_old (by simp) (by simp) (by simp)] at h
    simp only [Prod.mk.injEq] at h
    obtain ⟨rfl, rfl, rfl, rfl⟩ := h
    refine ⟨rfl, fun _ => ⟨?_, rfl⟩, fun _ => ?_⟩
    · rw [mapIn_ok hm hx]; rfl
    · rw [mapOutT_ok hm hx]; rfl
  · have h1 : 0 < x.length := List.length_pos_iff.2 c
    have hB : toks (body ([] ++ x.drop (([] : List UInt8).length - (0 : Int).toNat))) = toks (body []) ++ toks (body x) := rfl
    rw [putS_new (ps := []) (by simp) (by omega) (by simp; omega) hB (show fit [] (toks (body [])) from trivial)] at h
    simp only [Prod.mk.injEq] at h
    obtain ⟨rfl, rfl, rfl, rfl⟩ := h
    refine ⟨rfl, fun ho => ?_, fun ho => ?_⟩
    · subst ho
      refine ⟨?_, rfl⟩
      rw [List.nil_append, outS2_made (goTok_len false m _).symm, mapIn_ok hm hx]
      rfl
    · subst ho
      rw [List.nil_append, outS2_made (goTok_len true m _).symm, mapOutT_ok hm hx]
      rfl
end Go.Proofs.YtfjbjiklohjodaaGreatDoor.Q
namespace Go.Proofs.YtfjbjiklohjodaaGreatDoor.Q
open Go.RowKit Go.Proofs.YtfjbjiklohjodaaGreatDoorW.PrintWords Go.Proofs.YtfjbjiklohjodaaGreatDoorW.PrintLast Go.Proofs.YtfjbjiklohjodaaGreatDoorW.PrintMore
attribute [local go_sem] max2_int min2_int max_two min_two max_three min_three max_four min_four
set_option linter.unusedVariables false
set_option linter.unusedSimpArgs false
noncomputable section
attribute [local go_sem high] eqA62
def spec_l3Out.l0 : Nat → List (S111) → Int → Int → Int → Option ((List (S111)) × Int × Bool)
 | 0, _, _, _, _ => none
 | k + 1, x0, x7, x102000, x102001 => if x7 < (x0.length : Int) then (if 0 ≤ x7 then (if (((rd_T111 x0 x7).f1.f0) == x102000 && (((rd_T111 x0 x7).f1.f1) == x102001)) = true then (some (x0, (rd_T111 x0 x7).f0, true)) else (spec_l3Out.l0 k x0 (wrap64 (x7 + 1)) x102000 x102001)) else (none)) else (if (x0.length : Int) > 7 then (some (x0, 0, false)) else (if x0.length < 5864062014805 then (some ((x0 ++ [(⟨wrap64 (10 + (x0.length : Int)), (⟨x102000, x102001⟩ : S62)⟩ : S111)]), wrap64 (10 + (x0.length : Int)), true)) else (none)))
def spec_l3Out.f (k : Nat) (l0 : List (S111)) (a1_0 : Int) (a1_1 : Int) : Option ((List (S111)) × Int × Bool) := spec_l3Out.l0 k l0 0 a1_0 a1_1
end
end Go.Proofs.YtfjbjiklohjodaaGreatDoor.Q
namespace Go.Proofs.YtfjbjiklohjodaaGreatDoor.Q
open Go.RowKit Go.Proofs.YtfjbjiklohjodaaGreatDoorW.PrintWords Go.Proofs.YtfjbjiklohjodaaGreatDoorW.PrintLast Go.Proofs.YtfjbjiklohjodaaGreatDoorW.PrintMore
attribute [local go_sem] max2_int min2_int max_two min_two max_three min_three max_four min_four
set_option linter.unusedVariables false
set_option linter.unusedSimpArgs false
noncomputable section
attribute [local go_sem high] eqA62
set_option maxHeartbeats 8000000 in
set_option maxRecDepth 100000 in
theorem spec_l3Out.calls2 (k : Nat) (P0_ : Nat → Prop) (u9000_ : Value) (l0 : List (S111)) (a1_0 : Int) (a1_1 : Int) (r1 : List (S111)) (r2 : Int) (r3 : Bool) (w0 w : World) (hB : Below w0.heap.size w0 w) (ho0 : Kd.R k111 111 w w0.heap.size P0_ u9000_ l0) (h : spec_l3Out.f k l0 a1_0 a1_1 = some (r1, r2, r3)) :
  Calls Tryz.prog 164 #[u9000_, .agg #[.int .i64 a1_0, .int .i64 a1_1]] w fun e w' => ∃ v0_ : Value, e = .returned (.tuple #[v0_, .int .i64 r2, .bool r3]) ∧ Kd.R k111 111 w' w0.heap.size (fun k_ => (P0_ k_ ∨ w.heap.size ≤ k_)) v0_ r1 ∧ Below w0.heap.size w0 w' ∧ Kept w w' (fun k_ => P0_ k_) ∧ (r3 = false → v0_ = u9000_) := by
 have hu62 := Tryz.underlying62
 have hu111 := Tryz.underlying111
 have HO0 := Aside0.mk (show Kd.R k111 111 w w0.heap.size (fun k_ => (P0_ k_ ∨ w.heap.size ≤ k_)) u9000_ l0 from Kd.R_mono ho0 (fun k_ hk => (.inl hk)))
 have HK := Aside0.mk (Kept.refl w (fun k_ => P0_ k_))
 have HW0 := Aside0.mk hB.size
 have HB := Aside0.mk hB
 clear hB
 have H : (spec_l3Out.l0 k l0 0 a1_0 a1_1) = some (r1, r2, r3) := h
 clear h
 have H' := Aside0.mk H
 clear H
 go_enter Tryz.func164, Tryz.ntmps164
 go_wp2_with (first | ((with_reducible refine gate_dst (N := 3) rfl ?_); refine zx_ (N := 3) #[.int .i64 a1_0, .int .i64 a1_1] 62 ?_; intro gb101 hg w3 hbox hb; replace HO0 := A_ (Kd.R_below (zR_ HO0.out) hb); have BK101 := A_ hbox; have GW101 := A_ ((d43_ : w.heap.size ≤ gb101)); replace HK := A_ (Kept.below (S := (fun k_ => P0_ k_)) d44_ hb); have GE101 := A_ ((d0_ : w0.heap.size ≤ gb101)); replace HB := A_ (below_step (zB_ HB.out) hb); clear hb hbox hg))
 repeat (go_quiet (first | ((with_reducible refine gate_dst (N := 3) rfl ?_); refine zx_ (N := 3) #[.int .i64 a1_0, .int .i64 a1_1] 62 ?_; intro gb101 hg w3 hbox hb; replace HO0 := A_ (Kd.R_below (zR_ HO0.out) hb); have BK101 := A_ hbox; have GW101 := A_ ((d43_ : w.heap.size ≤ gb101)); replace HK := A_ (Kept.below (S := (fun k_ => P0_ k_)) d44_ hb); have GE101 := A_ ((d0_ : w0.heap.size ≤ gb101)); replace HB := A_ (below_step (zB_ HB.out) hb); clear hb hbox hg)); try go_wp2_with (first | ((with_reducible refine gate_dst (N := 3) rfl ?_); refine zx_ (N := 3) #[.int .i64 a1_0, .int .i64 a1_1] 62 ?_; intro gb101 hg w3 hbox hb; replace HO0 := A_ (Kd.R_below (zR_ HO0.out) hb); have BK101 := A_ hbox; have GW101 := A_ ((d43_ : w.heap.size ≤ gb101)); replace HK := A_ (Kept.below (S := (fun k_ => P0_ k_)) d44_ hb); have GE101 := A_ ((d0_ : w0.heap.size ≤ gb101)); replace HB := A_ (below_step (zB_ HB.out) hb); clear hb hbox hg)))
 go_loopg [7] k (fun kq v7 w' => ∃ (x7_1 : Int), v7 = .int .i64 x7_1 ∧ Aside0 (spec_l3Out.l0 kq l0 x7_1 a1_0 a1_1 = some (r1, r2, r3)) ∧ Aside0 (kq ≤ k) ∧ Aside0 (Kd.R k111 111 w' w0.heap.size (fun k_ => (P0_ k_ ∨ w.heap.size ≤ k_)) u9000_ l0) ∧ Aside0 (w'.heap[gb101]? = some (.cells #[.int .i64 a1_0, .int .i64 a1_1] 62 (0, 0))) ∧ Aside0 (Kept w w' (fun k_ => P0_ k_)) ∧ Aside0 (Below w0.heap.size w0 w'))
 case atStart => exact ⟨(0), zs_, H', ⟨Nat.le_refl _⟩, ⟨d45_⟩, ⟨d3_⟩, ⟨d46_⟩, ⟨d1_⟩⟩
 case round =>
  clear H'
  try clear c1
  try clear p2
  obtain ⟨x7_1, rfl, HA, HK1, HO_0, BK101, HK, HB⟩ := hrel
  cases gk with
  | zero => exact absurd HA.out (by simp [spec_l3Out.l0])
  | succ k1 =>
   have H := HA.out; clear HA; simp only [spec_l3Out.l0] at H
   by_cases c4 : x7_1 < (l0.length : Int)
   ·rw [if_pos c4] at H; have c4b0 : decide (x7_1 < (l0.length : Int)) = true := decide_eq_true c4; clear c4
    by_cases c5 : 0 ≤ x7_1
    ·rw [if_pos c5] at H; have c5b0 : decide (0 ≤ x7_1) = true := decide_eq_true c5; clear c5
     by_cases c6 : (((rd_T111 l0 x7_1).f1.f0) == a1_0 && (((rd_T111 l0 x7_1).f1.f1) == a1_1)) = true
     ·rw [if_pos c6] at H; have c6b0 : (((rd_T111 l0 x7_1).f1.f0) == a1_0 && (((rd_T111 l0 x7_1).f1.f1) == a1_1)) = true := c6; (try (have c6b1 : decide (((rd_T111 l0 x7_1).f1.f0) = a1_0 && (((rd_T111 l0 x7_1).f1.f1) == a1_1)) = true := by simpa using c6)); (try (have c6b2 : (((rd_T111 l0 x7_1).f1.f0) == a1_0 && (((rd_T111 l0 x7_1).f1.f1) == a1_1)) = true := by simpa using c6)); clear c6; simp only [Option.some.injEq, Prod.mk.injEq] at H; obtain ⟨rfl, rfl, rfl⟩ := H; obtain ⟨Ao7, co7, eo7⟩ := Kd.R_slice HO_0.out; subst eo7; have p102 : 0 ≤ (x7_1 : Int) := of_decide_eq_true d11_; have q102 : x7_1 < (l0.length : Int) := of_decide_eq_true d11_; obtain ⟨ad102, e102, hx102_0, hx102_1, hx102_2⟩ := at_T111 (Kd.R_reads' HO_0.out).2.2 x7_1 p102 q102
      cases e102
      replace p102 := eq_true p102; replace q102 := eq_true q102; have hcz8_0 : wr.cell? ⟨gb101, 0, none⟩ = some (.int .i64 a1_0) := (blk_cell BK101.out 0).trans rfl; have hcz8_1 : wr.cell? ⟨gb101, 1, none⟩ = some (.int .i64 a1_1) := (blk_cell BK101.out 1).trans rfl; have hfz8_0 := blk_frozen BK101.out 0; have hfz8_1 := blk_frozen BK101.out 1; have p103 : 0 ≤ (x7_1 : Int) := of_decide_eq_true d11_; have q103 : x7_1 < (l0.length : Int) := of_decide_eq_true d11_; obtain ⟨ad103, e103, hx103_0, hx103_1, hx103_2⟩ := at_T111 (Kd.R_reads' HO_0.out).2.2 x7_1 p103 q103; obtain rfl : ad102 = ad103 := (by injection e103); replace p103 := eq_true p103; replace q103 := eq_true q103
      go_wp2
      repeat (go_quiet (fail); try go_wp2)
      go_ret3
      exact ⟨_, d4_, d47_, d1_, d46_, d54_⟩
     rw [if_neg c6] at H
     have c6b0 : (((rd_T111 l0 x7_1).f1.f0) == a1_0 && (((rd_T111 l0 x7_1).f1.f1) == a1_1)) = false := by simpa using c6
     (try (have c6b1 : decide (((rd_T111 l0 x7_1).f1.f0) = a1_0 && (((rd_T111 l0 x7_1).f1.f1) == a1_1)) = false := by simpa using c6)); (try (have c6b2 : (((rd_T111 l0 x7_1).f1.f0) == a1_0 && (((rd_T111 l0 x7_1).f1.f1) == a1_1)) = false := by simpa using c6)); (try (have c6b3 : ¬ (((rd_T111 l0 x7_1).f1.f0) = a1_0 && (((rd_T111 l0 x7_1).f1.f1) == a1_1)) := by simpa using c6)); clear c6; have H' := Aside0.mk H; clear H; obtain ⟨Ao9, co9, eo9⟩ := Kd.R_slice HO_0.out; subst eo9; have p102 : 0 ≤ (x7_1 : Int) := of_decide_eq_true d11_; have q102 : x7_1 < (l0.length : Int) := of_decide_eq_true d11_; obtain ⟨ad102, e102, hx102_0, hx102_1, hx102_2⟩ := at_T111 (Kd.R_reads' HO_0.out).2.2 x7_1 p102 q102
     cases e102
     replace p102 := eq_true p102; replace q102 := eq_true q102; have hcz10_0 : wr.cell? ⟨gb101, 0, none⟩ = some (.int .i64 a1_0) := (blk_cell BK101.out 0).trans rfl; have hcz10_1 : wr.cell? ⟨gb101, 1, none⟩ = some (.int .i64 a1_1) := (blk_cell BK101.out 1).trans rfl; have hfz10_0 := blk_frozen BK101.out 0; have hfz10_1 := blk_frozen BK101.out 1
     go_wp2
     repeat (go_quiet (fail); try go_wp2)
     go_roundg k1
     case measure => have := HK1.out; omega
     case rel => exact ⟨(wrap64 (x7_1 + 1)), zs_, H', ⟨d23_⟩, ⟨d47_⟩, ⟨d3_⟩, ⟨d46_⟩, ⟨d1_⟩⟩
    rw [if_neg c5] at H; exact absurd H (by simp)
   rw [if_neg c4] at H; have c4b0 : decide (x7_1 < (l0.length : Int)) = false := decide_eq_false c4; clear c4
   by_cases c11 : (l0.length : Int) > 7
   ·rw [if_pos c11] at H; have c11b0 : decide (7 < (l0.length : Int)) = true := decide_eq_true c11; have c11b1 : decide (7 < l0.length) = true := decide_eq_true (by omega); clear c11; simp only [Option.some.injEq, Prod.mk.injEq] at H; obtain ⟨rfl, rfl, rfl⟩ := H; obtain ⟨Ao12, co12, eo12⟩ := Kd.R_slice HO_0.out; subst eo12
    go_wp2
    repeat (go_quiet (fail); try go_wp2)
    go_ret3
    exact ⟨_, d4_, d47_, d1_, d46_, d54_⟩
   rw [if_neg c11] at H; have c11b0 : decide (7 < (l0.length : Int)) = false := decide_eq_false c11; have c11b1 : decide (7 < l0.length) = false := decide_eq_false (by omega); clear c11
   by_cases c13 : l0.length < 5864062014805
   ·rw [if_pos c13] at H; have LMc13 := Aside0.mk c13; clear c13; obtain ⟨y104, hy104⟩ : ∃ y_ : List (S111), y_ = (l0 ++ [(⟨wrap64 (10 + (l0.length : Int)), (⟨a1_0, a1_1⟩ : S62)⟩ : S111)]) := ⟨_, rfl⟩
    replace H : (some (y104, wrap64 (10 + (l0.length : Int)), true)) = some (r1, r2, r3) := by first | (rw [hy104]; with_reducible exact H) | (have H2_ := (Option.bind_some _ _).symm.trans H; rw [hy104]; with_reducible exact H2_) | (have H2_ := (Option.bind_some _ _).symm.trans H; with_reducible exact H2_) | with_reducible exact H | (rw [hy104]; exact H) | exact H
    have Ny104 := Aside0.mk hy104; clear hy104; simp only [Option.some.injEq, Prod.mk.injEq] at H; obtain ⟨rfl, rfl, rfl⟩ := H; obtain ⟨Ao14, co14, eo14⟩ := Kd.R_slice HO_0.out; subst eo14; have hcz15_0 : wr.cell? ⟨gb101, 0, none⟩ = some (.int .i64 a1_0) := (blk_cell BK101.out 0).trans rfl; have hcz15_1 : wr.cell? ⟨gb101, 1, none⟩ = some (.int .i64 a1_1) := (blk_cell BK101.out 1).trans rfl; have hfz15_0 := blk_frozen BK101.out 0; have hfz15_1 := blk_frozen BK101.out 1
    go_wp2_with (first | ((with_reducible refine gate_builtin (b := .append) (xs := #[.tmp 35, .tmp 39]) rfl ?_); at_builtin; refine Kd.R_append k111 (w0 := w0) w0.heap.size rfl (.tmp 35) (.tmp 39) 23 111 (.agg #[(.int .i64 0), (.int .i64 0), (.int .i64 0)]) 24 rfl Tryz.underlying23 info111 rfl (by decide) (by omega) (.slice Ao14 l0.length co14) l0 (⟨wrap64 (10 + (l0.length : Int)), (⟨a1_0, a1_1⟩ : S62)⟩ : S111) [.int .i64 (wrap64 (10 + (l0.length : Int))), .int .i64 a1_0, .int .i64 a1_1] (fun k_ => (P0_ k_ ∨ w.heap.size ≤ k_)) (fun _ => False) rfl rfl ?aP (fun _ hk => hk.elim) ?aF ?aO ?aB ?aS ?aL ?_; (case aP => exact d48_); (case aB => exact d49_); (case aF => exact d50_); (case aO => exact (zR_ HO_0.out)); (case aS => exact d51_); (case aL => exact d52_); intro v105 w16 ho hb hg hat; rw [← Ny104.out] at ho; replace BK101 := A_ (blk_grown (g := gb101) (o := .cells #[.int .i64 a1_0, .int .i64 a1_1] 62 (0, 0)) (zb_ BK101.out) hg (Kd.R_ne HO_0.out BK101.out (by decide))); replace HB := A_ hb; replace HK := A_ (Kept.of_grown (S := (fun k_ => P0_ k_)) hg d46_ (fun k_ e_ => (HO_0.out.1 k_ e_))); have HO106 := A_ ho; clear HO_0; clear ho hb hg hat))
    repeat (go_quiet (first | ((with_reducible refine gate_builtin (b := .append) (xs := #[.tmp 35, .tmp 39]) rfl ?_); at_builtin; refine Kd.R_append k111 (w0 := w0) w0.heap.size rfl (.tmp 35) (.tmp 39) 23 111 (.agg #[(.int .i64 0), (.int .i64 0), (.int .i64 0)]) 24 rfl Tryz.underlying23 info111 rfl (by decide) (by omega) (.slice Ao14 l0.length co14) l0 (⟨wrap64 (10 + (l0.length : Int)), (⟨a1_0, a1_1⟩ : S62)⟩ : S111) [.int .i64 (wrap64 (10 + (l0.length : Int))), .int .i64 a1_0, .int .i64 a1_1] (fun k_ => (P0_ k_ ∨ w.heap.size ≤ k_)) (fun _ => False) rfl rfl ?aP (fun _ hk => hk.elim) ?aF ?aO ?aB ?aS ?aL ?_; (case aP => exact d48_); (case aB => exact d49_); (case aF => exact d50_); (case aO => exact (zR_ HO_0.out)); (case aS => exact d51_); (case aL => exact d52_); intro v105 w16 ho hb hg hat; rw [← Ny104.out] at ho; replace BK101 := A_ (blk_grown (g := gb101) (o := .cells #[.int .i64 a1_0, .int .i64 a1_1] 62 (0, 0)) (zb_ BK101.out) hg (Kd.R_ne HO_0.out BK101.out (by decide))); replace HB := A_ hb; replace HK := A_ (Kept.of_grown (S := (fun k_ => P0_ k_)) hg d46_ (fun k_ e_ => (HO_0.out.1 k_ e_))); have HO106 := A_ ho; clear HO_0; clear ho hb hg hat)); try go_wp2_with (first | ((with_reducible refine gate_builtin (b := .append) (xs := #[.tmp 35, .tmp 39]) rfl ?_); at_builtin; refine Kd.R_append k111 (w0 := w0) w0.heap.size rfl (.tmp 35) (.tmp 39) 23 111 (.agg #[(.int .i64 0), (.int .i64 0), (.int .i64 0)]) 24 rfl Tryz.underlying23 info111 rfl (by decide) (by omega) (.slice Ao14 l0.length co14) l0 (⟨wrap64 (10 + (l0.length : Int)), (⟨a1_0, a1_1⟩ : S62)⟩ : S111) [.int .i64 (wrap64 (10 + (l0.length : Int))), .int .i64 a1_0, .int .i64 a1_1] (fun k_ => (P0_ k_ ∨ w.heap.size ≤ k_)) (fun _ => False) rfl rfl ?aP (fun _ hk => hk.elim) ?aF ?aO ?aB ?aS ?aL ?_; (case aP => exact d48_); (case aB => exact d49_); (case aF => exact d50_); (case aO => exact (zR_ HO_0.out)); (case aS => exact d51_); (case aL => exact d52_); intro v105 w16 ho hb hg hat; rw [← Ny104.out] at ho; replace BK101 := A_ (blk_grown (g := gb101) (o := .cells #[.int .i64 a1_0, .int .i64 a1_1] 62 (0, 0)) (zb_ BK101.out) hg (Kd.R_ne HO_0.out BK101.out (by decide))); replace HB := A_ hb; replace HK := A_ (Kept.of_grown (S := (fun k_ => P0_ k_)) hg d46_ (fun k_ e_ => (HO_0.out.1 k_ e_))); have HO106 := A_ ho; clear HO_0; clear ho hb hg hat)))
    go_ret3
    exact ⟨_, d4_, d53_, d1_, d46_, d54_⟩
   rw [if_neg c13] at H; exact absurd H (by simp)
end
end Go.Proofs.YtfjbjiklohjodaaGreatDoor.Q
namespace Go.Proofs.YtfjbjiklohjodaaGreatDoor.Q
open Go.RowKit Go.Proofs.YtfjbjiklohjodaaGreatDoorW.PrintWords Go.Proofs.YtfjbjiklohjodaaGreatDoorW.PrintMore Go.Proofs.YtfjbjiklohjodaaGreatDoor.Z
set_option linter.unusedVariables false
set_option linter.unusedSimpArgs false
attribute [local go_sem ↓] Go.wp_at_zero Go.wp_at_succ
theorem w64f {x : Int} (h : -9223372036854775808 ≤ x ∧ x ≤ 9223372036854775807) : wrap64 x = x := by unfold wrap64; omega
theorem rd_prTo (m : List Pr) (i : Nat) (p : Pr) (h : m[i]? = some p) : rd_T111 (m.map prTo) (i : Int) = prTo p := by
  unfold rd_T111
  rw [Int.toNat_natCast, List.getD_eq_getElem?_getD, List.getElem?_map, h]
  rfl
theorem l3Out_at (m : List Pr) (hm : m.length ≤ 1099511627776) (e : En) (n : Nat) : ∀ (k i : Nat), m.length - i ≤ n → n < k → i ≤ m.length →
    spec_l3Out.l0 k (m.map prTo) i e.addr e.port = some (match outAt m e i with
      | some p => (m.map prTo, p.port, true)
      | none => if 7 < m.length then (m.map prTo, 0, false) else ((m ++ [(⟨10 + (m.length : Int), e⟩ : Pr)]).map prTo, 10 + (m.length : Int), true)) := by
  induction n with
  | zero =>
    intro k i hn hk hi
    obtain ⟨k, rfl⟩ : ∃ m, k = m + 1 := ⟨k - 1, by omega⟩
    simp only [spec_l3Out.l0, List.length_map]
    rw [if_neg (by omega), outAt_end m e i (by omega)]
    simp only
    by_cases h7 : 7 < m.length
    · rw [if_pos (by omega), if_pos h7]
    · rw [if_neg (by omega), if_neg h7, if_pos (by omega), w64f (by omega), List.map_append]
      rfl
  | succ n ih =>
    intro k i hn hk hi
    obtain ⟨k, rfl⟩ : ∃ m, k = m + 1 := ⟨k - 1, by omega⟩
    by_cases hlt : i < m.length
    · simp only [spec_l3Out.l0, List.length_map]
      rw [if_pos (by omega), if_pos (by omega)]
      obtain ⟨p, hp⟩ : ∃ p, m[i]? = some p := ⟨_, List.getElem?_eq_getElem hlt⟩
      have hpd : m.getD i zPr = p := by rw [List.getD_eq_getElem?_getD, hp]; rfl
      rw [rd_prTo m i p hp]
      by_cases he : p.inside = e
      · rw [if_pos (by show (p.inside.addr == e.addr && p.inside.port == e.port) = true; rw [he]; simp), outAt_hit hlt ⟨hpd⟩ he]
        rfl
      · rw [if_neg (by
          show ¬ (p.inside.addr == e.addr && p.inside.port == e.port) = true
          rw [Bool.and_eq_true, beq_iff_eq, beq_iff_eq]
          rintro ⟨h1, h2⟩
          apply he
          cases hx : p.inside
          cases e
          rw [hx] at h1 h2
          simp only at h1 h2
          rw [h1, h2]), w64f (by omega)]
        have := ih k (i + 1) (by omega) (by omega) (by omega)
        rw [show ((i + 1 : Nat) : Int) = (i : Int) + 1 from by omega] at this
        rw [this, outAt_miss hlt ⟨hpd⟩ he]
    · obtain rfl : i = m.length := by omega
      simp only [spec_l3Out.l0, List.length_map]
      rw [if_neg (by omega), outAt_end m e _ (Nat.le_refl _)]
      simp only
      by_cases h7 : 7 < m.length
      · rw [if_pos (by omega), if_pos h7]
      · rw [if_neg (by omega), if_neg h7, if_pos (by omega), w64f (by omega), List.map_append]
        rfl
theorem l3Out_to (k : Nat) (m : List Pr) (hm : m.length ≤ 1099511627776) (hk : m.length < k) (e : En) : spec_l3Out.f k (m.map prTo) e.addr e.port = some ((outS m e).1.map prTo, (outS m e).2.1, (outS m e).2.2) := by
  unfold spec_l3Out.f
  have := l3Out_at m hm e m.length k 0 (by omega) hk (Nat.zero_le _)
  rw [show ((0 : Nat) : Int) = 0 from rfl] at this
  rw [this, outS_of]
  cases outAt m e 0 with
  | some p => rfl
  | none => simp only; split <;> rfl
def pieceOut (m : List Pr) (named : Bool) (e : En) (t : List UInt8) : List Pr × List UInt8 := if named && insideB e then (if (outS m e).2.2 then ((outS m e).1, nameOf ⟨9, (outS m e).2.1⟩) else (m, t)) else (m, t)
def spec_l3PieceOut.f (l0 : List S111) (a1_0 : Int) (a1_1 : Bool) (a1_2 : Int) (a1_3 : Int) (a2 : ByteArray) : Option (List S111 × ByteArray) :=
  if l0.length ≤ 1099511627776 then some ((pieceOut (l0.map prOf) a1_1 ⟨a1_2, a1_3⟩ (bl a2)).1.map prTo, ⟨(pieceOut (l0.map prOf) a1_1 ⟨a1_2, a1_3⟩ (bl a2)).2.toArray⟩) else none
set_option maxHeartbeats 1000000 in
theorem spec_l3PieceOut.calls (P0_ : Nat → Prop) (u9000_ : Value) (l0 : List (S111)) (a1_0 : Int) (a1_1 : Bool) (a1_2 : Int) (a1_3 : Int) (a2 : ByteArray) (r1 : List (S111)) (r2 : ByteArray) (w0 w : World) (hB : Below w0.heap.size w0 w) (ho0 : Kd.R k111 111 w w0.heap.size P0_ u9000_ l0) (h : spec_l3PieceOut.f l0 a1_0 a1_1 a1_2 a1_3 a2 = some (r1, r2)) :
    Calls Tryz.prog 122 #[u9000_, .agg #[.int .i64 a1_0, .bool a1_1, .int .i64 a1_2, .int .i64 a1_3], .string a2] w fun e w' => ∃ v0_ : Value, e = .returned (.tuple #[v0_, .string r2]) ∧ Kd.R k111 111 w' w0.heap.size (fun k_ => (P0_ k_ ∨ w.heap.size ≤ k_)) v0_ r1 ∧ Below w0.heap.size w0 w' ∧ Kept w w' (fun k_ => P0_ k_) := by
  unfold spec_l3PieceOut.f at h
  split at h
  · rename_i hs
    have h2 := Option.some.inj h
    simp only [Prod.mk.injEq] at h2
    obtain ⟨h3, h4⟩ := h2
    have HO := Aside0.mk ho0
    have HB := Aside0.mk hB
    clear h ho0 hB
    have hin : (⟨a1_2, a1_3⟩ : En) = ⟨a1_2, a1_3⟩ := rfl
    obtain ⟨A, c, e9⟩ := Kd.R_slice HO.out
    subst e9
    have hstay : ∀ n : Bool, (n && insideB ⟨a1_2, a1_3⟩ && (outS (l0.map prOf) ⟨a1_2, a1_3⟩).2.2) = false → (pieceOut (l0.map prOf) n ⟨a1_2, a1_3⟩ (bl a2)).1.map prTo = l0 ∧ (⟨(pieceOut (l0.map prOf) n ⟨a1_2, a1_3⟩ (bl a2)).2.toArray⟩ : ByteArray) = a2 := by
      intro n hn
      unfold pieceOut
      cases hc : (n && insideB ⟨a1_2, a1_3⟩)
      · exact ⟨prs_to_of l0, rfl⟩
      · rw [hc, Bool.true_and] at hn
        rw [hn]
        exact ⟨prs_to_of l0, rfl⟩
    cases a1_1 with
    | false =>
      obtain ⟨e1, e2⟩ := hstay false rfl
      rw [e1] at h3
      rw [e2] at h4
      subst h3 h4
      clear hstay e1 e2
      go_enter Tryz.func122, Tryz.ntmps122
      go_wp2
      go_ret2
      exact ⟨_, rfl, Kd.R_alloc (Kd.R_mono HO.out (fun _ hk => .inl hk)) _, below_alloc HB.out _, (Kept.refl w _).alloc _⟩
    | true =>
      cases hi : insideB ⟨a1_2, a1_3⟩ with
      | false =>
        obtain ⟨e1, e2⟩ := hstay true (by rw [hi]; rfl)
        rw [e1] at h3
        rw [e2] at h4
        subst h3 h4
        have HI := Aside0.mk (show spec_EndInside.f a1_2 a1_3 = some false from congrArg some hi)
        clear hstay e1 e2 hi
        go_enter Tryz.func122, Tryz.ntmps122
        go_wp2_with (go_at_call 72; refine (spec_EndInside.calls a1_2 a1_3 false _ HI.out).mono ?_; rintro e w2 ⟨rfl, hb⟩; have HB2 := Aside0.mk hb; clear hb)
        go_ret2
        exact ⟨_, rfl, Kd.R_below (Kd.R_alloc (Kd.R_mono HO.out (fun _ hk => .inl hk)) _) HB2.out, below_step (below_alloc HB.out _) HB2.out, ((Kept.refl w _).alloc _).below HB2.out⟩
      | true =>
        have HI := Aside0.mk (show spec_EndInside.f a1_2 a1_3 = some true from congrArg some hi)
        have HL := Aside0.mk (l3Out_to (l0.length + 1) (l0.map prOf) (by rw [List.length_map]; exact hs) (by rw [List.length_map]; omega) ⟨a1_2, a1_3⟩)
        rw [prs_to_of] at HL
        obtain ⟨x1, x2, x3, hx⟩ : ∃ x1 x2 x3, outS (l0.map prOf) ⟨a1_2, a1_3⟩ = (x1, x2, x3) := ⟨_, _, _, rfl⟩
        rw [hx] at HL
        have hk2 : ∀ w2 : World, Below (w.alloc (.cells #[.int .i64 a1_0, .bool true, .int .i64 a1_2, .int .i64 a1_3] 116 (0, 0))).heap.size (w.alloc (.cells #[.int .i64 a1_0, .bool true, .int .i64 a1_2, .int .i64 a1_3] 116 (0, 0))) w2 → w.heap.size ≤ w2.heap.size ∧ Kept w w2 (fun k_ => P0_ k_) := fun w2 hb => ⟨(((Kept.refl w (fun k_ => P0_ k_)).alloc _).below hb).1, ((Kept.refl w _).alloc _).below hb⟩
        cases x3 with
        | false =>
          obtain ⟨e1, e2⟩ := hstay true (by rw [hx]; simp)
          rw [e1] at h3
          rw [e2] at h4
          have hx1 : x1.map prTo = l0 := by
            have h8 := congrArg (fun t : List Pr × Int × Bool => (t.2.2, t.1)) hx
            simp only [Prod.mk.injEq] at h8
            have h9 : (outS (l0.map prOf) ⟨a1_2, a1_3⟩).1 = l0.map prOf := by
              have h10 := h8.1
              rw [outS_of] at h10 ⊢
              cases hq : outAt (l0.map prOf) ⟨a1_2, a1_3⟩ 0 with
              | some p => rfl
              | none =>
                rw [hq] at h10
                simp only at h10 ⊢
                split at h10
                · rename_i h7; rw [if_pos h7]
                · cases h10
            rw [← h8.2, h9, prs_to_of]
          rw [hx1] at HL
          subst h3 h4
          clear hstay e1 e2 hi hx hx1
          go_enter Tryz.func122, Tryz.ntmps122
          go_wp2_with (first
            | (go_at_call 72; refine (spec_EndInside.calls a1_2 a1_3 true _ HI.out).mono ?_; rintro e w2 ⟨rfl, hb⟩; have BK := blk_below (g := w.heap.size) (o := .cells #[.int .i64 a1_0, .bool true, .int .i64 a1_2, .int .i64 a1_3] 116 (0, 0)) (heap_alloc_new w _) hb; have c2 : w2.cell? ⟨w.heap.size, 2, none⟩ = some (.int .i64 a1_2) := (blk_cell BK 2).trans rfl; have c3 : w2.cell? ⟨w.heap.size, 3, none⟩ = some (.int .i64 a1_3) := (blk_cell BK 3).trans rfl; have z2 := blk_frozen BK 2; have z3 := blk_frozen BK 3; have HB2 := Aside0.mk hb; clear hb BK)
            | (go_at_call 164; refine (spec_l3Out.calls2 (l0.length + 1) P0_ (.slice A l0.length c) l0 a1_2 a1_3 _ _ _ w0 _ ?hB ?hR HL.out).mono ?_; (case hB => exact below_step (below_alloc HB.out _) HB2.out); (case hR => exact Kd.R_below (Kd.R_alloc HO.out _) HB2.out); rintro e w3 ⟨v3, rfl, hR3, hB3, hK3, hv3⟩; have HR3 := Aside0.mk hR3; have HB3 := Aside0.mk hB3; have HK3 := Aside0.mk hK3; have HV3 := Aside0.mk (hv3 rfl); clear hR3 hB3 hK3 hv3))
          obtain ⟨hs2, hK2⟩ := hk2 _ HB2.out
          go_ret2
          exact ⟨_, rfl, by rw [← HV3.out]; exact Kd.R_mono HR3.out (fun k hk => hk.elim .inl (fun h9 => .inr (Nat.le_trans hs2 h9))), HB3.out, hK2.then_ HK3.out (fun _ hk => .inl hk)⟩
        | true =>
          have hm : pieceOut (l0.map prOf) true ⟨a1_2, a1_3⟩ (bl a2) = (x1, nameOf ⟨9, x2⟩) := by
            unfold pieceOut
            rw [hi, hx]
            rfl
          rw [hm] at h3 h4
          simp only at h3 h4
          subst h3
          have hl := endText_len ⟨9, x2⟩
          have HE := Aside0.mk (show spec_EndText.f 9 x2 = some ⟨(endText ⟨9, x2⟩).toArray⟩ from rfl)
          have H4 := Aside0.mk (show ((⟨#[64]⟩ : ByteArray) ++ ⟨(endText ⟨9, x2⟩).toArray⟩) ++ (⟨#[59]⟩ : ByteArray) = r2 by
            rw [← h4]
            apply ByteArray.ext
            simp [nameOf])
          have s1 : ((⟨#[64]⟩ : ByteArray) ++ ⟨(endText ⟨9, x2⟩).toArray⟩).size = 1 + (endText ⟨9, x2⟩).length := by rw [ByteArray.size_append]; rfl
          have s2 : (⟨(endText ⟨9, x2⟩).toArray⟩ : ByteArray).size = (endText ⟨9, x2⟩).length := rfl
          have t1 : ¬ (9223372036854775807 < 1 + (endText ⟨9, x2⟩).length) := by omega
          have t2 : ¬ (9223372036854775807 < 1 + (endText ⟨9, x2⟩).length + 1) := by omega
          clear hstay hi hx h4 hm hl
          go_enter Tryz.func122, Tryz.ntmps122
          go_wp2_with (first
            | (go_at_call 72; refine (spec_EndInside.calls a1_2 a1_3 true _ HI.out).mono ?_; rintro e w2 ⟨rfl, hb⟩; have BK := blk_below (g := w.heap.size) (o := .cells #[.int .i64 a1_0, .bool true, .int .i64 a1_2, .int .i64 a1_3] 116 (0, 0)) (heap_alloc_new w _) hb; have c2 : w2.cell? ⟨w.heap.size, 2, none⟩ = some (.int .i64 a1_2) := (blk_cell BK 2).trans rfl; have c3 : w2.cell? ⟨w.heap.size, 3, none⟩ = some (.int .i64 a1_3) := (blk_cell BK 3).trans rfl; have z2 := blk_frozen BK 2; have z3 := blk_frozen BK 3; have HB2 := Aside0.mk hb; clear hb BK)
            | (go_at_call 164; refine (spec_l3Out.calls2 (l0.length + 1) P0_ (.slice A l0.length c) l0 a1_2 a1_3 _ _ _ w0 _ ?hB ?hR HL.out).mono ?_; (case hB => exact below_step (below_alloc HB.out _) HB2.out); (case hR => exact Kd.R_below (Kd.R_alloc HO.out _) HB2.out); rintro e w3 ⟨v3, rfl, hR3, hB3, hK3, hv3⟩; have HR3 := Aside0.mk hR3; have HB3 := Aside0.mk hB3; have HK3 := Aside0.mk hK3; skip; clear hR3 hB3 hK3 hv3)
            | (go_at_call 118; refine (spec_EndText.calls 9 x2 _ _ HE.out).mono ?_; rintro e w4 ⟨rfl, hb⟩; have HB4 := Aside0.mk hb; clear hb))
          obtain ⟨hs2, hK2⟩ := hk2 _ HB2.out
          go_ret2
          refine ⟨_, ?_, Kd.R_below (Kd.R_mono HR3.out (fun k hk => hk.elim .inl (fun h9 => .inr (Nat.le_trans hs2 h9)))) HB4.out, below_step HB3.out HB4.out, (hK2.then_ HK3.out (fun _ hk => .inl hk)).below HB4.out⟩
          rw [← H4.out]
          rfl
  · cases h
end Go.Proofs.YtfjbjiklohjodaaGreatDoor.Q
namespace Go.Proofs.YtfjbjiklohjodaaGreatDoor.Q
open Go.RowKit Go.Proofs.YtfjbjiklohjodaaGreatDoorW.PrintWords Go.Proofs.YtfjbjiklohjodaaGreatDoorW.PrintLast Go.Proofs.YtfjbjiklohjodaaGreatDoorW.PrintMore
attribute [local go_sem] max2_int min2_int max_two min_two max_three min_three max_four min_four
set_option linter.unusedVariables false
set_option linter.unusedSimpArgs false
noncomputable section
def spec_l3Copy.f (l0 : List (S111)) : Option ((List (S111))) := (some (([] : List (S111)) : List (S111))).bind fun y101 => (if y101.length + l0.length < 5864062014805 then (some (y101 ++ l0)) else (none))
set_option maxHeartbeats 8000000 in
set_option maxRecDepth 100000 in
theorem spec_l3Copy.calls (A0 : Option Addr) (c0 : Nat) (l0 : List (S111)) (r : List (S111)) (w : World) (hr0 : Kd.C k111 w A0 l0.length l0) (hc0 : l0.length ≤ c0) (h : spec_l3Copy.f l0 = some r) :
  Calls Tryz.prog 65 #[.slice A0 l0.length c0] w fun e w' => ∃ v0_ : Value, e = .returned (v0_) ∧ Kd.R k111 111 w' w.heap.size (fun _ => True) v0_ r ∧ Below w.heap.size w w' := by
 have HR0 := Aside0.mk hr0
 have HC0 := Aside0.mk hc0
 clear hr0 hc0
 have HB := Aside0.mk (Below.refl w.heap.size w)
 have H : ((some (([] : List (S111)) : List (S111))).bind fun y101 => (if y101.length + l0.length < 5864062014805 then (some (y101 ++ l0)) else (none))) = some r := h
 clear h
 obtain ⟨y101, hy101⟩ : ∃ y_ : List (S111), y_ = (([] : List (S111))) := ⟨_, rfl⟩
 replace H : (if y101.length + l0.length < 5864062014805 then (some (y101 ++ l0)) else (none)) = some r := by first | (rw [hy101]; with_reducible exact H) | (have H2_ := (Option.bind_some _ _).symm.trans H; rw [hy101]; with_reducible exact H2_) | (have H2_ := (Option.bind_some _ _).symm.trans H; with_reducible exact H2_) | with_reducible exact H | (rw [hy101]; exact H) | exact H
 have Ny101 := Aside0.mk hy101
 clear hy101
 by_cases c2 : y101.length + l0.length < 5864062014805
 ·rw [if_pos c2] at H; have LMc2 := Aside0.mk c2; clear c2; obtain ⟨y104, hy104⟩ : ∃ y_ : List (S111), y_ = (y101 ++ l0) := ⟨_, rfl⟩
  replace H : (some y104) = some r := by first | (rw [hy104]; with_reducible exact H) | (have H2_ := (Option.bind_some _ _).symm.trans H; rw [hy104]; with_reducible exact H2_) | (have H2_ := (Option.bind_some _ _).symm.trans H; with_reducible exact H2_) | with_reducible exact H | (rw [hy104]; exact H) | exact H
  have Ny104 := Aside0.mk hy104; clear hy104; obtain rfl := Option.some.inj H
  go_enter Tryz.func65, Tryz.ntmps65
  go_wp2_with (first | ((with_reducible refine gate_dst (N := 3) rfl ?_); refine Kd.R_lit k111 _ 111 ?hg (N := 3) ?hd (xs := ([] : List (S111))) (inner := []) (ok := fun _ => True) (okp := fun _ => True) ?hr ?hp (fun _ hk => hk) trivial (Below.refl _ _) (Nat.le_refl _) (by simp) ?_; (case hd => rfl); (case hg => rfl); (case hr => exact d15_); (case hp => exact d16_); intro v102 w3 ho4 hb hg_ hnew_; clear hg_ hnew_; (first | rw [← Ny101.out] at ho4 | (simp only [Int.reduceToNat] at ho4; rw [← Ny101.out] at ho4)); have HO103 := A_ (Kd.R_lower ho4 (below_size (zB_ HB.out))); replace HB := A_ (below_step (zB_ HB.out) hb); clear hb ho4) | ((with_reducible refine gate_builtin (b := .append) (xs := #[.tmp 3, .tmp 4]) rfl ?_); at_builtin; refine Kd.R_append_rows k111 (w0 := w) w.heap.size rfl (.tmp 3) (.tmp 4) 23 111 (.agg #[(.int .i64 0), (.int .i64 0), (.int .i64 0)]) 24 rfl Tryz.underlying23 info111 rfl (by decide) (by omega) v102 y101 l0 _ _ _ (fun _ => True) (fun _ => False) rfl rfl ?aO ?aR (fun _ _ h => h) (fun _ h => h.elim) ?aF ?aB ?aS ?aL ?_; (case aR => exact d5_); (case aB => exact (zB_ HB.out)); (case aF => exact (fun _ _ => trivial)); (case aO => exact (zR_ HO103.out)); (case aS => exact (below_size (zB_ HB.out))); (case aL => have := LMc2.out; omega); intro v105 w5 ho hb hg hat; rw [← Ny104.out] at ho; replace HB := A_ hb; have HO106 := A_ ho; clear HO103; clear ho hb hg hat))
  go_ret
  exact ⟨_, d4_, d53_, d18_⟩
 rw [if_neg c2] at H
 exact absurd H (by simp)
end
end Go.Proofs.YtfjbjiklohjodaaGreatDoor.Q
namespace Go.Proofs.YtfjbjiklohjodaaGreatDoor.Q
open Go.RowKit Go.Proofs.YtfjbjiklohjodaaGreatDoorW.PrintWords Go.Proofs.YtfjbjiklohjodaaGreatDoorW.PrintLast Go.Proofs.YtfjbjiklohjodaaGreatDoorW.PrintMore
attribute [local go_sem] max2_int min2_int max_two min_two max_three min_three max_four min_four
set_option linter.unusedVariables false
set_option linter.unusedSimpArgs false
noncomputable section
def IsS156 (w0 W : World) (g : Nat) (f0 : List Int) (f1 : Int) : Prop := ∃ A0 c0, W.heap[g]? = some (.cells #[.slice A0 f0.length c0, .int .i64 f1] 156 (0, 0)) ∧ w0.heap.size ≤ g ∧ Kd.C (Kd.int .u8) w0 A0 f0.length f0
theorem IsS156.grown {w0 W : World} {g : Nat} {f0 : List Int} {f1 : Int} {W1 : World} {row : Option Nat} (h : IsS156 w0 W g f0 f1) (hw : W.grownBy W1 row) (hne : some g ≠ row) : IsS156 w0 W1 g f0 f1 := by
 obtain ⟨A0, c0, hb, hg, hr0⟩ := h
 exact ⟨A0, c0, blk_grown hb hw hne, hg, hr0⟩
theorem IsS156.fresh {w0 W : World} {g : Nat} {f0 : List Int} {f1 : Int} (h : IsS156 w0 W g f0 f1) : ∀ k, W.heap.size ≤ k → k ≠ g := by
 obtain ⟨A0, c0, hb, hg, hr0⟩ := h
 exact Kd.freshB hb
theorem IsS156.kept {w0 W : World} {g : Nat} {f0 : List Int} {f1 : Int} {W1 : World} {S : Nat → Prop} (h : IsS156 w0 W g f0 f1) (hk : Kept W W1 S) (hne : ¬ S g) : IsS156 w0 W1 g f0 f1 := by
 obtain ⟨A0, c0, hb, hg, hr0⟩ := h
 exact ⟨A0, c0, blk_kept hb hk hne, hg, hr0⟩
theorem IsS156.below {w0 W : World} {g : Nat} {f0 : List Int} {f1 : Int} {W1 : World} (h : IsS156 w0 W g f0 f1) (hw : Below W.heap.size W W1) : IsS156 w0 W1 g f0 f1 := h.grown (grown_of_below hw none) (by simp)
theorem IsS156.alloc {w0 W : World} {g : Nat} {f0 : List Int} {f1 : Int} (h : IsS156 w0 W g f0 f1) (o : Obj) : IsS156 w0 (W.alloc o) g f0 f1 := h.below (below_alloc (Below.refl _ _) o)
theorem IsS156.drewN {w0 W : World} {g : Nat} {f0 : List Int} {f1 : Int} (h : IsS156 w0 W g f0 f1) (m : Nat) : IsS156 w0 (W.drewN m) g f0 f1 := h
theorem IsS156.drew {w0 W : World} {g : Nat} {f0 : List Int} {f1 : Int} (h : IsS156 w0 W g f0 f1) : IsS156 w0 W.drew g f0 f1 := h
theorem IsS156.at_ {w0 W : World} {g : Nat} {f0 : List Int} {f1 : Int} {w' : World} {m : Nat} (hq : W.drewN m = w') (h : IsS156 w0 W g f0 f1) : IsS156 w0 w' g f0 f1 := by subst hq; exact IsS156.drewN h m
theorem IsS156.apart {w0 W : World} {g : Nat} {f0 : List Int} {f1 : Int} {α : Type} {d : Kd α} {e : Nat} {base : Nat} {ok : Nat → Prop} {v : Value} {xs : List α} (h : IsS156 w0 W g f0 f1) (ho : d.R e W base ok v xs) (ht : ∀ q, q ∈ e :: d.E → q ≠ 156) : d.R e W base (fun k => ok k ∧ k ≠ g) v xs := by
 obtain ⟨A0, c0, hb, hg, hr0⟩ := h
 exact Kd.R_types ho hb ht
theorem IsS156.own_ne {w0 W : World} {g : Nat} {f0 : List Int} {f1 : Int} {α : Type} {d : Kd α} {e : Nat} {base : Nat} {ok : Nat → Prop} {v : Value} {xs : List α} (h : IsS156 w0 W g f0 f1) (ho : d.R e W base ok v xs) (ht : e ≠ 156) : some g ≠ v.ownBlock := by
 obtain ⟨A0, c0, hb, hg, hr0⟩ := h
 exact Kd.R_ne ho hb ht
theorem IsS156.lt {w0 W : World} {g : Nat} {f0 : List Int} {f1 : Int} (h : IsS156 w0 W g f0 f1) : g < W.heap.size := by
 obtain ⟨A0, c0, hb, hg, hr0⟩ := h
 exact blk_lt hb
theorem IsS156.far {w0 W : World} {g : Nat} {f0 : List Int} {f1 : Int} {p : Addr} (h : IsS156 w0 W g f0 f1) (hne : g ≠ p.block) (u : Value) : IsS156 w0 (W.setCell p u) g f0 f1 := by
 obtain ⟨A0, c0, hb, hg, hr0⟩ := h
 exact ⟨A0, c0, blk_far hb hne u, hg, hr0⟩
theorem IsS156.new (w0 W : World) (A0 : Option Addr) (c0 : Nat) (f0 : List Int) (f1 : Int) (hB : Below w0.heap.size w0 W) (hr0 : Kd.C (Kd.int .u8) w0 A0 f0.length f0) : IsS156 w0 (W.alloc (.cells #[.slice A0 f0.length c0, .int .i64 f1] 156)) W.heap.size f0 f1 := ⟨A0, c0, by simpa using heap_alloc_new W _, hB.size, hr0⟩
end
end Go.Proofs.YtfjbjiklohjodaaGreatDoor.Q
namespace Go.Proofs.YtfjbjiklohjodaaGreatDoor.Q
open Go.RowKit Go.Proofs.YtfjbjiklohjodaaGreatDoorW.PrintWords Go.Proofs.YtfjbjiklohjodaaGreatDoorW.PrintMore Go.Proofs.YtfjbjiklohjodaaGreatDoor.Z
set_option linter.unusedVariables false
set_option linter.unusedSimpArgs false
theorem spec_MapOk_is (m : List Pr) (hm : m.length ≤ 1099511627776) : spec_MapOk.f (m.map prTo) = some (mapOkB m) := by
  unfold spec_MapOk.f
  rw [map_pr, if_pos hm, prs_of_to]
theorem impl_MapOk_is (m : List Pr) (hm : m.length ≤ 1099511627776) : impl_MapOk.f (m.map prTo) = some (mapOkB m) := by
  unfold impl_MapOk.f
  rw [map_pr, if_pos hm, prs_of_to]
theorem spec_TextOk_is (l : List UInt8) (hl : l.length ≤ 140737488355328) : spec_TextOk.f (mkB l) = some (textOk l) := by
  unfold spec_TextOk.f
  rw [size_mkB, if_pos hl, bl_of]
theorem pieceOut_to (m : List Pr) (hm : m.length ≤ 1000) (p : Pc) (t : List UInt8) : spec_l3PieceOut.f (m.map prTo) p.size p.named p.fin.addr p.fin.port (mkB t) = some ((outP m p t).1.map prTo, mkB (outP m p t).2) := by
  unfold spec_l3PieceOut.f
  rw [map_pr, if_pos (by omega), prs_of_to]
  rfl
theorem l3Copy_to (m : List Pr) (hm : m.length ≤ 1099511627776) : spec_l3Copy.f (m.map prTo) = some (m.map prTo) := by
  unfold spec_l3Copy.f
  rw [Option.bind_some, if_pos (by rw [map_pr, List.length_nil]; omega), List.nil_append]
end Go.Proofs.YtfjbjiklohjodaaGreatDoor.Q
namespace Go.Proofs.YtfjbjiklohjodaaGreatDoor.Q
open Go.RowKit Go.Proofs.YtfjbjiklohjodaaGreatDoorW.PrintWords Go.Proofs.YtfjbjiklohjodaaGreatDoorW.PrintLast Go.Proofs.YtfjbjiklohjodaaGreatDoorW.PrintMore
attribute [local go_sem] max2_int min2_int max_two min_two max_three min_three max_four min_four
set_option linter.unusedVariables false
set_option linter.unusedSimpArgs false
noncomputable section
def spec_TextPieces.f (k : Nat) (a0 : ByteArray) : Option ((List (S116))) := (spec_TextOk.f a0).bind fun t101 => (if t101 = true then ((spec_l2Pieces.f k a0).bind fun t102 => (some t102)) else (some (([] : List (S116)))))
theorem spec_TextPieces.mono : ∀ a0 k, LeO (spec_TextPieces.f k a0) (spec_TextPieces.f (k + 1) a0) := by
 intro a0 k
 unfold spec_TextPieces.f
 have m0 := @spec_l2Pieces.mono
 exact zq_
set_option maxHeartbeats 8000000 in
set_option maxRecDepth 100000 in
theorem spec_TextPieces.calls (k : Nat) (a0 : ByteArray) (r : List (S116)) (w : World) (h : spec_TextPieces.f k a0 = some r) :
  Calls Tryz.prog 73 #[.string a0] w fun e w' => ∃ v0_ : Value, e = .returned (v0_) ∧ Kd.R k116 116 w' w.heap.size (fun _ => True) v0_ r ∧ Below w.heap.size w w' := by
 have HB := Aside0.mk (Below.refl w.heap.size w)
 have H : ((spec_TextOk.f a0).bind fun t101 => (if t101 = true then ((spec_l2Pieces.f k a0).bind fun t102 => (some t102)) else (some (([] : List (S116)))))) = some r := h
 clear h
 obtain ⟨t101, A2, H⟩ := zH_ H
 by_cases c3 : t101 = true
 ·subst c3; rw [if_pos rfl] at H; obtain ⟨t102, A4, H⟩ := zH_ H; obtain rfl := Option.some.inj H
  go_enter Tryz.func73, Tryz.ntmps73
  go_wp2_with (first | ((with_reducible refine gate_callee (f := 22) rfl ?_); refine zc_ (some 4) Tryz.func22 #[.string a0] ?_; (with_reducible refine (spec_TextOk.calls a0 true _ A2.out).mono ?_); rintro e w5 ⟨rfl, hb⟩; refine ⟨_, rfl, ?_⟩; replace HB := A_ (below_step (zB_ HB.out) hb); (try clear hb); (try clear hi)) | ((with_reducible refine gate_callee (f := 121) rfl ?_); refine zc_ (some 8) Tryz.func121 #[.string a0] ?_; (with_reducible refine (spec_l2Pieces.calls k a0 t102 _ A4.out).mono ?_); rintro e w6 ⟨v103, rfl, ho0, hb⟩; refine ⟨_, rfl, ?_⟩; have HO104 := A_ (Kd.R_lower ho0 (below_size (zB_ HB.out))); replace HB := A_ (below_step (zB_ HB.out) hb); (try clear hb); (try clear ho0)))
  go_ret
  exact ⟨_, d4_, d69_, d18_⟩
 replace c3 := Bool.eq_false_iff.mpr c3
 subst c3
 rw [if_neg (show ¬ (false = true) by decide)] at H
 obtain ⟨y105, hy105⟩ : ∃ y_ : List (S116), y_ = (([] : List (S116))) := ⟨_, rfl⟩
 replace H : (some y105) = some r := by first | (rw [hy105]; with_reducible exact H) | (have H2_ := (Option.bind_some _ _).symm.trans H; rw [hy105]; with_reducible exact H2_) | (have H2_ := (Option.bind_some _ _).symm.trans H; with_reducible exact H2_) | with_reducible exact H | (rw [hy105]; exact H) | exact H
 have Ny105 := Aside0.mk hy105
 clear hy105
 obtain rfl := Option.some.inj H
 go_enter Tryz.func73, Tryz.ntmps73
 go_wp2_with (first | ((with_reducible refine gate_callee (f := 22) rfl ?_); refine zc_ (some 4) Tryz.func22 #[.string a0] ?_; (with_reducible refine (spec_TextOk.calls a0 false _ A2.out).mono ?_); rintro e w7 ⟨rfl, hb⟩; refine ⟨_, rfl, ?_⟩; replace HB := A_ (below_step (zB_ HB.out) hb); (try clear hb); (try clear hi)) | ((with_reducible refine gate_dst (N := 6) rfl ?_); refine Kd.R_lit k116 _ 116 ?hg (N := 6) ?hd (xs := ([] : List (S116))) (inner := []) (ok := fun _ => True) (okp := fun _ => True) ?hr ?hp (fun _ hk => hk) trivial (Below.refl _ _) (Nat.le_refl _) (by simp) ?_; (case hd => rfl); (case hg => rfl); (case hr => exact d15_); (case hp => exact d16_); intro v106 w8 ho9 hb hg_ hnew_; clear hg_ hnew_; (first | rw [← Ny105.out] at ho9 | (simp only [Int.reduceToNat] at ho9; rw [← Ny105.out] at ho9)); have HO107 := A_ (Kd.R_lower ho9 (below_size (zB_ HB.out))); replace HB := A_ (below_step (zB_ HB.out) hb); clear hb ho9))
 go_ret
 exact ⟨_, d4_, by (with_reducible repeat (first | apply Kd.R_alloc | apply Kd.R_drewN | apply Kd.R_drew)); exact HO107.out, d18_⟩
end
end Go.Proofs.YtfjbjiklohjodaaGreatDoor.Q
namespace Go.Proofs.YtfjbjiklohjodaaGreatDoor.Q
open Go.RowKit Go.Proofs.YtfjbjiklohjodaaGreatDoorW.PrintWords Go.Proofs.YtfjbjiklohjodaaGreatDoorW.PrintMore Go.Proofs.YtfjbjiklohjodaaGreatDoor.Z
set_option linter.unusedVariables false
set_option linter.unusedSimpArgs false
attribute [local go_sem ↓] Go.wp_at_zero Go.wp_at_succ
def isDoor (x : S62) : Bool := doorB ⟨x.f0, x.f1⟩
theorem take_any {l : List S62} {k : Nat} (hk : k < l.length) (h : (l.take k).any isDoor = false) (hd : isDoor (rd_T62 l k) = false) : (l.take (k + 1)).any isDoor = false := by
  have e : rd_T62 l k = l[k] := by
    unfold rd_T62
    rw [Int.toNat_natCast, List.getD_eq_getElem?_getD, List.getElem?_eq_getElem hk]
    rfl
  rw [List.take_succ_eq_append_getElem hk, List.any_append, h, ← e]
  simp [hd]
theorem hit_any {l : List S62} {k : Nat} (hk : k < l.length) (hd : isDoor (rd_T62 l k) = true) : l.any isDoor = true := by
  have e : rd_T62 l k = l[k] := by
    unfold rd_T62
    rw [Int.toNat_natCast, List.getD_eq_getElem?_getD, List.getElem?_eq_getElem hk]
    rfl
  rw [e] at hd
  exact List.any_eq_true.2 ⟨_, List.getElem_mem hk, hd⟩
set_option maxHeartbeats 1000000 in
theorem idx_door (A : Option Addr) (n c : Nat) (l : List S62) (w : World) (hC : Kd.C k62 w A n l) (hn : n ≤ 1099511627776) :
    Calls Tryz.prog 179 #[.slice A n c, .func (.func 147) #[] #[]] w fun r w' => ∃ v : Int, r = .returned (.int .i64 v) ∧ (v ≥ 0 ↔ l.any isDoor = true) ∧ Below w.heap.size w w' := by
  have hl : l.length = n := hC.1
  have HC := Aside0.mk hC; clear hC
  go_enter Tryz.func179, Tryz.ntmps179
  go_wp2
  go_loopw [5, 8] (fun s5 s8 w' => ∃ k : Nat, k ≤ n ∧ s8 = .int .i64 k ∧ Aside0 ((l.take k).any isDoor = false) ∧ Below w.heap.size w w') (fun s5 s8 _ => n - (intOf s8).toNat)
  case atStart => exact ⟨0, Nat.zero_le _, rfl, ⟨by simp⟩, Below.refl _ _⟩
  case round =>
    obtain ⟨k, hk, rfl, HP, hb⟩ := hrel
    by_cases hlt : k < n
    · obtain ⟨ad, hA, d0, d1⟩ := at_T62 (Kd.C_below HC.out hb) (k : Int) (by omega) (by omega)
      cases hA
      rw [Int.toNat_natCast] at d0 d1
      have hk0 : (0 : Int) ≤ (k : Int) := Int.natCast_nonneg _
      have hk1 : (k : Int) < (n : Int) := by omega
      cases hd : isDoor (rd_T62 l k) with
      | true =>
        have HD := Aside0.mk (show impl_EndDoor.f (rd_T62 l k).f0 (rd_T62 l k).f1 = some true from congrArg some hd)
        have HA := Aside0.mk (hit_any (by omega) hd)
        clear hd
        go_wp2_with (go_at_call 147; refine (impl_EndDoor.calls _ _ true _ HD.out).mono ?_; rintro r w2 ⟨rfl, hb2⟩)
        go_ret
        exact ⟨_, rfl, by rw [HA.out]; simp, below_step hb hb2⟩
      | false =>
        have HD := Aside0.mk (show impl_EndDoor.f (rd_T62 l k).f0 (rd_T62 l k).f1 = some false from congrArg some hd)
        have HA := Aside0.mk (take_any (by omega) HP.out hd)
        clear hd
        go_wp2_with (go_at_call 147; refine (impl_EndDoor.calls _ _ false _ HD.out).mono ?_; rintro r w2 ⟨rfl, hb2⟩)
        go_roundw
        case rel => exact ⟨k + 1, by omega, by go_num, HA, below_step hb hb2⟩
        case measure => simp [intOf]; omega
    · obtain rfl : k = n := by omega
      go_wp2
      go_ret
      exact ⟨_, rfl, by have h := HP.out; rw [List.take_of_length_le (by omega)] at h; rw [h]; simp, hb⟩
theorem has_door (A : Option Addr) (n c : Nat) (l : List S62) (w : World) (hC : Kd.C k62 w A n l) (hn : n ≤ 1099511627776) :
    Calls Tryz.prog 158 #[.slice A n c, .func (.func 147) #[] #[]] w fun r w' => r = .returned (.bool (l.any isDoor)) ∧ Below w.heap.size w w' := by
  have HC := Aside0.mk hC; clear hC
  have HI := fun w hC => idx_door A n c l w hC hn
  obtain ⟨q, hq⟩ : ∃ q, l.any isDoor = q := ⟨_, rfl⟩
  rw [hq] at HI ⊢
  clear hq
  go_enter Tryz.func158, Tryz.ntmps158
  go_wp2_with (go_at_call 179; refine (HI _ HC.out).mono ?_; rintro r w2 ⟨v, rfl, hv, hb2⟩)
  go_ret
  refine ⟨?_, hb2⟩
  cases q
  · have : ¬ (0 ≤ v) := fun h2 => by simpa using hv.1 h2
    simp [this]
  · have : 0 ≤ v := hv.2 rfl
    simp [this]
def slices_ContainsFunc_End.f (l0 : List S62) : Option Bool := if l0.length ≤ 1099511627776 then some (l0.any isDoor) else none
theorem slices_ContainsFunc_End.calls (A0 : Option Addr) (c0 : Nat) (l0 : List (S62)) (r : Bool) (w : World) (hr0 : Kd.C k62 w A0 l0.length l0) (hc0 : l0.length ≤ c0) (h : slices_ContainsFunc_End.f l0 = some r) :
    Calls Tryz.prog 158 #[.slice A0 l0.length c0, .func (.func 147) #[] #[]] w fun e w' => e = .returned (.bool r) ∧ Below w.heap.size w w' := by
  unfold slices_ContainsFunc_End.f at h
  split at h
  · rename_i hs
    obtain rfl := Option.some.inj h
    exact has_door A0 l0.length c0 l0 w hr0 hs
  · cases h
end Go.Proofs.YtfjbjiklohjodaaGreatDoor.Q
namespace Go.Proofs.YtfjbjiklohjodaaGreatDoor.Q
open Go.RowKit Go.Proofs.YtfjbjiklohjodaaGreatDoorW.PrintWords Go.Proofs.YtfjbjiklohjodaaGreatDoorW.PrintMore Go.Proofs.YtfjbjiklohjodaaGreatDoor.Z
set_option linter.unusedVariables false
set_option linter.unusedSimpArgs false
theorem spec_TextPieces_to (k : Nat) (hk : 2000 < k) (l : List UInt8) (hl : l.length ≤ 140737488355328) : spec_TextPieces.f k (mkB l) = some ((pieces l).map pcTo) := by
  unfold spec_TextPieces.f spec_TextOk.f pieces
  rw [size_mkB, if_pos hl, bl_of, Option.bind_some]
  cases h2 : textOk l
  · simp
  · have hl2 := textOk_len h2
    rw [if_pos rfl, if_pos rfl, spec_pieces_to k l (by omega) (by omega)]
    rfl
end Go.Proofs.YtfjbjiklohjodaaGreatDoor.Q
namespace Go.Proofs.YtfjbjiklohjodaaGreatDoor.Q
open Go Go.RowKit Go.Proofs.YtfjbjiklohjodaaGreatDoorW.PrintWords Go.Proofs.YtfjbjiklohjodaaGreatDoorW.PrintLast Go.Proofs.YtfjbjiklohjodaaGreatDoorW.PrintMore
set_option linter.unusedVariables false
section
variable {P : Program} {ops : Array Oper} {Q : Exit → Act → World → Prop} {S : World → Prop} {ds : List Nat} {T : Bool × List (List Nat × List Nat)} {oi : Oper} {v : Value} {fuel : Nat} {l l' : Array Bool} {a a' : Act} {w : World}
theorem zP_ (HT : Aside0 (rtab .any ops = T)) (i : Nat) (N : Option Tmp) (h : wpAnyLast P .any ops Q S ds fuel l' a' w)
    (hi : ops[i]? = some oi := by exact rfl) (hN : oi.dst = N := by exact rfl) (hl : l.setIfInBounds i true = l' := by simp only [List.setIfInBounds_toArray, List.set_cons_zero, List.set_cons_succ]; exact rfl) (hc : anyT T l.toList l'.toList i = true := by kernel_rfl)
    (hQ : ∀ c a w, Q (.panic c) (a.put oi.dst v) w → Q (.panic c) a w := by exact fun _ _ _ h => h) (hy : Yields P ops oi v a := by exact Or.inl ⟨by rfl, by (intro w'; go_simp; with_reducible rfl)⟩)
    (ha : a.put N v = a' := by simp only [Act.put, List.setIfInBounds_toArray, List.set_cons_zero, List.set_cons_succ, i64_w, i32_w]; rfl) : wpAnyLast P .any ops Q S ds (fuel + 1) l a w := pure_ l' hi hN (any_of HT.out hc) hQ hy ha h
theorem zU_ (HT : Aside0 (rtab .any ops = T)) (i : Nat) (N : Option Tmp) (h : wpAnyLast P .any ops Q S ds fuel l' a' w)
    (hi : ops[i]? = some oi := by exact rfl) (hN : oi.dst = N := by exact rfl) (hl : l.setIfInBounds i true = l' := by simp only [List.setIfInBounds_toArray, List.set_cons_zero, List.set_cons_succ]; exact rfl) (hc : anyT T l.toList l'.toList i = true := by kernel_rfl)
    (hQ : ∀ c a w, Q (.panic c) (a.put oi.dst undef) w → Q (.panic c) a w := by exact fun _ _ _ h => h) (hy : Yields P ops oi undef a := by exact Or.inr ⟨by rfl, rfl⟩)
    (ha : a.put N undef = a' := by simp only [Act.put, List.setIfInBounds_toArray, List.set_cons_zero, List.set_cons_succ, i64_w, i32_w]; rfl) : wpAnyLast P .any ops Q S ds (fuel + 1) l a w := pure_ l' hi hN (any_of HT.out hc) hQ hy ha h
theorem zT_ {B : List Nat} (HT : Aside0 (rtab .any ops = T)) (HW : Aside0 (waitsOk T.2 B = true)) (hS : S w) (i : Nat) (N : Option Tmp) (h : wpAnyLast P .any ops Q S ds fuel l' a' w)
    (hi : ops[i]? = some oi := by exact rfl) (hN : oi.dst = N := by exact rfl) (hl : l.setIfInBounds i true = l' := by simp only [List.setIfInBounds_toArray, List.set_cons_zero, List.set_cons_succ]; exact rfl) (hc : takeW T B ds l.toList l'.toList i = true := by kernel_rfl)
    (hQ : ∀ c a w, Q (.panic c) (a.put oi.dst v) w → Q (.panic c) a w := by exact fun _ _ _ h => h) (hy : YieldsIf P ops S oi v a := by exact Or.inl ⟨by rfl, by (intro w' hS_; (try simp only [and_imp] at hS_); (repeat (have hS1_ := And.left hS_; replace hS_ := And.right hS_)); go_simp; with_reducible rfl)⟩)
    (ha : a.put N v = a' := by simp only [Act.put, List.setIfInBounds_toArray, List.set_cons_zero, List.set_cons_succ, i64_w, i32_w]; rfl) : wpAnyLast P .any ops Q S ds (fuel + 1) l a w := take_ l' hi hN (take_ofW HT.out HW.out hc) hQ hy hS ha h
end
end Go.Proofs.YtfjbjiklohjodaaGreatDoor.Q
namespace Go.Proofs.YtfjbjiklohjodaaGreatDoor.Q
open Go Go.RowKit Go.Proofs.YtfjbjiklohjodaaGreatDoorW.PrintWords
set_option linter.unusedVariables false
set_option linter.unusedSectionVars false
def RQ {α : Type} (b : Bool) (d : Kd α) (e : Nat) (w : World) (base : Nat) (ok : Nat → Prop) (v : Value) (xs : List α) : Prop := match b with
  | true => d.Q e w base ok v xs
  | false => d.R e w base ok v xs
theorem RQ_ofR {α : Type} {d : Kd α} {e : Nat} {w : World} {base : Nat} {ok : Nat → Prop} {v : Value} {xs : List α} (h : d.R e w base ok v xs) : RQ false d e w base ok v xs := h
theorem RQ_ofQ {α : Type} {d : Kd α} {e : Nat} {w : World} {base : Nat} {ok : Nat → Prop} {v : Value} {xs : List α} (h : d.Q e w base ok v xs) : RQ true d e w base ok v xs := h
theorem RQ_toQ {α : Type} {d : Kd α} {e : Nat} {w : World} {base : Nat} {ok : Nat → Prop} {v : Value} {xs : List α} (h : RQ false d e w base ok v xs) : RQ true d e w base ok v xs := Kd.Q_of_R h
theorem RQ_after : ∀ {b_ : Bool} {α : Type}
  {d : Go.Proofs.YtfjbjiklohjodaaGreatDoorW.PrintWords.Kd α} {e base : Nat} {ok : Nat → Prop} {W w1 : Go.World}
  {u v v1 : Go.Value} {xs : List α},
  RQ b_ d e W base
      (fun (k : Nat) ↦ ok k ∧ Option.some k ≠ Go.Value.ownBlock v) u xs →
    Go.World.grownBy W w1 (Go.Value.ownBlock v) →
      (Go.Value.ownBlock v1 = Go.Value.ownBlock v ∨
          ∃ (b : Nat), Go.Value.ownBlock v1 = Option.some b ∧ Array.size (Go.World.heap W) ≤ b) →
        RQ b_ d e w1 base
          (fun (k : Nat) ↦ ok k ∧ Option.some k ≠ Go.Value.ownBlock v1) u xs := by
  intro b_
  cases b_
  · exact @Kd.R_after
  · intros
    rename_i h1 h2 h3
    exact Kd.Q_after (ys := _) h1 h2 h3
theorem RQ_alloc : ∀ {b_ : Bool} {α : Type}
  {d : Go.Proofs.YtfjbjiklohjodaaGreatDoorW.PrintWords.Kd α} {e : Nat} {w : Go.World} {base : Nat} {ok : Nat → Prop}
  {v : Go.Value} {xs : List α},
  RQ b_ d e w base ok v xs →
    ∀ (o : Go.Obj), RQ b_ d e (Go.World.alloc w o) base ok v xs := by
  intro b_
  cases b_
  · exact @Kd.R_alloc
  · exact @Kd.Q_alloc
theorem RQ_apart' : ∀ {b_ : Bool} {α : Type}
  {d : Go.Proofs.YtfjbjiklohjodaaGreatDoorW.PrintWords.Kd α} {e e' : Nat} {W : Go.World} {base : Nat} {ok : Nat → Prop}
  {u v : Go.Value} {xs : List α},
  RQ b_ d e W base ok u xs →
    (∀ (k : Nat),
        Go.Value.ownBlock v = Option.some k →
          ∃ (cells : Array Go.Value), (Go.World.heap W)[k]? = Option.some (Go.Obj.cells cells e')) →
      (∀ (q : Nat), q ∈ e :: Go.Proofs.YtfjbjiklohjodaaGreatDoorW.PrintWords.Kd.E d → q ≠ e') →
        RQ b_ d e W base
          (fun (k : Nat) ↦ ok k ∧ Option.some k ≠ Go.Value.ownBlock v) u xs := by
  intro b_
  cases b_
  · exact @Kd.R_apart'
  · exact @Kd.Q_apart'
theorem RQ_append : ∀ {b_ : Bool} {P : Go.Program} {ops : Array Go.Oper}
  {rest : List Go.Oper} {o : Go.Oper} {a : Go.Act} {Q : Go.Exit → Go.Act → Go.World → Prop} {α : Type}
  (d : Go.Proofs.YtfjbjiklohjodaaGreatDoorW.PrintWords.Kd α) {w0 W : Go.World} (base : Nat),
  Go.Oper.guard o = Option.none →
    ∀ (s x : Go.Operand) (t e : Go.TypeId) (z : Go.Value) (bytes : Nat),
      Go.Oper.op o =
          Go.Op.call { callee := Go.Callee.builtin Go.Builtin.append, args := #[s, x], argTypes := #[t, t] } →
        Go.Program.underlying P t = Option.some (Go.TypeDesc.slice e) →
          Option.map (fun (i : Go.TypeInfo) ↦ (Go.TypeInfo.zero i, Go.TypeInfo.size i, Go.TypeInfo.bytes i))
                (Go.Tables.info? (Go.Program.toTables P) e) =
              Option.some (Option.some z, Go.Proofs.YtfjbjiklohjodaaGreatDoorW.PrintWords.Kd.sz d, bytes) →
            Array.size (Go.Value.cells z) = Go.Proofs.YtfjbjiklohjodaaGreatDoorW.PrintWords.Kd.sz d →
              0 < Go.Proofs.YtfjbjiklohjodaaGreatDoorW.PrintWords.Kd.sz d →
                0 < bytes →
                  ∀ (v : Go.Value) (xs : List α) (p : α) (cs : List Go.Value) (ok okp : Nat → Prop),
                    Go.Act.eval a s = v →
                      Go.Act.eval a x =
                          Go.Value.slice (Option.some { block := Array.size (Go.World.heap W), off := 0 }) 1 1 →
                        Go.Proofs.YtfjbjiklohjodaaGreatDoorW.PrintWords.Kd.M d W base okp p cs →
                          (∀ (k : Nat), okp k → ok k ∧ Option.some k ≠ Go.Value.ownBlock v) →
                            (∀ (k : Nat), Array.size (Go.World.heap W) ≤ k → ok k) →
                              RQ b_ d e W base ok v xs →
                                Go.RowKit.Below base w0 W →
                                  base ≤ Array.size (Go.World.heap W) →
                                    (List.length xs + 1) * bytes ≤ 140737488355328 →
                                      (∀ (v1 : Go.Value) (w1 : Go.World),
                                          RQ b_ d e w1 base ok v1
                                              (xs ++ [p]) →
                                            Go.RowKit.Below base w0 w1 →
                                              Go.World.grownBy W w1 (Go.Value.ownBlock v) →
                                                (Go.Value.ownBlock v1 = Go.Value.ownBlock v ∨
                                                    ∃ (b : Nat),
                                                      Go.Value.ownBlock v1 = Option.some b ∧
                                                        Array.size (Go.World.heap W) ≤ b) →
                                                  Go.wpList P ops Q rest (Go.Act.put a (Go.Oper.dst o) v1) w1) →
                                        Go.wpList P ops Q (o :: rest) a
                                          (Go.World.alloc W (Go.Obj.cells (List.toArray cs) e)) := by
  intro b_
  cases b_
  · exact @Kd.R_append
  · intro P ops rest o a Q α d w0 W base
    exact Kd.Q_append d (w0 := w0) (W := W) base
theorem RQ_append_rows : ∀ {P : Go.Program} {ops : Array Go.Oper}
  {rest : List Go.Oper} {o : Go.Oper} {a : Go.Act} {Q : Go.Exit → Go.Act → Go.World → Prop} {α : Type}
  (d : Go.Proofs.YtfjbjiklohjodaaGreatDoorW.PrintWords.Kd α) {Rr : α → List Go.Value → Prop} {w0 W : Go.World}
  (base : Nat),
  Go.Oper.guard o = Option.none →
    ∀ (s x : Go.Operand) (t e : Go.TypeId) (z : Go.Value) (bytes : Nat),
      Go.Oper.op o =
          Go.Op.call { callee := Go.Callee.builtin Go.Builtin.append, args := #[s, x], argTypes := #[t, t] } →
        Go.Program.underlying P t = Option.some (Go.TypeDesc.slice e) →
          Option.map (fun (i : Go.TypeInfo) ↦ (Go.TypeInfo.zero i, Go.TypeInfo.size i, Go.TypeInfo.bytes i))
                (Go.Tables.info? (Go.Program.toTables P) e) =
              Option.some (Option.some z, Go.Proofs.YtfjbjiklohjodaaGreatDoorW.PrintWords.Kd.sz d, bytes) →
            Array.size (Go.Value.cells z) = Go.Proofs.YtfjbjiklohjodaaGreatDoorW.PrintWords.Kd.sz d →
              0 < Go.Proofs.YtfjbjiklohjodaaGreatDoorW.PrintWords.Kd.sz d →
                0 < bytes →
                  ∀ (v : Go.Value) (xs ys : List α) (A : Option Go.Addr) (m c : Nat) (ok okp : Nat → Prop),
                    Go.Act.eval a s = v →
                      Go.Act.eval a x = Go.Value.slice A m c →
                        RQ false d e W base ok v xs →
                          Go.Proofs.YtfjbjiklohjodaaGreatDoorW.PrintWords.ReadsRow Rr
                              (Go.Proofs.YtfjbjiklohjodaaGreatDoorW.PrintWords.Kd.sz d) W A m ys →
                            (∀ (x : α) (cs : List Go.Value),
                                Rr x cs → Go.Proofs.YtfjbjiklohjodaaGreatDoorW.PrintWords.Kd.M d W base okp x cs) →
                              (∀ (k : Nat), okp k → ok k ∧ Option.some k ≠ Go.Value.ownBlock v) →
                                (∀ (k : Nat), Array.size (Go.World.heap W) ≤ k → ok k) →
                                  Go.RowKit.Below base w0 W →
                                    base ≤ Array.size (Go.World.heap W) →
                                      (List.length xs + m) * bytes ≤ 140737488355328 →
                                        (∀ (v1 : Go.Value) (w1 : Go.World),
                                            RQ false d e w1 base ok v1
                                                (xs ++ ys) →
                                              Go.RowKit.Below base w0 w1 →
                                                Go.World.grownBy W w1 (Go.Value.ownBlock v) →
                                                  (Go.Value.ownBlock v1 = Go.Value.ownBlock v ∨
                                                      ∃ (b : Nat),
                                                        Go.Value.ownBlock v1 = Option.some b ∧
                                                          Array.size (Go.World.heap W) ≤ b) →
                                                    Go.wpList P ops Q rest (Go.Act.put a (Go.Oper.dst o) v1) w1) →
                                          Go.wpList P ops Q (o :: rest) a W := @Kd.R_append_rows
theorem RQ_append_step : ∀ {b_ : Bool} {P : Go.Program} {ops : Array Go.Oper}
  {o : Go.Oper} {a : Go.Act} {Q : Go.Exit → Go.Act → Go.World → Prop} {Kc : Go.Act → Go.World → Prop} {α : Type}
  (d : Go.Proofs.YtfjbjiklohjodaaGreatDoorW.PrintWords.Kd α) {w0 W : Go.World} (base : Nat),
  Go.Region.wanted o (Go.yielded ops (Go.Act.tmps a)) = Bool.true →
    ∀ (s x : Go.Operand) (t e : Go.TypeId) (z : Go.Value) (bytes : Nat),
      Go.Oper.op o =
          Go.Op.call { callee := Go.Callee.builtin Go.Builtin.append, args := #[s, x], argTypes := #[t, t] } →
        Go.Program.underlying P t = Option.some (Go.TypeDesc.slice e) →
          Option.map (fun (i : Go.TypeInfo) ↦ (Go.TypeInfo.zero i, Go.TypeInfo.size i, Go.TypeInfo.bytes i))
                (Go.Tables.info? (Go.Program.toTables P) e) =
              Option.some (Option.some z, Go.Proofs.YtfjbjiklohjodaaGreatDoorW.PrintWords.Kd.sz d, bytes) →
            Array.size (Go.Value.cells z) = Go.Proofs.YtfjbjiklohjodaaGreatDoorW.PrintWords.Kd.sz d →
              0 < Go.Proofs.YtfjbjiklohjodaaGreatDoorW.PrintWords.Kd.sz d →
                0 < bytes →
                  ∀ (v : Go.Value) (xs : List α) (p : α) (cs : List Go.Value) (ok okp : Nat → Prop),
                    Go.Act.eval a s = v →
                      Go.Act.eval a x =
                          Go.Value.slice (Option.some { block := Array.size (Go.World.heap W), off := 0 }) 1 1 →
                        Go.Proofs.YtfjbjiklohjodaaGreatDoorW.PrintWords.Kd.M d W base okp p cs →
                          (∀ (k : Nat), okp k → ok k ∧ Option.some k ≠ Go.Value.ownBlock v) →
                            (∀ (k : Nat), Array.size (Go.World.heap W) ≤ k → ok k) →
                              RQ b_ d e W base ok v xs →
                                Go.RowKit.Below base w0 W →
                                  base ≤ Array.size (Go.World.heap W) →
                                    (List.length xs + 1) * bytes ≤ 140737488355328 →
                                      (∀ (v1 : Go.Value) (w1 : Go.World),
                                          RQ b_ d e w1 base ok v1
                                              (xs ++ [p]) →
                                            Go.RowKit.Below base w0 w1 →
                                              Go.World.grownBy W w1 (Go.Value.ownBlock v) →
                                                (Go.Value.ownBlock v1 = Go.Value.ownBlock v ∨
                                                    ∃ (b : Nat),
                                                      Go.Value.ownBlock v1 = Option.some b ∧
                                                        Array.size (Go.World.heap W) ≤ b) →
                                                  Kc (Go.Act.put a (Go.Oper.dst o) v1) w1) →
                                        if Go.Region.wanted o (Go.yielded ops (Go.Act.tmps a)) = Bool.true then
                                          Go.Oper.wp P o a (Go.World.alloc W (Go.Obj.cells (List.toArray cs) e)) Kc Q
                                        else
                                          Kc (Go.Act.put a (Go.Oper.dst o) Go.undef)
                                            (Go.World.alloc W (Go.Obj.cells (List.toArray cs) e)) := by
  intro b_
  cases b_
  · exact @Kd.R_append_step
  · exact @Kd.Q_append_step
theorem RQ_base : ∀ {b_ : Bool} {α : Type}
  {d : Go.Proofs.YtfjbjiklohjodaaGreatDoorW.PrintWords.Kd α} {e : Nat} {w : Go.World} {base : Nat} {ok : Nat → Prop}
  {v : Go.Value} {xs : List α},
  RQ b_ d e w base ok v xs →
    ∀ (k : Nat), Go.Value.ownBlock v = Option.some k → base ≤ k := by
  intro b_
  cases b_
  · exact @Kd.R_base
  · exact @Kd.Q_base
theorem RQ_below : ∀ {b_ : Bool} {α : Type}
  {d : Go.Proofs.YtfjbjiklohjodaaGreatDoorW.PrintWords.Kd α} {e : Nat} {w w1 : Go.World} {base : Nat} {ok : Nat → Prop}
  {v : Go.Value} {xs : List α},
  RQ b_ d e w base ok v xs →
    Go.RowKit.Below (Array.size (Go.World.heap w)) w w1 →
      RQ b_ d e w1 base ok v xs := by
  intro b_
  cases b_
  · exact @Kd.R_below
  · exact @Kd.Q_below
theorem RQ_drew : ∀ {b_ : Bool} {α : Type}
  {d : Go.Proofs.YtfjbjiklohjodaaGreatDoorW.PrintWords.Kd α} {e : Nat} {w : Go.World} {base : Nat} {ok : Nat → Prop}
  {v : Go.Value} {xs : List α},
  RQ b_ d e w base ok v xs →
    RQ b_ d e (Go.World.drew w) base ok v xs := by
  intro b_
  cases b_
  · exact @Kd.R_drew
  · exact @Kd.Q_drew
theorem RQ_drewN : ∀ {b_ : Bool} {α : Type}
  {d : Go.Proofs.YtfjbjiklohjodaaGreatDoorW.PrintWords.Kd α} {e : Nat} {w : Go.World} {base : Nat} {ok : Nat → Prop}
  {v : Go.Value} {xs : List α},
  RQ b_ d e w base ok v xs →
    ∀ (m : Nat), RQ b_ d e (Go.World.drewN w m) base ok v xs := by
  intro b_
  cases b_
  · exact @Kd.R_drewN
  · exact @Kd.Q_drewN
theorem RQ_elder' : ∀ {b_ : Bool} {α : Type}
  {d : Go.Proofs.YtfjbjiklohjodaaGreatDoorW.PrintWords.Kd α} {e : Nat} {w1 W : Go.World} {base : Nat} {ok : Nat → Prop}
  {u v : Go.Value} {xs : List α},
  RQ b_ d e W base ok u xs →
    (∀ (k : Nat), Go.Value.ownBlock v = Option.some k → Array.size (Go.World.heap W) ≤ k) →
      Go.RowKit.Below (Array.size (Go.World.heap W)) W w1 →
        RQ b_ d e w1 base
          (fun (k : Nat) ↦ ok k ∧ Option.some k ≠ Go.Value.ownBlock v) u xs := by
  intro b_
  cases b_
  · exact @Kd.R_elder'
  · exact @Kd.Q_elder'
theorem RQ_far : ∀ {b_ : Bool} {α : Type}
  {d : Go.Proofs.YtfjbjiklohjodaaGreatDoorW.PrintWords.Kd α} {e : Nat} {w : Go.World} {base : Nat} {ok : Nat → Prop}
  {v : Go.Value} {xs : List α},
  RQ b_ d e w base ok v xs →
    ∀ {p : Go.Addr},
      (∀ (k : Nat), ok k → k ≠ Go.Addr.block p) →
        ∀ (u : Go.Value), RQ b_ d e (Go.World.setCell w p u) base ok v xs := by
  intro b_
  cases b_
  · exact @Kd.R_far
  · exact @Kd.Q_far
theorem RQ_keptB : ∀ {b_ : Bool} {α : Type}
  {d : Go.Proofs.YtfjbjiklohjodaaGreatDoorW.PrintWords.Kd α} {e base : Nat} {ok : Nat → Prop} {W W2 : Go.World}
  {v : Go.Value} {xs : List α} {S : Nat → Prop},
  RQ b_ d e W base ok v xs →
    Go.Proofs.YtfjbjiklohjodaaGreatDoorW.PrintWords.Kept W W2 S →
      (∀ (k : Nat), ok k → ¬S k) →
        RQ b_ d e W2 base
          (fun (k : Nat) ↦ ok k ∧ ¬S k ∧ k < Array.size (Go.World.heap W)) v xs := by
  intro b_
  cases b_
  · exact @Kd.R_keptB
  · exact @Kd.Q_keptB
theorem RQ_lit : ∀ {P : Go.Program} {ops : Array Go.Oper}
  {rest : List Go.Oper} {o : Go.Oper} {a : Go.Act} {Q : Go.Exit → Go.Act → Go.World → Prop} {α : Type}
  (d : Go.Proofs.YtfjbjiklohjodaaGreatDoorW.PrintWords.Kd α) {w0 W : Go.World} (base e : Nat),
  Go.Oper.guard o = Option.none →
    ∀ {N : Go.Tmp},
      Go.Oper.dst o = Option.some N →
        ∀ {xs : List α} {inner : List Go.Value} {ok okp : Nat → Prop},
          Go.Sem.run P (Go.execOp (Go.Act.eval a) o) W =
              Go.Result.ok
                (Go.Next.value
                  (Go.Value.slice (Option.some { block := Array.size (Go.World.heap W), off := 0 }) (List.length xs)
                    (List.length xs)))
                (Go.World.alloc W (Go.Obj.cells (List.toArray inner) e)) →
            Go.Proofs.YtfjbjiklohjodaaGreatDoorW.PrintWords.Reps
                (Go.Proofs.YtfjbjiklohjodaaGreatDoorW.PrintWords.Kd.M d W base okp)
                (Go.Proofs.YtfjbjiklohjodaaGreatDoorW.PrintWords.Kd.sz d) xs inner →
              (∀ (k : Nat), okp k → ok k) →
                ok (Array.size (Go.World.heap W)) →
                  Go.RowKit.Below base w0 W →
                    base ≤ Array.size (Go.World.heap W) →
                      List.length xs ≤ 9223372036854775807 →
                        (∀ (v1 : Go.Value) (w1 : Go.World),
                            RQ false d e w1 base ok v1 xs →
                              Go.RowKit.Below base w0 w1 →
                                Go.World.grownBy W w1 Option.none →
                                  (∃ (b : Nat),
                                      Go.Value.ownBlock v1 = Option.some b ∧ Array.size (Go.World.heap W) ≤ b) →
                                    Go.wpList P ops Q rest (Go.Act.put a (Go.Oper.dst o) v1) w1) →
                          Go.wpList P ops Q (o :: rest) a W := @Kd.R_lit
theorem RQ_lower : ∀ {b_ : Bool} {α : Type}
  {d : Go.Proofs.YtfjbjiklohjodaaGreatDoorW.PrintWords.Kd α} {e : Nat} {w : Go.World} {base : Nat} {ok : Nat → Prop}
  {v : Go.Value} {xs : List α} {base' : Nat},
  RQ b_ d e w base ok v xs →
    base' ≤ base → RQ b_ d e w base' ok v xs := by
  intro b_
  cases b_
  · exact @Kd.R_lower
  · exact @Kd.Q_lower
theorem RQ_lt : ∀ {b_ : Bool} {α : Type}
  {d : Go.Proofs.YtfjbjiklohjodaaGreatDoorW.PrintWords.Kd α} {e : Nat} {w : Go.World} {base : Nat} {ok : Nat → Prop}
  {v : Go.Value} {xs : List α},
  RQ b_ d e w base ok v xs →
    ∀ (k : Nat), Go.Value.ownBlock v = Option.some k → k < Array.size (Go.World.heap w) := by
  intro b_
  cases b_
  · exact @Kd.R_lt
  · exact @Kd.Q_lt
theorem RQ_mono : ∀ {b_ : Bool} {α : Type}
  {d : Go.Proofs.YtfjbjiklohjodaaGreatDoorW.PrintWords.Kd α} {e : Nat} {w : Go.World} {base : Nat} {ok ok' : Nat → Prop}
  {v : Go.Value} {xs : List α},
  RQ b_ d e w base ok v xs →
    (∀ (k : Nat), ok k → ok' k) → RQ b_ d e w base ok' v xs := by
  intro b_
  cases b_
  · exact @Kd.R_mono
  · exact @Kd.Q_mono
theorem RQ_ne : ∀ {b_ : Bool} {α : Type}
  {d : Go.Proofs.YtfjbjiklohjodaaGreatDoorW.PrintWords.Kd α} {e : Nat} {w : Go.World} {base : Nat} {ok : Nat → Prop}
  {v : Go.Value} {xs : List α},
  RQ b_ d e w base ok v xs →
    ∀ {g t : Nat} {cells : Array Go.Value},
      (Go.World.heap w)[g]? = Option.some (Go.Obj.cells cells t) → e ≠ t → Option.some g ≠ Go.Value.ownBlock v := by
  intro b_
  cases b_
  · exact @Kd.R_ne
  · exact @Kd.Q_ne
theorem RQ_new' : ∀ {b_ : Bool} {α : Type}
  {d : Go.Proofs.YtfjbjiklohjodaaGreatDoorW.PrintWords.Kd α} {e : Nat} {w1 W : Go.World} {ok : Nat → Prop}
  {u v : Go.Value} {xs : List α},
  RQ b_ d e w1 (Array.size (Go.World.heap W)) ok v xs →
    (∀ (k : Nat), Go.Value.ownBlock u = Option.some k → k < Array.size (Go.World.heap W)) →
      RQ b_ d e w1 (Array.size (Go.World.heap W))
        (fun (k : Nat) ↦ ok k ∧ Option.some k ≠ Go.Value.ownBlock u) v xs := by
  intro b_
  cases b_
  · exact @Kd.R_new'
  · exact @Kd.Q_new'
theorem RQ_newM : ∀ {b_ : Bool} {α : Type}
  {d : Go.Proofs.YtfjbjiklohjodaaGreatDoorW.PrintWords.Kd α} {e : Nat} {ok : Nat → Prop} {w W w1 : Go.World}
  {v : Go.Value} {xs : List α} {M : Nat → Prop},
  RQ b_ d e w1 (Array.size (Go.World.heap W)) ok v xs →
    Array.size (Go.World.heap w) ≤ Array.size (Go.World.heap W) →
      (∀ (k : Nat), Array.size (Go.World.heap w) ≤ k → M k) →
        RQ b_ d e w1 (Array.size (Go.World.heap W))
          (fun (k : Nat) ↦ M k ∧ ok k) v xs := by
  intro b_
  cases b_
  · exact @Kd.R_newM
  · exact @Kd.Q_newM
theorem RQ_nil : ∀ {b_ : Bool} {α : Type}
  (d : Go.Proofs.YtfjbjiklohjodaaGreatDoorW.PrintWords.Kd α) (e : Nat) (w : Go.World) (base : Nat) (ok : Nat → Prop),
  RQ b_ d e w base ok (Go.Value.slice Option.none 0 0) [] := by
  intro b_
  cases b_
  · exact @Kd.R_nil
  · exact @Kd.Q_nil
theorem RQ_over' : ∀ {b_ : Bool} {α : Type}
  {d : Go.Proofs.YtfjbjiklohjodaaGreatDoorW.PrintWords.Kd α} {e e' : Nat} {w1 W : Go.World} {base : Nat}
  {ok : Nat → Prop} {u v : Go.Value} {xs : List α},
  RQ b_ d e W base ok u xs →
    (∀ (k : Nat),
        Go.Value.ownBlock v = Option.some k →
          ∃ (cells : Array Go.Value), (Go.World.heap W)[k]? = Option.some (Go.Obj.cells cells e')) →
      (∀ (q : Nat), q ∈ e :: Go.Proofs.YtfjbjiklohjodaaGreatDoorW.PrintWords.Kd.E d → q ≠ e') →
        Go.World.grownBy W w1 (Go.Value.ownBlock v) →
          RQ b_ d e w1 base ok u xs := by
  intro b_
  cases b_
  · exact @Kd.R_over'
  · exact @Kd.Q_over'
theorem RQ_reads' : ∀ {b_ : Bool} {α : Type}
  {d : Go.Proofs.YtfjbjiklohjodaaGreatDoorW.PrintWords.Kd α} {e : Nat} {w : Go.World} {base : Nat} {ok : Nat → Prop}
  {xs : List α} {A : Option Go.Addr} {n c : Nat},
  RQ b_ d e w base ok (Go.Value.slice A n c) xs →
    n = List.length xs ∧ n ≤ c ∧ Go.Proofs.YtfjbjiklohjodaaGreatDoorW.PrintWords.Kd.C d w A (List.length xs) xs := by
  intro b_
  cases b_
  · exact @Kd.R_reads'
  · exact @Kd.Q_reads'
theorem RQ_slice : ∀ {b_ : Bool} {α : Type}
  {d : Go.Proofs.YtfjbjiklohjodaaGreatDoorW.PrintWords.Kd α} {e : Nat} {w : Go.World} {base : Nat} {ok : Nat → Prop}
  {v : Go.Value} {xs : List α},
  RQ b_ d e w base ok v xs →
    ∃ (A : Option Go.Addr), ∃ (c : Nat), v = Go.Value.slice A (List.length xs) c := by
  intro b_
  cases b_
  · intros
    exact Kd.R_slice (by assumption)
  · intros
    obtain ⟨A, c, h_, _⟩ := Kd.Q_slice (by assumption)
    exact ⟨A, c, h_⟩
theorem RQ_tight : ∀ {b_ : Bool} {α : Type}
  {d : Go.Proofs.YtfjbjiklohjodaaGreatDoorW.PrintWords.Kd α} {e : Nat} {w : Go.World} {base : Nat} {ok : Nat → Prop}
  {v : Go.Value} {xs : List α},
  Go.Proofs.YtfjbjiklohjodaaGreatDoorW.PrintWords.Kd.E d = [] →
    RQ b_ d e w base ok v xs →
      RQ b_ d e w base
        (fun (k : Nat) ↦ Option.some k = Go.Value.ownBlock v) v xs := by
  intro b_
  cases b_
  · exact fun h1 h2 => Kd.R_tight h1 h2
  · exact fun h1 h2 => Kd.Q_tight h1 h2
theorem RQ_typed : ∀ {b_ : Bool} {α : Type}
  {d : Go.Proofs.YtfjbjiklohjodaaGreatDoorW.PrintWords.Kd α} {e : Nat} {w : Go.World} {base : Nat} {ok : Nat → Prop}
  {v : Go.Value} {xs : List α},
  RQ b_ d e w base ok v xs →
    ∀ (k : Nat),
      Go.Value.ownBlock v = Option.some k →
        ∃ (cells : Array Go.Value), (Go.World.heap w)[k]? = Option.some (Go.Obj.cells cells e) := by
  intro b_
  cases b_
  · exact @Kd.R_typed
  · exact @Kd.Q_typed
theorem RQ_types : ∀ {b_ : Bool} {α : Type}
  {d : Go.Proofs.YtfjbjiklohjodaaGreatDoorW.PrintWords.Kd α} {e : Nat} {w : Go.World} {base : Nat} {ok : Nat → Prop}
  {v : Go.Value} {xs : List α},
  RQ b_ d e w base ok v xs →
    ∀ {g t : Nat} {cells : Array Go.Value},
      (Go.World.heap w)[g]? = Option.some (Go.Obj.cells cells t) →
        (∀ (q : Nat), q ∈ e :: Go.Proofs.YtfjbjiklohjodaaGreatDoorW.PrintWords.Kd.E d → q ≠ t) →
          RQ b_ d e w base (fun (k : Nat) ↦ ok k ∧ k ≠ g) v xs := by
  intro b_
  cases b_
  · exact @Kd.R_types
  · exact @Kd.Q_types
theorem zr_ {b : Bool} {α : Type} {d : Kd α} {e : Nat} {w w' : World} {base : Nat} {ok : Nat → Prop} {v : Value} {xs : List α} (h : RQ b d e w base ok v xs) (hb : Below w.heap.size w w' := by (with_reducible repeat (first | apply below_alloc | apply pw_below_drewN | apply below_drew1)); exact Below.refl _ _) : RQ b d e w' base ok v xs := RQ_below h hb
end Go.Proofs.YtfjbjiklohjodaaGreatDoor.Q
namespace Go.Proofs.YtfjbjiklohjodaaGreatDoor.Q
open Go.RowKit Go.Proofs.YtfjbjiklohjodaaGreatDoorW.PrintWords Go.Proofs.YtfjbjiklohjodaaGreatDoorW.PrintLast Go.Proofs.YtfjbjiklohjodaaGreatDoorW.PrintMore
attribute [local go_sem] max2_int min2_int max_two min_two max_three min_three max_four min_four
set_option linter.unusedVariables false
set_option linter.unusedSimpArgs false
noncomputable section
attribute [local go_sem high] eqA62
set_option maxHeartbeats 8000000 in
set_option maxRecDepth 100000 in
theorem spec_l3Out.callsQ (k : Nat) (P0_ : Nat → Prop) (u9000_ : Value) (l0 : List (S111)) (a1_0 : Int) (a1_1 : Int) (r1 : List (S111)) (r2 : Int) (r3 : Bool) (w0 w : World) (hB : Below w0.heap.size w0 w) (ho0 : RQ true k111 111 w w0.heap.size P0_ u9000_ l0) (h : spec_l3Out.f k l0 a1_0 a1_1 = some (r1, r2, r3)) :
  Calls Tryz.prog 164 #[u9000_, .agg #[.int .i64 a1_0, .int .i64 a1_1]] w fun e w' => ∃ v0_ : Value, e = .returned (.tuple #[v0_, .int .i64 r2, .bool r3]) ∧ RQ true k111 111 w' w0.heap.size (fun k_ => (P0_ k_ ∨ w.heap.size ≤ k_)) v0_ r1 ∧ Below w0.heap.size w0 w' ∧ Kept w w' (fun k_ => P0_ k_) ∧ (r3 = false → v0_ = u9000_) := by
 have hu62 := Tryz.underlying62
 have hu111 := Tryz.underlying111
 have HO0 := Aside0.mk (show RQ true k111 111 w w0.heap.size (fun k_ => (P0_ k_ ∨ w.heap.size ≤ k_)) u9000_ l0 from RQ_mono ho0 (fun k_ hk => (.inl hk)))
 have HK := Aside0.mk (Kept.refl w (fun k_ => P0_ k_))
 have HW0 := Aside0.mk hB.size
 have HB := Aside0.mk hB
 clear hB
 have H : (spec_l3Out.l0 k l0 0 a1_0 a1_1) = some (r1, r2, r3) := h
 clear h
 have H' := Aside0.mk H
 clear H
 go_enter Tryz.func164, Tryz.ntmps164
 go_wp2_with (first | ((with_reducible refine gate_dst (N := 3) rfl ?_); refine zx_ (N := 3) #[.int .i64 a1_0, .int .i64 a1_1] 62 ?_; intro gb101 hg w3 hbox hb; replace HO0 := A_ (RQ_below (zr_ HO0.out) hb); have BK101 := A_ hbox; have GW101 := A_ ((d43_ : w.heap.size ≤ gb101)); replace HK := A_ (Kept.below (S := (fun k_ => P0_ k_)) d44_ hb); have GE101 := A_ ((d0_ : w0.heap.size ≤ gb101)); replace HB := A_ (below_step (zB_ HB.out) hb); clear hb hbox hg))
 repeat (go_quiet (first | ((with_reducible refine gate_dst (N := 3) rfl ?_); refine zx_ (N := 3) #[.int .i64 a1_0, .int .i64 a1_1] 62 ?_; intro gb101 hg w3 hbox hb; replace HO0 := A_ (RQ_below (zr_ HO0.out) hb); have BK101 := A_ hbox; have GW101 := A_ ((d43_ : w.heap.size ≤ gb101)); replace HK := A_ (Kept.below (S := (fun k_ => P0_ k_)) d44_ hb); have GE101 := A_ ((d0_ : w0.heap.size ≤ gb101)); replace HB := A_ (below_step (zB_ HB.out) hb); clear hb hbox hg)); try go_wp2_with (first | ((with_reducible refine gate_dst (N := 3) rfl ?_); refine zx_ (N := 3) #[.int .i64 a1_0, .int .i64 a1_1] 62 ?_; intro gb101 hg w3 hbox hb; replace HO0 := A_ (RQ_below (zr_ HO0.out) hb); have BK101 := A_ hbox; have GW101 := A_ ((d43_ : w.heap.size ≤ gb101)); replace HK := A_ (Kept.below (S := (fun k_ => P0_ k_)) d44_ hb); have GE101 := A_ ((d0_ : w0.heap.size ≤ gb101)); replace HB := A_ (below_step (zB_ HB.out) hb); clear hb hbox hg)))
 go_loopg [7] k (fun kq v7 w' => ∃ (x7_1 : Int), v7 = .int .i64 x7_1 ∧ Aside0 (spec_l3Out.l0 kq l0 x7_1 a1_0 a1_1 = some (r1, r2, r3)) ∧ Aside0 (kq ≤ k) ∧ Aside0 (RQ true k111 111 w' w0.heap.size (fun k_ => (P0_ k_ ∨ w.heap.size ≤ k_)) u9000_ l0) ∧ Aside0 (w'.heap[gb101]? = some (.cells #[.int .i64 a1_0, .int .i64 a1_1] 62 (0, 0))) ∧ Aside0 (Kept w w' (fun k_ => P0_ k_)) ∧ Aside0 (Below w0.heap.size w0 w'))
 case atStart => exact ⟨(0), zs_, H', ⟨Nat.le_refl _⟩, ⟨d70_⟩, ⟨d3_⟩, ⟨d46_⟩, ⟨d1_⟩⟩
 case round =>
  clear H'
  try clear c1
  try clear p2
  obtain ⟨x7_1, rfl, HA, HK1, HO_0, BK101, HK, HB⟩ := hrel
  cases gk with
  | zero => exact absurd HA.out (by simp [spec_l3Out.l0])
  | succ k1 =>
   have H := HA.out; clear HA; simp only [spec_l3Out.l0] at H
   by_cases c4 : x7_1 < (l0.length : Int)
   ·rw [if_pos c4] at H; have c4b0 : decide (x7_1 < (l0.length : Int)) = true := decide_eq_true c4; clear c4
    by_cases c5 : 0 ≤ x7_1
    ·rw [if_pos c5] at H; have c5b0 : decide (0 ≤ x7_1) = true := decide_eq_true c5; clear c5
     by_cases c6 : (((rd_T111 l0 x7_1).f1.f0) == a1_0 && (((rd_T111 l0 x7_1).f1.f1) == a1_1)) = true
     ·rw [if_pos c6] at H; have c6b0 : (((rd_T111 l0 x7_1).f1.f0) == a1_0 && (((rd_T111 l0 x7_1).f1.f1) == a1_1)) = true := c6; (try (have c6b1 : decide (((rd_T111 l0 x7_1).f1.f0) = a1_0 && (((rd_T111 l0 x7_1).f1.f1) == a1_1)) = true := by simpa using c6)); (try (have c6b2 : (((rd_T111 l0 x7_1).f1.f0) == a1_0 && (((rd_T111 l0 x7_1).f1.f1) == a1_1)) = true := by simpa using c6)); clear c6; simp only [Option.some.injEq, Prod.mk.injEq] at H; obtain ⟨rfl, rfl, rfl⟩ := H; obtain ⟨Ao7, co7, eo7⟩ := RQ_slice HO_0.out; subst eo7; have p102 : 0 ≤ (x7_1 : Int) := of_decide_eq_true d11_; have q102 : x7_1 < (l0.length : Int) := of_decide_eq_true d11_; obtain ⟨ad102, e102, hx102_0, hx102_1, hx102_2⟩ := at_T111 (RQ_reads' HO_0.out).2.2 x7_1 p102 q102
      cases e102
      replace p102 := eq_true p102; replace q102 := eq_true q102; have hcz8_0 : wr.cell? ⟨gb101, 0, none⟩ = some (.int .i64 a1_0) := (blk_cell BK101.out 0).trans rfl; have hcz8_1 : wr.cell? ⟨gb101, 1, none⟩ = some (.int .i64 a1_1) := (blk_cell BK101.out 1).trans rfl; have hfz8_0 := blk_frozen BK101.out 0; have hfz8_1 := blk_frozen BK101.out 1; have p103 : 0 ≤ (x7_1 : Int) := of_decide_eq_true d11_; have q103 : x7_1 < (l0.length : Int) := of_decide_eq_true d11_; obtain ⟨ad103, e103, hx103_0, hx103_1, hx103_2⟩ := at_T111 (RQ_reads' HO_0.out).2.2 x7_1 p103 q103; obtain rfl : ad102 = ad103 := (by injection e103); replace p103 := eq_true p103; replace q103 := eq_true q103
      go_wp2
      repeat (go_quiet (fail); try go_wp2)
      go_ret3
      exact ⟨_, d4_, d71_, d1_, d46_, d54_⟩
     rw [if_neg c6] at H
     have c6b0 : (((rd_T111 l0 x7_1).f1.f0) == a1_0 && (((rd_T111 l0 x7_1).f1.f1) == a1_1)) = false := by simpa using c6
     (try (have c6b1 : decide (((rd_T111 l0 x7_1).f1.f0) = a1_0 && (((rd_T111 l0 x7_1).f1.f1) == a1_1)) = false := by simpa using c6)); (try (have c6b2 : (((rd_T111 l0 x7_1).f1.f0) == a1_0 && (((rd_T111 l0 x7_1).f1.f1) == a1_1)) = false := by simpa using c6)); (try (have c6b3 : ¬ (((rd_T111 l0 x7_1).f1.f0) = a1_0 && (((rd_T111 l0 x7_1).f1.f1) == a1_1)) := by simpa using c6)); clear c6; have H' := Aside0.mk H; clear H; obtain ⟨Ao9, co9, eo9⟩ := RQ_slice HO_0.out; subst eo9; have p102 : 0 ≤ (x7_1 : Int) := of_decide_eq_true d11_; have q102 : x7_1 < (l0.length : Int) := of_decide_eq_true d11_; obtain ⟨ad102, e102, hx102_0, hx102_1, hx102_2⟩ := at_T111 (RQ_reads' HO_0.out).2.2 x7_1 p102 q102
     cases e102
     replace p102 := eq_true p102; replace q102 := eq_true q102; have hcz10_0 : wr.cell? ⟨gb101, 0, none⟩ = some (.int .i64 a1_0) := (blk_cell BK101.out 0).trans rfl; have hcz10_1 : wr.cell? ⟨gb101, 1, none⟩ = some (.int .i64 a1_1) := (blk_cell BK101.out 1).trans rfl; have hfz10_0 := blk_frozen BK101.out 0; have hfz10_1 := blk_frozen BK101.out 1
     go_wp2
     repeat (go_quiet (fail); try go_wp2)
     go_roundg k1
     case measure => have := HK1.out; omega
     case rel => exact ⟨(wrap64 (x7_1 + 1)), zs_, H', ⟨d23_⟩, ⟨d71_⟩, ⟨d3_⟩, ⟨d46_⟩, ⟨d1_⟩⟩
    rw [if_neg c5] at H; exact absurd H (by simp)
   rw [if_neg c4] at H; have c4b0 : decide (x7_1 < (l0.length : Int)) = false := decide_eq_false c4; clear c4
   by_cases c11 : (l0.length : Int) > 7
   ·rw [if_pos c11] at H; have c11b0 : decide (7 < (l0.length : Int)) = true := decide_eq_true c11; have c11b1 : decide (7 < l0.length) = true := decide_eq_true (by omega); clear c11; simp only [Option.some.injEq, Prod.mk.injEq] at H; obtain ⟨rfl, rfl, rfl⟩ := H; obtain ⟨Ao12, co12, eo12⟩ := RQ_slice HO_0.out; subst eo12
    go_wp2
    repeat (go_quiet (fail); try go_wp2)
    go_ret3
    exact ⟨_, d4_, d71_, d1_, d46_, d54_⟩
   rw [if_neg c11] at H; have c11b0 : decide (7 < (l0.length : Int)) = false := decide_eq_false c11; have c11b1 : decide (7 < l0.length) = false := decide_eq_false (by omega); clear c11
   by_cases c13 : l0.length < 5864062014805
   ·rw [if_pos c13] at H; have LMc13 := Aside0.mk c13; clear c13; obtain ⟨y104, hy104⟩ : ∃ y_ : List (S111), y_ = (l0 ++ [(⟨wrap64 (10 + (l0.length : Int)), (⟨a1_0, a1_1⟩ : S62)⟩ : S111)]) := ⟨_, rfl⟩
    replace H : (some (y104, wrap64 (10 + (l0.length : Int)), true)) = some (r1, r2, r3) := by first | (rw [hy104]; with_reducible exact H) | (have H2_ := (Option.bind_some _ _).symm.trans H; rw [hy104]; with_reducible exact H2_) | (have H2_ := (Option.bind_some _ _).symm.trans H; with_reducible exact H2_) | with_reducible exact H | (rw [hy104]; exact H) | exact H
    have Ny104 := Aside0.mk hy104; clear hy104; simp only [Option.some.injEq, Prod.mk.injEq] at H; obtain ⟨rfl, rfl, rfl⟩ := H; obtain ⟨Ao14, co14, eo14⟩ := RQ_slice HO_0.out; subst eo14; have hcz15_0 : wr.cell? ⟨gb101, 0, none⟩ = some (.int .i64 a1_0) := (blk_cell BK101.out 0).trans rfl; have hcz15_1 : wr.cell? ⟨gb101, 1, none⟩ = some (.int .i64 a1_1) := (blk_cell BK101.out 1).trans rfl; have hfz15_0 := blk_frozen BK101.out 0; have hfz15_1 := blk_frozen BK101.out 1
    go_wp2_with (first | ((with_reducible refine gate_builtin (b := .append) (xs := #[.tmp 35, .tmp 39]) rfl ?_); at_builtin; refine RQ_append (b_ := true) k111 (w0 := w0) w0.heap.size rfl (.tmp 35) (.tmp 39) 23 111 (.agg #[(.int .i64 0), (.int .i64 0), (.int .i64 0)]) 24 rfl Tryz.underlying23 info111 rfl (by decide) (by omega) (.slice Ao14 l0.length co14) l0 (⟨wrap64 (10 + (l0.length : Int)), (⟨a1_0, a1_1⟩ : S62)⟩ : S111) [.int .i64 (wrap64 (10 + (l0.length : Int))), .int .i64 a1_0, .int .i64 a1_1] (fun k_ => (P0_ k_ ∨ w.heap.size ≤ k_)) (fun _ => False) rfl rfl ?aP (fun _ hk => hk.elim) ?aF ?aO ?aB ?aS ?aL ?_; (case aP => exact d48_); (case aB => exact d49_); (case aF => exact d50_); (case aO => exact (zr_ HO_0.out)); (case aS => exact d51_); (case aL => exact d52_); intro v105 w16 ho hb hg hat; rw [← Ny104.out] at ho; replace BK101 := A_ (blk_grown (g := gb101) (o := .cells #[.int .i64 a1_0, .int .i64 a1_1] 62 (0, 0)) (zb_ BK101.out) hg (RQ_ne HO_0.out BK101.out (by decide))); replace HB := A_ hb; replace HK := A_ (Kept.of_grown (S := (fun k_ => P0_ k_)) hg d46_ (fun k_ e_ => (HO_0.out.1 k_ e_))); have HO106 := A_ ho; clear HO_0; clear ho hb hg hat))
    repeat (go_quiet (first | ((with_reducible refine gate_builtin (b := .append) (xs := #[.tmp 35, .tmp 39]) rfl ?_); at_builtin; refine RQ_append (b_ := true) k111 (w0 := w0) w0.heap.size rfl (.tmp 35) (.tmp 39) 23 111 (.agg #[(.int .i64 0), (.int .i64 0), (.int .i64 0)]) 24 rfl Tryz.underlying23 info111 rfl (by decide) (by omega) (.slice Ao14 l0.length co14) l0 (⟨wrap64 (10 + (l0.length : Int)), (⟨a1_0, a1_1⟩ : S62)⟩ : S111) [.int .i64 (wrap64 (10 + (l0.length : Int))), .int .i64 a1_0, .int .i64 a1_1] (fun k_ => (P0_ k_ ∨ w.heap.size ≤ k_)) (fun _ => False) rfl rfl ?aP (fun _ hk => hk.elim) ?aF ?aO ?aB ?aS ?aL ?_; (case aP => exact d48_); (case aB => exact d49_); (case aF => exact d50_); (case aO => exact (zr_ HO_0.out)); (case aS => exact d51_); (case aL => exact d52_); intro v105 w16 ho hb hg hat; rw [← Ny104.out] at ho; replace BK101 := A_ (blk_grown (g := gb101) (o := .cells #[.int .i64 a1_0, .int .i64 a1_1] 62 (0, 0)) (zb_ BK101.out) hg (RQ_ne HO_0.out BK101.out (by decide))); replace HB := A_ hb; replace HK := A_ (Kept.of_grown (S := (fun k_ => P0_ k_)) hg d46_ (fun k_ e_ => (HO_0.out.1 k_ e_))); have HO106 := A_ ho; clear HO_0; clear ho hb hg hat)); try go_wp2_with (first | ((with_reducible refine gate_builtin (b := .append) (xs := #[.tmp 35, .tmp 39]) rfl ?_); at_builtin; refine RQ_append (b_ := true) k111 (w0 := w0) w0.heap.size rfl (.tmp 35) (.tmp 39) 23 111 (.agg #[(.int .i64 0), (.int .i64 0), (.int .i64 0)]) 24 rfl Tryz.underlying23 info111 rfl (by decide) (by omega) (.slice Ao14 l0.length co14) l0 (⟨wrap64 (10 + (l0.length : Int)), (⟨a1_0, a1_1⟩ : S62)⟩ : S111) [.int .i64 (wrap64 (10 + (l0.length : Int))), .int .i64 a1_0, .int .i64 a1_1] (fun k_ => (P0_ k_ ∨ w.heap.size ≤ k_)) (fun _ => False) rfl rfl ?aP (fun _ hk => hk.elim) ?aF ?aO ?aB ?aS ?aL ?_; (case aP => exact d48_); (case aB => exact d49_); (case aF => exact d50_); (case aO => exact (zr_ HO_0.out)); (case aS => exact d51_); (case aL => exact d52_); intro v105 w16 ho hb hg hat; rw [← Ny104.out] at ho; replace BK101 := A_ (blk_grown (g := gb101) (o := .cells #[.int .i64 a1_0, .int .i64 a1_1] 62 (0, 0)) (zb_ BK101.out) hg (RQ_ne HO_0.out BK101.out (by decide))); replace HB := A_ hb; replace HK := A_ (Kept.of_grown (S := (fun k_ => P0_ k_)) hg d46_ (fun k_ e_ => (HO_0.out.1 k_ e_))); have HO106 := A_ ho; clear HO_0; clear ho hb hg hat)))
    go_ret3
    exact ⟨_, d4_, by (with_reducible repeat (first | apply RQ_alloc | apply RQ_drewN | apply RQ_drew)); exact HO106.out, d1_, d46_, d54_⟩
   rw [if_neg c13] at H; exact absurd H (by simp)
end
end Go.Proofs.YtfjbjiklohjodaaGreatDoor.Q
namespace Go.Proofs.YtfjbjiklohjodaaGreatDoor.Q
open Go.RowKit Go.Proofs.YtfjbjiklohjodaaGreatDoorW.PrintWords Go.Proofs.YtfjbjiklohjodaaGreatDoorW.PrintMore Go.Proofs.YtfjbjiklohjodaaGreatDoor.Z
set_option linter.unusedVariables false
set_option linter.unusedSimpArgs false
attribute [local go_sem ↓] Go.wp_at_zero Go.wp_at_succ
set_option maxHeartbeats 1000000 in
theorem spec_l3PieceOut.callsQ (P0_ : Nat → Prop) (u9000_ : Value) (l0 : List (S111)) (a1_0 : Int) (a1_1 : Bool) (a1_2 : Int) (a1_3 : Int) (a2 : ByteArray) (r1 : List (S111)) (r2 : ByteArray) (w0 w : World) (hB : Below w0.heap.size w0 w) (ho0 : RQ true k111 111 w w0.heap.size P0_ u9000_ l0) (h : spec_l3PieceOut.f l0 a1_0 a1_1 a1_2 a1_3 a2 = some (r1, r2)) :
  Calls Tryz.prog 122 #[u9000_, .agg #[.int .i64 a1_0, .bool a1_1, .int .i64 a1_2, .int .i64 a1_3], .string a2] w fun e w' => ∃ v0_ : Value, e = .returned (.tuple #[v0_, .string r2]) ∧ RQ true k111 111 w' w0.heap.size (fun k_ => (P0_ k_ ∨ w.heap.size ≤ k_)) v0_ r1 ∧ Below w0.heap.size w0 w' ∧ Kept w w' (fun k_ => P0_ k_) := by
 unfold spec_l3PieceOut.f at h
 split at h
 ·rename_i hs; have h2 := Option.some.inj h; simp only [Prod.mk.injEq] at h2; obtain ⟨h3, h4⟩ := h2; have HO := Aside0.mk ho0; have HB := Aside0.mk hB; clear h ho0 hB; have hin : (⟨a1_2, a1_3⟩ : En) = ⟨a1_2, a1_3⟩ := rfl; obtain ⟨A, c, e9⟩ := RQ_slice HO.out; subst e9
  have hstay : ∀ n : Bool, (n && insideB ⟨a1_2, a1_3⟩ && (outS (l0.map prOf) ⟨a1_2, a1_3⟩).2.2) = false → (pieceOut (l0.map prOf) n ⟨a1_2, a1_3⟩ (bl a2)).1.map prTo = l0 ∧ (⟨(pieceOut (l0.map prOf) n ⟨a1_2, a1_3⟩ (bl a2)).2.toArray⟩ : ByteArray) = a2 := by
   intro n hn; unfold pieceOut
   cases hc : (n && insideB ⟨a1_2, a1_3⟩)
   ·exact ⟨prs_to_of l0, rfl⟩
   ·rw [hc, Bool.true_and] at hn; rw [hn]; exact ⟨prs_to_of l0, rfl⟩
  cases a1_1 with
  | false =>
   obtain ⟨e1, e2⟩ := hstay false rfl; rw [e1] at h3; rw [e2] at h4; subst h3 h4; clear hstay e1 e2
   go_enter Tryz.func122, Tryz.ntmps122
   go_wp2
   go_ret2
   exact ⟨_, rfl, RQ_alloc (RQ_mono HO.out (fun _ hk => .inl hk)) _, below_alloc HB.out _, (Kept.refl w _).alloc _⟩
  | true =>
   cases hi : insideB ⟨a1_2, a1_3⟩ with
   | false =>
    obtain ⟨e1, e2⟩ := hstay true (by rw [hi]; rfl); rw [e1] at h3; rw [e2] at h4; subst h3 h4; have HI := Aside0.mk (show spec_EndInside.f a1_2 a1_3 = some false from congrArg some hi); clear hstay e1 e2 hi
    go_enter Tryz.func122, Tryz.ntmps122
    go_wp2_with (go_at_call 72; refine (spec_EndInside.calls a1_2 a1_3 false _ HI.out).mono ?_; rintro e w2 ⟨rfl, hb⟩; have HB2 := Aside0.mk hb; clear hb)
    go_ret2
    exact ⟨_, rfl, RQ_below (RQ_alloc (RQ_mono HO.out (fun _ hk => .inl hk)) _) HB2.out, below_step (below_alloc HB.out _) HB2.out, ((Kept.refl w _).alloc _).below HB2.out⟩
   | true =>
    have HI := Aside0.mk (show spec_EndInside.f a1_2 a1_3 = some true from congrArg some hi); have HL := Aside0.mk (l3Out_to (l0.length + 1) (l0.map prOf) (by rw [List.length_map]; exact hs) (by rw [List.length_map]; omega) ⟨a1_2, a1_3⟩); rw [prs_to_of] at HL; obtain ⟨x1, x2, x3, hx⟩ : ∃ x1 x2 x3, outS (l0.map prOf) ⟨a1_2, a1_3⟩ = (x1, x2, x3) := ⟨_, _, _, rfl⟩; rw [hx] at HL
    have hk2 : ∀ w2 : World, Below (w.alloc (.cells #[.int .i64 a1_0, .bool true, .int .i64 a1_2, .int .i64 a1_3] 116 (0, 0))).heap.size (w.alloc (.cells #[.int .i64 a1_0, .bool true, .int .i64 a1_2, .int .i64 a1_3] 116 (0, 0))) w2 → w.heap.size ≤ w2.heap.size ∧ Kept w w2 (fun k_ => P0_ k_) := fun w2 hb => ⟨(((Kept.refl w (fun k_ => P0_ k_)).alloc _).below hb).1, ((Kept.refl w _).alloc _).below hb⟩
    cases x3 with
    | false =>
     obtain ⟨e1, e2⟩ := hstay true (by rw [hx]; simp); rw [e1] at h3; rw [e2] at h4
     have hx1 : x1.map prTo = l0 := by
      have h8 := congrArg (fun t : List Pr × Int × Bool => (t.2.2, t.1)) hx; simp only [Prod.mk.injEq] at h8
      have h9 : (outS (l0.map prOf) ⟨a1_2, a1_3⟩).1 = l0.map prOf := by
       have h10 := h8.1; rw [outS_of] at h10 ⊢
       cases hq : outAt (l0.map prOf) ⟨a1_2, a1_3⟩ 0 with
       | some p => rfl
       | none =>
        rw [hq] at h10; simp only at h10 ⊢
        split at h10
        ·rename_i h7; rw [if_pos h7]
        ·cases h10
      rw [← h8.2, h9, prs_to_of]
     rw [hx1] at HL; subst h3 h4; clear hstay e1 e2 hi hx hx1
     go_enter Tryz.func122, Tryz.ntmps122
     go_wp2_with (first
      | (go_at_call 72; refine (spec_EndInside.calls a1_2 a1_3 true _ HI.out).mono ?_; rintro e w2 ⟨rfl, hb⟩; have BK := blk_below (g := w.heap.size) (o := .cells #[.int .i64 a1_0, .bool true, .int .i64 a1_2, .int .i64 a1_3] 116 (0, 0)) (heap_alloc_new w _) hb; have c2 : w2.cell? ⟨w.heap.size, 2, none⟩ = some (.int .i64 a1_2) := (blk_cell BK 2).trans rfl; have c3 : w2.cell? ⟨w.heap.size, 3, none⟩ = some (.int .i64 a1_3) := (blk_cell BK 3).trans rfl; have z2 := blk_frozen BK 2; have z3 := blk_frozen BK 3; have HB2 := Aside0.mk hb; clear hb BK)
      | (go_at_call 164; refine (spec_l3Out.callsQ (l0.length + 1) P0_ (.slice A l0.length c) l0 a1_2 a1_3 _ _ _ w0 _ ?hB ?hR HL.out).mono ?_; (case hB => exact below_step (below_alloc HB.out _) HB2.out); (case hR => exact RQ_below (RQ_alloc HO.out _) HB2.out); rintro e w3 ⟨v3, rfl, hR3, hB3, hK3, hv3⟩; have HR3 := Aside0.mk hR3; have HB3 := Aside0.mk hB3; have HK3 := Aside0.mk hK3; have HV3 := Aside0.mk (hv3 rfl); clear hR3 hB3 hK3 hv3))
     obtain ⟨hs2, hK2⟩ := hk2 _ HB2.out
     go_ret2
     exact ⟨_, rfl, by rw [← HV3.out]; exact RQ_mono HR3.out (fun k hk => hk.elim .inl (fun h9 => .inr (Nat.le_trans hs2 h9))), HB3.out, hK2.then_ HK3.out (fun _ hk => .inl hk)⟩
    | true =>
     have hm : pieceOut (l0.map prOf) true ⟨a1_2, a1_3⟩ (bl a2) = (x1, nameOf ⟨9, x2⟩) := by
      unfold pieceOut; rw [hi, hx]; rfl
     rw [hm] at h3 h4; simp only at h3 h4; subst h3; have hl := endText_len ⟨9, x2⟩; have HE := Aside0.mk (show spec_EndText.f 9 x2 = some ⟨(endText ⟨9, x2⟩).toArray⟩ from rfl)
     have H4 := Aside0.mk (show ((⟨#[64]⟩ : ByteArray) ++ ⟨(endText ⟨9, x2⟩).toArray⟩) ++ (⟨#[59]⟩ : ByteArray) = r2 by
      rw [← h4]
      apply ByteArray.ext
      simp [nameOf])
     have s1 : ((⟨#[64]⟩ : ByteArray) ++ ⟨(endText ⟨9, x2⟩).toArray⟩).size = 1 + (endText ⟨9, x2⟩).length := by rw [ByteArray.size_append]; rfl
     have s2 : (⟨(endText ⟨9, x2⟩).toArray⟩ : ByteArray).size = (endText ⟨9, x2⟩).length := rfl
     have t1 : ¬ (9223372036854775807 < 1 + (endText ⟨9, x2⟩).length) := by omega
     have t2 : ¬ (9223372036854775807 < 1 + (endText ⟨9, x2⟩).length + 1) := by omega
     clear hstay hi hx h4 hm hl
     go_enter Tryz.func122, Tryz.ntmps122
     go_wp2_with (first
      | (go_at_call 72; refine (spec_EndInside.calls a1_2 a1_3 true _ HI.out).mono ?_; rintro e w2 ⟨rfl, hb⟩; have BK := blk_below (g := w.heap.size) (o := .cells #[.int .i64 a1_0, .bool true, .int .i64 a1_2, .int .i64 a1_3] 116 (0, 0)) (heap_alloc_new w _) hb; have c2 : w2.cell? ⟨w.heap.size, 2, none⟩ = some (.int .i64 a1_2) := (blk_cell BK 2).trans rfl; have c3 : w2.cell? ⟨w.heap.size, 3, none⟩ = some (.int .i64 a1_3) := (blk_cell BK 3).trans rfl; have z2 := blk_frozen BK 2; have z3 := blk_frozen BK 3; have HB2 := Aside0.mk hb; clear hb BK)
      | (go_at_call 164; refine (spec_l3Out.callsQ (l0.length + 1) P0_ (.slice A l0.length c) l0 a1_2 a1_3 _ _ _ w0 _ ?hB ?hR HL.out).mono ?_; (case hB => exact below_step (below_alloc HB.out _) HB2.out); (case hR => exact RQ_below (RQ_alloc HO.out _) HB2.out); rintro e w3 ⟨v3, rfl, hR3, hB3, hK3, hv3⟩; have HR3 := Aside0.mk hR3; have HB3 := Aside0.mk hB3; have HK3 := Aside0.mk hK3; skip; clear hR3 hB3 hK3 hv3)
      | (go_at_call 118; refine (spec_EndText.calls 9 x2 _ _ HE.out).mono ?_; rintro e w4 ⟨rfl, hb⟩; have HB4 := Aside0.mk hb; clear hb))
     obtain ⟨hs2, hK2⟩ := hk2 _ HB2.out
     go_ret2
     refine ⟨_, ?_, RQ_below (RQ_mono HR3.out (fun k hk => hk.elim .inl (fun h9 => .inr (Nat.le_trans hs2 h9)))) HB4.out, below_step HB3.out HB4.out, (hK2.then_ HK3.out (fun _ hk => .inl hk)).below HB4.out⟩; rw [← H4.out]; rfl
 cases h
end Go.Proofs.YtfjbjiklohjodaaGreatDoor.Q
namespace Go.Proofs.YtfjbjiklohjodaaGreatDoor.Q
open Go.RowKit Go.Proofs.YtfjbjiklohjodaaGreatDoorW.PrintWords Go.Proofs.YtfjbjiklohjodaaGreatDoorW.PrintLast Go.Proofs.YtfjbjiklohjodaaGreatDoorW.PrintMore
attribute [local go_sem] max2_int min2_int max_two min_two max_three min_three max_four min_four
set_option linter.unusedVariables false
set_option linter.unusedSimpArgs false
noncomputable section
def spec_l11Done.l0 : Nat → Int → Int → ByteArray → List (S109) → Option (Int)
 | 0, _, _, _, _ => none
 | k + 1, x3, x4, x102000, x102001 => if x4 < (x102001.length : Int) then (if 0 ≤ x4 then (spec_l11Done.l0 k (wrap64 (x3 + ((rd_T109 x102001 x4).f0))) (wrap64 (x4 + 1)) x102000 x102001) else (none)) else (some x3)
def spec_l11Done.f (k : Nat) (a0_0 : ByteArray) (l0_1 : List (S109)) : Option (Int) := spec_l11Done.l0 k 0 0 a0_0 l0_1
theorem spec_l11Done.mono_l : ∀ k, (∀ y0 y1 y2 y3, LeO (spec_l11Done.l0 k y0 y1 y2 y3) (spec_l11Done.l0 (k + 1) y0 y1 y2 y3))
 | 0 => fun _ _ _ _ r h => by simp [spec_l11Done.l0] at h
 | k + 1 => by
  have ih0 := spec_l11Done.mono_l k
  ·intro y0 y1 y2 y3
   unfold spec_l11Done.l0
   exact zq_
theorem spec_l11Done.mono : ∀ a0 a1 k, LeO (spec_l11Done.f k a0 a1) (spec_l11Done.f (k + 1) a0 a1) := by
 intro a0 a1 k
 have ih0 := spec_l11Done.mono_l k
 unfold spec_l11Done.f
 exact zq_
set_option maxHeartbeats 8000000 in
set_option maxRecDepth 100000 in
theorem spec_l11Done.calls (k : Nat) (a0_0 : ByteArray) (A0_1 : Option Addr) (c0_1 : Nat) (l0_1 : List (S109)) (r : Int) (w : World) (hr0_1 : Kd.C k109 w A0_1 l0_1.length l0_1) (hc0_1 : l0_1.length ≤ c0_1) (h : spec_l11Done.f k a0_0 l0_1 = some r) :
  Calls Tryz.prog 120 #[.agg #[.string a0_0, .slice A0_1 l0_1.length c0_1]] w fun e w' => e = .returned (.int .i64 r) ∧ Below w.heap.size w w' := by
 have hu26 := Tryz.underlying26
 have HR0_1 := Aside0.mk hr0_1
 have HC0_1 := Aside0.mk hc0_1
 clear hr0_1 hc0_1
 have HB := Aside0.mk (Below.refl w.heap.size w)
 have H : (spec_l11Done.l0 k 0 0 a0_0 l0_1) = some r := h
 clear h
 have H' := Aside0.mk H
 clear H
 go_enter Tryz.func120, Tryz.ntmps120
 go_wp2_with (first | ((with_reducible refine gate_dst (N := 1) rfl ?_); refine zx_ (N := 1) #[.string a0_0, .slice A0_1 l0_1.length c0_1] 26 ?_; intro gb101 hg w2 hbox hb; have BK101 := A_ hbox; have GW101 := A_ ((d0_ : w.heap.size ≤ gb101)); have GE101 := A_ ((d0_ : w.heap.size ≤ gb101)); replace HB := A_ (below_step (zB_ HB.out) hb); clear hb hbox hg))
 go_loopg [3, 4] k (fun kq v3 v4 w' => ∃ (x3_1 : Int) (x4_1 : Int), v3 = .int .i64 x3_1 ∧ v4 = .int .i64 x4_1 ∧ Aside0 (spec_l11Done.l0 kq x3_1 x4_1 a0_0 l0_1 = some r) ∧ Aside0 (kq ≤ k) ∧ Aside0 (w'.heap[gb101]? = some (.cells #[.string a0_0, (.slice A0_1 l0_1.length c0_1)] 26 (0, 0))) ∧ Aside0 (Below w.heap.size w w'))
 case atStart => exact ⟨(0), (0), zs_, zs_, H', ⟨Nat.le_refl _⟩, ⟨d3_⟩, ⟨d1_⟩⟩
 case round =>
  clear H'
  try clear c1
  try clear p2
  obtain ⟨x3_1, x4_1, rfl, rfl, HA, HK1, BK101, HB⟩ := hrel
  cases gk with
  | zero => exact absurd HA.out (by simp [spec_l11Done.l0])
  | succ k1 =>
   have H := HA.out; clear HA; simp only [spec_l11Done.l0] at H
   by_cases c3 : x4_1 < (l0_1.length : Int)
   ·rw [if_pos c3] at H; have c3b0 : decide (x4_1 < (l0_1.length : Int)) = true := decide_eq_true c3; clear c3
    by_cases c4 : 0 ≤ x4_1
    ·rw [if_pos c4] at H; have c4b0 : decide (0 ≤ x4_1) = true := decide_eq_true c4; clear c4; have H' := Aside0.mk H; clear H; have hcz5_0 : wr.cell? ⟨gb101, 0, none⟩ = some (.string a0_0) := (blk_cell BK101.out 0).trans rfl; have hcz5_1 : wr.cell? ⟨gb101, 1, none⟩ = some (.slice A0_1 l0_1.length c0_1) := (blk_cell BK101.out 1).trans rfl; have hfz5_0 := blk_frozen BK101.out 0; have hfz5_1 := blk_frozen BK101.out 1; have p102 : 0 ≤ (x4_1 : Int) := of_decide_eq_true d11_; have q102 : x4_1 < (l0_1.length : Int) := of_decide_eq_true d11_; obtain ⟨ad102, e102, hx102_0, hx102_1⟩ := at_T109 HR0_1.out x4_1 p102 q102
     cases e102
     replace hx102_0 := (HB.out.cell (World.block_lt_of_cell? w _ hx102_0)).trans hx102_0; replace hx102_1 := (HB.out.cell (World.block_lt_of_cell? w _ hx102_1)).trans hx102_1; replace p102 := eq_true p102; replace q102 := eq_true q102
     go_wp2
     go_roundg k1
     case measure => have := HK1.out; omega
     case rel => exact ⟨(wrap64 (x3_1 + ((rd_T109 l0_1 x4_1).f0))), (wrap64 (x4_1 + 1)), zs_, zs_, H', ⟨d23_⟩, ⟨d3_⟩, ⟨d1_⟩⟩
    rw [if_neg c4] at H; exact absurd H (by simp)
   rw [if_neg c3] at H; have c3b0 : decide (x4_1 < (l0_1.length : Int)) = false := decide_eq_false c3; clear c3; obtain rfl := Option.some.inj H; have hcz6_0 : wr.cell? ⟨gb101, 0, none⟩ = some (.string a0_0) := (blk_cell BK101.out 0).trans rfl; have hcz6_1 : wr.cell? ⟨gb101, 1, none⟩ = some (.slice A0_1 l0_1.length c0_1) := (blk_cell BK101.out 1).trans rfl; have hfz6_0 := blk_frozen BK101.out 0; have hfz6_1 := blk_frozen BK101.out 1
   go_wp2
   go_ret
   exact ⟨d4_, d1_⟩
end
end Go.Proofs.YtfjbjiklohjodaaGreatDoor.Q
namespace Go.Proofs.YtfjbjiklohjodaaGreatDoor.Q
open Go.RowKit Go.Proofs.YtfjbjiklohjodaaGreatDoorW.PrintWords Go.Proofs.YtfjbjiklohjodaaGreatDoorW.PrintLast Go.Proofs.YtfjbjiklohjodaaGreatDoorW.PrintMore
attribute [local go_sem] max2_int min2_int max_two min_two max_three min_three max_four min_four
set_option linter.unusedVariables false
set_option linter.unusedSimpArgs false
noncomputable section
mutual
def spec_l11Put.j0 : Nat → List (S111) → Int → ByteArray → Bool → Int → Bool → ByteArray → List (S109) → Option ((List (S111)) × ByteArray × (List (S109)) × Bool)
 | 0, _, _, _, _, _, _, _, _ => none
 | k + 1, x0, x2, x3, x4, x13, x33, x102000, x102001 => if x33 = true then (some (x0, x102000, x102001, false)) else (if (wrap64 (x2 + (x3.size : Int))) ≤ x13 then (some (x0, x102000, x102001, true)) else (if 0 ≤ (wrap64 (x13 - x2)) then (if (wrap64 (x13 - x2)) ≤ (x3.size : Int) then (if x102000.size + (x3.extract ((wrap64 (x13 - x2)) : Int).toNat x3.size).size ≤ 9223372036854775807 then ((spec_l11Done.f k x102000 x102001).bind fun t103 => ((spec_l2Pieces.f k (x102000 ++ (x3.extract ((wrap64 (x13 - x2)) : Int).toNat x3.size))).bind fun t104 => ((some (([] : List (S109)) : List (S109))).bind fun y107 => (if y107.length + x102001.length < 5864062014805 then (spec_l11Put.l0 k x0 x4 (x102000 ++ (x3.extract ((wrap64 (x13 - x2)) : Int).toNat x3.size)) t103 t104 (x102001.length : Int) (x102000 ++ (x3.extract ((wrap64 (x13 - x2)) : Int).toNat x3.size)) (y107 ++ x102001)) else (none))))) else (none)) else (none)) else (none)))
def spec_l11Put.l0 : Nat → List (S111) → Bool → ByteArray → Int → List (S116) → Int → ByteArray → List (S109) → Option ((List (S111)) × ByteArray × (List (S109)) × Bool)
 | 0, _, _, _, _, _, _, _, _ => none
 | k + 1, x0, x4, x14, x15, x16, x18, x114000, x114001 => if x18 < (x16.length : Int) then (if 0 ≤ x18 then (if 0 ≤ x15 then (if x15 ≤ (wrap64 (x15 + ((rd_T116 x16 x18).f0))) then (if (wrap64 (x15 + ((rd_T116 x16 x18).f0))) ≤ (x14.size : Int) then (if x4 = true then ((spec_l3PieceOut.f x0 ((rd_T116 x16 x18).f0) ((rd_T116 x16 x18).f1) ((rd_T116 x16 x18).f2.f0) ((rd_T116 x16 x18).f2.f1) (x14.extract (x15 : Int).toNat ((wrap64 (x15 + ((rd_T116 x16 x18).f0))) : Int).toNat)).bind fun bt116 => (if x114001.length < 5864062014805 then (spec_l11Put.l0 k bt116.1 x4 x14 (wrap64 (x15 + ((rd_T116 x16 x18).f0))) x16 (wrap64 (x18 + 1)) x114000 (x114001 ++ [(⟨(rd_T116 x16 x18).f0, bt116.2⟩ : S109)])) else (none))) else ((spec_l3PieceIn.f k x0 ((rd_T116 x16 x18).f0) ((rd_T116 x16 x18).f1) ((rd_T116 x16 x18).f2.f0) ((rd_T116 x16 x18).f2.f1) (x14.extract (x15 : Int).toNat ((wrap64 (x15 + ((rd_T116 x16 x18).f0))) : Int).toNat)).bind fun t126 => (if x114001.length < 5864062014805 then (spec_l11Put.l0 k x0 x4 x14 (wrap64 (x15 + ((rd_T116 x16 x18).f0))) x16 (wrap64 (x18 + 1)) x114000 (x114001 ++ [(⟨(rd_T116 x16 x18).f0, t126⟩ : S109)])) else (none)))) else (none)) else (none)) else (none)) else (none)) else (some (x0, x114000, x114001, true))
end
def spec_l11Put.f (k : Nat) (l0 : List (S111)) (a1_0 : ByteArray) (l1_1 : List (S109)) (a2 : Int) (a3 : ByteArray) (a4 : Bool) : Option ((List (S111)) × ByteArray × (List (S109)) × Bool) := if a2 > (a1_0.size : Int) then (spec_l11Put.j0 k l0 a2 a3 a4 (a1_0.size : Int) true a1_0 l1_1) else (spec_l11Put.j0 k l0 a2 a3 a4 (a1_0.size : Int) (decide ((wrap64 (a2 + (a3.size : Int))) > 40)) a1_0 l1_1)
theorem spec_l11Put.mono_l : ∀ k, (∀ y0 y1 y2 y3 y4 y5 y6 y7, LeO (spec_l11Put.j0 k y0 y1 y2 y3 y4 y5 y6 y7) (spec_l11Put.j0 (k + 1) y0 y1 y2 y3 y4 y5 y6 y7)) ∧ (∀ y0 y1 y2 y3 y4 y5 y6 y7, LeO (spec_l11Put.l0 k y0 y1 y2 y3 y4 y5 y6 y7) (spec_l11Put.l0 (k + 1) y0 y1 y2 y3 y4 y5 y6 y7))
 | 0 => ⟨fun _ _ _ _ _ _ _ _ r h => by simp [spec_l11Put.j0] at h, fun _ _ _ _ _ _ _ _ r h => by simp [spec_l11Put.l0] at h⟩
 | k + 1 => by
  obtain ⟨ih0, ih1⟩ := spec_l11Put.mono_l k
  refine ⟨?_, ?_⟩
  ·intro y0 y1 y2 y3 y4 y5 y6 y7
   unfold spec_l11Put.j0
   have m0 := @spec_l11Done.mono
   have m1 := @spec_l2Pieces.mono
   have m2 := @spec_l3PieceIn.mono
   exact zq_
  ·intro y0 y1 y2 y3 y4 y5 y6 y7
   unfold spec_l11Put.l0
   have m0 := @spec_l11Done.mono
   have m1 := @spec_l2Pieces.mono
   have m2 := @spec_l3PieceIn.mono
   exact zq_
theorem spec_l11Put.mono : ∀ a0 a1 a2 a3 a4 a5 k, LeO (spec_l11Put.f k a0 a1 a2 a3 a4 a5) (spec_l11Put.f (k + 1) a0 a1 a2 a3 a4 a5) := by
 intro a0 a1 a2 a3 a4 a5 k
 obtain ⟨ih0, ih1⟩ := spec_l11Put.mono_l k
 unfold spec_l11Put.f
 have m0 := @spec_l11Done.mono
 have m1 := @spec_l2Pieces.mono
 have m2 := @spec_l3PieceIn.mono
 exact zq_
def spec_l11Put.T6 : Bool × List (List Nat × List Nat) := (true, [([], []), ([0], [0]), ([], []), ([], []), ([], []), ([3, 4], [3, 4]), ([2, 5], [2, 5]), ([1, 6], [1, 6]), ([7, 0, 1, 2, 3, 4, 5, 6, 7], [7])])
def spec_l11Put.B6 : List Nat := [0, 1, 0, 0, 0, 24, 60, 127, 255]
theorem spec_l11Put.tab6 : rtab .any (opsOf Tryz.f64 6) = spec_l11Put.T6 := by kernel_rfl
theorem spec_l11Put.bits6 : waitsOk spec_l11Put.T6.2 spec_l11Put.B6 = true := by kernel_rfl
def spec_l11Put.T18 : Bool × List (List Nat × List Nat) := (true, [([], []), ([0], [0]), ([], []), ([], []), ([2, 3], [2, 3]), ([4], [4]), ([5], [5]), ([], []), ([6, 7], [6, 7]), ([8], [8]), ([1, 9], [1, 9]), ([0, 1, 2, 3, 4, 5, 6, 7, 8, 9, 10], []), ([11, 10, 10, 0, 1, 2, 3, 4, 5, 6, 7, 8, 9, 10], [10, 11])])
def spec_l11Put.B18 : List Nat := [0, 1, 0, 0, 12, 28, 60, 0, 252, 508, 1023, 2047, 4095]
theorem spec_l11Put.tab18 : rtab .any (opsOf Tryz.f64 18) = spec_l11Put.T18 := by kernel_rfl
theorem spec_l11Put.bits18 : waitsOk spec_l11Put.T18.2 spec_l11Put.B18 = true := by kernel_rfl
end
end Go.Proofs.YtfjbjiklohjodaaGreatDoor.Q
namespace Go.Proofs.YtfjbjiklohjodaaGreatDoor.Q
open Go.RowKit Go.Proofs.YtfjbjiklohjodaaGreatDoorW.PrintWords Go.Proofs.YtfjbjiklohjodaaGreatDoorW.PrintLast Go.Proofs.YtfjbjiklohjodaaGreatDoorW.PrintMore
attribute [local go_sem] max2_int min2_int max_two min_two max_three min_three max_four min_four
set_option linter.unusedVariables false
set_option linter.unusedSimpArgs false
noncomputable section
set_option maxHeartbeats 8000000 in
set_option maxRecDepth 100000 in
theorem spec_l11Put.callsQ (k : Nat) (P0_ : Nat → Prop) (u9000_ : Value) (l0 : List (S111)) (a1_0 : ByteArray) (P1_1_ : Nat → Prop) (u9001_ : Value) (l1_1 : List (S109)) (a2 : Int) (a3 : ByteArray) (a4 : Bool) (r1 : List (S111)) (r2 : ByteArray) (r3 : List (S109)) (r4 : Bool) (w0 w : World) (hB : Below w0.heap.size w0 w) (ho0 : RQ true k111 111 w w0.heap.size P0_ u9000_ l0) (ho1_1 : RQ false k109 109 w w0.heap.size P1_1_ u9001_ l1_1) (h : spec_l11Put.f k l0 a1_0 l1_1 a2 a3 a4 = some (r1, r2, r3, r4)) :
  Calls Tryz.prog 64 #[u9000_, .agg #[.string a1_0, u9001_], .int .i64 a2, .string a3, .bool a4] w fun e w' => ∃ v0_ v2_ : Value, e = .returned (.tuple #[v0_, .agg #[.string r2, v2_], .bool r4]) ∧ RQ true k111 111 w' w0.heap.size (fun k_ => ((P0_ k_ ∨ P1_1_ k_) ∨ w.heap.size ≤ k_)) v0_ r1 ∧ RQ false k109 109 w' w0.heap.size (fun k_ => ((P0_ k_ ∨ P1_1_ k_) ∨ w.heap.size ≤ k_)) v2_ r3 ∧ Below w0.heap.size w0 w' ∧ Kept w w' (fun k_ => P0_ k_ ∨ P1_1_ k_) := by
 have hu26 := Tryz.underlying26
 have hu116 := Tryz.underlying116
 have hu109 := Tryz.underlying109
 have HO0 := Aside0.mk (show RQ true k111 111 w w0.heap.size (fun k_ => ((P0_ k_ ∨ P1_1_ k_) ∨ w.heap.size ≤ k_)) u9000_ l0 from RQ_mono ho0 (fun k_ hk => (.inl (.inl hk))))
 have HO1_1 := Aside0.mk (show RQ false k109 109 w w0.heap.size (fun k_ => ((P0_ k_ ∨ P1_1_ k_) ∨ w.heap.size ≤ k_)) u9001_ l1_1 from RQ_mono ho1_1 (fun k_ hk => (.inl (.inr hk))))
 have HK := Aside0.mk (Kept.refl w (fun k_ => P0_ k_ ∨ P1_1_ k_))
 have HW0 := Aside0.mk hB.size
 have HB := Aside0.mk hB
 clear hB
 have H : (if a2 > (a1_0.size : Int) then (spec_l11Put.j0 k l0 a2 a3 a4 (a1_0.size : Int) true a1_0 l1_1) else (spec_l11Put.j0 k l0 a2 a3 a4 (a1_0.size : Int) (decide ((wrap64 (a2 + (a3.size : Int))) > 40)) a1_0 l1_1)) = some (r1, r2, r3, r4) := h
 clear h
 have HC6 := Aside0.mk H
 clear H
 obtain ⟨Ao7, co7, eo7⟩ := RQ_slice HO1_1.out
 subst eo7
 go_enter Tryz.func64, Tryz.ntmps64
 go_upto_region 2 with (first | ((with_reducible refine gate_dst (N := 6) rfl ?_); (try (refine gate_guard (by rfl) ?_; dsimp only)); refine zx_ (N := 6) #[.string a1_0, .slice Ao7 l1_1.length co7] 26 ?_; intro gb101 hg w8 hbox hb; replace HO0 := A_ (RQ_below (zr_ HO0.out) hb); replace HO1_1 := A_ (RQ_below (zr_ HO1_1.out) hb); have BK101 := A_ hbox; have GW101 := A_ ((d72_ : w.heap.size ≤ gb101)); replace HK := A_ (Kept.below (S := (fun k_ => P0_ k_ ∨ P1_1_ k_)) d44_ hb); have GE101 := A_ ((d0_ : w0.heap.size ≤ gb101)); replace HB := A_ (below_step (zB_ HB.out) hb); clear hb hbox hg) | ((with_reducible refine gate_dst (N := 11) rfl ?_); (try (refine gate_guard (by rfl) ?_; dsimp only)); refine zx_ (N := 11) #[.string (⟨#[]⟩ : ByteArray), .slice none 0 0] 26 ?_; intro gb102 hg w9 hbox hb; replace HO0 := A_ (RQ_below (zr_ HO0.out) hb); replace HO1_1 := A_ (RQ_below (zr_ HO1_1.out) hb); have BK102 := A_ hbox; have GW102 := A_ ((d73_ : w.heap.size ≤ gb102)); replace HK := A_ (Kept.below (S := (fun k_ => P0_ k_ ∨ P1_1_ k_)) d46_ hb); have GE102 := A_ ((d6_ : w0.heap.size ≤ gb102)); replace HB := A_ (below_step d1_ hb); have NB101_102 := A_ ((d74_ : gb101 ≠ gb102)); have NB102_101 := A_ ((d75_ : gb102 ≠ gb101)); replace BK101 := A_ (blk_below (g := gb101) (o := .cells #[.string a1_0, .slice Ao7 l1_1.length co7] 26 (0, 0)) (zb_ BK101.out) hb); clear hb hbox hg; have hnb10 := NB101_102.out; have hnc10 := NB102_101.out; have hcz11_0 : w9.cell? ⟨gb101, 0, none⟩ = some (.string a1_0) := (blk_cell BK101.out 0).trans rfl; have hcz11_1 : w9.cell? ⟨gb101, 1, none⟩ = some (.slice Ao7 l1_1.length co7) := (blk_cell BK101.out 1).trans rfl; have hfz11_0 := blk_frozen BK101.out 0; have hfz11_1 := blk_frozen BK101.out 1))
 (try simp only [Act.put, List.setIfInBounds_toArray, List.set_cons_zero, List.set_cons_succ])
 go_cut [33] (fun v33 wc => ∃ (kq : Nat) (x33_5 : Bool), v33 = .bool x33_5 ∧ Aside0 (spec_l11Put.j0 kq l0 a2 a3 a4 (a1_0.size : Int) x33_5 a1_0 l1_1 = some (r1, r2, r3, r4)) ∧ Aside0 (kq ≤ k) ∧ Aside0 (RQ true k111 111 wc w0.heap.size (fun k_ => ((P0_ k_ ∨ P1_1_ k_) ∨ w.heap.size ≤ k_)) u9000_ l0) ∧ Aside0 (RQ false k109 109 wc w0.heap.size (fun k_ => ((P0_ k_ ∨ P1_1_ k_) ∨ w.heap.size ≤ k_)) (.slice Ao7 l1_1.length co7) l1_1) ∧ Aside0 (wc.heap[gb101]? = some (.cells #[.string a1_0, (.slice Ao7 l1_1.length co7)] 26 (0, 0))) ∧ Aside0 (wc.heap[gb102]? = some (.cells #[.string (⟨#[]⟩ : ByteArray), (.slice none 0 0)] 26 (0, 0))) ∧ Aside0 (Kept w wc (fun k_ => P0_ k_ ∨ P1_1_ k_)) ∧ Aside0 (Below w0.heap.size w0 wc))
 case first =>
  have H := HC6.out; clear HC6
  by_cases c12 : a2 > (a1_0.size : Int)
  ·rw [if_pos c12] at H; have c12b0 : decide ((a1_0.size : Int) < a2) = true := decide_eq_true c12; clear c12; (first | rw [c12b0] | (simp only [i64_w, i32_w]; rw [c12b0]) | skip); have H' := Aside0.mk H; clear H
   go_wp2
   go_meet
   case rel => exact ⟨_, (true), zs_, H', ⟨d2_⟩, ⟨d70_⟩, ⟨by (with_reducible repeat (first | apply RQ_alloc | apply RQ_drewN | apply RQ_drew)); exact HO1_1.out⟩, ⟨d3_⟩, ⟨d56_⟩, ⟨d76_⟩, ⟨d77_⟩⟩
  rw [if_neg c12] at H; have c12b0 : decide ((a1_0.size : Int) < a2) = false := decide_eq_false c12; clear c12; (first | rw [c12b0] | (simp only [i64_w, i32_w]; rw [c12b0]) | skip); have H' := Aside0.mk H; clear H
  go_wp2
  go_meet
  case rel => exact ⟨_, (decide ((wrap64 (a2 + (a3.size : Int))) > 40)), zs_, H', ⟨d2_⟩, ⟨d70_⟩, ⟨by (with_reducible repeat (first | apply RQ_alloc | apply RQ_drewN | apply RQ_drew)); exact HO1_1.out⟩, ⟨d3_⟩, ⟨d56_⟩, ⟨d76_⟩, ⟨d77_⟩⟩
 case rest =>
  clear HC6
  try clear c1
  try clear p2
  try clear c6
  try clear p6
  try clear c10
  try clear c12
  try clear c12b0
  try clear hcz11_0
  try clear hcz11_1
  try clear hfz11_0
  try clear hfz11_1
  obtain ⟨kq, x33_5, rfl, HA, HJ5, HO_0, HO_102001, BK101, BK102, HK, HB⟩ := hcut
  cases kq with
  | zero => exact absurd HA.out (by simp [spec_l11Put.j0])
  | succ kj5 =>
   have H := HA.out; clear HA; simp only [spec_l11Put.j0] at H
   by_cases c13 : x33_5 = true
   ·subst c13; rw [if_pos rfl] at H; simp only [Option.some.injEq, Prod.mk.injEq] at H; obtain ⟨rfl, rfl, rfl, rfl⟩ := H
    try go_wp2
    have n0_ := Aside0.mk (RQ_drew HO_0.out); have n1_ := Aside0.mk (RQ_drew HO_102001.out); have n2_ := Aside0.mk (blk_drew BK101.out); have n3_ := Aside0.mk (blk_drew BK102.out); have n4_ := Aside0.mk (Kept.drew HK.out); have n5_ := Aside0.mk (below_drew1 HB.out); clear HO_0; clear HO_102001; clear BK101; clear BK102; clear HK; clear HB; have HO_0 := n0_; have HO_102001 := n1_; have BK101 := n2_; have BK102 := n3_; have HK := n4_; have HB := n5_; clear n0_ n1_ n2_ n3_ n4_ n5_; refine start_ (n := 5) (S := fun w' => w'.cell? ⟨gb101, 0, none⟩ = some (.string a1_0) ∧ w'.cell? ⟨gb101, 1, none⟩ = some (.slice Ao7 l1_1.length co7)) (ds := []) #[false, false, false, false, false] (by kernel_rfl) rfl rfl ⟨(blk_cell BK101.out 0).trans rfl, (blk_cell BK101.out 1).trans rfl⟩ (fun hHeld => ?_); generalize wc.drew = w14 at HO_0 HO_102001 BK101 BK102 HK HB hHeld ⊢; refine pure_ (i := 0) (N := some 34) (v := ?_) (a' := ?_) #[true, false, false, false, false] rfl rfl (by kernel_rfl) (fun _ _ _ h => h) (Or.inl ⟨by rfl, ?_⟩) ?_ ?_; rotate_left
    ·intro w'
     go_simp
     with_reducible rfl
    rotate_left
    ·simp only [Act.put, List.setIfInBounds_toArray, List.set_cons_zero, List.set_cons_succ, i64_w, i32_w]; rfl
    refine pure_ (i := 2) (N := some 10) (v := ?_) (a' := ?_) #[true, false, true, false, false] rfl rfl (by kernel_rfl) (fun _ _ _ h => h) (Or.inl ⟨by rfl, ?_⟩) ?_ ?_; rotate_left
    ·intro w'
     go_simp
     with_reducible rfl
    rotate_left
    ·simp only [Act.put, List.setIfInBounds_toArray, List.set_cons_zero, List.set_cons_succ, i64_w, i32_w]; rfl
    refine take_ (i := 1) (N := some 35) (v := ?_) (a' := ?_) #[true, true, true, false, false] rfl rfl (by kernel_rfl) (fun _ _ _ h => h) (Or.inl ⟨by rfl, ?_⟩) hHeld ?_ ?_; rotate_left
    ·rintro w' ⟨s0, s1⟩
     go_simp
     with_reducible rfl
    rotate_left
    ·simp only [Act.put, List.setIfInBounds_toArray, List.set_cons_zero, List.set_cons_succ, i64_w, i32_w]; rfl
    refine one_ (i := 3) (N := none) #[true, true, true, true, false] rfl rfl (by kernel_rfl) (by decide) (fun K hK => ?_); have hs15 : w14.cell? ⟨gb102, 0, none⟩ = some (.string (⟨#[]⟩ : ByteArray)) := (blk_cell BK102.out 0).trans rfl; have hfs15 := blk_frozen BK102.out 0; have hns15_0 := NB101_102.out; have hms15_0 := NB102_101.out; have hs16 : w14.cell? ⟨gb102, 1, none⟩ = some (.slice none 0 0) := (blk_cell BK102.out 1).trans rfl; have hfs16 := blk_frozen BK102.out 1; have hns16_0 := NB101_102.out; have hms16_0 := NB102_101.out; refine skip_ (w1 := ?_) (by rfl) rfl ?_ ?_; rotate_left
    ·go_simp
     rfl
    refine hK.out _ _ ⟨((cell_far (p := ⟨gb102, _, none⟩) NB101_102.out _).trans (((cell_far (p := ⟨gb102, _, none⟩) NB101_102.out _).trans (hHeld.1)))), ((cell_far (p := ⟨gb102, _, none⟩) NB101_102.out _).trans (((cell_far (p := ⟨gb102, _, none⟩) NB101_102.out _).trans (hHeld.2))))⟩ (fun hHeld => ?_); clear hK K; refine pure_ (i := 4) (N := some 12) (v := ?_) (a' := ?_) #[true, true, true, true, true] rfl rfl (by kernel_rfl) (fun _ _ _ h => h) (Or.inl ⟨by rfl, ?_⟩) ?_ ?_; rotate_left
    ·intro w'
     go_simp
     with_reducible rfl
    rotate_left
    ·simp only [Act.put, List.setIfInBounds_toArray, List.set_cons_zero, List.set_cons_succ, i64_w, i32_w]; rfl
    refine done_ (by kernel_rfl) ?_
    try go_wp2
    refine bodyPost_ret (results_list (rs := [.tmp 10, .cell 11 26, .tmp 12]) rfl (by simp) (.tmp (.cell gb102 26 #[.string a1_0, .slice Ao7 l1_1.length co7] (0, 0) _ rfl d78_ Tryz.underlying26 rfl (by kernel_rfl) (.tmp .nil)))) rfl ?_; exact ⟨_, _, d4_, d105_, d106_, d77_, d76_⟩
   replace c13 := Bool.eq_false_iff.mpr c13; subst c13; rw [if_neg (show ¬ (false = true) by decide)] at H
   by_cases c17 : (wrap64 (a2 + (a3.size : Int))) ≤ (a1_0.size : Int)
   ·rw [if_pos c17] at H; have c17b0 : decide ((wrap64 (a2 + (a3.size : Int))) ≤ (a1_0.size : Int)) = true := decide_eq_true c17; clear c17; simp only [Option.some.injEq, Prod.mk.injEq] at H; obtain ⟨rfl, rfl, rfl, rfl⟩ := H
    try go_wp2
    have n0_ := Aside0.mk (RQ_drew HO_0.out); have n1_ := Aside0.mk (RQ_drew HO_102001.out); have n2_ := Aside0.mk (blk_drew BK101.out); have n3_ := Aside0.mk (blk_drew BK102.out); have n4_ := Aside0.mk (Kept.drew HK.out); have n5_ := Aside0.mk (below_drew1 HB.out); clear HO_0; clear HO_102001; clear BK101; clear BK102; clear HK; clear HB; have HO_0 := n0_; have HO_102001 := n1_; have BK101 := n2_; have BK102 := n3_; have HK := n4_; have HB := n5_; clear n0_ n1_ n2_ n3_ n4_ n5_; refine start_ (n := 5) (S := fun w' => w'.cell? ⟨gb101, 0, none⟩ = some (.string a1_0) ∧ w'.cell? ⟨gb101, 1, none⟩ = some (.slice Ao7 l1_1.length co7)) (ds := []) #[false, false, false, false, false] (by kernel_rfl) rfl rfl ⟨(blk_cell BK101.out 0).trans rfl, (blk_cell BK101.out 1).trans rfl⟩ (fun hHeld => ?_); generalize wc.drew = w18 at HO_0 HO_102001 BK101 BK102 HK HB hHeld ⊢; refine pure_ (i := 0) (N := some 42) (v := ?_) (a' := ?_) #[true, false, false, false, false] rfl rfl (by kernel_rfl) (fun _ _ _ h => h) (Or.inl ⟨by rfl, ?_⟩) ?_ ?_; rotate_left
    ·intro w'
     go_simp
     with_reducible rfl
    rotate_left
    ·simp only [Act.put, List.setIfInBounds_toArray, List.set_cons_zero, List.set_cons_succ, i64_w, i32_w]; rfl
    refine pure_ (i := 2) (N := some 10) (v := ?_) (a' := ?_) #[true, false, true, false, false] rfl rfl (by kernel_rfl) (fun _ _ _ h => h) (Or.inl ⟨by rfl, ?_⟩) ?_ ?_; rotate_left
    ·intro w'
     go_simp
     with_reducible rfl
    rotate_left
    ·simp only [Act.put, List.setIfInBounds_toArray, List.set_cons_zero, List.set_cons_succ, i64_w, i32_w]; rfl
    refine take_ (i := 1) (N := some 43) (v := ?_) (a' := ?_) #[true, true, true, false, false] rfl rfl (by kernel_rfl) (fun _ _ _ h => h) (Or.inl ⟨by rfl, ?_⟩) hHeld ?_ ?_; rotate_left
    ·rintro w' ⟨s0, s1⟩
     go_simp
     with_reducible rfl
    rotate_left
    ·simp only [Act.put, List.setIfInBounds_toArray, List.set_cons_zero, List.set_cons_succ, i64_w, i32_w]; rfl
    refine one_ (i := 3) (N := none) #[true, true, true, true, false] rfl rfl (by kernel_rfl) (by decide) (fun K hK => ?_); have hs19 : w18.cell? ⟨gb102, 0, none⟩ = some (.string (⟨#[]⟩ : ByteArray)) := (blk_cell BK102.out 0).trans rfl; have hfs19 := blk_frozen BK102.out 0; have hns19_0 := NB101_102.out; have hms19_0 := NB102_101.out; have hs20 : w18.cell? ⟨gb102, 1, none⟩ = some (.slice none 0 0) := (blk_cell BK102.out 1).trans rfl; have hfs20 := blk_frozen BK102.out 1; have hns20_0 := NB101_102.out; have hms20_0 := NB102_101.out; refine skip_ (w1 := ?_) (by rfl) rfl ?_ ?_; rotate_left
    ·go_simp
     rfl
    refine hK.out _ _ ⟨((cell_far (p := ⟨gb102, _, none⟩) NB101_102.out _).trans (((cell_far (p := ⟨gb102, _, none⟩) NB101_102.out _).trans (hHeld.1)))), ((cell_far (p := ⟨gb102, _, none⟩) NB101_102.out _).trans (((cell_far (p := ⟨gb102, _, none⟩) NB101_102.out _).trans (hHeld.2))))⟩ (fun hHeld => ?_); clear hK K; refine pure_ (i := 4) (N := some 12) (v := ?_) (a' := ?_) #[true, true, true, true, true] rfl rfl (by kernel_rfl) (fun _ _ _ h => h) (Or.inl ⟨by rfl, ?_⟩) ?_ ?_; rotate_left
    ·intro w'
     go_simp
     with_reducible rfl
    rotate_left
    ·simp only [Act.put, List.setIfInBounds_toArray, List.set_cons_zero, List.set_cons_succ, i64_w, i32_w]; rfl
    refine done_ (by kernel_rfl) ?_
    try go_wp2
    refine bodyPost_ret (results_list (rs := [.tmp 10, .cell 11 26, .tmp 12]) rfl (by simp) (.tmp (.cell gb102 26 #[.string a1_0, .slice Ao7 l1_1.length co7] (0, 0) _ rfl d78_ Tryz.underlying26 rfl (by kernel_rfl) (.tmp .nil)))) rfl ?_; exact ⟨_, _, d4_, d105_, d106_, d77_, d76_⟩
   rw [if_neg c17] at H; have c17b0 : decide ((wrap64 (a2 + (a3.size : Int))) ≤ (a1_0.size : Int)) = false := decide_eq_false c17; clear c17; obtain ⟨ji21, hji21⟩ : ∃ j_ : Int, (wrap64 ((a1_0.size : Int) - a2)) = j_ := ⟨_, rfl⟩
   replace H : (if 0 ≤ (ji21) then (if (ji21) ≤ (a3.size : Int) then (if a1_0.size + (a3.extract ((ji21) : Int).toNat a3.size).size ≤ 9223372036854775807 then ((spec_l11Done.f kj5 a1_0 l1_1).bind fun t103 => ((spec_l2Pieces.f kj5 (a1_0 ++ (a3.extract ((ji21) : Int).toNat a3.size))).bind fun t104 => ((some (([] : List (S109)) : List (S109))).bind fun y107 => (if y107.length + l1_1.length < 5864062014805 then (spec_l11Put.l0 kj5 l0 a4 (a1_0 ++ (a3.extract ((ji21) : Int).toNat a3.size)) t103 t104 (l1_1.length : Int) (a1_0 ++ (a3.extract ((ji21) : Int).toNat a3.size)) (y107 ++ l1_1)) else (none))))) else (none)) else (none)) else (none)) = some (r1, r2, r3, r4) := by first | (rw [hji21] at H; exact H) | (simp only [hji21] at H ⊢; exact H)
   have hji21w : (IntKind.i64.wrap ((a1_0.size : Int) - a2)) = ji21 := (i64_w _).trans hji21
   by_cases c22 : 0 ≤ (ji21)
   ·rw [if_pos c22] at H; have c22b0 := eq_true c22; have c22b1 : decide (0 ≤ (ji21)) = true := decide_eq_true c22; clear c22
    by_cases c23 : (ji21) ≤ (a3.size : Int)
    ·rw [if_pos c23] at H; have c23b0 := eq_true c23; have c23b1 : decide ((ji21) ≤ (a3.size : Int)) = true := decide_eq_true c23; clear c23
     by_cases c24 : a1_0.size + (a3.extract ((ji21) : Int).toNat a3.size).size ≤ 9223372036854775807
     ·rw [if_pos c24] at H; have c24b0 := eq_true c24; have c24b1 : decide (a1_0.size + (a3.extract ((ji21) : Int).toNat a3.size).size ≤ 9223372036854775807) = true := decide_eq_true c24
      try have c24b2 : (9223372036854775807 < a1_0.size + (a3.extract ((ji21) : Int).toNat a3.size).size) = False := eq_false (Nat.not_lt.2 c24)
      try have c24b4 : (9223372036854775807 < a1_0.size + (a3.size - ((ji21) : Int).toNat)) = False := eq_false (Nat.not_lt.2 (by have h_ := c24; simp only [ByteArray.size_extract, Nat.min_self] at h_; exact h_))
      obtain ⟨t103, A25, H⟩ := zH_ H; obtain ⟨t104, A26, H⟩ := zH_ H; obtain ⟨y107, hy107⟩ : ∃ y_ : List (S109), y_ = (([] : List (S109))) := ⟨_, rfl⟩
      replace H : (if y107.length + l1_1.length < 5864062014805 then (spec_l11Put.l0 kj5 l0 a4 (a1_0 ++ (a3.extract ((ji21) : Int).toNat a3.size)) t103 t104 (l1_1.length : Int) (a1_0 ++ (a3.extract ((ji21) : Int).toNat a3.size)) (y107 ++ l1_1)) else (none)) = some (r1, r2, r3, r4) := by first | (rw [hy107]; with_reducible exact H) | (have H2_ := (Option.bind_some _ _).symm.trans H; rw [hy107]; with_reducible exact H2_) | (have H2_ := (Option.bind_some _ _).symm.trans H; with_reducible exact H2_) | with_reducible exact H | (rw [hy107]; exact H) | exact H
      have Ny107 := Aside0.mk hy107; clear hy107
      by_cases c27 : y107.length + l1_1.length < 5864062014805
      ·rw [if_pos c27] at H; have LMc27 := Aside0.mk c27; clear c27; obtain ⟨y110, hy110⟩ : ∃ y_ : List (S109), y_ = (y107 ++ l1_1) := ⟨_, rfl⟩
       replace H : (spec_l11Put.l0 kj5 l0 a4 (a1_0 ++ (a3.extract ((ji21) : Int).toNat a3.size)) t103 t104 (l1_1.length : Int) (a1_0 ++ (a3.extract ((ji21) : Int).toNat a3.size)) y110) = some (r1, r2, r3, r4) := by first | (rw [hy110]; with_reducible exact H) | (have H2_ := (Option.bind_some _ _).symm.trans H; rw [hy110]; with_reducible exact H2_) | (have H2_ := (Option.bind_some _ _).symm.trans H; with_reducible exact H2_) | with_reducible exact H | (rw [hy110]; exact H) | exact H
       have Ny110 := Aside0.mk hy110; clear hy110; have H' := Aside0.mk H; clear H
       try go_wp2
       have n0_ := Aside0.mk (RQ_drew HO_0.out); have n1_ := Aside0.mk (RQ_drew HO_102001.out); have n2_ := Aside0.mk (blk_drew BK101.out); have n3_ := Aside0.mk (blk_drew BK102.out); have n4_ := Aside0.mk (Kept.drew HK.out); have n5_ := Aside0.mk (below_drew1 HB.out); clear HO_0; clear HO_102001; clear BK101; clear BK102; clear HK; clear HB; have HO_0 := n0_; have HO_102001 := n1_; have BK101 := n2_; have BK102 := n3_; have HK := n4_; have HB := n5_; clear n0_ n1_ n2_ n3_ n4_ n5_; refine start_ (n := 9) (S := fun w' => w'.cell? ⟨gb101, 0, none⟩ = some (.string a1_0) ∧ w'.cell? ⟨gb101, 1, none⟩ = some (.slice Ao7 l1_1.length co7)) (ds := []) #[false, false, false, false, false, false, false, false, false] (by kernel_rfl) rfl rfl ⟨(blk_cell BK101.out 0).trans rfl, (blk_cell BK101.out 1).trans rfl⟩ (fun hHeld => ?_); refine with_tabW spec_l11Put.tab6 spec_l11Put.bits6 (fun HT_ HW_ => ?_); generalize wc.drew = w28 at HO_0 HO_102001 BK101 BK102 HK HB hHeld ⊢; refine zP_ HT_ 0 (some 44) ?_; refine zP_ HT_ 2 (some 46) ?_; refine zP_ HT_ 3 (some 47) ?_; refine zP_ HT_ 4 (some 48) ?_; refine zP_ HT_ 5 (some 49) ?_; refine zP_ HT_ 6 (some 50) ?_; refine zT_ HT_ HW_ hHeld 1 (some 45) ?_; refine zP_ HT_ 7 (some 51) ?_; refine zP_ HT_ 8 (some 14) ?_; refine done_ (done_of HT_.out (by kernel_rfl)) ?_; have hnb29 := NB101_102.out; have hnc29 := NB102_101.out; have hcz30_0 : w28.cell? ⟨gb101, 0, none⟩ = some (.string a1_0) := (blk_cell BK101.out 0).trans rfl; have hcz30_1 : w28.cell? ⟨gb101, 1, none⟩ = some (.slice Ao7 l1_1.length co7) := (blk_cell BK101.out 1).trans rfl; have hfz30_0 := blk_frozen BK101.out 0; have hfz30_1 := blk_frozen BK101.out 1
       try go_wp2_with (first | ((with_reducible refine gate_callee (f := 120) rfl ?_); refine zc_ (some 53) Tryz.func120 #[.agg #[.string a1_0, .slice Ao7 l1_1.length co7]] ?_; (with_reducible refine (spec_l11Done.calls kj5 a1_0 _ _ l1_1 t103 _ ?side1 ?side2 A25.out).mono ?_); (case side1 => exact d107_); (case side2 => exact (RQ_reads' HO_102001.out).2.1); rintro e w31 ⟨rfl, hb⟩; refine ⟨_, rfl, ?_⟩; replace HO_0 := A_ (RQ_below (zr_ HO_0.out) hb); replace HO_102001 := A_ (RQ_below (zr_ HO_102001.out) hb); replace BK101 := A_ (blk_below (g := gb101) (o := .cells #[.string a1_0, .slice Ao7 l1_1.length co7] 26 (0, 0)) (zb_ BK101.out) hb); replace BK102 := A_ (blk_below (g := gb102) (o := .cells #[.string (⟨#[]⟩ : ByteArray), .slice none 0 0] 26 (0, 0)) (zb_ BK102.out) hb); replace HK := A_ (Kept.below (S := (fun k_ => P0_ k_ ∨ P1_1_ k_)) d76_ hb); replace HB := A_ (below_step d77_ hb); (try clear hb); (try clear hi)) | ((with_reducible refine gate_callee (f := 121) rfl ?_); refine goesL_ (some 55) rfl rfl Tryz.func121 (by kernel_rfl) rfl #[.string (a1_0 ++ (a3.extract ((ji21) : Int).toNat a3.size))] rfl d82_ ?_; (with_reducible refine (spec_l2Pieces.calls kj5 (a1_0 ++ (a3.extract ((ji21) : Int).toNat a3.size)) t104 _ A26.out).mono ?_); rintro e w32 ⟨v105, rfl, ho0, hb⟩; (first | (with_reducible replace ho0 := RQ_ofR ho0) | (with_reducible replace ho0 := RQ_ofQ ho0) | skip); refine ⟨_, rfl, ?_⟩; replace HO_0 := A_ (RQ_below (zr_ HO_0.out) hb); replace HO_102001 := A_ (RQ_below (zr_ HO_102001.out) hb); have HO106 := A_ (RQ_lower (RQ_newM (M := fun k_ => ((P0_ k_ ∨ P1_1_ k_) ∨ w.heap.size ≤ k_)) ho0 d83_ (fun k_ h_ => .inr h_)) (below_size d77_)); replace BK101 := A_ (blk_below (g := gb101) (o := .cells #[.string a1_0, .slice Ao7 l1_1.length co7] 26 (0, 0)) (zb_ BK101.out) hb); replace BK102 := A_ (blk_below (g := gb102) (o := .cells #[.string (⟨#[]⟩ : ByteArray), .slice none 0 0] 26 (0, 0)) (zb_ BK102.out) hb); replace HK := A_ (Kept.below (S := (fun k_ => P0_ k_ ∨ P1_1_ k_)) d76_ hb); replace HB := A_ (below_step d77_ hb); (try clear hb); (try clear ho0)) | ((with_reducible refine gate_dst (N := 57) rfl ?_); (try (refine gate_guard (by rfl) ?_; dsimp only)); refine RQ_lit k109 _ 109 ?hg (N := 57) ?hd (xs := ([] : List (S109))) (inner := []) (ok := fun _ => True) (okp := fun _ => True) ?hr ?hp (fun _ hk => hk) trivial (Below.refl _ _) (Nat.le_refl _) (by simp) ?_; (case hd => rfl); (case hg => rfl); (case hr => exact d15_); (case hp => exact d16_); intro v108 w33 ho34 hb hg_ hnew_; clear hg_ hnew_; (first | rw [← Ny107.out] at ho34 | (simp only [Int.reduceToNat] at ho34; rw [← Ny107.out] at ho34)); replace HO_0 := A_ (RQ_below (zr_ HO_0.out) hb); replace HO106 := A_ (RQ_below (zr_ HO106.out) hb); have HO109 := A_ (RQ_lower (RQ_new' (RQ_newM (M := fun k_ => ((P0_ k_ ∨ P1_1_ k_) ∨ w.heap.size ≤ k_)) ho34 d83_ (fun k_ h_ => .inr h_)) (RQ_lt (zr_ HO_102001.out))) (below_size d77_)); replace HO_102001 := A_ (RQ_elder' (zr_ HO_102001.out) (RQ_base ho34) hb); replace BK101 := A_ (blk_below (g := gb101) (o := .cells #[.string a1_0, .slice Ao7 l1_1.length co7] 26 (0, 0)) (zb_ BK101.out) hb); replace BK102 := A_ (blk_below (g := gb102) (o := .cells #[.string (⟨#[]⟩ : ByteArray), .slice none 0 0] 26 (0, 0)) (zb_ BK102.out) hb); replace HK := A_ (Kept.below (S := (fun k_ => P0_ k_ ∨ P1_1_ k_)) d76_ hb); replace HB := A_ (below_step d77_ hb); clear hb ho34; have hcz35_0 : w33.cell? ⟨gb101, 0, none⟩ = some (.string a1_0) := (blk_cell BK101.out 0).trans rfl; have hcz35_1 : w33.cell? ⟨gb101, 1, none⟩ = some (.slice Ao7 l1_1.length co7) := (blk_cell BK101.out 1).trans rfl; have hfz35_0 := blk_frozen BK101.out 0; have hfz35_1 := blk_frozen BK101.out 1) | ((with_reducible refine gate_builtin (b := .append) (xs := #[.tmp 57, .tmp 59]) rfl ?_); (try (refine gate_guard (by rfl) ?_; dsimp only)); at_builtin; refine RQ_append_rows k109 (w0 := w0) w0.heap.size rfl (.tmp 57) (.tmp 59) 24 109 (.agg #[(.int .i64 0), (.string ⟨#[]⟩)]) 24 rfl Tryz.underlying24 info109 rfl (by decide) (by omega) v108 y107 l1_1 _ _ _ (fun k_ => ((P0_ k_ ∨ P1_1_ k_) ∨ w.heap.size ≤ k_) ∧ some k_ ≠ (.slice Ao7 l1_1.length co7 : Value).ownBlock) (fun _ => False) rfl rfl ?aO ?aR (fun _ _ h => h) (fun _ h => h.elim) ?aF ?aB ?aS ?aL ?_; (case aR => exact d107_); (case aB => exact d84_); (case aF => exact (fun k_ hk => ⟨(.inr (Nat.le_trans d83_ hk)), Kd.fresh' (RQ_lt (zr_ HO_102001.out)) k_ hk⟩)); (case aO => exact (zr_ (RQ_mono HO109.out (fun _ hk => ⟨hk.1.1, hk.2⟩)))); (case aS => exact d85_); (case aL => have := LMc27.out; omega); intro v111 w36 ho hb hg hat; rw [← Ny110.out] at ho; replace HO_0 := A_ (RQ_over' (zr_ HO_0.out) (RQ_typed (zr_ HO109.out)) (by decide) hg); replace HO_102001 := A_ (RQ_after (ok := (fun k_ => ((P0_ k_ ∨ P1_1_ k_) ∨ w.heap.size ≤ k_))) (zr_ HO_102001.out) hg hat); replace BK101 := A_ (blk_grown (g := gb101) (o := .cells #[.string a1_0, .slice Ao7 l1_1.length co7] 26 (0, 0)) (zb_ BK101.out) hg (RQ_ne HO109.out BK101.out (by decide))); replace BK102 := A_ (blk_grown (g := gb102) (o := .cells #[.string (⟨#[]⟩ : ByteArray), .slice none 0 0] 26 (0, 0)) (zb_ BK102.out) hg (RQ_ne HO109.out BK102.out (by decide))); replace HO106 := A_ (RQ_over' (zr_ HO106.out) (RQ_typed (zr_ HO109.out)) (by decide) hg); replace HB := A_ hb; replace HK := A_ (Kept.of_grown (S := (fun k_ => P0_ k_ ∨ P1_1_ k_)) hg d76_ (fun k_ e_ => (HO109.out.1 k_ e_).1.1)); have HO112 := A_ ho; clear HO109; clear ho hb hg hat; obtain ⟨Ao37, co37, eo37⟩ := RQ_slice HO112.out; subst eo37) | ((with_reducible refine gate_dst (N := 17) rfl ?_); (try (refine gate_guard (by rfl) ?_; dsimp only)); refine zx_ (N := 17) #[.string (⟨#[]⟩ : ByteArray), .slice none 0 0] 26 ?_; intro gb113 hg w38 hbox hb; replace HO_0 := A_ (RQ_below (zr_ HO_0.out) hb); replace HO_102001 := A_ (RQ_below (zr_ HO_102001.out) hb); replace HO106 := A_ (RQ_below (zr_ HO106.out) hb); replace HO112 := A_ (RQ_below (zr_ HO112.out) hb); have BK113 := A_ hbox; have GW113 := A_ ((d86_ : w.heap.size ≤ gb113)); replace HK := A_ (Kept.below (S := (fun k_ => P0_ k_ ∨ P1_1_ k_)) d76_ hb); have GE113 := A_ ((d87_ : w0.heap.size ≤ gb113)); replace HB := A_ (below_step d77_ hb); have NB101_113 := A_ ((d74_ : gb101 ≠ gb113)); have NB113_101 := A_ ((d75_ : gb113 ≠ gb101)); replace BK101 := A_ (blk_below (g := gb101) (o := .cells #[.string a1_0, .slice Ao7 l1_1.length co7] 26 (0, 0)) (zb_ BK101.out) hb); have NB102_113 := A_ ((d88_ : gb102 ≠ gb113)); have NB113_102 := A_ ((d89_ : gb113 ≠ gb102)); replace BK102 := A_ (blk_below (g := gb102) (o := .cells #[.string (⟨#[]⟩ : ByteArray), .slice none 0 0] 26 (0, 0)) (zb_ BK102.out) hb); clear hb hbox hg; have hnb39 := NB113_101.out; have hnc39 := NB101_113.out; have hnb40 := NB113_102.out; have hnc40 := NB102_113.out; have hcz41_0 : w38.cell? ⟨gb113, 0, none⟩ = some (.string (⟨#[]⟩ : ByteArray)) := (blk_cell BK113.out 0).trans rfl; have hcz41_1 : w38.cell? ⟨gb113, 1, none⟩ = some (.slice none 0 0) := (blk_cell BK113.out 1).trans rfl; have hfz41_0 := blk_frozen BK113.out 0; have hfz41_1 := blk_frozen BK113.out 1; have hcz42_0 : w38.cell? ⟨gb101, 0, none⟩ = some (.string a1_0) := (blk_cell BK101.out 0).trans rfl; have hcz42_1 : w38.cell? ⟨gb101, 1, none⟩ = some (.slice Ao7 l1_1.length co7) := (blk_cell BK101.out 1).trans rfl; have hfz42_0 := blk_frozen BK101.out 0; have hfz42_1 := blk_frozen BK101.out 1))
       go_loopg [0, 15, 18] kj5 (fun kq v0 v15 v18 w' => ∃ (x0_2 : List (S111)) (x15_2 : Int) (x18_2 : Int) (x114001_2 : List (S109)) (u114001 : Value), v15 = .int .i64 x15_2 ∧ v18 = .int .i64 x18_2 ∧ Aside0 (spec_l11Put.l0 kq x0_2 a4 (a1_0 ++ (a3.extract ((ji21) : Int).toNat a3.size)) x15_2 t104 x18_2 (a1_0 ++ (a3.extract ((ji21) : Int).toNat a3.size)) x114001_2 = some (r1, r2, r3, r4)) ∧ Aside0 (kq ≤ kj5) ∧ Aside0 (RQ true k111 111 w' w0.heap.size (fun k_ => ((P0_ k_ ∨ P1_1_ k_) ∨ w.heap.size ≤ k_)) v0 x0_2) ∧ Aside0 (RQ false k116 116 w' w0.heap.size (fun k_ => ((P0_ k_ ∨ P1_1_ k_) ∨ w.heap.size ≤ k_)) v105 t104) ∧ Aside0 (RQ false k109 109 w' w0.heap.size (fun k_ => ((P0_ k_ ∨ P1_1_ k_) ∨ w.heap.size ≤ k_) ∧ some k_ ≠ (u114001 : Value).ownBlock) (.slice Ao7 l1_1.length co7) l1_1) ∧ Aside0 (RQ false k109 109 w' w0.heap.size (fun k_ => ((P0_ k_ ∨ P1_1_ k_) ∨ w.heap.size ≤ k_) ∧ some k_ ≠ ((.slice Ao7 l1_1.length co7) : Value).ownBlock) u114001 x114001_2) ∧ Aside0 (w'.heap[gb101]? = some (.cells #[.string a1_0, (.slice Ao7 l1_1.length co7)] 26 (0, 0))) ∧ Aside0 (w'.heap[gb102]? = some (.cells #[.string (⟨#[]⟩ : ByteArray), (.slice none 0 0)] 26 (0, 0))) ∧ Aside0 (w'.heap[gb113]? = some (.cells #[.string (a1_0 ++ (a3.extract ((ji21) : Int).toNat a3.size)), u114001] 26 (0, 0))) ∧ Aside0 (Kept w w' (fun k_ => P0_ k_ ∨ P1_1_ k_)) ∧ Aside0 (Below w0.heap.size w0 w'))
       case atStart => exact ⟨(l0), (t103), ((l1_1.length : Int)), (y110), (.slice Ao37 y110.length co37), zs_, zs_, H', ⟨Nat.le_refl _⟩, ⟨by (with_reducible repeat (first | apply RQ_alloc | apply RQ_drewN | apply RQ_drew)); exact RQ_mono (RQ_far (p := ⟨gb113, 1, none⟩) (RQ_far (p := ⟨gb113, 0, none⟩) (RQ_types HO_0.out BK113.out (by decide)) (fun _ hk => hk.2) (.string (a1_0 ++ (a3.extract ((ji21) : Int).toNat a3.size)))) (fun _ hk => hk.2) (.slice Ao37 y110.length co37)) (fun _ hk => hk.1)⟩, ⟨by (with_reducible repeat (first | apply RQ_alloc | apply RQ_drewN | apply RQ_drew)); exact RQ_mono (RQ_far (p := ⟨gb113, 1, none⟩) (RQ_far (p := ⟨gb113, 0, none⟩) (RQ_types HO106.out BK113.out (by decide)) (fun _ hk => hk.2) (.string (a1_0 ++ (a3.extract ((ji21) : Int).toNat a3.size)))) (fun _ hk => hk.2) (.slice Ao37 y110.length co37)) (fun _ hk => hk.1.1)⟩, ⟨by (with_reducible repeat (first | apply RQ_alloc | apply RQ_drewN | apply RQ_drew)); exact RQ_mono (RQ_far (p := ⟨gb113, 1, none⟩) (RQ_far (p := ⟨gb113, 0, none⟩) (RQ_types HO_102001.out BK113.out (by decide)) (fun _ hk => hk.2) (.string (a1_0 ++ (a3.extract ((ji21) : Int).toNat a3.size)))) (fun _ hk => hk.2) (.slice Ao37 y110.length co37)) (fun _ hk => ⟨hk.1.1, hk.1.2⟩)⟩, ⟨by (with_reducible repeat (first | apply RQ_alloc | apply RQ_drewN | apply RQ_drew)); exact RQ_mono (RQ_far (p := ⟨gb113, 1, none⟩) (RQ_far (p := ⟨gb113, 0, none⟩) (RQ_types HO112.out BK113.out (by decide)) (fun _ hk => hk.2) (.string (a1_0 ++ (a3.extract ((ji21) : Int).toNat a3.size)))) (fun _ hk => hk.2) (.slice Ao37 y110.length co37)) (fun _ hk => ⟨hk.1.1, hk.1.2⟩)⟩, ⟨d34_⟩, ⟨d90_⟩, ⟨d91_⟩, ⟨d92_⟩, ⟨d93_⟩⟩
       case round =>
        clear H'; (try clear c1); (try clear c2); (try clear p2); (try clear c3); (try clear c4); (try clear c6); (try clear p6); (try clear c10); (try clear c12); (try clear c12b0); (try clear c13); (try clear c17); (try clear c17b0); (try clear c22); (try clear c22b0); (try clear c22b1); (try clear c23); (try clear c23b0); (try clear c23b1); (try clear c24); (try clear c24b0); (try clear c24b1); (try clear c24b2); (try clear c27); (try clear c29); (try clear c39); (try clear c40); (try clear hcz11_0); (try clear hcz11_1); (try clear hcz30_0); (try clear hcz30_1); (try clear hcz35_0); (try clear hcz35_1); (try clear hcz41_0); (try clear hcz41_1); (try clear hcz42_0); (try clear hcz42_1); (try clear hfz11_0); (try clear hfz11_1); (try clear hfz30_0); (try clear hfz30_1); (try clear hfz35_0); (try clear hfz35_1); (try clear hfz41_0); (try clear hfz41_1); (try clear hfz42_0); (try clear hfz42_1); (try clear p2); (try clear p6); obtain ⟨x0_2, x15_2, x18_2, x114001_2, u114001, rfl, rfl, HA, HK2, HO_0, HO_16, HO_102001, HO_114001, BK101, BK102, BK113, HK, HB⟩ := hrel
        cases gk with
        | zero => exact absurd HA.out (by simp [spec_l11Put.l0])
        | succ k2 =>
         have H := HA.out; clear HA; simp only [spec_l11Put.l0] at H
         by_cases c43 : x18_2 < (t104.length : Int)
         ·rw [if_pos c43] at H; have c43b0 : decide (x18_2 < (t104.length : Int)) = true := decide_eq_true c43; clear c43
          by_cases c44 : 0 ≤ x18_2
          ·rw [if_pos c44] at H; have c44b0 : decide (0 ≤ x18_2) = true := decide_eq_true c44; clear c44
           by_cases c45 : 0 ≤ x15_2
           ·rw [if_pos c45] at H; have c45b0 := eq_true c45; have c45b1 : decide (0 ≤ x15_2) = true := decide_eq_true c45; clear c45
            by_cases c46 : x15_2 ≤ (wrap64 (x15_2 + ((rd_T116 t104 x18_2).f0)))
            ·rw [if_pos c46] at H; have c46b0 := eq_true c46; have c46b1 : decide (x15_2 ≤ (wrap64 (x15_2 + ((rd_T116 t104 x18_2).f0)))) = true := decide_eq_true c46
             by_cases c47 : (wrap64 (x15_2 + ((rd_T116 t104 x18_2).f0))) ≤ ((a1_0 ++ (a3.extract ((ji21) : Int).toNat a3.size)).size : Int)
             ·rw [if_pos c47] at H; have c47b0 := eq_true c47; have c47b1 : decide ((wrap64 (x15_2 + ((rd_T116 t104 x18_2).f0))) ≤ ((a1_0 ++ (a3.extract ((ji21) : Int).toNat a3.size)).size : Int)) = true := decide_eq_true c47
              try (have c47z := c47; simp only [ByteArray.size_append, ByteArray.size_extract, Nat.min_self, Int.natCast_add] at c47z; have c47b3 := eq_true c47z; clear c47z)
              by_cases c48 : a4 = true
              ·subst c48; rw [if_pos rfl] at H; obtain ⟨⟨t116, t119⟩, A49, H⟩ := zH_ H; dsimp only at H
               by_cases c50 : x114001_2.length < 5864062014805
               ·rw [if_pos c50] at H; have LMc50 := Aside0.mk c50; clear c50; obtain ⟨y121, hy121⟩ : ∃ y_ : List (S109), y_ = (x114001_2 ++ [(⟨(rd_T116 t104 x18_2).f0, t119⟩ : S109)]) := ⟨_, rfl⟩
                replace H : (spec_l11Put.l0 k2 t116 true (a1_0 ++ (a3.extract ((ji21) : Int).toNat a3.size)) (wrap64 (x15_2 + ((rd_T116 t104 x18_2).f0))) t104 (wrap64 (x18_2 + 1)) (a1_0 ++ (a3.extract ((ji21) : Int).toNat a3.size)) y121) = some (r1, r2, r3, r4) := by first | (rw [hy121]; with_reducible exact H) | (have H2_ := (Option.bind_some _ _).symm.trans H; rw [hy121]; with_reducible exact H2_) | (have H2_ := (Option.bind_some _ _).symm.trans H; with_reducible exact H2_) | with_reducible exact H | (rw [hy121]; exact H) | exact H
                have Ny121 := Aside0.mk hy121; clear hy121; have H' := Aside0.mk H; clear H; obtain ⟨Ao51, co51, eo51⟩ := RQ_slice HO_16.out; subst eo51; have p114 : 0 ≤ (x18_2 : Int) := of_decide_eq_true d11_; have q114 : x18_2 < (t104.length : Int) := of_decide_eq_true d11_; obtain ⟨ad114, e114, hx114_0, hx114_1, hx114_2, hx114_3⟩ := at_T116 (RQ_reads' HO_16.out).2.2 x18_2 p114 q114
                cases e114
                replace p114 := eq_true p114; replace q114 := eq_true q114; have p115 : 0 ≤ (x18_2 : Int) := of_decide_eq_true d11_; have q115 : x18_2 < (t104.length : Int) := of_decide_eq_true d11_; obtain ⟨ad115, e115, hx115_0, hx115_1, hx115_2, hx115_3⟩ := at_T116 (RQ_reads' HO_16.out).2.2 x18_2 p115 q115; obtain rfl : ad114 = ad115 := (by injection e115); replace p115 := eq_true p115; replace q115 := eq_true q115; obtain ⟨Ao52, co52, eo52⟩ := RQ_slice HO_0.out; subst eo52
                try go_wp2_with (first | ((with_reducible refine gate_callee (f := 122) rfl ?_); refine goesL_ (some 89) rfl rfl Tryz.func122 (by kernel_rfl) rfl #[.slice Ao52 x0_2.length co52, .agg #[.int .i64 ((rd_T116 t104 x18_2).f0), .bool ((rd_T116 t104 x18_2).f1), .int .i64 ((rd_T116 t104 x18_2).f2.f0), .int .i64 ((rd_T116 t104 x18_2).f2.f1)], .string ((a1_0 ++ (a3.extract ((ji21) : Int).toNat a3.size)).extract (x15_2 : Int).toNat ((wrap64 (x15_2 + ((rd_T116 t104 x18_2).f0))) : Int).toNat)] rfl d82_ ?_; (with_reducible refine (spec_l3PieceOut.callsQ (fun k_ => some k_ = (.slice Ao52 x0_2.length co52 : Value).ownBlock) (.slice Ao52 x0_2.length co52) x0_2 ((rd_T116 t104 x18_2).f0) ((rd_T116 t104 x18_2).f1) ((rd_T116 t104 x18_2).f2.f0) ((rd_T116 t104 x18_2).f2.f1) ((a1_0 ++ (a3.extract ((ji21) : Int).toNat a3.size)).extract (x15_2 : Int).toNat ((wrap64 (x15_2 + ((rd_T116 t104 x18_2).f0))) : Int).toNat) t116 t119 w0 _ ?side1 ?side2 A49.out).mono ?_); (case side1 => exact d93_); (case side2 => exact RQ_tight rfl HO_0.out); rintro e w53 ⟨v117, rfl, ho0, hb, hkp⟩; (first | (with_reducible replace ho0 := RQ_ofR ho0) | (with_reducible replace ho0 := RQ_ofQ ho0) | skip); refine ⟨_, rfl, ?_⟩; replace HO_16 := A_ (RQ_mono (ok' := fun k_ => ((P0_ k_ ∨ P1_1_ k_) ∨ w.heap.size ≤ k_)) (RQ_keptB ((RQ_apart' HO_16.out (RQ_typed HO_0.out) (by decide))) hkp (fun k_ hk_ hs_ => (hk_.2) hs_)) (fun k_ hk_ => hk_.1.1)); replace HO_102001 := A_ (RQ_mono (ok' := fun k_ => ((P0_ k_ ∨ P1_1_ k_) ∨ w.heap.size ≤ k_) ∧ some k_ ≠ (u114001 : Value).ownBlock) (RQ_keptB ((RQ_apart' HO_102001.out (RQ_typed HO_0.out) (by decide))) hkp (fun k_ hk_ hs_ => (hk_.2) hs_)) (fun k_ hk_ => ⟨hk_.1.1.1, hk_.1.1.2⟩)); replace HO_114001 := A_ (RQ_mono (ok' := fun k_ => ((P0_ k_ ∨ P1_1_ k_) ∨ w.heap.size ≤ k_) ∧ some k_ ≠ (.slice Ao7 l1_1.length co7 : Value).ownBlock) (RQ_keptB ((RQ_apart' HO_114001.out (RQ_typed HO_0.out) (by decide))) hkp (fun k_ hk_ hs_ => (hk_.2) hs_)) (fun k_ hk_ => ⟨hk_.1.1.1, hk_.1.1.2⟩)); replace BK101 := A_ (blk_kept (zb_ BK101.out) hkp (fun hs_ => (fun e_ => (RQ_ne HO_0.out BK101.out (by decide)) e_) hs_)); replace BK102 := A_ (blk_kept (zb_ BK102.out) hkp (fun hs_ => (fun e_ => (RQ_ne HO_0.out BK102.out (by decide)) e_) hs_)); replace BK113 := A_ (blk_kept (zb_ BK113.out) hkp (fun hs_ => (fun e_ => (RQ_ne HO_0.out BK113.out (by decide)) e_) hs_)); have HO118 := A_ (RQ_mono (ok' := fun k_ => ((P0_ k_ ∨ P1_1_ k_) ∨ w.heap.size ≤ k_)) ho0 (fun k_ hk_ => Or.elim hk_ (fun hs_ => (HO_0.out.1 k_ (hs_).symm)) (fun hn_ => (.inr (Nat.le_trans d94_ hn_))))); replace HK := A_ (Kept.then_ (S := (fun k_ => P0_ k_ ∨ P1_1_ k_)) d92_ hkp (fun k_ hs_ => (fun e_ => (HO_0.out.1 k_ e_.symm)) hs_)); replace HB := A_ hb; clear HO_0; (try clear hb); (try clear hkp); (try clear ho0)))
                have n0_ := Aside0.mk (RQ_drew HO_16.out); have n1_ := Aside0.mk (RQ_drew HO_102001.out); have n2_ := Aside0.mk (RQ_drew HO_114001.out); have n3_ := Aside0.mk (RQ_drew HO118.out); have n4_ := Aside0.mk (blk_drew BK101.out); have n5_ := Aside0.mk (blk_drew BK102.out); have n6_ := Aside0.mk (blk_drew BK113.out); have n7_ := Aside0.mk (Kept.drew HK.out); have n8_ := Aside0.mk (below_drew1 HB.out); clear HO_16; clear HO_102001; clear HO_114001; clear HO118; clear BK101; clear BK102; clear BK113; clear HK; clear HB; have HO_16 := n0_; have HO_102001 := n1_; have HO_114001 := n2_; have HO118 := n3_; have BK101 := n4_; have BK102 := n5_; have BK113 := n6_; have HK := n7_; have HB := n8_; clear n0_ n1_ n2_ n3_ n4_ n5_ n6_ n7_ n8_; have p120 : 0 ≤ (x18_2 : Int) := of_decide_eq_true d11_; have q120 : x18_2 < (t104.length : Int) := of_decide_eq_true d11_; obtain ⟨ad120, e120, hx120_0, hx120_1, hx120_2, hx120_3⟩ := at_T116 (RQ_reads' HO_16.out).2.2 x18_2 p120 q120; obtain rfl : ad114 = ad120 := (by injection e120); replace p120 := eq_true p120; replace q120 := eq_true q120; refine start_ (n := 13) (S := fun w' => w'.cell? ⟨gb113, 0, none⟩ = some (.string (a1_0 ++ (a3.extract ((ji21) : Int).toNat a3.size))) ∧ w'.cell? ⟨gb113, 1, none⟩ = some (u114001) ∧ w'.cell? (ad114.add ((x18_2).toNat * 4)) = some (.int .i64 ((rd_T116 t104 x18_2).f0)) ∧ w'.cell? ⟨(ad114.add ((x18_2).toNat * 4)).block, (ad114.add ((x18_2).toNat * 4)).off + 1, none⟩ = some (.bool ((rd_T116 t104 x18_2).f1)) ∧ w'.cell? ⟨(ad114.add ((x18_2).toNat * 4)).block, (ad114.add ((x18_2).toNat * 4)).off + 2, none⟩ = some (.int .i64 ((rd_T116 t104 x18_2).f2.f0)) ∧ w'.cell? ⟨(ad114.add ((x18_2).toNat * 4)).block, (ad114.add ((x18_2).toNat * 4)).off + 3, none⟩ = some (.int .i64 ((rd_T116 t104 x18_2).f2.f1))) (ds := [10, 12]) #[false, false, false, false, false, false, false, false, false, false, false, false, false] (by kernel_rfl) rfl rfl ⟨(blk_cell BK113.out 0).trans rfl, (blk_cell BK113.out 1).trans rfl, hx120_0, hx120_1, hx120_2, hx120_3⟩ (fun hHeld => ?_); refine with_tabW spec_l11Put.tab18 spec_l11Put.bits18 (fun HT_ HW_ => ?_); generalize w53.drew = w54 at HO_16 HO_102001 HO_114001 HO118 BK101 BK102 BK113 HK HB hx120_0 hx120_1 hx120_2 hx120_3 hHeld ⊢; refine zP_ HT_ 0 (some 99) ?_; refine zP_ HT_ 2 (some 101) ?_; refine zP_ HT_ 3 (some 102) ?_; refine zP_ HT_ 4 (some 103) ?_; refine zP_ HT_ 5 (some 104) ?_; refine zP_ HT_ 7 (some 106) ?_; refine zT_ HT_ HW_ hHeld 1 (some 100) ?_; refine zT_ HT_ HW_ hHeld 6 (some 105) ?_; refine zP_ HT_ 8 (some 107) ?_; refine one_ (i := 9) (N := some 108) #[true, true, true, true, true, true, true, true, true, true, false, false, false] rfl rfl (one_of HT_.out (by kernel_rfl)) (by decide) (fun K hK => ?_); refine value_ (w1 := ?_) (v := ?_) (by rfl) rfl ?_ ?_; rotate_left 2
                ·go_simp
                 constructor
                 ·rfl
                 rfl
                refine hK.out _ _ ⟨(blk_cell (blk_alloc BK113.out _) 0).trans rfl, (blk_cell (blk_alloc BK113.out _) 1).trans rfl, (World.cell?_alloc_lt _ _ _ (World.block_lt_of_cell? _ _ (hHeld.2.2.1))).trans (hHeld.2.2.1), (World.cell?_alloc_lt _ _ _ (World.block_lt_of_cell? _ _ (hHeld.2.2.2.1))).trans (hHeld.2.2.2.1), (World.cell?_alloc_lt _ _ _ (World.block_lt_of_cell? _ _ (hHeld.2.2.2.2.1))).trans (hHeld.2.2.2.2.1), (World.cell?_alloc_lt _ _ _ (World.block_lt_of_cell? _ _ (hHeld.2.2.2.2.2))).trans (hHeld.2.2.2.2.2)⟩ (fun hHeld => ?_); clear hK K; refine norm_ (a' := ?_) ?_ ?_; rotate_left
                ·show Act.put _ (some 108) _ = _
                 simp only [Act.put, List.setIfInBounds_toArray, List.set_cons_zero, List.set_cons_succ, i64_w, i32_w]; rfl
                refine last_ (i := 10) (N := some 109) #[true, true, true, true, true, true, true, true, true, true, true, false, false] rfl rfl (one_of HT_.out (by kernel_rfl)) (by decide) (fun K hK => ?_); refine RQ_append_step (b_ := false) k109 (w0 := w0) w0.heap.size (by rfl) (.tmp 100) (.tmp 108) 24 109 (.agg #[(.int .i64 0), (.string ⟨#[]⟩)]) 24 rfl Tryz.underlying24 info109 rfl (by decide) (by omega) u114001 x114001_2 (⟨(rd_T116 t104 x18_2).f0, t119⟩ : S109) [.int .i64 ((rd_T116 t104 x18_2).f0), .string t119] (fun k_ => ((P0_ k_ ∨ P1_1_ k_) ∨ w.heap.size ≤ k_) ∧ some k_ ≠ (.slice Ao7 l1_1.length co7 : Value).ownBlock) (fun _ => False) rfl rfl ?aP (fun _ hk => hk.elim) ?aF ?aO ?aB ?aS ?aL ?_; (case aP => exact k109_mkM _ _ _ (⟨(rd_T116 t104 x18_2).f0, t119⟩ : S109)); (case aB => exact d95_); (case aF => exact d108_); (case aO => exact (zr_ HO_114001.out)); (case aS => exact d97_); (case aL => have := LMc50.out; omega); intro v122 w55 ho hb hg hat; rw [← Ny121.out] at ho; have n0_ := Aside0.mk (RQ_over' (zr_ HO_16.out) (RQ_typed (zr_ HO_114001.out)) (by decide) hg); have n1_ := Aside0.mk (RQ_after (ok := (fun k_ => ((P0_ k_ ∨ P1_1_ k_) ∨ w.heap.size ≤ k_))) (zr_ HO_102001.out) hg hat); have n2_ := Aside0.mk (blk_grown (g := gb101) (o := .cells #[.string a1_0, .slice Ao7 l1_1.length co7] 26 (0, 0)) (zb_ BK101.out) hg (RQ_ne HO_114001.out BK101.out (by decide))); have n3_ := Aside0.mk (blk_grown (g := gb102) (o := .cells #[.string (⟨#[]⟩ : ByteArray), .slice none 0 0] 26 (0, 0)) (zb_ BK102.out) hg (RQ_ne HO_114001.out BK102.out (by decide))); have n4_ := Aside0.mk (blk_grown (g := gb113) (o := .cells #[.string (a1_0 ++ (a3.extract ((ji21) : Int).toNat a3.size)), u114001] 26 (0, 0)) (zb_ BK113.out) hg (RQ_ne HO_114001.out BK113.out (by decide))); have n5_ := Aside0.mk (RQ_over' (zr_ HO118.out) (RQ_typed (zr_ HO_114001.out)) (by decide) hg); have n6_ := Aside0.mk (hb); have n7_ := Aside0.mk (Kept.of_grown (S := (fun k_ => P0_ k_ ∨ P1_1_ k_)) hg d92_ (fun k_ e_ => (HO_114001.out.1 k_ e_).1)); have n8_ := Aside0.mk (ho); clear HO_16; clear HO_102001; clear BK101; clear BK102; clear BK113; clear HO118; clear HB; clear HK; clear HO_114001; have HO_16 := n0_; have HO_102001 := n1_; have BK101 := n2_; have BK102 := n3_; have BK113 := n4_; have HO118 := n5_; have HB := n6_; have HK := n7_; have HO123 := n8_; clear n0_ n1_ n2_ n3_ n4_ n5_ n6_ n7_ n8_; clear ho hb hg hat; obtain ⟨Ao56, co56, eo56⟩ := RQ_slice HO123.out; (first | subst eo56 | (injection eo56 with f1_ f2_ f3_; have f4_ := f1_.symm; have f5_ := f3_.symm; clear f1_ f2_ f3_; subst f4_; subst f5_)); refine hK.out _ _ ?_; clear hK K; refine norm_ (a' := ?_) ?_ ?_; rotate_left
                ·show Act.put _ (some 109) _ = _
                 simp only [Act.put, List.setIfInBounds_toArray, List.set_cons_zero, List.set_cons_succ, i64_w, i32_w]; rfl
                refine zP_ HT_ 11 (some 110) ?_; refine last_ (i := 12) (N := none) #[true, true, true, true, true, true, true, true, true, true, true, true, true] rfl rfl (one_of HT_.out (by kernel_rfl)) (by decide) (fun K hK => ?_); have hs57 : w55.cell? ⟨gb113, 1, none⟩ = some (u114001) := (blk_cell BK113.out 1).trans rfl; have hfs57 := blk_frozen BK113.out 1; have hns57_0 := NB101_113.out; have hns57_1 := NB102_113.out; have hms57_0 := NB113_101.out; have hms57_1 := NB113_102.out; refine skip_ (w1 := ?_) (by rfl) rfl ?_ ?_; rotate_left
                ·go_simp
                 rfl
                refine hK.out _ _ ?_; clear hK K; refine done_ (done_of HT_.out (by kernel_rfl)) ?_; have p124 : 0 ≤ (x18_2 : Int) := of_decide_eq_true d11_; have q124 : x18_2 < (t104.length : Int) := of_decide_eq_true d11_; obtain ⟨ad124, e124, hx124_0, hx124_1, hx124_2, hx124_3⟩ := at_T116 (RQ_reads' HO_16.out).2.2 x18_2 p124 q124; obtain rfl : ad114 = ad124 := (by injection e124); have hn124_0 : ad114.block ≠ gb113 := Kd.own_blk (RQ_ne HO_16.out BK113.out (by decide)); replace hx124_0 := (cell_far (p := ⟨gb113, 1, none⟩) d98_ (.slice Ao56 y121.length co56)).trans hx124_0; replace hx124_1 := (cell_far (p := ⟨gb113, 1, none⟩) d98_ (.slice Ao56 y121.length co56)).trans hx124_1; replace hx124_2 := (cell_far (p := ⟨gb113, 1, none⟩) d98_ (.slice Ao56 y121.length co56)).trans hx124_2; replace hx124_3 := (cell_far (p := ⟨gb113, 1, none⟩) d98_ (.slice Ao56 y121.length co56)).trans hx124_3; clear hn124_0; replace p124 := eq_true p124; replace q124 := eq_true q124
                try go_wp2
                go_roundg k2
                case measure => have := HJ5.out; have := HK2.out; omega
                case rel => exact ⟨(t116), (wrap64 (x15_2 + ((rd_T116 t104 x18_2).f0))), (wrap64 (x18_2 + 1)), (y121), (.slice Ao56 y121.length co56), zs_, zs_, H', ⟨by have := HJ5.out; have := HK2.out; omega⟩, ⟨by (with_reducible repeat (first | apply RQ_alloc | apply RQ_drewN | apply RQ_drew)); exact RQ_mono (RQ_far (p := ⟨gb113, 1, none⟩) (RQ_types HO118.out BK113.out (by decide)) (fun _ hk => hk.2) (.slice Ao56 y121.length co56)) (fun _ hk => hk.1)⟩, ⟨by (with_reducible repeat (first | apply RQ_alloc | apply RQ_drewN | apply RQ_drew)); exact RQ_mono (RQ_far (p := ⟨gb113, 1, none⟩) (RQ_types HO_16.out BK113.out (by decide)) (fun _ hk => hk.2) (.slice Ao56 y121.length co56)) (fun _ hk => hk.1)⟩, ⟨by (with_reducible repeat (first | apply RQ_alloc | apply RQ_drewN | apply RQ_drew)); exact RQ_mono (RQ_far (p := ⟨gb113, 1, none⟩) (RQ_types HO_102001.out BK113.out (by decide)) (fun _ hk => hk.2) (.slice Ao56 y121.length co56)) (fun _ hk => ⟨hk.1.1, hk.1.2⟩)⟩, ⟨by (with_reducible repeat (first | apply RQ_alloc | apply RQ_drewN | apply RQ_drew)); exact RQ_mono (RQ_far (p := ⟨gb113, 1, none⟩) (RQ_types HO123.out BK113.out (by decide)) (fun _ hk => hk.2) (.slice Ao56 y121.length co56)) (fun _ hk => ⟨hk.1.1, hk.1.2⟩)⟩, ⟨d99_⟩, ⟨d100_⟩, ⟨d101_⟩, ⟨d92_⟩, ⟨d93_⟩⟩
               rw [if_neg c50] at H; exact absurd H (by simp)
              replace c48 := Bool.eq_false_iff.mpr c48; subst c48; rw [if_neg (show ¬ (false = true) by decide)] at H; obtain ⟨t126, A58, H⟩ := zH_ H
              by_cases c59 : x114001_2.length < 5864062014805
              ·rw [if_pos c59] at H; have LMc59 := Aside0.mk c59; clear c59; obtain ⟨y128, hy128⟩ : ∃ y_ : List (S109), y_ = (x114001_2 ++ [(⟨(rd_T116 t104 x18_2).f0, t126⟩ : S109)]) := ⟨_, rfl⟩
               replace H : (spec_l11Put.l0 k2 x0_2 false (a1_0 ++ (a3.extract ((ji21) : Int).toNat a3.size)) (wrap64 (x15_2 + ((rd_T116 t104 x18_2).f0))) t104 (wrap64 (x18_2 + 1)) (a1_0 ++ (a3.extract ((ji21) : Int).toNat a3.size)) y128) = some (r1, r2, r3, r4) := by first | (rw [hy128]; with_reducible exact H) | (have H2_ := (Option.bind_some _ _).symm.trans H; rw [hy128]; with_reducible exact H2_) | (have H2_ := (Option.bind_some _ _).symm.trans H; with_reducible exact H2_) | with_reducible exact H | (rw [hy128]; exact H) | exact H
               have Ny128 := Aside0.mk hy128; clear hy128; have H' := Aside0.mk H; clear H; obtain ⟨Ao60, co60, eo60⟩ := RQ_slice HO_16.out; subst eo60; have p114 : 0 ≤ (x18_2 : Int) := of_decide_eq_true d11_; have q114 : x18_2 < (t104.length : Int) := of_decide_eq_true d11_; obtain ⟨ad114, e114, hx114_0, hx114_1, hx114_2, hx114_3⟩ := at_T116 (RQ_reads' HO_16.out).2.2 x18_2 p114 q114
               cases e114
               replace p114 := eq_true p114; replace q114 := eq_true q114; have p125 : 0 ≤ (x18_2 : Int) := of_decide_eq_true d11_; have q125 : x18_2 < (t104.length : Int) := of_decide_eq_true d11_; obtain ⟨ad125, e125, hx125_0, hx125_1, hx125_2, hx125_3⟩ := at_T116 (RQ_reads' HO_16.out).2.2 x18_2 p125 q125; obtain rfl : ad114 = ad125 := (by injection e125); replace p125 := eq_true p125; replace q125 := eq_true q125; obtain ⟨Ao61, co61, eo61⟩ := RQ_slice HO_0.out; subst eo61
               try go_wp2_with (first | ((with_reducible refine gate_callee (f := 123) rfl ?_); refine goesL_ (some 98) rfl rfl Tryz.func123 (by kernel_rfl) rfl #[.slice Ao61 x0_2.length co61, .agg #[.int .i64 ((rd_T116 t104 x18_2).f0), .bool ((rd_T116 t104 x18_2).f1), .int .i64 ((rd_T116 t104 x18_2).f2.f0), .int .i64 ((rd_T116 t104 x18_2).f2.f1)], .string ((a1_0 ++ (a3.extract ((ji21) : Int).toNat a3.size)).extract (x15_2 : Int).toNat ((wrap64 (x15_2 + ((rd_T116 t104 x18_2).f0))) : Int).toNat)] rfl d82_ ?_; (with_reducible refine (spec_l3PieceIn.calls k2 _ _ x0_2 ((rd_T116 t104 x18_2).f0) ((rd_T116 t104 x18_2).f1) ((rd_T116 t104 x18_2).f2.f0) ((rd_T116 t104 x18_2).f2.f1) ((a1_0 ++ (a3.extract ((ji21) : Int).toNat a3.size)).extract (x15_2 : Int).toNat ((wrap64 (x15_2 + ((rd_T116 t104 x18_2).f0))) : Int).toNat) t126 _ ?side1 ?side2 A58.out).mono ?_); (case side1 => repeat (first | exact (RQ_reads' HO_0.out).2.2 | (with_reducible refine Kd.C_alloc ?_ _) | (with_reducible refine Kd.C_drewN ?_ _) | (with_reducible refine Kd.C_drew ?_))); (case side2 => exact (RQ_reads' HO_0.out).2.1); rintro e w62 ⟨rfl, hb⟩; refine ⟨_, rfl, ?_⟩; replace HO_0 := A_ (RQ_below (zr_ HO_0.out) hb); replace HO_16 := A_ (RQ_below (zr_ HO_16.out) hb); replace HO_102001 := A_ (RQ_below (zr_ HO_102001.out) hb); replace HO_114001 := A_ (RQ_below (zr_ HO_114001.out) hb); replace BK101 := A_ (blk_below (g := gb101) (o := .cells #[.string a1_0, .slice Ao7 l1_1.length co7] 26 (0, 0)) (zb_ BK101.out) hb); replace BK102 := A_ (blk_below (g := gb102) (o := .cells #[.string (⟨#[]⟩ : ByteArray), .slice none 0 0] 26 (0, 0)) (zb_ BK102.out) hb); replace BK113 := A_ (blk_below (g := gb113) (o := .cells #[.string (a1_0 ++ (a3.extract ((ji21) : Int).toNat a3.size)), u114001] 26 (0, 0)) (zb_ BK113.out) hb); replace HK := A_ (Kept.below (S := (fun k_ => P0_ k_ ∨ P1_1_ k_)) d92_ hb); replace HB := A_ (below_step d93_ hb); (try clear hb); (try clear hi)))
               have n0_ := Aside0.mk (RQ_drew HO_0.out); have n1_ := Aside0.mk (RQ_drew HO_16.out); have n2_ := Aside0.mk (RQ_drew HO_102001.out); have n3_ := Aside0.mk (RQ_drew HO_114001.out); have n4_ := Aside0.mk (blk_drew BK101.out); have n5_ := Aside0.mk (blk_drew BK102.out); have n6_ := Aside0.mk (blk_drew BK113.out); have n7_ := Aside0.mk (Kept.drew HK.out); have n8_ := Aside0.mk (below_drew1 HB.out); clear HO_0; clear HO_16; clear HO_102001; clear HO_114001; clear BK101; clear BK102; clear BK113; clear HK; clear HB; have HO_0 := n0_; have HO_16 := n1_; have HO_102001 := n2_; have HO_114001 := n3_; have BK101 := n4_; have BK102 := n5_; have BK113 := n6_; have HK := n7_; have HB := n8_; clear n0_ n1_ n2_ n3_ n4_ n5_ n6_ n7_ n8_; have p127 : 0 ≤ (x18_2 : Int) := of_decide_eq_true d11_; have q127 : x18_2 < (t104.length : Int) := of_decide_eq_true d11_; obtain ⟨ad127, e127, hx127_0, hx127_1, hx127_2, hx127_3⟩ := at_T116 (RQ_reads' HO_16.out).2.2 x18_2 p127 q127; obtain rfl : ad114 = ad127 := (by injection e127); replace p127 := eq_true p127; replace q127 := eq_true q127; refine start_ (n := 13) (S := fun w' => w'.cell? ⟨gb113, 0, none⟩ = some (.string (a1_0 ++ (a3.extract ((ji21) : Int).toNat a3.size))) ∧ w'.cell? ⟨gb113, 1, none⟩ = some (u114001) ∧ w'.cell? (ad114.add ((x18_2).toNat * 4)) = some (.int .i64 ((rd_T116 t104 x18_2).f0)) ∧ w'.cell? ⟨(ad114.add ((x18_2).toNat * 4)).block, (ad114.add ((x18_2).toNat * 4)).off + 1, none⟩ = some (.bool ((rd_T116 t104 x18_2).f1)) ∧ w'.cell? ⟨(ad114.add ((x18_2).toNat * 4)).block, (ad114.add ((x18_2).toNat * 4)).off + 2, none⟩ = some (.int .i64 ((rd_T116 t104 x18_2).f2.f0)) ∧ w'.cell? ⟨(ad114.add ((x18_2).toNat * 4)).block, (ad114.add ((x18_2).toNat * 4)).off + 3, none⟩ = some (.int .i64 ((rd_T116 t104 x18_2).f2.f1))) (ds := [10, 12]) #[false, false, false, false, false, false, false, false, false, false, false, false, false] (by kernel_rfl) rfl rfl ⟨(blk_cell BK113.out 0).trans rfl, (blk_cell BK113.out 1).trans rfl, hx127_0, hx127_1, hx127_2, hx127_3⟩ (fun hHeld => ?_); refine with_tabW spec_l11Put.tab18 spec_l11Put.bits18 (fun HT_ HW_ => ?_); generalize w62.drew = w63 at HO_0 HO_16 HO_102001 HO_114001 BK101 BK102 BK113 HK HB hx127_0 hx127_1 hx127_2 hx127_3 hHeld ⊢; refine zP_ HT_ 0 (some 99) ?_; refine zP_ HT_ 2 (some 101) ?_; refine zP_ HT_ 3 (some 102) ?_; refine zP_ HT_ 4 (some 103) ?_; refine zP_ HT_ 5 (some 104) ?_; refine zP_ HT_ 7 (some 106) ?_; refine zT_ HT_ HW_ hHeld 1 (some 100) ?_; refine zT_ HT_ HW_ hHeld 6 (some 105) ?_; refine zP_ HT_ 8 (some 107) ?_; refine one_ (i := 9) (N := some 108) #[true, true, true, true, true, true, true, true, true, true, false, false, false] rfl rfl (one_of HT_.out (by kernel_rfl)) (by decide) (fun K hK => ?_); refine value_ (w1 := ?_) (v := ?_) (by rfl) rfl ?_ ?_; rotate_left 2
               ·go_simp
                constructor
                ·rfl
                rfl
               refine hK.out _ _ ⟨(blk_cell (blk_alloc BK113.out _) 0).trans rfl, (blk_cell (blk_alloc BK113.out _) 1).trans rfl, (World.cell?_alloc_lt _ _ _ (World.block_lt_of_cell? _ _ (hHeld.2.2.1))).trans (hHeld.2.2.1), (World.cell?_alloc_lt _ _ _ (World.block_lt_of_cell? _ _ (hHeld.2.2.2.1))).trans (hHeld.2.2.2.1), (World.cell?_alloc_lt _ _ _ (World.block_lt_of_cell? _ _ (hHeld.2.2.2.2.1))).trans (hHeld.2.2.2.2.1), (World.cell?_alloc_lt _ _ _ (World.block_lt_of_cell? _ _ (hHeld.2.2.2.2.2))).trans (hHeld.2.2.2.2.2)⟩ (fun hHeld => ?_); clear hK K; refine norm_ (a' := ?_) ?_ ?_; rotate_left
               ·show Act.put _ (some 108) _ = _
                simp only [Act.put, List.setIfInBounds_toArray, List.set_cons_zero, List.set_cons_succ, i64_w, i32_w]; rfl
               refine last_ (i := 10) (N := some 109) #[true, true, true, true, true, true, true, true, true, true, true, false, false] rfl rfl (one_of HT_.out (by kernel_rfl)) (by decide) (fun K hK => ?_); refine RQ_append_step (b_ := false) k109 (w0 := w0) w0.heap.size (by rfl) (.tmp 100) (.tmp 108) 24 109 (.agg #[(.int .i64 0), (.string ⟨#[]⟩)]) 24 rfl Tryz.underlying24 info109 rfl (by decide) (by omega) u114001 x114001_2 (⟨(rd_T116 t104 x18_2).f0, t126⟩ : S109) [.int .i64 ((rd_T116 t104 x18_2).f0), .string t126] (fun k_ => ((P0_ k_ ∨ P1_1_ k_) ∨ w.heap.size ≤ k_) ∧ some k_ ≠ (.slice Ao7 l1_1.length co7 : Value).ownBlock) (fun _ => False) rfl rfl ?aP (fun _ hk => hk.elim) ?aF ?aO ?aB ?aS ?aL ?_; (case aP => exact k109_mkM _ _ _ (⟨(rd_T116 t104 x18_2).f0, t126⟩ : S109)); (case aB => exact d95_); (case aF => exact d108_); (case aO => exact (zr_ HO_114001.out)); (case aS => exact d97_); (case aL => have := LMc59.out; omega); intro v129 w64 ho hb hg hat; rw [← Ny128.out] at ho; have n0_ := Aside0.mk (RQ_over' (zr_ HO_0.out) (RQ_typed (zr_ HO_114001.out)) (by decide) hg); have n1_ := Aside0.mk (RQ_over' (zr_ HO_16.out) (RQ_typed (zr_ HO_114001.out)) (by decide) hg); have n2_ := Aside0.mk (RQ_after (ok := (fun k_ => ((P0_ k_ ∨ P1_1_ k_) ∨ w.heap.size ≤ k_))) (zr_ HO_102001.out) hg hat); have n3_ := Aside0.mk (blk_grown (g := gb101) (o := .cells #[.string a1_0, .slice Ao7 l1_1.length co7] 26 (0, 0)) (zb_ BK101.out) hg (RQ_ne HO_114001.out BK101.out (by decide))); have n4_ := Aside0.mk (blk_grown (g := gb102) (o := .cells #[.string (⟨#[]⟩ : ByteArray), .slice none 0 0] 26 (0, 0)) (zb_ BK102.out) hg (RQ_ne HO_114001.out BK102.out (by decide))); have n5_ := Aside0.mk (blk_grown (g := gb113) (o := .cells #[.string (a1_0 ++ (a3.extract ((ji21) : Int).toNat a3.size)), u114001] 26 (0, 0)) (zb_ BK113.out) hg (RQ_ne HO_114001.out BK113.out (by decide))); have n6_ := Aside0.mk (hb); have n7_ := Aside0.mk (Kept.of_grown (S := (fun k_ => P0_ k_ ∨ P1_1_ k_)) hg d92_ (fun k_ e_ => (HO_114001.out.1 k_ e_).1)); have n8_ := Aside0.mk (ho); clear HO_0; clear HO_16; clear HO_102001; clear BK101; clear BK102; clear BK113; clear HB; clear HK; clear HO_114001; have HO_0 := n0_; have HO_16 := n1_; have HO_102001 := n2_; have BK101 := n3_; have BK102 := n4_; have BK113 := n5_; have HB := n6_; have HK := n7_; have HO130 := n8_; clear n0_ n1_ n2_ n3_ n4_ n5_ n6_ n7_ n8_; clear ho hb hg hat; obtain ⟨Ao65, co65, eo65⟩ := RQ_slice HO130.out; (first | subst eo65 | (injection eo65 with f1_ f2_ f3_; have f4_ := f1_.symm; have f5_ := f3_.symm; clear f1_ f2_ f3_; subst f4_; subst f5_)); refine hK.out _ _ ?_; clear hK K; refine norm_ (a' := ?_) ?_ ?_; rotate_left
               ·show Act.put _ (some 109) _ = _
                simp only [Act.put, List.setIfInBounds_toArray, List.set_cons_zero, List.set_cons_succ, i64_w, i32_w]; rfl
               refine zP_ HT_ 11 (some 110) ?_; refine last_ (i := 12) (N := none) #[true, true, true, true, true, true, true, true, true, true, true, true, true] rfl rfl (one_of HT_.out (by kernel_rfl)) (by decide) (fun K hK => ?_); have hs66 : w64.cell? ⟨gb113, 1, none⟩ = some (u114001) := (blk_cell BK113.out 1).trans rfl; have hfs66 := blk_frozen BK113.out 1; have hns66_0 := NB101_113.out; have hns66_1 := NB102_113.out; have hms66_0 := NB113_101.out; have hms66_1 := NB113_102.out; refine skip_ (w1 := ?_) (by rfl) rfl ?_ ?_; rotate_left
               ·go_simp
                rfl
               refine hK.out _ _ ?_; clear hK K; refine done_ (done_of HT_.out (by kernel_rfl)) ?_; have p131 : 0 ≤ (x18_2 : Int) := of_decide_eq_true d11_; have q131 : x18_2 < (t104.length : Int) := of_decide_eq_true d11_; obtain ⟨ad131, e131, hx131_0, hx131_1, hx131_2, hx131_3⟩ := at_T116 (RQ_reads' HO_16.out).2.2 x18_2 p131 q131; obtain rfl : ad114 = ad131 := (by injection e131); have hn131_0 : ad114.block ≠ gb113 := Kd.own_blk (RQ_ne HO_16.out BK113.out (by decide)); replace hx131_0 := (cell_far (p := ⟨gb113, 1, none⟩) d102_ (.slice Ao65 y128.length co65)).trans hx131_0; replace hx131_1 := (cell_far (p := ⟨gb113, 1, none⟩) d102_ (.slice Ao65 y128.length co65)).trans hx131_1; replace hx131_2 := (cell_far (p := ⟨gb113, 1, none⟩) d102_ (.slice Ao65 y128.length co65)).trans hx131_2; replace hx131_3 := (cell_far (p := ⟨gb113, 1, none⟩) d102_ (.slice Ao65 y128.length co65)).trans hx131_3; clear hn131_0; replace p131 := eq_true p131; replace q131 := eq_true q131
               try go_wp2
               go_roundg k2
               case measure => have := HJ5.out; have := HK2.out; omega
               case rel => exact ⟨(x0_2), (wrap64 (x15_2 + ((rd_T116 t104 x18_2).f0))), (wrap64 (x18_2 + 1)), (y128), (.slice Ao65 y128.length co65), zs_, zs_, H', ⟨by have := HJ5.out; have := HK2.out; omega⟩, ⟨by (with_reducible repeat (first | apply RQ_alloc | apply RQ_drewN | apply RQ_drew)); exact RQ_mono (RQ_far (p := ⟨gb113, 1, none⟩) (RQ_types HO_0.out BK113.out (by decide)) (fun _ hk => hk.2) (.slice Ao65 y128.length co65)) (fun _ hk => hk.1)⟩, ⟨by (with_reducible repeat (first | apply RQ_alloc | apply RQ_drewN | apply RQ_drew)); exact RQ_mono (RQ_far (p := ⟨gb113, 1, none⟩) (RQ_types HO_16.out BK113.out (by decide)) (fun _ hk => hk.2) (.slice Ao65 y128.length co65)) (fun _ hk => hk.1)⟩, ⟨by (with_reducible repeat (first | apply RQ_alloc | apply RQ_drewN | apply RQ_drew)); exact RQ_mono (RQ_far (p := ⟨gb113, 1, none⟩) (RQ_types HO_102001.out BK113.out (by decide)) (fun _ hk => hk.2) (.slice Ao65 y128.length co65)) (fun _ hk => ⟨hk.1.1, hk.1.2⟩)⟩, ⟨by (with_reducible repeat (first | apply RQ_alloc | apply RQ_drewN | apply RQ_drew)); exact RQ_mono (RQ_far (p := ⟨gb113, 1, none⟩) (RQ_types HO130.out BK113.out (by decide)) (fun _ hk => hk.2) (.slice Ao65 y128.length co65)) (fun _ hk => ⟨hk.1.1, hk.1.2⟩)⟩, ⟨d99_⟩, ⟨d100_⟩, ⟨d101_⟩, ⟨d92_⟩, ⟨d93_⟩⟩
              rw [if_neg c59] at H; exact absurd H (by simp)
             rw [if_neg c47] at H; exact absurd H (by simp)
            rw [if_neg c46] at H; exact absurd H (by simp)
           rw [if_neg c45] at H; exact absurd H (by simp)
          rw [if_neg c44] at H; exact absurd H (by simp)
         rw [if_neg c43] at H; have c43b0 : decide (x18_2 < (t104.length : Int)) = false := decide_eq_false c43; clear c43; simp only [Option.some.injEq, Prod.mk.injEq] at H; obtain ⟨rfl, rfl, rfl, rfl⟩ := H; obtain ⟨Ao67, co67, eo67⟩ := RQ_slice HO_16.out; subst eo67
         try go_wp2
         have n0_ := Aside0.mk (RQ_drew HO_0.out); have n1_ := Aside0.mk (RQ_drew HO_16.out); have n2_ := Aside0.mk (RQ_drew HO_102001.out); have n3_ := Aside0.mk (RQ_drew HO_114001.out); have n4_ := Aside0.mk (blk_drew BK101.out); have n5_ := Aside0.mk (blk_drew BK102.out); have n6_ := Aside0.mk (blk_drew BK113.out); have n7_ := Aside0.mk (Kept.drew HK.out); have n8_ := Aside0.mk (below_drew1 HB.out); clear HO_0; clear HO_16; clear HO_102001; clear HO_114001; clear BK101; clear BK102; clear BK113; clear HK; clear HB; have HO_0 := n0_; have HO_16 := n1_; have HO_102001 := n2_; have HO_114001 := n3_; have BK101 := n4_; have BK102 := n5_; have BK113 := n6_; have HK := n7_; have HB := n8_; clear n0_ n1_ n2_ n3_ n4_ n5_ n6_ n7_ n8_; obtain ⟨Ao70, co70, eo70⟩ := RQ_slice HO_114001.out; (first | subst eo70 | (injection eo70 with f1_ f2_ f3_; have f4_ := f1_.symm; have f5_ := f3_.symm; clear f1_ f2_ f3_; subst f4_; subst f5_)); refine start_ (n := 5) (S := fun w' => w'.cell? ⟨gb113, 0, none⟩ = some (.string (a1_0 ++ (a3.extract ((ji21) : Int).toNat a3.size))) ∧ w'.cell? ⟨gb113, 1, none⟩ = some (.slice Ao70 x114001_2.length co70)) (ds := []) #[false, false, false, false, false] (by kernel_rfl) rfl rfl ⟨(blk_cell BK113.out 0).trans rfl, (blk_cell BK113.out 1).trans rfl⟩ (fun hHeld => ?_); generalize wr.drew = w68 at HO_0 HO_16 HO_102001 HO_114001 BK101 BK102 BK113 HK HB hHeld ⊢; refine pure_ (i := 0) (N := some 118) (v := ?_) (a' := ?_) #[true, false, false, false, false] rfl rfl (by kernel_rfl) (fun _ _ _ h => h) (Or.inl ⟨by rfl, ?_⟩) ?_ ?_; rotate_left
         ·intro w'
          go_simp
          with_reducible rfl
         rotate_left
         ·simp only [Act.put, List.setIfInBounds_toArray, List.set_cons_zero, List.set_cons_succ, i64_w, i32_w]; rfl
         refine pure_ (i := 2) (N := some 10) (v := ?_) (a' := ?_) #[true, false, true, false, false] rfl rfl (by kernel_rfl) (fun _ _ _ h => h) (Or.inl ⟨by rfl, ?_⟩) ?_ ?_; rotate_left
         ·intro w'
          go_simp
          with_reducible rfl
         rotate_left
         ·simp only [Act.put, List.setIfInBounds_toArray, List.set_cons_zero, List.set_cons_succ, i64_w, i32_w]; rfl
         refine take_ (i := 1) (N := some 119) (v := ?_) (a' := ?_) #[true, true, true, false, false] rfl rfl (by kernel_rfl) (fun _ _ _ h => h) (Or.inl ⟨by rfl, ?_⟩) hHeld ?_ ?_; rotate_left
         ·rintro w' ⟨s0, s1⟩
          go_simp
          with_reducible rfl
         rotate_left
         ·simp only [Act.put, List.setIfInBounds_toArray, List.set_cons_zero, List.set_cons_succ, i64_w, i32_w]; rfl
         refine one_ (i := 3) (N := none) #[true, true, true, true, false] rfl rfl (by kernel_rfl) (by decide) (fun K hK => ?_); have hs69 : w68.cell? ⟨gb102, 0, none⟩ = some (.string (⟨#[]⟩ : ByteArray)) := (blk_cell BK102.out 0).trans rfl; have hfs69 := blk_frozen BK102.out 0; have hns69_0 := NB101_102.out; have hns69_2 := NB113_102.out; have hms69_0 := NB102_101.out; have hms69_2 := NB102_113.out; have hs71 : w68.cell? ⟨gb102, 1, none⟩ = some (.slice none 0 0) := (blk_cell BK102.out 1).trans rfl; have hfs71 := blk_frozen BK102.out 1; have hns71_0 := NB101_102.out; have hns71_2 := NB113_102.out; have hms71_0 := NB102_101.out; have hms71_2 := NB102_113.out; refine skip_ (w1 := ?_) (by rfl) rfl ?_ ?_; rotate_left
         ·go_simp
          rfl
         refine hK.out _ _ ⟨((cell_far (p := ⟨gb102, _, none⟩) NB113_102.out _).trans (((cell_far (p := ⟨gb102, _, none⟩) NB113_102.out _).trans (hHeld.1)))), ((cell_far (p := ⟨gb102, _, none⟩) NB113_102.out _).trans (((cell_far (p := ⟨gb102, _, none⟩) NB113_102.out _).trans (hHeld.2))))⟩ (fun hHeld => ?_); clear hK K; refine pure_ (i := 4) (N := some 12) (v := ?_) (a' := ?_) #[true, true, true, true, true] rfl rfl (by kernel_rfl) (fun _ _ _ h => h) (Or.inl ⟨by rfl, ?_⟩) ?_ ?_; rotate_left
         ·intro w'
          go_simp
          with_reducible rfl
         rotate_left
         ·simp only [Act.put, List.setIfInBounds_toArray, List.set_cons_zero, List.set_cons_succ, i64_w, i32_w]; rfl
         refine done_ (by kernel_rfl) ?_
         try go_wp2
         refine bodyPost_ret (results_list (rs := [.tmp 10, .cell 11 26, .tmp 12]) rfl (by simp) (.tmp (.cell gb102 26 #[.string (a1_0 ++ (a3.extract ((ji21) : Int).toNat a3.size)), .slice Ao70 x114001_2.length co70] (0, 0) _ rfl d103_ Tryz.underlying26 rfl (by kernel_rfl) (.tmp .nil)))) rfl ?_; exact ⟨_, _, d104_, by (with_reducible repeat (first | apply RQ_alloc | apply RQ_drewN | apply RQ_drew)); exact RQ_mono (RQ_far (p := ⟨gb102, 1, none⟩) (RQ_far (p := ⟨gb102, 0, none⟩) (RQ_types HO_0.out BK102.out (by decide)) (fun _ hk => hk.2) (.string (a1_0 ++ (a3.extract ((ji21) : Int).toNat a3.size)))) (fun _ hk => hk.2) (.slice Ao70 x114001_2.length co70)) (fun _ hk => hk.1), by (with_reducible repeat (first | apply RQ_alloc | apply RQ_drewN | apply RQ_drew)); exact RQ_mono (RQ_far (p := ⟨gb102, 1, none⟩) (RQ_far (p := ⟨gb102, 0, none⟩) (RQ_types HO_114001.out BK102.out (by decide)) (fun _ hk => hk.2) (.string (a1_0 ++ (a3.extract ((ji21) : Int).toNat a3.size)))) (fun _ hk => hk.2) (.slice Ao70 x114001_2.length co70)) (fun _ hk => hk.1.1), d93_, d92_⟩
      rw [if_neg c27] at H; exact absurd H (by simp)
     rw [if_neg c24] at H; exact absurd H (by simp)
    rw [if_neg c23] at H; exact absurd H (by simp)
   rw [if_neg c22] at H; exact absurd H (by simp)
end
end Go.Proofs.YtfjbjiklohjodaaGreatDoor.Q
namespace Go.Proofs.YtfjbjiklohjodaaGreatDoor.Q
open Go.RowKit Go.Proofs.YtfjbjiklohjodaaGreatDoorW.PrintWords Go.Proofs.YtfjbjiklohjodaaGreatDoorW.PrintLast Go.Proofs.YtfjbjiklohjodaaGreatDoorW.PrintMore
attribute [local go_sem] max2_int min2_int max_two min_two max_three min_three max_four min_four
set_option linter.unusedVariables false
set_option linter.unusedSimpArgs false
noncomputable section
mutual
def spec_StreamOk.j0 : Nat → List (S116) → Bool → ByteArray → List (S109) → Option (Bool)
 | 0, _, _, _, _ => none
 | k + 1, x3, x19, x102000, x102001 => if x19 = true then (some false) else (spec_StreamOk.l0 k x3 0 x102000 x102001)
def spec_StreamOk.l0 : Nat → List (S116) → Int → ByteArray → List (S109) → Option (Bool)
 | 0, _, _, _, _ => none
 | k + 1, x3, x4, x102000, x102001 => if x4 < (x3.length : Int) then (if 0 ≤ x4 then (if x4 < (x102001.length : Int) then (if ((rd_T109 x102001 x4).f0) = ((rd_T116 x3 x4).f0) then (if (((rd_T109 x102001 x4).f1).size : Int) > 6 then (some false) else (if ((rd_T109 x102001 x4).f1).toList = ([] : List UInt8) then (some false) else ((spec_TextOk.f ((rd_T109 x102001 x4).f1)).bind fun t111 => (if t111 = true then (spec_StreamOk.l0 k x3 (wrap64 (x4 + 1)) x102000 x102001) else (some false))))) else (some false)) else (none)) else (none)) else (some true)
end
def spec_StreamOk.f (k : Nat) (a0_0 : ByteArray) (l0_1 : List (S109)) : Option (Bool) := (spec_TextPieces.f k a0_0).bind fun t102 => ((spec_TextOk.f a0_0).bind fun t105 => (if t105 = true then (spec_StreamOk.j0 k t102 ((t102.length : Int) != (l0_1.length : Int)) a0_0 l0_1) else (spec_StreamOk.j0 k t102 true a0_0 l0_1)))
theorem spec_StreamOk.mono_l : ∀ k, (∀ y0 y1 y2 y3, LeO (spec_StreamOk.j0 k y0 y1 y2 y3) (spec_StreamOk.j0 (k + 1) y0 y1 y2 y3)) ∧ (∀ y0 y1 y2 y3, LeO (spec_StreamOk.l0 k y0 y1 y2 y3) (spec_StreamOk.l0 (k + 1) y0 y1 y2 y3))
 | 0 => ⟨fun _ _ _ _ r h => by simp [spec_StreamOk.j0] at h, fun _ _ _ _ r h => by simp [spec_StreamOk.l0] at h⟩
 | k + 1 => by
  obtain ⟨ih0, ih1⟩ := spec_StreamOk.mono_l k
  refine ⟨?_, ?_⟩
  ·intro y0 y1 y2 y3
   unfold spec_StreamOk.j0
   have m0 := @spec_TextPieces.mono
   exact zq_
  ·intro y0 y1 y2 y3
   unfold spec_StreamOk.l0
   have m0 := @spec_TextPieces.mono
   exact zq_
theorem spec_StreamOk.mono : ∀ a0 a1 k, LeO (spec_StreamOk.f k a0 a1) (spec_StreamOk.f (k + 1) a0 a1) := by
 intro a0 a1 k
 obtain ⟨ih0, ih1⟩ := spec_StreamOk.mono_l k
 unfold spec_StreamOk.f
 have m0 := @spec_TextPieces.mono
 exact zq_
def spec_StreamOk.T7 : Bool × List (List Nat × List Nat) := (true, [([], []), ([0], [0]), ([], []), ([1, 2], [1, 2]), ([3], [3]), ([4], [4]), ([], []), ([], []), ([6, 7], [6, 7]), ([8], [8]), ([9], [9]), ([5, 10], [5, 10]), ([11], [11]), ([12], [12]), ([13, 12], [12, 13]), ([12], [12]), ([14, 15, 12], [12, 14, 15]), ([16, 12], [12, 16]), ([17, 12], [12, 17]), ([18, 12], [12, 18]), ([19, 12], [12, 19]), ([12, 20], [12, 20]), ([21, 12], [21]), ([22], [22]), ([23, 22], [22, 23]), ([22], [22]), ([24, 25, 22], [22, 24, 25]), ([26, 22], [22, 26]), ([27, 22], [22, 27]), ([28, 22], [22, 28]), ([22, 29], [22, 29]), ([30, 22], [30]), ([31], [31]), ([32, 31], [31, 32]), ([31], [31]), ([33, 34, 31], [31, 33, 34]), ([35, 31], [31, 35]), ([36, 31], [31, 36]), ([37, 31, 31], [31, 37]), ([38, 31], [31, 38]), ([31, 39], [31, 39])])
def spec_StreamOk.B7 : List Nat := [0, 1, 0, 7, 15, 31, 0, 0, 192, 448, 960, 2047, 4095, 8191, 16383, 8191, 65535, 131071, 262143, 524287, 1048575, 2097151, 4194303, 8388607, 16777215, 8388607, 67108863, 134217727, 268435455, 536870911, 1073741823, 2147483647, 4294967295, 8589934591, 4294967295, 34359738367, 68719476735, 137438953471, 274877906943, 549755813887, 1099511627775]
theorem spec_StreamOk.tab7 : rtab .any (opsOf Tryz.f21 7) = spec_StreamOk.T7 := by kernel_rfl
theorem spec_StreamOk.bits7 : waitsOk spec_StreamOk.T7.2 spec_StreamOk.B7 = true := by kernel_rfl
set_option maxHeartbeats 8000000 in
set_option maxRecDepth 100000 in
theorem spec_StreamOk.calls (k : Nat) (a0_0 : ByteArray) (A0_1 : Option Addr) (c0_1 : Nat) (l0_1 : List (S109)) (r : Bool) (w : World) (hr0_1 : Kd.C k109 w A0_1 l0_1.length l0_1) (hc0_1 : l0_1.length ≤ c0_1) (h : spec_StreamOk.f k a0_0 l0_1 = some r) :
  Calls Tryz.prog 21 #[.agg #[.string a0_0, .slice A0_1 l0_1.length c0_1]] w fun e w' => e = .returned (.bool r) ∧ Below w.heap.size w w' := by
 have hu26 := Tryz.underlying26
 have HR0_1 := Aside0.mk hr0_1
 have HC0_1 := Aside0.mk hc0_1
 clear hr0_1 hc0_1
 have HB := Aside0.mk (Below.refl w.heap.size w)
 have H : ((spec_TextPieces.f k a0_0).bind fun t102 => ((spec_TextOk.f a0_0).bind fun t105 => (if t105 = true then (spec_StreamOk.j0 k t102 ((t102.length : Int) != (l0_1.length : Int)) a0_0 l0_1) else (spec_StreamOk.j0 k t102 true a0_0 l0_1)))) = some r := h
 clear h
 obtain ⟨t102, A2, H⟩ := zH_ H
 have HC3 := Aside0.mk H
 clear H
 go_enter Tryz.func21, Tryz.ntmps21
 go_upto_region 2 with (first | ((with_reducible refine gate_dst (N := 1) rfl ?_); (try (refine gate_guard (by rfl) ?_; dsimp only)); refine zx_ (N := 1) #[.string a0_0, .slice A0_1 l0_1.length c0_1] 26 ?_; intro gb101 hg w4 hbox hb; have BK101 := A_ hbox; have GW101 := A_ ((d0_ : w.heap.size ≤ gb101)); have GE101 := A_ ((d0_ : w.heap.size ≤ gb101)); replace HB := A_ (below_step (zB_ HB.out) hb); clear hb hbox hg; have hcz5_0 : w4.cell? ⟨gb101, 0, none⟩ = some (.string a0_0) := (blk_cell BK101.out 0).trans rfl; have hcz5_1 : w4.cell? ⟨gb101, 1, none⟩ = some (.slice A0_1 l0_1.length c0_1) := (blk_cell BK101.out 1).trans rfl; have hfz5_0 := blk_frozen BK101.out 0; have hfz5_1 := blk_frozen BK101.out 1) | ((with_reducible refine gate_callee (f := 73) rfl ?_); refine zc_ (some 7) Tryz.func73 #[.string a0_0] ?_; (with_reducible refine (spec_TextPieces.calls k a0_0 t102 _ A2.out).mono ?_); rintro e w6 ⟨v103, rfl, ho0, hb⟩; refine ⟨_, rfl, ?_⟩; have HO104 := A_ (Kd.R_lower ho0 (below_size d1_)); replace BK101 := A_ (blk_below (g := gb101) (o := .cells #[.string a0_0, .slice A0_1 l0_1.length c0_1] 26 (0, 0)) (zb_ BK101.out) hb); replace HB := A_ (below_step d1_ hb); (try clear hb); (try clear ho0)))
 (try simp only [Act.put, List.setIfInBounds_toArray, List.set_cons_zero, List.set_cons_succ])
 go_cut [19] (fun v19 wc => ∃ (kq : Nat) (x19_2 : Bool), v19 = .bool x19_2 ∧ Aside0 (spec_StreamOk.j0 kq t102 x19_2 a0_0 l0_1 = some r) ∧ Aside0 (kq ≤ k) ∧ Aside0 (Kd.R k116 116 wc w.heap.size (fun _ => True) v103 t102) ∧ Aside0 (wc.heap[gb101]? = some (.cells #[.string a0_0, (.slice A0_1 l0_1.length c0_1)] 26 (0, 0))) ∧ Aside0 (Below w.heap.size w wc))
 case first =>
  have H := HC3.out; clear HC3; obtain ⟨t105, A7, H⟩ := zH_ H
  by_cases c8 : t105 = true
  ·subst c8; rw [if_pos rfl] at H; have H' := Aside0.mk H; clear H; have hcz9_0 : w6.cell? ⟨gb101, 0, none⟩ = some (.string a0_0) := (blk_cell BK101.out 0).trans rfl; have hcz9_1 : w6.cell? ⟨gb101, 1, none⟩ = some (.slice A0_1 l0_1.length c0_1) := (blk_cell BK101.out 1).trans rfl; have hfz9_0 := blk_frozen BK101.out 0; have hfz9_1 := blk_frozen BK101.out 1
   go_wp2_with (first | ((with_reducible refine gate_callee (f := 22) rfl ?_); refine zc_ (some 10) Tryz.func22 #[.string a0_0] ?_; (with_reducible refine (spec_TextOk.calls a0_0 true _ A7.out).mono ?_); rintro e w10 ⟨rfl, hb⟩; refine ⟨_, rfl, ?_⟩; replace HO104 := A_ (Kd.R_below (zR_ HO104.out) hb); replace BK101 := A_ (blk_below (g := gb101) (o := .cells #[.string a0_0, .slice A0_1 l0_1.length c0_1] 26 (0, 0)) (zb_ BK101.out) hb); replace HB := A_ (below_step d1_ hb); (try clear hb); obtain ⟨Ao11, co11, eo11⟩ := Kd.R_slice HO104.out; subst eo11; have hcz12_0 : w10.cell? ⟨gb101, 0, none⟩ = some (.string a0_0) := (blk_cell BK101.out 0).trans rfl; have hcz12_1 : w10.cell? ⟨gb101, 1, none⟩ = some (.slice A0_1 l0_1.length c0_1) := (blk_cell BK101.out 1).trans rfl; have hfz12_0 := blk_frozen BK101.out 0; have hfz12_1 := blk_frozen BK101.out 1))
   go_meet
   case rel => exact ⟨_, (((t102.length : Int) != (l0_1.length : Int))), zs_, H', ⟨d2_⟩, ⟨d69_⟩, ⟨d3_⟩, ⟨d1_⟩⟩
  replace c8 := Bool.eq_false_iff.mpr c8; subst c8; rw [if_neg (show ¬ (false = true) by decide)] at H; have H' := Aside0.mk H; clear H; have hcz13_0 : w6.cell? ⟨gb101, 0, none⟩ = some (.string a0_0) := (blk_cell BK101.out 0).trans rfl; have hcz13_1 : w6.cell? ⟨gb101, 1, none⟩ = some (.slice A0_1 l0_1.length c0_1) := (blk_cell BK101.out 1).trans rfl; have hfz13_0 := blk_frozen BK101.out 0; have hfz13_1 := blk_frozen BK101.out 1
  go_wp2_with (first | ((with_reducible refine gate_callee (f := 22) rfl ?_); refine zc_ (some 10) Tryz.func22 #[.string a0_0] ?_; (with_reducible refine (spec_TextOk.calls a0_0 false _ A7.out).mono ?_); rintro e w14 ⟨rfl, hb⟩; refine ⟨_, rfl, ?_⟩; replace HO104 := A_ (Kd.R_below (zR_ HO104.out) hb); replace BK101 := A_ (blk_below (g := gb101) (o := .cells #[.string a0_0, .slice A0_1 l0_1.length c0_1] 26 (0, 0)) (zb_ BK101.out) hb); replace HB := A_ (below_step d1_ hb); (try clear hb); (try clear hi)))
  go_meet
  case rel => exact ⟨_, (true), zs_, H', ⟨d2_⟩, ⟨d69_⟩, ⟨d3_⟩, ⟨d1_⟩⟩
 case rest =>
  clear HC3
  try clear c2
  try clear p2
  try clear c7
  try clear c8
  try clear hcz12_0
  try clear hcz12_1
  try clear hcz13_0
  try clear hcz13_1
  try clear hcz5_0
  try clear hcz5_1
  try clear hcz9_0
  try clear hcz9_1
  try clear hfz12_0
  try clear hfz12_1
  try clear hfz13_0
  try clear hfz13_1
  try clear hfz5_0
  try clear hfz5_1
  try clear hfz9_0
  try clear hfz9_1
  obtain ⟨kq, x19_2, rfl, HA, HJ2, HO_3, BK101, HB⟩ := hcut
  cases kq with
  | zero => exact absurd HA.out (by simp [spec_StreamOk.j0])
  | succ kj2 =>
   have H := HA.out; clear HA; simp only [spec_StreamOk.j0] at H
   by_cases c15 : x19_2 = true
   ·subst c15; rw [if_pos rfl] at H; obtain rfl := Option.some.inj H
    go_wp2
    go_ret
    exact ⟨d4_, d1_⟩
   replace c15 := Bool.eq_false_iff.mpr c15; subst c15; rw [if_neg (show ¬ (false = true) by decide)] at H; have H' := Aside0.mk H; clear H
   go_wp2
   go_loopg [4] kj2 (fun kq v4 w' => ∃ (x4_2 : Int), v4 = .int .i64 x4_2 ∧ Aside0 (spec_StreamOk.l0 kq t102 x4_2 a0_0 l0_1 = some r) ∧ Aside0 (kq ≤ kj2) ∧ Aside0 (Kd.R k116 116 w' w.heap.size (fun _ => True) v103 t102) ∧ Aside0 (w'.heap[gb101]? = some (.cells #[.string a0_0, (.slice A0_1 l0_1.length c0_1)] 26 (0, 0))) ∧ Aside0 (Below w.heap.size w w'))
   case atStart => exact ⟨(0), zs_, H', ⟨Nat.le_refl _⟩, ⟨d26_⟩, ⟨d3_⟩, ⟨d1_⟩⟩
   case round =>
    clear H'; (try clear c1); (try clear c2); (try clear p2); (try clear c7); (try clear c8); (try clear c15); (try clear hcz12_0); (try clear hcz12_1); (try clear hcz13_0); (try clear hcz13_1); (try clear hcz5_0); (try clear hcz5_1); (try clear hcz9_0); (try clear hcz9_1); (try clear hfz12_0); (try clear hfz12_1); (try clear hfz13_0); (try clear hfz13_1); (try clear hfz5_0); (try clear hfz5_1); (try clear hfz9_0); (try clear hfz9_1); (try clear p2); obtain ⟨x4_2, rfl, HA, HK2, HO_3, BK101, HB⟩ := hrel
    cases gk with
    | zero => exact absurd HA.out (by simp [spec_StreamOk.l0])
    | succ k2 =>
     have H := HA.out; clear HA; simp only [spec_StreamOk.l0] at H
     by_cases c16 : x4_2 < (t102.length : Int)
     ·rw [if_pos c16] at H; have c16b0 : decide (x4_2 < (t102.length : Int)) = true := decide_eq_true c16; clear c16
      by_cases c17 : 0 ≤ x4_2
      ·rw [if_pos c17] at H; have c17b0 : decide (0 ≤ x4_2) = true := decide_eq_true c17; clear c17
       by_cases c18 : x4_2 < (l0_1.length : Int)
       ·rw [if_pos c18] at H; have c18b0 : decide (x4_2 < (l0_1.length : Int)) = true := decide_eq_true c18; clear c18
        by_cases c19 : ((rd_T109 l0_1 x4_2).f0) = ((rd_T116 t102 x4_2).f0)
        ·rw [if_pos c19] at H; have c19b0 : (((rd_T109 l0_1 x4_2).f0) == ((rd_T116 t102 x4_2).f0)) = true := beq_iff_eq.mpr c19; have c19b1 : (((rd_T109 l0_1 x4_2).f0) != ((rd_T116 t102 x4_2).f0)) = false := bne_eq_false_iff_eq.mpr c19; clear c19
         by_cases c20 : (((rd_T109 l0_1 x4_2).f1).size : Int) > 6
         ·rw [if_pos c20] at H; have c20b0 : decide (6 < (((rd_T109 l0_1 x4_2).f1).size : Int)) = true := decide_eq_true c20; have c20b1 : decide (6 < ((rd_T109 l0_1 x4_2).f1).size) = true := decide_eq_true (by omega); clear c20; obtain rfl := Option.some.inj H; obtain ⟨Ao21, co21, eo21⟩ := Kd.R_slice HO_3.out; subst eo21
          try go_wp2
          have n0_ := Aside0.mk (Kd.R_drew HO_3.out); have n1_ := Aside0.mk (blk_drew BK101.out); have n2_ := Aside0.mk (below_drew1 HB.out); clear HO_3; clear BK101; clear HB; have HO_3 := n0_; have BK101 := n1_; have HB := n2_; clear n0_ n1_ n2_; have p106 : 0 ≤ (x4_2 : Int) := of_decide_eq_true d11_; have q106 : x4_2 < (l0_1.length : Int) := of_decide_eq_true d11_; obtain ⟨ad106, e106, hx106_0, hx106_1⟩ := at_T109 HR0_1.out x4_2 p106 q106; have hw106_1 := hx106_1; have hw106_0 := hx106_0
          cases e106
          replace hx106_0 := (HB.out.cell (World.block_lt_of_cell? w _ hx106_0)).trans hx106_0; replace hx106_1 := (HB.out.cell (World.block_lt_of_cell? w _ hx106_1)).trans hx106_1; replace p106 := eq_true p106; replace q106 := eq_true q106; have p107 : 0 ≤ (x4_2 : Int) := of_decide_eq_true d11_; have q107 : x4_2 < (t102.length : Int) := of_decide_eq_true d11_; obtain ⟨ad107, e107, hx107_0, hx107_1, hx107_2, hx107_3⟩ := at_T116 (Kd.R_reads' HO_3.out).2.2 x4_2 p107 q107
          cases e107
          replace p107 := eq_true p107; replace q107 := eq_true q107; have p108 : 0 ≤ (x4_2 : Int) := of_decide_eq_true d11_; have q108 : x4_2 < (l0_1.length : Int) := of_decide_eq_true d11_; obtain ⟨ad108, e108, hx108_0, hx108_1⟩ := at_T109 HR0_1.out x4_2 p108 q108; have hw108_1 := hx108_1; have hw108_0 := hx108_0; obtain rfl : ad106 = ad108 := (by injection e108); replace hx108_0 := (HB.out.cell (World.block_lt_of_cell? w _ hx108_0)).trans hx108_0; replace hx108_1 := (HB.out.cell (World.block_lt_of_cell? w _ hx108_1)).trans hx108_1; replace p108 := eq_true p108; replace q108 := eq_true q108; refine start_ (n := 41) (S := fun w' => w'.cell? ⟨gb101, 0, none⟩ = some (.string a0_0) ∧ w'.cell? ⟨gb101, 1, none⟩ = some (.slice (some ad106) l0_1.length c0_1) ∧ w'.cell? (ad106.add ((x4_2).toNat * 2)) = some (.int .i64 ((rd_T109 l0_1 x4_2).f0)) ∧ w'.cell? ⟨(ad106.add ((x4_2).toNat * 2)).block, (ad106.add ((x4_2).toNat * 2)).off + 1, none⟩ = some (.string ((rd_T109 l0_1 x4_2).f1)) ∧ w'.cell? (ad107.add ((x4_2).toNat * 4)) = some (.int .i64 ((rd_T116 t102 x4_2).f0)) ∧ w'.cell? ⟨(ad107.add ((x4_2).toNat * 4)).block, (ad107.add ((x4_2).toNat * 4)).off + 1, none⟩ = some (.bool ((rd_T116 t102 x4_2).f1)) ∧ w'.cell? ⟨(ad107.add ((x4_2).toNat * 4)).block, (ad107.add ((x4_2).toNat * 4)).off + 2, none⟩ = some (.int .i64 ((rd_T116 t102 x4_2).f2.f0)) ∧ w'.cell? ⟨(ad107.add ((x4_2).toNat * 4)).block, (ad107.add ((x4_2).toNat * 4)).off + 3, none⟩ = some (.int .i64 ((rd_T116 t102 x4_2).f2.f1)) ∧ w'.cell? (ad106.add ((x4_2).toNat * 2)) = some (.int .i64 ((rd_T109 l0_1 x4_2).f0)) ∧ w'.cell? ⟨(ad106.add ((x4_2).toNat * 2)).block, (ad106.add ((x4_2).toNat * 2)).off + 1, none⟩ = some (.string ((rd_T109 l0_1 x4_2).f1))) (ds := []) #[false, false, false, false, false, false, false, false, false, false, false, false, false, false, false, false, false, false, false, false, false, false, false, false, false, false, false, false, false, false, false, false, false, false, false, false, false, false, false, false, false] (by kernel_rfl) rfl rfl ⟨(blk_cell BK101.out 0).trans rfl, (blk_cell BK101.out 1).trans rfl, ((HB.out.cell (World.block_lt_of_cell? w _ hw106_0)).trans hw106_0), ((HB.out.cell (World.block_lt_of_cell? w _ hw106_1)).trans hw106_1), hx107_0, hx107_1, hx107_2, hx107_3, ((HB.out.cell (World.block_lt_of_cell? w _ hw108_0)).trans hw108_0), ((HB.out.cell (World.block_lt_of_cell? w _ hw108_1)).trans hw108_1)⟩ (fun hHeld => ?_); refine with_tabW spec_StreamOk.tab7 spec_StreamOk.bits7 (fun HT_ HW_ => ?_); generalize wr.drew = w22 at HO_3 BK101 HB hx106_0 hx106_1 hx107_0 hx107_1 hx107_2 hx107_3 hx108_0 hx108_1 hHeld ⊢; refine zP_ HT_ 0 (some 26) ?_; refine zP_ HT_ 2 (some 28) ?_; refine zP_ HT_ 6 (some 32) ?_; refine zP_ HT_ 7 (some 33) ?_; refine zP_ HT_ 8 (some 34) ?_; refine zP_ HT_ 9 (some 35) ?_; refine zT_ HT_ HW_ hHeld 1 (some 27) ?_; refine zP_ HT_ 3 (some 29) ?_; refine zP_ HT_ 4 (some 30) ?_; refine zT_ HT_ HW_ hHeld 5 (some 31) ?_; refine zT_ HT_ HW_ hHeld 10 (some 36) ?_; refine zP_ HT_ 11 (some 37) ?_; refine zP_ HT_ 12 (some 38) ?_; refine zP_ HT_ 13 (some 39) ?_; refine zP_ HT_ 15 (some 41) ?_; refine zT_ HT_ HW_ hHeld 14 (some 40) ?_; refine zP_ HT_ 16 (some 42) ?_; refine zP_ HT_ 17 (some 43) ?_; refine zT_ HT_ HW_ hHeld 18 (some 44) ?_; refine zP_ HT_ 19 (some 45) ?_; refine zP_ HT_ 20 (some 46) ?_; refine zP_ HT_ 21 (some 47) ?_; refine zP_ HT_ 22 (some 48) ?_; refine zU_ HT_ 23 (some 49) ?_; refine zU_ HT_ 24 (some 50) ?_; refine zU_ HT_ 25 (some 51) ?_; refine zU_ HT_ 26 (some 52) ?_; refine zU_ HT_ 27 (some 53) ?_; refine zU_ HT_ 28 (some 54) ?_; refine zU_ HT_ 29 (some 55) ?_; refine zP_ HT_ 30 (some 56) ?_; refine zP_ HT_ 31 (some 57) ?_; refine zU_ HT_ 32 (some 58) ?_; refine zU_ HT_ 33 (some 59) ?_; refine zU_ HT_ 34 (some 60) ?_; refine zU_ HT_ 35 (some 61) ?_; refine zU_ HT_ 36 (some 62) ?_; refine zU_ HT_ 37 (some 63) ?_
          refine zU_ HT_ 38 (some 64) ?_; refine zU_ HT_ 39 (some 65) ?_; refine zP_ HT_ 40 (some 66) ?_; refine done_ (done_of HT_.out (by kernel_rfl)) ?_
          try go_wp2
          go_ret
          exact ⟨d4_, d1_⟩
         rw [if_neg c20] at H; have c20b0 : decide (6 < (((rd_T109 l0_1 x4_2).f1).size : Int)) = false := decide_eq_false c20; have c20b1 : decide (6 < ((rd_T109 l0_1 x4_2).f1).size) = false := decide_eq_false (by omega); clear c20
         by_cases c23 : ((rd_T109 l0_1 x4_2).f1).toList = ([] : List UInt8)
         ·rw [if_pos c23] at H; have c23b0 : (((rd_T109 l0_1 x4_2).f1).toList == ([] : List UInt8)) = true := beq_iff_eq.mpr c23; have c23b1 : (((rd_T109 l0_1 x4_2).f1).toList != ([] : List UInt8)) = false := bne_eq_false_iff_eq.mpr c23; clear c23; obtain rfl := Option.some.inj H; obtain ⟨Ao24, co24, eo24⟩ := Kd.R_slice HO_3.out; subst eo24
          try go_wp2
          have n0_ := Aside0.mk (Kd.R_drew HO_3.out); have n1_ := Aside0.mk (blk_drew BK101.out); have n2_ := Aside0.mk (below_drew1 HB.out); clear HO_3; clear BK101; clear HB; have HO_3 := n0_; have BK101 := n1_; have HB := n2_; clear n0_ n1_ n2_; have p106 : 0 ≤ (x4_2 : Int) := of_decide_eq_true d11_; have q106 : x4_2 < (l0_1.length : Int) := of_decide_eq_true d11_; obtain ⟨ad106, e106, hx106_0, hx106_1⟩ := at_T109 HR0_1.out x4_2 p106 q106; have hw106_1 := hx106_1; have hw106_0 := hx106_0
          cases e106
          replace hx106_0 := (HB.out.cell (World.block_lt_of_cell? w _ hx106_0)).trans hx106_0; replace hx106_1 := (HB.out.cell (World.block_lt_of_cell? w _ hx106_1)).trans hx106_1; replace p106 := eq_true p106; replace q106 := eq_true q106; have p107 : 0 ≤ (x4_2 : Int) := of_decide_eq_true d11_; have q107 : x4_2 < (t102.length : Int) := of_decide_eq_true d11_; obtain ⟨ad107, e107, hx107_0, hx107_1, hx107_2, hx107_3⟩ := at_T116 (Kd.R_reads' HO_3.out).2.2 x4_2 p107 q107
          cases e107
          replace p107 := eq_true p107; replace q107 := eq_true q107; have p108 : 0 ≤ (x4_2 : Int) := of_decide_eq_true d11_; have q108 : x4_2 < (l0_1.length : Int) := of_decide_eq_true d11_; obtain ⟨ad108, e108, hx108_0, hx108_1⟩ := at_T109 HR0_1.out x4_2 p108 q108; have hw108_1 := hx108_1; have hw108_0 := hx108_0; obtain rfl : ad106 = ad108 := (by injection e108); replace hx108_0 := (HB.out.cell (World.block_lt_of_cell? w _ hx108_0)).trans hx108_0; replace hx108_1 := (HB.out.cell (World.block_lt_of_cell? w _ hx108_1)).trans hx108_1; replace p108 := eq_true p108; replace q108 := eq_true q108; have p109 : 0 ≤ (x4_2 : Int) := of_decide_eq_true d11_; have q109 : x4_2 < (l0_1.length : Int) := of_decide_eq_true d11_; obtain ⟨ad109, e109, hx109_0, hx109_1⟩ := at_T109 HR0_1.out x4_2 p109 q109; have hw109_1 := hx109_1; have hw109_0 := hx109_0; obtain rfl : ad106 = ad109 := (by injection e109); replace hx109_0 := (HB.out.cell (World.block_lt_of_cell? w _ hx109_0)).trans hx109_0; replace hx109_1 := (HB.out.cell (World.block_lt_of_cell? w _ hx109_1)).trans hx109_1; replace p109 := eq_true p109; replace q109 := eq_true q109; refine start_ (n := 41) (S := fun w' => w'.cell? ⟨gb101, 0, none⟩ = some (.string a0_0) ∧ w'.cell? ⟨gb101, 1, none⟩ = some (.slice (some ad106) l0_1.length c0_1) ∧ w'.cell? (ad106.add ((x4_2).toNat * 2)) = some (.int .i64 ((rd_T109 l0_1 x4_2).f0)) ∧ w'.cell? ⟨(ad106.add ((x4_2).toNat * 2)).block, (ad106.add ((x4_2).toNat * 2)).off + 1, none⟩ = some (.string ((rd_T109 l0_1 x4_2).f1)) ∧ w'.cell? (ad107.add ((x4_2).toNat * 4)) = some (.int .i64 ((rd_T116 t102 x4_2).f0)) ∧ w'.cell? ⟨(ad107.add ((x4_2).toNat * 4)).block, (ad107.add ((x4_2).toNat * 4)).off + 1, none⟩ = some (.bool ((rd_T116 t102 x4_2).f1)) ∧ w'.cell? ⟨(ad107.add ((x4_2).toNat * 4)).block, (ad107.add ((x4_2).toNat * 4)).off + 2, none⟩ = some (.int .i64 ((rd_T116 t102 x4_2).f2.f0)) ∧ w'.cell? ⟨(ad107.add ((x4_2).toNat * 4)).block, (ad107.add ((x4_2).toNat * 4)).off + 3, none⟩ = some (.int .i64 ((rd_T116 t102 x4_2).f2.f1)) ∧ w'.cell? (ad106.add ((x4_2).toNat * 2)) = some (.int .i64 ((rd_T109 l0_1 x4_2).f0)) ∧ w'.cell? ⟨(ad106.add ((x4_2).toNat * 2)).block, (ad106.add ((x4_2).toNat * 2)).off + 1, none⟩ = some (.string ((rd_T109 l0_1 x4_2).f1)) ∧ w'.cell? (ad106.add ((x4_2).toNat * 2)) = some (.int .i64 ((rd_T109 l0_1 x4_2).f0)) ∧ w'.cell? ⟨(ad106.add ((x4_2).toNat * 2)).block, (ad106.add ((x4_2).toNat * 2)).off + 1, none⟩ = some (.string ((rd_T109 l0_1 x4_2).f1))) (ds := []) #[false, false, false, false, false, false, false, false, false, false, false, false, false, false, false, false, false, false, false, false, false, false, false, false, false, false, false, false, false, false, false, false, false, false, false, false, false, false, false, false, false] (by kernel_rfl) rfl rfl ⟨(blk_cell BK101.out 0).trans rfl, (blk_cell BK101.out 1).trans rfl, ((HB.out.cell (World.block_lt_of_cell? w _ hw106_0)).trans hw106_0), ((HB.out.cell (World.block_lt_of_cell? w _ hw106_1)).trans hw106_1), hx107_0, hx107_1, hx107_2, hx107_3, ((HB.out.cell (World.block_lt_of_cell? w _ hw108_0)).trans hw108_0), ((HB.out.cell (World.block_lt_of_cell? w _ hw108_1)).trans hw108_1), ((HB.out.cell (World.block_lt_of_cell? w _ hw109_0)).trans hw109_0), ((HB.out.cell (World.block_lt_of_cell? w _ hw109_1)).trans hw109_1)⟩ (fun hHeld => ?_); refine with_tabW spec_StreamOk.tab7 spec_StreamOk.bits7 (fun HT_ HW_ => ?_); generalize wr.drew = w25 at HO_3 BK101 HB hx106_0 hx106_1 hx107_0 hx107_1 hx107_2 hx107_3 hx108_0 hx108_1 hx109_0 hx109_1 hHeld ⊢; refine zP_ HT_ 0 (some 26) ?_; refine zP_ HT_ 2 (some 28) ?_; refine zP_ HT_ 6 (some 32) ?_; refine zP_ HT_ 7 (some 33) ?_; refine zP_ HT_ 8 (some 34) ?_; refine zP_ HT_ 9 (some 35) ?_; refine zT_ HT_ HW_ hHeld 1 (some 27) ?_; refine zP_ HT_ 3 (some 29) ?_
          refine zP_ HT_ 4 (some 30) ?_; refine zT_ HT_ HW_ hHeld 5 (some 31) ?_; refine zT_ HT_ HW_ hHeld 10 (some 36) ?_; refine zP_ HT_ 11 (some 37) ?_; refine zP_ HT_ 12 (some 38) ?_; refine zP_ HT_ 13 (some 39) ?_; refine zP_ HT_ 15 (some 41) ?_; refine zT_ HT_ HW_ hHeld 14 (some 40) ?_; refine zP_ HT_ 16 (some 42) ?_; refine zP_ HT_ 17 (some 43) ?_; refine zT_ HT_ HW_ hHeld 18 (some 44) ?_; refine zP_ HT_ 19 (some 45) ?_; refine zP_ HT_ 20 (some 46) ?_; refine zP_ HT_ 21 (some 47) ?_; refine zP_ HT_ 22 (some 48) ?_; refine zP_ HT_ 23 (some 49) ?_; refine zP_ HT_ 25 (some 51) ?_; refine zT_ HT_ HW_ hHeld 24 (some 50) ?_; refine zP_ HT_ 26 (some 52) ?_; refine zP_ HT_ 27 (some 53) ?_; refine zT_ HT_ HW_ hHeld 28 (some 54) ?_; refine zP_ HT_ 29 (some 55) ?_; refine zP_ HT_ 30 (some 56) ?_; refine zP_ HT_ 31 (some 57) ?_; refine zU_ HT_ 32 (some 58) ?_; refine zU_ HT_ 33 (some 59) ?_; refine zU_ HT_ 34 (some 60) ?_; refine zU_ HT_ 35 (some 61) ?_; refine zU_ HT_ 36 (some 62) ?_; refine zU_ HT_ 37 (some 63) ?_; refine zU_ HT_ 38 (some 64) ?_; refine zU_ HT_ 39 (some 65) ?_; refine zP_ HT_ 40 (some 66) ?_; refine done_ (done_of HT_.out (by kernel_rfl)) ?_
          try go_wp2
          go_ret
          exact ⟨d4_, d1_⟩
         rw [if_neg c23] at H; have c23b0 : (((rd_T109 l0_1 x4_2).f1).toList == ([] : List UInt8)) = false := beq_eq_false_iff_ne.mpr c23; have c23b1 : (((rd_T109 l0_1 x4_2).f1).toList != ([] : List UInt8)) = true := bne_iff_ne.mpr c23; obtain ⟨t111, A26, H⟩ := zH_ H
         by_cases c27 : t111 = true
         ·subst c27; rw [if_pos rfl] at H; have H' := Aside0.mk H; clear H; obtain ⟨Ao28, co28, eo28⟩ := Kd.R_slice HO_3.out; subst eo28
          try go_wp2
          have n0_ := Aside0.mk (Kd.R_drew HO_3.out); have n1_ := Aside0.mk (blk_drew BK101.out); have n2_ := Aside0.mk (below_drew1 HB.out); clear HO_3; clear BK101; clear HB; have HO_3 := n0_; have BK101 := n1_; have HB := n2_; clear n0_ n1_ n2_; have p106 : 0 ≤ (x4_2 : Int) := of_decide_eq_true d11_; have q106 : x4_2 < (l0_1.length : Int) := of_decide_eq_true d11_; obtain ⟨ad106, e106, hx106_0, hx106_1⟩ := at_T109 HR0_1.out x4_2 p106 q106; have hw106_1 := hx106_1; have hw106_0 := hx106_0
          cases e106
          replace hx106_0 := (HB.out.cell (World.block_lt_of_cell? w _ hx106_0)).trans hx106_0; replace hx106_1 := (HB.out.cell (World.block_lt_of_cell? w _ hx106_1)).trans hx106_1; replace p106 := eq_true p106; replace q106 := eq_true q106; have p107 : 0 ≤ (x4_2 : Int) := of_decide_eq_true d11_; have q107 : x4_2 < (t102.length : Int) := of_decide_eq_true d11_; obtain ⟨ad107, e107, hx107_0, hx107_1, hx107_2, hx107_3⟩ := at_T116 (Kd.R_reads' HO_3.out).2.2 x4_2 p107 q107
          cases e107
          replace p107 := eq_true p107; replace q107 := eq_true q107; have p108 : 0 ≤ (x4_2 : Int) := of_decide_eq_true d11_; have q108 : x4_2 < (l0_1.length : Int) := of_decide_eq_true d11_; obtain ⟨ad108, e108, hx108_0, hx108_1⟩ := at_T109 HR0_1.out x4_2 p108 q108; have hw108_1 := hx108_1; have hw108_0 := hx108_0; obtain rfl : ad106 = ad108 := (by injection e108); replace hx108_0 := (HB.out.cell (World.block_lt_of_cell? w _ hx108_0)).trans hx108_0; replace hx108_1 := (HB.out.cell (World.block_lt_of_cell? w _ hx108_1)).trans hx108_1; replace p108 := eq_true p108; replace q108 := eq_true q108; have p109 : 0 ≤ (x4_2 : Int) := of_decide_eq_true d11_; have q109 : x4_2 < (l0_1.length : Int) := of_decide_eq_true d11_; obtain ⟨ad109, e109, hx109_0, hx109_1⟩ := at_T109 HR0_1.out x4_2 p109 q109; have hw109_1 := hx109_1; have hw109_0 := hx109_0; obtain rfl : ad106 = ad109 := (by injection e109); replace hx109_0 := (HB.out.cell (World.block_lt_of_cell? w _ hx109_0)).trans hx109_0; replace hx109_1 := (HB.out.cell (World.block_lt_of_cell? w _ hx109_1)).trans hx109_1; replace p109 := eq_true p109; replace q109 := eq_true q109; have p110 : 0 ≤ (x4_2 : Int) := of_decide_eq_true d11_; have q110 : x4_2 < (l0_1.length : Int) := of_decide_eq_true d11_; obtain ⟨ad110, e110, hx110_0, hx110_1⟩ := at_T109 HR0_1.out x4_2 p110 q110; have hw110_1 := hx110_1; have hw110_0 := hx110_0; obtain rfl : ad106 = ad110 := (by injection e110); replace hx110_0 := (HB.out.cell (World.block_lt_of_cell? w _ hx110_0)).trans hx110_0; replace hx110_1 := (HB.out.cell (World.block_lt_of_cell? w _ hx110_1)).trans hx110_1; replace p110 := eq_true p110; replace q110 := eq_true q110
          refine start_ (n := 41) (S := fun w' => w'.cell? ⟨gb101, 0, none⟩ = some (.string a0_0) ∧ w'.cell? ⟨gb101, 1, none⟩ = some (.slice (some ad106) l0_1.length c0_1) ∧ w'.cell? (ad106.add ((x4_2).toNat * 2)) = some (.int .i64 ((rd_T109 l0_1 x4_2).f0)) ∧ w'.cell? ⟨(ad106.add ((x4_2).toNat * 2)).block, (ad106.add ((x4_2).toNat * 2)).off + 1, none⟩ = some (.string ((rd_T109 l0_1 x4_2).f1)) ∧ w'.cell? (ad107.add ((x4_2).toNat * 4)) = some (.int .i64 ((rd_T116 t102 x4_2).f0)) ∧ w'.cell? ⟨(ad107.add ((x4_2).toNat * 4)).block, (ad107.add ((x4_2).toNat * 4)).off + 1, none⟩ = some (.bool ((rd_T116 t102 x4_2).f1)) ∧ w'.cell? ⟨(ad107.add ((x4_2).toNat * 4)).block, (ad107.add ((x4_2).toNat * 4)).off + 2, none⟩ = some (.int .i64 ((rd_T116 t102 x4_2).f2.f0)) ∧ w'.cell? ⟨(ad107.add ((x4_2).toNat * 4)).block, (ad107.add ((x4_2).toNat * 4)).off + 3, none⟩ = some (.int .i64 ((rd_T116 t102 x4_2).f2.f1)) ∧ w'.cell? (ad106.add ((x4_2).toNat * 2)) = some (.int .i64 ((rd_T109 l0_1 x4_2).f0)) ∧ w'.cell? ⟨(ad106.add ((x4_2).toNat * 2)).block, (ad106.add ((x4_2).toNat * 2)).off + 1, none⟩ = some (.string ((rd_T109 l0_1 x4_2).f1)) ∧ w'.cell? (ad106.add ((x4_2).toNat * 2)) = some (.int .i64 ((rd_T109 l0_1 x4_2).f0)) ∧ w'.cell? ⟨(ad106.add ((x4_2).toNat * 2)).block, (ad106.add ((x4_2).toNat * 2)).off + 1, none⟩ = some (.string ((rd_T109 l0_1 x4_2).f1)) ∧ w'.cell? (ad106.add ((x4_2).toNat * 2)) = some (.int .i64 ((rd_T109 l0_1 x4_2).f0)) ∧ w'.cell? ⟨(ad106.add ((x4_2).toNat * 2)).block, (ad106.add ((x4_2).toNat * 2)).off + 1, none⟩ = some (.string ((rd_T109 l0_1 x4_2).f1))) (ds := []) #[false, false, false, false, false, false, false, false, false, false, false, false, false, false, false, false, false, false, false, false, false, false, false, false, false, false, false, false, false, false, false, false, false, false, false, false, false, false, false, false, false] (by kernel_rfl) rfl rfl ⟨(blk_cell BK101.out 0).trans rfl, (blk_cell BK101.out 1).trans rfl, ((HB.out.cell (World.block_lt_of_cell? w _ hw106_0)).trans hw106_0), ((HB.out.cell (World.block_lt_of_cell? w _ hw106_1)).trans hw106_1), hx107_0, hx107_1, hx107_2, hx107_3, ((HB.out.cell (World.block_lt_of_cell? w _ hw108_0)).trans hw108_0), ((HB.out.cell (World.block_lt_of_cell? w _ hw108_1)).trans hw108_1), ((HB.out.cell (World.block_lt_of_cell? w _ hw109_0)).trans hw109_0), ((HB.out.cell (World.block_lt_of_cell? w _ hw109_1)).trans hw109_1), ((HB.out.cell (World.block_lt_of_cell? w _ hw110_0)).trans hw110_0), ((HB.out.cell (World.block_lt_of_cell? w _ hw110_1)).trans hw110_1)⟩ (fun hHeld => ?_); refine with_tabW spec_StreamOk.tab7 spec_StreamOk.bits7 (fun HT_ HW_ => ?_); generalize wr.drew = w29 at HO_3 BK101 HB hx106_0 hx106_1 hx107_0 hx107_1 hx107_2 hx107_3 hx108_0 hx108_1 hx109_0 hx109_1 hx110_0 hx110_1 hHeld ⊢; refine zP_ HT_ 0 (some 26) ?_; refine zP_ HT_ 2 (some 28) ?_; refine zP_ HT_ 6 (some 32) ?_; refine zP_ HT_ 7 (some 33) ?_; refine zP_ HT_ 8 (some 34) ?_; refine zP_ HT_ 9 (some 35) ?_; refine zT_ HT_ HW_ hHeld 1 (some 27) ?_; refine zP_ HT_ 3 (some 29) ?_; refine zP_ HT_ 4 (some 30) ?_; refine zT_ HT_ HW_ hHeld 5 (some 31) ?_; refine zT_ HT_ HW_ hHeld 10 (some 36) ?_; refine zP_ HT_ 11 (some 37) ?_; refine zP_ HT_ 12 (some 38) ?_; refine zP_ HT_ 13 (some 39) ?_; refine zP_ HT_ 15 (some 41) ?_; refine zT_ HT_ HW_ hHeld 14 (some 40) ?_; refine zP_ HT_ 16 (some 42) ?_; refine zP_ HT_ 17 (some 43) ?_; refine zT_ HT_ HW_ hHeld 18 (some 44) ?_; refine zP_ HT_ 19 (some 45) ?_; refine zP_ HT_ 20 (some 46) ?_; refine zP_ HT_ 21 (some 47) ?_; refine zP_ HT_ 22 (some 48) ?_; refine zP_ HT_ 23 (some 49) ?_; refine zP_ HT_ 25 (some 51) ?_; refine zT_ HT_ HW_ hHeld 24 (some 50) ?_; refine zP_ HT_ 26 (some 52) ?_; refine zP_ HT_ 27 (some 53) ?_; refine zT_ HT_ HW_ hHeld 28 (some 54) ?_; refine zP_ HT_ 29 (some 55) ?_; refine zP_ HT_ 30 (some 56) ?_; refine zP_ HT_ 31 (some 57) ?_; refine zP_ HT_ 32 (some 58) ?_; refine zP_ HT_ 34 (some 60) ?_; refine zT_ HT_ HW_ hHeld 33 (some 59) ?_
          refine zP_ HT_ 35 (some 61) ?_; refine zP_ HT_ 36 (some 62) ?_; refine zT_ HT_ HW_ hHeld 37 (some 63) ?_; refine one_ (i := 38) (N := some 64) #[true, true, true, true, true, true, true, true, true, true, true, true, true, true, true, true, true, true, true, true, true, true, true, true, true, true, true, true, true, true, true, true, true, true, true, true, true, true, true, false, false] rfl rfl (one_of HT_.out (by kernel_rfl)) (by decide) (fun K hK => ?_); refine goes_ Tryz.func22 (by kernel_rfl) rfl #[.string ((rd_T109 l0_1 x4_2).f1)] (by rfl) rfl rfl za_ ?_
          with_reducible refine (spec_TextOk.calls ((rd_T109 l0_1 x4_2).f1) true _ A26.out).mono ?_
          rintro e w30 ⟨rfl, hb⟩; have HS4_ := (hb.cell (World.block_lt_of_cell? _ _ (hHeld.2.2.2.2.1))).trans (hHeld.2.2.2.2.1); have HS5_ := (hb.cell (World.block_lt_of_cell? _ _ (hHeld.2.2.2.2.2.1))).trans (hHeld.2.2.2.2.2.1); have HS6_ := (hb.cell (World.block_lt_of_cell? _ _ (hHeld.2.2.2.2.2.2.1))).trans (hHeld.2.2.2.2.2.2.1); have HS7_ := (hb.cell (World.block_lt_of_cell? _ _ (hHeld.2.2.2.2.2.2.2.1))).trans (hHeld.2.2.2.2.2.2.2.1); refine ⟨_, rfl, ?_⟩; have n0_ := Aside0.mk (Kd.R_below (zR_ HO_3.out) hb); have n1_ := Aside0.mk (blk_below (g := gb101) (o := .cells #[.string a0_0, .slice (some ad106) l0_1.length c0_1] 26 (0, 0)) (zb_ BK101.out) hb); have n2_ := Aside0.mk (below_step d1_ hb); clear HO_3; clear BK101; clear HB; have HO_3 := n0_; have BK101 := n1_; have HB := n2_; clear n0_ n1_ n2_; (try clear hb); (try clear hb2); (try clear hk); (try clear hi); refine hK.out _ _ ⟨(blk_cell BK101.out 0).trans rfl, (blk_cell BK101.out 1).trans rfl, ((HB.out.cell (World.block_lt_of_cell? w _ hw106_0)).trans hw106_0), ((HB.out.cell (World.block_lt_of_cell? w _ hw106_1)).trans hw106_1), HS4_, HS5_, HS6_, HS7_, ((HB.out.cell (World.block_lt_of_cell? w _ hw108_0)).trans hw108_0), ((HB.out.cell (World.block_lt_of_cell? w _ hw108_1)).trans hw108_1), ((HB.out.cell (World.block_lt_of_cell? w _ hw109_0)).trans hw109_0), ((HB.out.cell (World.block_lt_of_cell? w _ hw109_1)).trans hw109_1), ((HB.out.cell (World.block_lt_of_cell? w _ hw110_0)).trans hw110_0), ((HB.out.cell (World.block_lt_of_cell? w _ hw110_1)).trans hw110_1)⟩ (fun hHeld => ?_); clear hK K; refine norm_ (a' := ?_) ?_ ?_; rotate_left
          ·show Act.put _ (some 64) _ = _
           simp only [Act.put, List.setIfInBounds_toArray, List.set_cons_zero, List.set_cons_succ, i64_w, i32_w]; rfl
          refine zP_ HT_ 39 (some 65) ?_; refine zP_ HT_ 40 (some 66) ?_; refine done_ (done_of HT_.out (by kernel_rfl)) ?_
          try go_wp2
          go_roundg k2
          case measure => have := HJ2.out; have := HK2.out; omega
          case rel => exact ⟨(wrap64 (x4_2 + 1)), zs_, H', ⟨by have := HJ2.out; have := HK2.out; omega⟩, ⟨d26_⟩, ⟨d3_⟩, ⟨d1_⟩⟩
         replace c27 := Bool.eq_false_iff.mpr c27; subst c27; rw [if_neg (show ¬ (false = true) by decide)] at H; obtain rfl := Option.some.inj H; obtain ⟨Ao31, co31, eo31⟩ := Kd.R_slice HO_3.out; subst eo31
         try go_wp2
         have n0_ := Aside0.mk (Kd.R_drew HO_3.out); have n1_ := Aside0.mk (blk_drew BK101.out); have n2_ := Aside0.mk (below_drew1 HB.out); clear HO_3; clear BK101; clear HB; have HO_3 := n0_; have BK101 := n1_; have HB := n2_; clear n0_ n1_ n2_; have p106 : 0 ≤ (x4_2 : Int) := of_decide_eq_true d11_; have q106 : x4_2 < (l0_1.length : Int) := of_decide_eq_true d11_; obtain ⟨ad106, e106, hx106_0, hx106_1⟩ := at_T109 HR0_1.out x4_2 p106 q106; have hw106_1 := hx106_1; have hw106_0 := hx106_0
         cases e106
         replace hx106_0 := (HB.out.cell (World.block_lt_of_cell? w _ hx106_0)).trans hx106_0; replace hx106_1 := (HB.out.cell (World.block_lt_of_cell? w _ hx106_1)).trans hx106_1; replace p106 := eq_true p106; replace q106 := eq_true q106; have p107 : 0 ≤ (x4_2 : Int) := of_decide_eq_true d11_; have q107 : x4_2 < (t102.length : Int) := of_decide_eq_true d11_; obtain ⟨ad107, e107, hx107_0, hx107_1, hx107_2, hx107_3⟩ := at_T116 (Kd.R_reads' HO_3.out).2.2 x4_2 p107 q107
         cases e107
         replace p107 := eq_true p107; replace q107 := eq_true q107; have p108 : 0 ≤ (x4_2 : Int) := of_decide_eq_true d11_; have q108 : x4_2 < (l0_1.length : Int) := of_decide_eq_true d11_; obtain ⟨ad108, e108, hx108_0, hx108_1⟩ := at_T109 HR0_1.out x4_2 p108 q108; have hw108_1 := hx108_1; have hw108_0 := hx108_0; obtain rfl : ad106 = ad108 := (by injection e108); replace hx108_0 := (HB.out.cell (World.block_lt_of_cell? w _ hx108_0)).trans hx108_0; replace hx108_1 := (HB.out.cell (World.block_lt_of_cell? w _ hx108_1)).trans hx108_1; replace p108 := eq_true p108; replace q108 := eq_true q108; have p109 : 0 ≤ (x4_2 : Int) := of_decide_eq_true d11_; have q109 : x4_2 < (l0_1.length : Int) := of_decide_eq_true d11_; obtain ⟨ad109, e109, hx109_0, hx109_1⟩ := at_T109 HR0_1.out x4_2 p109 q109; have hw109_1 := hx109_1; have hw109_0 := hx109_0; obtain rfl : ad106 = ad109 := (by injection e109); replace hx109_0 := (HB.out.cell (World.block_lt_of_cell? w _ hx109_0)).trans hx109_0; replace hx109_1 := (HB.out.cell (World.block_lt_of_cell? w _ hx109_1)).trans hx109_1; replace p109 := eq_true p109; replace q109 := eq_true q109; have p110 : 0 ≤ (x4_2 : Int) := of_decide_eq_true d11_; have q110 : x4_2 < (l0_1.length : Int) := of_decide_eq_true d11_; obtain ⟨ad110, e110, hx110_0, hx110_1⟩ := at_T109 HR0_1.out x4_2 p110 q110; have hw110_1 := hx110_1; have hw110_0 := hx110_0; obtain rfl : ad106 = ad110 := (by injection e110); replace hx110_0 := (HB.out.cell (World.block_lt_of_cell? w _ hx110_0)).trans hx110_0; replace hx110_1 := (HB.out.cell (World.block_lt_of_cell? w _ hx110_1)).trans hx110_1; replace p110 := eq_true p110; replace q110 := eq_true q110
         refine start_ (n := 41) (S := fun w' => w'.cell? ⟨gb101, 0, none⟩ = some (.string a0_0) ∧ w'.cell? ⟨gb101, 1, none⟩ = some (.slice (some ad106) l0_1.length c0_1) ∧ w'.cell? (ad106.add ((x4_2).toNat * 2)) = some (.int .i64 ((rd_T109 l0_1 x4_2).f0)) ∧ w'.cell? ⟨(ad106.add ((x4_2).toNat * 2)).block, (ad106.add ((x4_2).toNat * 2)).off + 1, none⟩ = some (.string ((rd_T109 l0_1 x4_2).f1)) ∧ w'.cell? (ad107.add ((x4_2).toNat * 4)) = some (.int .i64 ((rd_T116 t102 x4_2).f0)) ∧ w'.cell? ⟨(ad107.add ((x4_2).toNat * 4)).block, (ad107.add ((x4_2).toNat * 4)).off + 1, none⟩ = some (.bool ((rd_T116 t102 x4_2).f1)) ∧ w'.cell? ⟨(ad107.add ((x4_2).toNat * 4)).block, (ad107.add ((x4_2).toNat * 4)).off + 2, none⟩ = some (.int .i64 ((rd_T116 t102 x4_2).f2.f0)) ∧ w'.cell? ⟨(ad107.add ((x4_2).toNat * 4)).block, (ad107.add ((x4_2).toNat * 4)).off + 3, none⟩ = some (.int .i64 ((rd_T116 t102 x4_2).f2.f1)) ∧ w'.cell? (ad106.add ((x4_2).toNat * 2)) = some (.int .i64 ((rd_T109 l0_1 x4_2).f0)) ∧ w'.cell? ⟨(ad106.add ((x4_2).toNat * 2)).block, (ad106.add ((x4_2).toNat * 2)).off + 1, none⟩ = some (.string ((rd_T109 l0_1 x4_2).f1)) ∧ w'.cell? (ad106.add ((x4_2).toNat * 2)) = some (.int .i64 ((rd_T109 l0_1 x4_2).f0)) ∧ w'.cell? ⟨(ad106.add ((x4_2).toNat * 2)).block, (ad106.add ((x4_2).toNat * 2)).off + 1, none⟩ = some (.string ((rd_T109 l0_1 x4_2).f1)) ∧ w'.cell? (ad106.add ((x4_2).toNat * 2)) = some (.int .i64 ((rd_T109 l0_1 x4_2).f0)) ∧ w'.cell? ⟨(ad106.add ((x4_2).toNat * 2)).block, (ad106.add ((x4_2).toNat * 2)).off + 1, none⟩ = some (.string ((rd_T109 l0_1 x4_2).f1))) (ds := []) #[false, false, false, false, false, false, false, false, false, false, false, false, false, false, false, false, false, false, false, false, false, false, false, false, false, false, false, false, false, false, false, false, false, false, false, false, false, false, false, false, false] (by kernel_rfl) rfl rfl ⟨(blk_cell BK101.out 0).trans rfl, (blk_cell BK101.out 1).trans rfl, ((HB.out.cell (World.block_lt_of_cell? w _ hw106_0)).trans hw106_0), ((HB.out.cell (World.block_lt_of_cell? w _ hw106_1)).trans hw106_1), hx107_0, hx107_1, hx107_2, hx107_3, ((HB.out.cell (World.block_lt_of_cell? w _ hw108_0)).trans hw108_0), ((HB.out.cell (World.block_lt_of_cell? w _ hw108_1)).trans hw108_1), ((HB.out.cell (World.block_lt_of_cell? w _ hw109_0)).trans hw109_0), ((HB.out.cell (World.block_lt_of_cell? w _ hw109_1)).trans hw109_1), ((HB.out.cell (World.block_lt_of_cell? w _ hw110_0)).trans hw110_0), ((HB.out.cell (World.block_lt_of_cell? w _ hw110_1)).trans hw110_1)⟩ (fun hHeld => ?_); refine with_tabW spec_StreamOk.tab7 spec_StreamOk.bits7 (fun HT_ HW_ => ?_); generalize wr.drew = w32 at HO_3 BK101 HB hx106_0 hx106_1 hx107_0 hx107_1 hx107_2 hx107_3 hx108_0 hx108_1 hx109_0 hx109_1 hx110_0 hx110_1 hHeld ⊢; refine zP_ HT_ 0 (some 26) ?_; refine zP_ HT_ 2 (some 28) ?_; refine zP_ HT_ 6 (some 32) ?_; refine zP_ HT_ 7 (some 33) ?_; refine zP_ HT_ 8 (some 34) ?_; refine zP_ HT_ 9 (some 35) ?_; refine zT_ HT_ HW_ hHeld 1 (some 27) ?_; refine zP_ HT_ 3 (some 29) ?_; refine zP_ HT_ 4 (some 30) ?_; refine zT_ HT_ HW_ hHeld 5 (some 31) ?_; refine zT_ HT_ HW_ hHeld 10 (some 36) ?_; refine zP_ HT_ 11 (some 37) ?_; refine zP_ HT_ 12 (some 38) ?_; refine zP_ HT_ 13 (some 39) ?_; refine zP_ HT_ 15 (some 41) ?_; refine zT_ HT_ HW_ hHeld 14 (some 40) ?_; refine zP_ HT_ 16 (some 42) ?_; refine zP_ HT_ 17 (some 43) ?_; refine zT_ HT_ HW_ hHeld 18 (some 44) ?_; refine zP_ HT_ 19 (some 45) ?_; refine zP_ HT_ 20 (some 46) ?_; refine zP_ HT_ 21 (some 47) ?_; refine zP_ HT_ 22 (some 48) ?_; refine zP_ HT_ 23 (some 49) ?_; refine zP_ HT_ 25 (some 51) ?_; refine zT_ HT_ HW_ hHeld 24 (some 50) ?_; refine zP_ HT_ 26 (some 52) ?_; refine zP_ HT_ 27 (some 53) ?_; refine zT_ HT_ HW_ hHeld 28 (some 54) ?_; refine zP_ HT_ 29 (some 55) ?_; refine zP_ HT_ 30 (some 56) ?_; refine zP_ HT_ 31 (some 57) ?_; refine zP_ HT_ 32 (some 58) ?_; refine zP_ HT_ 34 (some 60) ?_; refine zT_ HT_ HW_ hHeld 33 (some 59) ?_
         refine zP_ HT_ 35 (some 61) ?_; refine zP_ HT_ 36 (some 62) ?_; refine zT_ HT_ HW_ hHeld 37 (some 63) ?_; refine one_ (i := 38) (N := some 64) #[true, true, true, true, true, true, true, true, true, true, true, true, true, true, true, true, true, true, true, true, true, true, true, true, true, true, true, true, true, true, true, true, true, true, true, true, true, true, true, false, false] rfl rfl (one_of HT_.out (by kernel_rfl)) (by decide) (fun K hK => ?_); refine goes_ Tryz.func22 (by kernel_rfl) rfl #[.string ((rd_T109 l0_1 x4_2).f1)] (by rfl) rfl rfl za_ ?_
         with_reducible refine (spec_TextOk.calls ((rd_T109 l0_1 x4_2).f1) false _ A26.out).mono ?_
         rintro e w33 ⟨rfl, hb⟩; have HS4_ := (hb.cell (World.block_lt_of_cell? _ _ (hHeld.2.2.2.2.1))).trans (hHeld.2.2.2.2.1); have HS5_ := (hb.cell (World.block_lt_of_cell? _ _ (hHeld.2.2.2.2.2.1))).trans (hHeld.2.2.2.2.2.1); have HS6_ := (hb.cell (World.block_lt_of_cell? _ _ (hHeld.2.2.2.2.2.2.1))).trans (hHeld.2.2.2.2.2.2.1); have HS7_ := (hb.cell (World.block_lt_of_cell? _ _ (hHeld.2.2.2.2.2.2.2.1))).trans (hHeld.2.2.2.2.2.2.2.1); refine ⟨_, rfl, ?_⟩; have n0_ := Aside0.mk (Kd.R_below (zR_ HO_3.out) hb); have n1_ := Aside0.mk (blk_below (g := gb101) (o := .cells #[.string a0_0, .slice (some ad106) l0_1.length c0_1] 26 (0, 0)) (zb_ BK101.out) hb); have n2_ := Aside0.mk (below_step d1_ hb); clear HO_3; clear BK101; clear HB; have HO_3 := n0_; have BK101 := n1_; have HB := n2_; clear n0_ n1_ n2_; (try clear hb); (try clear hb2); (try clear hk); (try clear hi); refine hK.out _ _ ⟨(blk_cell BK101.out 0).trans rfl, (blk_cell BK101.out 1).trans rfl, ((HB.out.cell (World.block_lt_of_cell? w _ hw106_0)).trans hw106_0), ((HB.out.cell (World.block_lt_of_cell? w _ hw106_1)).trans hw106_1), HS4_, HS5_, HS6_, HS7_, ((HB.out.cell (World.block_lt_of_cell? w _ hw108_0)).trans hw108_0), ((HB.out.cell (World.block_lt_of_cell? w _ hw108_1)).trans hw108_1), ((HB.out.cell (World.block_lt_of_cell? w _ hw109_0)).trans hw109_0), ((HB.out.cell (World.block_lt_of_cell? w _ hw109_1)).trans hw109_1), ((HB.out.cell (World.block_lt_of_cell? w _ hw110_0)).trans hw110_0), ((HB.out.cell (World.block_lt_of_cell? w _ hw110_1)).trans hw110_1)⟩ (fun hHeld => ?_); clear hK K; refine norm_ (a' := ?_) ?_ ?_; rotate_left
         ·show Act.put _ (some 64) _ = _
          simp only [Act.put, List.setIfInBounds_toArray, List.set_cons_zero, List.set_cons_succ, i64_w, i32_w]; rfl
         refine zP_ HT_ 39 (some 65) ?_; refine zP_ HT_ 40 (some 66) ?_; refine done_ (done_of HT_.out (by kernel_rfl)) ?_
         try go_wp2
         go_ret
         exact ⟨d4_, d1_⟩
        rw [if_neg c19] at H; have c19b0 : (((rd_T109 l0_1 x4_2).f0) == ((rd_T116 t102 x4_2).f0)) = false := beq_eq_false_iff_ne.mpr c19; have c19b1 : (((rd_T109 l0_1 x4_2).f0) != ((rd_T116 t102 x4_2).f0)) = true := bne_iff_ne.mpr c19; obtain rfl := Option.some.inj H; obtain ⟨Ao34, co34, eo34⟩ := Kd.R_slice HO_3.out; subst eo34
        try go_wp2
        have n0_ := Aside0.mk (Kd.R_drew HO_3.out); have n1_ := Aside0.mk (blk_drew BK101.out); have n2_ := Aside0.mk (below_drew1 HB.out); clear HO_3; clear BK101; clear HB; have HO_3 := n0_; have BK101 := n1_; have HB := n2_; clear n0_ n1_ n2_; have p106 : 0 ≤ (x4_2 : Int) := of_decide_eq_true d11_; have q106 : x4_2 < (l0_1.length : Int) := of_decide_eq_true d11_; obtain ⟨ad106, e106, hx106_0, hx106_1⟩ := at_T109 HR0_1.out x4_2 p106 q106; have hw106_1 := hx106_1; have hw106_0 := hx106_0
        cases e106
        replace hx106_0 := (HB.out.cell (World.block_lt_of_cell? w _ hx106_0)).trans hx106_0; replace hx106_1 := (HB.out.cell (World.block_lt_of_cell? w _ hx106_1)).trans hx106_1; replace p106 := eq_true p106; replace q106 := eq_true q106; have p107 : 0 ≤ (x4_2 : Int) := of_decide_eq_true d11_; have q107 : x4_2 < (t102.length : Int) := of_decide_eq_true d11_; obtain ⟨ad107, e107, hx107_0, hx107_1, hx107_2, hx107_3⟩ := at_T116 (Kd.R_reads' HO_3.out).2.2 x4_2 p107 q107
        cases e107
        replace p107 := eq_true p107; replace q107 := eq_true q107; refine start_ (n := 41) (S := fun w' => w'.cell? ⟨gb101, 0, none⟩ = some (.string a0_0) ∧ w'.cell? ⟨gb101, 1, none⟩ = some (.slice (some ad106) l0_1.length c0_1) ∧ w'.cell? (ad106.add ((x4_2).toNat * 2)) = some (.int .i64 ((rd_T109 l0_1 x4_2).f0)) ∧ w'.cell? ⟨(ad106.add ((x4_2).toNat * 2)).block, (ad106.add ((x4_2).toNat * 2)).off + 1, none⟩ = some (.string ((rd_T109 l0_1 x4_2).f1)) ∧ w'.cell? (ad107.add ((x4_2).toNat * 4)) = some (.int .i64 ((rd_T116 t102 x4_2).f0)) ∧ w'.cell? ⟨(ad107.add ((x4_2).toNat * 4)).block, (ad107.add ((x4_2).toNat * 4)).off + 1, none⟩ = some (.bool ((rd_T116 t102 x4_2).f1)) ∧ w'.cell? ⟨(ad107.add ((x4_2).toNat * 4)).block, (ad107.add ((x4_2).toNat * 4)).off + 2, none⟩ = some (.int .i64 ((rd_T116 t102 x4_2).f2.f0)) ∧ w'.cell? ⟨(ad107.add ((x4_2).toNat * 4)).block, (ad107.add ((x4_2).toNat * 4)).off + 3, none⟩ = some (.int .i64 ((rd_T116 t102 x4_2).f2.f1))) (ds := []) #[false, false, false, false, false, false, false, false, false, false, false, false, false, false, false, false, false, false, false, false, false, false, false, false, false, false, false, false, false, false, false, false, false, false, false, false, false, false, false, false, false] (by kernel_rfl) rfl rfl ⟨(blk_cell BK101.out 0).trans rfl, (blk_cell BK101.out 1).trans rfl, ((HB.out.cell (World.block_lt_of_cell? w _ hw106_0)).trans hw106_0), ((HB.out.cell (World.block_lt_of_cell? w _ hw106_1)).trans hw106_1), hx107_0, hx107_1, hx107_2, hx107_3⟩ (fun hHeld => ?_); refine with_tabW spec_StreamOk.tab7 spec_StreamOk.bits7 (fun HT_ HW_ => ?_); generalize wr.drew = w35 at HO_3 BK101 HB hx106_0 hx106_1 hx107_0 hx107_1 hx107_2 hx107_3 hHeld ⊢; refine zP_ HT_ 0 (some 26) ?_; refine zP_ HT_ 2 (some 28) ?_; refine zP_ HT_ 6 (some 32) ?_; refine zP_ HT_ 7 (some 33) ?_; refine zP_ HT_ 8 (some 34) ?_; refine zP_ HT_ 9 (some 35) ?_; refine zT_ HT_ HW_ hHeld 1 (some 27) ?_; refine zP_ HT_ 3 (some 29) ?_; refine zP_ HT_ 4 (some 30) ?_; refine zT_ HT_ HW_ hHeld 5 (some 31) ?_; refine zT_ HT_ HW_ hHeld 10 (some 36) ?_; refine zP_ HT_ 11 (some 37) ?_; refine zP_ HT_ 12 (some 38) ?_; refine zU_ HT_ 13 (some 39) ?_; refine zU_ HT_ 14 (some 40) ?_; refine zU_ HT_ 15 (some 41) ?_; refine zU_ HT_ 16 (some 42) ?_; refine zU_ HT_ 17 (some 43) ?_; refine zU_ HT_ 18 (some 44) ?_; refine zU_ HT_ 19 (some 45) ?_; refine zU_ HT_ 20 (some 46) ?_; refine zP_ HT_ 21 (some 47) ?_; refine zP_ HT_ 22 (some 48) ?_; refine zU_ HT_ 23 (some 49) ?_; refine zU_ HT_ 24 (some 50) ?_; refine zU_ HT_ 25 (some 51) ?_; refine zU_ HT_ 26 (some 52) ?_; refine zU_ HT_ 27 (some 53) ?_; refine zU_ HT_ 28 (some 54) ?_; refine zU_ HT_ 29 (some 55) ?_; refine zP_ HT_ 30 (some 56) ?_; refine zP_ HT_ 31 (some 57) ?_; refine zU_ HT_ 32 (some 58) ?_; refine zU_ HT_ 33 (some 59) ?_; refine zU_ HT_ 34 (some 60) ?_; refine zU_ HT_ 35 (some 61) ?_; refine zU_ HT_ 36 (some 62) ?_; refine zU_ HT_ 37 (some 63) ?_; refine zU_ HT_ 38 (some 64) ?_; refine zU_ HT_ 39 (some 65) ?_; refine zP_ HT_ 40 (some 66) ?_; refine done_ (done_of HT_.out (by kernel_rfl)) ?_
        try go_wp2
        go_ret
        exact ⟨d4_, d1_⟩
       rw [if_neg c18] at H; exact absurd H (by simp)
      rw [if_neg c17] at H; exact absurd H (by simp)
     rw [if_neg c16] at H; have c16b0 : decide (x4_2 < (t102.length : Int)) = false := decide_eq_false c16; clear c16; obtain rfl := Option.some.inj H; obtain ⟨Ao36, co36, eo36⟩ := Kd.R_slice HO_3.out; subst eo36
     go_wp2
     go_ret
     exact ⟨d4_, d1_⟩
end
end Go.Proofs.YtfjbjiklohjodaaGreatDoor.Q
namespace Go.Proofs.YtfjbjiklohjodaaGreatDoor.Q
open Go.RowKit Go.Proofs.YtfjbjiklohjodaaGreatDoorW.PrintWords Go.Proofs.YtfjbjiklohjodaaGreatDoorW.PrintLast Go.Proofs.YtfjbjiklohjodaaGreatDoorW.PrintMore
attribute [local go_sem] max2_int min2_int max_two min_two max_three min_three max_four min_four
set_option linter.unusedVariables false
set_option linter.unusedSimpArgs false
noncomputable section
def spec_l6In.f (a0 : Int) (a1 : Int) (a2 : Int) : Option (Bool) := if a0 ≥ a1 then (some (decide (a0 ≤ a2))) else (some false)
set_option maxHeartbeats 8000000 in
set_option maxRecDepth 100000 in
theorem spec_l6In.calls (a0 : Int) (a1 : Int) (a2 : Int) (r : Bool) (w : World) (h : spec_l6In.f a0 a1 a2 = some r) :
  Calls Tryz.prog 63 #[.int .i64 a0, .int .i64 a1, .int .i64 a2] w fun e w' => e = .returned (.bool r) ∧ Drawn0 w w' := by
 have H : (if a0 ≥ a1 then (some (decide (a0 ≤ a2))) else (some false)) = some r := h
 clear h
 by_cases c4 : a0 ≥ a1
 ·rw [if_pos c4] at H; have c4b0 : decide (a1 ≤ a0) = true := decide_eq_true c4; clear c4; obtain rfl := Option.some.inj H
  go_enter Tryz.func63, Tryz.ntmps63
  go_wp2
  go_ret
  exact ⟨d42_, d41_⟩
 rw [if_neg c4] at H
 have c4b0 : decide (a1 ≤ a0) = false := decide_eq_false c4
 clear c4
 obtain rfl := Option.some.inj H
 go_enter Tryz.func63, Tryz.ntmps63
 go_wp2
 go_ret
 exact ⟨d42_, d41_⟩
end
end Go.Proofs.YtfjbjiklohjodaaGreatDoor.Q
namespace Go.Proofs.YtfjbjiklohjodaaGreatDoor.Q
open Go.RowKit Go.Proofs.YtfjbjiklohjodaaGreatDoorW.PrintWords Go.Proofs.YtfjbjiklohjodaaGreatDoorW.PrintLast Go.Proofs.YtfjbjiklohjodaaGreatDoorW.PrintMore
attribute [local go_sem] max2_int min2_int max_two min_two max_three min_three max_four min_four
set_option linter.unusedVariables false
set_option linter.unusedSimpArgs false
noncomputable section
def spec_l11Copy.f (a0_0 : ByteArray) (l0_1 : List (S109)) : Option (ByteArray × (List (S109))) := (some (([] : List (S109)) : List (S109))).bind fun y103 => (if y103.length + l0_1.length < 5864062014805 then (some (a0_0, (y103 ++ l0_1))) else (none))
def spec_l11Copy.T1 : Bool × List (List Nat × List Nat) := (true, [([], []), ([0], [0]), ([], []), ([], []), ([3], [3]), ([2, 4], [2, 4]), ([1, 5], [1, 5]), ([6, 5, 0, 1, 2, 3, 4, 5, 6], [6])])
def spec_l11Copy.B1 : List Nat := [0, 1, 0, 0, 8, 28, 63, 127]
theorem spec_l11Copy.tab1 : rtab .any (opsOf Tryz.f66 1) = spec_l11Copy.T1 := by kernel_rfl
theorem spec_l11Copy.bits1 : waitsOk spec_l11Copy.T1.2 spec_l11Copy.B1 = true := by kernel_rfl
set_option maxHeartbeats 8000000 in
set_option maxRecDepth 100000 in
theorem spec_l11Copy.calls (a0_0 : ByteArray) (A0_1 : Option Addr) (c0_1 : Nat) (l0_1 : List (S109)) (r1 : ByteArray) (r2 : List (S109)) (w : World) (hr0_1 : Kd.C k109 w A0_1 l0_1.length l0_1) (hc0_1 : l0_1.length ≤ c0_1) (h : spec_l11Copy.f a0_0 l0_1 = some (r1, r2)) :
  Calls Tryz.prog 66 #[.agg #[.string a0_0, .slice A0_1 l0_1.length c0_1]] w fun e w' => ∃ v1_ : Value, e = .returned (.agg #[.string r1, v1_]) ∧ Kd.R k109 109 w' w.heap.size (fun _ => True) v1_ r2 ∧ Below w.heap.size w w' := by
 have hu26 := Tryz.underlying26
 have HR0_1 := Aside0.mk hr0_1
 have HC0_1 := Aside0.mk hc0_1
 clear hr0_1 hc0_1
 have HB := Aside0.mk (Below.refl w.heap.size w)
 have H : ((some (([] : List (S109)) : List (S109))).bind fun y103 => (if y103.length + l0_1.length < 5864062014805 then (some (a0_0, (y103 ++ l0_1))) else (none))) = some (r1, r2) := h
 clear h
 obtain ⟨y103, hy103⟩ : ∃ y_ : List (S109), y_ = (([] : List (S109))) := ⟨_, rfl⟩
 replace H : (if y103.length + l0_1.length < 5864062014805 then (some (a0_0, (y103 ++ l0_1))) else (none)) = some (r1, r2) := by first | (rw [hy103]; with_reducible exact H) | (have H2_ := (Option.bind_some _ _).symm.trans H; rw [hy103]; with_reducible exact H2_) | (have H2_ := (Option.bind_some _ _).symm.trans H; with_reducible exact H2_) | with_reducible exact H | (rw [hy103]; exact H) | exact H
 have Ny103 := Aside0.mk hy103
 clear hy103
 by_cases c2 : y103.length + l0_1.length < 5864062014805
 ·rw [if_pos c2] at H; have LMc2 := Aside0.mk c2; clear c2; obtain ⟨y106, hy106⟩ : ∃ y_ : List (S109), y_ = (y103 ++ l0_1) := ⟨_, rfl⟩
  replace H : (some (a0_0, y106)) = some (r1, r2) := by first | (rw [hy106]; with_reducible exact H) | (have H2_ := (Option.bind_some _ _).symm.trans H; rw [hy106]; with_reducible exact H2_) | (have H2_ := (Option.bind_some _ _).symm.trans H; with_reducible exact H2_) | with_reducible exact H | (rw [hy106]; exact H) | exact H
  have Ny106 := Aside0.mk hy106; clear hy106; simp only [Option.some.injEq, Prod.mk.injEq] at H; obtain ⟨rfl, rfl⟩ := H
  go_enter Tryz.func66, Tryz.ntmps66
  try go_wp2_with (first | ((with_reducible refine gate_dst (N := 1) rfl ?_); refine zx_ (N := 1) #[.string a0_0, .slice A0_1 l0_1.length c0_1] 26 ?_; intro gb101 hg w3 hbox hb; have BK101 := A_ hbox; have GW101 := A_ ((d0_ : w.heap.size ≤ gb101)); have GE101 := A_ ((d0_ : w.heap.size ≤ gb101)); replace HB := A_ (below_step (zB_ HB.out) hb); clear hb hbox hg) | ((with_reducible refine gate_dst (N := 2) rfl ?_); refine zx_ (N := 2) #[.string (⟨#[]⟩ : ByteArray), .slice none 0 0] 26 ?_; intro gb102 hg w4 hbox hb; have BK102 := A_ hbox; have GW102 := A_ ((d6_ : w.heap.size ≤ gb102)); have GE102 := A_ ((d6_ : w.heap.size ≤ gb102)); replace HB := A_ (below_step d1_ hb); have NB101_102 := A_ ((d109_ : gb101 ≠ gb102)); have NB102_101 := A_ ((d110_ : gb102 ≠ gb101)); replace BK101 := A_ (blk_below (g := gb101) (o := .cells #[.string a0_0, .slice A0_1 l0_1.length c0_1] 26 (0, 0)) (zb_ BK101.out) hb); clear hb hbox hg))
  have n0_ := Aside0.mk (blk_drew BK101.out); have n1_ := Aside0.mk (blk_drew BK102.out); have n2_ := Aside0.mk (below_drew1 HB.out); clear BK101; clear BK102; clear HB; have BK101 := n0_; have BK102 := n1_; have HB := n2_; clear n0_ n1_ n2_; refine start_ (n := 8) (S := fun w' => w'.cell? ⟨gb101, 0, none⟩ = some (.string a0_0) ∧ w'.cell? ⟨gb101, 1, none⟩ = some (.slice A0_1 l0_1.length c0_1)) (ds := []) #[false, false, false, false, false, false, false, false] (by kernel_rfl) rfl rfl ⟨(blk_cell BK101.out 0).trans rfl, (blk_cell BK101.out 1).trans rfl⟩ (fun hHeld => ?_); refine with_tabW spec_l11Copy.tab1 spec_l11Copy.bits1 (fun HT_ HW_ => ?_); generalize w4.drew = w5 at BK101 BK102 HB hHeld ⊢; refine zP_ HT_ 0 (some 3) ?_; refine zP_ HT_ 3 (some 6) ?_; refine zT_ HT_ HW_ hHeld 1 (some 4) ?_; refine zT_ HT_ HW_ hHeld 4 (some 7) ?_; refine one_ (i := 2) (N := some 5) #[true, true, true, true, true, false, false, false] rfl rfl (one_of HT_.out (by kernel_rfl)) (by decide) (fun K hK => ?_); refine Kd.R_lit_step k109 _ 109 ?hg (N := 5) ?hd (xs := ([] : List (S109))) (inner := []) (ok := fun _ => True) (okp := fun _ => True) ?hr ?hp (fun _ hk => hk) trivial (Below.refl _ _) (Nat.le_refl _) (by simp) ?_; (case hd => rfl); (case hg => rfl); (case hr => exact d15_); (case hp => exact d16_); intro v104 w6 ho7 hb hg_ hnew_; clear hg_ hnew_; (first | rw [← Ny103.out] at ho7 | (simp only [Int.reduceToNat] at ho7; rw [← Ny103.out] at ho7)); have n0_ := Aside0.mk (Kd.R_lower ho7 (below_size d77_)); have n1_ := Aside0.mk (blk_below (g := gb101) (o := .cells #[.string a0_0, .slice A0_1 l0_1.length c0_1] 26 (0, 0)) (zb_ BK101.out) hb); have n2_ := Aside0.mk (blk_below (g := gb102) (o := .cells #[.string (⟨#[]⟩ : ByteArray), .slice none 0 0] 26 (0, 0)) (zb_ BK102.out) hb); have n3_ := Aside0.mk (below_step d77_ hb); clear BK101; clear BK102; clear HB; have HO105 := n0_; have BK101 := n1_; have BK102 := n2_; have HB := n3_; clear n0_ n1_ n2_ n3_; clear hb ho7; refine hK.out _ _ ⟨(blk_cell BK101.out 0).trans rfl, (blk_cell BK101.out 1).trans rfl⟩ (fun hHeld => ?_); clear hK K; refine norm_ (a' := ?_) ?_ ?_; rotate_left
  ·show Act.put _ (some 5) _ = _
   simp only [Act.put, List.setIfInBounds_toArray, List.set_cons_zero, List.set_cons_succ, i64_w, i32_w]; rfl
  refine one_ (i := 5) (N := some 8) #[true, true, true, true, true, true, false, false] rfl rfl (one_of HT_.out (by kernel_rfl)) (by decide) (fun K hK => ?_); refine Kd.R_append_rows_step k109 (w0 := w) w.heap.size (by rfl) (.tmp 5) (.tmp 7) 24 109 (.agg #[(.int .i64 0), (.string ⟨#[]⟩)]) 24 rfl Tryz.underlying24 info109 rfl (by decide) (by omega) v104 y103 l0_1 _ _ _ (fun _ => True) (fun _ => False) rfl rfl ?aO ?aR (fun _ _ h => h) (fun _ h => h.elim) ?aF ?aB ?aS ?aL ?_; (case aR => exact d111_); (case aB => exact d84_); (case aF => exact (fun _ _ => trivial)); (case aO => exact (zR_ HO105.out)); (case aS => exact d85_); (case aL => have := LMc2.out; omega); intro v107 w8 ho hb hg hat; rw [← Ny106.out] at ho; have n0_ := Aside0.mk (blk_grown (g := gb101) (o := .cells #[.string a0_0, .slice A0_1 l0_1.length c0_1] 26 (0, 0)) (zb_ BK101.out) hg (Kd.R_ne HO105.out BK101.out (by decide))); have n1_ := Aside0.mk (blk_grown (g := gb102) (o := .cells #[.string (⟨#[]⟩ : ByteArray), .slice none 0 0] 26 (0, 0)) (zb_ BK102.out) hg (Kd.R_ne HO105.out BK102.out (by decide))); have n2_ := Aside0.mk (hb); have n3_ := Aside0.mk (ho); clear BK101; clear BK102; clear HB; clear HO105; have BK101 := n0_; have BK102 := n1_; have HB := n2_; have HO108 := n3_; clear n0_ n1_ n2_ n3_; clear ho hb hg hat; obtain ⟨Ao9, co9, eo9⟩ := Kd.R_slice HO108.out; (first | subst eo9 | (injection eo9 with f1_ f2_ f3_; have f4_ := f1_.symm; have f5_ := f3_.symm; clear f1_ f2_ f3_; subst f4_; subst f5_)); refine hK.out _ _ ⟨(blk_cell BK101.out 0).trans rfl, (blk_cell BK101.out 1).trans rfl⟩ (fun hHeld => ?_); clear hK K; refine norm_ (a' := ?_) ?_ ?_; rotate_left
  ·show Act.put _ (some 8) _ = _
   simp only [Act.put, List.setIfInBounds_toArray, List.set_cons_zero, List.set_cons_succ, i64_w, i32_w]; rfl
  refine zP_ HT_ 6 (some 9) ?_; refine one_ (i := 7) (N := none) #[true, true, true, true, true, true, true, true] rfl rfl (one_of HT_.out (by kernel_rfl)) (by decide) (fun K hK => ?_); have hs10 : w8.cell? ⟨gb102, 0, none⟩ = some (.string (⟨#[]⟩ : ByteArray)) := (blk_cell BK102.out 0).trans rfl; have hfs10 := blk_frozen BK102.out 0; have hns10_0 := NB101_102.out; have hms10_0 := NB102_101.out; have hs11 : w8.cell? ⟨gb102, 1, none⟩ = some (.slice none 0 0) := (blk_cell BK102.out 1).trans rfl; have hfs11 := blk_frozen BK102.out 1; have hns11_0 := NB101_102.out; have hms11_0 := NB102_101.out; refine skip_ (w1 := ?_) (by rfl) rfl ?_ ?_; rotate_left
  ·go_simp
   rfl
  refine hK.out _ _ ⟨((cell_far (p := ⟨gb102, _, none⟩) NB101_102.out _).trans (((cell_far (p := ⟨gb102, _, none⟩) NB101_102.out _).trans (hHeld.1)))), ((cell_far (p := ⟨gb102, _, none⟩) NB101_102.out _).trans (((cell_far (p := ⟨gb102, _, none⟩) NB101_102.out _).trans (hHeld.2))))⟩ (fun hHeld => ?_); clear hK K; refine done_ (done_of HT_.out (by kernel_rfl)) ?_
  try go_wp2
  refine bodyPost_ret (results_cell_row rfl _ _ gb102 26 #[.string a0_0, .slice Ao9 y106.length co9] (0, 0) _ rfl d112_ Tryz.underlying26 rfl (by kernel_rfl)) rfl ?_; exact ⟨_, d4_, by (with_reducible repeat (first | apply Kd.R_alloc | apply Kd.R_drewN | apply Kd.R_drew)); exact Kd.R_mono (Kd.R_far (p := ⟨gb102, 1, none⟩) (Kd.R_far (p := ⟨gb102, 0, none⟩) (Kd.R_types HO108.out BK102.out (by decide)) (fun _ hk => hk.2) (.string a0_0)) (fun _ hk => hk.2) (.slice Ao9 y106.length co9)) (fun _ hk => trivial), d77_⟩
 rw [if_neg c2] at H
 exact absurd H (by simp)
end
end Go.Proofs.YtfjbjiklohjodaaGreatDoor.Q
namespace Go.Proofs.YtfjbjiklohjodaaGreatDoor.Q
open Go.RowKit Go.Proofs.YtfjbjiklohjodaaGreatDoorW.PrintWords Go.Proofs.YtfjbjiklohjodaaGreatDoorW.PrintLast Go.Proofs.YtfjbjiklohjodaaGreatDoorW.PrintMore
attribute [local go_sem] max2_int min2_int max_two min_two max_three min_three max_four min_four
set_option linter.unusedVariables false
set_option linter.unusedSimpArgs false
noncomputable section
def spec_StreamPut.j0 : Nat → List (S111) → Int → ByteArray → Bool → Bool → ByteArray → List (S109) → Option ((List (S111)) × ByteArray × (List (S109)) × Bool)
 | 0, _, _, _, _, _, _, _ => none
 | k + 1, x0, x2, x3, x4, x30, x102000, x102001 => if x30 = true then (some ((([] : List (S111))), (⟨#[]⟩ : ByteArray), ([] : List (S109)), false)) else ((spec_l3Copy.f x0).bind fun t110 => ((spec_l11Copy.f x102000 x102001).bind fun bt113 => ((spec_l11Put.f k t110 bt113.1 bt113.2 x2 x3 x4).bind fun bt117 => (some (bt117.1, bt117.2.1, bt117.2.2.1, bt117.2.2.2)))))
def spec_StreamPut.f (k : Nat) (l0 : List (S111)) (a1_0 : ByteArray) (l1_1 : List (S109)) (a2 : Int) (a3 : ByteArray) (a4 : Bool) : Option ((List (S111)) × ByteArray × (List (S109)) × Bool) := (spec_MapOk.f l0).bind fun t103 => (if t103 = true then ((spec_StreamOk.f k a1_0 l1_1).bind fun t104 => (if t104 = true then ((spec_TextOk.f a3).bind fun t105 => (if t105 = true then ((spec_l6In.f a2 0 40).bind fun t106 => (spec_StreamPut.j0 k l0 a2 a3 a4 (!t106) a1_0 l1_1)) else (spec_StreamPut.j0 k l0 a2 a3 a4 true a1_0 l1_1))) else (spec_StreamPut.j0 k l0 a2 a3 a4 true a1_0 l1_1))) else (spec_StreamPut.j0 k l0 a2 a3 a4 true a1_0 l1_1))
theorem spec_StreamPut.mono_l : ∀ k, (∀ y0 y1 y2 y3 y4 y5 y6, LeO (spec_StreamPut.j0 k y0 y1 y2 y3 y4 y5 y6) (spec_StreamPut.j0 (k + 1) y0 y1 y2 y3 y4 y5 y6))
 | 0 => fun _ _ _ _ _ _ _ r h => by simp [spec_StreamPut.j0] at h
 | k + 1 => by
  have ih0 := spec_StreamPut.mono_l k
  ·intro y0 y1 y2 y3 y4 y5 y6
   unfold spec_StreamPut.j0
   have m0 := @spec_StreamOk.mono
   have m1 := @spec_l11Put.mono
   exact zq_
theorem spec_StreamPut.mono : ∀ a0 a1 a2 a3 a4 a5 k, LeO (spec_StreamPut.f k a0 a1 a2 a3 a4 a5) (spec_StreamPut.f (k + 1) a0 a1 a2 a3 a4 a5) := by
 intro a0 a1 a2 a3 a4 a5 k
 have ih0 := spec_StreamPut.mono_l k
 unfold spec_StreamPut.f
 have m0 := @spec_StreamOk.mono
 have m1 := @spec_l11Put.mono
 exact zq_
def spec_StreamPut.T3 : Bool × List (List Nat × List Nat) := (true, [([], []), ([0], [0]), ([], []), ([2, 1], [2]), ([], []), ([], []), ([], []), ([1, 3, 4, 5, 6, 3], [1, 3, 4, 5, 6]), ([7], [7]), ([7], [7]), ([7], [7]), ([8, 7, 0, 1, 2, 3, 4, 5, 6, 7, 8, 9, 10], [8]), ([9, 11, 0, 1, 2, 3, 4, 5, 6, 7, 8, 9, 10, 11], [9]), ([10, 12, 0, 1, 2, 3, 4, 5, 6, 7, 8, 9, 10, 11, 12], [10])])
def spec_StreamPut.B3 : List Nat := [0, 1, 0, 7, 0, 0, 0, 127, 255, 255, 255, 2047, 4095, 8191]
theorem spec_StreamPut.tab3 : rtab .any (opsOf Tryz.f16 3) = spec_StreamPut.T3 := by kernel_rfl
theorem spec_StreamPut.bits3 : waitsOk spec_StreamPut.T3.2 spec_StreamPut.B3 = true := by kernel_rfl
set_option maxHeartbeats 8000000 in
set_option maxRecDepth 100000 in
theorem spec_StreamPut.calls (k : Nat) (A0 : Option Addr) (c0 : Nat) (l0 : List (S111)) (a1_0 : ByteArray) (A1_1 : Option Addr) (c1_1 : Nat) (l1_1 : List (S109)) (a2 : Int) (a3 : ByteArray) (a4 : Bool) (r1 : List (S111)) (r2 : ByteArray) (r3 : List (S109)) (r4 : Bool) (w : World) (hr0 : Kd.C k111 w A0 l0.length l0) (hc0 : l0.length ≤ c0) (hr1_1 : Kd.C k109 w A1_1 l1_1.length l1_1) (hc1_1 : l1_1.length ≤ c1_1) (h : spec_StreamPut.f k l0 a1_0 l1_1 a2 a3 a4 = some (r1, r2, r3, r4)) :
  Calls Tryz.prog 16 #[.slice A0 l0.length c0, .agg #[.string a1_0, .slice A1_1 l1_1.length c1_1], .int .i64 a2, .string a3, .bool a4] w fun e w' => ∃ v0_ v2_ : Value, e = .returned (.tuple #[v0_, .agg #[.string r2, v2_], .bool r4]) ∧ RQ true k111 111 w' w.heap.size (fun _ => True) v0_ r1 ∧ RQ false k109 109 w' w.heap.size (fun _ => True) v2_ r3 ∧ Below w.heap.size w w' := by
 have hu26 := Tryz.underlying26
 have HR0 := Aside0.mk hr0
 have HC0 := Aside0.mk hc0
 clear hr0 hc0
 have HR1_1 := Aside0.mk hr1_1
 have HC1_1 := Aside0.mk hc1_1
 clear hr1_1 hc1_1
 have HB := Aside0.mk (Below.refl w.heap.size w)
 have H : ((spec_MapOk.f l0).bind fun t103 => (if t103 = true then ((spec_StreamOk.f k a1_0 l1_1).bind fun t104 => (if t104 = true then ((spec_TextOk.f a3).bind fun t105 => (if t105 = true then ((spec_l6In.f a2 0 40).bind fun t106 => (spec_StreamPut.j0 k l0 a2 a3 a4 (!t106) a1_0 l1_1)) else (spec_StreamPut.j0 k l0 a2 a3 a4 true a1_0 l1_1))) else (spec_StreamPut.j0 k l0 a2 a3 a4 true a1_0 l1_1))) else (spec_StreamPut.j0 k l0 a2 a3 a4 true a1_0 l1_1))) = some (r1, r2, r3, r4) := h
 clear h
 have HC6 := Aside0.mk H
 clear H
 go_enter Tryz.func16, Tryz.ntmps16
 go_upto_region 1 with (first | ((with_reducible refine gate_dst (N := 6) rfl ?_); refine zx_ (N := 6) #[.string a1_0, .slice A1_1 l1_1.length c1_1] 26 ?_; intro gb101 hg w7 hbox hb; have BK101 := A_ hbox; have GW101 := A_ ((d0_ : w.heap.size ≤ gb101)); have GE101 := A_ ((d0_ : w.heap.size ≤ gb101)); replace HB := A_ (below_step (zB_ HB.out) hb); clear hb hbox hg) | ((with_reducible refine gate_dst (N := 11) rfl ?_); refine zx_ (N := 11) #[.string (⟨#[]⟩ : ByteArray), .slice none 0 0] 26 ?_; intro gb102 hg w8 hbox hb; have BK102 := A_ hbox; have GW102 := A_ ((d6_ : w.heap.size ≤ gb102)); have GE102 := A_ ((d6_ : w.heap.size ≤ gb102)); replace HB := A_ (below_step d1_ hb); have NB101_102 := A_ ((d113_ : gb101 ≠ gb102)); have NB102_101 := A_ ((d114_ : gb102 ≠ gb101)); replace BK101 := A_ (blk_below (g := gb101) (o := .cells #[.string a1_0, .slice A1_1 l1_1.length c1_1] 26 (0, 0)) (zb_ BK101.out) hb); clear hb hbox hg))
 (try simp only [Act.put, List.setIfInBounds_toArray, List.set_cons_zero, List.set_cons_succ])
 go_cut [30] (fun v30 wc => ∃ (kq : Nat) (x30_5 : Bool), v30 = .bool x30_5 ∧ Aside0 (spec_StreamPut.j0 kq l0 a2 a3 a4 x30_5 a1_0 l1_1 = some (r1, r2, r3, r4)) ∧ Aside0 (kq ≤ k) ∧ Aside0 (wc.heap[gb101]? = some (.cells #[.string a1_0, (.slice A1_1 l1_1.length c1_1)] 26 (0, 0))) ∧ Aside0 (wc.heap[gb102]? = some (.cells #[.string (⟨#[]⟩ : ByteArray), (.slice none 0 0)] 26 (0, 0))) ∧ Aside0 (Below w.heap.size w wc))
 case first =>
  have H := HC6.out; clear HC6; obtain ⟨t103, A9, H⟩ := zH_ H
  by_cases c10 : t103 = true
  ·subst c10; rw [if_pos rfl] at H; obtain ⟨t104, A11, H⟩ := zH_ H
   by_cases c12 : t104 = true
   ·subst c12; rw [if_pos rfl] at H; obtain ⟨t105, A13, H⟩ := zH_ H
    by_cases c14 : t105 = true
    ·subst c14; rw [if_pos rfl] at H; obtain ⟨t106, A15, H⟩ := zH_ H; have H' := Aside0.mk H; clear H
     go_wp2_with (first | ((with_reducible refine gate_callee (f := 20) rfl ?_); refine zc_ (some 14) Tryz.func20 #[.slice A0 l0.length c0] ?_; (with_reducible refine (spec_MapOk.calls _ _ l0 true _ ?side1 ?side2 A9.out).mono ?_); (case side1 => exact d5_); (case side2 => exact HC0.out); rintro e w16 ⟨rfl, hb⟩; refine ⟨_, rfl, ?_⟩; replace BK101 := A_ (blk_below (g := gb101) (o := .cells #[.string a1_0, .slice A1_1 l1_1.length c1_1] 26 (0, 0)) (zb_ BK101.out) hb); replace BK102 := A_ (blk_below (g := gb102) (o := .cells #[.string (⟨#[]⟩ : ByteArray), .slice none 0 0] 26 (0, 0)) (zb_ BK102.out) hb); replace HB := A_ (below_step d77_ hb); (try clear hb); have hnb17 := NB101_102.out; have hnc17 := NB102_101.out; have hcz18_0 : w16.cell? ⟨gb101, 0, none⟩ = some (.string a1_0) := (blk_cell BK101.out 0).trans rfl; have hcz18_1 : w16.cell? ⟨gb101, 1, none⟩ = some (.slice A1_1 l1_1.length c1_1) := (blk_cell BK101.out 1).trans rfl; have hfz18_0 := blk_frozen BK101.out 0; have hfz18_1 := blk_frozen BK101.out 1) | (go_at_call 21; (with_reducible refine (spec_StreamOk.calls k a1_0 _ _ l1_1 true _ ?side1 ?side2 A11.out).mono ?_); (case side1 => exact d115_); (case side2 => exact HC1_1.out); rintro e w19 ⟨rfl, hb⟩; replace BK101 := A_ (blk_below (g := gb101) (o := .cells #[.string a1_0, .slice A1_1 l1_1.length c1_1] 26 (0, 0)) (zb_ BK101.out) hb); replace BK102 := A_ (blk_below (g := gb102) (o := .cells #[.string (⟨#[]⟩ : ByteArray), .slice none 0 0] 26 (0, 0)) (zb_ BK102.out) hb); replace HB := A_ (below_step d77_ hb); (try clear hb); (try clear hi)) | (go_at_call 22; (with_reducible refine (spec_TextOk.calls a3 true _ A13.out).mono ?_); rintro e w20 ⟨rfl, hb⟩; replace BK101 := A_ (blk_below (g := gb101) (o := .cells #[.string a1_0, .slice A1_1 l1_1.length c1_1] 26 (0, 0)) (zb_ BK101.out) hb); replace BK102 := A_ (blk_below (g := gb102) (o := .cells #[.string (⟨#[]⟩ : ByteArray), .slice none 0 0] 26 (0, 0)) (zb_ BK102.out) hb); replace HB := A_ (below_step d77_ hb); (try clear hb); (try clear hi)) | (go_at_call 63; (with_reducible refine (spec_l6In.calls a2 0 40 t106 _ A15.out).mono ?_); rintro e w' ⟨rfl, ⟨nd, rfl⟩⟩))
     go_meet
     case rel => exact ⟨_, (!t106), zs_, H', ⟨d2_⟩, ⟨d3_⟩, ⟨d56_⟩, ⟨d77_⟩⟩
    replace c14 := Bool.eq_false_iff.mpr c14; subst c14; rw [if_neg (show ¬ (false = true) by decide)] at H; have H' := Aside0.mk H; clear H
    go_wp2_with (first | ((with_reducible refine gate_callee (f := 20) rfl ?_); refine zc_ (some 14) Tryz.func20 #[.slice A0 l0.length c0] ?_; (with_reducible refine (spec_MapOk.calls _ _ l0 true _ ?side1 ?side2 A9.out).mono ?_); (case side1 => exact d5_); (case side2 => exact HC0.out); rintro e w21 ⟨rfl, hb⟩; refine ⟨_, rfl, ?_⟩; replace BK101 := A_ (blk_below (g := gb101) (o := .cells #[.string a1_0, .slice A1_1 l1_1.length c1_1] 26 (0, 0)) (zb_ BK101.out) hb); replace BK102 := A_ (blk_below (g := gb102) (o := .cells #[.string (⟨#[]⟩ : ByteArray), .slice none 0 0] 26 (0, 0)) (zb_ BK102.out) hb); replace HB := A_ (below_step d77_ hb); (try clear hb); have hnb22 := NB101_102.out; have hnc22 := NB102_101.out; have hcz23_0 : w21.cell? ⟨gb101, 0, none⟩ = some (.string a1_0) := (blk_cell BK101.out 0).trans rfl; have hcz23_1 : w21.cell? ⟨gb101, 1, none⟩ = some (.slice A1_1 l1_1.length c1_1) := (blk_cell BK101.out 1).trans rfl; have hfz23_0 := blk_frozen BK101.out 0; have hfz23_1 := blk_frozen BK101.out 1) | (go_at_call 21; (with_reducible refine (spec_StreamOk.calls k a1_0 _ _ l1_1 true _ ?side1 ?side2 A11.out).mono ?_); (case side1 => exact d115_); (case side2 => exact HC1_1.out); rintro e w24 ⟨rfl, hb⟩; replace BK101 := A_ (blk_below (g := gb101) (o := .cells #[.string a1_0, .slice A1_1 l1_1.length c1_1] 26 (0, 0)) (zb_ BK101.out) hb); replace BK102 := A_ (blk_below (g := gb102) (o := .cells #[.string (⟨#[]⟩ : ByteArray), .slice none 0 0] 26 (0, 0)) (zb_ BK102.out) hb); replace HB := A_ (below_step d77_ hb); (try clear hb); (try clear hi)) | (go_at_call 22; (with_reducible refine (spec_TextOk.calls a3 false _ A13.out).mono ?_); rintro e w25 ⟨rfl, hb⟩; replace BK101 := A_ (blk_below (g := gb101) (o := .cells #[.string a1_0, .slice A1_1 l1_1.length c1_1] 26 (0, 0)) (zb_ BK101.out) hb); replace BK102 := A_ (blk_below (g := gb102) (o := .cells #[.string (⟨#[]⟩ : ByteArray), .slice none 0 0] 26 (0, 0)) (zb_ BK102.out) hb); replace HB := A_ (below_step d77_ hb); (try clear hb); (try clear hi)))
    go_meet
    case rel => exact ⟨_, (true), zs_, H', ⟨d2_⟩, ⟨d3_⟩, ⟨d56_⟩, ⟨d77_⟩⟩
   replace c12 := Bool.eq_false_iff.mpr c12; subst c12; rw [if_neg (show ¬ (false = true) by decide)] at H; have H' := Aside0.mk H; clear H
   go_wp2_with (first | ((with_reducible refine gate_callee (f := 20) rfl ?_); refine zc_ (some 14) Tryz.func20 #[.slice A0 l0.length c0] ?_; (with_reducible refine (spec_MapOk.calls _ _ l0 true _ ?side1 ?side2 A9.out).mono ?_); (case side1 => exact d5_); (case side2 => exact HC0.out); rintro e w26 ⟨rfl, hb⟩; refine ⟨_, rfl, ?_⟩; replace BK101 := A_ (blk_below (g := gb101) (o := .cells #[.string a1_0, .slice A1_1 l1_1.length c1_1] 26 (0, 0)) (zb_ BK101.out) hb); replace BK102 := A_ (blk_below (g := gb102) (o := .cells #[.string (⟨#[]⟩ : ByteArray), .slice none 0 0] 26 (0, 0)) (zb_ BK102.out) hb); replace HB := A_ (below_step d77_ hb); (try clear hb); have hnb27 := NB101_102.out; have hnc27 := NB102_101.out; have hcz28_0 : w26.cell? ⟨gb101, 0, none⟩ = some (.string a1_0) := (blk_cell BK101.out 0).trans rfl; have hcz28_1 : w26.cell? ⟨gb101, 1, none⟩ = some (.slice A1_1 l1_1.length c1_1) := (blk_cell BK101.out 1).trans rfl; have hfz28_0 := blk_frozen BK101.out 0; have hfz28_1 := blk_frozen BK101.out 1) | (go_at_call 21; (with_reducible refine (spec_StreamOk.calls k a1_0 _ _ l1_1 false _ ?side1 ?side2 A11.out).mono ?_); (case side1 => exact d115_); (case side2 => exact HC1_1.out); rintro e w29 ⟨rfl, hb⟩; replace BK101 := A_ (blk_below (g := gb101) (o := .cells #[.string a1_0, .slice A1_1 l1_1.length c1_1] 26 (0, 0)) (zb_ BK101.out) hb); replace BK102 := A_ (blk_below (g := gb102) (o := .cells #[.string (⟨#[]⟩ : ByteArray), .slice none 0 0] 26 (0, 0)) (zb_ BK102.out) hb); replace HB := A_ (below_step d77_ hb); (try clear hb); (try clear hi)))
   go_meet
   case rel => exact ⟨_, (true), zs_, H', ⟨d2_⟩, ⟨d3_⟩, ⟨d56_⟩, ⟨d77_⟩⟩
  replace c10 := Bool.eq_false_iff.mpr c10; subst c10; rw [if_neg (show ¬ (false = true) by decide)] at H; have H' := Aside0.mk H; clear H
  go_wp2_with (first | ((with_reducible refine gate_callee (f := 20) rfl ?_); refine zc_ (some 14) Tryz.func20 #[.slice A0 l0.length c0] ?_; (with_reducible refine (spec_MapOk.calls _ _ l0 false _ ?side1 ?side2 A9.out).mono ?_); (case side1 => exact d5_); (case side2 => exact HC0.out); rintro e w30 ⟨rfl, hb⟩; refine ⟨_, rfl, ?_⟩; replace BK101 := A_ (blk_below (g := gb101) (o := .cells #[.string a1_0, .slice A1_1 l1_1.length c1_1] 26 (0, 0)) (zb_ BK101.out) hb); replace BK102 := A_ (blk_below (g := gb102) (o := .cells #[.string (⟨#[]⟩ : ByteArray), .slice none 0 0] 26 (0, 0)) (zb_ BK102.out) hb); replace HB := A_ (below_step d77_ hb); (try clear hb); (try clear hi)))
  go_meet
  case rel => exact ⟨_, (true), zs_, H', ⟨d2_⟩, ⟨d3_⟩, ⟨d56_⟩, ⟨d77_⟩⟩
 case rest =>
  clear HC6
  try clear c1
  try clear c2
  try clear p2
  try clear c10
  try clear c12
  try clear c14
  try clear c16
  try clear c17
  try clear c20
  try clear c22
  try clear c27
  try clear hcz18_0
  try clear hcz18_1
  try clear hcz23_0
  try clear hcz23_1
  try clear hcz28_0
  try clear hcz28_1
  try clear hfz18_0
  try clear hfz18_1
  try clear hfz23_0
  try clear hfz23_1
  try clear hfz28_0
  try clear hfz28_1
  obtain ⟨kq, x30_5, rfl, HA, HJ5, BK101, BK102, HB⟩ := hcut
  cases kq with
  | zero => exact absurd HA.out (by simp [spec_StreamPut.j0])
  | succ kj5 =>
   have H := HA.out; clear HA; simp only [spec_StreamPut.j0] at H
   by_cases c31 : x30_5 = true
   ·subst c31; rw [if_pos rfl] at H; obtain ⟨y107, hy107⟩ : ∃ y_ : List (S111), y_ = (([] : List (S111))) := ⟨_, rfl⟩
    replace H : (some (y107, (⟨#[]⟩ : ByteArray), ([] : List (S109)), false)) = some (r1, r2, r3, r4) := by first | (rw [hy107]; with_reducible exact H) | (have H2_ := (Option.bind_some _ _).symm.trans H; rw [hy107]; with_reducible exact H2_) | (have H2_ := (Option.bind_some _ _).symm.trans H; with_reducible exact H2_) | with_reducible exact H | (rw [hy107]; exact H) | exact H
    have Ny107 := Aside0.mk hy107; clear hy107; simp only [Option.some.injEq, Prod.mk.injEq] at H; obtain ⟨rfl, rfl, rfl, rfl⟩ := H
    go_wp2_with (first | ((with_reducible refine gate_dst (N := 31) rfl ?_); refine RQ_lit k111 _ 111 ?hg (N := 31) ?hd (xs := ([] : List (S111))) (inner := []) (ok := fun _ => True) (okp := fun _ => True) ?hr ?hp (fun _ hk => hk) trivial (Below.refl _ _) (Nat.le_refl _) (by simp) ?_; (case hd => rfl); (case hg => rfl); (case hr => exact d15_); (case hp => exact d16_); intro v108 w32 ho33 hb hg_ hnew_; (with_reducible replace ho33 := RQ_toQ ho33); clear hg_ hnew_; (first | rw [← Ny107.out] at ho33 | (simp only [Int.reduceToNat] at ho33; rw [← Ny107.out] at ho33)); have HO109 := A_ (RQ_lower ho33 (below_size d77_)); replace BK101 := A_ (blk_below (g := gb101) (o := .cells #[.string a1_0, .slice A1_1 l1_1.length c1_1] 26 (0, 0)) (zb_ BK101.out) hb); replace BK102 := A_ (blk_below (g := gb102) (o := .cells #[.string (⟨#[]⟩ : ByteArray), .slice none 0 0] 26 (0, 0)) (zb_ BK102.out) hb); replace HB := A_ (below_step d77_ hb); clear hb ho33; have hnb34 := NB102_101.out; have hnc34 := NB101_102.out; have hcz35_0 : w32.cell? ⟨gb102, 0, none⟩ = some (.string (⟨#[]⟩ : ByteArray)) := (blk_cell BK102.out 0).trans rfl; have hcz35_1 : w32.cell? ⟨gb102, 1, none⟩ = some (.slice none 0 0) := (blk_cell BK102.out 1).trans rfl; have hfz35_0 := blk_frozen BK102.out 0; have hfz35_1 := blk_frozen BK102.out 1))
    refine bodyPost_ret (results_list (rs := [.tmp 10, .cell 11 26, .tmp 12]) rfl (by simp) (.tmp (.cell gb102 26 #[.string (⟨#[]⟩ : ByteArray), .slice none 0 0] (0, 0) _ rfl d116_ Tryz.underlying26 rfl (by kernel_rfl) (.tmp .nil)))) rfl ?_; exact ⟨_, _, d4_, by (with_reducible repeat (first | apply RQ_alloc | apply RQ_drewN | apply RQ_drew)); exact RQ_mono (RQ_far (p := ⟨gb102, 1, none⟩) (RQ_far (p := ⟨gb102, 0, none⟩) (RQ_types HO109.out BK102.out (by decide)) (fun _ hk => hk.2) (.string (⟨#[]⟩ : ByteArray))) (fun _ hk => hk.2) (.slice none 0 0)) (fun _ hk => trivial), by first | exact RQ_nil _ _ _ _ _ | exact Kd.N_nil _ _ _ _ _ | exact Kd.V_nil _ _ _ _ _ | exact Kd.Q_nil _ _ _ _ _ | exact Kd.S_nil _ _ _ _ _, d77_⟩
   replace c31 := Bool.eq_false_iff.mpr c31; subst c31; rw [if_neg (show ¬ (false = true) by decide)] at H; obtain ⟨t110, A36, H⟩ := zH_ H; obtain ⟨⟨t113, t114⟩, A37, H⟩ := zH_ H; dsimp only at H; obtain ⟨⟨t117, t120, t121, t124⟩, A38, H⟩ := zH_ H; dsimp only at H; simp only [Option.some.injEq, Prod.mk.injEq] at H; obtain ⟨rfl, rfl, rfl, rfl⟩ := H
   try go_wp2
   have n0_ := Aside0.mk (blk_drew BK101.out); have n1_ := Aside0.mk (blk_drew BK102.out); have n2_ := Aside0.mk (below_drew1 HB.out); clear BK101; clear BK102; clear HB; have BK101 := n0_; have BK102 := n1_; have HB := n2_; clear n0_ n1_ n2_; refine start_ (n := 14) (S := fun w' => w'.cell? ⟨gb101, 0, none⟩ = some (.string a1_0) ∧ w'.cell? ⟨gb101, 1, none⟩ = some (.slice A1_1 l1_1.length c1_1)) (ds := []) #[false, false, false, false, false, false, false, false, false, false, false, false, false, false] (by kernel_rfl) rfl rfl ⟨(blk_cell BK101.out 0).trans rfl, (blk_cell BK101.out 1).trans rfl⟩ (fun hHeld => ?_); refine with_tabW spec_StreamPut.tab3 spec_StreamPut.bits3 (fun HT_ HW_ => ?_); generalize wc.drew = w39 at BK101 BK102 HB hHeld ⊢; refine zP_ HT_ 0 (some 33) ?_; refine zP_ HT_ 4 (some 37) ?_; refine zP_ HT_ 5 (some 38) ?_; refine zP_ HT_ 6 (some 39) ?_; refine zT_ HT_ HW_ hHeld 2 (some 35) ?_; refine one_ (i := 1) (N := some 34) #[true, true, true, false, true, true, true, false, false, false, false, false, false, false] rfl rfl (one_of HT_.out (by kernel_rfl)) (by decide) (fun K hK => ?_); refine goes_ Tryz.func65 (by kernel_rfl) rfl #[.slice A0 l0.length c0] (by rfl) rfl rfl za_ ?_
   with_reducible refine (spec_l3Copy.calls _ _ l0 t110 _ ?side1 ?side2 A36.out).mono ?_
   (case side1 => exact d5_); (case side2 => exact HC0.out); rintro e w40 ⟨v111, rfl, ho0, hb⟩; (first | (with_reducible replace ho0 : RQ true k111 _ _ _ _ _ _ := RQ_toQ (RQ_ofR ho0)) | (with_reducible replace ho0 := RQ_ofR ho0) | (with_reducible replace ho0 := RQ_ofQ ho0) | skip); refine ⟨_, rfl, ?_⟩; have n0_ := Aside0.mk (RQ_lower ho0 (below_size d77_)); have n1_ := Aside0.mk (blk_below (g := gb101) (o := .cells #[.string a1_0, .slice A1_1 l1_1.length c1_1] 26 (0, 0)) (zb_ BK101.out) hb); have n2_ := Aside0.mk (blk_below (g := gb102) (o := .cells #[.string (⟨#[]⟩ : ByteArray), .slice none 0 0] 26 (0, 0)) (zb_ BK102.out) hb); have n3_ := Aside0.mk (below_step d77_ hb); clear BK101; clear BK102; clear HB; have HO112 := n0_; have BK101 := n1_; have BK102 := n2_; have HB := n3_; clear n0_ n1_ n2_ n3_; (try clear hb); (try clear hb2); (try clear hk); (try clear hi); (try clear ho0); refine hK.out _ _ ⟨(blk_cell BK101.out 0).trans rfl, (blk_cell BK101.out 1).trans rfl⟩ (fun hHeld => ?_); clear hK K; refine norm_ (a' := ?_) ?_ ?_; rotate_left
   ·show Act.put _ (some 34) _ = _
    simp only [Act.put, List.setIfInBounds_toArray, List.set_cons_zero, List.set_cons_succ, i64_w, i32_w]; rfl
   refine one_ (i := 3) (N := some 36) #[true, true, true, true, true, true, true, false, false, false, false, false, false, false] rfl rfl (one_of HT_.out (by kernel_rfl)) (by decide) (fun K hK => ?_); refine goes_ Tryz.func66 (by kernel_rfl) rfl #[.agg #[.string a1_0, .slice A1_1 l1_1.length c1_1]] (by rfl) rfl rfl za_ ?_
   with_reducible refine (spec_l11Copy.calls a1_0 _ _ l1_1 t113 t114 _ ?side1 ?side2 A37.out).mono ?_
   (case side1 => exact d115_); (case side2 => exact HC1_1.out); rintro e w41 ⟨v115, rfl, ho0, hb⟩; (first | (with_reducible replace ho0 : RQ true k111 _ _ _ _ _ _ := RQ_toQ (RQ_ofR ho0)) | (with_reducible replace ho0 := RQ_ofR ho0) | (with_reducible replace ho0 := RQ_ofQ ho0) | skip); refine ⟨_, rfl, ?_⟩; have n0_ := Aside0.mk (RQ_below (zr_ HO112.out) hb); have n1_ := Aside0.mk (RQ_lower ho0 (below_size d77_)); have n2_ := Aside0.mk (blk_below (g := gb101) (o := .cells #[.string a1_0, .slice A1_1 l1_1.length c1_1] 26 (0, 0)) (zb_ BK101.out) hb); have n3_ := Aside0.mk (blk_below (g := gb102) (o := .cells #[.string (⟨#[]⟩ : ByteArray), .slice none 0 0] 26 (0, 0)) (zb_ BK102.out) hb); have n4_ := Aside0.mk (below_step d77_ hb); clear HO112; clear BK101; clear BK102; clear HB; have HO112 := n0_; have HO116 := n1_; have BK101 := n2_; have BK102 := n3_; have HB := n4_; clear n0_ n1_ n2_ n3_ n4_; (try clear hb); (try clear hb2); (try clear hk); (try clear hi); (try clear ho0); obtain ⟨Ao42, co42, eo42⟩ := RQ_slice HO112.out; (first | subst eo42 | (injection eo42 with f1_ f2_ f3_; have f4_ := f1_.symm; have f5_ := f3_.symm; clear f1_ f2_ f3_; subst f4_; subst f5_)); obtain ⟨Ao43, co43, eo43⟩ := RQ_slice HO116.out; (first | subst eo43 | (injection eo43 with f1_ f2_ f3_; have f4_ := f1_.symm; have f5_ := f3_.symm; clear f1_ f2_ f3_; subst f4_; subst f5_)); refine hK.out _ _ ⟨(blk_cell BK101.out 0).trans rfl, (blk_cell BK101.out 1).trans rfl⟩ (fun hHeld => ?_); clear hK K; refine norm_ (a' := ?_) ?_ ?_; rotate_left
   ·show Act.put _ (some 36) _ = _
    simp only [Act.put, List.setIfInBounds_toArray, List.set_cons_zero, List.set_cons_succ, i64_w, i32_w]; rfl
   refine one_ (i := 7) (N := some 40) #[true, true, true, true, true, true, true, true, false, false, false, false, false, false] rfl rfl (one_of HT_.out (by kernel_rfl)) (by decide) (fun K hK => ?_); refine goes_ Tryz.func64 (by kernel_rfl) rfl #[.slice Ao42 t110.length co42, .agg #[.string t113, .slice Ao43 t114.length co43], .int .i64 a2, .string a3, .bool a4] (by rfl) rfl rfl za_ ?_
   with_reducible refine (spec_l11Put.callsQ kj5 (fun k_ => some k_ = (.slice Ao42 t110.length co42 : Value).ownBlock) (.slice Ao42 t110.length co42) t110 t113 (fun k_ => some k_ = (.slice Ao43 t114.length co43 : Value).ownBlock) (.slice Ao43 t114.length co43) t114 a2 a3 a4 t117 t120 t121 t124 w _ ?side1 ?side2 ?side3 A38.out).mono ?_
   (case side1 => exact d77_); (case side2 => exact RQ_tight rfl HO112.out); (case side3 => exact RQ_tight rfl HO116.out); rintro e w44 ⟨v118, v122, rfl, ho0, ho1, hb, hkp⟩; (first | (with_reducible replace ho0 : RQ true k111 _ _ _ _ _ _ := RQ_toQ (RQ_ofR ho0)) | (with_reducible replace ho0 := RQ_ofR ho0) | (with_reducible replace ho0 := RQ_ofQ ho0) | skip); (first | (with_reducible replace ho1 : RQ true k111 _ _ _ _ _ _ := RQ_toQ (RQ_ofR ho1)) | (with_reducible replace ho1 := RQ_ofR ho1) | (with_reducible replace ho1 := RQ_ofQ ho1) | skip); refine ⟨_, rfl, ?_⟩; have n0_ := Aside0.mk (blk_kept (zb_ BK101.out) hkp (fun hs_ => Or.elim hs_ (fun e_ => (fun e_ => (RQ_ne HO112.out BK101.out (by decide)) e_) e_) (fun e_ => (fun e_ => (RQ_ne HO116.out BK101.out (by decide)) e_) e_))); have n1_ := Aside0.mk (blk_kept (zb_ BK102.out) hkp (fun hs_ => Or.elim hs_ (fun e_ => (fun e_ => (RQ_ne HO112.out BK102.out (by decide)) e_) e_) (fun e_ => (fun e_ => (RQ_ne HO116.out BK102.out (by decide)) e_) e_))); have n2_ := Aside0.mk (RQ_mono (ok' := fun k_ => True) ho0 (fun k_ hk_ => trivial)); have n3_ := Aside0.mk (RQ_mono (ok' := fun k_ => True) ho1 (fun k_ hk_ => trivial)); have n4_ := Aside0.mk (hb); clear BK101; clear BK102; clear HB; clear HO112; clear HO116; have BK101 := n0_; have BK102 := n1_; have HO119 := n2_; have HO123 := n3_; have HB := n4_; clear n0_ n1_ n2_ n3_ n4_; (try clear hb); (try clear hkp); (try clear ho0); (try clear ho1); obtain ⟨Ao46, co46, eo46⟩ := RQ_slice HO123.out; (first | subst eo46 | (injection eo46 with f1_ f2_ f3_; have f4_ := f1_.symm; have f5_ := f3_.symm; clear f1_ f2_ f3_; subst f4_; subst f5_)); refine hK.out _ _ ⟨(blk_cell BK101.out 0).trans rfl, (blk_cell BK101.out 1).trans rfl⟩ (fun hHeld => ?_); clear hK K; refine norm_ (a' := ?_) ?_ ?_; rotate_left
   ·show Act.put _ (some 40) _ = _
    simp only [Act.put, List.setIfInBounds_toArray, List.set_cons_zero, List.set_cons_succ, i64_w, i32_w]; rfl
   refine zP_ HT_ 8 (some 41) ?_; refine zP_ HT_ 9 (some 42) ?_; refine zP_ HT_ 10 (some 43) ?_; refine zP_ HT_ 11 (some 10) ?_; refine one_ (i := 12) (N := none) #[true, true, true, true, true, true, true, true, true, true, true, true, true, false] rfl rfl (one_of HT_.out (by kernel_rfl)) (by decide) (fun K hK => ?_); have hs45 : w44.cell? ⟨gb102, 0, none⟩ = some (.string (⟨#[]⟩ : ByteArray)) := (blk_cell BK102.out 0).trans rfl; have hfs45 := blk_frozen BK102.out 0; have hns45_0 := NB101_102.out; have hms45_0 := NB102_101.out; have hs47 : w44.cell? ⟨gb102, 1, none⟩ = some (.slice none 0 0) := (blk_cell BK102.out 1).trans rfl; have hfs47 := blk_frozen BK102.out 1; have hns47_0 := NB101_102.out; have hms47_0 := NB102_101.out; refine skip_ (w1 := ?_) (by rfl) rfl ?_ ?_; rotate_left
   ·go_simp
    rfl
   refine hK.out _ _ ⟨((cell_far (p := ⟨gb102, _, none⟩) NB101_102.out _).trans (((cell_far (p := ⟨gb102, _, none⟩) NB101_102.out _).trans (hHeld.1)))), ((cell_far (p := ⟨gb102, _, none⟩) NB101_102.out _).trans (((cell_far (p := ⟨gb102, _, none⟩) NB101_102.out _).trans (hHeld.2))))⟩ (fun hHeld => ?_); clear hK K; refine zP_ HT_ 13 (some 12) ?_; refine done_ (done_of HT_.out (by kernel_rfl)) ?_
   try go_wp2
   refine bodyPost_ret (results_list (rs := [.tmp 10, .cell 11 26, .tmp 12]) rfl (by simp) (.tmp (.cell gb102 26 #[.string t120, .slice Ao46 t121.length co46] (0, 0) _ rfl (by (with_reducible repeat (first | refine blk_drewN ?_ _ | refine blk_drew ?_ | refine blk_alloc ?_ _)); refine blk_put (cs := #[.string t120, .slice none 0 0]) ?_ 1 _ rfl; (with_reducible repeat (first | refine blk_drewN ?_ _ | refine blk_drew ?_ | refine blk_alloc ?_ _)); refine blk_put (cs := #[.string (⟨#[]⟩ : ByteArray), .slice none 0 0]) ?_ 0 _ rfl; (with_reducible repeat (first | refine blk_drewN ?_ _ | refine blk_drew ?_ | refine blk_alloc ?_ _)); exact BK102.out) Tryz.underlying26 rfl (by kernel_rfl) (.tmp .nil)))) rfl ?_; exact ⟨_, _, d4_, by (with_reducible repeat (first | apply RQ_alloc | apply RQ_drewN | apply RQ_drew)); exact RQ_mono (RQ_far (p := ⟨gb102, 1, none⟩) (RQ_far (p := ⟨gb102, 0, none⟩) (RQ_types HO119.out BK102.out (by decide)) (fun _ hk => hk.2) (.string t120)) (fun _ hk => hk.2) (.slice Ao46 t121.length co46)) (fun _ hk => trivial), by (with_reducible repeat (first | apply RQ_alloc | apply RQ_drewN | apply RQ_drew)); exact RQ_mono (RQ_far (p := ⟨gb102, 1, none⟩) (RQ_far (p := ⟨gb102, 0, none⟩) (RQ_types HO123.out BK102.out (by decide)) (fun _ hk => hk.2) (.string t120)) (fun _ hk => hk.2) (.slice Ao46 t121.length co46)) (fun _ hk => trivial), d77_⟩
end
end Go.Proofs.YtfjbjiklohjodaaGreatDoor.Q
namespace Go.Proofs.YtfjbjiklohjodaaGreatDoor.Q
open Go.RowKit Go.Proofs.YtfjbjiklohjodaaGreatDoorW.PrintWords Go.Proofs.YtfjbjiklohjodaaGreatDoorW.PrintMore Go.Proofs.YtfjbjiklohjodaaGreatDoor.Z
set_option linter.unusedVariables false
set_option linter.unusedSimpArgs false
attribute [local go_sem ↓] Go.wp_at_zero Go.wp_at_succ
def partOk (p : S109) (q : S116) : Bool := p.f0 == q.f0 && inB p.f1.size 1 6 && textOk (bl p.f1)
set_option maxHeartbeats 1000000 in
theorem part_ok (p : S109) (q : S116) (w : World) :
    Calls Tryz.prog 79 #[.agg #[.int .i64 p.f0, .string p.f1], .agg #[.int .i64 q.f0, .bool q.f1, .int .i64 q.f2.f0, .int .i64 q.f2.f1]] w fun e w' => e = .returned (.bool (partOk p q)) ∧ Below w.heap.size w w' := by
  unfold partOk
  obtain ⟨x, s⟩ := p
  obtain ⟨y, b, a, pt⟩ := q
  simp only
  by_cases h1 : x = y
  · subst h1
    cases h2 : inB s.size 1 6
    · have e : (x == x && false && textOk (bl s)) = false := by simp
      rw [e]
      have H2 := Aside0.mk h2
      clear h2 e
      go_enter Tryz.func79, Tryz.ntmps79
      go_wp2_with (go_at_call 68; refine (impl_within _ _ _ _).mono ?_; rintro r w1 ⟨rfl, rfl⟩; rw [H2.out])
      go_ret
      exact ⟨rfl, below_alloc (below_alloc (Below.refl _ _) _) _⟩
    · have hs : s.size ≤ 140737488355328 := by
        unfold inB at h2
        rw [Bool.and_eq_true, decide_eq_true_iff, decide_eq_true_iff] at h2
        omega
      have e : (x == x && true && textOk (bl s)) = textOk (bl s) := by simp
      rw [e]
      obtain ⟨t, ht⟩ : ∃ t, textOk (bl s) = t := ⟨_, rfl⟩
      have HT := Aside0.mk (show impl_TextOk.f s = some t by unfold impl_TextOk.f; rw [if_pos hs, ht])
      rw [ht]
      have H2 := Aside0.mk h2
      clear h2 e ht hs
      go_enter Tryz.func79, Tryz.ntmps79
      go_wp2_with (first | (go_at_call 68; refine (impl_within _ _ _ _).mono ?_; rintro r w1 ⟨rfl, rfl⟩; rw [H2.out]) | (go_at_call 67; refine (impl_TextOk.calls s t _ HT.out).mono ?_; rintro r w2 ⟨rfl, hb2⟩))
      go_ret
      exact ⟨rfl, below_step (below_alloc (below_alloc (Below.refl _ _) _) _) hb2⟩
  · have e : (x == y && inB s.size 1 6 && textOk (bl s)) = false := by
      rw [show (x == y) = false from beq_eq_false_iff_ne.2 h1]
      simp
    rw [e]
    have d1 : (x == y) = false := beq_eq_false_iff_ne.2 h1
    have d2 : decide (x = y) = false := decide_eq_false h1
    clear e
    go_enter Tryz.func79, Tryz.ntmps79
    go_wp2
    go_ret
    exact ⟨rfl, below_alloc (below_alloc (Below.refl _ _) _) _⟩
def partsOk (l0 : List S109) (l1 : List S116) : Bool := decide (l0.length = l1.length) && (List.range l0.length).all (fun i => partOk (rd_T109 l0 i) (rd_T116 l1 i))
theorem parts_no {l0 : List S109} {l1 : List S116} {k : Nat} (hk : k < l0.length) (h : partOk (rd_T109 l0 k) (rd_T116 l1 k) = false) : partsOk l0 l1 = false := by
  unfold partsOk
  rw [Bool.and_eq_false_iff]
  refine .inr ?_
  rw [← Bool.not_eq_true, List.all_eq_true]
  intro h2
  rw [h2 k (List.mem_range.2 hk)] at h
  cases h
theorem parts_step {l0 : List S109} {l1 : List S116} {k : Nat} (hp : (List.range k).all (fun i => partOk (rd_T109 l0 i) (rd_T116 l1 i)) = true) (h : partOk (rd_T109 l0 k) (rd_T116 l1 k) = true) : (List.range (k + 1)).all (fun i => partOk (rd_T109 l0 i) (rd_T116 l1 i)) = true := by
  rw [List.range_succ, List.all_append, hp]
  simp [h]
set_option maxHeartbeats 2000000 in
theorem equal_parts (A : Option Addr) (n c : Nat) (l0 : List S109) (A1 : Option Addr) (n1 c1 : Nat) (l1 : List S116) (w : World) (hC : Kd.C k109 w A n l0) (hC1 : Kd.C k116 w A1 n1 l1) (hn : n ≤ 1099511627776) :
    Calls Tryz.prog 77 #[.slice A n c, .slice A1 n1 c1, .func (.func 79) #[] #[]] w fun r w' => r = .returned (.bool (partsOk l0 l1)) ∧ Below w.heap.size w w' := by
  have hl : l0.length = n := hC.1
  have hl1 : l1.length = n1 := hC1.1
  have HC := Aside0.mk hC
  have HC1 := Aside0.mk hC1
  clear hC hC1
  by_cases hne : n = n1
  · subst hne
    obtain ⟨q, hq⟩ : ∃ q, partsOk l0 l1 = q := ⟨_, rfl⟩
    have HQ := Aside0.mk hq
    rw [hq]
    clear hq
    go_enter Tryz.func77, Tryz.ntmps77
    go_wp2
    go_loopw [17] (fun s17 w' => ∃ k : Nat, k ≤ n ∧ s17 = .int .i64 k ∧ Aside0 ((List.range k).all (fun i => partOk (rd_T109 l0 i) (rd_T116 l1 i)) = true) ∧ Below w.heap.size w w') (fun s17 _ => n - (intOf s17).toNat)
    case atStart => exact ⟨0, Nat.zero_le _, rfl, ⟨by simp⟩, Below.refl _ _⟩
    case round =>
      obtain ⟨k, hk, rfl, HP, hb⟩ := hrel
      by_cases hlt : k < n
      · obtain ⟨ad, hA, d0, d1⟩ := at_T109 (Kd.C_below HC.out hb) (k : Int) (by omega) (by omega)
        obtain ⟨ad1, hA1, f0, f1, f2, f3⟩ := at_T116 (Kd.C_below HC1.out hb) (k : Int) (by omega) (by omega)
        cases hA
        cases hA1
        obtain ⟨ad2, hA2, g0, g1, g2, g3⟩ := at_T116 (Kd.C_below HC1.out (below_alloc hb (.cells #[.int .i64 (rd_T109 l0 k).f0, .string (rd_T109 l0 k).f1] 109 (0, 0)))) (k : Int) (by omega) (by omega)
        cases hA2
        rw [Int.toNat_natCast] at d0 d1 f0 f1 f2 f3 g0 g1 g2 g3
        have hk0 : (0 : Int) ≤ (k : Int) := Int.natCast_nonneg _
        have hk1 : (k : Int) < (n : Int) := by omega
        have HPO := Aside0.mk (part_ok (rd_T109 l0 k) (rd_T116 l1 k))
        cases hd : partOk (rd_T109 l0 k) (rd_T116 l1 k) with
        | true =>
          rw [hd] at HPO
          have HA := Aside0.mk (parts_step HP.out hd)
          clear hd
          go_wp2_with (go_at_call 79; refine (HPO.out _).mono ?_; rintro r w2 ⟨rfl, hb2⟩)
          go_roundw
          case rel => exact ⟨k + 1, by omega, by go_num, HA, below_step (below_alloc (below_alloc hb _) _) hb2⟩
          case measure => simp [intOf]; omega
        | false =>
          rw [hd] at HPO
          have HA := Aside0.mk (HQ.out.symm.trans (parts_no (by omega) hd))
          clear hd
          go_wp2_with (go_at_call 79; refine (HPO.out _).mono ?_; rintro r w2 ⟨rfl, hb2⟩)
          go_ret
          exact ⟨by rw [HA.out]; rfl, below_step (below_alloc (below_alloc hb _) _) hb2⟩
      · obtain rfl : k = n := by omega
        have HA : Aside0 (q = true) := ⟨by rw [← HQ.out]; unfold partsOk; rw [hl, hl1, HP.out]; simp⟩
        go_wp2
        go_ret
        exact ⟨by rw [HA.out]; rfl, hb⟩
  · have e : partsOk l0 l1 = false := by unfold partsOk; rw [hl, hl1, decide_eq_false hne, Bool.false_and]
    rw [e]
    have d1 : ((n : Int) == (n1 : Int)) = false := beq_eq_false_iff_ne.2 (by omega)
    have d2 : decide ((n : Int) = (n1 : Int)) = false := decide_eq_false (by omega)
    have d3 : decide (n = n1) = false := decide_eq_false hne
    clear e hl hl1
    go_enter Tryz.func77, Tryz.ntmps77
    go_wp2
    go_ret
    exact ⟨rfl, Below.refl _ _⟩
def slices_EqualFunc_Part.f (l0 : List S109) (l1 : List S116) : Option Bool := if l0.length ≤ 1099511627776 then some (partsOk l0 l1) else none
theorem slices_EqualFunc_Part.calls (A0 : Option Addr) (c0 : Nat) (l0 : List (S109)) (A1 : Option Addr) (c1 : Nat) (l1 : List (S116)) (r : Bool) (w : World) (hr0 : Kd.C k109 w A0 l0.length l0) (hc0 : l0.length ≤ c0) (hr1 : Kd.C k116 w A1 l1.length l1) (hc1 : l1.length ≤ c1) (h : slices_EqualFunc_Part.f l0 l1 = some r) :
    Calls Tryz.prog 77 #[.slice A0 l0.length c0, .slice A1 l1.length c1, .func (.func 79) #[] #[]] w fun e w' => e = .returned (.bool r) ∧ Below w.heap.size w w' := by
  unfold slices_EqualFunc_Part.f at h
  split at h
  · rename_i hs
    obtain rfl := Option.some.inj h
    exact equal_parts A0 l0.length c0 l0 A1 l1.length c1 l1 w hr0 hr1 hs
  · cases h
end Go.Proofs.YtfjbjiklohjodaaGreatDoor.Q
