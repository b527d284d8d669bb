/- Plain laws of the printed functions: what the laws of conversations draw. Two conversations compared. Contracts of mine in the print's own form: strings joined, and cloned. Plain laws of the printed functions: pieces as they go on. Plain laws of the printed functions: what a text goes out as, its pieces and names; maps compared. Contracts of mine in the print's own form: whether a row of ends holds a door's; a conversation made. Plain laws of the printed functions: conversations made, of both. ConvNew of the program and of the reference, walked: what they hand back. The program's ConvOk at a conversation just made. The law FnConvNew: whatever conversation is drawn, it begins with nothing. How a row's argument, read as data, is a value of one of our kinds. How a row's code, a slice of bytes, is a list of small numbers. For every code FnConvNew returns true and leaves its arguments as they were: a conversation begins with nothing. -/
import Derived.Test.YtijompkonaiagaaDoorRows
import Derived.Test.YtijompkonaiagaaDoorTie
import Derived.Test.YtijompkonaiagaaDoorCards
import Derived.Test.YtijompkonaiagaaDoorBn4
import Derived.DataReads
import Derived.Deep.Slices
import Derived.ChangeArms
import Derived.SevenTiedAt
import Derived.WalkKit
import Derived.ProofKit
import Derived.OpenShut
import Derived.ShutString
import Derived.ChangeOld
import Derived.Below
import Derived.SizedLaws
namespace Go.Proofs.YtijompkonaiagaaDoor.Q
open Go.RowKit Go.Proofs.YtijompkonaiagaaDoorW.PrintWords Go.Proofs.YtijompkonaiagaaDoorW.PrintMore Go.Proofs.YtijompkonaiagaaDoor.Z
set_option linter.unusedVariables false
set_option linter.unusedSimpArgs false
theorem drawConv_to (k : Nat) (hk : 2000 < k) {code : List Int} (hc : ∀ b ∈ code, (0 : Int) ≤ b ∧ b ≤ 255) : ∃ (i o : En) (up down : List UInt8), spec_DrawConvNew.f k code = some (i.addr, i.port, o.addr, o.port, mkB up, mkB down) ∧ up.length ≤ 100 ∧ down.length ≤ 100 := by
  obtain ⟨bs, h1, hb⟩ := l6Open_to hc
  obtain ⟨r, q, h2, hr, hr0, hr2, hq, hq2⟩ := l72Convs_to k (by omega) hb 0 (by omega)
  obtain ⟨a, ha, a0, a1⟩ := pick_at k (by omega) hb q (by omega) 10 (by omega)
  obtain ⟨e1, e2, qe, he, _, _, _⟩ := l71End_at k (by omega) hb (q + 1) (by omega)
  obtain ⟨s, qs, hs, hs2, _, _⟩ := l71Off_to k (by omega) hb (q + 1) (by omega)
  obtain ⟨c, hc0⟩ : ∃ c, rd_T28 r 0 = c := ⟨_, rfl⟩
  have hcm : c ∈ r := by
    rw [← hc0]
    unfold rd_T28
    rw [List.getD_eq_getElem?_getD, List.getElem?_eq_getElem (show (0 : Int).toNat < r.length from hr0)]
    exact List.getElem_mem _
  have hcs := hr2 c hcm
  unfold spec_DrawConvNew.f
  rw [h1, Option.bind_some]
  simp only
  rw [h2, Option.bind_some]
  simp only
  rw [if_pos (by omega), ha, Option.bind_some]
  simp only [hc0]
  have fin : ∀ (x1 x2 x3 x4 : Int) (u d : ByteArray), u.size ≤ 100 → d.size ≤ 100 → ∃ (i o : En) (up down : List UInt8), (some (x1, x2, x3, x4, u, d) : Option (Int × Int × Int × Int × ByteArray × ByteArray)) = some (i.addr, i.port, o.addr, o.port, mkB up, mkB down) ∧ up.length ≤ 100 ∧ down.length ≤ 100 :=
    fun x1 x2 x3 x4 u d hu hd => ⟨⟨x1, x2⟩, ⟨x3, x4⟩, bl u, bl d, by rw [mkB_bl, mkB_bl], by rw [bl_len]; exact hu, by rw [bl_len]; exact hd⟩
  by_cases c0 : a = 0
  · rw [if_pos c0, he, Option.bind_some]
    exact fin _ _ _ _ _ _ (by omega) (by omega)
  · rw [if_neg c0]
    by_cases c1 : a = 1
    · rw [if_pos c1, he, Option.bind_some]
      exact fin _ _ _ _ _ _ (by omega) (by omega)
    · rw [if_neg c1]
      by_cases c2 : a = 2
      · rw [if_pos c2, hs, Option.bind_some]
        exact fin _ _ _ _ _ _ (by omega) (by omega)
      · rw [if_neg c2]
        by_cases c3 : a = 3
        · rw [if_pos c3, hs, Option.bind_some]
          exact fin _ _ _ _ _ _ (by omega) (by omega)
        · rw [if_neg c3]
          exact fin _ _ _ _ _ _ (by omega) (by omega)
end Go.Proofs.YtijompkonaiagaaDoor.Q
namespace Go.Proofs.YtijompkonaiagaaDoor.Z
open Go.RowKit Go.Proofs.YtijompkonaiagaaDoorW.PrintWords
set_option linter.unusedVariables false
set_option linter.unusedSimpArgs false
theorem eqCv (d : Nat) (w : World) (x0 y0 : Int) (x1 y1 : Int) (x2 y2 : Int) (x3 y3 : Int) (x4 y4 : ByteArray) (x5 y5 : ByteArray) (x6 y6 : Int) (x7 y7 : Int) (x8 y8 : ByteArray) (x9 y9 : ByteArray) :
    (Op.equalIn (d + 3) 28 (.agg #[.int .i64 x0, .int .i64 x1, .int .i64 x2, .int .i64 x3, .string x4, .string x5, .int .i64 x6, .int .i64 x7, .string x8, .string x9]) (.agg #[.int .i64 y0, .int .i64 y1, .int .i64 y2, .int .i64 y3, .string y4, .string y5, .int .i64 y6, .int .i64 y7, .string y8, .string y9])).run Tryd.prog w = .ok ((x0 == y0 && (x1 == y1)) && ((x2 == y2 && (x3 == y3)) && (x4.toList == y4.toList && (x5.toList == y5.toList && (x6 == y6 && (x7 == y7 && (x8.toList == y8.toList && (x9.toList == y9.toList)))))))) w := by
  refine eqA_of Tryd.underlying28 (by kernel_rfl) ?_
  refine eqf_cons (by rfl) (by go_simp) (by go_simp) (eqEn (d + 0) w _ _ _ _) ?_
  refine eqf_cons (by rfl) (by go_simp) (by go_simp) (eqEn (d + 0) w _ _ _ _) ?_
  refine eqf_cons (by rfl) (by go_simp; rfl) (by go_simp; rfl) (by go_simp) ?_
  refine eqf_cons (by rfl) (by go_simp; rfl) (by go_simp; rfl) (by go_simp) ?_
  refine eqf_cons (by rfl) (by go_simp; rfl) (by go_simp; rfl) (by go_simp) ?_
  refine eqf_cons (by rfl) (by go_simp; rfl) (by go_simp; rfl) (by go_simp) ?_
  refine eqf_cons (by rfl) (by go_simp; rfl) (by go_simp; rfl) (by go_simp) ?_
  exact eqf_last (by rfl) (by go_simp; rfl) (by go_simp; rfl) (by go_simp)
end Go.Proofs.YtijompkonaiagaaDoor.Z
namespace Go.Proofs.YtijompkonaiagaaDoor.Q
open Go.RowKit Go.Proofs.YtijompkonaiagaaDoorW.PrintWords Go.Proofs.YtijompkonaiagaaDoorW.PrintMore Go.Proofs.YtijompkonaiagaaDoor.Z
set_option linter.unusedVariables false
set_option linter.unusedSimpArgs false
attribute [local go_sem ↓] Go.wp_at_zero Go.wp_at_succ
def strings_Clone.f (a0 : ByteArray) : Option ByteArray := if a0.size ≤ 281474976710656 then some a0 else none
end Go.Proofs.YtijompkonaiagaaDoor.Q
namespace Go.Proofs.YtijompkonaiagaaDoor.Q
open Go.RowKit Go.Proofs.YtijompkonaiagaaDoorW.PrintWords Go.Proofs.YtijompkonaiagaaDoorW.PrintMore Go.Proofs.YtijompkonaiagaaDoor.Z
set_option linter.unusedVariables false
set_option linter.unusedSimpArgs false
theorem rd_pc (ps : List Pc) (i : Nat) (p : Pc) (h : ps[i]? = some p) : rd_T56 (ps.map pcTo) (i : Int) = pcTo p := by
  unfold rd_T56
  rw [Int.toNat_natCast, List.getD_eq_getElem?_getD, List.getElem?_map, h]
  rfl
theorem drop_of {α : Type} {ps : List α} {i : Nat} {p : α} (h : ps[i]? = some p) : ps.drop i = p :: ps.drop (i + 1) := by
  obtain ⟨hi, e⟩ := List.getElem?_eq_some_iff.1 h
  rw [List.drop_eq_getElem_cons hi, e]
theorem body_len (l : List UInt8) : (body l).length ≤ l.length := by unfold body; rw [List.length_take]; omega
theorem textOk_len {l : List UInt8} (h : textOk l = true) : l.length ≤ 40 := by
  unfold textOk at h
  rw [Bool.and_eq_true, decide_eq_true_iff] at h
  omega
end Go.Proofs.YtijompkonaiagaaDoor.Q
namespace Go.Proofs.YtijompkonaiagaaDoor.Q
open Go.RowKit Go.Proofs.YtijompkonaiagaaDoorW.PrintWords Go.Proofs.YtijompkonaiagaaDoorW.PrintLast Go.Proofs.YtijompkonaiagaaDoorW.PrintMore Go.Proofs.YtijompkonaiagaaDoor.Z
attribute [local go_sem] max2_int min2_int max_two min_two max_three min_three max_four min_four
set_option linter.unusedVariables false
set_option linter.unusedSimpArgs false
noncomputable section
def impl_TextPieces.f (k : Nat) (a0 : ByteArray) : Option ((List (S56))) := (impl_TextOk.f a0).bind fun t101 => (if t101 = true then ((impl_pieces.f k a0).bind fun t102 => (some t102)) else (some ([] : List (S56))))
set_option maxHeartbeats 8000000 in
set_option maxRecDepth 100000 in
theorem impl_TextPieces.calls (k : Nat) (a0 : ByteArray) (r : List (S56)) (w : World) (hV : VarsIn w) (h : impl_TextPieces.f k a0 = some r) :
    Calls Tryd.prog 36 #[.string a0] w fun e w' => ∃ v0_ : Value, e = .returned (v0_) ∧ Kd.V k56 56 w' w.heap.size (fun k_ => (w.heap.size ≤ k_)) v0_ r ∧ Below w.heap.size w w' := by
  have HB := Aside0.mk (Below.refl w.heap.size w)
  have H : ((impl_TextOk.f a0).bind fun t101 => (if t101 = true then ((impl_pieces.f k a0).bind fun t102 => (some t102)) else (some ([] : List (S56))))) = some r := h
  clear h
  replace H := Option.bind_eq_some_iff.mp H
  obtain ⟨t101, A20, H⟩ := H
  replace H : (if t101 = true then ((impl_pieces.f k a0).bind fun t102 => (some t102)) else (some ([] : List (S56)))) = some r := H
  have A2 := Aside0.mk A20
  clear A20
  by_cases c3 : t101 = true
  · subst c3
    have H1 : ((impl_pieces.f k a0).bind fun t102 => (some t102)) = some r := by rw [if_pos rfl] at H; exact H
    clear H
    have H := H1
    clear H1
    replace H := Option.bind_eq_some_iff.mp H
    obtain ⟨t102, A40, H⟩ := H
    replace H : (some t102) = some r := H
    have A4 := Aside0.mk A40
    clear A40
    obtain rfl := Option.some.inj H
    go_enter Tryd.func36, Tryd.ntmps36
    go_wp2_with (first | ((with_reducible refine gate_callee (f := 24) rfl ?_); refine goesL_ (some 4) rfl rfl Tryd.func24 (by kernel_rfl) rfl #[.string a0] rfl (by (try simp only [List.map_toArray, List.map_cons, List.map_nil]); first | done | rfl | (simp only [List.length_drop, List.length_take]; rfl)) ?_; (with_reducible refine (impl_TextOk.calls a0 true _ A2.out).mono ?_); rintro e w5 ⟨rfl, hb⟩; refine ⟨_, rfl, ?_⟩; have n0_ := Aside0.mk (below_step (by repeat (first | (with_reducible first | exact HB.out | apply below_alloc | apply pw_below_drewN | apply below_drew1) | exact HB.out)) hb); clear HB; have HB := n0_; clear n0_; (try clear hb); (try clear hb2); (try clear hk); (try clear hi)) | ((with_reducible refine gate_callee (f := 45) rfl ?_); refine goesL_ (some 7) rfl rfl Tryd.func45 (by kernel_rfl) rfl #[.string a0] rfl (by (try simp only [List.map_toArray, List.map_cons, List.map_nil]); first | done | rfl | (simp only [List.length_drop, List.length_take]; rfl)) ?_; (with_reducible refine (impl_pieces.calls k a0 t102 _ ?side1 A4.out).mono ?_); (case side1 => exact hV.next (by repeat (first | (with_reducible first | exact HB.out | apply below_alloc | apply pw_below_drewN | apply below_drew1) | exact HB.out))); rintro e w6 ⟨v103, rfl, ho0, hb⟩; refine ⟨_, rfl, ?_⟩; have n0_ := Aside0.mk (Kd.V_lower (Kd.V_mono (ok' := fun k_ => (w.heap.size ≤ k_)) ho0 (fun k_ hk_ => (Nat.le_trans (below_size (by repeat (first | (with_reducible first | exact HB.out | apply below_alloc | apply pw_below_drewN | apply below_drew1) | exact HB.out))) hk_))) (below_size (by repeat (first | (with_reducible first | exact HB.out | apply below_alloc | apply pw_below_drewN | apply below_drew1) | exact HB.out)))); have n1_ := Aside0.mk (below_step (by repeat (first | (with_reducible first | exact HB.out | apply below_alloc | apply pw_below_drewN | apply below_drew1) | exact HB.out)) hb); clear HB; have HO104 := n0_; have HB := n1_; clear n0_ n1_; (try clear hb); (try clear hb2); (try clear hk); (try clear hi); (try clear ho0)))
    go_ret
    exact ⟨_, by first | rfl | (simp [errW_none, errW_some] <;> rfl) | (simp [*, errW_none, errW_some] <;> rfl), by (with_reducible repeat (first | apply Kd.V_alloc | apply Kd.V_drewN | apply Kd.V_drew)); exact HO104.out, by repeat (first | (with_reducible first | exact HB.out | apply below_alloc | apply pw_below_drewN | apply below_drew1) | exact HB.out)⟩
  · replace c3 := Bool.eq_false_iff.mpr c3
    subst c3
    have H1 : (some ([] : List (S56))) = some r := by rw [if_neg (show ¬ (false = true) by decide)] at H; exact H
    clear H
    have H := H1
    clear H1
    obtain rfl := Option.some.inj H
    go_enter Tryd.func36, Tryd.ntmps36
    go_wp2_with (first | ((with_reducible refine gate_callee (f := 24) rfl ?_); refine goesL_ (some 4) rfl rfl Tryd.func24 (by kernel_rfl) rfl #[.string a0] rfl (by (try simp only [List.map_toArray, List.map_cons, List.map_nil]); first | done | rfl | (simp only [List.length_drop, List.length_take]; rfl)) ?_; (with_reducible refine (impl_TextOk.calls a0 false _ A2.out).mono ?_); rintro e w7 ⟨rfl, hb⟩; refine ⟨_, rfl, ?_⟩; have n0_ := Aside0.mk (below_step (by repeat (first | (with_reducible first | exact HB.out | apply below_alloc | apply pw_below_drewN | apply below_drew1) | exact HB.out)) hb); clear HB; have HB := n0_; clear n0_; (try clear hb); (try clear hb2); (try clear hk); (try clear hi)))
    go_ret
    exact ⟨_, by first | rfl | (simp [errW_none, errW_some] <;> rfl) | (simp [*, errW_none, errW_some] <;> rfl), (by first | exact Kd.V_nil _ _ _ _ _ | exact Kd.R_V (Kd.R_nil _ _ _ _ _)), by repeat (first | (with_reducible first | exact HB.out | apply below_alloc | apply pw_below_drewN | apply below_drew1) | exact HB.out)⟩
end
end Go.Proofs.YtijompkonaiagaaDoor.Q
namespace Go.Proofs.YtijompkonaiagaaDoor.Q
open Go.RowKit Go.Proofs.YtijompkonaiagaaDoorW.PrintWords Go.Proofs.YtijompkonaiagaaDoorW.PrintLast Go.Proofs.YtijompkonaiagaaDoorW.PrintMore Go.Proofs.YtijompkonaiagaaDoor.Z
attribute [local go_sem] max2_int min2_int max_two min_two max_three min_three max_four min_four
set_option linter.unusedVariables false
set_option linter.unusedSimpArgs false
noncomputable section
def impl_TextNames.l0 : Nat → List (S24) → List (S56) → Int → Int → Option ((List (S24)))
  | 0, _, _, _, _ => none
  | k + 1, x3, x8, x9, x10 => if x10 < x9 then (if 0 ≤ x10 then (if x10 < (x8.length : Int) then (if (rd_T56 x8 x10).f1 = true then (if x3.length < 8796093022208 then (impl_TextNames.l0 k (x3 ++ [(⟨(rd_T56 x8 x10).f2.f0, (rd_T56 x8 x10).f2.f1⟩ : S24)]) x8 x9 (wrap64 (x10 + 1))) else (none)) else (impl_TextNames.l0 k x3 x8 x9 (wrap64 (x10 + 1)))) else (none)) else (none)) else ((slices_Clip_End.f x3).bind fun t112 => (some t112))
def impl_TextNames.f (k : Nat) (a0 : ByteArray) : Option ((List (S24))) := (impl_TextPieces.f k a0).bind fun t104 => (impl_TextNames.l0 k (([] : List (S24))) t104 (t104.length : Int) 0)
set_option maxHeartbeats 8000000 in
set_option maxRecDepth 100000 in
theorem impl_TextNames.calls (k : Nat) (a0 : ByteArray) (r : List (S24)) (w : World) (hV : VarsIn w) (h : impl_TextNames.f k a0 = some r) :
    Calls Tryd.prog 21 #[.string a0] w fun e w' => ∃ v0_ : Value, e = .returned (v0_) ∧ Kd.V k24 24 w' w.heap.size (fun k_ => (w.heap.size ≤ k_)) v0_ r ∧ Below w.heap.size w w' := by
  have hu56 := Tryd.underlying56
  have hu24 := Tryd.underlying24
  have HB := Aside0.mk (Below.refl w.heap.size w)
  have H : ((impl_TextPieces.f k a0).bind fun t104 => (impl_TextNames.l0 k (([] : List (S24))) t104 (t104.length : Int) 0)) = some r := h
  clear h
  obtain ⟨y101, hy101⟩ : ∃ y_ : List (S24), y_ = (([] : List (S24))) := ⟨_, rfl⟩
  replace H : ((impl_TextPieces.f k a0).bind fun t104 => (impl_TextNames.l0 k y101 t104 (t104.length : Int) 0)) = some r := by first | (rw [hy101]; with_reducible exact H) | (have H2_ := (Option.bind_some _ _).symm.trans H; rw [hy101]; with_reducible exact H2_) | (have H2_ := (Option.bind_some _ _).symm.trans H; with_reducible exact H2_) | with_reducible exact H | (rw [hy101]; exact H) | exact H
  have Ny101 := Aside0.mk hy101
  clear hy101
  replace H := Option.bind_eq_some_iff.mp H
  obtain ⟨t104, A20, H⟩ := H
  replace H : (impl_TextNames.l0 k y101 t104 (t104.length : Int) 0) = some r := H
  have A2 := Aside0.mk A20
  clear A20
  have H' := Aside0.mk H
  clear H
  go_enter Tryd.func21, Tryd.ntmps21
  go_wp2_with (first | ((with_reducible refine gate_dst (N := 6) rfl ?_); refine Kd.R_lit k24 _ 24 ?hg (N := 6) ?hd (xs := ([] : List (S24))) (inner := []) (ok := fun _ => True) (okp := fun _ => True) ?hr ?hp (fun _ hk => hk) trivial (Below.refl _ _) (Nat.le_refl _) (by simp) ?_; (case hd => rfl); (case hg => rfl); (case hr => first | (go_simp; done) | (go_simp; rfl)); (case hp => exact (Reps.none _ _)); intro v102 w3 ho4 hb hg_ hnew_; clear hg_ hnew_; (first | rw [← Ny101.out] at ho4 | (simp only [Int.reduceToNat] at ho4; rw [← Ny101.out] at ho4)); have n0_ := Aside0.mk (Kd.R_lower (Kd.R_newM (M := fun k_ => (w.heap.size ≤ k_)) ho4 (below_size (by repeat (first | (with_reducible first | exact HB.out | apply below_alloc | apply pw_below_drewN | apply below_drew1) | exact HB.out))) (fun k_ h_ => h_)) (below_size (by repeat (first | (with_reducible first | exact HB.out | apply below_alloc | apply pw_below_drewN | apply below_drew1) | exact HB.out)))); have n1_ := Aside0.mk (below_step (by repeat (first | (with_reducible first | exact HB.out | apply below_alloc | apply pw_below_drewN | apply below_drew1) | exact HB.out)) hb); clear HB; have HO103 := n0_; have HB := n1_; clear n0_ n1_; clear hb ho4) | ((with_reducible refine gate_callee (f := 36) rfl ?_); refine goesL_ (some 8) rfl rfl Tryd.func36 (by kernel_rfl) rfl #[.string a0] rfl (by (try simp only [List.map_toArray, List.map_cons, List.map_nil]); first | done | rfl | (simp only [List.length_drop, List.length_take]; rfl)) ?_; (with_reducible refine (impl_TextPieces.calls k a0 t104 _ ?side1 A2.out).mono ?_); (case side1 => exact hV.next (by repeat (first | (with_reducible first | exact HB.out | apply below_alloc | apply pw_below_drewN | apply below_drew1) | exact HB.out))); rintro e w5 ⟨v105, rfl, ho0, hb⟩; refine ⟨_, rfl, ?_⟩; have n0_ := Aside0.mk (Kd.R_below (by (with_reducible repeat (first | apply Kd.R_alloc | apply Kd.R_drewN | apply Kd.R_drew)); exact HO103.out) hb); have n1_ := Aside0.mk (Kd.V_lower (Kd.V_mono (ok' := fun k_ => (w.heap.size ≤ k_) ∧ some k_ ≠ (v102 : Value).ownBlock) ho0 (fun k_ hk_ => ⟨(Nat.le_trans (below_size (by repeat (first | (with_reducible first | exact HB.out | apply below_alloc | apply pw_below_drewN | apply below_drew1) | exact HB.out))) hk_), (Kd.fresh' (Kd.R_lt (by (with_reducible repeat (first | apply Kd.R_alloc | apply Kd.R_drewN | apply Kd.R_drew)); exact HO103.out)) k_ hk_)⟩)) (below_size (by repeat (first | (with_reducible first | exact HB.out | apply below_alloc | apply pw_below_drewN | apply below_drew1) | exact HB.out)))); have n2_ := Aside0.mk (below_step (by repeat (first | (with_reducible first | exact HB.out | apply below_alloc | apply pw_below_drewN | apply below_drew1) | exact HB.out)) hb); clear HO103; clear HB; have HO103 := n0_; have HO106 := n1_; have HB := n2_; clear n0_ n1_ n2_; (try clear hb); (try clear hb2); (try clear hk); (try clear hi); (try clear ho0); obtain ⟨Ao6, co6, eo6⟩ := Kd.V_slice HO106.out; subst eo6))
  go_loopg [3, 10] k (fun kq v3 v10 w' => ∃ (x3_1 : List (S24)) (x10_1 : Int), v10 = .int .i64 x10_1 ∧ Aside0 (impl_TextNames.l0 kq x3_1 t104 (t104.length : Int) x10_1 = some r) ∧ Aside0 (kq ≤ k) ∧ Aside0 (Kd.R k24 24 w' w.heap.size (fun k_ => (w.heap.size ≤ k_)) v3 x3_1) ∧ Aside0 (Kd.V k56 56 w' w.heap.size (fun k_ => (w.heap.size ≤ k_) ∧ some k_ ≠ (v3 : Value).ownBlock) (.slice Ao6 t104.length co6) t104) ∧ Aside0 (Below w.heap.size w w'))
  case atStart => exact ⟨(y101), (0), (by first | rfl | (simp; done) | (simp [*]; done)), H', ⟨Nat.le_refl _⟩, ⟨by (with_reducible repeat (first | apply Kd.R_alloc | apply Kd.R_drewN | apply Kd.R_drew)); exact Kd.R_mono HO103.out (fun _ hk => hk.1)⟩, ⟨by (with_reducible repeat (first | apply Kd.V_alloc | apply Kd.V_drewN | apply Kd.V_drew)); exact HO106.out⟩, ⟨by repeat (first | (with_reducible first | exact HB.out | apply below_alloc | apply pw_below_drewN | apply below_drew1) | exact HB.out)⟩⟩
  case round =>
    clear H'
    try clear c2
    try clear p2
    try clear c3
    obtain ⟨x3_1, x10_1, rfl, HA, HK1, HO_3, HO_8, HB⟩ := hrel
    cases gk with
    | zero => exact absurd HA.out (by simp [impl_TextNames.l0])
    | succ k1 =>
      have H := HA.out
      clear HA
      simp only [impl_TextNames.l0] at H
      by_cases c7 : x10_1 < (t104.length : Int)
      · rw [if_pos c7] at H
        have c7b0 : decide (x10_1 < (t104.length : Int)) = true := decide_eq_true c7
        clear c7
        by_cases c8 : 0 ≤ x10_1
        · rw [if_pos c8] at H
          have c8b0 : decide (0 ≤ x10_1) = true := decide_eq_true c8
          clear c8
          by_cases c9 : x10_1 < (t104.length : Int)
          · rw [if_pos c9] at H
            have c9b0 : decide (x10_1 < (t104.length : Int)) = true := decide_eq_true c9
            clear c9
            obtain ⟨bq10, hbq10⟩ : ∃ b_ : Bool, b_ = ((rd_T56 t104 x10_1).f1) := ⟨_, rfl⟩
            replace H : (if bq10 = true then (if x3_1.length < 8796093022208 then (impl_TextNames.l0 k1 (x3_1 ++ [(⟨(rd_T56 t104 x10_1).f2.f0, (rd_T56 t104 x10_1).f2.f1⟩ : S24)]) t104 (t104.length : Int) (wrap64 (x10_1 + 1))) else (none)) else (impl_TextNames.l0 k1 x3_1 t104 (t104.length : Int) (wrap64 (x10_1 + 1)))) = some r := by rw [← hbq10] at H; exact H
            have Nbq10 := Aside0.mk hbq10
            clear hbq10
            by_cases c11 : bq10 = true
            · subst c11
              have H1 : (if x3_1.length < 8796093022208 then (impl_TextNames.l0 k1 (x3_1 ++ [(⟨(rd_T56 t104 x10_1).f2.f0, (rd_T56 t104 x10_1).f2.f1⟩ : S24)]) t104 (t104.length : Int) (wrap64 (x10_1 + 1))) else (none)) = some r := by rw [if_pos rfl] at H; exact H
              clear H
              have H := H1
              clear H1
              by_cases c12 : x3_1.length < 8796093022208
              · rw [if_pos c12] at H
                have LMc12 := Aside0.mk c12
                clear c12
                obtain ⟨y109, hy109⟩ : ∃ y_ : List (S24), y_ = (x3_1 ++ [(⟨(rd_T56 t104 x10_1).f2.f0, (rd_T56 t104 x10_1).f2.f1⟩ : S24)]) := ⟨_, rfl⟩
                replace H : (impl_TextNames.l0 k1 y109 t104 (t104.length : Int) (wrap64 (x10_1 + 1))) = some r := by first | (rw [hy109]; with_reducible exact H) | (have H2_ := (Option.bind_some _ _).symm.trans H; rw [hy109]; with_reducible exact H2_) | (have H2_ := (Option.bind_some _ _).symm.trans H; with_reducible exact H2_) | with_reducible exact H | (rw [hy109]; exact H) | exact H
                have Ny109 := Aside0.mk hy109
                clear hy109
                have H' := Aside0.mk H
                clear H
                have p107 : 0 ≤ (x10_1 : Int) := of_decide_eq_true (by first | (with_reducible assumption) | assumption)
                have q107 : x10_1 < (t104.length : Int) := of_decide_eq_true (by first | (with_reducible assumption) | assumption)
                obtain ⟨ad107, e107, hx107_0, hx107_1, hx107_2, hx107_3⟩ := at_T56 (Kd.V_reads' HO_8.out).2.2 x10_1 p107 q107
                (try rw [← Nbq10.out] at hx107_1)
                cases e107
                replace p107 := eq_true p107
                replace q107 := eq_true q107
                go_wp2_with (first | ((with_reducible refine gate_dst (N := 5) rfl ?_); refine box_event ?hg (N := 5) ?hd (cs := #[.int .i64 0, .bool false, .int .i64 0, .int .i64 0]) (t := 56) ?hr ?_; (case hd => rfl); (case hg => rfl); (case hr => first | (go_simp; done) | (go_simp; rfl)); intro gb108 hg w13 hbox hb; have n0_ := Aside0.mk (Kd.R_below (by (with_reducible repeat (first | apply Kd.R_alloc | apply Kd.R_drewN | apply Kd.R_drew)); exact HO_3.out) hb); have n1_ := Aside0.mk (Kd.V_below (Kd.V_elderB (by (with_reducible repeat (first | apply Kd.V_alloc | apply Kd.V_drewN | apply Kd.V_drew)); exact HO_8.out) gb108 (Nat.le_of_eq hg.symm)) hb); have n2_ := Aside0.mk (below_step (by repeat (first | (with_reducible first | exact HB.out | apply below_alloc | apply pw_below_drewN | apply below_drew1) | exact HB.out)) hb); have n3_ := Aside0.mk (hbox); have n4_ := Aside0.mk ((by rw [hg]; exact (below_size (by repeat (first | (with_reducible first | exact HB.out | apply below_alloc | apply pw_below_drewN | apply below_drew1) | exact HB.out))) : w.heap.size ≤ gb108)); have n5_ := Aside0.mk ((by rw [hg]; exact (below_size (by repeat (first | (with_reducible first | exact HB.out | apply below_alloc | apply pw_below_drewN | apply below_drew1) | exact HB.out))) : w.heap.size ≤ gb108)); clear HO_3; clear HO_8; clear HB; have HO_3 := n0_; have HO_8 := n1_; have HB := n2_; have BK108 := n3_; have GW108 := n4_; have GE108 := n5_; clear n0_ n1_ n2_ n3_ n4_ n5_; clear hb hbox hg; have hcz14_0 : w13.cell? ⟨gb108, 0, none⟩ = some (.int .i64 0) := (blk_cell BK108.out 0).trans rfl; have hcz14_1 : w13.cell? ⟨gb108, 1, none⟩ = some (.bool false) := (blk_cell BK108.out 1).trans rfl; have hcz14_2 : w13.cell? ⟨gb108, 2, none⟩ = some (.int .i64 0) := (blk_cell BK108.out 2).trans rfl; have hcz14_3 : w13.cell? ⟨gb108, 3, none⟩ = some (.int .i64 0) := (blk_cell BK108.out 3).trans rfl; have hfz14_0 := blk_frozen BK108.out 0; have hfz14_1 := blk_frozen BK108.out 1; have hfz14_2 := blk_frozen BK108.out 2; have hfz14_3 := blk_frozen BK108.out 3) | ((with_reducible refine gate_builtin (b := .append) (xs := #[.tmp 16, .tmp 19]) rfl ?_); at_builtin; refine Kd.R_append k24 (w0 := w) w.heap.size rfl (.tmp 16) (.tmp 19) 43 24 (.agg #[(.int .i64 0), (.int .i64 0)]) 16 rfl Tryd.underlying43 info24 rfl (by decide) (by omega) u3 x3_1 (⟨(rd_T56 t104 x10_1).f2.f0, (rd_T56 t104 x10_1).f2.f1⟩ : S24) [.int .i64 ((rd_T56 t104 x10_1).f2.f0), .int .i64 ((rd_T56 t104 x10_1).f2.f1)] (fun k_ => (w.heap.size ≤ k_)) (fun _ => False) rfl (by first | (go_simp; done) | (go_simp; rfl)) ?aP (fun _ hk => hk.elim) ?aF ?aO ?aB ?aS ?aL ?_; (case aP => exact k24_mkM _ _ _ (⟨(rd_T56 t104 x10_1).f2.f0, (rd_T56 t104 x10_1).f2.f1⟩ : S24)); (case aB => exact (by repeat (first | (with_reducible first | exact HB.out | apply below_alloc | apply pw_below_drewN | apply below_drew1 | refine below_set ?_ GE108.out) | exact HB.out))); (case aF => exact (fun k_ hk => (Nat.le_trans (below_size (by repeat (first | (with_reducible first | exact HB.out | apply below_alloc | apply pw_below_drewN | apply below_drew1 | refine below_set ?_ GE108.out) | exact HB.out))) hk))); (case aO => exact (by (with_reducible repeat (first | apply Kd.R_alloc | apply Kd.R_drewN | apply Kd.R_drew)); exact Kd.R_mono (Kd.R_far (p := ⟨gb108, 3, none⟩) (Kd.R_far (p := ⟨gb108, 2, none⟩) (Kd.R_far (p := ⟨gb108, 1, none⟩) (Kd.R_far (p := ⟨gb108, 0, none⟩) (Kd.R_types HO_3.out BK108.out (by decide)) (fun _ hk => hk.2) (.int .i64 ((rd_T56 t104 x10_1).f0))) (fun _ hk => hk.2) (.bool true)) (fun _ hk => hk.2) (.int .i64 ((rd_T56 t104 x10_1).f2.f0))) (fun _ hk => hk.2) (.int .i64 ((rd_T56 t104 x10_1).f2.f1))) (fun _ hk => hk.1))); (case aS => exact (below_size (by repeat (first | (with_reducible first | exact HB.out | apply below_alloc | apply pw_below_drewN | apply below_drew1 | refine below_set ?_ GE108.out) | exact HB.out)))); (case aL => have := LMc12.out; omega); intro v110 w15 ho hb hg hat; rw [← Ny109.out] at ho; have n0_ := Aside0.mk (Kd.V_afterv (ok := (fun k_ => (w.heap.size ≤ k_) ∧ k_ ≠ gb108)) (by (with_reducible repeat (first | apply Kd.V_alloc | apply Kd.V_drewN | apply Kd.V_drew)); exact Kd.V_mono (Kd.V_far (p := ⟨gb108, 3, none⟩) (Kd.V_far (p := ⟨gb108, 2, none⟩) (Kd.V_far (p := ⟨gb108, 1, none⟩) (Kd.V_far (p := ⟨gb108, 0, none⟩) (Kd.V_mono HO_8.out (fun k_ hk => (⟨hk, hk.2⟩ : _ ∧ k_ ≠ gb108))) (fun _ hk => hk.2) (.int .i64 ((rd_T56 t104 x10_1).f0))) (fun _ hk => hk.2) (.bool true)) (fun _ hk => hk.2) (.int .i64 ((rd_T56 t104 x10_1).f2.f0))) (fun _ hk => hk.2) (.int .i64 ((rd_T56 t104 x10_1).f2.f1))) (fun _ hk => ⟨⟨hk.1.1.1, hk.1.2⟩, hk.1.1.2⟩)) hg hat); have n1_ := Aside0.mk (blk_grown (g := gb108) (o := .cells #[.int .i64 ((rd_T56 t104 x10_1).f0), .bool true, .int .i64 ((rd_T56 t104 x10_1).f2.f0), .int .i64 ((rd_T56 t104 x10_1).f2.f1)] 56 (0, 0)) (by (with_reducible repeat (first | refine blk_drewN ?_ _ | refine blk_drew ?_ | refine blk_alloc ?_ _)); refine blk_put (cs := #[.int .i64 ((rd_T56 t104 x10_1).f0), .bool true, .int .i64 ((rd_T56 t104 x10_1).f2.f0), .int .i64 0]) ?_ 3 _ rfl; (with_reducible repeat (first | refine blk_drewN ?_ _ | refine blk_drew ?_ | refine blk_alloc ?_ _)); refine blk_put (cs := #[.int .i64 ((rd_T56 t104 x10_1).f0), .bool true, .int .i64 0, .int .i64 0]) ?_ 2 _ rfl; (with_reducible repeat (first | refine blk_drewN ?_ _ | refine blk_drew ?_ | refine blk_alloc ?_ _)); refine blk_put (cs := #[.int .i64 ((rd_T56 t104 x10_1).f0), .bool false, .int .i64 0, .int .i64 0]) ?_ 1 _ rfl; (with_reducible repeat (first | refine blk_drewN ?_ _ | refine blk_drew ?_ | refine blk_alloc ?_ _)); refine blk_put (cs := #[.int .i64 0, .bool false, .int .i64 0, .int .i64 0]) ?_ 0 _ rfl; (with_reducible repeat (first | refine blk_drewN ?_ _ | refine blk_drew ?_ | refine blk_alloc ?_ _)); exact BK108.out) hg (Kd.R_ne HO_3.out BK108.out (by decide))); have n2_ := Aside0.mk (hb); have n3_ := Aside0.mk (ho); clear HO_8; clear BK108; clear HB; clear HO_3; have HO_8 := n0_; have BK108 := n1_; have HB := n2_; have HO111 := n3_; clear n0_ n1_ n2_ n3_; clear ho hb hg hat))
                go_roundg k1
                case measure => have := HK1.out; omega
                case rel => exact ⟨(y109), (wrap64 (x10_1 + 1)), (by first | rfl | (simp; done) | (simp [*]; done)), H', ⟨by have := HK1.out; omega⟩, ⟨by (with_reducible repeat (first | apply Kd.R_alloc | apply Kd.R_drewN | apply Kd.R_drew)); exact HO111.out⟩, ⟨by (with_reducible repeat (first | apply Kd.V_alloc | apply Kd.V_drewN | apply Kd.V_drew)); exact Kd.V_mono HO_8.out (fun _ hk => ⟨hk.1.1, hk.2⟩)⟩, ⟨by repeat (first | (with_reducible first | exact HB.out | apply below_alloc | apply pw_below_drewN | apply below_drew1 | refine below_set ?_ GE108.out) | exact HB.out)⟩⟩
              · rw [if_neg c12] at H
                exact absurd H (by simp)
            · replace c11 := Bool.eq_false_iff.mpr c11
              subst c11
              have H1 : (impl_TextNames.l0 k1 x3_1 t104 (t104.length : Int) (wrap64 (x10_1 + 1))) = some r := by rw [if_neg (show ¬ (false = true) by decide)] at H; exact H
              clear H
              have H := H1
              clear H1
              have H' := Aside0.mk H
              clear H
              have p107 : 0 ≤ (x10_1 : Int) := of_decide_eq_true (by first | (with_reducible assumption) | assumption)
              have q107 : x10_1 < (t104.length : Int) := of_decide_eq_true (by first | (with_reducible assumption) | assumption)
              obtain ⟨ad107, e107, hx107_0, hx107_1, hx107_2, hx107_3⟩ := at_T56 (Kd.V_reads' HO_8.out).2.2 x10_1 p107 q107
              (try rw [← Nbq10.out] at hx107_1)
              cases e107
              replace p107 := eq_true p107
              replace q107 := eq_true q107
              go_wp2_with (first | ((with_reducible refine gate_dst (N := 5) rfl ?_); refine box_event ?hg (N := 5) ?hd (cs := #[.int .i64 0, .bool false, .int .i64 0, .int .i64 0]) (t := 56) ?hr ?_; (case hd => rfl); (case hg => rfl); (case hr => first | (go_simp; done) | (go_simp; rfl)); intro gb108 hg w16 hbox hb; have n0_ := Aside0.mk (Kd.R_below (by (with_reducible repeat (first | apply Kd.R_alloc | apply Kd.R_drewN | apply Kd.R_drew)); exact HO_3.out) hb); have n1_ := Aside0.mk (Kd.V_below (Kd.V_elderB (by (with_reducible repeat (first | apply Kd.V_alloc | apply Kd.V_drewN | apply Kd.V_drew)); exact HO_8.out) gb108 (Nat.le_of_eq hg.symm)) hb); have n2_ := Aside0.mk (below_step (by repeat (first | (with_reducible first | exact HB.out | apply below_alloc | apply pw_below_drewN | apply below_drew1) | exact HB.out)) hb); have n3_ := Aside0.mk (hbox); have n4_ := Aside0.mk ((by rw [hg]; exact (below_size (by repeat (first | (with_reducible first | exact HB.out | apply below_alloc | apply pw_below_drewN | apply below_drew1) | exact HB.out))) : w.heap.size ≤ gb108)); have n5_ := Aside0.mk ((by rw [hg]; exact (below_size (by repeat (first | (with_reducible first | exact HB.out | apply below_alloc | apply pw_below_drewN | apply below_drew1) | exact HB.out))) : w.heap.size ≤ gb108)); clear HO_3; clear HO_8; clear HB; have HO_3 := n0_; have HO_8 := n1_; have HB := n2_; have BK108 := n3_; have GW108 := n4_; have GE108 := n5_; clear n0_ n1_ n2_ n3_ n4_ n5_; clear hb hbox hg; have hcz17_0 : w16.cell? ⟨gb108, 0, none⟩ = some (.int .i64 0) := (blk_cell BK108.out 0).trans rfl; have hcz17_1 : w16.cell? ⟨gb108, 1, none⟩ = some (.bool false) := (blk_cell BK108.out 1).trans rfl; have hcz17_2 : w16.cell? ⟨gb108, 2, none⟩ = some (.int .i64 0) := (blk_cell BK108.out 2).trans rfl; have hcz17_3 : w16.cell? ⟨gb108, 3, none⟩ = some (.int .i64 0) := (blk_cell BK108.out 3).trans rfl; have hfz17_0 := blk_frozen BK108.out 0; have hfz17_1 := blk_frozen BK108.out 1; have hfz17_2 := blk_frozen BK108.out 2; have hfz17_3 := blk_frozen BK108.out 3))
              go_roundg k1
              case measure => have := HK1.out; omega
              case rel => exact ⟨(x3_1), (wrap64 (x10_1 + 1)), (by first | rfl | (simp; done) | (simp [*]; done)), H', ⟨by have := HK1.out; omega⟩, ⟨by (with_reducible repeat (first | apply Kd.R_alloc | apply Kd.R_drewN | apply Kd.R_drew)); exact Kd.R_mono (Kd.R_far (p := ⟨gb108, 3, none⟩) (Kd.R_far (p := ⟨gb108, 2, none⟩) (Kd.R_far (p := ⟨gb108, 1, none⟩) (Kd.R_far (p := ⟨gb108, 0, none⟩) (Kd.R_types HO_3.out BK108.out (by decide)) (fun _ hk => hk.2) (.int .i64 ((rd_T56 t104 x10_1).f0))) (fun _ hk => hk.2) (.bool false)) (fun _ hk => hk.2) (.int .i64 ((rd_T56 t104 x10_1).f2.f0))) (fun _ hk => hk.2) (.int .i64 ((rd_T56 t104 x10_1).f2.f1))) (fun _ hk => hk.1)⟩, ⟨by (with_reducible repeat (first | apply Kd.V_alloc | apply Kd.V_drewN | apply Kd.V_drew)); exact Kd.V_mono (Kd.V_far (p := ⟨gb108, 3, none⟩) (Kd.V_far (p := ⟨gb108, 2, none⟩) (Kd.V_far (p := ⟨gb108, 1, none⟩) (Kd.V_far (p := ⟨gb108, 0, none⟩) (Kd.V_mono HO_8.out (fun k_ hk => (⟨hk, hk.2⟩ : _ ∧ k_ ≠ gb108))) (fun _ hk => hk.2) (.int .i64 ((rd_T56 t104 x10_1).f0))) (fun _ hk => hk.2) (.bool false)) (fun _ hk => hk.2) (.int .i64 ((rd_T56 t104 x10_1).f2.f0))) (fun _ hk => hk.2) (.int .i64 ((rd_T56 t104 x10_1).f2.f1))) (fun _ hk => ⟨hk.1.1.1, hk.1.1.2⟩)⟩, ⟨by repeat (first | (with_reducible first | exact HB.out | apply below_alloc | apply pw_below_drewN | apply below_drew1 | refine below_set ?_ GE108.out) | exact HB.out)⟩⟩
          · rw [if_neg c9] at H
            exact absurd H (by simp)
        · rw [if_neg c8] at H
          exact absurd H (by simp)
      · rw [if_neg c7] at H
        have c7b0 : decide (x10_1 < (t104.length : Int)) = false := decide_eq_false c7
        clear c7
        replace H := Option.bind_eq_some_iff.mp H
        obtain ⟨t112, A180, H⟩ := H
        replace H : (some t112) = some r := H
        have A18 := Aside0.mk A180
        clear A180
        obtain rfl := Option.some.inj H
        obtain ⟨Ao19, co19, eo19⟩ := Kd.R_slice HO_3.out
        subst eo19
        go_wp2_with (first | ((with_reducible refine gate_callee (f := 37) rfl ?_); refine goesL_ (some 23) rfl rfl Tryd.func37 (by kernel_rfl) rfl #[.slice Ao19 x3_1.length co19] rfl (by (try simp only [List.map_toArray, List.map_cons, List.map_nil]); first | done | rfl | (simp only [List.length_drop, List.length_take]; rfl)) ?_; (with_reducible refine (slices_Clip_End.calls (fun k_ => some k_ = (.slice Ao19 x3_1.length co19 : Value).ownBlock) _ _ x3_1 t112 _ ?side1 A18.out).mono ?_); (case side1 => exact Kd.R_V (Kd.R_tight rfl (HO_3.out))); rintro e w20 ⟨v113, rfl, ho0, hb⟩; refine ⟨_, rfl, ?_⟩; have n0_ := Aside0.mk (Kd.R_below (by (with_reducible repeat (first | apply Kd.R_alloc | apply Kd.R_drewN | apply Kd.R_drew)); exact HO_3.out) hb); have n1_ := Aside0.mk (Kd.V_below (by (with_reducible repeat (first | apply Kd.V_alloc | apply Kd.V_drewN | apply Kd.V_drew)); exact HO_8.out) hb); have n2_ := Aside0.mk (Kd.V_lower (Kd.V_mono (ok' := fun k_ => (w.heap.size ≤ k_)) ho0 (fun k_ hk_ => Or.elim hk_ (fun hs_ => ((HO_3.out).1 k_ hs_.symm)) (fun hn_ => (Nat.le_trans (below_size (by repeat (first | (with_reducible first | exact HB.out | apply below_alloc | apply pw_below_drewN | apply below_drew1) | exact HB.out))) hn_)))) (below_size (by repeat (first | (with_reducible first | exact HB.out | apply below_alloc | apply pw_below_drewN | apply below_drew1) | exact HB.out)))); have n3_ := Aside0.mk (below_step (by repeat (first | (with_reducible first | exact HB.out | apply below_alloc | apply pw_below_drewN | apply below_drew1) | exact HB.out)) hb); clear HO_3; clear HO_8; clear HB; have HO_3 := n0_; have HO_8 := n1_; have HO114 := n2_; have HB := n3_; clear n0_ n1_ n2_ n3_; (try clear hb); (try clear hb2); (try clear hk); (try clear hi); (try clear ho0)))
        go_ret
        exact ⟨_, by first | rfl | (simp [errW_none, errW_some] <;> rfl) | (simp [*, errW_none, errW_some] <;> rfl), by (with_reducible repeat (first | apply Kd.V_alloc | apply Kd.V_drewN | apply Kd.V_drew)); exact HO114.out, by repeat (first | (with_reducible first | exact HB.out | apply below_alloc | apply pw_below_drewN | apply below_drew1) | exact HB.out)⟩
end
end Go.Proofs.YtijompkonaiagaaDoor.Q
namespace Go.Proofs.YtijompkonaiagaaDoor.Q
open Go.RowKit Go.Proofs.YtijompkonaiagaaDoorW.PrintWords Go.Proofs.YtijompkonaiagaaDoorW.PrintMore Go.Proofs.YtijompkonaiagaaDoor.Z
set_option linter.unusedVariables false
set_option linter.unusedSimpArgs false
def pieces (l : List UInt8) : List Pc := if textOk l then pcL (body l) else []
theorem impl_TextPieces_to (k : Nat) (hk : 2000 < k) (l : List UInt8) (hl : l.length ≤ 140737488355328) : impl_TextPieces.f k (mkB l) = some ((pieces l).map pcTo) := by
  unfold impl_TextPieces.f impl_TextOk.f pieces
  rw [size_mkB, if_pos hl, bl_of, Option.bind_some]
  cases h2 : textOk l
  · simp
  · have hl2 := textOk_len h2
    rw [if_pos rfl, if_pos rfl, impl_pieces_to k l (by omega) (by omega)]
    rfl
def enTo (e : En) : S24 := ⟨e.addr, e.port⟩
def names (ps : List Pc) : List En := (ps.filter (·.named)).map (·.fin)
theorem names_cons (p : Pc) (ps : List Pc) : names (p :: ps) = (if p.named then [p.fin] else []) ++ names ps := by
  unfold names
  rw [List.filter_cons]
  cases p.named <;> simp
theorem names_l0 (ps : List Pc) (hps : ps.length ≤ 1000) (n : Nat) : ∀ (k : Nat) (acc : List S24) (i : Nat), ps.length - i ≤ n → n < k → i ≤ ps.length → acc.length ≤ i →
    impl_TextNames.l0 k acc (ps.map pcTo) ps.length i = some (acc ++ (names (ps.drop i)).map enTo) := by
  induction n with
  | zero =>
    intro k acc i hn hk hi ha
    obtain ⟨k, rfl⟩ : ∃ m, k = m + 1 := ⟨k - 1, by omega⟩
    simp only [impl_TextNames.l0]
    rw [if_neg (by omega), List.drop_of_length_le (by omega)]
    simp [names, slices_Clip_End.f]
  | succ n ih =>
    intro k acc i hn hk hi ha
    obtain ⟨k, rfl⟩ : ∃ m, k = m + 1 := ⟨k - 1, by omega⟩
    simp only [impl_TextNames.l0]
    by_cases hlt : i < ps.length
    · obtain ⟨p, hp⟩ : ∃ p, ps[i]? = some p := ⟨_, List.getElem?_eq_getElem hlt⟩
      have q0 : (i : Int) < (ps.length : Int) := by omega
      have q1 : (0 : Int) ≤ (i : Int) := by omega
      have q2 : acc.length < 8796093022208 := by omega
      have ih1 := ih k (acc ++ [enTo p.fin]) (i + 1) (by omega) (by omega) (by omega) (by rw [List.length_append, List.length_singleton]; omega)
      have ih2 := ih k acc (i + 1) (by omega) (by omega) (by omega) (by omega)
      have hw3 : wrap64 ((i : Int) + 1) = ((i + 1 : Nat) : Int) := by rw [w64 (by omega)]; omega
      have hr := rd_pc ps i p hp
      have hf1 : (rd_T56 (ps.map pcTo) (i : Int)).f1 = p.named := by rw [hr]; rfl
      have hf2 : (rd_T56 (ps.map pcTo) (i : Int)).f2.f0 = p.fin.addr := by rw [hr]; rfl
      have hf3 : (rd_T56 (ps.map pcTo) (i : Int)).f2.f1 = p.fin.port := by rw [hr]; rfl
      simp only [hf1, hf2, hf3, hw3, List.length_map, q0, q1, q2, if_true]
      rw [drop_of hp, names_cons]
      cases hn : p.named
      · rw [if_neg (by simp)]
        exact ih2
      · rw [if_pos rfl]
        refine ih1.trans ?_
        simp [enTo]
    · rw [if_neg (by omega), List.drop_of_length_le (by omega)]
      simp [names, slices_Clip_End.f]
theorem pieces_len (l : List UInt8) : (pieces l).length ≤ 40 := by
  unfold pieces
  split
  · rename_i h
    have h1 := textOk_len h
    have hp := pcL_len (body l).length (body l) (Nat.le_refl _)
    have hb := body_len l
    omega
  · simp
theorem impl_TextNames_to (k : Nat) (hk : 2000 < k) (l : List UInt8) (hl : l.length ≤ 140737488355328) : impl_TextNames.f k (mkB l) = some ((names (pieces l)).map enTo) := by
  have h := pieces_len l
  unfold impl_TextNames.f
  rw [impl_TextPieces_to k hk l hl, Option.bind_some, List.length_map]
  have := names_l0 (pieces l) (by omega) 1000 k [] 0 (by omega) (by omega) (by omega) (by simp)
  rw [List.drop_zero, List.nil_append] at this
  exact this
end Go.Proofs.YtijompkonaiagaaDoor.Q
namespace Go.Proofs.YtijompkonaiagaaDoor.Q
open Go.RowKit Go.Proofs.YtijompkonaiagaaDoorW.PrintWords Go.Proofs.YtijompkonaiagaaDoorW.PrintLast Go.Proofs.YtijompkonaiagaaDoorW.PrintMore
attribute [local go_sem] max2_int min2_int max_two min_two max_three min_three max_four min_four
set_option linter.unusedVariables false
set_option linter.unusedSimpArgs false
noncomputable section
def impl_saying.f (a0 : ByteArray) : Option (Bool) := if (a0.size : Int) ≤ 24 then ((impl_TextOk.f a0).bind fun t101 => (if t101 = true then ((impl_held.f a0).bind fun t102 => (some (t102 == 0))) else (some false))) else (some false)
set_option maxHeartbeats 8000000 in
set_option maxRecDepth 100000 in
theorem impl_saying.calls (a0 : ByteArray) (r : Bool) (w : World) (h : impl_saying.f a0 = some r) :
    Calls Tryd.prog 19 #[.string a0] w fun e w' => e = .returned (.bool r) ∧ Below w.heap.size w w' := by
  have HB := Aside0.mk (Below.refl w.heap.size w)
  have H : (if (a0.size : Int) ≤ 24 then ((impl_TextOk.f a0).bind fun t101 => (if t101 = true then ((impl_held.f a0).bind fun t102 => (some (t102 == 0))) else (some false))) else (some false)) = some r := h
  clear h
  by_cases c2 : (a0.size : Int) ≤ 24
  · rw [if_pos c2] at H
    have c2b0 : decide ((a0.size : Int) ≤ 24) = true := decide_eq_true c2
    have c2b1 : decide (a0.size ≤ 24) = true := decide_eq_true (by omega)
    clear c2
    replace H := Option.bind_eq_some_iff.mp H
    obtain ⟨t101, A30, H⟩ := H
    replace H : (if t101 = true then ((impl_held.f a0).bind fun t102 => (some (t102 == 0))) else (some false)) = some r := H
    have A3 := Aside0.mk A30
    clear A30
    by_cases c4 : t101 = true
    · subst c4
      have H1 : ((impl_held.f a0).bind fun t102 => (some (t102 == 0))) = some r := by rw [if_pos rfl] at H; exact H
      clear H
      have H := H1
      clear H1
      replace H := Option.bind_eq_some_iff.mp H
      obtain ⟨t102, A50, H⟩ := H
      replace H : (some (t102 == 0)) = some r := H
      have A5 := Aside0.mk A50
      clear A50
      obtain rfl := Option.some.inj H
      go_enter Tryd.func19, Tryd.ntmps19
      go_wp2_with (first | (go_at_call 24; (with_reducible refine (impl_TextOk.calls a0 true _ A3.out).mono ?_); rintro e w6 ⟨rfl, hb⟩; have n0_ := Aside0.mk (below_step (by repeat (first | (with_reducible first | exact HB.out | apply below_alloc | apply pw_below_drewN | apply below_drew1) | exact HB.out)) hb); clear HB; have HB := n0_; clear n0_; (try clear hb); (try clear hb2); (try clear hk); (try clear hi)) | (go_at_call 34; (with_reducible refine (impl_held.calls a0 t102 _ A5.out).mono ?_); rintro e w7 ⟨rfl, hb⟩; have n0_ := Aside0.mk (below_step (by repeat (first | (with_reducible first | exact HB.out | apply below_alloc | apply pw_below_drewN | apply below_drew1) | exact HB.out)) hb); clear HB; have HB := n0_; clear n0_; (try clear hb); (try clear hb2); (try clear hk); (try clear hi)))
      go_ret
      exact ⟨by first | rfl | (simp [errW_none, errW_some] <;> rfl) | (simp [*, errW_none, errW_some] <;> rfl), by repeat (first | (with_reducible first | exact HB.out | apply below_alloc | apply pw_below_drewN | apply below_drew1) | exact HB.out)⟩
    · replace c4 := Bool.eq_false_iff.mpr c4
      subst c4
      have H1 : (some false) = some r := by rw [if_neg (show ¬ (false = true) by decide)] at H; exact H
      clear H
      have H := H1
      clear H1
      obtain rfl := Option.some.inj H
      go_enter Tryd.func19, Tryd.ntmps19
      go_wp2_with (first | (go_at_call 24; (with_reducible refine (impl_TextOk.calls a0 false _ A3.out).mono ?_); rintro e w8 ⟨rfl, hb⟩; have n0_ := Aside0.mk (below_step (by repeat (first | (with_reducible first | exact HB.out | apply below_alloc | apply pw_below_drewN | apply below_drew1) | exact HB.out)) hb); clear HB; have HB := n0_; clear n0_; (try clear hb); (try clear hb2); (try clear hk); (try clear hi)))
      go_ret
      exact ⟨by first | rfl | (simp [errW_none, errW_some] <;> rfl) | (simp [*, errW_none, errW_some] <;> rfl), by repeat (first | (with_reducible first | exact HB.out | apply below_alloc | apply pw_below_drewN | apply below_drew1) | exact HB.out)⟩
  · rw [if_neg c2] at H
    have c2b0 : decide ((a0.size : Int) ≤ 24) = false := decide_eq_false c2
    have c2b1 : decide (a0.size ≤ 24) = false := decide_eq_false (by omega)
    clear c2
    obtain rfl := Option.some.inj H
    go_enter Tryd.func19, Tryd.ntmps19
    go_wp2
    go_ret
    exact ⟨by first | rfl | (simp [errW_none, errW_some] <;> rfl) | (simp [*, errW_none, errW_some] <;> rfl), by repeat (first | (with_reducible first | exact HB.out | apply below_alloc | apply pw_below_drewN | apply below_drew1) | exact HB.out)⟩
end
end Go.Proofs.YtijompkonaiagaaDoor.Q
namespace Go.Proofs.YtijompkonaiagaaDoor.Q
open Go.RowKit Go.Proofs.YtijompkonaiagaaDoorW.PrintWords Go.Proofs.YtijompkonaiagaaDoorW.PrintLast Go.Proofs.YtijompkonaiagaaDoorW.PrintMore
attribute [local go_sem] max2_int min2_int max_two min_two max_three min_three max_four min_four
set_option linter.unusedVariables false
set_option linter.unusedSimpArgs false
noncomputable section
def spec_l21Whole.f (a0 : ByteArray) : Option (Bool) := (spec_TextOk.f a0).bind fun t101 => (if t101 = true then (if (a0.size : Int) ≤ 24 then ((spec_l2Held.f a0).bind fun t102 => (some (t102 == 0))) else (some false)) else (some false))
set_option maxHeartbeats 8000000 in
set_option maxRecDepth 100000 in
theorem spec_l21Whole.calls (a0 : ByteArray) (r : Bool) (w : World) (h : spec_l21Whole.f a0 = some r) :
    Calls Tryd.prog 15 #[.string a0] w fun e w' => e = .returned (.bool r) ∧ Below w.heap.size w w' := by
  have HB := Aside0.mk (Below.refl w.heap.size w)
  have H : ((spec_TextOk.f a0).bind fun t101 => (if t101 = true then (if (a0.size : Int) ≤ 24 then ((spec_l2Held.f a0).bind fun t102 => (some (t102 == 0))) else (some false)) else (some false))) = some r := h
  clear h
  replace H := Option.bind_eq_some_iff.mp H
  obtain ⟨t101, A20, H⟩ := H
  replace H : (if t101 = true then (if (a0.size : Int) ≤ 24 then ((spec_l2Held.f a0).bind fun t102 => (some (t102 == 0))) else (some false)) else (some false)) = some r := H
  have A2 := Aside0.mk A20
  clear A20
  by_cases c3 : t101 = true
  · subst c3
    have H1 : (if (a0.size : Int) ≤ 24 then ((spec_l2Held.f a0).bind fun t102 => (some (t102 == 0))) else (some false)) = some r := by rw [if_pos rfl] at H; exact H
    clear H
    have H := H1
    clear H1
    by_cases c4 : (a0.size : Int) ≤ 24
    · rw [if_pos c4] at H
      have c4b0 : decide ((a0.size : Int) ≤ 24) = true := decide_eq_true c4
      have c4b1 : decide (a0.size ≤ 24) = true := decide_eq_true (by omega)
      clear c4
      replace H := Option.bind_eq_some_iff.mp H
      obtain ⟨t102, A50, H⟩ := H
      replace H : (some (t102 == 0)) = some r := H
      have A5 := Aside0.mk A50
      clear A50
      obtain rfl := Option.some.inj H
      go_enter Tryd.func15, Tryd.ntmps15
      go_wp2_with (first | ((with_reducible refine gate_callee (f := 30) rfl ?_); refine goesL_ (some 4) rfl rfl Tryd.func30 (by kernel_rfl) rfl #[.string a0] rfl (by (try simp only [List.map_toArray, List.map_cons, List.map_nil]); first | done | rfl | (simp only [List.length_drop, List.length_take]; rfl)) ?_; (with_reducible refine (spec_TextOk.calls a0 true _ A2.out).mono ?_); rintro e w6 ⟨rfl, hb⟩; refine ⟨_, rfl, ?_⟩; have n0_ := Aside0.mk (below_step (by repeat (first | (with_reducible first | exact HB.out | apply below_alloc | apply pw_below_drewN | apply below_drew1) | exact HB.out)) hb); clear HB; have HB := n0_; clear n0_; (try clear hb); (try clear hb2); (try clear hk); (try clear hi)) | (go_at_call 31; (with_reducible refine (spec_l2Held.calls a0 t102 _ A5.out).mono ?_); rintro e w7 ⟨rfl, hb⟩; have n0_ := Aside0.mk (below_step (by repeat (first | (with_reducible first | exact HB.out | apply below_alloc | apply pw_below_drewN | apply below_drew1) | exact HB.out)) hb); clear HB; have HB := n0_; clear n0_; (try clear hb); (try clear hb2); (try clear hk); (try clear hi)))
      go_ret
      exact ⟨by first | rfl | (simp [errW_none, errW_some] <;> rfl) | (simp [*, errW_none, errW_some] <;> rfl), by repeat (first | (with_reducible first | exact HB.out | apply below_alloc | apply pw_below_drewN | apply below_drew1) | exact HB.out)⟩
    · rw [if_neg c4] at H
      have c4b0 : decide ((a0.size : Int) ≤ 24) = false := decide_eq_false c4
      have c4b1 : decide (a0.size ≤ 24) = false := decide_eq_false (by omega)
      clear c4
      obtain rfl := Option.some.inj H
      go_enter Tryd.func15, Tryd.ntmps15
      go_wp2_with (first | ((with_reducible refine gate_callee (f := 30) rfl ?_); refine goesL_ (some 4) rfl rfl Tryd.func30 (by kernel_rfl) rfl #[.string a0] rfl (by (try simp only [List.map_toArray, List.map_cons, List.map_nil]); first | done | rfl | (simp only [List.length_drop, List.length_take]; rfl)) ?_; (with_reducible refine (spec_TextOk.calls a0 true _ A2.out).mono ?_); rintro e w8 ⟨rfl, hb⟩; refine ⟨_, rfl, ?_⟩; have n0_ := Aside0.mk (below_step (by repeat (first | (with_reducible first | exact HB.out | apply below_alloc | apply pw_below_drewN | apply below_drew1) | exact HB.out)) hb); clear HB; have HB := n0_; clear n0_; (try clear hb); (try clear hb2); (try clear hk); (try clear hi)))
      go_ret
      exact ⟨by first | rfl | (simp [errW_none, errW_some] <;> rfl) | (simp [*, errW_none, errW_some] <;> rfl), by repeat (first | (with_reducible first | exact HB.out | apply below_alloc | apply pw_below_drewN | apply below_drew1) | exact HB.out)⟩
  · replace c3 := Bool.eq_false_iff.mpr c3
    subst c3
    have H1 : (some false) = some r := by rw [if_neg (show ¬ (false = true) by decide)] at H; exact H
    clear H
    have H := H1
    clear H1
    obtain rfl := Option.some.inj H
    go_enter Tryd.func15, Tryd.ntmps15
    go_wp2_with (first | ((with_reducible refine gate_callee (f := 30) rfl ?_); refine goesL_ (some 4) rfl rfl Tryd.func30 (by kernel_rfl) rfl #[.string a0] rfl (by (try simp only [List.map_toArray, List.map_cons, List.map_nil]); first | done | rfl | (simp only [List.length_drop, List.length_take]; rfl)) ?_; (with_reducible refine (spec_TextOk.calls a0 false _ A2.out).mono ?_); rintro e w9 ⟨rfl, hb⟩; refine ⟨_, rfl, ?_⟩; have n0_ := Aside0.mk (below_step (by repeat (first | (with_reducible first | exact HB.out | apply below_alloc | apply pw_below_drewN | apply below_drew1) | exact HB.out)) hb); clear HB; have HB := n0_; clear n0_; (try clear hb); (try clear hb2); (try clear hk); (try clear hi)))
    go_ret
    exact ⟨by first | rfl | (simp [errW_none, errW_some] <;> rfl) | (simp [*, errW_none, errW_some] <;> rfl), by repeat (first | (with_reducible first | exact HB.out | apply below_alloc | apply pw_below_drewN | apply below_drew1) | exact HB.out)⟩
end
end Go.Proofs.YtijompkonaiagaaDoor.Q
namespace Go.Proofs.YtijompkonaiagaaDoor.Q
open Go.RowKit Go.Proofs.YtijompkonaiagaaDoorW.PrintWords Go.Proofs.YtijompkonaiagaaDoorW.PrintLast Go.Proofs.YtijompkonaiagaaDoorW.PrintMore
attribute [local go_sem] max2_int min2_int max_two min_two max_three min_three max_four min_four
set_option linter.unusedVariables false
set_option linter.unusedSimpArgs false
noncomputable section
def spec_TextPieces.f (k : Nat) (a0 : ByteArray) : Option ((List (S56))) := (spec_TextOk.f a0).bind fun t101 => (if t101 = true then ((spec_l2Pieces.f k a0).bind fun t102 => (some t102)) else (some (([] : List (S56)))))
set_option maxHeartbeats 8000000 in
set_option maxRecDepth 100000 in
theorem spec_TextPieces.calls (k : Nat) (a0 : ByteArray) (r : List (S56)) (w : World) (h : spec_TextPieces.f k a0 = some r) :
    Calls Tryd.prog 43 #[.string a0] w fun e w' => ∃ v0_ : Value, e = .returned (v0_) ∧ Kd.R k56 56 w' w.heap.size (fun _ => True) v0_ r ∧ Below w.heap.size w w' := by
  have HB := Aside0.mk (Below.refl w.heap.size w)
  have H : ((spec_TextOk.f a0).bind fun t101 => (if t101 = true then ((spec_l2Pieces.f k a0).bind fun t102 => (some t102)) else (some (([] : List (S56)))))) = some r := h
  clear h
  replace H := Option.bind_eq_some_iff.mp H
  obtain ⟨t101, A20, H⟩ := H
  replace H : (if t101 = true then ((spec_l2Pieces.f k a0).bind fun t102 => (some t102)) else (some (([] : List (S56))))) = some r := H
  have A2 := Aside0.mk A20
  clear A20
  by_cases c3 : t101 = true
  · subst c3
    have H1 : ((spec_l2Pieces.f k a0).bind fun t102 => (some t102)) = some r := by rw [if_pos rfl] at H; exact H
    clear H
    have H := H1
    clear H1
    replace H := Option.bind_eq_some_iff.mp H
    obtain ⟨t102, A40, H⟩ := H
    replace H : (some t102) = some r := H
    have A4 := Aside0.mk A40
    clear A40
    obtain rfl := Option.some.inj H
    go_enter Tryd.func43, Tryd.ntmps43
    go_wp2_with (first | ((with_reducible refine gate_callee (f := 30) rfl ?_); refine goesL_ (some 4) rfl rfl Tryd.func30 (by kernel_rfl) rfl #[.string a0] rfl (by (try simp only [List.map_toArray, List.map_cons, List.map_nil]); first | done | rfl | (simp only [List.length_drop, List.length_take]; rfl)) ?_; (with_reducible refine (spec_TextOk.calls a0 true _ A2.out).mono ?_); rintro e w5 ⟨rfl, hb⟩; refine ⟨_, rfl, ?_⟩; have n0_ := Aside0.mk (below_step (by repeat (first | (with_reducible first | exact HB.out | apply below_alloc | apply pw_below_drewN | apply below_drew1) | exact HB.out)) hb); clear HB; have HB := n0_; clear n0_; (try clear hb); (try clear hb2); (try clear hk); (try clear hi)) | ((with_reducible refine gate_callee (f := 49) rfl ?_); refine goesL_ (some 8) rfl rfl Tryd.func49 (by kernel_rfl) rfl #[.string a0] rfl (by (try simp only [List.map_toArray, List.map_cons, List.map_nil]); first | done | rfl | (simp only [List.length_drop, List.length_take]; rfl)) ?_; (with_reducible refine (spec_l2Pieces.calls k a0 t102 _ A4.out).mono ?_); rintro e w6 ⟨v103, rfl, ho0, hb⟩; refine ⟨_, rfl, ?_⟩; have n0_ := Aside0.mk (Kd.R_lower ho0 (below_size (by repeat (first | (with_reducible first | exact HB.out | apply below_alloc | apply pw_below_drewN | apply below_drew1) | exact HB.out)))); have n1_ := Aside0.mk (below_step (by repeat (first | (with_reducible first | exact HB.out | apply below_alloc | apply pw_below_drewN | apply below_drew1) | exact HB.out)) hb); clear HB; have HO104 := n0_; have HB := n1_; clear n0_ n1_; (try clear hb); (try clear hb2); (try clear hk); (try clear hi); (try clear ho0)))
    go_ret
    exact ⟨_, by first | rfl | (simp [errW_none, errW_some] <;> rfl) | (simp [*, errW_none, errW_some] <;> rfl), by (with_reducible repeat (first | apply Kd.R_alloc | apply Kd.R_drewN | apply Kd.R_drew)); exact HO104.out, by repeat (first | (with_reducible first | exact HB.out | apply below_alloc | apply pw_below_drewN | apply below_drew1) | exact HB.out)⟩
  · replace c3 := Bool.eq_false_iff.mpr c3
    subst c3
    have H1 : (some (([] : List (S56)))) = some r := by rw [if_neg (show ¬ (false = true) by decide)] at H; exact H
    clear H
    have H := H1
    clear H1
    obtain ⟨y105, hy105⟩ : ∃ y_ : List (S56), y_ = (([] : List (S56))) := ⟨_, rfl⟩
    replace H : (some y105) = some r := by first | (rw [hy105]; with_reducible exact H) | (have H2_ := (Option.bind_some _ _).symm.trans H; rw [hy105]; with_reducible exact H2_) | (have H2_ := (Option.bind_some _ _).symm.trans H; with_reducible exact H2_) | with_reducible exact H | (rw [hy105]; exact H) | exact H
    have Ny105 := Aside0.mk hy105
    clear hy105
    obtain rfl := Option.some.inj H
    go_enter Tryd.func43, Tryd.ntmps43
    go_wp2_with (first | ((with_reducible refine gate_callee (f := 30) rfl ?_); refine goesL_ (some 4) rfl rfl Tryd.func30 (by kernel_rfl) rfl #[.string a0] rfl (by (try simp only [List.map_toArray, List.map_cons, List.map_nil]); first | done | rfl | (simp only [List.length_drop, List.length_take]; rfl)) ?_; (with_reducible refine (spec_TextOk.calls a0 false _ A2.out).mono ?_); rintro e w7 ⟨rfl, hb⟩; refine ⟨_, rfl, ?_⟩; have n0_ := Aside0.mk (below_step (by repeat (first | (with_reducible first | exact HB.out | apply below_alloc | apply pw_below_drewN | apply below_drew1) | exact HB.out)) hb); clear HB; have HB := n0_; clear n0_; (try clear hb); (try clear hb2); (try clear hk); (try clear hi)) | ((with_reducible refine gate_dst (N := 6) rfl ?_); refine Kd.R_lit k56 _ 56 ?hg (N := 6) ?hd (xs := ([] : List (S56))) (inner := []) (ok := fun _ => True) (okp := fun _ => True) ?hr ?hp (fun _ hk => hk) trivial (Below.refl _ _) (Nat.le_refl _) (by simp) ?_; (case hd => rfl); (case hg => rfl); (case hr => first | (go_simp; done) | (go_simp; rfl)); (case hp => exact (Reps.none _ _)); intro v106 w8 ho9 hb hg_ hnew_; clear hg_ hnew_; (first | rw [← Ny105.out] at ho9 | (simp only [Int.reduceToNat] at ho9; rw [← Ny105.out] at ho9)); have n0_ := Aside0.mk (Kd.R_lower ho9 (below_size (by repeat (first | (with_reducible first | exact HB.out | apply below_alloc | apply pw_below_drewN | apply below_drew1) | exact HB.out)))); have n1_ := Aside0.mk (below_step (by repeat (first | (with_reducible first | exact HB.out | apply below_alloc | apply pw_below_drewN | apply below_drew1) | exact HB.out)) hb); clear HB; have HO107 := n0_; have HB := n1_; clear n0_ n1_; clear hb ho9))
    go_ret
    exact ⟨_, by first | rfl | (simp [errW_none, errW_some] <;> rfl) | (simp [*, errW_none, errW_some] <;> rfl), by (with_reducible repeat (first | apply Kd.R_alloc | apply Kd.R_drewN | apply Kd.R_drew)); exact HO107.out, by repeat (first | (with_reducible first | exact HB.out | apply below_alloc | apply pw_below_drewN | apply below_drew1) | exact HB.out)⟩
end
end Go.Proofs.YtijompkonaiagaaDoor.Q
namespace Go.Proofs.YtijompkonaiagaaDoor.Q
open Go.RowKit Go.Proofs.YtijompkonaiagaaDoorW.PrintWords Go.Proofs.YtijompkonaiagaaDoorW.PrintLast Go.Proofs.YtijompkonaiagaaDoorW.PrintMore
attribute [local go_sem] max2_int min2_int max_two min_two max_three min_three max_four min_four
set_option linter.unusedVariables false
set_option linter.unusedSimpArgs false
noncomputable section
def spec_TextNames.l0 : Nat → List (S24) → List (S56) → Int → Option ((List (S24)))
  | 0, _, _, _ => none
  | k + 1, x3, x4, x5 => if x5 < (x4.length : Int) then (if 0 ≤ x5 then (if (rd_T56 x4 x5).f1 = true then (if x3.length < 8796093022208 then (spec_TextNames.l0 k (x3 ++ [(⟨(rd_T56 x4 x5).f2.f0, (rd_T56 x4 x5).f2.f1⟩ : S24)]) x4 (wrap64 (x5 + 1))) else (none)) else (spec_TextNames.l0 k x3 x4 (wrap64 (x5 + 1)))) else (none)) else (some x3)
def spec_TextNames.f (k : Nat) (a0 : ByteArray) : Option ((List (S24))) := (spec_TextPieces.f k a0).bind fun t104 => (spec_TextNames.l0 k (([] : List (S24))) t104 0)
set_option maxHeartbeats 8000000 in
set_option maxRecDepth 100000 in
theorem spec_TextNames.calls (k : Nat) (a0 : ByteArray) (r : List (S24)) (w : World) (h : spec_TextNames.f k a0 = some r) :
    Calls Tryd.prog 32 #[.string a0] w fun e w' => ∃ v0_ : Value, e = .returned (v0_) ∧ Kd.R k24 24 w' w.heap.size (fun _ => True) v0_ r ∧ Below w.heap.size w w' := by
  have hu24 := Tryd.underlying24
  have HB := Aside0.mk (Below.refl w.heap.size w)
  have H : ((spec_TextPieces.f k a0).bind fun t104 => (spec_TextNames.l0 k (([] : List (S24))) t104 0)) = some r := h
  clear h
  obtain ⟨y101, hy101⟩ : ∃ y_ : List (S24), y_ = (([] : List (S24))) := ⟨_, rfl⟩
  replace H : ((spec_TextPieces.f k a0).bind fun t104 => (spec_TextNames.l0 k y101 t104 0)) = some r := by first | (rw [hy101]; with_reducible exact H) | (have H2_ := (Option.bind_some _ _).symm.trans H; rw [hy101]; with_reducible exact H2_) | (have H2_ := (Option.bind_some _ _).symm.trans H; with_reducible exact H2_) | with_reducible exact H | (rw [hy101]; exact H) | exact H
  have Ny101 := Aside0.mk hy101
  clear hy101
  replace H := Option.bind_eq_some_iff.mp H
  obtain ⟨t104, A20, H⟩ := H
  replace H : (spec_TextNames.l0 k y101 t104 0) = some r := H
  have A2 := Aside0.mk A20
  clear A20
  have H' := Aside0.mk H
  clear H
  go_enter Tryd.func32, Tryd.ntmps32
  go_wp2_with (first | ((with_reducible refine gate_dst (N := 6) rfl ?_); refine Kd.R_lit k24 _ 24 ?hg (N := 6) ?hd (xs := ([] : List (S24))) (inner := []) (ok := fun _ => True) (okp := fun _ => True) ?hr ?hp (fun _ hk => hk) trivial (Below.refl _ _) (Nat.le_refl _) (by simp) ?_; (case hd => rfl); (case hg => rfl); (case hr => first | (go_simp; done) | (go_simp; rfl)); (case hp => exact (Reps.none _ _)); intro v102 w3 ho4 hb hg_ hnew_; clear hg_ hnew_; (first | rw [← Ny101.out] at ho4 | (simp only [Int.reduceToNat] at ho4; rw [← Ny101.out] at ho4)); have n0_ := Aside0.mk (Kd.R_lower ho4 (below_size (by repeat (first | (with_reducible first | exact HB.out | apply below_alloc | apply pw_below_drewN | apply below_drew1) | exact HB.out)))); have n1_ := Aside0.mk (below_step (by repeat (first | (with_reducible first | exact HB.out | apply below_alloc | apply pw_below_drewN | apply below_drew1) | exact HB.out)) hb); clear HB; have HO103 := n0_; have HB := n1_; clear n0_ n1_; clear hb ho4) | ((with_reducible refine gate_callee (f := 43) rfl ?_); refine goesL_ (some 8) rfl rfl Tryd.func43 (by kernel_rfl) rfl #[.string a0] rfl (by (try simp only [List.map_toArray, List.map_cons, List.map_nil]); first | done | rfl | (simp only [List.length_drop, List.length_take]; rfl)) ?_; (with_reducible refine (spec_TextPieces.calls k a0 t104 _ A2.out).mono ?_); rintro e w5 ⟨v105, rfl, ho0, hb⟩; refine ⟨_, rfl, ?_⟩; have n0_ := Aside0.mk (Kd.R_below (by (with_reducible repeat (first | apply Kd.R_alloc | apply Kd.R_drewN | apply Kd.R_drew)); exact HO103.out) hb); have n1_ := Aside0.mk (Kd.R_lower ho0 (below_size (by repeat (first | (with_reducible first | exact HB.out | apply below_alloc | apply pw_below_drewN | apply below_drew1) | exact HB.out)))); have n2_ := Aside0.mk (below_step (by repeat (first | (with_reducible first | exact HB.out | apply below_alloc | apply pw_below_drewN | apply below_drew1) | exact HB.out)) hb); clear HO103; clear HB; have HO103 := n0_; have HO106 := n1_; have HB := n2_; clear n0_ n1_ n2_; (try clear hb); (try clear hb2); (try clear hk); (try clear hi); (try clear ho0)))
  go_loopg [3, 5] k (fun kq v3 v5 w' => ∃ (x3_1 : List (S24)) (x5_1 : Int), v5 = .int .i64 x5_1 ∧ Aside0 (spec_TextNames.l0 kq x3_1 t104 x5_1 = some r) ∧ Aside0 (kq ≤ k) ∧ Aside0 (Kd.R k24 24 w' w.heap.size (fun _ => True) v3 x3_1) ∧ Aside0 (Kd.R k56 56 w' w.heap.size (fun _ => True) v105 t104) ∧ Aside0 (Below w.heap.size w w'))
  case atStart => exact ⟨(y101), (0), (by first | rfl | (simp; done) | (simp [*]; done)), H', ⟨Nat.le_refl _⟩, ⟨by (with_reducible repeat (first | apply Kd.R_alloc | apply Kd.R_drewN | apply Kd.R_drew)); exact HO103.out⟩, ⟨by (with_reducible repeat (first | apply Kd.R_alloc | apply Kd.R_drewN | apply Kd.R_drew)); exact HO106.out⟩, ⟨by repeat (first | (with_reducible first | exact HB.out | apply below_alloc | apply pw_below_drewN | apply below_drew1) | exact HB.out)⟩⟩
  case round =>
    clear H'
    try clear p2
    try clear c3
    try clear c4
    obtain ⟨x3_1, x5_1, rfl, HA, HK1, HO_3, HO_4, HB⟩ := hrel
    cases gk with
    | zero => exact absurd HA.out (by simp [spec_TextNames.l0])
    | succ k1 =>
      have H := HA.out
      clear HA
      simp only [spec_TextNames.l0] at H
      by_cases c6 : x5_1 < (t104.length : Int)
      · rw [if_pos c6] at H
        have c6b0 : decide (x5_1 < (t104.length : Int)) = true := decide_eq_true c6
        clear c6
        by_cases c7 : 0 ≤ x5_1
        · rw [if_pos c7] at H
          have c7b0 : decide (0 ≤ x5_1) = true := decide_eq_true c7
          clear c7
          obtain ⟨bq8, hbq8⟩ : ∃ b_ : Bool, b_ = ((rd_T56 t104 x5_1).f1) := ⟨_, rfl⟩
          replace H : (if bq8 = true then (if x3_1.length < 8796093022208 then (spec_TextNames.l0 k1 (x3_1 ++ [(⟨(rd_T56 t104 x5_1).f2.f0, (rd_T56 t104 x5_1).f2.f1⟩ : S24)]) t104 (wrap64 (x5_1 + 1))) else (none)) else (spec_TextNames.l0 k1 x3_1 t104 (wrap64 (x5_1 + 1)))) = some r := by rw [← hbq8] at H; exact H
          have Nbq8 := Aside0.mk hbq8
          clear hbq8
          by_cases c9 : bq8 = true
          · subst c9
            have H1 : (if x3_1.length < 8796093022208 then (spec_TextNames.l0 k1 (x3_1 ++ [(⟨(rd_T56 t104 x5_1).f2.f0, (rd_T56 t104 x5_1).f2.f1⟩ : S24)]) t104 (wrap64 (x5_1 + 1))) else (none)) = some r := by rw [if_pos rfl] at H; exact H
            clear H
            have H := H1
            clear H1
            by_cases c10 : x3_1.length < 8796093022208
            · rw [if_pos c10] at H
              have LMc10 := Aside0.mk c10
              clear c10
              obtain ⟨y109, hy109⟩ : ∃ y_ : List (S24), y_ = (x3_1 ++ [(⟨(rd_T56 t104 x5_1).f2.f0, (rd_T56 t104 x5_1).f2.f1⟩ : S24)]) := ⟨_, rfl⟩
              replace H : (spec_TextNames.l0 k1 y109 t104 (wrap64 (x5_1 + 1))) = some r := by first | (rw [hy109]; with_reducible exact H) | (have H2_ := (Option.bind_some _ _).symm.trans H; rw [hy109]; with_reducible exact H2_) | (have H2_ := (Option.bind_some _ _).symm.trans H; with_reducible exact H2_) | with_reducible exact H | (rw [hy109]; exact H) | exact H
              have Ny109 := Aside0.mk hy109
              clear hy109
              have H' := Aside0.mk H
              clear H
              obtain ⟨Ao11, co11, eo11⟩ := Kd.R_slice HO_4.out
              subst eo11
              have p107 : 0 ≤ (x5_1 : Int) := of_decide_eq_true (by first | (with_reducible assumption) | assumption)
              have q107 : x5_1 < (t104.length : Int) := of_decide_eq_true (by first | (with_reducible assumption) | assumption)
              obtain ⟨ad107, e107, hx107_0, hx107_1, hx107_2, hx107_3⟩ := at_T56 (Kd.R_reads' HO_4.out).2.2 x5_1 p107 q107
              (try rw [← Nbq8.out] at hx107_1)
              cases e107
              replace p107 := eq_true p107
              replace q107 := eq_true q107
              have p108 : 0 ≤ (x5_1 : Int) := of_decide_eq_true (by first | (with_reducible assumption) | assumption)
              have q108 : x5_1 < (t104.length : Int) := of_decide_eq_true (by first | (with_reducible assumption) | assumption)
              obtain ⟨ad108, e108, hx108_0, hx108_1, hx108_2, hx108_3⟩ := at_T56 (Kd.R_reads' HO_4.out).2.2 x5_1 p108 q108
              (try rw [← Nbq8.out] at hx108_1)
              obtain rfl : ad107 = ad108 := (by injection e108)
              replace p108 := eq_true p108
              replace q108 := eq_true q108
              go_wp2_with (first | ((with_reducible refine gate_builtin (b := .append) (xs := #[.tmp 20, .tmp 26]) rfl ?_); at_builtin; refine Kd.R_append k24 (w0 := w) w.heap.size rfl (.tmp 20) (.tmp 26) 43 24 (.agg #[(.int .i64 0), (.int .i64 0)]) 16 rfl Tryd.underlying43 info24 rfl (by decide) (by omega) u3 x3_1 (⟨(rd_T56 t104 x5_1).f2.f0, (rd_T56 t104 x5_1).f2.f1⟩ : S24) [.int .i64 ((rd_T56 t104 x5_1).f2.f0), .int .i64 ((rd_T56 t104 x5_1).f2.f1)] (fun _ => True) (fun _ => False) rfl rfl ?aP (fun _ hk => hk.elim) ?aF ?aO ?aB ?aS ?aL ?_; (case aP => exact k24_mkM _ _ _ (⟨(rd_T56 t104 x5_1).f2.f0, (rd_T56 t104 x5_1).f2.f1⟩ : S24)); (case aB => exact (by repeat (first | (with_reducible first | exact HB.out | apply below_alloc | apply pw_below_drewN | apply below_drew1) | exact HB.out))); (case aF => exact (fun _ _ => trivial)); (case aO => exact (by (with_reducible repeat (first | apply Kd.R_alloc | apply Kd.R_drewN | apply Kd.R_drew)); exact HO_3.out)); (case aS => exact (below_size (by repeat (first | (with_reducible first | exact HB.out | apply below_alloc | apply pw_below_drewN | apply below_drew1) | exact HB.out)))); (case aL => have := LMc10.out; omega); intro v110 w12 ho hb hg hat; rw [← Ny109.out] at ho; have n0_ := Aside0.mk (Kd.R_over' (by (with_reducible repeat (first | apply Kd.R_alloc | apply Kd.R_drewN | apply Kd.R_drew)); exact HO_4.out) (Kd.R_typed (by (with_reducible repeat (first | apply Kd.R_alloc | apply Kd.R_drewN | apply Kd.R_drew)); exact HO_3.out)) (by decide) hg); have n1_ := Aside0.mk (hb); have n2_ := Aside0.mk (ho); clear HO_4; clear HB; clear HO_3; have HO_4 := n0_; have HB := n1_; have HO111 := n2_; clear n0_ n1_ n2_; clear ho hb hg hat))
              go_roundg k1
              case measure => have := HK1.out; omega
              case rel => exact ⟨(y109), (wrap64 (x5_1 + 1)), (by first | rfl | (simp; done) | (simp [*]; done)), H', ⟨by have := HK1.out; omega⟩, ⟨by (with_reducible repeat (first | apply Kd.R_alloc | apply Kd.R_drewN | apply Kd.R_drew)); exact HO111.out⟩, ⟨by (with_reducible repeat (first | apply Kd.R_alloc | apply Kd.R_drewN | apply Kd.R_drew)); exact HO_4.out⟩, ⟨by repeat (first | (with_reducible first | exact HB.out | apply below_alloc | apply pw_below_drewN | apply below_drew1) | exact HB.out)⟩⟩
            · rw [if_neg c10] at H
              exact absurd H (by simp)
          · replace c9 := Bool.eq_false_iff.mpr c9
            subst c9
            have H1 : (spec_TextNames.l0 k1 x3_1 t104 (wrap64 (x5_1 + 1))) = some r := by rw [if_neg (show ¬ (false = true) by decide)] at H; exact H
            clear H
            have H := H1
            clear H1
            have H' := Aside0.mk H
            clear H
            obtain ⟨Ao13, co13, eo13⟩ := Kd.R_slice HO_4.out
            subst eo13
            have p107 : 0 ≤ (x5_1 : Int) := of_decide_eq_true (by first | (with_reducible assumption) | assumption)
            have q107 : x5_1 < (t104.length : Int) := of_decide_eq_true (by first | (with_reducible assumption) | assumption)
            obtain ⟨ad107, e107, hx107_0, hx107_1, hx107_2, hx107_3⟩ := at_T56 (Kd.R_reads' HO_4.out).2.2 x5_1 p107 q107
            (try rw [← Nbq8.out] at hx107_1)
            cases e107
            replace p107 := eq_true p107
            replace q107 := eq_true q107
            go_wp2
            go_roundg k1
            case measure => have := HK1.out; omega
            case rel => exact ⟨(x3_1), (wrap64 (x5_1 + 1)), (by first | rfl | (simp; done) | (simp [*]; done)), H', ⟨by have := HK1.out; omega⟩, ⟨by (with_reducible repeat (first | apply Kd.R_alloc | apply Kd.R_drewN | apply Kd.R_drew)); exact HO_3.out⟩, ⟨by (with_reducible repeat (first | apply Kd.R_alloc | apply Kd.R_drewN | apply Kd.R_drew)); exact HO_4.out⟩, ⟨by repeat (first | (with_reducible first | exact HB.out | apply below_alloc | apply pw_below_drewN | apply below_drew1) | exact HB.out)⟩⟩
        · rw [if_neg c7] at H
          exact absurd H (by simp)
      · rw [if_neg c6] at H
        have c6b0 : decide (x5_1 < (t104.length : Int)) = false := decide_eq_false c6
        clear c6
        obtain rfl := Option.some.inj H
        obtain ⟨Ao14, co14, eo14⟩ := Kd.R_slice HO_4.out
        subst eo14
        go_wp2
        go_ret
        exact ⟨_, by first | rfl | (simp [errW_none, errW_some] <;> rfl) | (simp [*, errW_none, errW_some] <;> rfl), by (with_reducible repeat (first | apply Kd.R_alloc | apply Kd.R_drewN | apply Kd.R_drew)); exact HO_3.out, by repeat (first | (with_reducible first | exact HB.out | apply below_alloc | apply pw_below_drewN | apply below_drew1) | exact HB.out)⟩
end
end Go.Proofs.YtijompkonaiagaaDoor.Q
namespace Go.Proofs.YtijompkonaiagaaDoor.Q
open Go.RowKit Go.Proofs.YtijompkonaiagaaDoorW.PrintWords Go.Proofs.YtijompkonaiagaaDoorW.PrintLast Go.Proofs.YtijompkonaiagaaDoorW.PrintMore
attribute [local go_sem] max2_int min2_int max_two min_two max_three min_three max_four min_four
set_option linter.unusedVariables false
set_option linter.unusedSimpArgs false
noncomputable section
def spec_l21Own.l0 : Nat → List (S24) → Int → Option (Bool)
  | 0, _, _ => none
  | k + 1, x3, x4 => if x4 < (x3.length : Int) then (if 0 ≤ x4 then ((spec_EndDoor.f ((rd_T24 x3 x4).f0) ((rd_T24 x3 x4).f1)).bind fun t105 => (if t105 = true then (some false) else (spec_l21Own.l0 k x3 (wrap64 (x4 + 1))))) else (none)) else (some true)
def spec_l21Own.f (k : Nat) (a0 : ByteArray) : Option (Bool) := (spec_TextNames.f k a0).bind fun t101 => (spec_l21Own.l0 k t101 0)
set_option maxHeartbeats 8000000 in
set_option maxRecDepth 100000 in
theorem spec_l21Own.calls (k : Nat) (a0 : ByteArray) (r : Bool) (w : World) (h : spec_l21Own.f k a0 = some r) :
    Calls Tryd.prog 16 #[.string a0] w fun e w' => e = .returned (.bool r) ∧ Below w.heap.size w w' := by
  have hu24 := Tryd.underlying24
  have HB := Aside0.mk (Below.refl w.heap.size w)
  have H : ((spec_TextNames.f k a0).bind fun t101 => (spec_l21Own.l0 k t101 0)) = some r := h
  clear h
  replace H := Option.bind_eq_some_iff.mp H
  obtain ⟨t101, A20, H⟩ := H
  replace H : (spec_l21Own.l0 k t101 0) = some r := H
  have A2 := Aside0.mk A20
  clear A20
  have H' := Aside0.mk H
  clear H
  go_enter Tryd.func16, Tryd.ntmps16
  go_wp2_with (first | ((with_reducible refine gate_callee (f := 32) rfl ?_); refine goesL_ (some 6) rfl rfl Tryd.func32 (by kernel_rfl) rfl #[.string a0] rfl (by (try simp only [List.map_toArray, List.map_cons, List.map_nil]); first | done | rfl | (simp only [List.length_drop, List.length_take]; rfl)) ?_; (with_reducible refine (spec_TextNames.calls k a0 t101 _ A2.out).mono ?_); rintro e w3 ⟨v102, rfl, ho0, hb⟩; refine ⟨_, rfl, ?_⟩; have n0_ := Aside0.mk (Kd.R_lower ho0 (below_size (by repeat (first | (with_reducible first | exact HB.out | apply below_alloc | apply pw_below_drewN | apply below_drew1) | exact HB.out)))); have n1_ := Aside0.mk (below_step (by repeat (first | (with_reducible first | exact HB.out | apply below_alloc | apply pw_below_drewN | apply below_drew1) | exact HB.out)) hb); clear HB; have HO103 := n0_; have HB := n1_; clear n0_ n1_; (try clear hb); (try clear hb2); (try clear hk); (try clear hi); (try clear ho0)))
  go_loopg [4] k (fun kq v4 w' => ∃ (x4_1 : Int), v4 = .int .i64 x4_1 ∧ Aside0 (spec_l21Own.l0 kq t101 x4_1 = some r) ∧ Aside0 (kq ≤ k) ∧ Aside0 (Kd.R k24 24 w' w.heap.size (fun _ => True) v102 t101) ∧ Aside0 (Below w.heap.size w w'))
  case atStart => exact ⟨(0), (by first | rfl | (simp; done) | (simp [*]; done)), H', ⟨Nat.le_refl _⟩, ⟨by (with_reducible repeat (first | apply Kd.R_alloc | apply Kd.R_drewN | apply Kd.R_drew)); exact HO103.out⟩, ⟨by repeat (first | (with_reducible first | exact HB.out | apply below_alloc | apply pw_below_drewN | apply below_drew1) | exact HB.out)⟩⟩
  case round =>
    clear H'
    try clear c1
    try clear p2
    try clear c3
    obtain ⟨x4_1, rfl, HA, HK1, HO_3, HB⟩ := hrel
    cases gk with
    | zero => exact absurd HA.out (by simp [spec_l21Own.l0])
    | succ k1 =>
      have H := HA.out
      clear HA
      simp only [spec_l21Own.l0] at H
      by_cases c4 : x4_1 < (t101.length : Int)
      · rw [if_pos c4] at H
        have c4b0 : decide (x4_1 < (t101.length : Int)) = true := decide_eq_true c4
        clear c4
        by_cases c5 : 0 ≤ x4_1
        · rw [if_pos c5] at H
          have c5b0 : decide (0 ≤ x4_1) = true := decide_eq_true c5
          clear c5
          replace H := Option.bind_eq_some_iff.mp H
          obtain ⟨t105, A60, H⟩ := H
          replace H : (if t105 = true then (some false) else (spec_l21Own.l0 k1 t101 (wrap64 (x4_1 + 1)))) = some r := H
          have A6 := Aside0.mk A60
          clear A60
          by_cases c7 : t105 = true
          · subst c7
            have H1 : (some false) = some r := by rw [if_pos rfl] at H; exact H
            clear H
            have H := H1
            clear H1
            obtain rfl := Option.some.inj H
            obtain ⟨Ao8, co8, eo8⟩ := Kd.R_slice HO_3.out
            subst eo8
            have p104 : 0 ≤ (x4_1 : Int) := of_decide_eq_true (by first | (with_reducible assumption) | assumption)
            have q104 : x4_1 < (t101.length : Int) := of_decide_eq_true (by first | (with_reducible assumption) | assumption)
            obtain ⟨ad104, e104, hx104_0, hx104_1⟩ := at_T24 (Kd.R_reads' HO_3.out).2.2 x4_1 p104 q104
            cases e104
            replace p104 := eq_true p104
            replace q104 := eq_true q104
            go_wp2_with (first | ((with_reducible refine gate_callee (f := 33) rfl ?_); refine goesL_ (some 17) rfl rfl Tryd.func33 (by kernel_rfl) rfl #[.agg #[.int .i64 ((rd_T24 t101 x4_1).f0), .int .i64 ((rd_T24 t101 x4_1).f1)]] rfl (by (try simp only [List.map_toArray, List.map_cons, List.map_nil]); first | done | rfl | (simp only [List.length_drop, List.length_take]; rfl)) ?_; (with_reducible refine (spec_EndDoor.calls ((rd_T24 t101 x4_1).f0) ((rd_T24 t101 x4_1).f1) true _ A6.out).mono ?_); rintro e w9 ⟨rfl, hb⟩; refine ⟨_, rfl, ?_⟩; have n0_ := Aside0.mk (Kd.R_below (by (with_reducible repeat (first | apply Kd.R_alloc | apply Kd.R_drewN | apply Kd.R_drew)); exact HO_3.out) hb); have n1_ := Aside0.mk (below_step (by repeat (first | (with_reducible first | exact HB.out | apply below_alloc | apply pw_below_drewN | apply below_drew1) | exact HB.out)) hb); clear HO_3; clear HB; have HO_3 := n0_; have HB := n1_; clear n0_ n1_; (try clear hb); (try clear hb2); (try clear hk); (try clear hi)))
            go_ret
            exact ⟨by first | rfl | (simp [errW_none, errW_some] <;> rfl) | (simp [*, errW_none, errW_some] <;> rfl), by repeat (first | (with_reducible first | exact HB.out | apply below_alloc | apply pw_below_drewN | apply below_drew1) | exact HB.out)⟩
          · replace c7 := Bool.eq_false_iff.mpr c7
            subst c7
            have H1 : (spec_l21Own.l0 k1 t101 (wrap64 (x4_1 + 1))) = some r := by rw [if_neg (show ¬ (false = true) by decide)] at H; exact H
            clear H
            have H := H1
            clear H1
            have H' := Aside0.mk H
            clear H
            obtain ⟨Ao10, co10, eo10⟩ := Kd.R_slice HO_3.out
            subst eo10
            have p104 : 0 ≤ (x4_1 : Int) := of_decide_eq_true (by first | (with_reducible assumption) | assumption)
            have q104 : x4_1 < (t101.length : Int) := of_decide_eq_true (by first | (with_reducible assumption) | assumption)
            obtain ⟨ad104, e104, hx104_0, hx104_1⟩ := at_T24 (Kd.R_reads' HO_3.out).2.2 x4_1 p104 q104
            cases e104
            replace p104 := eq_true p104
            replace q104 := eq_true q104
            go_wp2_with (first | ((with_reducible refine gate_callee (f := 33) rfl ?_); refine goesL_ (some 17) rfl rfl Tryd.func33 (by kernel_rfl) rfl #[.agg #[.int .i64 ((rd_T24 t101 x4_1).f0), .int .i64 ((rd_T24 t101 x4_1).f1)]] rfl (by (try simp only [List.map_toArray, List.map_cons, List.map_nil]); first | done | rfl | (simp only [List.length_drop, List.length_take]; rfl)) ?_; (with_reducible refine (spec_EndDoor.calls ((rd_T24 t101 x4_1).f0) ((rd_T24 t101 x4_1).f1) false _ A6.out).mono ?_); rintro e w11 ⟨rfl, hb⟩; refine ⟨_, rfl, ?_⟩; have n0_ := Aside0.mk (Kd.R_below (by (with_reducible repeat (first | apply Kd.R_alloc | apply Kd.R_drewN | apply Kd.R_drew)); exact HO_3.out) hb); have n1_ := Aside0.mk (below_step (by repeat (first | (with_reducible first | exact HB.out | apply below_alloc | apply pw_below_drewN | apply below_drew1) | exact HB.out)) hb); clear HO_3; clear HB; have HO_3 := n0_; have HB := n1_; clear n0_ n1_; (try clear hb); (try clear hb2); (try clear hk); (try clear hi)))
            go_roundg k1
            case measure => have := HK1.out; omega
            case rel => exact ⟨(wrap64 (x4_1 + 1)), (by first | rfl | (simp; done) | (simp [*]; done)), H', ⟨by have := HK1.out; omega⟩, ⟨by (with_reducible repeat (first | apply Kd.R_alloc | apply Kd.R_drewN | apply Kd.R_drew)); exact HO_3.out⟩, ⟨by repeat (first | (with_reducible first | exact HB.out | apply below_alloc | apply pw_below_drewN | apply below_drew1) | exact HB.out)⟩⟩
        · rw [if_neg c5] at H
          exact absurd H (by simp)
      · rw [if_neg c4] at H
        have c4b0 : decide (x4_1 < (t101.length : Int)) = false := decide_eq_false c4
        clear c4
        obtain rfl := Option.some.inj H
        obtain ⟨Ao12, co12, eo12⟩ := Kd.R_slice HO_3.out
        subst eo12
        go_wp2
        go_ret
        exact ⟨by first | rfl | (simp [errW_none, errW_some] <;> rfl) | (simp [*, errW_none, errW_some] <;> rfl), by repeat (first | (with_reducible first | exact HB.out | apply below_alloc | apply pw_below_drewN | apply below_drew1) | exact HB.out)⟩
end
end Go.Proofs.YtijompkonaiagaaDoor.Q
namespace Go.Proofs.YtijompkonaiagaaDoor.Q
open Go.RowKit Go.Proofs.YtijompkonaiagaaDoorW.PrintWords Go.Proofs.YtijompkonaiagaaDoorW.PrintMore Go.Proofs.YtijompkonaiagaaDoor.Z
set_option linter.unusedVariables false
set_option linter.unusedSimpArgs false
attribute [local go_sem ↓] Go.wp_at_zero Go.wp_at_succ
def isDoor (x : S24) : Bool := doorB ⟨x.f0, x.f1⟩
theorem take_any {l : List S24} {k : Nat} (hk : k < l.length) (h : (l.take k).any isDoor = false) (hd : isDoor (rd_T24 l k) = false) : (l.take (k + 1)).any isDoor = false := by
  have e : rd_T24 l k = l[k] := by
    unfold rd_T24
    rw [Int.toNat_natCast, List.getD_eq_getElem?_getD, List.getElem?_eq_getElem hk]
    rfl
  rw [List.take_succ_eq_append_getElem hk, List.any_append, h, ← e]
  simp [hd]
theorem hit_any {l : List S24} {k : Nat} (hk : k < l.length) (hd : isDoor (rd_T24 l k) = true) : l.any isDoor = true := by
  have e : rd_T24 l k = l[k] := by
    unfold rd_T24
    rw [Int.toNat_natCast, List.getD_eq_getElem?_getD, List.getElem?_eq_getElem hk]
    rfl
  rw [e] at hd
  exact List.any_eq_true.2 ⟨_, List.getElem_mem hk, hd⟩
set_option maxHeartbeats 1000000 in
theorem idx_door (A : Option Addr) (n c : Nat) (l : List S24) (w : World) (hC : Kd.C k24 w A n l) (hn : n ≤ 1099511627776) :
    Calls Tryd.prog 35 #[.slice A n c, .func (.func 22) #[] #[]] w fun r w' => ∃ v : Int, r = .returned (.int .i64 v) ∧ (v ≥ 0 ↔ l.any isDoor = true) ∧ Below w.heap.size w w' := by
  have hl : l.length = n := hC.1
  have HC := Aside0.mk hC; clear hC
  go_enter Tryd.func35, Tryd.ntmps35
  go_wp2
  go_loopw [5, 8] (fun s5 s8 w' => ∃ k : Nat, k ≤ n ∧ s8 = .int .i64 k ∧ Aside0 ((l.take k).any isDoor = false) ∧ Below w.heap.size w w') (fun s5 s8 _ => n - (intOf s8).toNat)
  case atStart => exact ⟨0, Nat.zero_le _, rfl, ⟨by simp⟩, Below.refl _ _⟩
  case round =>
    obtain ⟨k, hk, rfl, HP, hb⟩ := hrel
    by_cases hlt : k < n
    · obtain ⟨ad, hA, d0, d1⟩ := at_T24 (Kd.C_below HC.out hb) (k : Int) (by omega) (by omega)
      cases hA
      rw [Int.toNat_natCast] at d0 d1
      have hk0 : (0 : Int) ≤ (k : Int) := Int.natCast_nonneg _
      have hk1 : (k : Int) < (n : Int) := by omega
      cases hd : isDoor (rd_T24 l k) with
      | true =>
        have HD := Aside0.mk (show impl_EndDoor.f (rd_T24 l k).f0 (rd_T24 l k).f1 = some true from congrArg some hd)
        have HA := Aside0.mk (hit_any (by omega) hd)
        clear hd
        go_wp2_with (go_at_call 22; refine (impl_EndDoor.calls _ _ true _ HD.out).mono ?_; rintro r w2 ⟨rfl, hb2⟩)
        go_ret
        exact ⟨_, rfl, by rw [HA.out]; simp, below_step hb hb2⟩
      | false =>
        have HD := Aside0.mk (show impl_EndDoor.f (rd_T24 l k).f0 (rd_T24 l k).f1 = some false from congrArg some hd)
        have HA := Aside0.mk (take_any (by omega) HP.out hd)
        clear hd
        go_wp2_with (go_at_call 22; refine (impl_EndDoor.calls _ _ false _ HD.out).mono ?_; rintro r w2 ⟨rfl, hb2⟩)
        go_roundw
        case rel => exact ⟨k + 1, by omega, by go_num, HA, below_step hb hb2⟩
        case measure => simp [intOf]; omega
    · obtain rfl : k = n := by omega
      go_wp2
      go_ret
      exact ⟨_, rfl, by have h := HP.out; rw [List.take_of_length_le (by omega)] at h; rw [h]; simp, hb⟩
theorem has_door (A : Option Addr) (n c : Nat) (l : List S24) (w : World) (hC : Kd.C k24 w A n l) (hn : n ≤ 1099511627776) :
    Calls Tryd.prog 20 #[.slice A n c, .func (.func 22) #[] #[]] w fun r w' => r = .returned (.bool (l.any isDoor)) ∧ Below w.heap.size w w' := by
  have HC := Aside0.mk hC; clear hC
  have HI := fun w hC => idx_door A n c l w hC hn
  obtain ⟨q, hq⟩ : ∃ q, l.any isDoor = q := ⟨_, rfl⟩
  rw [hq] at HI ⊢
  clear hq
  go_enter Tryd.func20, Tryd.ntmps20
  go_wp2_with (go_at_call 35; refine (HI _ HC.out).mono ?_; rintro r w2 ⟨v, rfl, hv, hb2⟩)
  go_ret
  refine ⟨?_, hb2⟩
  cases q
  · have : ¬ (0 ≤ v) := fun h2 => by simpa using hv.1 h2
    simp [this]
  · have : 0 ≤ v := hv.2 rfl
    simp [this]
def slices_ContainsFunc_End.f (l0 : List S24) : Option Bool := if l0.length ≤ 1099511627776 then some (l0.any isDoor) else none
theorem slices_ContainsFunc_End.calls (A0 : Option Addr) (c0 : Nat) (l0 : List (S24)) (r : Bool) (w : World) (hr0 : Kd.C k24 w A0 l0.length l0) (hc0 : l0.length ≤ c0) (h : slices_ContainsFunc_End.f l0 = some r) :
    Calls Tryd.prog 20 #[.slice A0 l0.length c0, .func (.func 22) #[] #[]] w fun e w' => e = .returned (.bool r) ∧ Below w.heap.size w w' := by
  unfold slices_ContainsFunc_End.f at h
  split at h
  · rename_i hs
    obtain rfl := Option.some.inj h
    exact has_door A0 l0.length c0 l0 w hr0 hs
  · cases h
end Go.Proofs.YtijompkonaiagaaDoor.Q
namespace Go.Proofs.YtijompkonaiagaaDoor.Q
open Go.RowKit Go.Proofs.YtijompkonaiagaaDoorW.PrintWords Go.Proofs.YtijompkonaiagaaDoorW.PrintMore Go.Proofs.YtijompkonaiagaaDoor.Z
set_option linter.unusedVariables false
set_option linter.unusedSimpArgs false
theorem spec_TextPieces_to (k : Nat) (hk : 2000 < k) (l : List UInt8) (hl : l.length ≤ 140737488355328) : spec_TextPieces.f k (mkB l) = some ((pieces l).map pcTo) := by
  unfold spec_TextPieces.f spec_TextOk.f pieces
  rw [size_mkB, if_pos hl, bl_of, Option.bind_some]
  cases h2 : textOk l
  · simp
  · have hl2 := textOk_len h2
    rw [if_pos rfl, if_pos rfl, spec_pieces_to k l (by omega) (by omega)]
    rfl
theorem spec_names_l0 (ps : List Pc) (hps : ps.length ≤ 1000) (n : Nat) : ∀ (k : Nat) (acc : List S24) (i : Nat), ps.length - i ≤ n → n < k → i ≤ ps.length → acc.length ≤ i →
    spec_TextNames.l0 k acc (ps.map pcTo) i = some (acc ++ (names (ps.drop i)).map enTo) := by
  induction n with
  | zero =>
    intro k acc i hn hk hi ha
    obtain ⟨k, rfl⟩ : ∃ m, k = m + 1 := ⟨k - 1, by omega⟩
    simp only [spec_TextNames.l0]
    rw [if_neg (by rw [List.length_map]; omega), List.drop_of_length_le (by omega)]
    simp [names]
  | succ n ih =>
    intro k acc i hn hk hi ha
    obtain ⟨k, rfl⟩ : ∃ m, k = m + 1 := ⟨k - 1, by omega⟩
    simp only [spec_TextNames.l0]
    by_cases hlt : i < ps.length
    · obtain ⟨p, hp⟩ : ∃ p, ps[i]? = some p := ⟨_, List.getElem?_eq_getElem hlt⟩
      have q0 : (i : Int) < (ps.length : Int) := by omega
      have q1 : (0 : Int) ≤ (i : Int) := by omega
      have q2 : acc.length < 8796093022208 := by omega
      have ih1 := ih k (acc ++ [enTo p.fin]) (i + 1) (by omega) (by omega) (by omega) (by rw [List.length_append, List.length_singleton]; omega)
      have ih2 := ih k acc (i + 1) (by omega) (by omega) (by omega) (by omega)
      have hw3 : wrap64 ((i : Int) + 1) = ((i + 1 : Nat) : Int) := by rw [w64 (by omega)]; omega
      have hr := rd_pc ps i p hp
      have hf1 : (rd_T56 (ps.map pcTo) (i : Int)).f1 = p.named := by rw [hr]; rfl
      have hf2 : (rd_T56 (ps.map pcTo) (i : Int)).f2.f0 = p.fin.addr := by rw [hr]; rfl
      have hf3 : (rd_T56 (ps.map pcTo) (i : Int)).f2.f1 = p.fin.port := by rw [hr]; rfl
      simp only [hf1, hf2, hf3, hw3, List.length_map, q0, q1, q2, if_true]
      rw [drop_of hp, names_cons]
      cases hn : p.named
      · rw [if_neg (by simp)]
        exact ih2
      · rw [if_pos rfl]
        refine ih1.trans ?_
        simp [enTo]
    · rw [if_neg (by rw [List.length_map]; omega), List.drop_of_length_le (by omega)]
      simp [names]
theorem spec_TextNames_to (k : Nat) (hk : 2000 < k) (l : List UInt8) (hl : l.length ≤ 140737488355328) : spec_TextNames.f k (mkB l) = some ((names (pieces l)).map enTo) := by
  have h := pieces_len l
  unfold spec_TextNames.f
  rw [spec_TextPieces_to k hk l hl, Option.bind_some]
  have := spec_names_l0 (pieces l) (by omega) 1000 k [] 0 (by omega) (by omega) (by omega) (by simp)
  rw [List.drop_zero, List.nil_append] at this
  exact this
theorem names_len (l : List UInt8) : (names (pieces l)).length ≤ 40 := by
  have h := pieces_len l
  unfold names
  rw [List.length_map]
  have h9 := List.length_filter_le (fun p : Pc => p.named) (pieces l)
  omega
theorem rd_en (es : List En) (i : Nat) (e : En) (h : es[i]? = some e) : rd_T24 (es.map enTo) (i : Int) = enTo e := by
  unfold rd_T24
  rw [Int.toNat_natCast, List.getD_eq_getElem?_getD, List.getElem?_map, h]
  rfl
theorem own_l0 (es : List En) (hes : es.length ≤ 1000) (n : Nat) : ∀ (k i : Nat), es.length - i ≤ n → n < k → i ≤ es.length →
    spec_l21Own.l0 k (es.map enTo) i = some (!(es.drop i).any doorB) := by
  induction n with
  | zero =>
    intro k i hn hk hi
    obtain ⟨k, rfl⟩ : ∃ m, k = m + 1 := ⟨k - 1, by omega⟩
    simp only [spec_l21Own.l0]
    rw [if_neg (by rw [List.length_map]; omega), List.drop_of_length_le (by omega)]
    rfl
  | succ n ih =>
    intro k i hn hk hi
    obtain ⟨k, rfl⟩ : ∃ m, k = m + 1 := ⟨k - 1, by omega⟩
    simp only [spec_l21Own.l0]
    by_cases hlt : i < es.length
    · obtain ⟨e, he⟩ : ∃ e, es[i]? = some e := ⟨_, List.getElem?_eq_getElem hlt⟩
      have ih1 := ih k (i + 1) (by omega) (by omega) (by omega)
      have hw3 : wrap64 ((i : Int) + 1) = ((i + 1 : Nat) : Int) := by rw [w64 (by omega)]; omega
      rw [if_pos (by rw [List.length_map]; omega), if_pos (by omega), rd_en es i e he, hw3, ih1, drop_of he]
      show (some (doorB ⟨e.addr, e.port⟩)).bind _ = _
      rw [Option.bind_some, show (⟨e.addr, e.port⟩ : En) = e from rfl]
      cases hd : doorB e
      · simp [hd]
      · simp [hd]
    · rw [if_neg (by rw [List.length_map]; omega), List.drop_of_length_le (by omega)]
      rfl
theorem spec_l21Own_to (k : Nat) (hk : 2000 < k) (l : List UInt8) (hl : l.length ≤ 140737488355328) : spec_l21Own.f k (mkB l) = some (!(names (pieces l)).any doorB) := by
  have h := names_len l
  unfold spec_l21Own.f
  rw [spec_TextNames_to k hk l hl, Option.bind_some]
  have := own_l0 (names (pieces l)) (by omega) 1000 k 0 (by omega) (by omega) (by omega)
  rw [List.drop_zero] at this
  exact this
def sayOk (l : List UInt8) : Bool := decide (l.length ≤ 24) && textOk l && heldN l == 0
theorem zero_beq (n : Nat) : ((n : Int) == 0) = (n == 0) := by
  rw [Bool.eq_iff_iff, beq_iff_eq, beq_iff_eq]
  omega
theorem impl_saying_to (l : List UInt8) (hl : l.length ≤ 140737488355328) : impl_saying.f (mkB l) = some (sayOk l) := by
  unfold impl_saying.f impl_TextOk.f impl_held.f sayOk
  rw [size_mkB]
  by_cases h : l.length ≤ 24
  · rw [if_pos (by omega), if_pos (by omega), Option.bind_some, bl_of, decide_eq_true h, Bool.true_and]
    cases textOk l
    · simp
    · rw [if_pos rfl, if_pos (by omega), Option.bind_some, Bool.true_and, zero_beq]
  · rw [if_neg (by omega), decide_eq_false h]
    simp
theorem spec_l21Whole_to (l : List UInt8) (hl : l.length ≤ 140737488355328) : spec_l21Whole.f (mkB l) = some (sayOk l) := by
  unfold spec_l21Whole.f spec_TextOk.f spec_l2Held.f sayOk
  rw [size_mkB, if_pos hl, Option.bind_some, bl_of]
  cases h2 : textOk l
  · simp
  · rw [if_pos rfl]
    by_cases h : l.length ≤ 24
    · rw [if_pos (by omega), if_pos (by omega), Option.bind_some, decide_eq_true h, Bool.true_and, Bool.true_and, zero_beq]
    · rw [if_neg (by omega), decide_eq_false h]
      simp
def convB (i o : En) (up down : List UInt8) : Bool := insideB i && outsideB o && sayOk up && sayOk down && !(names (pieces up)).any doorB
theorem any_door (es : List En) : (es.map enTo).any isDoor = es.any doorB := by rw [List.any_map]; rfl
end Go.Proofs.YtijompkonaiagaaDoor.Q
namespace Go.Proofs.YtijompkonaiagaaDoor.Z
open Go.RowKit Go.Proofs.YtijompkonaiagaaDoorW.PrintWords Go.Proofs.YtijompkonaiagaaDoorW.PrintLast Go.Proofs.YtijompkonaiagaaDoorW.PrintMore
set_option linter.unusedVariables false
set_option linter.unusedSimpArgs false
attribute [local go_sem ↓] Go.wp_at_zero Go.wp_at_succ
set_option maxRecDepth 100000 in
set_option maxHeartbeats 4000000 in
theorem spec_conv (k : Nat) (hk : 3000 < k) (i o : En) (up down : List UInt8) (hu : up.length ≤ 1000000) (hd : down.length ≤ 1000000) (w : World) :
    Calls Tryd.prog 5 #[vEn i, vEn o, vS up, vS down] w fun r w' => r = .returned (.tuple #[(if Q.convB i o up down = true then .agg #[.int .i64 i.addr, .int .i64 i.port, .int .i64 o.addr, .int .i64 o.port, .string (Q.mkB up), .string (Q.mkB down), .int .i64 0, .int .i64 0, .string ⟨#[]⟩, .string ⟨#[]⟩] else .agg #[.int .i64 0, .int .i64 0, .int .i64 0, .int .i64 0, .string ⟨#[]⟩, .string ⟨#[]⟩, .int .i64 0, .int .i64 0, .string ⟨#[]⟩, .string ⟨#[]⟩]), .bool (Q.convB i o up down)]) ∧ Below w.heap.size w w' := by
  have B0 := Aside0.mk (Below.refl w.heap.size w)
  obtain ⟨b0, e0⟩ : ∃ b, insideB i = b := ⟨_, rfl⟩
  have F0 := Aside0.mk (show Q.spec_EndInside.f i.addr i.port = some b0 from congrArg some e0)
  obtain ⟨b1, e1⟩ : ∃ b, outsideB o = b := ⟨_, rfl⟩
  have F1 := Aside0.mk (show Q.spec_EndOutside.f o.addr o.port = some b1 from congrArg some e1)
  obtain ⟨b2, e2⟩ : ∃ b, Q.sayOk up = b := ⟨_, rfl⟩
  have F2 := Aside0.mk (show Q.spec_l21Whole.f (Q.mkB up) = some b2 from by rw [Q.spec_l21Whole_to up (by omega), e2])
  obtain ⟨b3, e3⟩ : ∃ b, (!(Q.names (Q.pieces up)).any doorB) = b := ⟨_, rfl⟩
  have F3 := Aside0.mk (show Q.spec_l21Own.f k (Q.mkB up) = some b3 from by rw [Q.spec_l21Own_to k (by omega) up (by omega), e3])
  obtain ⟨b4, e4⟩ : ∃ b, Q.sayOk down = b := ⟨_, rfl⟩
  have F4 := Aside0.mk (show Q.spec_l21Whole.f (Q.mkB down) = some b4 from by rw [Q.spec_l21Whole_to down (by omega), e4])
  have hconv : Q.convB i o up down = (b0 && b1 && b2 && b4 && b3) := by unfold Q.convB; rw [e0, e1, e2, e3, e4]
  clear e0 e1 e2 e3 e4
  cases b0 with
  | false =>
    have hc : Q.convB i o up down = false := hconv.trans (by simp)
    rw [hc, if_neg (by decide)]
    clear hconv hc
    go_enter Tryd.func5, Tryd.ntmps5
    go_wp2_with (first | (go_at_call 13; with_reducible refine (Q.spec_EndInside.calls i.addr i.port _ _ F0.out).mono ?_; rintro r w1 ⟨rfl, hb1⟩; obtain ⟨hb1c, hb1f, hb1z⟩ := bcell hb1; (try simp at hb1z); (try have hb10 : w.heap.size < w1.heap.size := by omega); (try have hb11 : w.heap.size + 1 < w1.heap.size := by omega); (try have hb12 : w.heap.size + 2 < w1.heap.size := by omega); have B1 := Aside0.mk (show Below w.heap.size w w1 from (by refine below_step ?_ hb1; repeat (first | (with_reducible exact B0.out) | (with_reducible apply below_alloc) | (with_reducible apply pw_below_drewN) | (with_reducible apply below_drew1) | with_reducible refine below_set ?_ (by first | (with_reducible exact Nat.le_refl _) | (with_reducible assumption) | (simp; done) | omega | (simp; omega)))))))
    refine bodyPost_ret (v := (.tuple #[(.agg #[.int .i64 0, .int .i64 0, .int .i64 0, .int .i64 0, .string ⟨#[]⟩, .string ⟨#[]⟩, .int .i64 0, .int .i64 0, .string ⟨#[]⟩, .string ⟨#[]⟩]), .bool false])) (by simp [results, Tryd.results5, go_sem, zEn, *]) rfl ⟨by simp, (by repeat (first | (with_reducible exact B1.out) | (with_reducible apply below_alloc) | (with_reducible apply pw_below_drewN) | (with_reducible apply below_drew1) | with_reducible refine below_set ?_ (by first | (with_reducible exact Nat.le_refl _) | (with_reducible assumption) | (simp; done) | omega | (simp; omega))))⟩
  | true =>
    cases b1 with
    | false =>
      have hc : Q.convB i o up down = false := hconv.trans (by simp)
      rw [hc, if_neg (by decide)]
      clear hconv hc
      go_enter Tryd.func5, Tryd.ntmps5
      go_wp2_with (first | (go_at_call 13; with_reducible refine (Q.spec_EndInside.calls i.addr i.port _ _ F0.out).mono ?_; rintro r w1 ⟨rfl, hb1⟩; obtain ⟨hb1c, hb1f, hb1z⟩ := bcell hb1; (try simp at hb1z); (try have hb10 : w.heap.size < w1.heap.size := by omega); (try have hb11 : w.heap.size + 1 < w1.heap.size := by omega); (try have hb12 : w.heap.size + 2 < w1.heap.size := by omega); have B1 := Aside0.mk (show Below w.heap.size w w1 from (by refine below_step ?_ hb1; repeat (first | (with_reducible exact B0.out) | (with_reducible apply below_alloc) | (with_reducible apply pw_below_drewN) | (with_reducible apply below_drew1) | with_reducible refine below_set ?_ (by first | (with_reducible exact Nat.le_refl _) | (with_reducible assumption) | (simp; done) | omega | (simp; omega)))))) | (go_at_call 14; with_reducible refine (Q.spec_EndOutside.calls o.addr o.port _ _ F1.out).mono ?_; rintro r w2 ⟨rfl, hb2⟩; obtain ⟨hb2c, hb2f, hb2z⟩ := bcell hb2; (try simp at hb2z); (try have hb20 : w.heap.size < w2.heap.size := by omega); (try have hb21 : w.heap.size + 1 < w2.heap.size := by omega); (try have hb22 : w.heap.size + 2 < w2.heap.size := by omega); have B2 := Aside0.mk (show Below w.heap.size w w2 from (by refine below_step ?_ hb2; repeat (first | (with_reducible exact B1.out) | (with_reducible apply below_alloc) | (with_reducible apply pw_below_drewN) | (with_reducible apply below_drew1) | with_reducible refine below_set ?_ (by first | (with_reducible exact Nat.le_refl _) | (with_reducible assumption) | (simp; done) | omega | (simp; omega)))))))
      refine bodyPost_ret (v := (.tuple #[(.agg #[.int .i64 0, .int .i64 0, .int .i64 0, .int .i64 0, .string ⟨#[]⟩, .string ⟨#[]⟩, .int .i64 0, .int .i64 0, .string ⟨#[]⟩, .string ⟨#[]⟩]), .bool false])) (by simp [results, Tryd.results5, go_sem, zEn, *]) rfl ⟨by simp, (by repeat (first | (with_reducible exact B2.out) | (with_reducible apply below_alloc) | (with_reducible apply pw_below_drewN) | (with_reducible apply below_drew1) | with_reducible refine below_set ?_ (by first | (with_reducible exact Nat.le_refl _) | (with_reducible assumption) | (simp; done) | omega | (simp; omega))))⟩
    | true =>
      cases b2 with
      | false =>
        have hc : Q.convB i o up down = false := hconv.trans (by simp)
        rw [hc, if_neg (by decide)]
        clear hconv hc
        go_enter Tryd.func5, Tryd.ntmps5
        go_wp2_with (first | (go_at_call 13; with_reducible refine (Q.spec_EndInside.calls i.addr i.port _ _ F0.out).mono ?_; rintro r w1 ⟨rfl, hb1⟩; obtain ⟨hb1c, hb1f, hb1z⟩ := bcell hb1; (try simp at hb1z); (try have hb10 : w.heap.size < w1.heap.size := by omega); (try have hb11 : w.heap.size + 1 < w1.heap.size := by omega); (try have hb12 : w.heap.size + 2 < w1.heap.size := by omega); have B1 := Aside0.mk (show Below w.heap.size w w1 from (by refine below_step ?_ hb1; repeat (first | (with_reducible exact B0.out) | (with_reducible apply below_alloc) | (with_reducible apply pw_below_drewN) | (with_reducible apply below_drew1) | with_reducible refine below_set ?_ (by first | (with_reducible exact Nat.le_refl _) | (with_reducible assumption) | (simp; done) | omega | (simp; omega)))))) | (go_at_call 14; with_reducible refine (Q.spec_EndOutside.calls o.addr o.port _ _ F1.out).mono ?_; rintro r w2 ⟨rfl, hb2⟩; obtain ⟨hb2c, hb2f, hb2z⟩ := bcell hb2; (try simp at hb2z); (try have hb20 : w.heap.size < w2.heap.size := by omega); (try have hb21 : w.heap.size + 1 < w2.heap.size := by omega); (try have hb22 : w.heap.size + 2 < w2.heap.size := by omega); have B2 := Aside0.mk (show Below w.heap.size w w2 from (by refine below_step ?_ hb2; repeat (first | (with_reducible exact B1.out) | (with_reducible apply below_alloc) | (with_reducible apply pw_below_drewN) | (with_reducible apply below_drew1) | with_reducible refine below_set ?_ (by first | (with_reducible exact Nat.le_refl _) | (with_reducible assumption) | (simp; done) | omega | (simp; omega)))))) | (go_at_call 15; with_reducible refine (Q.spec_l21Whole.calls (Q.mkB up) _ _ F2.out).mono ?_; rintro r w3 ⟨rfl, hb3⟩; obtain ⟨hb3c, hb3f, hb3z⟩ := bcell hb3; (try simp at hb3z); (try have hb30 : w.heap.size < w3.heap.size := by omega); (try have hb31 : w.heap.size + 1 < w3.heap.size := by omega); (try have hb32 : w.heap.size + 2 < w3.heap.size := by omega); have B3 := Aside0.mk (show Below w.heap.size w w3 from (by refine below_step ?_ hb3; repeat (first | (with_reducible exact B2.out) | (with_reducible apply below_alloc) | (with_reducible apply pw_below_drewN) | (with_reducible apply below_drew1) | with_reducible refine below_set ?_ (by first | (with_reducible exact Nat.le_refl _) | (with_reducible assumption) | (simp; done) | omega | (simp; omega)))))))
        refine bodyPost_ret (v := (.tuple #[(.agg #[.int .i64 0, .int .i64 0, .int .i64 0, .int .i64 0, .string ⟨#[]⟩, .string ⟨#[]⟩, .int .i64 0, .int .i64 0, .string ⟨#[]⟩, .string ⟨#[]⟩]), .bool false])) (by simp [results, Tryd.results5, go_sem, zEn, *]) rfl ⟨by simp, (by repeat (first | (with_reducible exact B3.out) | (with_reducible apply below_alloc) | (with_reducible apply pw_below_drewN) | (with_reducible apply below_drew1) | with_reducible refine below_set ?_ (by first | (with_reducible exact Nat.le_refl _) | (with_reducible assumption) | (simp; done) | omega | (simp; omega))))⟩
      | true =>
        cases b3 with
        | false =>
          have hc : Q.convB i o up down = false := hconv.trans (by simp)
          rw [hc, if_neg (by decide)]
          clear hconv hc
          go_enter Tryd.func5, Tryd.ntmps5
          go_wp2_with (first | (go_at_call 13; with_reducible refine (Q.spec_EndInside.calls i.addr i.port _ _ F0.out).mono ?_; rintro r w1 ⟨rfl, hb1⟩; obtain ⟨hb1c, hb1f, hb1z⟩ := bcell hb1; (try simp at hb1z); (try have hb10 : w.heap.size < w1.heap.size := by omega); (try have hb11 : w.heap.size + 1 < w1.heap.size := by omega); (try have hb12 : w.heap.size + 2 < w1.heap.size := by omega); have B1 := Aside0.mk (show Below w.heap.size w w1 from (by refine below_step ?_ hb1; repeat (first | (with_reducible exact B0.out) | (with_reducible apply below_alloc) | (with_reducible apply pw_below_drewN) | (with_reducible apply below_drew1) | with_reducible refine below_set ?_ (by first | (with_reducible exact Nat.le_refl _) | (with_reducible assumption) | (simp; done) | omega | (simp; omega)))))) | (go_at_call 14; with_reducible refine (Q.spec_EndOutside.calls o.addr o.port _ _ F1.out).mono ?_; rintro r w2 ⟨rfl, hb2⟩; obtain ⟨hb2c, hb2f, hb2z⟩ := bcell hb2; (try simp at hb2z); (try have hb20 : w.heap.size < w2.heap.size := by omega); (try have hb21 : w.heap.size + 1 < w2.heap.size := by omega); (try have hb22 : w.heap.size + 2 < w2.heap.size := by omega); have B2 := Aside0.mk (show Below w.heap.size w w2 from (by refine below_step ?_ hb2; repeat (first | (with_reducible exact B1.out) | (with_reducible apply below_alloc) | (with_reducible apply pw_below_drewN) | (with_reducible apply below_drew1) | with_reducible refine below_set ?_ (by first | (with_reducible exact Nat.le_refl _) | (with_reducible assumption) | (simp; done) | omega | (simp; omega)))))) | (go_at_call 15; with_reducible refine (Q.spec_l21Whole.calls (Q.mkB up) _ _ F2.out).mono ?_; rintro r w3 ⟨rfl, hb3⟩; obtain ⟨hb3c, hb3f, hb3z⟩ := bcell hb3; (try simp at hb3z); (try have hb30 : w.heap.size < w3.heap.size := by omega); (try have hb31 : w.heap.size + 1 < w3.heap.size := by omega); (try have hb32 : w.heap.size + 2 < w3.heap.size := by omega); have B3 := Aside0.mk (show Below w.heap.size w w3 from (by refine below_step ?_ hb3; repeat (first | (with_reducible exact B2.out) | (with_reducible apply below_alloc) | (with_reducible apply pw_below_drewN) | (with_reducible apply below_drew1) | with_reducible refine below_set ?_ (by first | (with_reducible exact Nat.le_refl _) | (with_reducible assumption) | (simp; done) | omega | (simp; omega)))))) | (go_at_call 16; with_reducible refine (Q.spec_l21Own.calls k (Q.mkB up) _ _ F3.out).mono ?_; rintro r w4 ⟨rfl, hb4⟩; obtain ⟨hb4c, hb4f, hb4z⟩ := bcell hb4; (try simp at hb4z); (try have hb40 : w.heap.size < w4.heap.size := by omega); (try have hb41 : w.heap.size + 1 < w4.heap.size := by omega); (try have hb42 : w.heap.size + 2 < w4.heap.size := by omega); have B4 := Aside0.mk (show Below w.heap.size w w4 from (by refine below_step ?_ hb4; repeat (first | (with_reducible exact B3.out) | (with_reducible apply below_alloc) | (with_reducible apply pw_below_drewN) | (with_reducible apply below_drew1) | with_reducible refine below_set ?_ (by first | (with_reducible exact Nat.le_refl _) | (with_reducible assumption) | (simp; done) | omega | (simp; omega)))))))
          refine bodyPost_ret (v := (.tuple #[(.agg #[.int .i64 0, .int .i64 0, .int .i64 0, .int .i64 0, .string ⟨#[]⟩, .string ⟨#[]⟩, .int .i64 0, .int .i64 0, .string ⟨#[]⟩, .string ⟨#[]⟩]), .bool false])) (by simp [results, Tryd.results5, go_sem, zEn, *]) rfl ⟨by simp, (by repeat (first | (with_reducible exact B4.out) | (with_reducible apply below_alloc) | (with_reducible apply pw_below_drewN) | (with_reducible apply below_drew1) | with_reducible refine below_set ?_ (by first | (with_reducible exact Nat.le_refl _) | (with_reducible assumption) | (simp; done) | omega | (simp; omega))))⟩
        | true =>
          cases b4 with
          | false =>
            have hc : Q.convB i o up down = false := hconv.trans (by simp)
            rw [hc, if_neg (by decide)]
            clear hconv hc
            go_enter Tryd.func5, Tryd.ntmps5
            go_wp2_with (first | (go_at_call 13; with_reducible refine (Q.spec_EndInside.calls i.addr i.port _ _ F0.out).mono ?_; rintro r w1 ⟨rfl, hb1⟩; obtain ⟨hb1c, hb1f, hb1z⟩ := bcell hb1; (try simp at hb1z); (try have hb10 : w.heap.size < w1.heap.size := by omega); (try have hb11 : w.heap.size + 1 < w1.heap.size := by omega); (try have hb12 : w.heap.size + 2 < w1.heap.size := by omega); have B1 := Aside0.mk (show Below w.heap.size w w1 from (by refine below_step ?_ hb1; repeat (first | (with_reducible exact B0.out) | (with_reducible apply below_alloc) | (with_reducible apply pw_below_drewN) | (with_reducible apply below_drew1) | with_reducible refine below_set ?_ (by first | (with_reducible exact Nat.le_refl _) | (with_reducible assumption) | (simp; done) | omega | (simp; omega)))))) | (go_at_call 14; with_reducible refine (Q.spec_EndOutside.calls o.addr o.port _ _ F1.out).mono ?_; rintro r w2 ⟨rfl, hb2⟩; obtain ⟨hb2c, hb2f, hb2z⟩ := bcell hb2; (try simp at hb2z); (try have hb20 : w.heap.size < w2.heap.size := by omega); (try have hb21 : w.heap.size + 1 < w2.heap.size := by omega); (try have hb22 : w.heap.size + 2 < w2.heap.size := by omega); have B2 := Aside0.mk (show Below w.heap.size w w2 from (by refine below_step ?_ hb2; repeat (first | (with_reducible exact B1.out) | (with_reducible apply below_alloc) | (with_reducible apply pw_below_drewN) | (with_reducible apply below_drew1) | with_reducible refine below_set ?_ (by first | (with_reducible exact Nat.le_refl _) | (with_reducible assumption) | (simp; done) | omega | (simp; omega)))))) | (go_at_call 15; with_reducible refine (Q.spec_l21Whole.calls (Q.mkB up) _ _ F2.out).mono ?_; rintro r w3 ⟨rfl, hb3⟩; obtain ⟨hb3c, hb3f, hb3z⟩ := bcell hb3; (try simp at hb3z); (try have hb30 : w.heap.size < w3.heap.size := by omega); (try have hb31 : w.heap.size + 1 < w3.heap.size := by omega); (try have hb32 : w.heap.size + 2 < w3.heap.size := by omega); have B3 := Aside0.mk (show Below w.heap.size w w3 from (by refine below_step ?_ hb3; repeat (first | (with_reducible exact B2.out) | (with_reducible apply below_alloc) | (with_reducible apply pw_below_drewN) | (with_reducible apply below_drew1) | with_reducible refine below_set ?_ (by first | (with_reducible exact Nat.le_refl _) | (with_reducible assumption) | (simp; done) | omega | (simp; omega)))))) | (go_at_call 16; with_reducible refine (Q.spec_l21Own.calls k (Q.mkB up) _ _ F3.out).mono ?_; rintro r w4 ⟨rfl, hb4⟩; obtain ⟨hb4c, hb4f, hb4z⟩ := bcell hb4; (try simp at hb4z); (try have hb40 : w.heap.size < w4.heap.size := by omega); (try have hb41 : w.heap.size + 1 < w4.heap.size := by omega); (try have hb42 : w.heap.size + 2 < w4.heap.size := by omega); have B4 := Aside0.mk (show Below w.heap.size w w4 from (by refine below_step ?_ hb4; repeat (first | (with_reducible exact B3.out) | (with_reducible apply below_alloc) | (with_reducible apply pw_below_drewN) | (with_reducible apply below_drew1) | with_reducible refine below_set ?_ (by first | (with_reducible exact Nat.le_refl _) | (with_reducible assumption) | (simp; done) | omega | (simp; omega)))))) | (go_at_call 15; with_reducible refine (Q.spec_l21Whole.calls (Q.mkB down) _ _ F4.out).mono ?_; rintro r w5 ⟨rfl, hb5⟩; obtain ⟨hb5c, hb5f, hb5z⟩ := bcell hb5; (try simp at hb5z); (try have hb50 : w.heap.size < w5.heap.size := by omega); (try have hb51 : w.heap.size + 1 < w5.heap.size := by omega); (try have hb52 : w.heap.size + 2 < w5.heap.size := by omega); have B5 := Aside0.mk (show Below w.heap.size w w5 from (by refine below_step ?_ hb5; repeat (first | (with_reducible exact B4.out) | (with_reducible apply below_alloc) | (with_reducible apply pw_below_drewN) | (with_reducible apply below_drew1) | with_reducible refine below_set ?_ (by first | (with_reducible exact Nat.le_refl _) | (with_reducible assumption) | (simp; done) | omega | (simp; omega)))))))
            refine bodyPost_ret (v := (.tuple #[(.agg #[.int .i64 0, .int .i64 0, .int .i64 0, .int .i64 0, .string ⟨#[]⟩, .string ⟨#[]⟩, .int .i64 0, .int .i64 0, .string ⟨#[]⟩, .string ⟨#[]⟩]), .bool false])) (by simp [results, Tryd.results5, go_sem, zEn, *]) rfl ⟨by simp, (by repeat (first | (with_reducible exact B5.out) | (with_reducible apply below_alloc) | (with_reducible apply pw_below_drewN) | (with_reducible apply below_drew1) | with_reducible refine below_set ?_ (by first | (with_reducible exact Nat.le_refl _) | (with_reducible assumption) | (simp; done) | omega | (simp; omega))))⟩
          | true =>
            have hc : Q.convB i o up down = true := hconv.trans (by simp)
            rw [hc, if_pos rfl]
            clear hconv hc
            go_enter Tryd.func5, Tryd.ntmps5
            go_wp2_with (first | (go_at_call 13; with_reducible refine (Q.spec_EndInside.calls i.addr i.port _ _ F0.out).mono ?_; rintro r w1 ⟨rfl, hb1⟩; obtain ⟨hb1c, hb1f, hb1z⟩ := bcell hb1; (try simp at hb1z); (try have hb10 : w.heap.size < w1.heap.size := by omega); (try have hb11 : w.heap.size + 1 < w1.heap.size := by omega); (try have hb12 : w.heap.size + 2 < w1.heap.size := by omega); have B1 := Aside0.mk (show Below w.heap.size w w1 from (by refine below_step ?_ hb1; repeat (first | (with_reducible exact B0.out) | (with_reducible apply below_alloc) | (with_reducible apply pw_below_drewN) | (with_reducible apply below_drew1) | with_reducible refine below_set ?_ (by first | (with_reducible exact Nat.le_refl _) | (with_reducible assumption) | (simp; done) | omega | (simp; omega)))))) | (go_at_call 14; with_reducible refine (Q.spec_EndOutside.calls o.addr o.port _ _ F1.out).mono ?_; rintro r w2 ⟨rfl, hb2⟩; obtain ⟨hb2c, hb2f, hb2z⟩ := bcell hb2; (try simp at hb2z); (try have hb20 : w.heap.size < w2.heap.size := by omega); (try have hb21 : w.heap.size + 1 < w2.heap.size := by omega); (try have hb22 : w.heap.size + 2 < w2.heap.size := by omega); have B2 := Aside0.mk (show Below w.heap.size w w2 from (by refine below_step ?_ hb2; repeat (first | (with_reducible exact B1.out) | (with_reducible apply below_alloc) | (with_reducible apply pw_below_drewN) | (with_reducible apply below_drew1) | with_reducible refine below_set ?_ (by first | (with_reducible exact Nat.le_refl _) | (with_reducible assumption) | (simp; done) | omega | (simp; omega)))))) | (go_at_call 15; with_reducible refine (Q.spec_l21Whole.calls (Q.mkB up) _ _ F2.out).mono ?_; rintro r w3 ⟨rfl, hb3⟩; obtain ⟨hb3c, hb3f, hb3z⟩ := bcell hb3; (try simp at hb3z); (try have hb30 : w.heap.size < w3.heap.size := by omega); (try have hb31 : w.heap.size + 1 < w3.heap.size := by omega); (try have hb32 : w.heap.size + 2 < w3.heap.size := by omega); have B3 := Aside0.mk (show Below w.heap.size w w3 from (by refine below_step ?_ hb3; repeat (first | (with_reducible exact B2.out) | (with_reducible apply below_alloc) | (with_reducible apply pw_below_drewN) | (with_reducible apply below_drew1) | with_reducible refine below_set ?_ (by first | (with_reducible exact Nat.le_refl _) | (with_reducible assumption) | (simp; done) | omega | (simp; omega)))))) | (go_at_call 16; with_reducible refine (Q.spec_l21Own.calls k (Q.mkB up) _ _ F3.out).mono ?_; rintro r w4 ⟨rfl, hb4⟩; obtain ⟨hb4c, hb4f, hb4z⟩ := bcell hb4; (try simp at hb4z); (try have hb40 : w.heap.size < w4.heap.size := by omega); (try have hb41 : w.heap.size + 1 < w4.heap.size := by omega); (try have hb42 : w.heap.size + 2 < w4.heap.size := by omega); have B4 := Aside0.mk (show Below w.heap.size w w4 from (by refine below_step ?_ hb4; repeat (first | (with_reducible exact B3.out) | (with_reducible apply below_alloc) | (with_reducible apply pw_below_drewN) | (with_reducible apply below_drew1) | with_reducible refine below_set ?_ (by first | (with_reducible exact Nat.le_refl _) | (with_reducible assumption) | (simp; done) | omega | (simp; omega)))))) | (go_at_call 15; with_reducible refine (Q.spec_l21Whole.calls (Q.mkB down) _ _ F4.out).mono ?_; rintro r w5 ⟨rfl, hb5⟩; obtain ⟨hb5c, hb5f, hb5z⟩ := bcell hb5; (try simp at hb5z); (try have hb50 : w.heap.size < w5.heap.size := by omega); (try have hb51 : w.heap.size + 1 < w5.heap.size := by omega); (try have hb52 : w.heap.size + 2 < w5.heap.size := by omega); have B5 := Aside0.mk (show Below w.heap.size w w5 from (by refine below_step ?_ hb5; repeat (first | (with_reducible exact B4.out) | (with_reducible apply below_alloc) | (with_reducible apply pw_below_drewN) | (with_reducible apply below_drew1) | with_reducible refine below_set ?_ (by first | (with_reducible exact Nat.le_refl _) | (with_reducible assumption) | (simp; done) | omega | (simp; omega)))))))
            refine bodyPost_ret (v := (.tuple #[(.agg #[.int .i64 i.addr, .int .i64 i.port, .int .i64 o.addr, .int .i64 o.port, .string (Q.mkB up), .string (Q.mkB down), .int .i64 0, .int .i64 0, .string ⟨#[]⟩, .string ⟨#[]⟩]), .bool true])) (by simp [results, Tryd.results5, go_sem, zEn, *]) rfl ⟨by simp, (by repeat (first | (with_reducible exact B5.out) | (with_reducible apply below_alloc) | (with_reducible apply pw_below_drewN) | (with_reducible apply below_drew1) | with_reducible refine below_set ?_ (by first | (with_reducible exact Nat.le_refl _) | (with_reducible assumption) | (simp; done) | omega | (simp; omega))))⟩
set_option maxRecDepth 100000 in
set_option maxHeartbeats 4000000 in
theorem impl_conv (k : Nat) (hk : 3000 < k) (i o : En) (up down : List UInt8) (hu : up.length ≤ 1000000) (hd : down.length ≤ 1000000) (w : World) (hV : VarsIn w) :
    Calls Tryd.prog 6 #[vEn i, vEn o, vS up, vS down] w fun r w' => r = .returned (.tuple #[(if Q.convB i o up down = true then .agg #[.int .i64 i.addr, .int .i64 i.port, .int .i64 o.addr, .int .i64 o.port, .string (Q.mkB up), .string (Q.mkB down), .int .i64 0, .int .i64 0, .string ⟨#[]⟩, .string ⟨#[]⟩] else .agg #[.int .i64 0, .int .i64 0, .int .i64 0, .int .i64 0, .string ⟨#[]⟩, .string ⟨#[]⟩, .int .i64 0, .int .i64 0, .string ⟨#[]⟩, .string ⟨#[]⟩]), .bool (Q.convB i o up down)]) ∧ Below w.heap.size w w' := by
  have B0 := Aside0.mk (Below.refl w.heap.size w)
  obtain ⟨b0, e0⟩ : ∃ b, insideB i = b := ⟨_, rfl⟩
  have F0 := Aside0.mk (show Q.impl_EndInside.f i.addr i.port = some b0 from congrArg some e0)
  obtain ⟨b1, e1⟩ : ∃ b, outsideB o = b := ⟨_, rfl⟩
  have F1 := Aside0.mk (show Q.impl_EndOutside.f o.addr o.port = some b1 from congrArg some e1)
  obtain ⟨b2, e2⟩ : ∃ b, Q.sayOk up = b := ⟨_, rfl⟩
  have F2 := Aside0.mk (show Q.impl_saying.f (Q.mkB up) = some b2 from by rw [Q.impl_saying_to up (by omega), e2])
  obtain ⟨b3, e3⟩ : ∃ b, Q.sayOk down = b := ⟨_, rfl⟩
  have F3 := Aside0.mk (show Q.impl_saying.f (Q.mkB down) = some b3 from by rw [Q.impl_saying_to down (by omega), e3])
  obtain ⟨b4, e4⟩ : ∃ b, (Q.names (Q.pieces up)).any doorB = b := ⟨_, rfl⟩
  have F4 := Aside0.mk (show Q.slices_ContainsFunc_End.f ((Q.names (Q.pieces up)).map Q.enTo) = some b4 from by (unfold Q.slices_ContainsFunc_End.f; rw [if_pos (by rw [List.length_map]; have := Q.names_len up; omega), Q.any_door, e4]))
  have hconv : Q.convB i o up down = (b0 && b1 && b2 && b3 && !b4) := by unfold Q.convB; rw [e0, e1, e2, e3, e4]
  have hnl := Q.names_len up
  have HN := Aside0.mk (Q.impl_TextNames_to k (by omega) up (by omega))
  have HV := Aside0.mk hV
  clear hV
  generalize (Q.names (Q.pieces up)).map Q.enTo = xs at HN F4
  clear e0 e1 e2 e3 e4
  cases b0 with
  | false =>
    have hc : Q.convB i o up down = false := hconv.trans (by simp)
    rw [hc, if_neg (by decide)]
    clear hconv hc
    go_enter Tryd.func6, Tryd.ntmps6
    go_wp2_with (first | (go_at_call 17; with_reducible refine (Q.impl_EndInside.calls i.addr i.port _ _ F0.out).mono ?_; rintro r w1 ⟨rfl, hb1⟩; obtain ⟨hb1c, hb1f, hb1z⟩ := bcell hb1; (try simp at hb1z); (try have hb10 : w.heap.size < w1.heap.size := by omega); (try have hb11 : w.heap.size + 1 < w1.heap.size := by omega); (try have hb12 : w.heap.size + 2 < w1.heap.size := by omega); have B1 := Aside0.mk (show Below w.heap.size w w1 from (by refine below_step ?_ hb1; repeat (first | (with_reducible exact B0.out) | (with_reducible apply below_alloc) | (with_reducible apply pw_below_drewN) | (with_reducible apply below_drew1) | with_reducible refine below_set ?_ (by first | (with_reducible exact Nat.le_refl _) | (with_reducible assumption) | (simp; done) | omega | (simp; omega)))))))
    refine bodyPost_ret (v := (.tuple #[(.agg #[.int .i64 0, .int .i64 0, .int .i64 0, .int .i64 0, .string ⟨#[]⟩, .string ⟨#[]⟩, .int .i64 0, .int .i64 0, .string ⟨#[]⟩, .string ⟨#[]⟩]), .bool false])) (by simp [results, Tryd.results6, go_sem, zEn, *]) rfl ⟨by simp, (by repeat (first | (with_reducible exact B1.out) | (with_reducible apply below_alloc) | (with_reducible apply pw_below_drewN) | (with_reducible apply below_drew1) | with_reducible refine below_set ?_ (by first | (with_reducible exact Nat.le_refl _) | (with_reducible assumption) | (simp; done) | omega | (simp; omega))))⟩
  | true =>
    cases b1 with
    | false =>
      have hc : Q.convB i o up down = false := hconv.trans (by simp)
      rw [hc, if_neg (by decide)]
      clear hconv hc
      go_enter Tryd.func6, Tryd.ntmps6
      go_wp2_with (first | (go_at_call 17; with_reducible refine (Q.impl_EndInside.calls i.addr i.port _ _ F0.out).mono ?_; rintro r w1 ⟨rfl, hb1⟩; obtain ⟨hb1c, hb1f, hb1z⟩ := bcell hb1; (try simp at hb1z); (try have hb10 : w.heap.size < w1.heap.size := by omega); (try have hb11 : w.heap.size + 1 < w1.heap.size := by omega); (try have hb12 : w.heap.size + 2 < w1.heap.size := by omega); have B1 := Aside0.mk (show Below w.heap.size w w1 from (by refine below_step ?_ hb1; repeat (first | (with_reducible exact B0.out) | (with_reducible apply below_alloc) | (with_reducible apply pw_below_drewN) | (with_reducible apply below_drew1) | with_reducible refine below_set ?_ (by first | (with_reducible exact Nat.le_refl _) | (with_reducible assumption) | (simp; done) | omega | (simp; omega)))))) | (go_at_call 18; with_reducible refine (Q.impl_EndOutside.calls o.addr o.port _ _ F1.out).mono ?_; rintro r w2 ⟨rfl, hb2⟩; obtain ⟨hb2c, hb2f, hb2z⟩ := bcell hb2; (try simp at hb2z); (try have hb20 : w.heap.size < w2.heap.size := by omega); (try have hb21 : w.heap.size + 1 < w2.heap.size := by omega); (try have hb22 : w.heap.size + 2 < w2.heap.size := by omega); have B2 := Aside0.mk (show Below w.heap.size w w2 from (by refine below_step ?_ hb2; repeat (first | (with_reducible exact B1.out) | (with_reducible apply below_alloc) | (with_reducible apply pw_below_drewN) | (with_reducible apply below_drew1) | with_reducible refine below_set ?_ (by first | (with_reducible exact Nat.le_refl _) | (with_reducible assumption) | (simp; done) | omega | (simp; omega)))))))
      refine bodyPost_ret (v := (.tuple #[(.agg #[.int .i64 0, .int .i64 0, .int .i64 0, .int .i64 0, .string ⟨#[]⟩, .string ⟨#[]⟩, .int .i64 0, .int .i64 0, .string ⟨#[]⟩, .string ⟨#[]⟩]), .bool false])) (by simp [results, Tryd.results6, go_sem, zEn, *]) rfl ⟨by simp, (by repeat (first | (with_reducible exact B2.out) | (with_reducible apply below_alloc) | (with_reducible apply pw_below_drewN) | (with_reducible apply below_drew1) | with_reducible refine below_set ?_ (by first | (with_reducible exact Nat.le_refl _) | (with_reducible assumption) | (simp; done) | omega | (simp; omega))))⟩
    | true =>
      cases b2 with
      | false =>
        have hc : Q.convB i o up down = false := hconv.trans (by simp)
        rw [hc, if_neg (by decide)]
        clear hconv hc
        go_enter Tryd.func6, Tryd.ntmps6
        go_wp2_with (first | (go_at_call 17; with_reducible refine (Q.impl_EndInside.calls i.addr i.port _ _ F0.out).mono ?_; rintro r w1 ⟨rfl, hb1⟩; obtain ⟨hb1c, hb1f, hb1z⟩ := bcell hb1; (try simp at hb1z); (try have hb10 : w.heap.size < w1.heap.size := by omega); (try have hb11 : w.heap.size + 1 < w1.heap.size := by omega); (try have hb12 : w.heap.size + 2 < w1.heap.size := by omega); have B1 := Aside0.mk (show Below w.heap.size w w1 from (by refine below_step ?_ hb1; repeat (first | (with_reducible exact B0.out) | (with_reducible apply below_alloc) | (with_reducible apply pw_below_drewN) | (with_reducible apply below_drew1) | with_reducible refine below_set ?_ (by first | (with_reducible exact Nat.le_refl _) | (with_reducible assumption) | (simp; done) | omega | (simp; omega)))))) | (go_at_call 18; with_reducible refine (Q.impl_EndOutside.calls o.addr o.port _ _ F1.out).mono ?_; rintro r w2 ⟨rfl, hb2⟩; obtain ⟨hb2c, hb2f, hb2z⟩ := bcell hb2; (try simp at hb2z); (try have hb20 : w.heap.size < w2.heap.size := by omega); (try have hb21 : w.heap.size + 1 < w2.heap.size := by omega); (try have hb22 : w.heap.size + 2 < w2.heap.size := by omega); have B2 := Aside0.mk (show Below w.heap.size w w2 from (by refine below_step ?_ hb2; repeat (first | (with_reducible exact B1.out) | (with_reducible apply below_alloc) | (with_reducible apply pw_below_drewN) | (with_reducible apply below_drew1) | with_reducible refine below_set ?_ (by first | (with_reducible exact Nat.le_refl _) | (with_reducible assumption) | (simp; done) | omega | (simp; omega)))))) | (go_at_call 19; with_reducible refine (Q.impl_saying.calls (Q.mkB up) _ _ F2.out).mono ?_; rintro r w3 ⟨rfl, hb3⟩; obtain ⟨hb3c, hb3f, hb3z⟩ := bcell hb3; (try simp at hb3z); (try have hb30 : w.heap.size < w3.heap.size := by omega); (try have hb31 : w.heap.size + 1 < w3.heap.size := by omega); (try have hb32 : w.heap.size + 2 < w3.heap.size := by omega); have B3 := Aside0.mk (show Below w.heap.size w w3 from (by refine below_step ?_ hb3; repeat (first | (with_reducible exact B2.out) | (with_reducible apply below_alloc) | (with_reducible apply pw_below_drewN) | (with_reducible apply below_drew1) | with_reducible refine below_set ?_ (by first | (with_reducible exact Nat.le_refl _) | (with_reducible assumption) | (simp; done) | omega | (simp; omega)))))))
        refine bodyPost_ret (v := (.tuple #[(.agg #[.int .i64 0, .int .i64 0, .int .i64 0, .int .i64 0, .string ⟨#[]⟩, .string ⟨#[]⟩, .int .i64 0, .int .i64 0, .string ⟨#[]⟩, .string ⟨#[]⟩]), .bool false])) (by simp [results, Tryd.results6, go_sem, zEn, *]) rfl ⟨by simp, (by repeat (first | (with_reducible exact B3.out) | (with_reducible apply below_alloc) | (with_reducible apply pw_below_drewN) | (with_reducible apply below_drew1) | with_reducible refine below_set ?_ (by first | (with_reducible exact Nat.le_refl _) | (with_reducible assumption) | (simp; done) | omega | (simp; omega))))⟩
      | true =>
        cases b3 with
        | false =>
          have hc : Q.convB i o up down = false := hconv.trans (by simp)
          rw [hc, if_neg (by decide)]
          clear hconv hc
          go_enter Tryd.func6, Tryd.ntmps6
          go_wp2_with (first | (go_at_call 17; with_reducible refine (Q.impl_EndInside.calls i.addr i.port _ _ F0.out).mono ?_; rintro r w1 ⟨rfl, hb1⟩; obtain ⟨hb1c, hb1f, hb1z⟩ := bcell hb1; (try simp at hb1z); (try have hb10 : w.heap.size < w1.heap.size := by omega); (try have hb11 : w.heap.size + 1 < w1.heap.size := by omega); (try have hb12 : w.heap.size + 2 < w1.heap.size := by omega); have B1 := Aside0.mk (show Below w.heap.size w w1 from (by refine below_step ?_ hb1; repeat (first | (with_reducible exact B0.out) | (with_reducible apply below_alloc) | (with_reducible apply pw_below_drewN) | (with_reducible apply below_drew1) | with_reducible refine below_set ?_ (by first | (with_reducible exact Nat.le_refl _) | (with_reducible assumption) | (simp; done) | omega | (simp; omega)))))) | (go_at_call 18; with_reducible refine (Q.impl_EndOutside.calls o.addr o.port _ _ F1.out).mono ?_; rintro r w2 ⟨rfl, hb2⟩; obtain ⟨hb2c, hb2f, hb2z⟩ := bcell hb2; (try simp at hb2z); (try have hb20 : w.heap.size < w2.heap.size := by omega); (try have hb21 : w.heap.size + 1 < w2.heap.size := by omega); (try have hb22 : w.heap.size + 2 < w2.heap.size := by omega); have B2 := Aside0.mk (show Below w.heap.size w w2 from (by refine below_step ?_ hb2; repeat (first | (with_reducible exact B1.out) | (with_reducible apply below_alloc) | (with_reducible apply pw_below_drewN) | (with_reducible apply below_drew1) | with_reducible refine below_set ?_ (by first | (with_reducible exact Nat.le_refl _) | (with_reducible assumption) | (simp; done) | omega | (simp; omega)))))) | (go_at_call 19; with_reducible refine (Q.impl_saying.calls (Q.mkB up) _ _ F2.out).mono ?_; rintro r w3 ⟨rfl, hb3⟩; obtain ⟨hb3c, hb3f, hb3z⟩ := bcell hb3; (try simp at hb3z); (try have hb30 : w.heap.size < w3.heap.size := by omega); (try have hb31 : w.heap.size + 1 < w3.heap.size := by omega); (try have hb32 : w.heap.size + 2 < w3.heap.size := by omega); have B3 := Aside0.mk (show Below w.heap.size w w3 from (by refine below_step ?_ hb3; repeat (first | (with_reducible exact B2.out) | (with_reducible apply below_alloc) | (with_reducible apply pw_below_drewN) | (with_reducible apply below_drew1) | with_reducible refine below_set ?_ (by first | (with_reducible exact Nat.le_refl _) | (with_reducible assumption) | (simp; done) | omega | (simp; omega)))))) | (go_at_call 19; with_reducible refine (Q.impl_saying.calls (Q.mkB down) _ _ F3.out).mono ?_; rintro r w4 ⟨rfl, hb4⟩; obtain ⟨hb4c, hb4f, hb4z⟩ := bcell hb4; (try simp at hb4z); (try have hb40 : w.heap.size < w4.heap.size := by omega); (try have hb41 : w.heap.size + 1 < w4.heap.size := by omega); (try have hb42 : w.heap.size + 2 < w4.heap.size := by omega); have B4 := Aside0.mk (show Below w.heap.size w w4 from (by refine below_step ?_ hb4; repeat (first | (with_reducible exact B3.out) | (with_reducible apply below_alloc) | (with_reducible apply pw_below_drewN) | (with_reducible apply below_drew1) | with_reducible refine below_set ?_ (by first | (with_reducible exact Nat.le_refl _) | (with_reducible assumption) | (simp; done) | omega | (simp; omega)))))))
          refine bodyPost_ret (v := (.tuple #[(.agg #[.int .i64 0, .int .i64 0, .int .i64 0, .int .i64 0, .string ⟨#[]⟩, .string ⟨#[]⟩, .int .i64 0, .int .i64 0, .string ⟨#[]⟩, .string ⟨#[]⟩]), .bool false])) (by simp [results, Tryd.results6, go_sem, zEn, *]) rfl ⟨by simp, (by repeat (first | (with_reducible exact B4.out) | (with_reducible apply below_alloc) | (with_reducible apply pw_below_drewN) | (with_reducible apply below_drew1) | with_reducible refine below_set ?_ (by first | (with_reducible exact Nat.le_refl _) | (with_reducible assumption) | (simp; done) | omega | (simp; omega))))⟩
        | true =>
          cases b4 with
          | true =>
            have hc : Q.convB i o up down = false := hconv.trans (by simp)
            rw [hc, if_neg (by decide)]
            clear hconv hc
            go_enter Tryd.func6, Tryd.ntmps6
            go_wp2_with (first | (go_at_call 17; with_reducible refine (Q.impl_EndInside.calls i.addr i.port _ _ F0.out).mono ?_; rintro r w1 ⟨rfl, hb1⟩; obtain ⟨hb1c, hb1f, hb1z⟩ := bcell hb1; (try simp at hb1z); (try have hb10 : w.heap.size < w1.heap.size := by omega); (try have hb11 : w.heap.size + 1 < w1.heap.size := by omega); (try have hb12 : w.heap.size + 2 < w1.heap.size := by omega); have B1 := Aside0.mk (show Below w.heap.size w w1 from (by refine below_step ?_ hb1; repeat (first | (with_reducible exact B0.out) | (with_reducible apply below_alloc) | (with_reducible apply pw_below_drewN) | (with_reducible apply below_drew1) | with_reducible refine below_set ?_ (by first | (with_reducible exact Nat.le_refl _) | (with_reducible assumption) | (simp; done) | omega | (simp; omega)))))) | (go_at_call 18; with_reducible refine (Q.impl_EndOutside.calls o.addr o.port _ _ F1.out).mono ?_; rintro r w2 ⟨rfl, hb2⟩; obtain ⟨hb2c, hb2f, hb2z⟩ := bcell hb2; (try simp at hb2z); (try have hb20 : w.heap.size < w2.heap.size := by omega); (try have hb21 : w.heap.size + 1 < w2.heap.size := by omega); (try have hb22 : w.heap.size + 2 < w2.heap.size := by omega); have B2 := Aside0.mk (show Below w.heap.size w w2 from (by refine below_step ?_ hb2; repeat (first | (with_reducible exact B1.out) | (with_reducible apply below_alloc) | (with_reducible apply pw_below_drewN) | (with_reducible apply below_drew1) | with_reducible refine below_set ?_ (by first | (with_reducible exact Nat.le_refl _) | (with_reducible assumption) | (simp; done) | omega | (simp; omega)))))) | (go_at_call 19; with_reducible refine (Q.impl_saying.calls (Q.mkB up) _ _ F2.out).mono ?_; rintro r w3 ⟨rfl, hb3⟩; obtain ⟨hb3c, hb3f, hb3z⟩ := bcell hb3; (try simp at hb3z); (try have hb30 : w.heap.size < w3.heap.size := by omega); (try have hb31 : w.heap.size + 1 < w3.heap.size := by omega); (try have hb32 : w.heap.size + 2 < w3.heap.size := by omega); have B3 := Aside0.mk (show Below w.heap.size w w3 from (by refine below_step ?_ hb3; repeat (first | (with_reducible exact B2.out) | (with_reducible apply below_alloc) | (with_reducible apply pw_below_drewN) | (with_reducible apply below_drew1) | with_reducible refine below_set ?_ (by first | (with_reducible exact Nat.le_refl _) | (with_reducible assumption) | (simp; done) | omega | (simp; omega)))))) | (go_at_call 19; with_reducible refine (Q.impl_saying.calls (Q.mkB down) _ _ F3.out).mono ?_; rintro r w4 ⟨rfl, hb4⟩; obtain ⟨hb4c, hb4f, hb4z⟩ := bcell hb4; (try simp at hb4z); (try have hb40 : w.heap.size < w4.heap.size := by omega); (try have hb41 : w.heap.size + 1 < w4.heap.size := by omega); (try have hb42 : w.heap.size + 2 < w4.heap.size := by omega); have B4 := Aside0.mk (show Below w.heap.size w w4 from (by refine below_step ?_ hb4; repeat (first | (with_reducible exact B3.out) | (with_reducible apply below_alloc) | (with_reducible apply pw_below_drewN) | (with_reducible apply below_drew1) | with_reducible refine below_set ?_ (by first | (with_reducible exact Nat.le_refl _) | (with_reducible assumption) | (simp; done) | omega | (simp; omega)))))) | (go_at_call 21; with_reducible refine (Q.impl_TextNames.calls k (Q.mkB up) _ _ (HV.out.next (by repeat (first | (with_reducible exact B4.out) | (with_reducible apply below_alloc) | (with_reducible apply pw_below_drewN) | (with_reducible apply below_drew1) | with_reducible refine below_set ?_ (by first | (with_reducible exact Nat.le_refl _) | (with_reducible assumption) | (simp; done) | omega | (simp; omega))))) HN.out).mono ?_; rintro r v5 ⟨x5, rfl, hx5, hb5n⟩; obtain ⟨hb5nc, hb5nf, hb5nz⟩ := bcell hb5n; (try simp at hb5nz); (try have hb5n0 : w.heap.size < v5.heap.size := by omega); (try have hb5n1 : w.heap.size + 1 < v5.heap.size := by omega); (try have hb5n2 : w.heap.size + 2 < v5.heap.size := by omega); have Bn := Aside0.mk (show Below w.heap.size w v5 from (by refine below_step ?_ hb5n; repeat (first | (with_reducible exact B4.out) | (with_reducible apply below_alloc) | (with_reducible apply pw_below_drewN) | (with_reducible apply below_drew1) | with_reducible refine below_set ?_ (by first | (with_reducible exact Nat.le_refl _) | (with_reducible assumption) | (simp; done) | omega | (simp; omega))))); obtain ⟨A5, c5, ex5⟩ := Kd.V_slice hx5; subst ex5; have HX5 := Aside0.mk hx5; clear hx5) | (go_at_call 20; with_reducible refine (Q.slices_ContainsFunc_End.calls A5 c5 _ _ _ (Kd.V_reads' HX5.out).2.2 (Kd.V_reads' HX5.out).2.1 F4.out).mono ?_; rintro r w5 ⟨rfl, hb5⟩; obtain ⟨hb5c, hb5f, hb5z⟩ := bcell hb5; (try simp at hb5z); (try have hb50 : w.heap.size < w5.heap.size := by omega); (try have hb51 : w.heap.size + 1 < w5.heap.size := by omega); (try have hb52 : w.heap.size + 2 < w5.heap.size := by omega); have B5 := Aside0.mk (show Below w.heap.size w w5 from (by refine below_step ?_ hb5; repeat (first | (with_reducible exact Bn.out) | (with_reducible apply below_alloc) | (with_reducible apply pw_below_drewN) | (with_reducible apply below_drew1) | with_reducible refine below_set ?_ (by first | (with_reducible exact Nat.le_refl _) | (with_reducible assumption) | (simp; done) | omega | (simp; omega)))))))
            refine bodyPost_ret (v := (.tuple #[(.agg #[.int .i64 0, .int .i64 0, .int .i64 0, .int .i64 0, .string ⟨#[]⟩, .string ⟨#[]⟩, .int .i64 0, .int .i64 0, .string ⟨#[]⟩, .string ⟨#[]⟩]), .bool false])) (by simp [results, Tryd.results6, go_sem, zEn, *]) rfl ⟨by simp, (by repeat (first | (with_reducible exact B5.out) | (with_reducible apply below_alloc) | (with_reducible apply pw_below_drewN) | (with_reducible apply below_drew1) | with_reducible refine below_set ?_ (by first | (with_reducible exact Nat.le_refl _) | (with_reducible assumption) | (simp; done) | omega | (simp; omega))))⟩
          | false =>
            have hc : Q.convB i o up down = true := hconv.trans (by simp)
            rw [hc, if_pos rfl]
            clear hconv hc
            go_enter Tryd.func6, Tryd.ntmps6
            go_wp2_with (first | (go_at_call 17; with_reducible refine (Q.impl_EndInside.calls i.addr i.port _ _ F0.out).mono ?_; rintro r w1 ⟨rfl, hb1⟩; obtain ⟨hb1c, hb1f, hb1z⟩ := bcell hb1; (try simp at hb1z); (try have hb10 : w.heap.size < w1.heap.size := by omega); (try have hb11 : w.heap.size + 1 < w1.heap.size := by omega); (try have hb12 : w.heap.size + 2 < w1.heap.size := by omega); have B1 := Aside0.mk (show Below w.heap.size w w1 from (by refine below_step ?_ hb1; repeat (first | (with_reducible exact B0.out) | (with_reducible apply below_alloc) | (with_reducible apply pw_below_drewN) | (with_reducible apply below_drew1) | with_reducible refine below_set ?_ (by first | (with_reducible exact Nat.le_refl _) | (with_reducible assumption) | (simp; done) | omega | (simp; omega)))))) | (go_at_call 18; with_reducible refine (Q.impl_EndOutside.calls o.addr o.port _ _ F1.out).mono ?_; rintro r w2 ⟨rfl, hb2⟩; obtain ⟨hb2c, hb2f, hb2z⟩ := bcell hb2; (try simp at hb2z); (try have hb20 : w.heap.size < w2.heap.size := by omega); (try have hb21 : w.heap.size + 1 < w2.heap.size := by omega); (try have hb22 : w.heap.size + 2 < w2.heap.size := by omega); have B2 := Aside0.mk (show Below w.heap.size w w2 from (by refine below_step ?_ hb2; repeat (first | (with_reducible exact B1.out) | (with_reducible apply below_alloc) | (with_reducible apply pw_below_drewN) | (with_reducible apply below_drew1) | with_reducible refine below_set ?_ (by first | (with_reducible exact Nat.le_refl _) | (with_reducible assumption) | (simp; done) | omega | (simp; omega)))))) | (go_at_call 19; with_reducible refine (Q.impl_saying.calls (Q.mkB up) _ _ F2.out).mono ?_; rintro r w3 ⟨rfl, hb3⟩; obtain ⟨hb3c, hb3f, hb3z⟩ := bcell hb3; (try simp at hb3z); (try have hb30 : w.heap.size < w3.heap.size := by omega); (try have hb31 : w.heap.size + 1 < w3.heap.size := by omega); (try have hb32 : w.heap.size + 2 < w3.heap.size := by omega); have B3 := Aside0.mk (show Below w.heap.size w w3 from (by refine below_step ?_ hb3; repeat (first | (with_reducible exact B2.out) | (with_reducible apply below_alloc) | (with_reducible apply pw_below_drewN) | (with_reducible apply below_drew1) | with_reducible refine below_set ?_ (by first | (with_reducible exact Nat.le_refl _) | (with_reducible assumption) | (simp; done) | omega | (simp; omega)))))) | (go_at_call 19; with_reducible refine (Q.impl_saying.calls (Q.mkB down) _ _ F3.out).mono ?_; rintro r w4 ⟨rfl, hb4⟩; obtain ⟨hb4c, hb4f, hb4z⟩ := bcell hb4; (try simp at hb4z); (try have hb40 : w.heap.size < w4.heap.size := by omega); (try have hb41 : w.heap.size + 1 < w4.heap.size := by omega); (try have hb42 : w.heap.size + 2 < w4.heap.size := by omega); have B4 := Aside0.mk (show Below w.heap.size w w4 from (by refine below_step ?_ hb4; repeat (first | (with_reducible exact B3.out) | (with_reducible apply below_alloc) | (with_reducible apply pw_below_drewN) | (with_reducible apply below_drew1) | with_reducible refine below_set ?_ (by first | (with_reducible exact Nat.le_refl _) | (with_reducible assumption) | (simp; done) | omega | (simp; omega)))))) | (go_at_call 21; with_reducible refine (Q.impl_TextNames.calls k (Q.mkB up) _ _ (HV.out.next (by repeat (first | (with_reducible exact B4.out) | (with_reducible apply below_alloc) | (with_reducible apply pw_below_drewN) | (with_reducible apply below_drew1) | with_reducible refine below_set ?_ (by first | (with_reducible exact Nat.le_refl _) | (with_reducible assumption) | (simp; done) | omega | (simp; omega))))) HN.out).mono ?_; rintro r v5 ⟨x5, rfl, hx5, hb5n⟩; obtain ⟨hb5nc, hb5nf, hb5nz⟩ := bcell hb5n; (try simp at hb5nz); (try have hb5n0 : w.heap.size < v5.heap.size := by omega); (try have hb5n1 : w.heap.size + 1 < v5.heap.size := by omega); (try have hb5n2 : w.heap.size + 2 < v5.heap.size := by omega); have Bn := Aside0.mk (show Below w.heap.size w v5 from (by refine below_step ?_ hb5n; repeat (first | (with_reducible exact B4.out) | (with_reducible apply below_alloc) | (with_reducible apply pw_below_drewN) | (with_reducible apply below_drew1) | with_reducible refine below_set ?_ (by first | (with_reducible exact Nat.le_refl _) | (with_reducible assumption) | (simp; done) | omega | (simp; omega))))); obtain ⟨A5, c5, ex5⟩ := Kd.V_slice hx5; subst ex5; have HX5 := Aside0.mk hx5; clear hx5) | (go_at_call 20; with_reducible refine (Q.slices_ContainsFunc_End.calls A5 c5 _ _ _ (Kd.V_reads' HX5.out).2.2 (Kd.V_reads' HX5.out).2.1 F4.out).mono ?_; rintro r w5 ⟨rfl, hb5⟩; obtain ⟨hb5c, hb5f, hb5z⟩ := bcell hb5; (try simp at hb5z); (try have hb50 : w.heap.size < w5.heap.size := by omega); (try have hb51 : w.heap.size + 1 < w5.heap.size := by omega); (try have hb52 : w.heap.size + 2 < w5.heap.size := by omega); have B5 := Aside0.mk (show Below w.heap.size w w5 from (by refine below_step ?_ hb5; repeat (first | (with_reducible exact Bn.out) | (with_reducible apply below_alloc) | (with_reducible apply pw_below_drewN) | (with_reducible apply below_drew1) | with_reducible refine below_set ?_ (by first | (with_reducible exact Nat.le_refl _) | (with_reducible assumption) | (simp; done) | omega | (simp; omega)))))))
            refine bodyPost_ret (v := (.tuple #[(.agg #[.int .i64 i.addr, .int .i64 i.port, .int .i64 o.addr, .int .i64 o.port, .string (Q.mkB up), .string (Q.mkB down), .int .i64 0, .int .i64 0, .string ⟨#[]⟩, .string ⟨#[]⟩]), .bool true])) (by simp [results, Tryd.results6, go_sem, zEn, *]) rfl ⟨by simp, (by repeat (first | (with_reducible exact B5.out) | (with_reducible apply below_alloc) | (with_reducible apply pw_below_drewN) | (with_reducible apply below_drew1) | with_reducible refine below_set ?_ (by first | (with_reducible exact Nat.le_refl _) | (with_reducible assumption) | (simp; done) | omega | (simp; omega))))⟩
end Go.Proofs.YtijompkonaiagaaDoor.Z
namespace Go.Proofs.YtijompkonaiagaaDoor.Z
open Go.RowKit Go.Proofs.YtijompkonaiagaaDoorW.PrintWords Go.Proofs.YtijompkonaiagaaDoorW.PrintLast Go.Proofs.YtijompkonaiagaaDoorW.PrintMore
set_option linter.unusedVariables false
set_option linter.unusedSimpArgs false
attribute [local go_sem ↓] Go.wp_at_zero Go.wp_at_succ
set_option maxRecDepth 100000 in
set_option maxHeartbeats 4000000 in
theorem impl_convOk_new (k : Nat) (hk : 3000 < k) (i o : En) (up down : List UInt8) (hu : up.length ≤ 1000000) (hd : down.length ≤ 1000000) (hb : Q.convB i o up down = true) (w : World) (hV : VarsIn w) :
    Calls Tryd.prog 7 #[.agg #[.int .i64 i.addr, .int .i64 i.port, .int .i64 o.addr, .int .i64 o.port, .string (Q.mkB up), .string (Q.mkB down), .int .i64 0, .int .i64 0, .string ⟨#[]⟩, .string ⟨#[]⟩]] w fun r w' => r = .returned (.bool true) ∧ Below w.heap.size w w' := by
  have B0 := Aside0.mk (Below.refl w.heap.size w)
  have HI := Aside0.mk (show ∀ w : World, VarsIn w → Calls Tryd.prog 6 #[.agg #[.int .i64 i.addr, .int .i64 i.port], .agg #[.int .i64 o.addr, .int .i64 o.port], .string (Q.mkB up), .string (Q.mkB down)] w fun r w' => r = .returned (.tuple #[.agg #[.int .i64 i.addr, .int .i64 i.port, .int .i64 o.addr, .int .i64 o.port, .string (Q.mkB up), .string (Q.mkB down), .int .i64 0, .int .i64 0, .string ⟨#[]⟩, .string ⟨#[]⟩], .bool true]) ∧ Below w.heap.size w w' from fun w hV => by
      have := impl_conv k (by omega) i o up down hu hd w hV
      rw [hb, if_pos rfl] at this
      exact this)
  have HV := Aside0.mk hV
  clear hV hb
  have n1 : inB 0 0 (up.length : Int) = true := by unfold inB; rw [decide_eq_true (by omega), decide_eq_true (by omega)]; rfl
  have n2 : inB 0 0 (down.length : Int) = true := by unfold inB; rw [decide_eq_true (by omega), decide_eq_true (by omega)]; rfl
  have HT := Aside0.mk (fun w : World => impl_TextOk [] (by simp) w)
  have ht : textOk [] = true := rfl
  go_enter Tryd.func7, Tryd.ntmps7
  go_wp2_with (first | (go_at_call 6; with_reducible refine (HI.out _ (HV.out.next (by repeat (first | (with_reducible exact B0.out) | (with_reducible apply below_alloc) | (with_reducible apply pw_below_drewN) | (with_reducible apply below_drew1) | with_reducible refine below_set ?_ (by first | (with_reducible exact Nat.le_refl _) | (with_reducible assumption) | (simp; done) | omega | (simp; omega)))))).mono ?_; rintro r w1 ⟨rfl, hb1⟩; obtain ⟨hb1c, hb1f, hb1z⟩ := bcell hb1; (try simp at hb1z); (try have hb10 : w.heap.size < w1.heap.size := by omega); (try have hb11 : w.heap.size + 1 < w1.heap.size := by omega); (try have hb12 : w.heap.size + 2 < w1.heap.size := by omega); have B1 := Aside0.mk (show Below w.heap.size w w1 from (by refine below_step ?_ hb1; repeat (first | (with_reducible exact B0.out) | (with_reducible apply below_alloc) | (with_reducible apply pw_below_drewN) | (with_reducible apply below_drew1) | with_reducible refine below_set ?_ (by first | (with_reducible exact Nat.le_refl _) | (with_reducible assumption) | (simp; done) | omega | (simp; omega)))))) | (go_at_call 23; with_reducible refine (impl_within 0 0 (up.length : Int) _).mono ?_; rintro r w2 ⟨rfl, rfl⟩; obtain ⟨B1.outc, B1.outf, B1.outz⟩ := bcell B1.out; (try simp at B1.outz); (try have B1.out0 : w.heap.size < w2.heap.size := by omega); (try have B1.out1 : w.heap.size + 1 < w2.heap.size := by omega); (try have B1.out2 : w.heap.size + 2 < w2.heap.size := by omega); rw [n1]) | (go_at_call 23; with_reducible refine (impl_within 0 0 (down.length : Int) _).mono ?_; rintro r w3 ⟨rfl, rfl⟩; obtain ⟨B1.outc, B1.outf, B1.outz⟩ := bcell B1.out; (try simp at B1.outz); (try have B1.out0 : w.heap.size < w3.heap.size := by omega); (try have B1.out1 : w.heap.size + 1 < w3.heap.size := by omega); (try have B1.out2 : w.heap.size + 2 < w3.heap.size := by omega); rw [n2]) | (go_at_call 24; refine (HT.out _).mono ?_; rintro r w4 ⟨rfl, hb4⟩; obtain ⟨hb4c, hb4f, hb4z⟩ := bcell hb4; (try simp at hb4z); have b4a : w.heap.size < w4.heap.size := (by omega); have B4 := Aside0.mk (show Below w.heap.size w w4 from (by refine below_step ?_ hb4; repeat (first | (with_reducible exact B1.out) | (with_reducible apply below_alloc) | (with_reducible apply pw_below_drewN) | (with_reducible apply below_drew1) | with_reducible refine below_set ?_ (by first | (with_reducible exact Nat.le_refl _) | (with_reducible assumption) | (simp; done) | omega | (simp; omega))))); clear B1; have B1 := Aside0.mk B4.out; clear B4; rw [ht]))
  go_ret
  exact ⟨by simp, (by repeat (first | (with_reducible exact B1.out) | (with_reducible apply below_alloc) | (with_reducible apply pw_below_drewN) | (with_reducible apply below_drew1) | with_reducible refine below_set ?_ (by first | (with_reducible exact Nat.le_refl _) | (with_reducible assumption) | (simp; done) | omega | (simp; omega))))⟩
end Go.Proofs.YtijompkonaiagaaDoor.Z
namespace Go.Proofs.YtijompkonaiagaaDoor.Z
open Go.RowKit Go.Proofs.YtijompkonaiagaaDoorW.PrintWords Go.Proofs.YtijompkonaiagaaDoorW.PrintLast
set_option linter.unusedVariables false
set_option linter.unusedSimpArgs false
attribute [local go_sem ↓] Go.wp_at_zero Go.wp_at_succ
attribute [local go_sem high] eqCv eqEn bytes_append
set_option maxRecDepth 100000 in
set_option maxHeartbeats 4000000 in
theorem law_ConvNew (k : Nat) (hk : 3000 < k) (A : Option Addr) (c : Nat) (code : List Int) (i o : En) (up down : List UInt8) (w : World) (hC : Kd.C (Kd.int .u8) w A code.length code) (hc : code.length ≤ c) (hV : VarsIn w)
    (hlen : code.length ≤ 1048576) (hD : Q.spec_DrawConvNew.f k code = some (i.addr, i.port, o.addr, o.port, Q.mkB up, Q.mkB down)) (hu : up.length ≤ 100) (hd : down.length ≤ 100) :
    Calls Tryd.prog 3 #[.slice A code.length c] w fun r w' => r = .returned (.bool true) ∧ Below w.heap.size w w' := by
  have tl : decide ((code.length : Int) > 1048576) = false := decide_eq_false (by omega)
  have tl2 : decide ((1048576 : Int) < (code.length : Int)) = false := decide_eq_false (by omega)
  have B0 := Aside0.mk (Below.refl w.heap.size w)
  have HC := Aside0.mk hC; clear hC
  have HV := Aside0.mk hV; clear hV
  have HD := Aside0.mk hD; clear hD
  cases hb : Q.convB i o up down with
  | false =>
    have HS := Aside0.mk (show ∀ w : World, Calls Tryd.prog 5 #[.agg #[.int .i64 i.addr, .int .i64 i.port], .agg #[.int .i64 o.addr, .int .i64 o.port], .string (Q.mkB up), .string (Q.mkB down)] w fun r w' => r = .returned (.tuple #[.agg #[.int .i64 0, .int .i64 0, .int .i64 0, .int .i64 0, .string ⟨#[]⟩, .string ⟨#[]⟩, .int .i64 0, .int .i64 0, .string ⟨#[]⟩, .string ⟨#[]⟩], .bool false]) ∧ Below w.heap.size w w' from fun w => by
      have := spec_conv k (by omega) i o up down (by omega) (by omega) w
      rw [hb, if_neg (by decide)] at this
      exact this)
    have HI := Aside0.mk (show ∀ w : World, VarsIn w → Calls Tryd.prog 6 #[.agg #[.int .i64 i.addr, .int .i64 i.port], .agg #[.int .i64 o.addr, .int .i64 o.port], .string (Q.mkB up), .string (Q.mkB down)] w fun r w' => r = .returned (.tuple #[.agg #[.int .i64 0, .int .i64 0, .int .i64 0, .int .i64 0, .string ⟨#[]⟩, .string ⟨#[]⟩, .int .i64 0, .int .i64 0, .string ⟨#[]⟩, .string ⟨#[]⟩], .bool false]) ∧ Below w.heap.size w w' from fun w hV => by
      have := impl_conv k (by omega) i o up down (by omega) (by omega) w hV
      rw [hb, if_neg (by decide)] at this
      exact this)
    clear hb
    go_enter Tryd.func3, Tryd.ntmps3
    go_wp2_with (first | (go_at_call 4; with_reducible refine (Q.spec_DrawConvNew.calls k A c code _ _ _ _ _ _ _ HC.out hc HD.out).mono ?_; rintro r w1 ⟨rfl, hb1⟩; obtain ⟨hb1c, hb1f, hb1z⟩ := bcell hb1; (try simp at hb1z); (try have hb10 : w.heap.size < w1.heap.size := by omega); (try have hb11 : w.heap.size + 1 < w1.heap.size := by omega); (try have hb12 : w.heap.size + 2 < w1.heap.size := by omega); have B1 := Aside0.mk (show Below w.heap.size w w1 from (by refine below_step ?_ hb1; repeat (first | (with_reducible exact B0.out) | (with_reducible apply below_alloc) | (with_reducible apply pw_below_drewN) | (with_reducible apply below_drew1) | with_reducible refine below_set ?_ (by first | (with_reducible exact Nat.le_refl _) | (with_reducible assumption) | (simp; done) | omega | (simp; omega)))))) | (go_at_call 5; with_reducible refine (HS.out _).mono ?_; rintro r w2 ⟨rfl, hb2⟩; obtain ⟨hb2c, hb2f, hb2z⟩ := bcell hb2; (try simp at hb2z); (try have hb20 : w.heap.size < w2.heap.size := by omega); (try have hb21 : w.heap.size + 1 < w2.heap.size := by omega); (try have hb22 : w.heap.size + 2 < w2.heap.size := by omega); have B2 := Aside0.mk (show Below w.heap.size w w2 from (by refine below_step ?_ hb2; repeat (first | (with_reducible exact B1.out) | (with_reducible apply below_alloc) | (with_reducible apply pw_below_drewN) | (with_reducible apply below_drew1) | with_reducible refine below_set ?_ (by first | (with_reducible exact Nat.le_refl _) | (with_reducible assumption) | (simp; done) | omega | (simp; omega))))); have y2_1_0 : w1.heap.size < w2.heap.size := (by omega); have y2_1_1 : w1.heap.size + 1 < w2.heap.size := (by omega)) | (go_at_call 6; with_reducible refine (HI.out _ (HV.out.next (by repeat (first | (with_reducible exact B2.out) | (with_reducible apply below_alloc) | (with_reducible apply pw_below_drewN) | (with_reducible apply below_drew1) | with_reducible refine below_set ?_ (by first | (with_reducible exact Nat.le_refl _) | (with_reducible assumption) | (simp; done) | omega | (simp; omega)))))).mono ?_; rintro r w3 ⟨rfl, hb3⟩; obtain ⟨hb3c, hb3f, hb3z⟩ := bcell hb3; (try simp at hb3z); (try have hb30 : w.heap.size < w3.heap.size := by omega); (try have hb31 : w.heap.size + 1 < w3.heap.size := by omega); (try have hb32 : w.heap.size + 2 < w3.heap.size := by omega); have B3 := Aside0.mk (show Below w.heap.size w w3 from (by refine below_step ?_ hb3; repeat (first | (with_reducible exact B2.out) | (with_reducible apply below_alloc) | (with_reducible apply pw_below_drewN) | (with_reducible apply below_drew1) | with_reducible refine below_set ?_ (by first | (with_reducible exact Nat.le_refl _) | (with_reducible assumption) | (simp; done) | omega | (simp; omega))))); have y3_1_0 : w1.heap.size < w3.heap.size := (by omega); have y3_1_1 : w1.heap.size + 1 < w3.heap.size := (by omega); have y3_2_0 : w2.heap.size < w3.heap.size := (by omega)))
    all_goals first | (go_ret; exact ⟨by simp, (by repeat (first | (with_reducible exact B3.out) | (with_reducible apply below_alloc) | (with_reducible apply pw_below_drewN) | (with_reducible apply below_drew1) | with_reducible refine below_set ?_ (by first | (with_reducible exact Nat.le_refl _) | (with_reducible assumption) | (simp; done) | omega | (simp; omega))))⟩) | exact ⟨.bool true, rfl, rfl, (by repeat (first | (with_reducible exact B3.out) | (with_reducible apply below_alloc) | (with_reducible apply pw_below_drewN) | (with_reducible apply below_drew1) | with_reducible refine below_set ?_ (by first | (with_reducible exact Nat.le_refl _) | (with_reducible assumption) | (simp; done) | omega | (simp; omega))))⟩ | exact ⟨.bool true, by go_simp, rfl, (by repeat (first | (with_reducible exact B3.out) | (with_reducible apply below_alloc) | (with_reducible apply pw_below_drewN) | (with_reducible apply below_drew1) | with_reducible refine below_set ?_ (by first | (with_reducible exact Nat.le_refl _) | (with_reducible assumption) | (simp; done) | omega | (simp; omega))))⟩
  | true =>
    have HS := Aside0.mk (show ∀ w : World, Calls Tryd.prog 5 #[.agg #[.int .i64 i.addr, .int .i64 i.port], .agg #[.int .i64 o.addr, .int .i64 o.port], .string (Q.mkB up), .string (Q.mkB down)] w fun r w' => r = .returned (.tuple #[.agg #[.int .i64 i.addr, .int .i64 i.port, .int .i64 o.addr, .int .i64 o.port, .string (Q.mkB up), .string (Q.mkB down), .int .i64 0, .int .i64 0, .string ⟨#[]⟩, .string ⟨#[]⟩], .bool true]) ∧ Below w.heap.size w w' from fun w => by
      have := spec_conv k (by omega) i o up down (by omega) (by omega) w
      rw [hb, if_pos rfl] at this
      exact this)
    have HI := Aside0.mk (show ∀ w : World, VarsIn w → Calls Tryd.prog 6 #[.agg #[.int .i64 i.addr, .int .i64 i.port], .agg #[.int .i64 o.addr, .int .i64 o.port], .string (Q.mkB up), .string (Q.mkB down)] w fun r w' => r = .returned (.tuple #[.agg #[.int .i64 i.addr, .int .i64 i.port, .int .i64 o.addr, .int .i64 o.port, .string (Q.mkB up), .string (Q.mkB down), .int .i64 0, .int .i64 0, .string ⟨#[]⟩, .string ⟨#[]⟩], .bool true]) ∧ Below w.heap.size w w' from fun w hV => by
      have := impl_conv k (by omega) i o up down (by omega) (by omega) w hV
      rw [hb, if_pos rfl] at this
      exact this)
    have HO := Aside0.mk (fun w hV => impl_convOk_new k (by omega) i o up down (by omega) (by omega) hb w hV)
    clear hb hu hd
    go_enter Tryd.func3, Tryd.ntmps3
    go_wp2_with (first | (go_at_call 4; with_reducible refine (Q.spec_DrawConvNew.calls k A c code _ _ _ _ _ _ _ HC.out hc HD.out).mono ?_; rintro r w1 ⟨rfl, hb1⟩; obtain ⟨hb1c, hb1f, hb1z⟩ := bcell hb1; (try simp at hb1z); (try have hb10 : w.heap.size < w1.heap.size := by omega); (try have hb11 : w.heap.size + 1 < w1.heap.size := by omega); (try have hb12 : w.heap.size + 2 < w1.heap.size := by omega); have B1 := Aside0.mk (show Below w.heap.size w w1 from (by refine below_step ?_ hb1; repeat (first | (with_reducible exact B0.out) | (with_reducible apply below_alloc) | (with_reducible apply pw_below_drewN) | (with_reducible apply below_drew1) | with_reducible refine below_set ?_ (by first | (with_reducible exact Nat.le_refl _) | (with_reducible assumption) | (simp; done) | omega | (simp; omega)))))) | (go_at_call 5; with_reducible refine (HS.out _).mono ?_; rintro r w2 ⟨rfl, hb2⟩; obtain ⟨hb2c, hb2f, hb2z⟩ := bcell hb2; (try simp at hb2z); (try have hb20 : w.heap.size < w2.heap.size := by omega); (try have hb21 : w.heap.size + 1 < w2.heap.size := by omega); (try have hb22 : w.heap.size + 2 < w2.heap.size := by omega); have B2 := Aside0.mk (show Below w.heap.size w w2 from (by refine below_step ?_ hb2; repeat (first | (with_reducible exact B1.out) | (with_reducible apply below_alloc) | (with_reducible apply pw_below_drewN) | (with_reducible apply below_drew1) | with_reducible refine below_set ?_ (by first | (with_reducible exact Nat.le_refl _) | (with_reducible assumption) | (simp; done) | omega | (simp; omega))))); have y2_1_0 : w1.heap.size < w2.heap.size := (by omega); have y2_1_1 : w1.heap.size + 1 < w2.heap.size := (by omega)) | (go_at_call 6; with_reducible refine (HI.out _ (HV.out.next (by repeat (first | (with_reducible exact B2.out) | (with_reducible apply below_alloc) | (with_reducible apply pw_below_drewN) | (with_reducible apply below_drew1) | with_reducible refine below_set ?_ (by first | (with_reducible exact Nat.le_refl _) | (with_reducible assumption) | (simp; done) | omega | (simp; omega)))))).mono ?_; rintro r w3 ⟨rfl, hb3⟩; obtain ⟨hb3c, hb3f, hb3z⟩ := bcell hb3; (try simp at hb3z); (try have hb30 : w.heap.size < w3.heap.size := by omega); (try have hb31 : w.heap.size + 1 < w3.heap.size := by omega); (try have hb32 : w.heap.size + 2 < w3.heap.size := by omega); have B3 := Aside0.mk (show Below w.heap.size w w3 from (by refine below_step ?_ hb3; repeat (first | (with_reducible exact B2.out) | (with_reducible apply below_alloc) | (with_reducible apply pw_below_drewN) | (with_reducible apply below_drew1) | with_reducible refine below_set ?_ (by first | (with_reducible exact Nat.le_refl _) | (with_reducible assumption) | (simp; done) | omega | (simp; omega))))); have y3_1_0 : w1.heap.size < w3.heap.size := (by omega); have y3_1_1 : w1.heap.size + 1 < w3.heap.size := (by omega); have y3_2_0 : w2.heap.size < w3.heap.size := (by omega)) | (go_at_call 7; with_reducible refine (HO.out _ (HV.out.next (by repeat (first | (with_reducible exact B3.out) | (with_reducible apply below_alloc) | (with_reducible apply pw_below_drewN) | (with_reducible apply below_drew1) | with_reducible refine below_set ?_ (by first | (with_reducible exact Nat.le_refl _) | (with_reducible assumption) | (simp; done) | omega | (simp; omega)))))).mono ?_; rintro r w4 ⟨rfl, hb4⟩; obtain ⟨hb4c, hb4f, hb4z⟩ := bcell hb4; (try simp at hb4z); (try have hb40 : w.heap.size < w4.heap.size := by omega); (try have hb41 : w.heap.size + 1 < w4.heap.size := by omega); (try have hb42 : w.heap.size + 2 < w4.heap.size := by omega); have B4 := Aside0.mk (show Below w.heap.size w w4 from (by refine below_step ?_ hb4; repeat (first | (with_reducible exact B3.out) | (with_reducible apply below_alloc) | (with_reducible apply pw_below_drewN) | (with_reducible apply below_drew1) | with_reducible refine below_set ?_ (by first | (with_reducible exact Nat.le_refl _) | (with_reducible assumption) | (simp; done) | omega | (simp; omega))))); have y4_1_0 : w1.heap.size < w4.heap.size := (by omega); have y4_1_1 : w1.heap.size + 1 < w4.heap.size := (by omega); have y4_2_0 : w2.heap.size < w4.heap.size := (by omega); have y4_3_0 : w3.heap.size < w4.heap.size := (by omega)))
    all_goals first | (go_ret; exact ⟨by simp, (by repeat (first | (with_reducible exact B4.out) | (with_reducible apply below_alloc) | (with_reducible apply pw_below_drewN) | (with_reducible apply below_drew1) | with_reducible refine below_set ?_ (by first | (with_reducible exact Nat.le_refl _) | (with_reducible assumption) | (simp; done) | omega | (simp; omega))))⟩) | exact ⟨.bool true, rfl, rfl, (by repeat (first | (with_reducible exact B4.out) | (with_reducible apply below_alloc) | (with_reducible apply pw_below_drewN) | (with_reducible apply below_drew1) | with_reducible refine below_set ?_ (by first | (with_reducible exact Nat.le_refl _) | (with_reducible assumption) | (simp; done) | omega | (simp; omega))))⟩ | exact ⟨.bool true, by go_simp, rfl, (by repeat (first | (with_reducible exact B4.out) | (with_reducible apply below_alloc) | (with_reducible apply pw_below_drewN) | (with_reducible apply below_drew1) | with_reducible refine below_set ?_ (by first | (with_reducible exact Nat.le_refl _) | (with_reducible assumption) | (simp; done) | omega | (simp; omega))))⟩
theorem law_FnConvNew (A : Option Addr) (n c : Nat) (code : List Int) (w : World) (hC : Kd.C (Kd.int .u8) w A n code) (hc : n ≤ c) (hg : ∀ b ∈ code, (0 : Int) ≤ b ∧ b ≤ 255) (hV : VarsIn w) :
    Calls Tryd.prog 3 #[.slice A n c] w fun r w' => r = .returned (.bool true) ∧ Below w.heap.size w w' := by
  obtain rfl : code.length = n := hC.1
  by_cases h : code.length ≤ 1048576
  · obtain ⟨i, o, up, down, hD, hu, hd⟩ := Q.drawConv_to 3001 (by omega) hg
    exact law_ConvNew 3001 (by omega) A c code i o up down w hC hc hV h hD hu hd
  · have tl : decide ((code.length : Int) > 1048576) = true := decide_eq_true (by omega)
    have tl2 : decide ((1048576 : Int) < (code.length : Int)) = true := decide_eq_true (by omega)
    go_enter Tryd.func3, Tryd.ntmps3
    go_wp2
    go_ret
    exact ⟨rfl, Below.refl _ _⟩
end Go.Proofs.YtijompkonaiagaaDoor.Z
namespace Go.Proofs.YtijompkonaiagaaDoor.Z
open Go.RowKit Go.Proofs.YtijompkonaiagaaDoorW.PrintWords
set_option linter.unusedVariables false
def Opens {α : Type} (P : Program) (t : TypeId) (d : Kd α) (good : α → Prop) : Prop := P.cellsOf t = d.sz ∧
  ∀ (H : Type) (enc : TypeId × Value → H) (w : World) (base : Nat) (spare : Nat → Bool) (held : Bool) (fuel : Nat) (cs : List Value) (x : DataW H × List MemPlace), DataW.trod enc P w base spare held fuel t cs = some x → ∃ v, d.K w v cs ∧ good v
section
variable {P : Program} {t e : TypeId}
theorem Opens.int {k : IntKind} (ht : P.underlying t = some (.int k)) (hc : P.cellsOf t = 1) : Opens P t (Kd.int k) (fun n => (Lit.int k n).wf = true) :=
  ⟨hc, fun H enc w base spare held fuel cs x h => let ⟨n, e, _, g⟩ := DataW.trod_int ht h; ⟨n, e, g⟩⟩
theorem Opens.bool (ht : P.underlying t = some .bool) (hc : P.cellsOf t = 1) : Opens P t Kd.bool (fun _ => True) :=
  ⟨hc, fun H enc w base spare held fuel cs x h => let ⟨n, e, _⟩ := DataW.trod_bool ht h; ⟨n, e, trivial⟩⟩
theorem Opens.string (ht : P.underlying t = some .string) (hc : P.cellsOf t = 1) : Opens P t Kd.string (fun s => s.size ≤ maxLen) :=
  ⟨hc, fun H enc w base spare held fuel cs x h => let ⟨n, e, _, g⟩ := DataW.trod_string ht h; ⟨n, e, g⟩⟩
theorem Opens.slice {α : Type} [Inhabited α] {d : Kd α} {good : α → Prop} (ht : P.underlying t = some (.slice e)) (hc : P.cellsOf t = 1) (he : Opens P e d good) : Opens P t (Kd.slice e d) (fun xs => ∀ x ∈ xs, good x) := by
  refine ⟨hc, fun H enc w base spare held fuel cs x h => ?_⟩
  rcases Deep.open_slice ht h with ⟨rfl, _⟩ | ⟨a, len, cap, m, n, D, Pl, rfl, _, hl, hm, hmm, _, hx⟩
  · exact ⟨[], ⟨none, 0, rfl, Nat.le_refl _, rfl, by simp, fun h => absurd h (Nat.lt_irrefl _)⟩, fun x hx => by cases hx⟩
  · have hlm : len ≤ m := by rw [hmm]; split <;> omega
    have each : ∀ i, i < len → ∃ v, ∃ cs', cs'.length = d.sz ∧ d.K w v cs' ∧ good v ∧ ∀ j u, cs'[j]? = some u → w.cell? (a.add (i * d.sz + j)) = some u := fun i hi => by
      obtain ⟨cs', h1, h2⟩ := hx i (by omega)
      rw [he.1] at h1
      obtain ⟨_, hlen, hcell⟩ := World.cells?_some h1
      obtain ⟨v, hK, hg⟩ := he.2 H enc w base spare held n cs' _ h2
      refine ⟨v, cs', hlen, hK, hg, fun j u hu => ?_⟩
      have hj : j < cs'.length := (List.getElem?_eq_some_iff.1 hu).1
      have := hcell j (by omega)
      rw [Deep.add_add] at this
      rw [this, hu]
    obtain ⟨f, hf⟩ := Deep.choose_lt each
    refine ⟨(List.range len).map f, ⟨some a, cap, by simp, by simpa using hl, by simp, ?_, ?_⟩, ?_⟩
    · have := hm; unfold maxLen at this; simp; omega
    · intro _
      refine ⟨a, rfl, fun j p hj => ?_⟩
      obtain ⟨hj1, hj2⟩ := List.getElem?_eq_some_iff.1 hj
      simp at hj1 hj2
      obtain ⟨cs', h1, h2, _, h4⟩ := hf j hj1
      exact ⟨cs', h1, hj2 ▸ h2, h4⟩
    · intro x hx
      obtain ⟨i, hi, rfl⟩ := List.mem_map.1 hx
      obtain ⟨_, _, _, h3, _⟩ := hf i (List.mem_range.1 hi)
      exact h3
def OpensF {α : Type} (P : Program) (fs : List Field) (off : Nat) (d : Kd α) (good : α → Prop) : Prop :=
  ∀ (H : Type) (enc : TypeId × Value → H) (w : World) (base : Nat) (spare : Nat → Bool) (held : Bool) (n : Nat) (cs : List Value) (xs : List (DataW H × List MemPlace)), cs.length = off + d.sz → xs.length = fs.length →
    (∀ (i : Nat) (f : Field), fs[i]? = some f → DataW.trod enc P w base spare held n f.type ((cs.drop f.offset).take (P.cellsOf f.type)) = xs[i]?) → ∃ v, d.K w v (cs.drop off) ∧ good v
theorem OpensF.last {α : Type} {f : Field} {off : Nat} {d : Kd α} {good : α → Prop} (ho : f.offset = off) (h : Opens P f.type d good) : OpensF P [f] off d good := by
  intro H enc w base spare held n cs xs hl hx ht
  have h0 := ht 0 f rfl
  rw [ho, h.1, List.take_of_length_le (by rw [List.length_drop]; omega), List.getElem?_eq_getElem (by rw [hx]; exact Nat.one_pos)] at h0
  exact h.2 H enc w base spare held n _ _ h0
theorem OpensF.cons {α β : Type} {f : Field} {fs : List Field} {off off' : Nat} {d : Kd α} {d' : Kd β} {good : α → Prop} {good' : β → Prop} (ho : f.offset = off) (h : Opens P f.type d good) (hoff : off' = off + d.sz) (hr : OpensF P fs off' d' good') :
    OpensF P (f :: fs) off (Kd.pair d d') (fun x => good x.1 ∧ good' x.2) := by
  subst hoff
  intro H enc w base spare held n cs xs hl hx ht
  have hl' : cs.length = off + (d.sz + d'.sz) := hl
  cases xs with
  | nil => simp at hx
  | cons y ys =>
    have h0 := ht 0 f rfl
    rw [ho, h.1] at h0
    obtain ⟨v, hK, hg⟩ := h.2 H enc w base spare held n _ y h0
    obtain ⟨v', hK', hg'⟩ := hr H enc w base spare held n cs ys (by omega) (by simpa using hx) (fun i f hf => ht (i + 1) f (by simpa using hf))
    refine ⟨(v, v'), ⟨(cs.drop off).take d.sz, cs.drop (off + d.sz), ?_, hK, hK'⟩, hg, hg'⟩
    have e := List.take_append_drop d.sz (cs.drop off)
    rw [List.drop_drop] at e
    exact e.symm
theorem Opens.struct {α β : Type} {fs : Array Field} {d : Kd α} {good : α → Prop} (ht : P.underlying t = some (.struct fs)) (hc : P.cellsOf t = d.sz) (hF : OpensF P fs.toList 0 d good) (f : β → α) (g : α → β) (hfg : ∀ a, f (g a) = a) : Opens P t (Kd.iso d f) (fun x => good (f x)) := by
  refine ⟨hc, fun H enc w base spare held fuel cs x h => ?_⟩
  obtain ⟨xs, n, _, _, hl, hx, hf⟩ := DataW.trod_struct ht h
  obtain ⟨v, hK, hg⟩ := hF H enc w base spare held n cs xs (by rw [hl, hc]; omega) (by simpa using hx) (fun i fd hi => hf i fd (by simpa using hi))
  refine ⟨g v, ?_, by show good (f (g v)); rw [hfg]; exact hg⟩
  show d.K w (f (g v)) cs
  rw [hfg]
  simpa using hK
end
def i64ok (n : Int) : Prop := (Lit.int .i64 n).wf = true
theorem i64ok.le {n : Int} (h : i64ok n) : -9223372036854775808 ≤ n ∧ n ≤ 9223372036854775807 := by
  unfold i64ok at h
  simpa [Lit.wf, IntKind.has, IntKind.min, IntKind.signed, IntKind.bits] using h
end Go.Proofs.YtijompkonaiagaaDoor.Z
namespace Go.Proofs.YtijompkonaiagaaDoor.Z
open Go.RowKit Go.Proofs.YtijompkonaiagaaDoorW.PrintWords
set_option linter.unusedVariables false
def byteOk (n : Int) : Prop := (Lit.int .u8 n).wf = true
theorem byteOk.le {n : Int} (h : byteOk n) : 0 ≤ n ∧ n ≤ 255 := by
  unfold byteOk at h
  simpa [Lit.wf, IntKind.has, IntKind.min, IntKind.max, IntKind.signed, IntKind.bits] using h
theorem openByte : Opens Tryd.prog 5 (Kd.int .u8) byteOk := Opens.int Tryd.underlying5 (by kernel_rfl)
theorem openBytes : Opens Tryd.prog 22 (Kd.slice 5 (Kd.int .u8)) (fun xs => ∀ x ∈ xs, byteOk x) := Opens.slice Tryd.underlying22 (by kernel_rfl) openByte
theorem bytes_le {bs : List Int} (h : ∀ x ∈ bs, byteOk x) : ∀ b ∈ bs, (0 : Int) ≤ b ∧ b ≤ 255 := fun b hb => (h b hb).le
end Go.Proofs.YtijompkonaiagaaDoor.Z
namespace Go.Proofs.YtijompkonaiagaaDoor.fnConvNew
open Go.ChangeShapes Go.WideShapes Go.ChangeAt Go.RowKit Go.Proofs.YtijompkonaiagaaDoorW.PrintWords
open Go.ChangeMaps (open_string shut_string)
set_option linter.unusedVariables false
theorem own : ownKnob Tryd.prog.godebug = none := by kernel_rfl
theorem laidOut : laidOutB Tryd.prog = true := by kernel_rfl
set_option maxRecDepth 100000 in
theorem lifted (os : Os) (started : os.Started) (H : Type) (enc : TypeId × Value → H) :
    ReturnsInHanded {} Tryd.checked os 3 .any (fun w args => (Rows.fnConvNewSpec.pre enc Tryd.prog Tryd.f3 Rows.fnConvNewRow.domain false w args ∧ laidMetH Tryd.prog Z.laidL w) ∧ sizedMet enc Tryd.prog Tryd.f3 (OpenSpec.ofChange Rows.fnConvNewSpec) false w args)
      (Rows.fnConvNewSpec.post enc Tryd.prog Tryd.f3 false true false false) := by
  refine Z.wrap_laid (C := Tryd.checked) (X := fun w _ => laidMetH Tryd.prog Z.laidL w) (fun _ _ _ hh h => h.of_heap hh) own started (by kernel_rfl) Tryd.func3
    (ChangeSpec.witness_shaped (enc := enc) (C := Tryd.checked) (os := os) (X := fun w _ => laidMetH Tryd.prog Z.laidL w) false (World.laidAll Tryd.prog os Z.laidL) #[.slice none 0 0] 8 (World.laidAll_os _ _ _)
      (World.shaped_of_ZipB (by kernel_rfl) (by kernel_rfl)) (by kernel_rfl) (by kernel_rfl) (by kernel_rfl) (Z.laid_met os _)) ?_
  intro W base args ds gs before hval0 hW hL hsh
  have hvars := Z.vars_of hL hsh
  have hval : ∀ (j : Nat) t v, Tryd.f3.params[j]? = some t → args[j]? = some v → Value.okWide Tryd.prog W .any base t v := hval0
  have hW' := hW
  obtain ⟨p, q, hA0, hV, rfl, hfz, hnd⟩ := hW
  have hA : DataW.TrodAll enc Tryd.prog W 0 (fun _ => true) true Tryd.f3.params.toList args.toList ds p := hA0
  rw [Tryd.params3] at hA hval
  obtain ⟨v0, vs0, d0, ds0, p0, q0, hargs, rfl, rfl, h0, r0⟩ := trodAll_cons hA
  obtain ⟨rfl, rfl, rfl⟩ := trodAll_nil r0
  obtain rfl : args = #[v0] := by cases args; simp_all
  obtain ⟨rfl, rfl⟩ := trodVars_none hV
  obtain ⟨a0, len0, cap0, rfl⟩ := okWide_slice Tryd.underlying22 (hval 0 22 v0 rfl rfl)
  have k0 := h0
  have lt0 : ∀ x ∈ p0, x.block < W.heap.size := by obtain ⟨m, hm⟩ := k0; exact DataW.trod_lt m _ _ _ hm
  obtain ⟨fuel0, hf0⟩ := h0
  obtain ⟨xs0, ⟨A0, c0, hcs0, hl0, hC0⟩, hg0⟩ := Z.openBytes.2 _ _ _ _ _ _ _ _ _ hf0
  simp [Value.cells] at hcs0
  obtain ⟨rfl, rfl, rfl⟩ := hcs0
  clear hA0 hval0
  refine (Z.law_FnConvNew a0 xs0.length cap0 xs0 W hC0 hl0 (Z.bytes_le hg0) hvars).mono ?_
  rintro e W' ⟨rfl, bel⟩
  exact ⟨_, rfl, _, _, _, [], _, [], hW', trodAll_mk1 (shut_bool Tryd.underlying4 _), (trodAll_cons_mk (Below.trod laidOut (by kernel_rfl) (of_decide_eq_true (by kernel_rfl)) k0 bel lt0) trodAll_mk0), rfl, bel.frame _, fun h => by cases h⟩
theorem over : Rows.fnConvNewRow.holds Tryd.pinned (OpenSpec.ofChange Rows.fnConvNewSpec) :=
  OpenClaim.holds_of_wide 3 Tryd.f3 rfl rfl rfl rfl rfl rfl rfl ⟨rfl, rfl, rfl, rfl, rfl⟩ rfl rfl rfl rfl rfl (by kernel_rfl) Tryd.func3 (by kernel_rfl)
    (of_decide_eq_true (by kernel_rfl)) (by unfold Func.isWrapper; first | (rw [if_pos (by decide +kernel)]; kernel_rfl) | (rw [if_neg (by decide +kernel)]; exact ⟨rfl, rfl⟩))
    (fun os started H enc _ => lifted os started H enc)
end Go.Proofs.YtijompkonaiagaaDoor.fnConvNew
namespace Go.Proofs.YtijompkonaiagaaDoor
theorem fnConvNew_card : Rows.FnConvNewCardSaid :=
  Claim7.holds_tied_plain_at .later [] Rows.fnConvNewCard.laidKinds true Rows.fnConvNewCard.stood.harness true
    fnConvNew.over (fun _ h => by cases h) (by kernel_rfl) (fun _ h => by cases h) fnConvNew_row_tie rfl ⟨rfl, rfl⟩ (by kernel_rfl) rfl
    (fun f fn hf hfn => by
      obtain rfl : f = 3 := Option.some.inj ((show Tryd.prog.funcNamed Rows.fnConvNewRow.func = some 3 by kernel_rfl).symm.trans hf) |>.symm
      obtain rfl : fn = Tryd.f3 := (Option.some.inj (Tryd.func3.symm.trans hfn)).symm
      exact ⟨by kernel_rfl, fun j t ht => by
        rw [Tryd.params3] at ht
        have hm : t ∈ [22] := by simpa using Array.mem_of_getElem? ht
        have hall : ([22].all fun u => !Tryd.prog.wantsStandIn u) = true := by kernel_rfl
        exact (show Tryd.prog.wantsStandIn t = false by simpa using List.all_eq_true.1 hall t hm)⟩)
    (by kernel_rfl)
#print axioms fnConvNew_card
end Go.Proofs.YtijompkonaiagaaDoor
