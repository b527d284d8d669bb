/- Contracts of mine in the print's own form: whether a row of ends holds a door's; a conversation made. Plain laws of the printed functions: conversations made, of both. ConvNew of the program and of the reference, walked: what they hand back. Conversations: the program's and the reference's ConvOk, walked. What came, with bytes from a place on: the program's behind, the reference's l21Got. As Rg, with operations behind which nothing is shown (a store that ends the region). Draws out of a code: the reader's block, and that a pick answers a number below its bound. Draws: a reader opened; an end drawn. What a host makes of a packet: words for the walks of Conv.hear. What a host makes of a packet: the program's Conv.hear, walked, outward. What a host makes of a packet: the program's Conv.hear, walked, inward. What a host makes of a packet: the program's Conv.hear in one contract, and its ConvHear. -/
import Derived.Test.YtfjbjiklohjodaaGreatDoorBh3
import Derived.OpenShut
namespace Go.Proofs.YtfjbjiklohjodaaGreatDoor.Q
open Go.RowKit Go.Proofs.YtfjbjiklohjodaaGreatDoorW.PrintWords Go.Proofs.YtfjbjiklohjodaaGreatDoorW.PrintLast Go.Proofs.YtfjbjiklohjodaaGreatDoorW.PrintMore
attribute [local go_sem] max2_int min2_int max_two min_two max_three min_three max_four min_four
set_option linter.unusedVariables false
set_option linter.unusedSimpArgs false
noncomputable section
def spec_l21Own.l0 : Nat → List (S62) → Int → Option (Bool)
  | 0, _, _ => none
  | k + 1, x3, x4 => if x4 < (x3.length : Int) then (if 0 ≤ x4 then ((spec_EndDoor.f ((rd_T62 x3 x4).f0) ((rd_T62 x3 x4).f1)).bind fun t105 => (if t105 = true then (some false) else (spec_l21Own.l0 k x3 (wrap64 (x4 + 1))))) else (none)) else (some true)
def spec_l21Own.f (k : Nat) (a0 : ByteArray) : Option (Bool) := (spec_TextNames.f k a0).bind fun t101 => (spec_l21Own.l0 k t101 0)
set_option maxHeartbeats 8000000 in
set_option maxRecDepth 100000 in
theorem spec_l21Own.calls (k : Nat) (a0 : ByteArray) (r : Bool) (w : World) (h : spec_l21Own.f k a0 = some r) :
    Calls Tryz.prog 156 #[.string a0] w fun e w' => e = .returned (.bool r) ∧ Below w.heap.size w w' := by
  have hu62 := Tryz.underlying62
  have HB := Aside0.mk (Below.refl w.heap.size w)
  have H : ((spec_TextNames.f k a0).bind fun t101 => (spec_l21Own.l0 k t101 0)) = some r := h
  clear h
  replace H := Option.bind_eq_some_iff.mp H
  obtain ⟨t101, A20, H⟩ := H
  replace H : (spec_l21Own.l0 k t101 0) = some r := H
  have A2 := Aside0.mk A20
  clear A20
  have H' := Aside0.mk H
  clear H
  go_enter Tryz.func156, Tryz.ntmps156
  go_wp2_with (first | ((with_reducible refine gate_callee (f := 178) rfl ?_); refine goesL_ (some 6) rfl rfl Tryz.func178 (by kernel_rfl) rfl #[.string a0] rfl (by (try simp only [List.map_toArray, List.map_cons, List.map_nil]); first | done | rfl | (simp only [List.length_drop, List.length_take]; rfl)) ?_; (with_reducible refine (spec_TextNames.calls k a0 t101 _ A2.out).mono ?_); rintro e w3 ⟨v102, rfl, ho0, hb⟩; refine ⟨_, rfl, ?_⟩; have n0_ := Aside0.mk (Kd.R_lower ho0 (below_size (by repeat (first | (with_reducible first | exact HB.out | apply below_alloc | apply pw_below_drewN | apply below_drew1) | exact HB.out)))); have n1_ := Aside0.mk (below_step (by repeat (first | (with_reducible first | exact HB.out | apply below_alloc | apply pw_below_drewN | apply below_drew1) | exact HB.out)) hb); clear HB; have HO103 := n0_; have HB := n1_; clear n0_ n1_; (try clear hb); (try clear hb2); (try clear hk); (try clear hi); (try clear ho0)))
  go_loopg [4] k (fun kq v4 w' => ∃ (x4_1 : Int), v4 = .int .i64 x4_1 ∧ Aside0 (spec_l21Own.l0 kq t101 x4_1 = some r) ∧ Aside0 (kq ≤ k) ∧ Aside0 (Kd.R k62 62 w' w.heap.size (fun _ => True) v102 t101) ∧ Aside0 (Below w.heap.size w w'))
  case atStart => exact ⟨(0), (by first | rfl | (simp; done) | (simp [*]; done)), H', ⟨Nat.le_refl _⟩, ⟨by (with_reducible repeat (first | apply Kd.R_alloc | apply Kd.R_drewN | apply Kd.R_drew)); exact HO103.out⟩, ⟨by repeat (first | (with_reducible first | exact HB.out | apply below_alloc | apply pw_below_drewN | apply below_drew1) | exact HB.out)⟩⟩
  case round =>
    clear H'
    try clear c1
    try clear p2
    obtain ⟨x4_1, rfl, HA, HK1, HO_3, HB⟩ := hrel
    cases gk with
    | zero => exact absurd HA.out (by simp [spec_l21Own.l0])
    | succ k1 =>
      have H := HA.out
      clear HA
      simp only [spec_l21Own.l0] at H
      by_cases c4 : x4_1 < (t101.length : Int)
      · rw [if_pos c4] at H
        have c4b0 : decide (x4_1 < (t101.length : Int)) = true := decide_eq_true c4
        clear c4
        by_cases c5 : 0 ≤ x4_1
        · rw [if_pos c5] at H
          have c5b0 : decide (0 ≤ x4_1) = true := decide_eq_true c5
          clear c5
          replace H := Option.bind_eq_some_iff.mp H
          obtain ⟨t105, A60, H⟩ := H
          replace H : (if t105 = true then (some false) else (spec_l21Own.l0 k1 t101 (wrap64 (x4_1 + 1)))) = some r := H
          have A6 := Aside0.mk A60
          clear A60
          by_cases c7 : t105 = true
          · subst c7
            have H1 : (some false) = some r := by rw [if_pos rfl] at H; exact H
            clear H
            have H := H1
            clear H1
            obtain rfl := Option.some.inj H
            obtain ⟨Ao8, co8, eo8⟩ := Kd.R_slice HO_3.out
            subst eo8
            have p104 : 0 ≤ (x4_1 : Int) := of_decide_eq_true (by first | (with_reducible assumption) | assumption)
            have q104 : x4_1 < (t101.length : Int) := of_decide_eq_true (by first | (with_reducible assumption) | assumption)
            obtain ⟨ad104, e104, hx104_0, hx104_1⟩ := at_T62 (Kd.R_reads' HO_3.out).2.2 x4_1 p104 q104
            cases e104
            replace p104 := eq_true p104
            replace q104 := eq_true q104
            go_wp2_with (first | ((with_reducible refine gate_callee (f := 144) rfl ?_); refine goesL_ (some 17) rfl rfl Tryz.func144 (by kernel_rfl) rfl #[.agg #[.int .i64 ((rd_T62 t101 x4_1).f0), .int .i64 ((rd_T62 t101 x4_1).f1)]] rfl (by (try simp only [List.map_toArray, List.map_cons, List.map_nil]); first | done | rfl | (simp only [List.length_drop, List.length_take]; rfl)) ?_; (with_reducible refine (spec_EndDoor.calls ((rd_T62 t101 x4_1).f0) ((rd_T62 t101 x4_1).f1) true _ A6.out).mono ?_); rintro e w9 ⟨rfl, hb⟩; refine ⟨_, rfl, ?_⟩; have n0_ := Aside0.mk (Kd.R_below (by (with_reducible repeat (first | apply Kd.R_alloc | apply Kd.R_drewN | apply Kd.R_drew)); exact HO_3.out) hb); have n1_ := Aside0.mk (below_step (by repeat (first | (with_reducible first | exact HB.out | apply below_alloc | apply pw_below_drewN | apply below_drew1) | exact HB.out)) hb); clear HO_3; clear HB; have HO_3 := n0_; have HB := n1_; clear n0_ n1_; (try clear hb); (try clear hb2); (try clear hk); (try clear hi)))
            go_ret
            exact ⟨by first | rfl | (simp [errW_none, errW_some] <;> rfl) | (simp [*, errW_none, errW_some] <;> rfl), by repeat (first | (with_reducible first | exact HB.out | apply below_alloc | apply pw_below_drewN | apply below_drew1) | exact HB.out)⟩
          · replace c7 := Bool.eq_false_iff.mpr c7
            subst c7
            have H1 : (spec_l21Own.l0 k1 t101 (wrap64 (x4_1 + 1))) = some r := by rw [if_neg (show ¬ (false = true) by decide)] at H; exact H
            clear H
            have H := H1
            clear H1
            have H' := Aside0.mk H
            clear H
            obtain ⟨Ao10, co10, eo10⟩ := Kd.R_slice HO_3.out
            subst eo10
            have p104 : 0 ≤ (x4_1 : Int) := of_decide_eq_true (by first | (with_reducible assumption) | assumption)
            have q104 : x4_1 < (t101.length : Int) := of_decide_eq_true (by first | (with_reducible assumption) | assumption)
            obtain ⟨ad104, e104, hx104_0, hx104_1⟩ := at_T62 (Kd.R_reads' HO_3.out).2.2 x4_1 p104 q104
            cases e104
            replace p104 := eq_true p104
            replace q104 := eq_true q104
            go_wp2_with (first | ((with_reducible refine gate_callee (f := 144) rfl ?_); refine goesL_ (some 17) rfl rfl Tryz.func144 (by kernel_rfl) rfl #[.agg #[.int .i64 ((rd_T62 t101 x4_1).f0), .int .i64 ((rd_T62 t101 x4_1).f1)]] rfl (by (try simp only [List.map_toArray, List.map_cons, List.map_nil]); first | done | rfl | (simp only [List.length_drop, List.length_take]; rfl)) ?_; (with_reducible refine (spec_EndDoor.calls ((rd_T62 t101 x4_1).f0) ((rd_T62 t101 x4_1).f1) false _ A6.out).mono ?_); rintro e w11 ⟨rfl, hb⟩; refine ⟨_, rfl, ?_⟩; have n0_ := Aside0.mk (Kd.R_below (by (with_reducible repeat (first | apply Kd.R_alloc | apply Kd.R_drewN | apply Kd.R_drew)); exact HO_3.out) hb); have n1_ := Aside0.mk (below_step (by repeat (first | (with_reducible first | exact HB.out | apply below_alloc | apply pw_below_drewN | apply below_drew1) | exact HB.out)) hb); clear HO_3; clear HB; have HO_3 := n0_; have HB := n1_; clear n0_ n1_; (try clear hb); (try clear hb2); (try clear hk); (try clear hi)))
            go_roundg k1
            case measure => have := HK1.out; omega
            case rel => exact ⟨(wrap64 (x4_1 + 1)), (by first | rfl | (simp; done) | (simp [*]; done)), H', ⟨by have := HK1.out; omega⟩, ⟨by (with_reducible repeat (first | apply Kd.R_alloc | apply Kd.R_drewN | apply Kd.R_drew)); exact HO_3.out⟩, ⟨by repeat (first | (with_reducible first | exact HB.out | apply below_alloc | apply pw_below_drewN | apply below_drew1) | exact HB.out)⟩⟩
        · rw [if_neg c5] at H
          exact absurd H (by simp)
      · rw [if_neg c4] at H
        have c4b0 : decide (x4_1 < (t101.length : Int)) = false := decide_eq_false c4
        clear c4
        obtain rfl := Option.some.inj H
        obtain ⟨Ao12, co12, eo12⟩ := Kd.R_slice HO_3.out
        subst eo12
        go_wp2
        go_ret
        exact ⟨by first | rfl | (simp [errW_none, errW_some] <;> rfl) | (simp [*, errW_none, errW_some] <;> rfl), by repeat (first | (with_reducible first | exact HB.out | apply below_alloc | apply pw_below_drewN | apply below_drew1) | exact HB.out)⟩
end
end Go.Proofs.YtfjbjiklohjodaaGreatDoor.Q
namespace Go.Proofs.YtfjbjiklohjodaaGreatDoor.Q
open Go.RowKit Go.Proofs.YtfjbjiklohjodaaGreatDoorW.PrintWords Go.Proofs.YtfjbjiklohjodaaGreatDoorW.PrintMore Go.Proofs.YtfjbjiklohjodaaGreatDoor.Z
set_option linter.unusedVariables false
set_option linter.unusedSimpArgs false
attribute [local go_sem ↓] Go.wp_at_zero Go.wp_at_succ
def isDoor (x : S62) : Bool := doorB ⟨x.f0, x.f1⟩
theorem take_any {l : List S62} {k : Nat} (hk : k < l.length) (h : (l.take k).any isDoor = false) (hd : isDoor (rd_T62 l k) = false) : (l.take (k + 1)).any isDoor = false := by
  have e : rd_T62 l k = l[k] := by
    unfold rd_T62
    rw [Int.toNat_natCast, List.getD_eq_getElem?_getD, List.getElem?_eq_getElem hk]
    rfl
  rw [List.take_succ_eq_append_getElem hk, List.any_append, h, ← e]
  simp [hd]
theorem hit_any {l : List S62} {k : Nat} (hk : k < l.length) (hd : isDoor (rd_T62 l k) = true) : l.any isDoor = true := by
  have e : rd_T62 l k = l[k] := by
    unfold rd_T62
    rw [Int.toNat_natCast, List.getD_eq_getElem?_getD, List.getElem?_eq_getElem hk]
    rfl
  rw [e] at hd
  exact List.any_eq_true.2 ⟨_, List.getElem_mem hk, hd⟩
set_option maxHeartbeats 1000000 in
theorem idx_door (A : Option Addr) (n c : Nat) (l : List S62) (w : World) (hC : Kd.C k62 w A n l) (hn : n ≤ 1099511627776) :
    Calls Tryz.prog 179 #[.slice A n c, .func (.func 147) #[] #[]] w fun r w' => ∃ v : Int, r = .returned (.int .i64 v) ∧ (v ≥ 0 ↔ l.any isDoor = true) ∧ Below w.heap.size w w' := by
  have hl : l.length = n := hC.1
  have HC := Aside0.mk hC; clear hC
  go_enter Tryz.func179, Tryz.ntmps179
  go_wp2
  go_loopw [5, 8] (fun s5 s8 w' => ∃ k : Nat, k ≤ n ∧ s8 = .int .i64 k ∧ Aside0 ((l.take k).any isDoor = false) ∧ Below w.heap.size w w') (fun s5 s8 _ => n - (intOf s8).toNat)
  case atStart => exact ⟨0, Nat.zero_le _, rfl, ⟨by simp⟩, Below.refl _ _⟩
  case round =>
    obtain ⟨k, hk, rfl, HP, hb⟩ := hrel
    by_cases hlt : k < n
    · obtain ⟨ad, hA, d0, d1⟩ := at_T62 (Kd.C_below HC.out hb) (k : Int) (by omega) (by omega)
      cases hA
      rw [Int.toNat_natCast] at d0 d1
      have hk0 : (0 : Int) ≤ (k : Int) := Int.natCast_nonneg _
      have hk1 : (k : Int) < (n : Int) := by omega
      cases hd : isDoor (rd_T62 l k) with
      | true =>
        have HD := Aside0.mk (show impl_EndDoor.f (rd_T62 l k).f0 (rd_T62 l k).f1 = some true from congrArg some hd)
        have HA := Aside0.mk (hit_any (by omega) hd)
        clear hd
        go_wp2_with (go_at_call 147; refine (impl_EndDoor.calls _ _ true _ HD.out).mono ?_; rintro r w2 ⟨rfl, hb2⟩)
        go_ret
        exact ⟨_, rfl, by rw [HA.out]; simp, below_step hb hb2⟩
      | false =>
        have HD := Aside0.mk (show impl_EndDoor.f (rd_T62 l k).f0 (rd_T62 l k).f1 = some false from congrArg some hd)
        have HA := Aside0.mk (take_any (by omega) HP.out hd)
        clear hd
        go_wp2_with (go_at_call 147; refine (impl_EndDoor.calls _ _ false _ HD.out).mono ?_; rintro r w2 ⟨rfl, hb2⟩)
        go_roundw
        case rel => exact ⟨k + 1, by omega, by go_num, HA, below_step hb hb2⟩
        case measure => simp [intOf]; omega
    · obtain rfl : k = n := by omega
      go_wp2
      go_ret
      exact ⟨_, rfl, by have h := HP.out; rw [List.take_of_length_le (by omega)] at h; rw [h]; simp, hb⟩
theorem has_door (A : Option Addr) (n c : Nat) (l : List S62) (w : World) (hC : Kd.C k62 w A n l) (hn : n ≤ 1099511627776) :
    Calls Tryz.prog 158 #[.slice A n c, .func (.func 147) #[] #[]] w fun r w' => r = .returned (.bool (l.any isDoor)) ∧ Below w.heap.size w w' := by
  have HC := Aside0.mk hC; clear hC
  have HI := fun w hC => idx_door A n c l w hC hn
  obtain ⟨q, hq⟩ : ∃ q, l.any isDoor = q := ⟨_, rfl⟩
  rw [hq] at HI ⊢
  clear hq
  go_enter Tryz.func158, Tryz.ntmps158
  go_wp2_with (go_at_call 179; refine (HI _ HC.out).mono ?_; rintro r w2 ⟨v, rfl, hv, hb2⟩)
  go_ret
  refine ⟨?_, hb2⟩
  cases q
  · have : ¬ (0 ≤ v) := fun h2 => by simpa using hv.1 h2
    simp [this]
  · have : 0 ≤ v := hv.2 rfl
    simp [this]
def slices_ContainsFunc_End.f (l0 : List S62) : Option Bool := if l0.length ≤ 1099511627776 then some (l0.any isDoor) else none
theorem slices_ContainsFunc_End.calls (A0 : Option Addr) (c0 : Nat) (l0 : List (S62)) (r : Bool) (w : World) (hr0 : Kd.C k62 w A0 l0.length l0) (hc0 : l0.length ≤ c0) (h : slices_ContainsFunc_End.f l0 = some r) :
    Calls Tryz.prog 158 #[.slice A0 l0.length c0, .func (.func 147) #[] #[]] w fun e w' => e = .returned (.bool r) ∧ Below w.heap.size w w' := by
  unfold slices_ContainsFunc_End.f at h
  split at h
  · rename_i hs
    obtain rfl := Option.some.inj h
    exact has_door A0 l0.length c0 l0 w hr0 hs
  · cases h
end Go.Proofs.YtfjbjiklohjodaaGreatDoor.Q
namespace Go.Proofs.YtfjbjiklohjodaaGreatDoor.Q
open Go.RowKit Go.Proofs.YtfjbjiklohjodaaGreatDoorW.PrintWords Go.Proofs.YtfjbjiklohjodaaGreatDoorW.PrintMore Go.Proofs.YtfjbjiklohjodaaGreatDoor.Z
set_option linter.unusedVariables false
set_option linter.unusedSimpArgs false
theorem spec_TextPieces_to (k : Nat) (hk : 2000 < k) (l : List UInt8) (hl : l.length ≤ 140737488355328) : spec_TextPieces.f k (mkB l) = some ((pieces l).map pcTo) := by
  unfold spec_TextPieces.f spec_TextOk.f pieces
  rw [size_mkB, if_pos hl, bl_of, Option.bind_some]
  cases h2 : textOk l
  · simp
  · have hl2 := textOk_len h2
    rw [if_pos rfl, if_pos rfl, spec_pieces_to k l (by omega) (by omega)]
    rfl
theorem spec_names_l0 (ps : List Pc) (hps : ps.length ≤ 1000) (n : Nat) : ∀ (k : Nat) (acc : List S62) (i : Nat), ps.length - i ≤ n → n < k → i ≤ ps.length → acc.length ≤ i →
    spec_TextNames.l0 k acc (ps.map pcTo) i = some (acc ++ (names (ps.drop i)).map enTo) := by
  induction n with
  | zero =>
    intro k acc i hn hk hi ha
    obtain ⟨k, rfl⟩ : ∃ m, k = m + 1 := ⟨k - 1, by omega⟩
    simp only [spec_TextNames.l0]
    rw [if_neg (by rw [List.length_map]; omega), List.drop_of_length_le (by omega)]
    simp [names]
  | succ n ih =>
    intro k acc i hn hk hi ha
    obtain ⟨k, rfl⟩ : ∃ m, k = m + 1 := ⟨k - 1, by omega⟩
    simp only [spec_TextNames.l0]
    by_cases hlt : i < ps.length
    · obtain ⟨p, hp⟩ : ∃ p, ps[i]? = some p := ⟨_, List.getElem?_eq_getElem hlt⟩
      have q0 : (i : Int) < (ps.length : Int) := by omega
      have q1 : (0 : Int) ≤ (i : Int) := by omega
      have q2 : acc.length < 8796093022208 := by omega
      have ih1 := ih k (acc ++ [enTo p.fin]) (i + 1) (by omega) (by omega) (by omega) (by rw [List.length_append, List.length_singleton]; omega)
      have ih2 := ih k acc (i + 1) (by omega) (by omega) (by omega) (by omega)
      have hw3 : wrap64 ((i : Int) + 1) = ((i + 1 : Nat) : Int) := by rw [w64 (by omega)]; omega
      have hr := rd_pc ps i p hp
      have hf1 : (rd_T116 (ps.map pcTo) (i : Int)).f1 = p.named := by rw [hr]; rfl
      have hf2 : (rd_T116 (ps.map pcTo) (i : Int)).f2.f0 = p.fin.addr := by rw [hr]; rfl
      have hf3 : (rd_T116 (ps.map pcTo) (i : Int)).f2.f1 = p.fin.port := by rw [hr]; rfl
      simp only [hf1, hf2, hf3, hw3, List.length_map, q0, q1, q2, if_true]
      rw [drop_of hp, names_cons]
      cases hn : p.named
      · rw [if_neg (by simp)]
        exact ih2
      · rw [if_pos rfl]
        refine ih1.trans ?_
        simp [enTo]
    · rw [if_neg (by rw [List.length_map]; omega), List.drop_of_length_le (by omega)]
      simp [names]
theorem spec_TextNames_to (k : Nat) (hk : 2000 < k) (l : List UInt8) (hl : l.length ≤ 140737488355328) : spec_TextNames.f k (mkB l) = some ((names (pieces l)).map enTo) := by
  have h := pieces_len l
  unfold spec_TextNames.f
  rw [spec_TextPieces_to k hk l hl, Option.bind_some]
  have := spec_names_l0 (pieces l) (by omega) 1000 k [] 0 (by omega) (by omega) (by omega) (by simp)
  rw [List.drop_zero, List.nil_append] at this
  exact this
theorem names_len (l : List UInt8) : (names (pieces l)).length ≤ 40 := by
  have h := pieces_len l
  unfold names
  rw [List.length_map]
  have h9 := List.length_filter_le (fun p : Pc => p.named) (pieces l)
  omega
theorem rd_en (es : List En) (i : Nat) (e : En) (h : es[i]? = some e) : rd_T62 (es.map enTo) (i : Int) = enTo e := by
  unfold rd_T62
  rw [Int.toNat_natCast, List.getD_eq_getElem?_getD, List.getElem?_map, h]
  rfl
theorem own_l0 (es : List En) (hes : es.length ≤ 1000) (n : Nat) : ∀ (k i : Nat), es.length - i ≤ n → n < k → i ≤ es.length →
    spec_l21Own.l0 k (es.map enTo) i = some (!(es.drop i).any doorB) := by
  induction n with
  | zero =>
    intro k i hn hk hi
    obtain ⟨k, rfl⟩ : ∃ m, k = m + 1 := ⟨k - 1, by omega⟩
    simp only [spec_l21Own.l0]
    rw [if_neg (by rw [List.length_map]; omega), List.drop_of_length_le (by omega)]
    rfl
  | succ n ih =>
    intro k i hn hk hi
    obtain ⟨k, rfl⟩ : ∃ m, k = m + 1 := ⟨k - 1, by omega⟩
    simp only [spec_l21Own.l0]
    by_cases hlt : i < es.length
    · obtain ⟨e, he⟩ : ∃ e, es[i]? = some e := ⟨_, List.getElem?_eq_getElem hlt⟩
      have ih1 := ih k (i + 1) (by omega) (by omega) (by omega)
      have hw3 : wrap64 ((i : Int) + 1) = ((i + 1 : Nat) : Int) := by rw [w64 (by omega)]; omega
      rw [if_pos (by rw [List.length_map]; omega), if_pos (by omega), rd_en es i e he, hw3, ih1, drop_of he]
      show (some (doorB ⟨e.addr, e.port⟩)).bind _ = _
      rw [Option.bind_some, show (⟨e.addr, e.port⟩ : En) = e from rfl]
      cases hd : doorB e
      · simp [hd]
      · simp [hd]
    · rw [if_neg (by rw [List.length_map]; omega), List.drop_of_length_le (by omega)]
      rfl
theorem spec_l21Own_to (k : Nat) (hk : 2000 < k) (l : List UInt8) (hl : l.length ≤ 140737488355328) : spec_l21Own.f k (mkB l) = some (!(names (pieces l)).any doorB) := by
  have h := names_len l
  unfold spec_l21Own.f
  rw [spec_TextNames_to k hk l hl, Option.bind_some]
  have := own_l0 (names (pieces l)) (by omega) 1000 k 0 (by omega) (by omega) (by omega)
  rw [List.drop_zero] at this
  exact this
def sayOk (l : List UInt8) : Bool := decide (l.length ≤ 24) && textOk l && heldN l == 0
theorem zero_beq (n : Nat) : ((n : Int) == 0) = (n == 0) := by
  rw [Bool.eq_iff_iff, beq_iff_eq, beq_iff_eq]
  omega
theorem impl_saying_to (l : List UInt8) (hl : l.length ≤ 140737488355328) : impl_saying.f (mkB l) = some (sayOk l) := by
  unfold impl_saying.f impl_TextOk.f impl_held.f sayOk
  rw [size_mkB]
  by_cases h : l.length ≤ 24
  · rw [if_pos (by omega), if_pos (by omega), Option.bind_some, bl_of, decide_eq_true h, Bool.true_and]
    cases textOk l
    · simp
    · rw [if_pos rfl, if_pos (by omega), Option.bind_some, Bool.true_and, zero_beq]
  · rw [if_neg (by omega), decide_eq_false h]
    simp
theorem spec_l21Whole_to (l : List UInt8) (hl : l.length ≤ 140737488355328) : spec_l21Whole.f (mkB l) = some (sayOk l) := by
  unfold spec_l21Whole.f spec_TextOk.f spec_l2Held.f sayOk
  rw [size_mkB, if_pos hl, Option.bind_some, bl_of]
  cases h2 : textOk l
  · simp
  · rw [if_pos rfl]
    by_cases h : l.length ≤ 24
    · rw [if_pos (by omega), if_pos (by omega), Option.bind_some, decide_eq_true h, Bool.true_and, Bool.true_and, zero_beq]
    · rw [if_neg (by omega), decide_eq_false h]
      simp
def convB (i o : En) (up down : List UInt8) : Bool := insideB i && outsideB o && sayOk up && sayOk down && !(names (pieces up)).any doorB
theorem any_door (es : List En) : (es.map enTo).any isDoor = es.any doorB := by rw [List.any_map]; rfl
end Go.Proofs.YtfjbjiklohjodaaGreatDoor.Q
namespace Go.Proofs.YtfjbjiklohjodaaGreatDoor.Z
open Go.RowKit Go.Proofs.YtfjbjiklohjodaaGreatDoorW.PrintWords Go.Proofs.YtfjbjiklohjodaaGreatDoorW.PrintLast Go.Proofs.YtfjbjiklohjodaaGreatDoorW.PrintMore
set_option linter.unusedVariables false
set_option linter.unusedSimpArgs false
attribute [local go_sem ↓] Go.wp_at_zero Go.wp_at_succ
set_option maxRecDepth 100000 in
set_option maxHeartbeats 4000000 in
theorem spec_conv (k : Nat) (hk : 3000 < k) (i o : En) (up down : List UInt8) (hu : up.length ≤ 140737488355328) (hd : down.length ≤ 140737488355328) (w : World) :
    Calls Tryz.prog 108 #[vEn i, vEn o, vS up, vS down] w fun r w' => r = .returned (.tuple #[(if Q.convB i o up down = true then .agg #[.int .i64 i.addr, .int .i64 i.port, .int .i64 o.addr, .int .i64 o.port, .string (Q.mkB up), .string (Q.mkB down), .int .i64 0, .int .i64 0, .string ⟨#[]⟩, .string ⟨#[]⟩] else .agg #[.int .i64 0, .int .i64 0, .int .i64 0, .int .i64 0, .string ⟨#[]⟩, .string ⟨#[]⟩, .int .i64 0, .int .i64 0, .string ⟨#[]⟩, .string ⟨#[]⟩]), .bool (Q.convB i o up down)]) ∧ Below w.heap.size w w' := by
  have B0 := Aside0.mk (Below.refl w.heap.size w)
  obtain ⟨b0, e0⟩ : ∃ b, insideB i = b := ⟨_, rfl⟩
  have F0 := Aside0.mk (show Q.spec_EndInside.f i.addr i.port = some b0 from congrArg some e0)
  obtain ⟨b1, e1⟩ : ∃ b, outsideB o = b := ⟨_, rfl⟩
  have F1 := Aside0.mk (show Q.spec_EndOutside.f o.addr o.port = some b1 from congrArg some e1)
  obtain ⟨b2, e2⟩ : ∃ b, Q.sayOk up = b := ⟨_, rfl⟩
  have F2 := Aside0.mk (show Q.spec_l21Whole.f (Q.mkB up) = some b2 from by rw [Q.spec_l21Whole_to up (by omega), e2])
  obtain ⟨b3, e3⟩ : ∃ b, (!(Q.names (Q.pieces up)).any doorB) = b := ⟨_, rfl⟩
  have F3 := Aside0.mk (show Q.spec_l21Own.f k (Q.mkB up) = some b3 from by rw [Q.spec_l21Own_to k (by omega) up (by omega), e3])
  obtain ⟨b4, e4⟩ : ∃ b, Q.sayOk down = b := ⟨_, rfl⟩
  have F4 := Aside0.mk (show Q.spec_l21Whole.f (Q.mkB down) = some b4 from by rw [Q.spec_l21Whole_to down (by omega), e4])
  have hconv : Q.convB i o up down = (b0 && b1 && b2 && b4 && b3) := by unfold Q.convB; rw [e0, e1, e2, e3, e4]
  clear e0 e1 e2 e3 e4
  cases b0 with
  | false =>
    have hc : Q.convB i o up down = false := hconv.trans (by simp)
    rw [hc, if_neg (by decide)]
    clear hconv hc
    go_enter Tryz.func108, Tryz.ntmps108
    go_wp2_with (first | (go_at_call 72; with_reducible refine (Q.spec_EndInside.calls i.addr i.port _ _ F0.out).mono ?_; rintro r w1 ⟨rfl, hb1⟩; obtain ⟨hb1c, hb1f, hb1z⟩ := bcell hb1; (try simp at hb1z); (try have hb10 : w.heap.size < w1.heap.size := by omega); (try have hb11 : w.heap.size + 1 < w1.heap.size := by omega); (try have hb12 : w.heap.size + 2 < w1.heap.size := by omega); have B1 := Aside0.mk (show Below w.heap.size w w1 from (by refine below_step ?_ hb1; repeat (first | (with_reducible exact B0.out) | (with_reducible apply below_alloc) | (with_reducible apply pw_below_drewN) | (with_reducible apply below_drew1) | with_reducible refine below_set ?_ (by first | (with_reducible exact Nat.le_refl _) | (with_reducible assumption) | (simp; done) | omega | (simp; omega)))))))
    refine bodyPost_ret (v := (.tuple #[(.agg #[.int .i64 0, .int .i64 0, .int .i64 0, .int .i64 0, .string ⟨#[]⟩, .string ⟨#[]⟩, .int .i64 0, .int .i64 0, .string ⟨#[]⟩, .string ⟨#[]⟩]), .bool false])) (by simp [results, Tryz.results108, go_sem, zEn, *]) rfl ⟨by simp, (by repeat (first | (with_reducible exact B1.out) | (with_reducible apply below_alloc) | (with_reducible apply pw_below_drewN) | (with_reducible apply below_drew1) | with_reducible refine below_set ?_ (by first | (with_reducible exact Nat.le_refl _) | (with_reducible assumption) | (simp; done) | omega | (simp; omega))))⟩
  | true =>
    cases b1 with
    | false =>
      have hc : Q.convB i o up down = false := hconv.trans (by simp)
      rw [hc, if_neg (by decide)]
      clear hconv hc
      go_enter Tryz.func108, Tryz.ntmps108
      go_wp2_with (first | (go_at_call 72; with_reducible refine (Q.spec_EndInside.calls i.addr i.port _ _ F0.out).mono ?_; rintro r w1 ⟨rfl, hb1⟩; obtain ⟨hb1c, hb1f, hb1z⟩ := bcell hb1; (try simp at hb1z); (try have hb10 : w.heap.size < w1.heap.size := by omega); (try have hb11 : w.heap.size + 1 < w1.heap.size := by omega); (try have hb12 : w.heap.size + 2 < w1.heap.size := by omega); have B1 := Aside0.mk (show Below w.heap.size w w1 from (by refine below_step ?_ hb1; repeat (first | (with_reducible exact B0.out) | (with_reducible apply below_alloc) | (with_reducible apply pw_below_drewN) | (with_reducible apply below_drew1) | with_reducible refine below_set ?_ (by first | (with_reducible exact Nat.le_refl _) | (with_reducible assumption) | (simp; done) | omega | (simp; omega)))))) | (go_at_call 100; with_reducible refine (Q.spec_EndOutside.calls o.addr o.port _ _ F1.out).mono ?_; rintro r w2 ⟨rfl, hb2⟩; obtain ⟨hb2c, hb2f, hb2z⟩ := bcell hb2; (try simp at hb2z); (try have hb20 : w.heap.size < w2.heap.size := by omega); (try have hb21 : w.heap.size + 1 < w2.heap.size := by omega); (try have hb22 : w.heap.size + 2 < w2.heap.size := by omega); have B2 := Aside0.mk (show Below w.heap.size w w2 from (by refine below_step ?_ hb2; repeat (first | (with_reducible exact B1.out) | (with_reducible apply below_alloc) | (with_reducible apply pw_below_drewN) | (with_reducible apply below_drew1) | with_reducible refine below_set ?_ (by first | (with_reducible exact Nat.le_refl _) | (with_reducible assumption) | (simp; done) | omega | (simp; omega)))))))
      refine bodyPost_ret (v := (.tuple #[(.agg #[.int .i64 0, .int .i64 0, .int .i64 0, .int .i64 0, .string ⟨#[]⟩, .string ⟨#[]⟩, .int .i64 0, .int .i64 0, .string ⟨#[]⟩, .string ⟨#[]⟩]), .bool false])) (by simp [results, Tryz.results108, go_sem, zEn, *]) rfl ⟨by simp, (by repeat (first | (with_reducible exact B2.out) | (with_reducible apply below_alloc) | (with_reducible apply pw_below_drewN) | (with_reducible apply below_drew1) | with_reducible refine below_set ?_ (by first | (with_reducible exact Nat.le_refl _) | (with_reducible assumption) | (simp; done) | omega | (simp; omega))))⟩
    | true =>
      cases b2 with
      | false =>
        have hc : Q.convB i o up down = false := hconv.trans (by simp)
        rw [hc, if_neg (by decide)]
        clear hconv hc
        go_enter Tryz.func108, Tryz.ntmps108
        go_wp2_with (first | (go_at_call 72; with_reducible refine (Q.spec_EndInside.calls i.addr i.port _ _ F0.out).mono ?_; rintro r w1 ⟨rfl, hb1⟩; obtain ⟨hb1c, hb1f, hb1z⟩ := bcell hb1; (try simp at hb1z); (try have hb10 : w.heap.size < w1.heap.size := by omega); (try have hb11 : w.heap.size + 1 < w1.heap.size := by omega); (try have hb12 : w.heap.size + 2 < w1.heap.size := by omega); have B1 := Aside0.mk (show Below w.heap.size w w1 from (by refine below_step ?_ hb1; repeat (first | (with_reducible exact B0.out) | (with_reducible apply below_alloc) | (with_reducible apply pw_below_drewN) | (with_reducible apply below_drew1) | with_reducible refine below_set ?_ (by first | (with_reducible exact Nat.le_refl _) | (with_reducible assumption) | (simp; done) | omega | (simp; omega)))))) | (go_at_call 100; with_reducible refine (Q.spec_EndOutside.calls o.addr o.port _ _ F1.out).mono ?_; rintro r w2 ⟨rfl, hb2⟩; obtain ⟨hb2c, hb2f, hb2z⟩ := bcell hb2; (try simp at hb2z); (try have hb20 : w.heap.size < w2.heap.size := by omega); (try have hb21 : w.heap.size + 1 < w2.heap.size := by omega); (try have hb22 : w.heap.size + 2 < w2.heap.size := by omega); have B2 := Aside0.mk (show Below w.heap.size w w2 from (by refine below_step ?_ hb2; repeat (first | (with_reducible exact B1.out) | (with_reducible apply below_alloc) | (with_reducible apply pw_below_drewN) | (with_reducible apply below_drew1) | with_reducible refine below_set ?_ (by first | (with_reducible exact Nat.le_refl _) | (with_reducible assumption) | (simp; done) | omega | (simp; omega)))))) | (go_at_call 155; with_reducible refine (Q.spec_l21Whole.calls (Q.mkB up) _ _ F2.out).mono ?_; rintro r w3 ⟨rfl, hb3⟩; obtain ⟨hb3c, hb3f, hb3z⟩ := bcell hb3; (try simp at hb3z); (try have hb30 : w.heap.size < w3.heap.size := by omega); (try have hb31 : w.heap.size + 1 < w3.heap.size := by omega); (try have hb32 : w.heap.size + 2 < w3.heap.size := by omega); have B3 := Aside0.mk (show Below w.heap.size w w3 from (by refine below_step ?_ hb3; repeat (first | (with_reducible exact B2.out) | (with_reducible apply below_alloc) | (with_reducible apply pw_below_drewN) | (with_reducible apply below_drew1) | with_reducible refine below_set ?_ (by first | (with_reducible exact Nat.le_refl _) | (with_reducible assumption) | (simp; done) | omega | (simp; omega)))))))
        refine bodyPost_ret (v := (.tuple #[(.agg #[.int .i64 0, .int .i64 0, .int .i64 0, .int .i64 0, .string ⟨#[]⟩, .string ⟨#[]⟩, .int .i64 0, .int .i64 0, .string ⟨#[]⟩, .string ⟨#[]⟩]), .bool false])) (by simp [results, Tryz.results108, go_sem, zEn, *]) rfl ⟨by simp, (by repeat (first | (with_reducible exact B3.out) | (with_reducible apply below_alloc) | (with_reducible apply pw_below_drewN) | (with_reducible apply below_drew1) | with_reducible refine below_set ?_ (by first | (with_reducible exact Nat.le_refl _) | (with_reducible assumption) | (simp; done) | omega | (simp; omega))))⟩
      | true =>
        cases b3 with
        | false =>
          have hc : Q.convB i o up down = false := hconv.trans (by simp)
          rw [hc, if_neg (by decide)]
          clear hconv hc
          go_enter Tryz.func108, Tryz.ntmps108
          go_wp2_with (first | (go_at_call 72; with_reducible refine (Q.spec_EndInside.calls i.addr i.port _ _ F0.out).mono ?_; rintro r w1 ⟨rfl, hb1⟩; obtain ⟨hb1c, hb1f, hb1z⟩ := bcell hb1; (try simp at hb1z); (try have hb10 : w.heap.size < w1.heap.size := by omega); (try have hb11 : w.heap.size + 1 < w1.heap.size := by omega); (try have hb12 : w.heap.size + 2 < w1.heap.size := by omega); have B1 := Aside0.mk (show Below w.heap.size w w1 from (by refine below_step ?_ hb1; repeat (first | (with_reducible exact B0.out) | (with_reducible apply below_alloc) | (with_reducible apply pw_below_drewN) | (with_reducible apply below_drew1) | with_reducible refine below_set ?_ (by first | (with_reducible exact Nat.le_refl _) | (with_reducible assumption) | (simp; done) | omega | (simp; omega)))))) | (go_at_call 100; with_reducible refine (Q.spec_EndOutside.calls o.addr o.port _ _ F1.out).mono ?_; rintro r w2 ⟨rfl, hb2⟩; obtain ⟨hb2c, hb2f, hb2z⟩ := bcell hb2; (try simp at hb2z); (try have hb20 : w.heap.size < w2.heap.size := by omega); (try have hb21 : w.heap.size + 1 < w2.heap.size := by omega); (try have hb22 : w.heap.size + 2 < w2.heap.size := by omega); have B2 := Aside0.mk (show Below w.heap.size w w2 from (by refine below_step ?_ hb2; repeat (first | (with_reducible exact B1.out) | (with_reducible apply below_alloc) | (with_reducible apply pw_below_drewN) | (with_reducible apply below_drew1) | with_reducible refine below_set ?_ (by first | (with_reducible exact Nat.le_refl _) | (with_reducible assumption) | (simp; done) | omega | (simp; omega)))))) | (go_at_call 155; with_reducible refine (Q.spec_l21Whole.calls (Q.mkB up) _ _ F2.out).mono ?_; rintro r w3 ⟨rfl, hb3⟩; obtain ⟨hb3c, hb3f, hb3z⟩ := bcell hb3; (try simp at hb3z); (try have hb30 : w.heap.size < w3.heap.size := by omega); (try have hb31 : w.heap.size + 1 < w3.heap.size := by omega); (try have hb32 : w.heap.size + 2 < w3.heap.size := by omega); have B3 := Aside0.mk (show Below w.heap.size w w3 from (by refine below_step ?_ hb3; repeat (first | (with_reducible exact B2.out) | (with_reducible apply below_alloc) | (with_reducible apply pw_below_drewN) | (with_reducible apply below_drew1) | with_reducible refine below_set ?_ (by first | (with_reducible exact Nat.le_refl _) | (with_reducible assumption) | (simp; done) | omega | (simp; omega)))))) | (go_at_call 156; with_reducible refine (Q.spec_l21Own.calls k (Q.mkB up) _ _ F3.out).mono ?_; rintro r w4 ⟨rfl, hb4⟩; obtain ⟨hb4c, hb4f, hb4z⟩ := bcell hb4; (try simp at hb4z); (try have hb40 : w.heap.size < w4.heap.size := by omega); (try have hb41 : w.heap.size + 1 < w4.heap.size := by omega); (try have hb42 : w.heap.size + 2 < w4.heap.size := by omega); have B4 := Aside0.mk (show Below w.heap.size w w4 from (by refine below_step ?_ hb4; repeat (first | (with_reducible exact B3.out) | (with_reducible apply below_alloc) | (with_reducible apply pw_below_drewN) | (with_reducible apply below_drew1) | with_reducible refine below_set ?_ (by first | (with_reducible exact Nat.le_refl _) | (with_reducible assumption) | (simp; done) | omega | (simp; omega)))))))
          refine bodyPost_ret (v := (.tuple #[(.agg #[.int .i64 0, .int .i64 0, .int .i64 0, .int .i64 0, .string ⟨#[]⟩, .string ⟨#[]⟩, .int .i64 0, .int .i64 0, .string ⟨#[]⟩, .string ⟨#[]⟩]), .bool false])) (by simp [results, Tryz.results108, go_sem, zEn, *]) rfl ⟨by simp, (by repeat (first | (with_reducible exact B4.out) | (with_reducible apply below_alloc) | (with_reducible apply pw_below_drewN) | (with_reducible apply below_drew1) | with_reducible refine below_set ?_ (by first | (with_reducible exact Nat.le_refl _) | (with_reducible assumption) | (simp; done) | omega | (simp; omega))))⟩
        | true =>
          cases b4 with
          | false =>
            have hc : Q.convB i o up down = false := hconv.trans (by simp)
            rw [hc, if_neg (by decide)]
            clear hconv hc
            go_enter Tryz.func108, Tryz.ntmps108
            go_wp2_with (first | (go_at_call 72; with_reducible refine (Q.spec_EndInside.calls i.addr i.port _ _ F0.out).mono ?_; rintro r w1 ⟨rfl, hb1⟩; obtain ⟨hb1c, hb1f, hb1z⟩ := bcell hb1; (try simp at hb1z); (try have hb10 : w.heap.size < w1.heap.size := by omega); (try have hb11 : w.heap.size + 1 < w1.heap.size := by omega); (try have hb12 : w.heap.size + 2 < w1.heap.size := by omega); have B1 := Aside0.mk (show Below w.heap.size w w1 from (by refine below_step ?_ hb1; repeat (first | (with_reducible exact B0.out) | (with_reducible apply below_alloc) | (with_reducible apply pw_below_drewN) | (with_reducible apply below_drew1) | with_reducible refine below_set ?_ (by first | (with_reducible exact Nat.le_refl _) | (with_reducible assumption) | (simp; done) | omega | (simp; omega)))))) | (go_at_call 100; with_reducible refine (Q.spec_EndOutside.calls o.addr o.port _ _ F1.out).mono ?_; rintro r w2 ⟨rfl, hb2⟩; obtain ⟨hb2c, hb2f, hb2z⟩ := bcell hb2; (try simp at hb2z); (try have hb20 : w.heap.size < w2.heap.size := by omega); (try have hb21 : w.heap.size + 1 < w2.heap.size := by omega); (try have hb22 : w.heap.size + 2 < w2.heap.size := by omega); have B2 := Aside0.mk (show Below w.heap.size w w2 from (by refine below_step ?_ hb2; repeat (first | (with_reducible exact B1.out) | (with_reducible apply below_alloc) | (with_reducible apply pw_below_drewN) | (with_reducible apply below_drew1) | with_reducible refine below_set ?_ (by first | (with_reducible exact Nat.le_refl _) | (with_reducible assumption) | (simp; done) | omega | (simp; omega)))))) | (go_at_call 155; with_reducible refine (Q.spec_l21Whole.calls (Q.mkB up) _ _ F2.out).mono ?_; rintro r w3 ⟨rfl, hb3⟩; obtain ⟨hb3c, hb3f, hb3z⟩ := bcell hb3; (try simp at hb3z); (try have hb30 : w.heap.size < w3.heap.size := by omega); (try have hb31 : w.heap.size + 1 < w3.heap.size := by omega); (try have hb32 : w.heap.size + 2 < w3.heap.size := by omega); have B3 := Aside0.mk (show Below w.heap.size w w3 from (by refine below_step ?_ hb3; repeat (first | (with_reducible exact B2.out) | (with_reducible apply below_alloc) | (with_reducible apply pw_below_drewN) | (with_reducible apply below_drew1) | with_reducible refine below_set ?_ (by first | (with_reducible exact Nat.le_refl _) | (with_reducible assumption) | (simp; done) | omega | (simp; omega)))))) | (go_at_call 156; with_reducible refine (Q.spec_l21Own.calls k (Q.mkB up) _ _ F3.out).mono ?_; rintro r w4 ⟨rfl, hb4⟩; obtain ⟨hb4c, hb4f, hb4z⟩ := bcell hb4; (try simp at hb4z); (try have hb40 : w.heap.size < w4.heap.size := by omega); (try have hb41 : w.heap.size + 1 < w4.heap.size := by omega); (try have hb42 : w.heap.size + 2 < w4.heap.size := by omega); have B4 := Aside0.mk (show Below w.heap.size w w4 from (by refine below_step ?_ hb4; repeat (first | (with_reducible exact B3.out) | (with_reducible apply below_alloc) | (with_reducible apply pw_below_drewN) | (with_reducible apply below_drew1) | with_reducible refine below_set ?_ (by first | (with_reducible exact Nat.le_refl _) | (with_reducible assumption) | (simp; done) | omega | (simp; omega)))))) | (go_at_call 155; with_reducible refine (Q.spec_l21Whole.calls (Q.mkB down) _ _ F4.out).mono ?_; rintro r w5 ⟨rfl, hb5⟩; obtain ⟨hb5c, hb5f, hb5z⟩ := bcell hb5; (try simp at hb5z); (try have hb50 : w.heap.size < w5.heap.size := by omega); (try have hb51 : w.heap.size + 1 < w5.heap.size := by omega); (try have hb52 : w.heap.size + 2 < w5.heap.size := by omega); have B5 := Aside0.mk (show Below w.heap.size w w5 from (by refine below_step ?_ hb5; repeat (first | (with_reducible exact B4.out) | (with_reducible apply below_alloc) | (with_reducible apply pw_below_drewN) | (with_reducible apply below_drew1) | with_reducible refine below_set ?_ (by first | (with_reducible exact Nat.le_refl _) | (with_reducible assumption) | (simp; done) | omega | (simp; omega)))))))
            refine bodyPost_ret (v := (.tuple #[(.agg #[.int .i64 0, .int .i64 0, .int .i64 0, .int .i64 0, .string ⟨#[]⟩, .string ⟨#[]⟩, .int .i64 0, .int .i64 0, .string ⟨#[]⟩, .string ⟨#[]⟩]), .bool false])) (by simp [results, Tryz.results108, go_sem, zEn, *]) rfl ⟨by simp, (by repeat (first | (with_reducible exact B5.out) | (with_reducible apply below_alloc) | (with_reducible apply pw_below_drewN) | (with_reducible apply below_drew1) | with_reducible refine below_set ?_ (by first | (with_reducible exact Nat.le_refl _) | (with_reducible assumption) | (simp; done) | omega | (simp; omega))))⟩
          | true =>
            have hc : Q.convB i o up down = true := hconv.trans (by simp)
            rw [hc, if_pos rfl]
            clear hconv hc
            go_enter Tryz.func108, Tryz.ntmps108
            go_wp2_with (first | (go_at_call 72; with_reducible refine (Q.spec_EndInside.calls i.addr i.port _ _ F0.out).mono ?_; rintro r w1 ⟨rfl, hb1⟩; obtain ⟨hb1c, hb1f, hb1z⟩ := bcell hb1; (try simp at hb1z); (try have hb10 : w.heap.size < w1.heap.size := by omega); (try have hb11 : w.heap.size + 1 < w1.heap.size := by omega); (try have hb12 : w.heap.size + 2 < w1.heap.size := by omega); have B1 := Aside0.mk (show Below w.heap.size w w1 from (by refine below_step ?_ hb1; repeat (first | (with_reducible exact B0.out) | (with_reducible apply below_alloc) | (with_reducible apply pw_below_drewN) | (with_reducible apply below_drew1) | with_reducible refine below_set ?_ (by first | (with_reducible exact Nat.le_refl _) | (with_reducible assumption) | (simp; done) | omega | (simp; omega)))))) | (go_at_call 100; with_reducible refine (Q.spec_EndOutside.calls o.addr o.port _ _ F1.out).mono ?_; rintro r w2 ⟨rfl, hb2⟩; obtain ⟨hb2c, hb2f, hb2z⟩ := bcell hb2; (try simp at hb2z); (try have hb20 : w.heap.size < w2.heap.size := by omega); (try have hb21 : w.heap.size + 1 < w2.heap.size := by omega); (try have hb22 : w.heap.size + 2 < w2.heap.size := by omega); have B2 := Aside0.mk (show Below w.heap.size w w2 from (by refine below_step ?_ hb2; repeat (first | (with_reducible exact B1.out) | (with_reducible apply below_alloc) | (with_reducible apply pw_below_drewN) | (with_reducible apply below_drew1) | with_reducible refine below_set ?_ (by first | (with_reducible exact Nat.le_refl _) | (with_reducible assumption) | (simp; done) | omega | (simp; omega)))))) | (go_at_call 155; with_reducible refine (Q.spec_l21Whole.calls (Q.mkB up) _ _ F2.out).mono ?_; rintro r w3 ⟨rfl, hb3⟩; obtain ⟨hb3c, hb3f, hb3z⟩ := bcell hb3; (try simp at hb3z); (try have hb30 : w.heap.size < w3.heap.size := by omega); (try have hb31 : w.heap.size + 1 < w3.heap.size := by omega); (try have hb32 : w.heap.size + 2 < w3.heap.size := by omega); have B3 := Aside0.mk (show Below w.heap.size w w3 from (by refine below_step ?_ hb3; repeat (first | (with_reducible exact B2.out) | (with_reducible apply below_alloc) | (with_reducible apply pw_below_drewN) | (with_reducible apply below_drew1) | with_reducible refine below_set ?_ (by first | (with_reducible exact Nat.le_refl _) | (with_reducible assumption) | (simp; done) | omega | (simp; omega)))))) | (go_at_call 156; with_reducible refine (Q.spec_l21Own.calls k (Q.mkB up) _ _ F3.out).mono ?_; rintro r w4 ⟨rfl, hb4⟩; obtain ⟨hb4c, hb4f, hb4z⟩ := bcell hb4; (try simp at hb4z); (try have hb40 : w.heap.size < w4.heap.size := by omega); (try have hb41 : w.heap.size + 1 < w4.heap.size := by omega); (try have hb42 : w.heap.size + 2 < w4.heap.size := by omega); have B4 := Aside0.mk (show Below w.heap.size w w4 from (by refine below_step ?_ hb4; repeat (first | (with_reducible exact B3.out) | (with_reducible apply below_alloc) | (with_reducible apply pw_below_drewN) | (with_reducible apply below_drew1) | with_reducible refine below_set ?_ (by first | (with_reducible exact Nat.le_refl _) | (with_reducible assumption) | (simp; done) | omega | (simp; omega)))))) | (go_at_call 155; with_reducible refine (Q.spec_l21Whole.calls (Q.mkB down) _ _ F4.out).mono ?_; rintro r w5 ⟨rfl, hb5⟩; obtain ⟨hb5c, hb5f, hb5z⟩ := bcell hb5; (try simp at hb5z); (try have hb50 : w.heap.size < w5.heap.size := by omega); (try have hb51 : w.heap.size + 1 < w5.heap.size := by omega); (try have hb52 : w.heap.size + 2 < w5.heap.size := by omega); have B5 := Aside0.mk (show Below w.heap.size w w5 from (by refine below_step ?_ hb5; repeat (first | (with_reducible exact B4.out) | (with_reducible apply below_alloc) | (with_reducible apply pw_below_drewN) | (with_reducible apply below_drew1) | with_reducible refine below_set ?_ (by first | (with_reducible exact Nat.le_refl _) | (with_reducible assumption) | (simp; done) | omega | (simp; omega)))))))
            refine bodyPost_ret (v := (.tuple #[(.agg #[.int .i64 i.addr, .int .i64 i.port, .int .i64 o.addr, .int .i64 o.port, .string (Q.mkB up), .string (Q.mkB down), .int .i64 0, .int .i64 0, .string ⟨#[]⟩, .string ⟨#[]⟩]), .bool true])) (by simp [results, Tryz.results108, go_sem, zEn, *]) rfl ⟨by simp, (by repeat (first | (with_reducible exact B5.out) | (with_reducible apply below_alloc) | (with_reducible apply pw_below_drewN) | (with_reducible apply below_drew1) | with_reducible refine below_set ?_ (by first | (with_reducible exact Nat.le_refl _) | (with_reducible assumption) | (simp; done) | omega | (simp; omega))))⟩
set_option maxRecDepth 100000 in
set_option maxHeartbeats 4000000 in
theorem impl_conv (k : Nat) (hk : 3000 < k) (i o : En) (up down : List UInt8) (hu : up.length ≤ 140737488355328) (hd : down.length ≤ 140737488355328) (w : World) (hV : VarsIn w) :
    Calls Tryz.prog 110 #[vEn i, vEn o, vS up, vS down] w fun r w' => r = .returned (.tuple #[(if Q.convB i o up down = true then .agg #[.int .i64 i.addr, .int .i64 i.port, .int .i64 o.addr, .int .i64 o.port, .string (Q.mkB up), .string (Q.mkB down), .int .i64 0, .int .i64 0, .string ⟨#[]⟩, .string ⟨#[]⟩] else .agg #[.int .i64 0, .int .i64 0, .int .i64 0, .int .i64 0, .string ⟨#[]⟩, .string ⟨#[]⟩, .int .i64 0, .int .i64 0, .string ⟨#[]⟩, .string ⟨#[]⟩]), .bool (Q.convB i o up down)]) ∧ Below w.heap.size w w' := by
  have B0 := Aside0.mk (Below.refl w.heap.size w)
  obtain ⟨b0, e0⟩ : ∃ b, insideB i = b := ⟨_, rfl⟩
  have F0 := Aside0.mk (show Q.impl_EndInside.f i.addr i.port = some b0 from congrArg some e0)
  obtain ⟨b1, e1⟩ : ∃ b, outsideB o = b := ⟨_, rfl⟩
  have F1 := Aside0.mk (show Q.impl_EndOutside.f o.addr o.port = some b1 from congrArg some e1)
  obtain ⟨b2, e2⟩ : ∃ b, Q.sayOk up = b := ⟨_, rfl⟩
  have F2 := Aside0.mk (show Q.impl_saying.f (Q.mkB up) = some b2 from by rw [Q.impl_saying_to up (by omega), e2])
  obtain ⟨b3, e3⟩ : ∃ b, Q.sayOk down = b := ⟨_, rfl⟩
  have F3 := Aside0.mk (show Q.impl_saying.f (Q.mkB down) = some b3 from by rw [Q.impl_saying_to down (by omega), e3])
  obtain ⟨b4, e4⟩ : ∃ b, (Q.names (Q.pieces up)).any doorB = b := ⟨_, rfl⟩
  have F4 := Aside0.mk (show Q.slices_ContainsFunc_End.f ((Q.names (Q.pieces up)).map Q.enTo) = some b4 from by (unfold Q.slices_ContainsFunc_End.f; rw [if_pos (by rw [List.length_map]; have := Q.names_len up; omega), Q.any_door, e4]))
  have hconv : Q.convB i o up down = (b0 && b1 && b2 && b3 && !b4) := by unfold Q.convB; rw [e0, e1, e2, e3, e4]
  have hnl := Q.names_len up
  have HN := Aside0.mk (Q.impl_TextNames_to k (by omega) up (by omega))
  have HV := Aside0.mk hV
  clear hV
  generalize (Q.names (Q.pieces up)).map Q.enTo = xs at HN F4
  clear e0 e1 e2 e3 e4
  cases b0 with
  | false =>
    have hc : Q.convB i o up down = false := hconv.trans (by simp)
    rw [hc, if_neg (by decide)]
    clear hconv hc
    go_enter Tryz.func110, Tryz.ntmps110
    go_wp2_with (first | (go_at_call 75; with_reducible refine (Q.impl_EndInside.calls i.addr i.port _ _ F0.out).mono ?_; rintro r w1 ⟨rfl, hb1⟩; obtain ⟨hb1c, hb1f, hb1z⟩ := bcell hb1; (try simp at hb1z); (try have hb10 : w.heap.size < w1.heap.size := by omega); (try have hb11 : w.heap.size + 1 < w1.heap.size := by omega); (try have hb12 : w.heap.size + 2 < w1.heap.size := by omega); have B1 := Aside0.mk (show Below w.heap.size w w1 from (by refine below_step ?_ hb1; repeat (first | (with_reducible exact B0.out) | (with_reducible apply below_alloc) | (with_reducible apply pw_below_drewN) | (with_reducible apply below_drew1) | with_reducible refine below_set ?_ (by first | (with_reducible exact Nat.le_refl _) | (with_reducible assumption) | (simp; done) | omega | (simp; omega)))))))
    refine bodyPost_ret (v := (.tuple #[(.agg #[.int .i64 0, .int .i64 0, .int .i64 0, .int .i64 0, .string ⟨#[]⟩, .string ⟨#[]⟩, .int .i64 0, .int .i64 0, .string ⟨#[]⟩, .string ⟨#[]⟩]), .bool false])) (by simp [results, Tryz.results110, go_sem, zEn, *]) rfl ⟨by simp, (by repeat (first | (with_reducible exact B1.out) | (with_reducible apply below_alloc) | (with_reducible apply pw_below_drewN) | (with_reducible apply below_drew1) | with_reducible refine below_set ?_ (by first | (with_reducible exact Nat.le_refl _) | (with_reducible assumption) | (simp; done) | omega | (simp; omega))))⟩
  | true =>
    cases b1 with
    | false =>
      have hc : Q.convB i o up down = false := hconv.trans (by simp)
      rw [hc, if_neg (by decide)]
      clear hconv hc
      go_enter Tryz.func110, Tryz.ntmps110
      go_wp2_with (first | (go_at_call 75; with_reducible refine (Q.impl_EndInside.calls i.addr i.port _ _ F0.out).mono ?_; rintro r w1 ⟨rfl, hb1⟩; obtain ⟨hb1c, hb1f, hb1z⟩ := bcell hb1; (try simp at hb1z); (try have hb10 : w.heap.size < w1.heap.size := by omega); (try have hb11 : w.heap.size + 1 < w1.heap.size := by omega); (try have hb12 : w.heap.size + 2 < w1.heap.size := by omega); have B1 := Aside0.mk (show Below w.heap.size w w1 from (by refine below_step ?_ hb1; repeat (first | (with_reducible exact B0.out) | (with_reducible apply below_alloc) | (with_reducible apply pw_below_drewN) | (with_reducible apply below_drew1) | with_reducible refine below_set ?_ (by first | (with_reducible exact Nat.le_refl _) | (with_reducible assumption) | (simp; done) | omega | (simp; omega)))))) | (go_at_call 103; with_reducible refine (Q.impl_EndOutside.calls o.addr o.port _ _ F1.out).mono ?_; rintro r w2 ⟨rfl, hb2⟩; obtain ⟨hb2c, hb2f, hb2z⟩ := bcell hb2; (try simp at hb2z); (try have hb20 : w.heap.size < w2.heap.size := by omega); (try have hb21 : w.heap.size + 1 < w2.heap.size := by omega); (try have hb22 : w.heap.size + 2 < w2.heap.size := by omega); have B2 := Aside0.mk (show Below w.heap.size w w2 from (by refine below_step ?_ hb2; repeat (first | (with_reducible exact B1.out) | (with_reducible apply below_alloc) | (with_reducible apply pw_below_drewN) | (with_reducible apply below_drew1) | with_reducible refine below_set ?_ (by first | (with_reducible exact Nat.le_refl _) | (with_reducible assumption) | (simp; done) | omega | (simp; omega)))))))
      refine bodyPost_ret (v := (.tuple #[(.agg #[.int .i64 0, .int .i64 0, .int .i64 0, .int .i64 0, .string ⟨#[]⟩, .string ⟨#[]⟩, .int .i64 0, .int .i64 0, .string ⟨#[]⟩, .string ⟨#[]⟩]), .bool false])) (by simp [results, Tryz.results110, go_sem, zEn, *]) rfl ⟨by simp, (by repeat (first | (with_reducible exact B2.out) | (with_reducible apply below_alloc) | (with_reducible apply pw_below_drewN) | (with_reducible apply below_drew1) | with_reducible refine below_set ?_ (by first | (with_reducible exact Nat.le_refl _) | (with_reducible assumption) | (simp; done) | omega | (simp; omega))))⟩
    | true =>
      cases b2 with
      | false =>
        have hc : Q.convB i o up down = false := hconv.trans (by simp)
        rw [hc, if_neg (by decide)]
        clear hconv hc
        go_enter Tryz.func110, Tryz.ntmps110
        go_wp2_with (first | (go_at_call 75; with_reducible refine (Q.impl_EndInside.calls i.addr i.port _ _ F0.out).mono ?_; rintro r w1 ⟨rfl, hb1⟩; obtain ⟨hb1c, hb1f, hb1z⟩ := bcell hb1; (try simp at hb1z); (try have hb10 : w.heap.size < w1.heap.size := by omega); (try have hb11 : w.heap.size + 1 < w1.heap.size := by omega); (try have hb12 : w.heap.size + 2 < w1.heap.size := by omega); have B1 := Aside0.mk (show Below w.heap.size w w1 from (by refine below_step ?_ hb1; repeat (first | (with_reducible exact B0.out) | (with_reducible apply below_alloc) | (with_reducible apply pw_below_drewN) | (with_reducible apply below_drew1) | with_reducible refine below_set ?_ (by first | (with_reducible exact Nat.le_refl _) | (with_reducible assumption) | (simp; done) | omega | (simp; omega)))))) | (go_at_call 103; with_reducible refine (Q.impl_EndOutside.calls o.addr o.port _ _ F1.out).mono ?_; rintro r w2 ⟨rfl, hb2⟩; obtain ⟨hb2c, hb2f, hb2z⟩ := bcell hb2; (try simp at hb2z); (try have hb20 : w.heap.size < w2.heap.size := by omega); (try have hb21 : w.heap.size + 1 < w2.heap.size := by omega); (try have hb22 : w.heap.size + 2 < w2.heap.size := by omega); have B2 := Aside0.mk (show Below w.heap.size w w2 from (by refine below_step ?_ hb2; repeat (first | (with_reducible exact B1.out) | (with_reducible apply below_alloc) | (with_reducible apply pw_below_drewN) | (with_reducible apply below_drew1) | with_reducible refine below_set ?_ (by first | (with_reducible exact Nat.le_refl _) | (with_reducible assumption) | (simp; done) | omega | (simp; omega)))))) | (go_at_call 157; with_reducible refine (Q.impl_saying.calls (Q.mkB up) _ _ F2.out).mono ?_; rintro r w3 ⟨rfl, hb3⟩; obtain ⟨hb3c, hb3f, hb3z⟩ := bcell hb3; (try simp at hb3z); (try have hb30 : w.heap.size < w3.heap.size := by omega); (try have hb31 : w.heap.size + 1 < w3.heap.size := by omega); (try have hb32 : w.heap.size + 2 < w3.heap.size := by omega); have B3 := Aside0.mk (show Below w.heap.size w w3 from (by refine below_step ?_ hb3; repeat (first | (with_reducible exact B2.out) | (with_reducible apply below_alloc) | (with_reducible apply pw_below_drewN) | (with_reducible apply below_drew1) | with_reducible refine below_set ?_ (by first | (with_reducible exact Nat.le_refl _) | (with_reducible assumption) | (simp; done) | omega | (simp; omega)))))))
        refine bodyPost_ret (v := (.tuple #[(.agg #[.int .i64 0, .int .i64 0, .int .i64 0, .int .i64 0, .string ⟨#[]⟩, .string ⟨#[]⟩, .int .i64 0, .int .i64 0, .string ⟨#[]⟩, .string ⟨#[]⟩]), .bool false])) (by simp [results, Tryz.results110, go_sem, zEn, *]) rfl ⟨by simp, (by repeat (first | (with_reducible exact B3.out) | (with_reducible apply below_alloc) | (with_reducible apply pw_below_drewN) | (with_reducible apply below_drew1) | with_reducible refine below_set ?_ (by first | (with_reducible exact Nat.le_refl _) | (with_reducible assumption) | (simp; done) | omega | (simp; omega))))⟩
      | true =>
        cases b3 with
        | false =>
          have hc : Q.convB i o up down = false := hconv.trans (by simp)
          rw [hc, if_neg (by decide)]
          clear hconv hc
          go_enter Tryz.func110, Tryz.ntmps110
          go_wp2_with (first | (go_at_call 75; with_reducible refine (Q.impl_EndInside.calls i.addr i.port _ _ F0.out).mono ?_; rintro r w1 ⟨rfl, hb1⟩; obtain ⟨hb1c, hb1f, hb1z⟩ := bcell hb1; (try simp at hb1z); (try have hb10 : w.heap.size < w1.heap.size := by omega); (try have hb11 : w.heap.size + 1 < w1.heap.size := by omega); (try have hb12 : w.heap.size + 2 < w1.heap.size := by omega); have B1 := Aside0.mk (show Below w.heap.size w w1 from (by refine below_step ?_ hb1; repeat (first | (with_reducible exact B0.out) | (with_reducible apply below_alloc) | (with_reducible apply pw_below_drewN) | (with_reducible apply below_drew1) | with_reducible refine below_set ?_ (by first | (with_reducible exact Nat.le_refl _) | (with_reducible assumption) | (simp; done) | omega | (simp; omega)))))) | (go_at_call 103; with_reducible refine (Q.impl_EndOutside.calls o.addr o.port _ _ F1.out).mono ?_; rintro r w2 ⟨rfl, hb2⟩; obtain ⟨hb2c, hb2f, hb2z⟩ := bcell hb2; (try simp at hb2z); (try have hb20 : w.heap.size < w2.heap.size := by omega); (try have hb21 : w.heap.size + 1 < w2.heap.size := by omega); (try have hb22 : w.heap.size + 2 < w2.heap.size := by omega); have B2 := Aside0.mk (show Below w.heap.size w w2 from (by refine below_step ?_ hb2; repeat (first | (with_reducible exact B1.out) | (with_reducible apply below_alloc) | (with_reducible apply pw_below_drewN) | (with_reducible apply below_drew1) | with_reducible refine below_set ?_ (by first | (with_reducible exact Nat.le_refl _) | (with_reducible assumption) | (simp; done) | omega | (simp; omega)))))) | (go_at_call 157; with_reducible refine (Q.impl_saying.calls (Q.mkB up) _ _ F2.out).mono ?_; rintro r w3 ⟨rfl, hb3⟩; obtain ⟨hb3c, hb3f, hb3z⟩ := bcell hb3; (try simp at hb3z); (try have hb30 : w.heap.size < w3.heap.size := by omega); (try have hb31 : w.heap.size + 1 < w3.heap.size := by omega); (try have hb32 : w.heap.size + 2 < w3.heap.size := by omega); have B3 := Aside0.mk (show Below w.heap.size w w3 from (by refine below_step ?_ hb3; repeat (first | (with_reducible exact B2.out) | (with_reducible apply below_alloc) | (with_reducible apply pw_below_drewN) | (with_reducible apply below_drew1) | with_reducible refine below_set ?_ (by first | (with_reducible exact Nat.le_refl _) | (with_reducible assumption) | (simp; done) | omega | (simp; omega)))))) | (go_at_call 157; with_reducible refine (Q.impl_saying.calls (Q.mkB down) _ _ F3.out).mono ?_; rintro r w4 ⟨rfl, hb4⟩; obtain ⟨hb4c, hb4f, hb4z⟩ := bcell hb4; (try simp at hb4z); (try have hb40 : w.heap.size < w4.heap.size := by omega); (try have hb41 : w.heap.size + 1 < w4.heap.size := by omega); (try have hb42 : w.heap.size + 2 < w4.heap.size := by omega); have B4 := Aside0.mk (show Below w.heap.size w w4 from (by refine below_step ?_ hb4; repeat (first | (with_reducible exact B3.out) | (with_reducible apply below_alloc) | (with_reducible apply pw_below_drewN) | (with_reducible apply below_drew1) | with_reducible refine below_set ?_ (by first | (with_reducible exact Nat.le_refl _) | (with_reducible assumption) | (simp; done) | omega | (simp; omega)))))))
          refine bodyPost_ret (v := (.tuple #[(.agg #[.int .i64 0, .int .i64 0, .int .i64 0, .int .i64 0, .string ⟨#[]⟩, .string ⟨#[]⟩, .int .i64 0, .int .i64 0, .string ⟨#[]⟩, .string ⟨#[]⟩]), .bool false])) (by simp [results, Tryz.results110, go_sem, zEn, *]) rfl ⟨by simp, (by repeat (first | (with_reducible exact B4.out) | (with_reducible apply below_alloc) | (with_reducible apply pw_below_drewN) | (with_reducible apply below_drew1) | with_reducible refine below_set ?_ (by first | (with_reducible exact Nat.le_refl _) | (with_reducible assumption) | (simp; done) | omega | (simp; omega))))⟩
        | true =>
          cases b4 with
          | true =>
            have hc : Q.convB i o up down = false := hconv.trans (by simp)
            rw [hc, if_neg (by decide)]
            clear hconv hc
            go_enter Tryz.func110, Tryz.ntmps110
            go_wp2_with (first | (go_at_call 75; with_reducible refine (Q.impl_EndInside.calls i.addr i.port _ _ F0.out).mono ?_; rintro r w1 ⟨rfl, hb1⟩; obtain ⟨hb1c, hb1f, hb1z⟩ := bcell hb1; (try simp at hb1z); (try have hb10 : w.heap.size < w1.heap.size := by omega); (try have hb11 : w.heap.size + 1 < w1.heap.size := by omega); (try have hb12 : w.heap.size + 2 < w1.heap.size := by omega); have B1 := Aside0.mk (show Below w.heap.size w w1 from (by refine below_step ?_ hb1; repeat (first | (with_reducible exact B0.out) | (with_reducible apply below_alloc) | (with_reducible apply pw_below_drewN) | (with_reducible apply below_drew1) | with_reducible refine below_set ?_ (by first | (with_reducible exact Nat.le_refl _) | (with_reducible assumption) | (simp; done) | omega | (simp; omega)))))) | (go_at_call 103; with_reducible refine (Q.impl_EndOutside.calls o.addr o.port _ _ F1.out).mono ?_; rintro r w2 ⟨rfl, hb2⟩; obtain ⟨hb2c, hb2f, hb2z⟩ := bcell hb2; (try simp at hb2z); (try have hb20 : w.heap.size < w2.heap.size := by omega); (try have hb21 : w.heap.size + 1 < w2.heap.size := by omega); (try have hb22 : w.heap.size + 2 < w2.heap.size := by omega); have B2 := Aside0.mk (show Below w.heap.size w w2 from (by refine below_step ?_ hb2; repeat (first | (with_reducible exact B1.out) | (with_reducible apply below_alloc) | (with_reducible apply pw_below_drewN) | (with_reducible apply below_drew1) | with_reducible refine below_set ?_ (by first | (with_reducible exact Nat.le_refl _) | (with_reducible assumption) | (simp; done) | omega | (simp; omega)))))) | (go_at_call 157; with_reducible refine (Q.impl_saying.calls (Q.mkB up) _ _ F2.out).mono ?_; rintro r w3 ⟨rfl, hb3⟩; obtain ⟨hb3c, hb3f, hb3z⟩ := bcell hb3; (try simp at hb3z); (try have hb30 : w.heap.size < w3.heap.size := by omega); (try have hb31 : w.heap.size + 1 < w3.heap.size := by omega); (try have hb32 : w.heap.size + 2 < w3.heap.size := by omega); have B3 := Aside0.mk (show Below w.heap.size w w3 from (by refine below_step ?_ hb3; repeat (first | (with_reducible exact B2.out) | (with_reducible apply below_alloc) | (with_reducible apply pw_below_drewN) | (with_reducible apply below_drew1) | with_reducible refine below_set ?_ (by first | (with_reducible exact Nat.le_refl _) | (with_reducible assumption) | (simp; done) | omega | (simp; omega)))))) | (go_at_call 157; with_reducible refine (Q.impl_saying.calls (Q.mkB down) _ _ F3.out).mono ?_; rintro r w4 ⟨rfl, hb4⟩; obtain ⟨hb4c, hb4f, hb4z⟩ := bcell hb4; (try simp at hb4z); (try have hb40 : w.heap.size < w4.heap.size := by omega); (try have hb41 : w.heap.size + 1 < w4.heap.size := by omega); (try have hb42 : w.heap.size + 2 < w4.heap.size := by omega); have B4 := Aside0.mk (show Below w.heap.size w w4 from (by refine below_step ?_ hb4; repeat (first | (with_reducible exact B3.out) | (with_reducible apply below_alloc) | (with_reducible apply pw_below_drewN) | (with_reducible apply below_drew1) | with_reducible refine below_set ?_ (by first | (with_reducible exact Nat.le_refl _) | (with_reducible assumption) | (simp; done) | omega | (simp; omega)))))) | (go_at_call 159; with_reducible refine (Q.impl_TextNames.calls k (Q.mkB up) _ _ (HV.out.next (by repeat (first | (with_reducible exact B4.out) | (with_reducible apply below_alloc) | (with_reducible apply pw_below_drewN) | (with_reducible apply below_drew1) | with_reducible refine below_set ?_ (by first | (with_reducible exact Nat.le_refl _) | (with_reducible assumption) | (simp; done) | omega | (simp; omega))))) HN.out).mono ?_; rintro r v5 ⟨x5, rfl, hx5, hb5n⟩; obtain ⟨hb5nc, hb5nf, hb5nz⟩ := bcell hb5n; (try simp at hb5nz); (try have hb5n0 : w.heap.size < v5.heap.size := by omega); (try have hb5n1 : w.heap.size + 1 < v5.heap.size := by omega); (try have hb5n2 : w.heap.size + 2 < v5.heap.size := by omega); have Bn := Aside0.mk (show Below w.heap.size w v5 from (by refine below_step ?_ hb5n; repeat (first | (with_reducible exact B4.out) | (with_reducible apply below_alloc) | (with_reducible apply pw_below_drewN) | (with_reducible apply below_drew1) | with_reducible refine below_set ?_ (by first | (with_reducible exact Nat.le_refl _) | (with_reducible assumption) | (simp; done) | omega | (simp; omega))))); obtain ⟨A5, c5, ex5⟩ := Kd.V_slice hx5; subst ex5; have HX5 := Aside0.mk hx5; clear hx5) | (go_at_call 158; with_reducible refine (Q.slices_ContainsFunc_End.calls A5 c5 _ _ _ (Kd.V_reads' HX5.out).2.2 (Kd.V_reads' HX5.out).2.1 F4.out).mono ?_; rintro r w5 ⟨rfl, hb5⟩; obtain ⟨hb5c, hb5f, hb5z⟩ := bcell hb5; (try simp at hb5z); (try have hb50 : w.heap.size < w5.heap.size := by omega); (try have hb51 : w.heap.size + 1 < w5.heap.size := by omega); (try have hb52 : w.heap.size + 2 < w5.heap.size := by omega); have B5 := Aside0.mk (show Below w.heap.size w w5 from (by refine below_step ?_ hb5; repeat (first | (with_reducible exact Bn.out) | (with_reducible apply below_alloc) | (with_reducible apply pw_below_drewN) | (with_reducible apply below_drew1) | with_reducible refine below_set ?_ (by first | (with_reducible exact Nat.le_refl _) | (with_reducible assumption) | (simp; done) | omega | (simp; omega)))))))
            refine bodyPost_ret (v := (.tuple #[(.agg #[.int .i64 0, .int .i64 0, .int .i64 0, .int .i64 0, .string ⟨#[]⟩, .string ⟨#[]⟩, .int .i64 0, .int .i64 0, .string ⟨#[]⟩, .string ⟨#[]⟩]), .bool false])) (by simp [results, Tryz.results110, go_sem, zEn, *]) rfl ⟨by simp, (by repeat (first | (with_reducible exact B5.out) | (with_reducible apply below_alloc) | (with_reducible apply pw_below_drewN) | (with_reducible apply below_drew1) | with_reducible refine below_set ?_ (by first | (with_reducible exact Nat.le_refl _) | (with_reducible assumption) | (simp; done) | omega | (simp; omega))))⟩
          | false =>
            have hc : Q.convB i o up down = true := hconv.trans (by simp)
            rw [hc, if_pos rfl]
            clear hconv hc
            go_enter Tryz.func110, Tryz.ntmps110
            go_wp2_with (first | (go_at_call 75; with_reducible refine (Q.impl_EndInside.calls i.addr i.port _ _ F0.out).mono ?_; rintro r w1 ⟨rfl, hb1⟩; obtain ⟨hb1c, hb1f, hb1z⟩ := bcell hb1; (try simp at hb1z); (try have hb10 : w.heap.size < w1.heap.size := by omega); (try have hb11 : w.heap.size + 1 < w1.heap.size := by omega); (try have hb12 : w.heap.size + 2 < w1.heap.size := by omega); have B1 := Aside0.mk (show Below w.heap.size w w1 from (by refine below_step ?_ hb1; repeat (first | (with_reducible exact B0.out) | (with_reducible apply below_alloc) | (with_reducible apply pw_below_drewN) | (with_reducible apply below_drew1) | with_reducible refine below_set ?_ (by first | (with_reducible exact Nat.le_refl _) | (with_reducible assumption) | (simp; done) | omega | (simp; omega)))))) | (go_at_call 103; with_reducible refine (Q.impl_EndOutside.calls o.addr o.port _ _ F1.out).mono ?_; rintro r w2 ⟨rfl, hb2⟩; obtain ⟨hb2c, hb2f, hb2z⟩ := bcell hb2; (try simp at hb2z); (try have hb20 : w.heap.size < w2.heap.size := by omega); (try have hb21 : w.heap.size + 1 < w2.heap.size := by omega); (try have hb22 : w.heap.size + 2 < w2.heap.size := by omega); have B2 := Aside0.mk (show Below w.heap.size w w2 from (by refine below_step ?_ hb2; repeat (first | (with_reducible exact B1.out) | (with_reducible apply below_alloc) | (with_reducible apply pw_below_drewN) | (with_reducible apply below_drew1) | with_reducible refine below_set ?_ (by first | (with_reducible exact Nat.le_refl _) | (with_reducible assumption) | (simp; done) | omega | (simp; omega)))))) | (go_at_call 157; with_reducible refine (Q.impl_saying.calls (Q.mkB up) _ _ F2.out).mono ?_; rintro r w3 ⟨rfl, hb3⟩; obtain ⟨hb3c, hb3f, hb3z⟩ := bcell hb3; (try simp at hb3z); (try have hb30 : w.heap.size < w3.heap.size := by omega); (try have hb31 : w.heap.size + 1 < w3.heap.size := by omega); (try have hb32 : w.heap.size + 2 < w3.heap.size := by omega); have B3 := Aside0.mk (show Below w.heap.size w w3 from (by refine below_step ?_ hb3; repeat (first | (with_reducible exact B2.out) | (with_reducible apply below_alloc) | (with_reducible apply pw_below_drewN) | (with_reducible apply below_drew1) | with_reducible refine below_set ?_ (by first | (with_reducible exact Nat.le_refl _) | (with_reducible assumption) | (simp; done) | omega | (simp; omega)))))) | (go_at_call 157; with_reducible refine (Q.impl_saying.calls (Q.mkB down) _ _ F3.out).mono ?_; rintro r w4 ⟨rfl, hb4⟩; obtain ⟨hb4c, hb4f, hb4z⟩ := bcell hb4; (try simp at hb4z); (try have hb40 : w.heap.size < w4.heap.size := by omega); (try have hb41 : w.heap.size + 1 < w4.heap.size := by omega); (try have hb42 : w.heap.size + 2 < w4.heap.size := by omega); have B4 := Aside0.mk (show Below w.heap.size w w4 from (by refine below_step ?_ hb4; repeat (first | (with_reducible exact B3.out) | (with_reducible apply below_alloc) | (with_reducible apply pw_below_drewN) | (with_reducible apply below_drew1) | with_reducible refine below_set ?_ (by first | (with_reducible exact Nat.le_refl _) | (with_reducible assumption) | (simp; done) | omega | (simp; omega)))))) | (go_at_call 159; with_reducible refine (Q.impl_TextNames.calls k (Q.mkB up) _ _ (HV.out.next (by repeat (first | (with_reducible exact B4.out) | (with_reducible apply below_alloc) | (with_reducible apply pw_below_drewN) | (with_reducible apply below_drew1) | with_reducible refine below_set ?_ (by first | (with_reducible exact Nat.le_refl _) | (with_reducible assumption) | (simp; done) | omega | (simp; omega))))) HN.out).mono ?_; rintro r v5 ⟨x5, rfl, hx5, hb5n⟩; obtain ⟨hb5nc, hb5nf, hb5nz⟩ := bcell hb5n; (try simp at hb5nz); (try have hb5n0 : w.heap.size < v5.heap.size := by omega); (try have hb5n1 : w.heap.size + 1 < v5.heap.size := by omega); (try have hb5n2 : w.heap.size + 2 < v5.heap.size := by omega); have Bn := Aside0.mk (show Below w.heap.size w v5 from (by refine below_step ?_ hb5n; repeat (first | (with_reducible exact B4.out) | (with_reducible apply below_alloc) | (with_reducible apply pw_below_drewN) | (with_reducible apply below_drew1) | with_reducible refine below_set ?_ (by first | (with_reducible exact Nat.le_refl _) | (with_reducible assumption) | (simp; done) | omega | (simp; omega))))); obtain ⟨A5, c5, ex5⟩ := Kd.V_slice hx5; subst ex5; have HX5 := Aside0.mk hx5; clear hx5) | (go_at_call 158; with_reducible refine (Q.slices_ContainsFunc_End.calls A5 c5 _ _ _ (Kd.V_reads' HX5.out).2.2 (Kd.V_reads' HX5.out).2.1 F4.out).mono ?_; rintro r w5 ⟨rfl, hb5⟩; obtain ⟨hb5c, hb5f, hb5z⟩ := bcell hb5; (try simp at hb5z); (try have hb50 : w.heap.size < w5.heap.size := by omega); (try have hb51 : w.heap.size + 1 < w5.heap.size := by omega); (try have hb52 : w.heap.size + 2 < w5.heap.size := by omega); have B5 := Aside0.mk (show Below w.heap.size w w5 from (by refine below_step ?_ hb5; repeat (first | (with_reducible exact Bn.out) | (with_reducible apply below_alloc) | (with_reducible apply pw_below_drewN) | (with_reducible apply below_drew1) | with_reducible refine below_set ?_ (by first | (with_reducible exact Nat.le_refl _) | (with_reducible assumption) | (simp; done) | omega | (simp; omega)))))))
            refine bodyPost_ret (v := (.tuple #[(.agg #[.int .i64 i.addr, .int .i64 i.port, .int .i64 o.addr, .int .i64 o.port, .string (Q.mkB up), .string (Q.mkB down), .int .i64 0, .int .i64 0, .string ⟨#[]⟩, .string ⟨#[]⟩]), .bool true])) (by simp [results, Tryz.results110, go_sem, zEn, *]) rfl ⟨by simp, (by repeat (first | (with_reducible exact B5.out) | (with_reducible apply below_alloc) | (with_reducible apply pw_below_drewN) | (with_reducible apply below_drew1) | with_reducible refine below_set ?_ (by first | (with_reducible exact Nat.le_refl _) | (with_reducible assumption) | (simp; done) | omega | (simp; omega))))⟩
end Go.Proofs.YtfjbjiklohjodaaGreatDoor.Z
namespace Go.Proofs.YtfjbjiklohjodaaGreatDoor.Z
open Go.RowKit Go.Proofs.YtfjbjiklohjodaaGreatDoorW.PrintWords Go.Proofs.YtfjbjiklohjodaaGreatDoorW.PrintLast Go.Proofs.YtfjbjiklohjodaaGreatDoorW.PrintMore
set_option linter.unusedVariables false
set_option linter.unusedSimpArgs false
attribute [local go_sem ↓] Go.wp_at_zero Go.wp_at_succ
structure Cv where
  inside : En
  outside : En
  up : List UInt8
  down : List UInt8
  upAck : Int
  downAck : Int
  upGot : List UInt8
  downGot : List UInt8
  deriving DecidableEq
abbrev cvCells (c : Cv) : Array Value := #[.int .i64 c.inside.addr, .int .i64 c.inside.port, .int .i64 c.outside.addr, .int .i64 c.outside.port, .string ⟨c.up.toArray⟩, .string ⟨c.down.toArray⟩, .int .i64 c.upAck, .int .i64 c.downAck, .string ⟨c.upGot.toArray⟩, .string ⟨c.downGot.toArray⟩]
abbrev vCv (c : Cv) : Value := .agg (cvCells c)
def zCv : Cv := ⟨⟨0, 0⟩, ⟨0, 0⟩, [], [], 0, 0, [], []⟩
noncomputable def convOkB (c : Cv) : Bool := Q.convB c.inside c.outside c.up c.down && inB c.upAck 0 (c.up.length : Int) && inB c.downAck 0 (c.down.length : Int) && textOk c.upGot && textOk c.downGot
structure Cv.small (c : Cv) : Prop where
  up : c.up.length ≤ 140737488355328
  down : c.down.length ≤ 140737488355328
  upGot : c.upGot.length ≤ 140737488355328
  downGot : c.downGot.length ≤ 140737488355328
set_option maxRecDepth 100000 in
set_option maxHeartbeats 4000000 in
theorem impl_convOk (k : Nat) (hk : 3000 < k) (c : Cv) (hl : c.small) (w : World) (hV : VarsIn w) :
    Calls Tryz.prog 95 #[vCv c] w fun r w' => r = .returned (.bool (convOkB c)) ∧ Below w.heap.size w w' := by
  have B0 := Aside0.mk (Below.refl w.heap.size w)
  obtain ⟨⟨i0, i1⟩, ⟨o0, o1⟩, up, down, a, b, g, h⟩ := c
  obtain ⟨l1, l2, l3, l4⟩ := hl
  unfold convOkB
  simp only at l1 l2 l3 l4 ⊢
  obtain ⟨A1, e1⟩ : ∃ A1, inB a 0 (up.length : Int) = A1 := ⟨_, rfl⟩
  obtain ⟨A2, e2⟩ : ∃ A2, inB b 0 (down.length : Int) = A2 := ⟨_, rfl⟩
  obtain ⟨T1, e3⟩ : ∃ T1, textOk g = T1 := ⟨_, rfl⟩
  obtain ⟨T2, e4⟩ : ∃ T2, textOk h = T2 := ⟨_, rfl⟩
  have HT1 := Aside0.mk (show Q.impl_TextOk.f ⟨g.toArray⟩ = some T1 by unfold Q.impl_TextOk.f; rw [if_pos (show (⟨g.toArray⟩ : ByteArray).size ≤ _ from l3), ← e3])
  have HT2 := Aside0.mk (show Q.impl_TextOk.f ⟨h.toArray⟩ = some T2 by unfold Q.impl_TextOk.f; rw [if_pos (show (⟨h.toArray⟩ : ByteArray).size ≤ _ from l4), ← e4])
  rw [e1, e2, e3, e4]
  have E1 := Aside0.mk e1
  have E2 := Aside0.mk e2
  clear e1 e2 e3 e4 l3 l4
  have HV := Aside0.mk hV
  clear hV
  cases hc : Q.convB ⟨i0, i1⟩ ⟨o0, o1⟩ up down with
  | false =>
    simp only [Bool.false_and]
    have HN := Aside0.mk (show ∀ w : World, VarsIn w → Calls Tryz.prog 110 #[.agg #[.int .i64 i0, .int .i64 i1], .agg #[.int .i64 o0, .int .i64 o1], .string ⟨up.toArray⟩, .string ⟨down.toArray⟩] w fun r w' => r = .returned (.tuple #[.agg #[.int .i64 0, .int .i64 0, .int .i64 0, .int .i64 0, .string ⟨#[]⟩, .string ⟨#[]⟩, .int .i64 0, .int .i64 0, .string ⟨#[]⟩, .string ⟨#[]⟩], .bool false]) ∧ Below w.heap.size w w' from fun w hV => by
      have := impl_conv k hk ⟨i0, i1⟩ ⟨o0, o1⟩ up down l1 l2 w hV
      rw [hc, if_neg (by decide)] at this
      exact this)
    clear hc l1 l2
    go_enter Tryz.func95, Tryz.ntmps95
    go_wp2_with (first | (go_at_call 110; with_reducible refine (HN.out _ (HV.out.next (by repeat (first | (with_reducible exact B0.out) | (with_reducible apply below_alloc) | (with_reducible apply pw_below_drewN) | (with_reducible apply below_drew1) | with_reducible refine below_set ?_ (by first | (with_reducible exact Nat.le_refl _) | (with_reducible assumption) | (simp; done) | omega | (simp; omega)))))).mono ?_; rintro r w1 ⟨rfl, hb1⟩; obtain ⟨hb1c, hb1f, hb1z⟩ := bcell hb1; (try simp at hb1z); (try have hb10 : w.heap.size < w1.heap.size := by omega); (try have hb11 : w.heap.size + 1 < w1.heap.size := by omega); (try have hb12 : w.heap.size + 2 < w1.heap.size := by omega); have B1 := Aside0.mk (show Below w.heap.size w w1 from (by refine below_step ?_ hb1; repeat (first | (with_reducible exact B0.out) | (with_reducible apply below_alloc) | (with_reducible apply pw_below_drewN) | (with_reducible apply below_drew1) | with_reducible refine below_set ?_ (by first | (with_reducible exact Nat.le_refl _) | (with_reducible assumption) | (simp; done) | omega | (simp; omega)))))))
    refine bodyPost_ret (v := (.bool false)) (by simp [results, Tryz.results95, go_sem, zEn, *]) rfl ⟨by first | rfl | simp, (by repeat (first | (with_reducible exact B1.out) | (with_reducible apply below_alloc) | (with_reducible apply pw_below_drewN) | (with_reducible apply below_drew1) | with_reducible refine below_set ?_ (by first | (with_reducible exact Nat.le_refl _) | (with_reducible assumption) | (simp; done) | omega | (simp; omega))))⟩
  | true =>
    have HN := Aside0.mk (show ∀ w : World, VarsIn w → Calls Tryz.prog 110 #[.agg #[.int .i64 i0, .int .i64 i1], .agg #[.int .i64 o0, .int .i64 o1], .string ⟨up.toArray⟩, .string ⟨down.toArray⟩] w fun r w' => r = .returned (.tuple #[.agg #[.int .i64 i0, .int .i64 i1, .int .i64 o0, .int .i64 o1, .string (Q.mkB up), .string (Q.mkB down), .int .i64 0, .int .i64 0, .string ⟨#[]⟩, .string ⟨#[]⟩], .bool true]) ∧ Below w.heap.size w w' from fun w hV => by
      have := impl_conv k hk ⟨i0, i1⟩ ⟨o0, o1⟩ up down l1 l2 w hV
      rw [hc, if_pos rfl] at this
      exact this)
    clear hc l1 l2
    simp only [Bool.true_and]
    cases A1 with
    | false =>
      simp only [Bool.false_and, Bool.true_and, Bool.and_false]
      go_enter Tryz.func95, Tryz.ntmps95
      go_wp2_with (first | (go_at_call 110; with_reducible refine (HN.out _ (HV.out.next (by repeat (first | (with_reducible exact B0.out) | (with_reducible apply below_alloc) | (with_reducible apply pw_below_drewN) | (with_reducible apply below_drew1) | with_reducible refine below_set ?_ (by first | (with_reducible exact Nat.le_refl _) | (with_reducible assumption) | (simp; done) | omega | (simp; omega)))))).mono ?_; rintro r w1 ⟨rfl, hb1⟩; obtain ⟨hb1c, hb1f, hb1z⟩ := bcell hb1; (try simp at hb1z); (try have hb10 : w.heap.size < w1.heap.size := by omega); (try have hb11 : w.heap.size + 1 < w1.heap.size := by omega); (try have hb12 : w.heap.size + 2 < w1.heap.size := by omega); have B1 := Aside0.mk (show Below w.heap.size w w1 from (by refine below_step ?_ hb1; repeat (first | (with_reducible exact B0.out) | (with_reducible apply below_alloc) | (with_reducible apply pw_below_drewN) | (with_reducible apply below_drew1) | with_reducible refine below_set ?_ (by first | (with_reducible exact Nat.le_refl _) | (with_reducible assumption) | (simp; done) | omega | (simp; omega)))))) | (go_at_call 68; with_reducible refine (impl_within a 0 (up.length : Int) _).mono ?_; rintro r w2 ⟨rfl, rfl⟩; obtain ⟨B1.outc, B1.outf, B1.outz⟩ := bcell B1.out; (try simp at B1.outz); (try have B1.out0 : w.heap.size < w2.heap.size := by omega); (try have B1.out1 : w.heap.size + 1 < w2.heap.size := by omega); (try have B1.out2 : w.heap.size + 2 < w2.heap.size := by omega); rw [E1.out]))
      refine bodyPost_ret (v := (.bool false)) (by simp [results, Tryz.results95, go_sem, zEn, *]) rfl ⟨by first | rfl | simp, (by repeat (first | (with_reducible exact B1.out) | (with_reducible apply below_alloc) | (with_reducible apply pw_below_drewN) | (with_reducible apply below_drew1) | with_reducible refine below_set ?_ (by first | (with_reducible exact Nat.le_refl _) | (with_reducible assumption) | (simp; done) | omega | (simp; omega))))⟩
    | true =>
      cases A2 with
      | false =>
        simp only [Bool.false_and, Bool.true_and, Bool.and_false]
        go_enter Tryz.func95, Tryz.ntmps95
        go_wp2_with (first | (go_at_call 110; with_reducible refine (HN.out _ (HV.out.next (by repeat (first | (with_reducible exact B0.out) | (with_reducible apply below_alloc) | (with_reducible apply pw_below_drewN) | (with_reducible apply below_drew1) | with_reducible refine below_set ?_ (by first | (with_reducible exact Nat.le_refl _) | (with_reducible assumption) | (simp; done) | omega | (simp; omega)))))).mono ?_; rintro r w1 ⟨rfl, hb1⟩; obtain ⟨hb1c, hb1f, hb1z⟩ := bcell hb1; (try simp at hb1z); (try have hb10 : w.heap.size < w1.heap.size := by omega); (try have hb11 : w.heap.size + 1 < w1.heap.size := by omega); (try have hb12 : w.heap.size + 2 < w1.heap.size := by omega); have B1 := Aside0.mk (show Below w.heap.size w w1 from (by refine below_step ?_ hb1; repeat (first | (with_reducible exact B0.out) | (with_reducible apply below_alloc) | (with_reducible apply pw_below_drewN) | (with_reducible apply below_drew1) | with_reducible refine below_set ?_ (by first | (with_reducible exact Nat.le_refl _) | (with_reducible assumption) | (simp; done) | omega | (simp; omega)))))) | (go_at_call 68; with_reducible refine (impl_within a 0 (up.length : Int) _).mono ?_; rintro r w2 ⟨rfl, rfl⟩; obtain ⟨B1.outc, B1.outf, B1.outz⟩ := bcell B1.out; (try simp at B1.outz); (try have B1.out0 : w.heap.size < w2.heap.size := by omega); (try have B1.out1 : w.heap.size + 1 < w2.heap.size := by omega); (try have B1.out2 : w.heap.size + 2 < w2.heap.size := by omega); rw [E1.out]) | (go_at_call 68; with_reducible refine (impl_within b 0 (down.length : Int) _).mono ?_; rintro r w3 ⟨rfl, rfl⟩; obtain ⟨B1.outc, B1.outf, B1.outz⟩ := bcell B1.out; (try simp at B1.outz); (try have B1.out0 : w.heap.size < w3.heap.size := by omega); (try have B1.out1 : w.heap.size + 1 < w3.heap.size := by omega); (try have B1.out2 : w.heap.size + 2 < w3.heap.size := by omega); rw [E2.out]))
        refine bodyPost_ret (v := (.bool false)) (by simp [results, Tryz.results95, go_sem, zEn, *]) rfl ⟨by first | rfl | simp, (by repeat (first | (with_reducible exact B1.out) | (with_reducible apply below_alloc) | (with_reducible apply pw_below_drewN) | (with_reducible apply below_drew1) | with_reducible refine below_set ?_ (by first | (with_reducible exact Nat.le_refl _) | (with_reducible assumption) | (simp; done) | omega | (simp; omega))))⟩
      | true =>
        cases T1 with
        | false =>
          simp only [Bool.false_and, Bool.true_and, Bool.and_false]
          go_enter Tryz.func95, Tryz.ntmps95
          go_wp2_with (first | (go_at_call 110; with_reducible refine (HN.out _ (HV.out.next (by repeat (first | (with_reducible exact B0.out) | (with_reducible apply below_alloc) | (with_reducible apply pw_below_drewN) | (with_reducible apply below_drew1) | with_reducible refine below_set ?_ (by first | (with_reducible exact Nat.le_refl _) | (with_reducible assumption) | (simp; done) | omega | (simp; omega)))))).mono ?_; rintro r w1 ⟨rfl, hb1⟩; obtain ⟨hb1c, hb1f, hb1z⟩ := bcell hb1; (try simp at hb1z); (try have hb10 : w.heap.size < w1.heap.size := by omega); (try have hb11 : w.heap.size + 1 < w1.heap.size := by omega); (try have hb12 : w.heap.size + 2 < w1.heap.size := by omega); have B1 := Aside0.mk (show Below w.heap.size w w1 from (by refine below_step ?_ hb1; repeat (first | (with_reducible exact B0.out) | (with_reducible apply below_alloc) | (with_reducible apply pw_below_drewN) | (with_reducible apply below_drew1) | with_reducible refine below_set ?_ (by first | (with_reducible exact Nat.le_refl _) | (with_reducible assumption) | (simp; done) | omega | (simp; omega)))))) | (go_at_call 68; with_reducible refine (impl_within a 0 (up.length : Int) _).mono ?_; rintro r w2 ⟨rfl, rfl⟩; obtain ⟨B1.outc, B1.outf, B1.outz⟩ := bcell B1.out; (try simp at B1.outz); (try have B1.out0 : w.heap.size < w2.heap.size := by omega); (try have B1.out1 : w.heap.size + 1 < w2.heap.size := by omega); (try have B1.out2 : w.heap.size + 2 < w2.heap.size := by omega); rw [E1.out]) | (go_at_call 68; with_reducible refine (impl_within b 0 (down.length : Int) _).mono ?_; rintro r w3 ⟨rfl, rfl⟩; obtain ⟨B1.outc, B1.outf, B1.outz⟩ := bcell B1.out; (try simp at B1.outz); (try have B1.out0 : w.heap.size < w3.heap.size := by omega); (try have B1.out1 : w.heap.size + 1 < w3.heap.size := by omega); (try have B1.out2 : w.heap.size + 2 < w3.heap.size := by omega); rw [E2.out]) | (go_at_call 67; with_reducible refine (Q.impl_TextOk.calls _ _ _ HT1.out).mono ?_; rintro r w4 ⟨rfl, hb4⟩; obtain ⟨hb4c, hb4f, hb4z⟩ := bcell hb4; (try simp at hb4z); (try have hb40 : w.heap.size < w4.heap.size := by omega); (try have hb41 : w.heap.size + 1 < w4.heap.size := by omega); (try have hb42 : w.heap.size + 2 < w4.heap.size := by omega); have B4 := Aside0.mk (show Below w.heap.size w w4 from (by refine below_step ?_ hb4; repeat (first | (with_reducible exact B1.out) | (with_reducible apply below_alloc) | (with_reducible apply pw_below_drewN) | (with_reducible apply below_drew1) | with_reducible refine below_set ?_ (by first | (with_reducible exact Nat.le_refl _) | (with_reducible assumption) | (simp; done) | omega | (simp; omega))))); clear HT1))
          refine bodyPost_ret (v := (.bool false)) (by simp [results, Tryz.results95, go_sem, zEn, *]) rfl ⟨by first | rfl | simp, (by repeat (first | (with_reducible exact B4.out) | (with_reducible apply below_alloc) | (with_reducible apply pw_below_drewN) | (with_reducible apply below_drew1) | with_reducible refine below_set ?_ (by first | (with_reducible exact Nat.le_refl _) | (with_reducible assumption) | (simp; done) | omega | (simp; omega))))⟩
        | true =>
          cases T2 with
          | false =>
            simp only [Bool.false_and, Bool.true_and, Bool.and_false]
            go_enter Tryz.func95, Tryz.ntmps95
            go_wp2_with (first | (go_at_call 110; with_reducible refine (HN.out _ (HV.out.next (by repeat (first | (with_reducible exact B0.out) | (with_reducible apply below_alloc) | (with_reducible apply pw_below_drewN) | (with_reducible apply below_drew1) | with_reducible refine below_set ?_ (by first | (with_reducible exact Nat.le_refl _) | (with_reducible assumption) | (simp; done) | omega | (simp; omega)))))).mono ?_; rintro r w1 ⟨rfl, hb1⟩; obtain ⟨hb1c, hb1f, hb1z⟩ := bcell hb1; (try simp at hb1z); (try have hb10 : w.heap.size < w1.heap.size := by omega); (try have hb11 : w.heap.size + 1 < w1.heap.size := by omega); (try have hb12 : w.heap.size + 2 < w1.heap.size := by omega); have B1 := Aside0.mk (show Below w.heap.size w w1 from (by refine below_step ?_ hb1; repeat (first | (with_reducible exact B0.out) | (with_reducible apply below_alloc) | (with_reducible apply pw_below_drewN) | (with_reducible apply below_drew1) | with_reducible refine below_set ?_ (by first | (with_reducible exact Nat.le_refl _) | (with_reducible assumption) | (simp; done) | omega | (simp; omega)))))) | (go_at_call 68; with_reducible refine (impl_within a 0 (up.length : Int) _).mono ?_; rintro r w2 ⟨rfl, rfl⟩; obtain ⟨B1.outc, B1.outf, B1.outz⟩ := bcell B1.out; (try simp at B1.outz); (try have B1.out0 : w.heap.size < w2.heap.size := by omega); (try have B1.out1 : w.heap.size + 1 < w2.heap.size := by omega); (try have B1.out2 : w.heap.size + 2 < w2.heap.size := by omega); rw [E1.out]) | (go_at_call 68; with_reducible refine (impl_within b 0 (down.length : Int) _).mono ?_; rintro r w3 ⟨rfl, rfl⟩; obtain ⟨B1.outc, B1.outf, B1.outz⟩ := bcell B1.out; (try simp at B1.outz); (try have B1.out0 : w.heap.size < w3.heap.size := by omega); (try have B1.out1 : w.heap.size + 1 < w3.heap.size := by omega); (try have B1.out2 : w.heap.size + 2 < w3.heap.size := by omega); rw [E2.out]) | (go_at_call 67; with_reducible refine (Q.impl_TextOk.calls _ _ _ HT1.out).mono ?_; rintro r w4 ⟨rfl, hb4⟩; obtain ⟨hb4c, hb4f, hb4z⟩ := bcell hb4; (try simp at hb4z); (try have hb40 : w.heap.size < w4.heap.size := by omega); (try have hb41 : w.heap.size + 1 < w4.heap.size := by omega); (try have hb42 : w.heap.size + 2 < w4.heap.size := by omega); have B4 := Aside0.mk (show Below w.heap.size w w4 from (by refine below_step ?_ hb4; repeat (first | (with_reducible exact B1.out) | (with_reducible apply below_alloc) | (with_reducible apply pw_below_drewN) | (with_reducible apply below_drew1) | with_reducible refine below_set ?_ (by first | (with_reducible exact Nat.le_refl _) | (with_reducible assumption) | (simp; done) | omega | (simp; omega))))); clear HT1) | (go_at_call 67; with_reducible refine (Q.impl_TextOk.calls _ _ _ HT2.out).mono ?_; rintro r w5 ⟨rfl, hb5⟩; obtain ⟨hb5c, hb5f, hb5z⟩ := bcell hb5; (try simp at hb5z); (try have hb50 : w.heap.size < w5.heap.size := by omega); (try have hb51 : w.heap.size + 1 < w5.heap.size := by omega); (try have hb52 : w.heap.size + 2 < w5.heap.size := by omega); have B5 := Aside0.mk (show Below w.heap.size w w5 from (by refine below_step ?_ hb5; repeat (first | (with_reducible exact B4.out) | (with_reducible apply below_alloc) | (with_reducible apply pw_below_drewN) | (with_reducible apply below_drew1) | with_reducible refine below_set ?_ (by first | (with_reducible exact Nat.le_refl _) | (with_reducible assumption) | (simp; done) | omega | (simp; omega)))))))
            refine bodyPost_ret (v := (.bool false)) (by simp [results, Tryz.results95, go_sem, zEn, *]) rfl ⟨by first | rfl | simp, (by repeat (first | (with_reducible exact B5.out) | (with_reducible apply below_alloc) | (with_reducible apply pw_below_drewN) | (with_reducible apply below_drew1) | with_reducible refine below_set ?_ (by first | (with_reducible exact Nat.le_refl _) | (with_reducible assumption) | (simp; done) | omega | (simp; omega))))⟩
          | true =>
            simp only [Bool.and_self]
            go_enter Tryz.func95, Tryz.ntmps95
            go_wp2_with (first | (go_at_call 110; with_reducible refine (HN.out _ (HV.out.next (by repeat (first | (with_reducible exact B0.out) | (with_reducible apply below_alloc) | (with_reducible apply pw_below_drewN) | (with_reducible apply below_drew1) | with_reducible refine below_set ?_ (by first | (with_reducible exact Nat.le_refl _) | (with_reducible assumption) | (simp; done) | omega | (simp; omega)))))).mono ?_; rintro r w1 ⟨rfl, hb1⟩; obtain ⟨hb1c, hb1f, hb1z⟩ := bcell hb1; (try simp at hb1z); (try have hb10 : w.heap.size < w1.heap.size := by omega); (try have hb11 : w.heap.size + 1 < w1.heap.size := by omega); (try have hb12 : w.heap.size + 2 < w1.heap.size := by omega); have B1 := Aside0.mk (show Below w.heap.size w w1 from (by refine below_step ?_ hb1; repeat (first | (with_reducible exact B0.out) | (with_reducible apply below_alloc) | (with_reducible apply pw_below_drewN) | (with_reducible apply below_drew1) | with_reducible refine below_set ?_ (by first | (with_reducible exact Nat.le_refl _) | (with_reducible assumption) | (simp; done) | omega | (simp; omega)))))) | (go_at_call 68; with_reducible refine (impl_within a 0 (up.length : Int) _).mono ?_; rintro r w2 ⟨rfl, rfl⟩; obtain ⟨B1.outc, B1.outf, B1.outz⟩ := bcell B1.out; (try simp at B1.outz); (try have B1.out0 : w.heap.size < w2.heap.size := by omega); (try have B1.out1 : w.heap.size + 1 < w2.heap.size := by omega); (try have B1.out2 : w.heap.size + 2 < w2.heap.size := by omega); rw [E1.out]) | (go_at_call 68; with_reducible refine (impl_within b 0 (down.length : Int) _).mono ?_; rintro r w3 ⟨rfl, rfl⟩; obtain ⟨B1.outc, B1.outf, B1.outz⟩ := bcell B1.out; (try simp at B1.outz); (try have B1.out0 : w.heap.size < w3.heap.size := by omega); (try have B1.out1 : w.heap.size + 1 < w3.heap.size := by omega); (try have B1.out2 : w.heap.size + 2 < w3.heap.size := by omega); rw [E2.out]) | (go_at_call 67; with_reducible refine (Q.impl_TextOk.calls _ _ _ HT1.out).mono ?_; rintro r w4 ⟨rfl, hb4⟩; obtain ⟨hb4c, hb4f, hb4z⟩ := bcell hb4; (try simp at hb4z); (try have hb40 : w.heap.size < w4.heap.size := by omega); (try have hb41 : w.heap.size + 1 < w4.heap.size := by omega); (try have hb42 : w.heap.size + 2 < w4.heap.size := by omega); have B4 := Aside0.mk (show Below w.heap.size w w4 from (by refine below_step ?_ hb4; repeat (first | (with_reducible exact B1.out) | (with_reducible apply below_alloc) | (with_reducible apply pw_below_drewN) | (with_reducible apply below_drew1) | with_reducible refine below_set ?_ (by first | (with_reducible exact Nat.le_refl _) | (with_reducible assumption) | (simp; done) | omega | (simp; omega))))); clear HT1) | (go_at_call 67; with_reducible refine (Q.impl_TextOk.calls _ _ _ HT2.out).mono ?_; rintro r w5 ⟨rfl, hb5⟩; obtain ⟨hb5c, hb5f, hb5z⟩ := bcell hb5; (try simp at hb5z); (try have hb50 : w.heap.size < w5.heap.size := by omega); (try have hb51 : w.heap.size + 1 < w5.heap.size := by omega); (try have hb52 : w.heap.size + 2 < w5.heap.size := by omega); have B5 := Aside0.mk (show Below w.heap.size w w5 from (by refine below_step ?_ hb5; repeat (first | (with_reducible exact B4.out) | (with_reducible apply below_alloc) | (with_reducible apply pw_below_drewN) | (with_reducible apply below_drew1) | with_reducible refine below_set ?_ (by first | (with_reducible exact Nat.le_refl _) | (with_reducible assumption) | (simp; done) | omega | (simp; omega)))))))
            refine bodyPost_ret (v := (.bool true)) (by simp [results, Tryz.results95, go_sem, zEn, *]) rfl ⟨by first | rfl | simp, (by repeat (first | (with_reducible exact B5.out) | (with_reducible apply below_alloc) | (with_reducible apply pw_below_drewN) | (with_reducible apply below_drew1) | with_reducible refine below_set ?_ (by first | (with_reducible exact Nat.le_refl _) | (with_reducible assumption) | (simp; done) | omega | (simp; omega))))⟩
set_option maxRecDepth 100000 in
set_option maxHeartbeats 4000000 in
theorem spec_convOk (k : Nat) (hk : 3000 < k) (c : Cv) (hl : c.small) (w : World) :
    Calls Tryz.prog 91 #[vCv c] w fun r w' => r = .returned (.bool (convOkB c)) ∧ Below w.heap.size w w' := by
  have B0 := Aside0.mk (Below.refl w.heap.size w)
  obtain ⟨⟨i0, i1⟩, ⟨o0, o1⟩, up, down, a, b, g, h⟩ := c
  obtain ⟨l1, l2, l3, l4⟩ := hl
  unfold convOkB
  simp only at l1 l2 l3 l4 ⊢
  obtain ⟨A1, e1⟩ : ∃ A1, inB a 0 (up.length : Int) = A1 := ⟨_, rfl⟩
  obtain ⟨A2, e2⟩ : ∃ A2, inB b 0 (down.length : Int) = A2 := ⟨_, rfl⟩
  obtain ⟨T1, e3⟩ : ∃ T1, textOk g = T1 := ⟨_, rfl⟩
  obtain ⟨T2, e4⟩ : ∃ T2, textOk h = T2 := ⟨_, rfl⟩
  have HT1 := Aside0.mk (show Q.spec_TextOk.f ⟨g.toArray⟩ = some T1 by unfold Q.spec_TextOk.f; rw [if_pos (show (⟨g.toArray⟩ : ByteArray).size ≤ _ from l3), ← e3])
  have HT2 := Aside0.mk (show Q.spec_TextOk.f ⟨h.toArray⟩ = some T2 by unfold Q.spec_TextOk.f; rw [if_pos (show (⟨h.toArray⟩ : ByteArray).size ≤ _ from l4), ← e4])
  rw [e1, e2, e3, e4]
  have E1 := Aside0.mk e1
  have E2 := Aside0.mk e2
  clear e1 e2 e3 e4 l3 l4
  cases hc : Q.convB ⟨i0, i1⟩ ⟨o0, o1⟩ up down with
  | false =>
    simp only [Bool.false_and]
    have HN := Aside0.mk (show ∀ w : World, Calls Tryz.prog 108 #[.agg #[.int .i64 i0, .int .i64 i1], .agg #[.int .i64 o0, .int .i64 o1], .string ⟨up.toArray⟩, .string ⟨down.toArray⟩] w fun r w' => r = .returned (.tuple #[.agg #[.int .i64 0, .int .i64 0, .int .i64 0, .int .i64 0, .string ⟨#[]⟩, .string ⟨#[]⟩, .int .i64 0, .int .i64 0, .string ⟨#[]⟩, .string ⟨#[]⟩], .bool false]) ∧ Below w.heap.size w w' from fun w => by
      have := spec_conv k hk ⟨i0, i1⟩ ⟨o0, o1⟩ up down l1 l2 w
      rw [hc, if_neg (by decide)] at this
      exact this)
    clear hc l1 l2
    go_enter Tryz.func91, Tryz.ntmps91
    go_wp2_with (first | (go_at_call 108; with_reducible refine (HN.out _).mono ?_; rintro r w1 ⟨rfl, hb1⟩; obtain ⟨hb1c, hb1f, hb1z⟩ := bcell hb1; (try simp at hb1z); (try have hb10 : w.heap.size < w1.heap.size := by omega); (try have hb11 : w.heap.size + 1 < w1.heap.size := by omega); (try have hb12 : w.heap.size + 2 < w1.heap.size := by omega); have B1 := Aside0.mk (show Below w.heap.size w w1 from (by refine below_step ?_ hb1; repeat (first | (with_reducible exact B0.out) | (with_reducible apply below_alloc) | (with_reducible apply pw_below_drewN) | (with_reducible apply below_drew1) | with_reducible refine below_set ?_ (by first | (with_reducible exact Nat.le_refl _) | (with_reducible assumption) | (simp; done) | omega | (simp; omega)))))))
    refine bodyPost_ret (v := (.bool false)) (by simp [results, Tryz.results91, go_sem, zEn, *]) rfl ⟨by first | rfl | simp, (by repeat (first | (with_reducible exact B1.out) | (with_reducible apply below_alloc) | (with_reducible apply pw_below_drewN) | (with_reducible apply below_drew1) | with_reducible refine below_set ?_ (by first | (with_reducible exact Nat.le_refl _) | (with_reducible assumption) | (simp; done) | omega | (simp; omega))))⟩
  | true =>
    have HN := Aside0.mk (show ∀ w : World, Calls Tryz.prog 108 #[.agg #[.int .i64 i0, .int .i64 i1], .agg #[.int .i64 o0, .int .i64 o1], .string ⟨up.toArray⟩, .string ⟨down.toArray⟩] w fun r w' => r = .returned (.tuple #[.agg #[.int .i64 i0, .int .i64 i1, .int .i64 o0, .int .i64 o1, .string (Q.mkB up), .string (Q.mkB down), .int .i64 0, .int .i64 0, .string ⟨#[]⟩, .string ⟨#[]⟩], .bool true]) ∧ Below w.heap.size w w' from fun w => by
      have := spec_conv k hk ⟨i0, i1⟩ ⟨o0, o1⟩ up down l1 l2 w
      rw [hc, if_pos rfl] at this
      exact this)
    clear hc l1 l2
    simp only [Bool.true_and]
    cases A1 with
    | false =>
      simp only [Bool.false_and, Bool.true_and, Bool.and_false]
      go_enter Tryz.func91, Tryz.ntmps91
      go_wp2_with (first | (go_at_call 108; with_reducible refine (HN.out _).mono ?_; rintro r w1 ⟨rfl, hb1⟩; obtain ⟨hb1c, hb1f, hb1z⟩ := bcell hb1; (try simp at hb1z); (try have hb10 : w.heap.size < w1.heap.size := by omega); (try have hb11 : w.heap.size + 1 < w1.heap.size := by omega); (try have hb12 : w.heap.size + 2 < w1.heap.size := by omega); have B1 := Aside0.mk (show Below w.heap.size w w1 from (by refine below_step ?_ hb1; repeat (first | (with_reducible exact B0.out) | (with_reducible apply below_alloc) | (with_reducible apply pw_below_drewN) | (with_reducible apply below_drew1) | with_reducible refine below_set ?_ (by first | (with_reducible exact Nat.le_refl _) | (with_reducible assumption) | (simp; done) | omega | (simp; omega)))))) | (go_at_call 63; with_reducible refine (spec_l6In a 0 (up.length : Int) _).mono ?_; rintro r w2 ⟨rfl, rfl⟩; obtain ⟨B1.outc, B1.outf, B1.outz⟩ := bcell B1.out; (try simp at B1.outz); (try have B1.out0 : w.heap.size < w2.heap.size := by omega); (try have B1.out1 : w.heap.size + 1 < w2.heap.size := by omega); (try have B1.out2 : w.heap.size + 2 < w2.heap.size := by omega); rw [E1.out]))
      refine bodyPost_ret (v := (.bool false)) (by simp [results, Tryz.results91, go_sem, zEn, *]) rfl ⟨by first | rfl | simp, (by repeat (first | (with_reducible exact B1.out) | (with_reducible apply below_alloc) | (with_reducible apply pw_below_drewN) | (with_reducible apply below_drew1) | with_reducible refine below_set ?_ (by first | (with_reducible exact Nat.le_refl _) | (with_reducible assumption) | (simp; done) | omega | (simp; omega))))⟩
    | true =>
      cases A2 with
      | false =>
        simp only [Bool.false_and, Bool.true_and, Bool.and_false]
        go_enter Tryz.func91, Tryz.ntmps91
        go_wp2_with (first | (go_at_call 108; with_reducible refine (HN.out _).mono ?_; rintro r w1 ⟨rfl, hb1⟩; obtain ⟨hb1c, hb1f, hb1z⟩ := bcell hb1; (try simp at hb1z); (try have hb10 : w.heap.size < w1.heap.size := by omega); (try have hb11 : w.heap.size + 1 < w1.heap.size := by omega); (try have hb12 : w.heap.size + 2 < w1.heap.size := by omega); have B1 := Aside0.mk (show Below w.heap.size w w1 from (by refine below_step ?_ hb1; repeat (first | (with_reducible exact B0.out) | (with_reducible apply below_alloc) | (with_reducible apply pw_below_drewN) | (with_reducible apply below_drew1) | with_reducible refine below_set ?_ (by first | (with_reducible exact Nat.le_refl _) | (with_reducible assumption) | (simp; done) | omega | (simp; omega)))))) | (go_at_call 63; with_reducible refine (spec_l6In a 0 (up.length : Int) _).mono ?_; rintro r w2 ⟨rfl, rfl⟩; obtain ⟨B1.outc, B1.outf, B1.outz⟩ := bcell B1.out; (try simp at B1.outz); (try have B1.out0 : w.heap.size < w2.heap.size := by omega); (try have B1.out1 : w.heap.size + 1 < w2.heap.size := by omega); (try have B1.out2 : w.heap.size + 2 < w2.heap.size := by omega); rw [E1.out]) | (go_at_call 63; with_reducible refine (spec_l6In b 0 (down.length : Int) _).mono ?_; rintro r w3 ⟨rfl, rfl⟩; obtain ⟨B1.outc, B1.outf, B1.outz⟩ := bcell B1.out; (try simp at B1.outz); (try have B1.out0 : w.heap.size < w3.heap.size := by omega); (try have B1.out1 : w.heap.size + 1 < w3.heap.size := by omega); (try have B1.out2 : w.heap.size + 2 < w3.heap.size := by omega); rw [E2.out]))
        refine bodyPost_ret (v := (.bool false)) (by simp [results, Tryz.results91, go_sem, zEn, *]) rfl ⟨by first | rfl | simp, (by repeat (first | (with_reducible exact B1.out) | (with_reducible apply below_alloc) | (with_reducible apply pw_below_drewN) | (with_reducible apply below_drew1) | with_reducible refine below_set ?_ (by first | (with_reducible exact Nat.le_refl _) | (with_reducible assumption) | (simp; done) | omega | (simp; omega))))⟩
      | true =>
        cases T1 with
        | false =>
          simp only [Bool.false_and, Bool.true_and, Bool.and_false]
          go_enter Tryz.func91, Tryz.ntmps91
          go_wp2_with (first | (go_at_call 108; with_reducible refine (HN.out _).mono ?_; rintro r w1 ⟨rfl, hb1⟩; obtain ⟨hb1c, hb1f, hb1z⟩ := bcell hb1; (try simp at hb1z); (try have hb10 : w.heap.size < w1.heap.size := by omega); (try have hb11 : w.heap.size + 1 < w1.heap.size := by omega); (try have hb12 : w.heap.size + 2 < w1.heap.size := by omega); have B1 := Aside0.mk (show Below w.heap.size w w1 from (by refine below_step ?_ hb1; repeat (first | (with_reducible exact B0.out) | (with_reducible apply below_alloc) | (with_reducible apply pw_below_drewN) | (with_reducible apply below_drew1) | with_reducible refine below_set ?_ (by first | (with_reducible exact Nat.le_refl _) | (with_reducible assumption) | (simp; done) | omega | (simp; omega)))))) | (go_at_call 63; with_reducible refine (spec_l6In a 0 (up.length : Int) _).mono ?_; rintro r w2 ⟨rfl, rfl⟩; obtain ⟨B1.outc, B1.outf, B1.outz⟩ := bcell B1.out; (try simp at B1.outz); (try have B1.out0 : w.heap.size < w2.heap.size := by omega); (try have B1.out1 : w.heap.size + 1 < w2.heap.size := by omega); (try have B1.out2 : w.heap.size + 2 < w2.heap.size := by omega); rw [E1.out]) | (go_at_call 63; with_reducible refine (spec_l6In b 0 (down.length : Int) _).mono ?_; rintro r w3 ⟨rfl, rfl⟩; obtain ⟨B1.outc, B1.outf, B1.outz⟩ := bcell B1.out; (try simp at B1.outz); (try have B1.out0 : w.heap.size < w3.heap.size := by omega); (try have B1.out1 : w.heap.size + 1 < w3.heap.size := by omega); (try have B1.out2 : w.heap.size + 2 < w3.heap.size := by omega); rw [E2.out]) | (go_at_call 22; with_reducible refine (Q.spec_TextOk.calls _ _ _ HT1.out).mono ?_; rintro r w4 ⟨rfl, hb4⟩; obtain ⟨hb4c, hb4f, hb4z⟩ := bcell hb4; (try simp at hb4z); (try have hb40 : w.heap.size < w4.heap.size := by omega); (try have hb41 : w.heap.size + 1 < w4.heap.size := by omega); (try have hb42 : w.heap.size + 2 < w4.heap.size := by omega); have B4 := Aside0.mk (show Below w.heap.size w w4 from (by refine below_step ?_ hb4; repeat (first | (with_reducible exact B1.out) | (with_reducible apply below_alloc) | (with_reducible apply pw_below_drewN) | (with_reducible apply below_drew1) | with_reducible refine below_set ?_ (by first | (with_reducible exact Nat.le_refl _) | (with_reducible assumption) | (simp; done) | omega | (simp; omega))))); clear HT1))
          refine bodyPost_ret (v := (.bool false)) (by simp [results, Tryz.results91, go_sem, zEn, *]) rfl ⟨by first | rfl | simp, (by repeat (first | (with_reducible exact B4.out) | (with_reducible apply below_alloc) | (with_reducible apply pw_below_drewN) | (with_reducible apply below_drew1) | with_reducible refine below_set ?_ (by first | (with_reducible exact Nat.le_refl _) | (with_reducible assumption) | (simp; done) | omega | (simp; omega))))⟩
        | true =>
          cases T2 with
          | false =>
            simp only [Bool.false_and, Bool.true_and, Bool.and_false]
            go_enter Tryz.func91, Tryz.ntmps91
            go_wp2_with (first | (go_at_call 108; with_reducible refine (HN.out _).mono ?_; rintro r w1 ⟨rfl, hb1⟩; obtain ⟨hb1c, hb1f, hb1z⟩ := bcell hb1; (try simp at hb1z); (try have hb10 : w.heap.size < w1.heap.size := by omega); (try have hb11 : w.heap.size + 1 < w1.heap.size := by omega); (try have hb12 : w.heap.size + 2 < w1.heap.size := by omega); have B1 := Aside0.mk (show Below w.heap.size w w1 from (by refine below_step ?_ hb1; repeat (first | (with_reducible exact B0.out) | (with_reducible apply below_alloc) | (with_reducible apply pw_below_drewN) | (with_reducible apply below_drew1) | with_reducible refine below_set ?_ (by first | (with_reducible exact Nat.le_refl _) | (with_reducible assumption) | (simp; done) | omega | (simp; omega)))))) | (go_at_call 63; with_reducible refine (spec_l6In a 0 (up.length : Int) _).mono ?_; rintro r w2 ⟨rfl, rfl⟩; obtain ⟨B1.outc, B1.outf, B1.outz⟩ := bcell B1.out; (try simp at B1.outz); (try have B1.out0 : w.heap.size < w2.heap.size := by omega); (try have B1.out1 : w.heap.size + 1 < w2.heap.size := by omega); (try have B1.out2 : w.heap.size + 2 < w2.heap.size := by omega); rw [E1.out]) | (go_at_call 63; with_reducible refine (spec_l6In b 0 (down.length : Int) _).mono ?_; rintro r w3 ⟨rfl, rfl⟩; obtain ⟨B1.outc, B1.outf, B1.outz⟩ := bcell B1.out; (try simp at B1.outz); (try have B1.out0 : w.heap.size < w3.heap.size := by omega); (try have B1.out1 : w.heap.size + 1 < w3.heap.size := by omega); (try have B1.out2 : w.heap.size + 2 < w3.heap.size := by omega); rw [E2.out]) | (go_at_call 22; with_reducible refine (Q.spec_TextOk.calls _ _ _ HT1.out).mono ?_; rintro r w4 ⟨rfl, hb4⟩; obtain ⟨hb4c, hb4f, hb4z⟩ := bcell hb4; (try simp at hb4z); (try have hb40 : w.heap.size < w4.heap.size := by omega); (try have hb41 : w.heap.size + 1 < w4.heap.size := by omega); (try have hb42 : w.heap.size + 2 < w4.heap.size := by omega); have B4 := Aside0.mk (show Below w.heap.size w w4 from (by refine below_step ?_ hb4; repeat (first | (with_reducible exact B1.out) | (with_reducible apply below_alloc) | (with_reducible apply pw_below_drewN) | (with_reducible apply below_drew1) | with_reducible refine below_set ?_ (by first | (with_reducible exact Nat.le_refl _) | (with_reducible assumption) | (simp; done) | omega | (simp; omega))))); clear HT1) | (go_at_call 22; with_reducible refine (Q.spec_TextOk.calls _ _ _ HT2.out).mono ?_; rintro r w5 ⟨rfl, hb5⟩; obtain ⟨hb5c, hb5f, hb5z⟩ := bcell hb5; (try simp at hb5z); (try have hb50 : w.heap.size < w5.heap.size := by omega); (try have hb51 : w.heap.size + 1 < w5.heap.size := by omega); (try have hb52 : w.heap.size + 2 < w5.heap.size := by omega); have B5 := Aside0.mk (show Below w.heap.size w w5 from (by refine below_step ?_ hb5; repeat (first | (with_reducible exact B4.out) | (with_reducible apply below_alloc) | (with_reducible apply pw_below_drewN) | (with_reducible apply below_drew1) | with_reducible refine below_set ?_ (by first | (with_reducible exact Nat.le_refl _) | (with_reducible assumption) | (simp; done) | omega | (simp; omega)))))))
            refine bodyPost_ret (v := (.bool false)) (by simp [results, Tryz.results91, go_sem, zEn, *]) rfl ⟨by first | rfl | simp, (by repeat (first | (with_reducible exact B5.out) | (with_reducible apply below_alloc) | (with_reducible apply pw_below_drewN) | (with_reducible apply below_drew1) | with_reducible refine below_set ?_ (by first | (with_reducible exact Nat.le_refl _) | (with_reducible assumption) | (simp; done) | omega | (simp; omega))))⟩
          | true =>
            simp only [Bool.and_self]
            go_enter Tryz.func91, Tryz.ntmps91
            go_wp2_with (first | (go_at_call 108; with_reducible refine (HN.out _).mono ?_; rintro r w1 ⟨rfl, hb1⟩; obtain ⟨hb1c, hb1f, hb1z⟩ := bcell hb1; (try simp at hb1z); (try have hb10 : w.heap.size < w1.heap.size := by omega); (try have hb11 : w.heap.size + 1 < w1.heap.size := by omega); (try have hb12 : w.heap.size + 2 < w1.heap.size := by omega); have B1 := Aside0.mk (show Below w.heap.size w w1 from (by refine below_step ?_ hb1; repeat (first | (with_reducible exact B0.out) | (with_reducible apply below_alloc) | (with_reducible apply pw_below_drewN) | (with_reducible apply below_drew1) | with_reducible refine below_set ?_ (by first | (with_reducible exact Nat.le_refl _) | (with_reducible assumption) | (simp; done) | omega | (simp; omega)))))) | (go_at_call 63; with_reducible refine (spec_l6In a 0 (up.length : Int) _).mono ?_; rintro r w2 ⟨rfl, rfl⟩; obtain ⟨B1.outc, B1.outf, B1.outz⟩ := bcell B1.out; (try simp at B1.outz); (try have B1.out0 : w.heap.size < w2.heap.size := by omega); (try have B1.out1 : w.heap.size + 1 < w2.heap.size := by omega); (try have B1.out2 : w.heap.size + 2 < w2.heap.size := by omega); rw [E1.out]) | (go_at_call 63; with_reducible refine (spec_l6In b 0 (down.length : Int) _).mono ?_; rintro r w3 ⟨rfl, rfl⟩; obtain ⟨B1.outc, B1.outf, B1.outz⟩ := bcell B1.out; (try simp at B1.outz); (try have B1.out0 : w.heap.size < w3.heap.size := by omega); (try have B1.out1 : w.heap.size + 1 < w3.heap.size := by omega); (try have B1.out2 : w.heap.size + 2 < w3.heap.size := by omega); rw [E2.out]) | (go_at_call 22; with_reducible refine (Q.spec_TextOk.calls _ _ _ HT1.out).mono ?_; rintro r w4 ⟨rfl, hb4⟩; obtain ⟨hb4c, hb4f, hb4z⟩ := bcell hb4; (try simp at hb4z); (try have hb40 : w.heap.size < w4.heap.size := by omega); (try have hb41 : w.heap.size + 1 < w4.heap.size := by omega); (try have hb42 : w.heap.size + 2 < w4.heap.size := by omega); have B4 := Aside0.mk (show Below w.heap.size w w4 from (by refine below_step ?_ hb4; repeat (first | (with_reducible exact B1.out) | (with_reducible apply below_alloc) | (with_reducible apply pw_below_drewN) | (with_reducible apply below_drew1) | with_reducible refine below_set ?_ (by first | (with_reducible exact Nat.le_refl _) | (with_reducible assumption) | (simp; done) | omega | (simp; omega))))); clear HT1) | (go_at_call 22; with_reducible refine (Q.spec_TextOk.calls _ _ _ HT2.out).mono ?_; rintro r w5 ⟨rfl, hb5⟩; obtain ⟨hb5c, hb5f, hb5z⟩ := bcell hb5; (try simp at hb5z); (try have hb50 : w.heap.size < w5.heap.size := by omega); (try have hb51 : w.heap.size + 1 < w5.heap.size := by omega); (try have hb52 : w.heap.size + 2 < w5.heap.size := by omega); have B5 := Aside0.mk (show Below w.heap.size w w5 from (by refine below_step ?_ hb5; repeat (first | (with_reducible exact B4.out) | (with_reducible apply below_alloc) | (with_reducible apply pw_below_drewN) | (with_reducible apply below_drew1) | with_reducible refine below_set ?_ (by first | (with_reducible exact Nat.le_refl _) | (with_reducible assumption) | (simp; done) | omega | (simp; omega)))))))
            refine bodyPost_ret (v := (.bool true)) (by simp [results, Tryz.results91, go_sem, zEn, *]) rfl ⟨by first | rfl | simp, (by repeat (first | (with_reducible exact B5.out) | (with_reducible apply below_alloc) | (with_reducible apply pw_below_drewN) | (with_reducible apply below_drew1) | with_reducible refine below_set ?_ (by first | (with_reducible exact Nat.le_refl _) | (with_reducible assumption) | (simp; done) | omega | (simp; omega))))⟩
end Go.Proofs.YtfjbjiklohjodaaGreatDoor.Z
namespace Go.Proofs.YtfjbjiklohjodaaGreatDoor.Q
open Go.RowKit Go.Proofs.YtfjbjiklohjodaaGreatDoorW.PrintWords Go.Proofs.YtfjbjiklohjodaaGreatDoorW.PrintLast Go.Proofs.YtfjbjiklohjodaaGreatDoorW.PrintMore
attribute [local go_sem] max2_int min2_int max_two min_two max_three min_three max_four min_four
set_option linter.unusedVariables false
set_option linter.unusedSimpArgs false
noncomputable section
def impl_behind.j0 : Nat → ByteArray → Int → ByteArray → Bool → Option (ByteArray × Bool)
  | 0, _, _, _, _ => none
  | k + 1, x0, x1, x2, x18 => if x18 = true then (some (x0, false)) else (if (wrap64 (x1 + (x2.size : Int))) ≤ (x0.size : Int) then (some (x0, true)) else (if 0 ≤ (wrap64 ((x0.size : Int) - x1)) then (if (wrap64 ((x0.size : Int) - x1)) ≤ (x2.size : Int) then (if x0.size + (x2.extract ((wrap64 ((x0.size : Int) - x1)) : Int).toNat x2.size).size ≤ 9223372036854775807 then (some (x0 ++ (x2.extract ((wrap64 ((x0.size : Int) - x1)) : Int).toNat x2.size), true)) else (none)) else (none)) else (none)))
def impl_behind.f (k : Nat) (a0 : ByteArray) (a1 : Int) (a2 : ByteArray) : Option (ByteArray × Bool) := if a1 > (a0.size : Int) then (impl_behind.j0 k a0 a1 a2 true) else (impl_behind.j0 k a0 a1 a2 (decide ((wrap64 (a1 + (a2.size : Int))) > 40)))
set_option maxHeartbeats 8000000 in
set_option maxRecDepth 100000 in
theorem impl_behind.calls (k : Nat) (a0 : ByteArray) (a1 : Int) (a2 : ByteArray) (r1 : ByteArray) (r2 : Bool) (w : World) (h : impl_behind.f k a0 a1 a2 = some (r1, r2)) :
    Calls Tryz.prog 125 #[.string a0, .int .i64 a1, .string a2] w fun e w' => e = .returned (.tuple #[.string r1, .bool r2]) ∧ Drawn0 w w' := by
  have H : (if a1 > (a0.size : Int) then (impl_behind.j0 k a0 a1 a2 true) else (impl_behind.j0 k a0 a1 a2 (decide ((wrap64 (a1 + (a2.size : Int))) > 40)))) = some (r1, r2) := h
  clear h
  have HC4 := Aside0.mk H
  clear H
  go_enter Tryz.func125, Tryz.ntmps125
  go_upto_region 1 with (fail)
  go_cut [18] (fun v18 wc => ∃ (kq : Nat) (x18_3 : Bool), v18 = .bool x18_3 ∧ Aside0 (impl_behind.j0 kq a0 a1 a2 x18_3 = some (r1, r2)) ∧ Aside0 (kq ≤ k) ∧ Drawn0 w wc)
  case first =>
    have H := HC4.out
    clear HC4
    by_cases c5 : a1 > (a0.size : Int)
    · rw [if_pos c5] at H
      have c5b0 : decide ((a0.size : Int) < a1) = true := decide_eq_true c5
      clear c5
      (first | rw [c5b0] | (simp only [i64_w, i32_w]; rw [c5b0]) | skip)
      have H' := Aside0.mk H
      clear H
      go_wp2
      go_meet
      case rel => exact ⟨_, (true), (by first | rfl | (simp; done) | (simp [*]; done)), H', ⟨by first | omega | exact Nat.le_refl _⟩, by repeat (first | exact Drawn0.refl _ | apply Drawn0.step)⟩
    · rw [if_neg c5] at H
      have c5b0 : decide ((a0.size : Int) < a1) = false := decide_eq_false c5
      clear c5
      (first | rw [c5b0] | (simp only [i64_w, i32_w]; rw [c5b0]) | skip)
      have H' := Aside0.mk H
      clear H
      go_wp2
      go_meet
      case rel => exact ⟨_, (decide ((wrap64 (a1 + (a2.size : Int))) > 40)), (by first | rfl | (simp; done) | (simp [*]; done)), H', ⟨by first | omega | exact Nat.le_refl _⟩, by repeat (first | exact Drawn0.refl _ | apply Drawn0.step)⟩
  case rest =>
    clear HC4
    try clear c1
    try clear p2
    try clear c5
    try clear c5b0
    obtain ⟨kq, x18_3, rfl, HA, HJ3, ⟨mc3, rfl⟩⟩ := hcut
    cases kq with
    | zero => exact absurd HA.out (by simp [impl_behind.j0])
    | succ kj3 =>
      have H := HA.out
      clear HA
      simp only [impl_behind.j0] at H
      by_cases c6 : x18_3 = true
      · subst c6
        have H1 : (some (a0, false)) = some (r1, r2) := by rw [if_pos rfl] at H; exact H
        clear H
        have H := H1
        clear H1
        simp only [Option.some.injEq, Prod.mk.injEq] at H
        obtain ⟨rfl, rfl⟩ := H
        go_wp2
        go_ret2
        exact ⟨by first | rfl | (simp; done) | (simp [*]; done), by repeat (first | exact Drawn0.refl _ | apply Drawn0.step)⟩
      · replace c6 := Bool.eq_false_iff.mpr c6
        subst c6
        have H1 : (if (wrap64 (a1 + (a2.size : Int))) ≤ (a0.size : Int) then (some (a0, true)) else (if 0 ≤ (wrap64 ((a0.size : Int) - a1)) then (if (wrap64 ((a0.size : Int) - a1)) ≤ (a2.size : Int) then (if a0.size + (a2.extract ((wrap64 ((a0.size : Int) - a1)) : Int).toNat a2.size).size ≤ 9223372036854775807 then (some (a0 ++ (a2.extract ((wrap64 ((a0.size : Int) - a1)) : Int).toNat a2.size), true)) else (none)) else (none)) else (none))) = some (r1, r2) := by rw [if_neg (show ¬ (false = true) by decide)] at H; exact H
        clear H
        have H := H1
        clear H1
        by_cases c7 : (wrap64 (a1 + (a2.size : Int))) ≤ (a0.size : Int)
        · rw [if_pos c7] at H
          have c7b0 : decide ((wrap64 (a1 + (a2.size : Int))) ≤ (a0.size : Int)) = true := decide_eq_true c7
          clear c7
          simp only [Option.some.injEq, Prod.mk.injEq] at H
          obtain ⟨rfl, rfl⟩ := H
          go_wp2
          go_ret2
          exact ⟨by first | rfl | (simp; done) | (simp [*]; done), by repeat (first | exact Drawn0.refl _ | apply Drawn0.step)⟩
        · rw [if_neg c7] at H
          have c7b0 : decide ((wrap64 (a1 + (a2.size : Int))) ≤ (a0.size : Int)) = false := decide_eq_false c7
          clear c7
          obtain ⟨ji8, hji8⟩ : ∃ j_ : Int, (wrap64 ((a0.size : Int) - a1)) = j_ := ⟨_, rfl⟩
          replace H : (if 0 ≤ (ji8) then (if (ji8) ≤ (a2.size : Int) then (if a0.size + (a2.extract ((ji8) : Int).toNat a2.size).size ≤ 9223372036854775807 then (some (a0 ++ (a2.extract ((ji8) : Int).toNat a2.size), true)) else (none)) else (none)) else (none)) = some (r1, r2) := by first | (rw [hji8] at H; exact H) | (simp only [hji8] at H ⊢; exact H)
          have hji8w : (IntKind.i64.wrap ((a0.size : Int) - a1)) = ji8 := (i64_w _).trans hji8
          by_cases c9 : 0 ≤ (ji8)
          · rw [if_pos c9] at H
            have c9b0 := eq_true c9
            have c9b1 : decide (0 ≤ (ji8)) = true := decide_eq_true c9
            clear c9
            by_cases c10 : (ji8) ≤ (a2.size : Int)
            · rw [if_pos c10] at H
              have c10b0 := eq_true c10
              have c10b1 : decide ((ji8) ≤ (a2.size : Int)) = true := decide_eq_true c10
              clear c10
              by_cases c11 : a0.size + (a2.extract ((ji8) : Int).toNat a2.size).size ≤ 9223372036854775807
              · rw [if_pos c11] at H
                have c11b0 := eq_true c11
                have c11b1 : decide (a0.size + (a2.extract ((ji8) : Int).toNat a2.size).size ≤ 9223372036854775807) = true := decide_eq_true c11
                try have c11b2 : (9223372036854775807 < a0.size + (a2.extract ((ji8) : Int).toNat a2.size).size) = False := eq_false (Nat.not_lt.2 c11)
                try have c11b4 : (9223372036854775807 < a0.size + (a2.size - ((ji8) : Int).toNat)) = False := eq_false (Nat.not_lt.2 (by have h_ := c11; simp only [ByteArray.size_extract, Nat.min_self] at h_; exact h_))
                simp only [Option.some.injEq, Prod.mk.injEq] at H
                obtain ⟨rfl, rfl⟩ := H
                go_wp2
                go_ret2
                exact ⟨by first | rfl | (simp; done) | (simp only [← hji8] <;> (first | rfl | simp)) | (simp [*]; done), by repeat (first | exact Drawn0.refl _ | apply Drawn0.step)⟩
              · rw [if_neg c11] at H
                exact absurd H (by simp)
            · rw [if_neg c10] at H
              exact absurd H (by simp)
          · rw [if_neg c9] at H
            exact absurd H (by simp)
end
end Go.Proofs.YtfjbjiklohjodaaGreatDoor.Q
namespace Go.Proofs.YtfjbjiklohjodaaGreatDoor.Q
open Go.RowKit Go.Proofs.YtfjbjiklohjodaaGreatDoorW.PrintWords Go.Proofs.YtfjbjiklohjodaaGreatDoorW.PrintLast Go.Proofs.YtfjbjiklohjodaaGreatDoorW.PrintMore
attribute [local go_sem] max2_int min2_int max_two min_two max_three min_three max_four min_four
set_option linter.unusedVariables false
set_option linter.unusedSimpArgs false
noncomputable section
def spec_l21Got.j0 : Nat → ByteArray → Int → ByteArray → Int → Bool → Option (ByteArray × Bool)
  | 0, _, _, _, _, _ => none
  | k + 1, x0, x1, x2, x8, x20 => if x20 = true then (some (x0, false)) else (if (wrap64 (x1 + (x2.size : Int))) ≤ x8 then (some (x0, true)) else (if 0 ≤ (wrap64 (x8 - x1)) then (if (wrap64 (x8 - x1)) ≤ (x2.size : Int) then (if x0.size + (x2.extract ((wrap64 (x8 - x1)) : Int).toNat x2.size).size ≤ 9223372036854775807 then (some (x0 ++ (x2.extract ((wrap64 (x8 - x1)) : Int).toNat x2.size), true)) else (none)) else (none)) else (none)))
def spec_l21Got.f (k : Nat) (a0 : ByteArray) (a1 : Int) (a2 : ByteArray) : Option (ByteArray × Bool) := if a1 > (a0.size : Int) then (spec_l21Got.j0 k a0 a1 a2 (a0.size : Int) true) else (spec_l21Got.j0 k a0 a1 a2 (a0.size : Int) (decide ((wrap64 (a1 + (a2.size : Int))) > 40)))
set_option maxHeartbeats 8000000 in
set_option maxRecDepth 100000 in
theorem spec_l21Got.calls (k : Nat) (a0 : ByteArray) (a1 : Int) (a2 : ByteArray) (r1 : ByteArray) (r2 : Bool) (w : World) (h : spec_l21Got.f k a0 a1 a2 = some (r1, r2)) :
    Calls Tryz.prog 145 #[.string a0, .int .i64 a1, .string a2] w fun e w' => e = .returned (.tuple #[.string r1, .bool r2]) ∧ Drawn0 w w' := by
  have H : (if a1 > (a0.size : Int) then (spec_l21Got.j0 k a0 a1 a2 (a0.size : Int) true) else (spec_l21Got.j0 k a0 a1 a2 (a0.size : Int) (decide ((wrap64 (a1 + (a2.size : Int))) > 40)))) = some (r1, r2) := h
  clear h
  have HC4 := Aside0.mk H
  clear H
  go_enter Tryz.func145, Tryz.ntmps145
  go_upto_region 2 with (fail)
  go_cut [20] (fun v20 wc => ∃ (kq : Nat) (x20_3 : Bool), v20 = .bool x20_3 ∧ Aside0 (spec_l21Got.j0 kq a0 a1 a2 (a0.size : Int) x20_3 = some (r1, r2)) ∧ Aside0 (kq ≤ k) ∧ Drawn0 w wc)
  case first =>
    have H := HC4.out
    clear HC4
    by_cases c5 : a1 > (a0.size : Int)
    · rw [if_pos c5] at H
      have c5b0 : decide ((a0.size : Int) < a1) = true := decide_eq_true c5
      clear c5
      (first | rw [c5b0] | (simp only [i64_w, i32_w]; rw [c5b0]) | skip)
      have H' := Aside0.mk H
      clear H
      go_wp2
      go_meet
      case rel => exact ⟨_, (true), (by first | rfl | (simp; done) | (simp [*]; done)), H', ⟨by first | omega | exact Nat.le_refl _⟩, by repeat (first | exact Drawn0.refl _ | apply Drawn0.step)⟩
    · rw [if_neg c5] at H
      have c5b0 : decide ((a0.size : Int) < a1) = false := decide_eq_false c5
      clear c5
      (first | rw [c5b0] | (simp only [i64_w, i32_w]; rw [c5b0]) | skip)
      have H' := Aside0.mk H
      clear H
      go_wp2
      go_meet
      case rel => exact ⟨_, (decide ((wrap64 (a1 + (a2.size : Int))) > 40)), (by first | rfl | (simp; done) | (simp [*]; done)), H', ⟨by first | omega | exact Nat.le_refl _⟩, by repeat (first | exact Drawn0.refl _ | apply Drawn0.step)⟩
  case rest =>
    clear HC4
    try clear c1
    try clear p2
    try clear c5
    try clear c5b0
    obtain ⟨kq, x20_3, rfl, HA, HJ3, ⟨mc3, rfl⟩⟩ := hcut
    cases kq with
    | zero => exact absurd HA.out (by simp [spec_l21Got.j0])
    | succ kj3 =>
      have H := HA.out
      clear HA
      simp only [spec_l21Got.j0] at H
      by_cases c6 : x20_3 = true
      · subst c6
        have H1 : (some (a0, false)) = some (r1, r2) := by rw [if_pos rfl] at H; exact H
        clear H
        have H := H1
        clear H1
        simp only [Option.some.injEq, Prod.mk.injEq] at H
        obtain ⟨rfl, rfl⟩ := H
        go_wp2
        go_ret2
        exact ⟨by first | rfl | (simp; done) | (simp [*]; done), by repeat (first | exact Drawn0.refl _ | apply Drawn0.step)⟩
      · replace c6 := Bool.eq_false_iff.mpr c6
        subst c6
        have H1 : (if (wrap64 (a1 + (a2.size : Int))) ≤ (a0.size : Int) then (some (a0, true)) else (if 0 ≤ (wrap64 ((a0.size : Int) - a1)) then (if (wrap64 ((a0.size : Int) - a1)) ≤ (a2.size : Int) then (if a0.size + (a2.extract ((wrap64 ((a0.size : Int) - a1)) : Int).toNat a2.size).size ≤ 9223372036854775807 then (some (a0 ++ (a2.extract ((wrap64 ((a0.size : Int) - a1)) : Int).toNat a2.size), true)) else (none)) else (none)) else (none))) = some (r1, r2) := by rw [if_neg (show ¬ (false = true) by decide)] at H; exact H
        clear H
        have H := H1
        clear H1
        by_cases c7 : (wrap64 (a1 + (a2.size : Int))) ≤ (a0.size : Int)
        · rw [if_pos c7] at H
          have c7b0 : decide ((wrap64 (a1 + (a2.size : Int))) ≤ (a0.size : Int)) = true := decide_eq_true c7
          clear c7
          simp only [Option.some.injEq, Prod.mk.injEq] at H
          obtain ⟨rfl, rfl⟩ := H
          go_wp2
          go_ret2
          exact ⟨by first | rfl | (simp; done) | (simp [*]; done), by repeat (first | exact Drawn0.refl _ | apply Drawn0.step)⟩
        · rw [if_neg c7] at H
          have c7b0 : decide ((wrap64 (a1 + (a2.size : Int))) ≤ (a0.size : Int)) = false := decide_eq_false c7
          clear c7
          obtain ⟨ji8, hji8⟩ : ∃ j_ : Int, (wrap64 ((a0.size : Int) - a1)) = j_ := ⟨_, rfl⟩
          replace H : (if 0 ≤ (ji8) then (if (ji8) ≤ (a2.size : Int) then (if a0.size + (a2.extract ((ji8) : Int).toNat a2.size).size ≤ 9223372036854775807 then (some (a0 ++ (a2.extract ((ji8) : Int).toNat a2.size), true)) else (none)) else (none)) else (none)) = some (r1, r2) := by first | (rw [hji8] at H; exact H) | (simp only [hji8] at H ⊢; exact H)
          have hji8w : (IntKind.i64.wrap ((a0.size : Int) - a1)) = ji8 := (i64_w _).trans hji8
          by_cases c9 : 0 ≤ (ji8)
          · rw [if_pos c9] at H
            have c9b0 := eq_true c9
            have c9b1 : decide (0 ≤ (ji8)) = true := decide_eq_true c9
            clear c9
            by_cases c10 : (ji8) ≤ (a2.size : Int)
            · rw [if_pos c10] at H
              have c10b0 := eq_true c10
              have c10b1 : decide ((ji8) ≤ (a2.size : Int)) = true := decide_eq_true c10
              clear c10
              by_cases c11 : a0.size + (a2.extract ((ji8) : Int).toNat a2.size).size ≤ 9223372036854775807
              · rw [if_pos c11] at H
                have c11b0 := eq_true c11
                have c11b1 : decide (a0.size + (a2.extract ((ji8) : Int).toNat a2.size).size ≤ 9223372036854775807) = true := decide_eq_true c11
                try have c11b2 : (9223372036854775807 < a0.size + (a2.extract ((ji8) : Int).toNat a2.size).size) = False := eq_false (Nat.not_lt.2 c11)
                try have c11b4 : (9223372036854775807 < a0.size + (a2.size - ((ji8) : Int).toNat)) = False := eq_false (Nat.not_lt.2 (by have h_ := c11; simp only [ByteArray.size_extract, Nat.min_self] at h_; exact h_))
                simp only [Option.some.injEq, Prod.mk.injEq] at H
                obtain ⟨rfl, rfl⟩ := H
                go_wp2
                go_ret2
                exact ⟨by first | rfl | (simp; done) | (simp only [← hji8] <;> (first | rfl | simp)) | (simp [*]; done), by repeat (first | exact Drawn0.refl _ | apply Drawn0.step)⟩
              · rw [if_neg c11] at H
                exact absurd H (by simp)
            · rw [if_neg c10] at H
              exact absurd H (by simp)
          · rw [if_neg c9] at H
            exact absurd H (by simp)
end
end Go.Proofs.YtfjbjiklohjodaaGreatDoor.Q
namespace Go.Proofs.YtfjbjiklohjodaaGreatDoor.Z
open Go.RowKit Go.Proofs.YtfjbjiklohjodaaGreatDoorW.PrintWords Go.Proofs.YtfjbjiklohjodaaGreatDoorW.PrintLast Go.Proofs.YtfjbjiklohjodaaGreatDoorW.PrintMore
set_option linter.unusedVariables false
set_option linter.unusedSimpArgs false
def gotP (l : List UInt8) (a : Int) (x : List UInt8) : List UInt8 × Bool := if a > (l.length : Int) ∨ a + (x.length : Int) > 40 then (l, false) else if a + (x.length : Int) ≤ (l.length : Int) then (l, true) else (l ++ x.drop (l.length - a.toNat), true)
theorem got_new {l x : List UInt8} {a : Int} (h0 : 0 ≤ a) (h1 : a ≤ (l.length : Int)) (h3 : ¬ a + (x.length : Int) ≤ (l.length : Int)) : ((l ++ x.drop (l.length - a.toNat)).length : Int) = a + (x.length : Int) := by
  rw [List.length_append, List.length_drop]
  omega
theorem drawn_below {w w' : World} (h : Drawn0 w w') : Below w.heap.size w w' := by
  obtain ⟨n, rfl⟩ := h.out
  exact pw_below_drewN (Below.refl _ _) n
open Q in
theorem impl_got (l : List UInt8) (hl : l.length ≤ 140737488355328) (a : Int) (ha : 0 ≤ a ∧ a ≤ 1000000) (x : List UInt8) (hx : x.length ≤ 140737488355328) (w : World) :
    Calls Tryz.prog 125 #[vS l, .int .i64 a, vS x] w fun e w' => e = .returned (.tuple #[vS (gotP l a x).1, .bool (gotP l a x).2]) ∧ Below w.heap.size w w' := by
  refine (impl_behind.calls 5 (mkB l) a (mkB x) (mkB (gotP l a x).1) (gotP l a x).2 w ?_).mono (fun e w' h => ⟨h.1, drawn_below h.2⟩)
  have hw : wrap64 (a + (x.length : Int)) = a + (x.length : Int) := w64 (by omega)
  unfold impl_behind.f gotP
  simp only [impl_behind.j0, size_mkB, hw]
  by_cases c1 : a > (l.length : Int)
  · rw [if_pos c1, if_pos trivial, if_pos (.inl c1)]
  · rw [if_neg c1]
    by_cases c2 : a + (x.length : Int) > 40
    · rw [if_pos (by first | exact c2 | exact decide_eq_true c2), if_pos (.inr c2)]
    · rw [if_neg (by first | exact c2 | (rw [decide_eq_false c2]; decide)), if_neg (show ¬ (a > (l.length : Int) ∨ a + (x.length : Int) > 40) from fun h => h.elim c1 c2)]
      by_cases c3 : a + (x.length : Int) ≤ (l.length : Int)
      · rw [if_pos c3, if_pos c3]
      · have hw2 : wrap64 ((l.length : Int) - a) = ((l.length - a.toNat : Nat) : Int) := by rw [w64 (by omega)]; omega
        have hlen := got_new (l := l) (x := x) ha.1 (by omega) c3
        rw [if_neg c3, if_neg c3, hw2, if_pos (by omega), if_pos (by omega), Int.toNat_natCast, show (mkB x).extract (l.length - a.toNat) x.length = mkB (x.drop (l.length - a.toNat)) from extE x _, size_mkB]
        rw [if_pos (by rw [List.length_append] at hlen; omega), bytes_append]
open Q in
theorem spec_got (l : List UInt8) (hl : l.length ≤ 140737488355328) (a : Int) (ha : 0 ≤ a ∧ a ≤ 1000000) (x : List UInt8) (hx : x.length ≤ 140737488355328) (w : World) :
    Calls Tryz.prog 145 #[vS l, .int .i64 a, vS x] w fun e w' => e = .returned (.tuple #[vS (gotP l a x).1, .bool (gotP l a x).2]) ∧ Below w.heap.size w w' := by
  refine (spec_l21Got.calls 5 (mkB l) a (mkB x) (mkB (gotP l a x).1) (gotP l a x).2 w ?_).mono (fun e w' h => ⟨h.1, drawn_below h.2⟩)
  have hw : wrap64 (a + (x.length : Int)) = a + (x.length : Int) := w64 (by omega)
  unfold spec_l21Got.f gotP
  simp only [spec_l21Got.j0, size_mkB, hw]
  by_cases c1 : a > (l.length : Int)
  · rw [if_pos c1, if_pos trivial, if_pos (.inl c1)]
  · rw [if_neg c1]
    by_cases c2 : a + (x.length : Int) > 40
    · rw [if_pos (by first | exact c2 | exact decide_eq_true c2), if_pos (.inr c2)]
    · rw [if_neg (by first | exact c2 | (rw [decide_eq_false c2]; decide)), if_neg (show ¬ (a > (l.length : Int) ∨ a + (x.length : Int) > 40) from fun h => h.elim c1 c2)]
      by_cases c3 : a + (x.length : Int) ≤ (l.length : Int)
      · rw [if_pos c3, if_pos c3]
      · have hw2 : wrap64 ((l.length : Int) - a) = ((l.length - a.toNat : Nat) : Int) := by rw [w64 (by omega)]; omega
        have hlen := got_new (l := l) (x := x) ha.1 (by omega) c3
        rw [if_neg c3, if_neg c3, hw2, if_pos (by omega), if_pos (by omega), Int.toNat_natCast, show (mkB x).extract (l.length - a.toNat) x.length = mkB (x.drop (l.length - a.toNat)) from extE x _, size_mkB]
        rw [if_pos (by rw [List.length_append] at hlen; omega), bytes_append]
noncomputable def mineB (c : Cv) (inward : Bool) (p : Pk) : Bool := if inward then (p.frm.addr == c.outside.addr && (p.frm.port == c.outside.port)) && (p.dst.addr == c.inside.addr && (p.dst.port == c.inside.port)) else (p.frm.addr == 9 && inB p.frm.port 10 17) && (p.dst.addr == c.outside.addr && (p.dst.port == c.outside.port))
def ackP (c : Cv) (inward : Bool) (p : Pk) : Cv := if inward then { c with upAck := max c.upAck (min p.at_ (c.up.length : Int)) } else { c with downAck := max c.downAck (min p.at_ (c.down.length : Int)) }
def dataP (c : Cv) (inward : Bool) (p : Pk) : Cv := if inward then { c with downGot := (gotP c.downGot p.at_ p.text).1 } else { c with upGot := (gotP c.upGot p.at_ p.text).1 }
def backP (c : Cv) (inward : Bool) (p : Pk) : Pk := ⟨2, p.dst, p.frm, (((if inward then (gotP c.downGot p.at_ p.text).1 else (gotP c.upGot p.at_ p.text).1).length : Nat) : Int), []⟩
noncomputable def hearP (c : Cv) (inward : Bool) (p : Pk) : Cv × Pk × Bool := if mineB c inward p then (if p.kind = 2 then (ackP c inward p, zPk, false) else (dataP c inward p, backP c inward p, true)) else (c, zPk, false)
end Go.Proofs.YtfjbjiklohjodaaGreatDoor.Z
namespace Go.Proofs.YtfjbjiklohjodaaGreatDoor.Z
open Go.RowKit Go.Proofs.YtfjbjiklohjodaaGreatDoorW.PrintWords Go.Proofs.YtfjbjiklohjodaaGreatDoorW.PrintLast
set_option linter.unusedVariables false
def LinD (P : Program) (ops : Array Oper) (Q : Exit → Act → World → Prop) (S : World → Prop) (T : Bool × List (List Nat × List Nat)) (ds : List Nat) (n : Nat) (dn todo : List Nat) (a : Act) (w : World) : Prop :=
  Aside0 (rtab .any ops = T) → S w → wpAnyLast P .any ops Q S ds todo.length (lst n dn).toArray a w
section
variable {P : Program} {ops : Array Oper} {Q : Exit → Act → World → Prop} {S : World → Prop} {T : Bool × List (List Nat × List Nat)} {ds : List Nat} {n : Nat} {dn rest : List Nat} {i : Nat} {oi : Oper} {N : Option Tmp} {a : Act} {w : World}
theorem lind_start {id : Nat} (S : World → Prop) (ds : List Nat) (T : Bool × List (List Nat × List Nat)) (ord : List Nat) (hm : P.follows .mixedOrders = true) (hT : rtab .any ops = T) (hn : (ops.size == ord.length) = true) (hS : S w.drew)
    (h : LinD P ops Q S T ds ord.length [] ord a w.drew) : (Code.region id ops true).wp P Q a w := by
  have hn' : ops.size = ord.length := by simpa using hn
  refine start_ (n := ord.length) (S := S) (ds := ds) ((lst ord.length []).toArray) hm hn' ?_ hS (fun hS => h ⟨hT⟩ hS)
  apply Array.ext'
  simp [lst, List.map_const']
theorem lind_take {v : Value} {a' : Act} (hi : ops[i]? = some oi) (hN : oi.dst = N) (hc : takeT T ds (lst n dn) (lst n (i :: dn)) i = true)
    (hQ : ∀ c a w, Q (.panic c) (a.put oi.dst v) w → Q (.panic c) a w) (hw : Region.wanted oi (yielded ops a.tmps) = true) (hy : ∀ w, S w → (execOp a.eval oi).run P w = .ok (.value v) w) (ha : a.put N v = a')
    (h : LinD P ops Q S T ds n (i :: dn) rest a' w) : LinD P ops Q S T ds n dn (i :: rest) a w :=
  fun hT hS => take_ (lst n (i :: dn)).toArray hi hN (take_of hT.out (by simpa using hc)) hQ (.inl ⟨hw, hy⟩) hS ha (h hT hS)
theorem lind_off {a' : Act} (hi : ops[i]? = some oi) (hN : oi.dst = N) (hc : takeT T ds (lst n dn) (lst n (i :: dn)) i = true)
    (hQ : ∀ c a w, Q (.panic c) (a.put oi.dst undef) w → Q (.panic c) a w) (hw : Region.wanted oi (yielded ops a.tmps) = false) (ha : a.put N undef = a')
    (h : LinD P ops Q S T ds n (i :: dn) rest a' w) : LinD P ops Q S T ds n dn (i :: rest) a w :=
  fun hT hS => take_ (lst n (i :: dn)).toArray hi hN (take_of hT.out (by simpa using hc)) hQ (.inr ⟨hw, rfl⟩) hS ha (h hT hS)
theorem lind_call {f : FuncId} {fn : Func} {xs : Array Operand} {ts : Array TypeId} {args : Array Value} (hi : ops[i]? = some oi) (hop : oi.op = .call { callee := .value (.func f), args := xs, argTypes := ts }) (hN : oi.dst = N) (hf : P.funcs[f]? = some fn)
    (hc : ((readyT T.2 (lst n dn) == [i] && (lst n dn).set i true == lst n (i :: dn)) && !ds.contains i) = true) (hname : (fn.name == "runtime.NumGoroutine") = false) (hb : fn.body.isSome = true)
    (hw : Region.wanted oi (yielded ops a.tmps) = true) (hargs : xs.map a.eval = args)
    (h : S w → Calls P f args w fun e w' => ∃ v, e = .returned v ∧ S w' ∧ LinD P ops Q S T ds n (i :: dn) rest (a.put N v) w') : LinD P ops Q S T ds n dn (i :: rest) a w := by
  rw [Bool.and_eq_true] at hc
  exact fun hT hS => one_ (lst n (i :: dn)).toArray hi hN (one_of hT.out (by simpa using hc.1)) (by have := hc.2; simpa using this) (fun K hK => goes_ hf hname hb args hw hN hop hargs ((h hS).mono fun e w' ⟨v, he, h1, h2⟩ => ⟨v, he, hK.out _ _ h1 (fun h3 => h2 hT h3)⟩))
theorem lind_any {v : Value} {a' : Act} (hi : ops[i]? = some oi) (hN : oi.dst = N) (hc : anyT T (lst n dn) (lst n (i :: dn)) i = true)
    (hQ : ∀ c a w, Q (.panic c) (a.put oi.dst v) w → Q (.panic c) a w) (hw : Region.wanted oi (yielded ops a.tmps) = true) (hy : ∀ w, (execOp a.eval oi).run P w = .ok (.value v) w) (ha : a.put N v = a')
    (h : LinD P ops Q S T ds n (i :: dn) rest a' w) : LinD P ops Q S T ds n dn (i :: rest) a w :=
  fun hT hS => pure_ (lst n (i :: dn)).toArray hi hN (any_of hT.out (by simpa using hc)) hQ (.inl ⟨hw, hy⟩) ha (h hT hS)
theorem lind_norm {a' : Act} {todo : List Nat} (ha : a = a') (h : LinD P ops Q S T ds n dn todo a' w) : LinD P ops Q S T ds n dn todo a w := by
  subst ha
  exact h
theorem lind_last {w1 : World} (hi : ops[i]? = some oi) (hN : oi.dst = none) (hc : (readyT T.2 (lst n dn) == [i] && (lst n dn).set i true == lst n (i :: dn)) = true) (hd : ds.contains i = true)
    (hw : Region.wanted oi (yielded ops a.tmps) = true) (hrun : S w → (execOp a.eval oi).run P w = .ok .skip w1) (hdone : (readyT T.2 (lst n (i :: dn)) == []) = true) (h : Q .normal a w1) : LinD P ops Q S T ds n dn [i] a w := by
  refine fun hT hS => last_ (lst n (i :: dn)).toArray hi hN (one_of hT.out (by simpa using hc)) (by simpa using hd) (fun K hK => ?_)
  rw [if_pos hw]
  unfold Oper.wp
  rw [hrun hS]
  show K (a.put oi.dst undef) w1
  rw [hN]
  exact hK.out _ _ (done_ (done_of hT.out (by simpa using hdone)) h)
end
end Go.Proofs.YtfjbjiklohjodaaGreatDoor.Z
namespace Go.Proofs.YtfjbjiklohjodaaGreatDoor.Z
open Go.RowKit Go.Proofs.YtfjbjiklohjodaaGreatDoorW.PrintWords
set_option linter.unusedVariables false
set_option linter.unusedSimpArgs false
attribute [local go_sem ↓] Go.wp_at_zero Go.wp_at_succ
def Rd (w : World) (r : Nat) (B : Int) : Prop := ∃ A n c bs p, w.heap[r]? = some (.cells #[.slice A n c, .int .i64 p] 156 (0, 0)) ∧ Kd.C (Kd.int .u8) w A n bs ∧ (∀ b ∈ bs, (0 : Int) ≤ b ∧ b ≤ 255) ∧ n ≤ 2000 ∧ n ≤ c ∧ (∀ ad, A = some ad → 0 < n → ad.block < r) ∧ 0 ≤ p ∧ p ≤ B
def Dr (r : Nat) (w w' : World) : Prop := KeepBut w w' r none ∧ Below r w w'
theorem Dr.refl (r : Nat) (w : World) : Dr r w w := ⟨KeepBut.refl _ _ _, Below.refl _ _⟩
theorem Dr.trans {r : Nat} {a b c : World} (h : Dr r a b) (k : Dr r b c) : Dr r a c := ⟨h.1.trans k.1 (.inl rfl), h.2.trans k.2⟩
theorem Dr.drew {r : Nat} {a b : World} (h : Dr r a b) : Dr r a b.drew := ⟨h.1, below_drew h.2⟩
theorem Dr.drewN {r : Nat} {a b : World} (h : Dr r a b) (m : Nat) : Dr r a (b.drewN m) := ⟨h.1, pw_below_drewN h.2 m⟩
theorem Dr.set {r : Nat} {a b : World} (h : Dr r a b) (j : Nat) (u : Value) : Dr r a (b.setCell ⟨r, j, none⟩ u) := ⟨h.1.set_ j u, h.2.setCell (Nat.le_refl _) _⟩
theorem Dr.alloc {r : Nat} {a b : World} (h : Dr r a b) (hr : r ≤ b.heap.size) (o : Obj) : Dr r a (b.alloc o) := ⟨keep_alloc h.1 o, h.2.alloc hr o⟩
theorem Dr.of_below {r : Nat} {a b : World} (h : Below a.heap.size a b) (hr : r ≤ a.heap.size) : Dr r a b := ⟨KeepBut.of_below h r none, h.mono hr⟩
theorem Dr.size {r : Nat} {a b : World} (h : Dr r a b) : a.heap.size ≤ b.heap.size := h.2.size
theorem Dr.R {α : Type} {d : Kd α} {e : Nat} {w w1 : World} {base r : Nat} {v : Value} {xs : List α} (h : Kd.R d e w base (fun _ => True) v xs) (hd : Dr r w w1) (hr : r < base) : Kd.R d e w1 base (fun _ => True) v xs :=
  Kd.R_mono (Kd.R_step (Kd.R_bound h) (fun k hk hlt => hd.1.2 k hlt (by have := hk.2.1; omega) (by simp))) (fun _ _ => trivial)
theorem Dr.C {α : Type} {d : Kd α} {w w1 : World} {r : Nat} {A : Option Addr} {n : Nat} {xs : List α} (hd : Dr r w w1) {w0 : World} (h : Kd.C d w0 A n xs) (h0 : Below w0.heap.size w0 w) (hr : w0.heap.size ≤ r) : Kd.C d w1 A n xs := Kd.C_below h (h0.trans (hd.2.mono hr))
theorem Rd.lt {w : World} {r : Nat} {B : Int} (h : Rd w r B) : r < w.heap.size := by
  obtain ⟨_, _, _, _, _, h, _⟩ := h
  exact blk_lt h
theorem Rd.mono {w : World} {r : Nat} {B B' : Int} (h : Rd w r B) (hB : B ≤ B') : Rd w r B' := by
  obtain ⟨A, n, c, bs, p, h1, h2, h3, h4, h5, h6, h7, h8⟩ := h
  exact ⟨A, n, c, bs, p, h1, h2, h3, h4, h5, h6, h7, by omega⟩
theorem Rd.keeps {w w1 : World} {r : Nat} {B : Int} (h : Rd w r B) (hb : Below (r + 1) w w1) : Rd w1 r B := by
  obtain ⟨A, n, c, bs, p, h1, h2, h3, h4, h5, h6, h7, h8⟩ := h
  refine ⟨A, n, c, bs, p, (hb.block r (by omega)).trans h1, ?_, h3, h4, h5, h6, h7, h8⟩
  refine ⟨h2.1, h2.2.1, fun hn => ?_⟩
  obtain ⟨ad, e, hc⟩ := h2.2.2 hn
  have hlt := h6 ad e hn
  refine ⟨ad, e, fun j p hj => ?_⟩
  obtain ⟨cs, k1, k2, k3⟩ := hc j p hj
  refine ⟨cs, k1, k2, fun i u hu => ?_⟩
  rw [← k3 i u hu]
  exact hb.cell (by rw [show (ad.add (j * (Kd.int IntKind.u8).sz + i)).block = ad.block from by unfold Addr.add; split <;> rfl]; omega)
theorem Rd.set {w : World} {r : Nat} {A : Option Addr} {n c : Nat} {bs : List Int} {p : Int} (h1 : w.heap[r]? = some (.cells #[.slice A n c, .int .i64 p] 156 (0, 0))) (h2 : Kd.C (Kd.int .u8) w A n bs) (h3 : ∀ b ∈ bs, (0 : Int) ≤ b ∧ b ≤ 255) (h4 : n ≤ 2000) (h5 : n ≤ c) (h6 : ∀ ad, A = some ad → 0 < n → ad.block < r) (q B : Int) (hq : 0 ≤ q ∧ q ≤ B) :
    Rd (w.setCell ⟨r, 1, none⟩ (.int .i64 q)) r B :=
  ⟨A, n, c, bs, q, by simpa using blk_set h1 1 (.int .i64 q), Kd.C_keep 0 h2 ((KeepBut.refl w r none).set_ 1 _) (fun ad hA hn => by have := h6 ad hA hn; omega), h3, h4, h5, h6, hq.1, hq.2⟩
end Go.Proofs.YtfjbjiklohjodaaGreatDoor.Z
namespace Go.Proofs.YtfjbjiklohjodaaGreatDoor.Z
open Go.RowKit Go.Proofs.YtfjbjiklohjodaaGreatDoorW.PrintWords
set_option linter.unusedVariables false
set_option linter.unusedSimpArgs false
attribute [local go_sem ↓] Go.wp_at_zero Go.wp_at_succ
theorem Dr.blk {r : Nat} {a b : World} (h : Dr r a b) {q : Nat} {o : Obj} (hb : a.heap[q]? = some o) (hq : q ≠ r) : b.heap[q]? = some o := h.1.blk hb hq (by simp)
theorem Dr.far {r : Nat} {a b : World} (h : Dr r a b) {q : Nat} (h1 : a.heap.size ≤ q) (h2 : r ≤ q) (j : Nat) (u : Value) : Dr r a (b.setCell ⟨q, j, none⟩ u) := ⟨keep_far h.1 h1 u, h.2.setCell h2 _⟩
theorem Rd.far {w : World} {r : Nat} {B : Int} (h : Rd w r B) {q : Nat} (hq : r < q) (j : Nat) (u : Value) : Rd (w.setCell ⟨q, j, none⟩ u) r B := h.keeps ((Below.refl _ _).setCell hq _)
theorem Rd.alloc {w : World} {r : Nat} {B : Int} (h : Rd w r B) (o : Obj) : Rd (w.alloc o) r B := h.keeps ((Below.refl _ _).alloc h.lt o)
end Go.Proofs.YtfjbjiklohjodaaGreatDoor.Z
namespace Go.Proofs.YtfjbjiklohjodaaGreatDoor.Z
open Go.RowKit Go.Proofs.YtfjbjiklohjodaaGreatDoorW.PrintWords Go.Proofs.YtfjbjiklohjodaaGreatDoorW.PrintLast Go.Proofs.YtfjbjiklohjodaaGreatDoorW.PrintMore
set_option linter.unusedVariables false
set_option linter.unusedSimpArgs false
attribute [local go_sem ↓] Go.wp_at_zero Go.wp_at_succ
theorem after_two {w w4 : World} {A B : Obj} {n : Nat} (hb : Below ((((w.alloc A).alloc B).drewN n).drew).heap.size ((((w.alloc A).alloc B).drewN n).drew) w4) :
    w4.heap[w.heap.size]? = some A ∧ w4.heap[w.heap.size + 1]? = some B ∧ w.heap.size + 2 ≤ w4.heap.size ∧ Below w.heap.size w w4 := by
  have hz : ((((w.alloc A).alloc B).drewN n).drew).heap.size = w.heap.size + 2 := by show ((w.heap.push A).push B).size = _; simp
  have h0 : (((w.alloc A).alloc B).drewN n).drew.heap[w.heap.size]? = some A := by show ((w.heap.push A).push B)[w.heap.size]? = _; simp [Array.getElem?_push]
  have h1 : (((w.alloc A).alloc B).drewN n).drew.heap[w.heap.size + 1]? = some B := by
    have h9 := heap_alloc_new (w.alloc A) B
    rw [show (w.alloc A).heap.size = w.heap.size + 1 from by show (w.heap.push A).size = _; simp] at h9
    exact h9
  have hbw : Below w.heap.size w ((((w.alloc A).alloc B).drewN n).drew) := below_drew1 (pw_below_drewN (below_alloc (below_alloc (Below.refl _ _) _) _) _)
  exact ⟨(hb.block _ (by omega)).trans h0, (hb.block _ (by omega)).trans h1, by have := hb.size; omega, below_step hbw hb⟩
theorem Dr.q {g : Nat} {w b : World} (h : Dr g w b) (hlt : g < w.heap.size) (j : Nat) (u : Value) : Dr g w (b.setCell ⟨w.heap.size + 1, j, none⟩ u) := Dr.far h (by omega) (by omega) j u
theorem keep_cell {w : World} {b o q j : Nat} {u : Value} (hne : b ≠ q) : (w.setCell ⟨q, j, none⟩ u).cell? ⟨b, o, none⟩ = w.cell? ⟨b, o, none⟩ := by
  unfold World.cell?
  rw [Below.heap_setCell _ _ _ _ hne]
theorem keep_cell_d {w : World} {b o q j : Nat} {u : Value} (hne : b ≠ q) : (w.setCell ⟨q, j, none⟩ u).drew.cell? ⟨b, o, none⟩ = w.drew.cell? ⟨b, o, none⟩ := keep_cell (w := w) hne
theorem drew_h {w : World} {g : Nat} {o : Obj} (h : w.heap[g]? = some o) : w.drew.heap[g]? = some o := h
theorem set_far {w : World} {g : Nat} {o : Obj} (h : w.heap[g]? = some o) (q j : Nat) (u : Value) (hne : g ≠ q) : (w.setCell ⟨q, j, none⟩ u).heap[g]? = some o := (Below.heap_setCell _ _ _ _ hne).trans h
end Go.Proofs.YtfjbjiklohjodaaGreatDoor.Z
namespace Go.Proofs.YtfjbjiklohjodaaGreatDoor.Z
open Go.RowKit Go.Proofs.YtfjbjiklohjodaaGreatDoorW.PrintWords Go.Proofs.YtfjbjiklohjodaaGreatDoorW.PrintLast Go.Proofs.YtfjbjiklohjodaaGreatDoorW.PrintMore
set_option linter.unusedVariables false
set_option linter.unusedSimpArgs false
attribute [local go_sem ↓] Go.wp_at_zero Go.wp_at_succ
attribute [local go_sem high] eqEn max2_int min2_int
set_option maxRecDepth 100000 in
set_option maxHeartbeats 2000000 in
theorem hear_o1 (kind f0 f1 d0 d1 a : Int) (text : List UInt8) (i0 i1 o0 o1 x y : Int) (up down ug dg : List UInt8) (g : Nat) (w : World)
    (hg : w.heap[g]? = some (.cells (cvCells ⟨⟨i0, i1⟩, ⟨o0, o1⟩, up, down, x, y, ug, dg⟩) 64 (0, 0))) (hD : (f0 == 9 && inB f1 10 17) = false)  :
    Calls Tryz.prog 97 #[.pointer (some ⟨g, 0, none⟩), .bool false, vPk ⟨kind, ⟨f0, f1⟩, ⟨d0, d1⟩, a, text⟩] w fun r w' => r = .returned (.tuple #[vPk zPk, .bool false]) ∧ w'.heap[g]? = some (.cells (cvCells ⟨⟨i0, i1⟩, ⟨o0, o1⟩, up, down, x, y, ug, dg⟩) 64 (0, 0)) ∧ Dr g w w' := by
  have hlt := blk_lt hg
  have c0 : w.cell? ⟨g, 0, none⟩ = some (.int .i64 i0) := (blk_cell hg 0).trans rfl
  have c1 : w.cell? ⟨g, 1, none⟩ = some (.int .i64 i1) := (blk_cell hg 1).trans rfl
  have c2 : w.cell? ⟨g, 2, none⟩ = some (.int .i64 o0) := (blk_cell hg 2).trans rfl
  have c3 : w.cell? ⟨g, 3, none⟩ = some (.int .i64 o1) := (blk_cell hg 3).trans rfl
  have c4 : w.cell? ⟨g, 4, none⟩ = some (.string ⟨up.toArray⟩) := (blk_cell hg 4).trans rfl
  have c5 : w.cell? ⟨g, 5, none⟩ = some (.string ⟨down.toArray⟩) := (blk_cell hg 5).trans rfl
  go_enter Tryz.func97, Tryz.ntmps97
  go_upto_region 1 with (fail)
  go_quiet (fail)
  go_upto_region 2 with (fail)
  refine lin_start (fun w' => w'.cell? ⟨w.heap.size, 1, none⟩ = some (.int .i64 f0) ∧ w'.cell? ⟨w.heap.size, 2, none⟩ = some (.int .i64 f1) ∧ w'.cell? ⟨w.heap.size, 3, none⟩ = some (.int .i64 d0) ∧ w'.cell? ⟨w.heap.size, 4, none⟩ = some (.int .i64 d1) ∧ w'.cell? ⟨g, 2, none⟩ = some (.int .i64 o0) ∧ w'.cell? ⟨g, 3, none⟩ = some (.int .i64 o1)) (true, [([], []), ([0], [0]), ([1], [1]), ([2, 2], [2]), ([3], [3]), ([4, 3], [3, 4]), ([3], [3]), ([6, 3], [3, 6]), ([7, 3], [3, 7]), ([8, 3], [3, 8]), ([5, 9, 3], [3, 5, 9]), ([3, 10], [3, 10]), ([11, 3, 0, 1, 2, 3, 4, 5, 6, 7, 8, 9, 10, 11], [11])]) [0, 1, 2, 3, 4, 5, 6, 7, 8, 9, 10, 11, 12] (by kernel_rfl) (by kernel_rfl) (by kernel_rfl) ⟨by go_simp, by go_simp, by go_simp, by go_simp, by go_simp, by go_simp⟩ ?_
  repeat (first | (refine lin_take rfl rfl (by kernel_rfl) (fun _ _ _ h => h) (by rfl) (v := ?_) (a' := ?_) ?_ ?_ ?_; rotate_left 2; (rintro w' ⟨s0, s1, s2, s3, s4, s5⟩; go_simp; with_reducible rfl); (simp only [List.getElem_toArray, List.getElem_cons_zero, List.getElem_cons_succ, Act.put, List.setIfInBounds_toArray, List.set_cons_zero, List.set_cons_succ]; rfl)) | (refine lin_off rfl rfl (by kernel_rfl) (fun _ _ _ h => h) (by rfl) (a' := ?_) ?_ ?_; rotate_left 1; (simp only [List.getElem_toArray, List.getElem_cons_zero, List.getElem_cons_succ, Act.put, List.setIfInBounds_toArray, List.set_cons_zero, List.set_cons_succ]; rfl)))
  refine lin_call rfl rfl rfl Tryz.func147 (by kernel_rfl) (by kernel_rfl) rfl (by rfl) (args := #[vEn ⟨f0, f1⟩]) (by (try simp only [List.map_toArray, List.map_cons, List.map_nil]); first | done | rfl) (fun hS => ?_)
  refine (impl_EndDoor ⟨f0, f1⟩ _).mono ?_
  rintro e w4 ⟨rfl, hb4⟩
  simp only [hD]
  refine ⟨_, rfl, ?_, ?_⟩
  · first | exact (hb4.cell (by first | exact (by simp; omega) | exact (by simp))).trans hS | (obtain ⟨s0, s1, s2, s3, s4, s5⟩ := hS; exact ⟨(hb4.cell (by first | exact (by simp; omega) | exact (by simp))).trans s0, (hb4.cell (by first | exact (by simp; omega) | exact (by simp))).trans s1, (hb4.cell (by first | exact (by simp; omega) | exact (by simp))).trans s2, (hb4.cell (by first | exact (by simp; omega) | exact (by simp))).trans s3, (hb4.cell (by first | exact (by simp; omega) | exact (by simp))).trans s4, (hb4.cell (by first | exact (by simp; omega) | exact (by simp))).trans s5⟩)
  refine lin_norm (a' := ?_) ?_ ?_; rotate_left 1; (simp only [List.getElem_toArray, List.getElem_cons_zero, List.getElem_cons_succ, Act.put, List.setIfInBounds_toArray, List.set_cons_zero, List.set_cons_succ]; rfl)
  repeat (first | (refine lin_take rfl rfl (by kernel_rfl) (fun _ _ _ h => h) (by rfl) (v := ?_) (a' := ?_) ?_ ?_ ?_; rotate_left 2; (rintro w' ⟨s0, s1, s2, s3, s4, s5⟩; go_simp; with_reducible rfl); (simp only [List.getElem_toArray, List.getElem_cons_zero, List.getElem_cons_succ, Act.put, List.setIfInBounds_toArray, List.set_cons_zero, List.set_cons_succ]; rfl)) | (refine lin_off rfl rfl (by kernel_rfl) (fun _ _ _ h => h) (by rfl) (a' := ?_) ?_ ?_; rotate_left 1; (simp only [List.getElem_toArray, List.getElem_cons_zero, List.getElem_cons_succ, Act.put, List.setIfInBounds_toArray, List.set_cons_zero, List.set_cons_succ]; rfl)))
  refine lin_done (by kernel_rfl) ?_
  obtain ⟨bp, bq, hz, B4⟩ := after_two hb4
  have bg := (B4.block g hlt).trans hg
  have D4 : Dr g w w4 := Dr.of_below B4 (Nat.le_of_lt hlt)
  clear c0 c1 c2 c3 c4 c5 hb4 B4 hg
  have hgq : g ≠ w.heap.size + 1 := by omega
  have hgp : g ≠ w.heap.size := by omega
  have q0 : w4.cell? ⟨(w.heap.size + 1), 0, none⟩ = some (.int .i64 0) := (blk_cell bq 0).trans rfl
  have q1 : w4.cell? ⟨(w.heap.size + 1), 1, none⟩ = some (.int .i64 0) := (blk_cell bq 1).trans rfl
  have q2 : w4.cell? ⟨(w.heap.size + 1), 2, none⟩ = some (.int .i64 0) := (blk_cell bq 2).trans rfl
  have q3 : w4.cell? ⟨(w.heap.size + 1), 3, none⟩ = some (.int .i64 0) := (blk_cell bq 3).trans rfl
  have q4 : w4.cell? ⟨(w.heap.size + 1), 4, none⟩ = some (.int .i64 0) := (blk_cell bq 4).trans rfl
  have q5 : w4.cell? ⟨(w.heap.size + 1), 5, none⟩ = some (.int .i64 0) := (blk_cell bq 5).trans rfl
  have q6 : w4.cell? ⟨(w.heap.size + 1), 6, none⟩ = some (.string ⟨#[]⟩) := (blk_cell bq 6).trans rfl
  have r0 := blk_frozen bq 0
  have r1 := blk_frozen bq 1
  have r2 := blk_frozen bq 2
  have r3 := blk_frozen bq 3
  have r4 := blk_frozen bq 4
  have r5 := blk_frozen bq 5
  have r6 := blk_frozen bq 6
  go_wp2
  refine bodyPost_ret (v := (.tuple #[(.agg #[.int .i64 0, .int .i64 0, .int .i64 0, .int .i64 0, .int .i64 0, .int .i64 0, .string ⟨#[]⟩]), .bool false])) (by simp [results, Tryz.results97, go_sem, zEn, *]) rfl ⟨rfl, (by with_reducible repeat (first | exact bg | refine set_far ?_ _ _ _ hgq)), (by with_reducible repeat (first | exact D4 | refine Dr.q ?_ hlt _ _ | apply Dr.set | apply Dr.drewN | apply Dr.drew))⟩
set_option maxRecDepth 100000 in
set_option maxHeartbeats 2000000 in
theorem hear_o2 (kind f0 f1 d0 d1 a : Int) (text : List UInt8) (i0 i1 o0 o1 x y : Int) (up down ug dg : List UInt8) (g : Nat) (w : World)
    (hg : w.heap[g]? = some (.cells (cvCells ⟨⟨i0, i1⟩, ⟨o0, o1⟩, up, down, x, y, ug, dg⟩) 64 (0, 0))) (hD : (f0 == 9 && inB f1 10 17) = true) (hM : (d0 == o0 && (d1 == o1)) = false) :
    Calls Tryz.prog 97 #[.pointer (some ⟨g, 0, none⟩), .bool false, vPk ⟨kind, ⟨f0, f1⟩, ⟨d0, d1⟩, a, text⟩] w fun r w' => r = .returned (.tuple #[vPk zPk, .bool false]) ∧ w'.heap[g]? = some (.cells (cvCells ⟨⟨i0, i1⟩, ⟨o0, o1⟩, up, down, x, y, ug, dg⟩) 64 (0, 0)) ∧ Dr g w w' := by
  have hlt := blk_lt hg
  have c0 : w.cell? ⟨g, 0, none⟩ = some (.int .i64 i0) := (blk_cell hg 0).trans rfl
  have c1 : w.cell? ⟨g, 1, none⟩ = some (.int .i64 i1) := (blk_cell hg 1).trans rfl
  have c2 : w.cell? ⟨g, 2, none⟩ = some (.int .i64 o0) := (blk_cell hg 2).trans rfl
  have c3 : w.cell? ⟨g, 3, none⟩ = some (.int .i64 o1) := (blk_cell hg 3).trans rfl
  have c4 : w.cell? ⟨g, 4, none⟩ = some (.string ⟨up.toArray⟩) := (blk_cell hg 4).trans rfl
  have c5 : w.cell? ⟨g, 5, none⟩ = some (.string ⟨down.toArray⟩) := (blk_cell hg 5).trans rfl
  go_enter Tryz.func97, Tryz.ntmps97
  go_upto_region 1 with (fail)
  go_quiet (fail)
  go_upto_region 2 with (fail)
  refine lin_start (fun w' => w'.cell? ⟨w.heap.size, 1, none⟩ = some (.int .i64 f0) ∧ w'.cell? ⟨w.heap.size, 2, none⟩ = some (.int .i64 f1) ∧ w'.cell? ⟨w.heap.size, 3, none⟩ = some (.int .i64 d0) ∧ w'.cell? ⟨w.heap.size, 4, none⟩ = some (.int .i64 d1) ∧ w'.cell? ⟨g, 2, none⟩ = some (.int .i64 o0) ∧ w'.cell? ⟨g, 3, none⟩ = some (.int .i64 o1)) (true, [([], []), ([0], [0]), ([1], [1]), ([2, 2], [2]), ([3], [3]), ([4, 3], [3, 4]), ([3], [3]), ([6, 3], [3, 6]), ([7, 3], [3, 7]), ([8, 3], [3, 8]), ([5, 9, 3], [3, 5, 9]), ([3, 10], [3, 10]), ([11, 3, 0, 1, 2, 3, 4, 5, 6, 7, 8, 9, 10, 11], [11])]) [0, 1, 2, 3, 4, 5, 6, 7, 8, 9, 10, 11, 12] (by kernel_rfl) (by kernel_rfl) (by kernel_rfl) ⟨by go_simp, by go_simp, by go_simp, by go_simp, by go_simp, by go_simp⟩ ?_
  repeat (first | (refine lin_take rfl rfl (by kernel_rfl) (fun _ _ _ h => h) (by rfl) (v := ?_) (a' := ?_) ?_ ?_ ?_; rotate_left 2; (rintro w' ⟨s0, s1, s2, s3, s4, s5⟩; go_simp; with_reducible rfl); (simp only [List.getElem_toArray, List.getElem_cons_zero, List.getElem_cons_succ, Act.put, List.setIfInBounds_toArray, List.set_cons_zero, List.set_cons_succ]; rfl)) | (refine lin_off rfl rfl (by kernel_rfl) (fun _ _ _ h => h) (by rfl) (a' := ?_) ?_ ?_; rotate_left 1; (simp only [List.getElem_toArray, List.getElem_cons_zero, List.getElem_cons_succ, Act.put, List.setIfInBounds_toArray, List.set_cons_zero, List.set_cons_succ]; rfl)))
  refine lin_call rfl rfl rfl Tryz.func147 (by kernel_rfl) (by kernel_rfl) rfl (by rfl) (args := #[vEn ⟨f0, f1⟩]) (by (try simp only [List.map_toArray, List.map_cons, List.map_nil]); first | done | rfl) (fun hS => ?_)
  refine (impl_EndDoor ⟨f0, f1⟩ _).mono ?_
  rintro e w4 ⟨rfl, hb4⟩
  simp only [hD]
  refine ⟨_, rfl, ?_, ?_⟩
  · first | exact (hb4.cell (by first | exact (by simp; omega) | exact (by simp))).trans hS | (obtain ⟨s0, s1, s2, s3, s4, s5⟩ := hS; exact ⟨(hb4.cell (by first | exact (by simp; omega) | exact (by simp))).trans s0, (hb4.cell (by first | exact (by simp; omega) | exact (by simp))).trans s1, (hb4.cell (by first | exact (by simp; omega) | exact (by simp))).trans s2, (hb4.cell (by first | exact (by simp; omega) | exact (by simp))).trans s3, (hb4.cell (by first | exact (by simp; omega) | exact (by simp))).trans s4, (hb4.cell (by first | exact (by simp; omega) | exact (by simp))).trans s5⟩)
  refine lin_norm (a' := ?_) ?_ ?_; rotate_left 1; (simp only [List.getElem_toArray, List.getElem_cons_zero, List.getElem_cons_succ, Act.put, List.setIfInBounds_toArray, List.set_cons_zero, List.set_cons_succ]; rfl)
  repeat (first | (refine lin_take rfl rfl (by kernel_rfl) (fun _ _ _ h => h) (by rfl) (v := ?_) (a' := ?_) ?_ ?_ ?_; rotate_left 2; (rintro w' ⟨s0, s1, s2, s3, s4, s5⟩; go_simp; with_reducible rfl); (simp only [List.getElem_toArray, List.getElem_cons_zero, List.getElem_cons_succ, Act.put, List.setIfInBounds_toArray, List.set_cons_zero, List.set_cons_succ]; rfl)) | (refine lin_off rfl rfl (by kernel_rfl) (fun _ _ _ h => h) (by rfl) (a' := ?_) ?_ ?_; rotate_left 1; (simp only [List.getElem_toArray, List.getElem_cons_zero, List.getElem_cons_succ, Act.put, List.setIfInBounds_toArray, List.set_cons_zero, List.set_cons_succ]; rfl)))
  refine lin_done (by kernel_rfl) ?_
  obtain ⟨bp, bq, hz, B4⟩ := after_two hb4
  have bg := (B4.block g hlt).trans hg
  have D4 : Dr g w w4 := Dr.of_below B4 (Nat.le_of_lt hlt)
  clear c0 c1 c2 c3 c4 c5 hb4 B4 hg
  have hgq : g ≠ w.heap.size + 1 := by omega
  have hgp : g ≠ w.heap.size := by omega
  have q0 : w4.cell? ⟨(w.heap.size + 1), 0, none⟩ = some (.int .i64 0) := (blk_cell bq 0).trans rfl
  have q1 : w4.cell? ⟨(w.heap.size + 1), 1, none⟩ = some (.int .i64 0) := (blk_cell bq 1).trans rfl
  have q2 : w4.cell? ⟨(w.heap.size + 1), 2, none⟩ = some (.int .i64 0) := (blk_cell bq 2).trans rfl
  have q3 : w4.cell? ⟨(w.heap.size + 1), 3, none⟩ = some (.int .i64 0) := (blk_cell bq 3).trans rfl
  have q4 : w4.cell? ⟨(w.heap.size + 1), 4, none⟩ = some (.int .i64 0) := (blk_cell bq 4).trans rfl
  have q5 : w4.cell? ⟨(w.heap.size + 1), 5, none⟩ = some (.int .i64 0) := (blk_cell bq 5).trans rfl
  have q6 : w4.cell? ⟨(w.heap.size + 1), 6, none⟩ = some (.string ⟨#[]⟩) := (blk_cell bq 6).trans rfl
  have r0 := blk_frozen bq 0
  have r1 := blk_frozen bq 1
  have r2 := blk_frozen bq 2
  have r3 := blk_frozen bq 3
  have r4 := blk_frozen bq 4
  have r5 := blk_frozen bq 5
  have r6 := blk_frozen bq 6
  go_wp2
  refine bodyPost_ret (v := (.tuple #[(.agg #[.int .i64 0, .int .i64 0, .int .i64 0, .int .i64 0, .int .i64 0, .int .i64 0, .string ⟨#[]⟩]), .bool false])) (by simp [results, Tryz.results97, go_sem, zEn, *]) rfl ⟨rfl, (by with_reducible repeat (first | exact bg | refine set_far ?_ _ _ _ hgq)), (by with_reducible repeat (first | exact D4 | refine Dr.q ?_ hlt _ _ | apply Dr.set | apply Dr.drewN | apply Dr.drew))⟩
set_option maxRecDepth 100000 in
set_option maxHeartbeats 2000000 in
theorem hear_o3 (f0 f1 a : Int) (text : List UInt8) (i0 i1 o0 o1 x y : Int) (up down ug dg : List UInt8) (g : Nat) (w : World)
    (hg : w.heap[g]? = some (.cells (cvCells ⟨⟨i0, i1⟩, ⟨o0, o1⟩, up, down, x, y, ug, dg⟩) 64 (0, 0))) (hD : (f0 == 9 && inB f1 10 17) = true)  :
    Calls Tryz.prog 97 #[.pointer (some ⟨g, 0, none⟩), .bool false, vPk ⟨2, ⟨f0, f1⟩, ⟨o0, o1⟩, a, text⟩] w fun r w' => r = .returned (.tuple #[vPk zPk, .bool false]) ∧ w'.heap[g]? = some (.cells (cvCells ⟨⟨i0, i1⟩, ⟨o0, o1⟩, up, down, x, max y (min a (down.length : Int)), ug, dg⟩) 64 (0, 0)) ∧ Dr g w w' := by
  have hM : (o0 == o0 && (o1 == o1)) = true := by simp
  have hlt := blk_lt hg
  have c0 : w.cell? ⟨g, 0, none⟩ = some (.int .i64 i0) := (blk_cell hg 0).trans rfl
  have c1 : w.cell? ⟨g, 1, none⟩ = some (.int .i64 i1) := (blk_cell hg 1).trans rfl
  have c2 : w.cell? ⟨g, 2, none⟩ = some (.int .i64 o0) := (blk_cell hg 2).trans rfl
  have c3 : w.cell? ⟨g, 3, none⟩ = some (.int .i64 o1) := (blk_cell hg 3).trans rfl
  have c4 : w.cell? ⟨g, 4, none⟩ = some (.string ⟨up.toArray⟩) := (blk_cell hg 4).trans rfl
  have c5 : w.cell? ⟨g, 5, none⟩ = some (.string ⟨down.toArray⟩) := (blk_cell hg 5).trans rfl
  go_enter Tryz.func97, Tryz.ntmps97
  go_upto_region 1 with (fail)
  go_quiet (fail)
  go_upto_region 2 with (fail)
  refine lin_start (fun w' => w'.cell? ⟨w.heap.size, 1, none⟩ = some (.int .i64 f0) ∧ w'.cell? ⟨w.heap.size, 2, none⟩ = some (.int .i64 f1) ∧ w'.cell? ⟨w.heap.size, 3, none⟩ = some (.int .i64 o0) ∧ w'.cell? ⟨w.heap.size, 4, none⟩ = some (.int .i64 o1) ∧ w'.cell? ⟨g, 2, none⟩ = some (.int .i64 o0) ∧ w'.cell? ⟨g, 3, none⟩ = some (.int .i64 o1)) (true, [([], []), ([0], [0]), ([1], [1]), ([2, 2], [2]), ([3], [3]), ([4, 3], [3, 4]), ([3], [3]), ([6, 3], [3, 6]), ([7, 3], [3, 7]), ([8, 3], [3, 8]), ([5, 9, 3], [3, 5, 9]), ([3, 10], [3, 10]), ([11, 3, 0, 1, 2, 3, 4, 5, 6, 7, 8, 9, 10, 11], [11])]) [0, 1, 2, 3, 4, 5, 6, 7, 8, 9, 10, 11, 12] (by kernel_rfl) (by kernel_rfl) (by kernel_rfl) ⟨by go_simp, by go_simp, by go_simp, by go_simp, by go_simp, by go_simp⟩ ?_
  repeat (first | (refine lin_take rfl rfl (by kernel_rfl) (fun _ _ _ h => h) (by rfl) (v := ?_) (a' := ?_) ?_ ?_ ?_; rotate_left 2; (rintro w' ⟨s0, s1, s2, s3, s4, s5⟩; go_simp; with_reducible rfl); (simp only [List.getElem_toArray, List.getElem_cons_zero, List.getElem_cons_succ, Act.put, List.setIfInBounds_toArray, List.set_cons_zero, List.set_cons_succ]; rfl)) | (refine lin_off rfl rfl (by kernel_rfl) (fun _ _ _ h => h) (by rfl) (a' := ?_) ?_ ?_; rotate_left 1; (simp only [List.getElem_toArray, List.getElem_cons_zero, List.getElem_cons_succ, Act.put, List.setIfInBounds_toArray, List.set_cons_zero, List.set_cons_succ]; rfl)))
  refine lin_call rfl rfl rfl Tryz.func147 (by kernel_rfl) (by kernel_rfl) rfl (by rfl) (args := #[vEn ⟨f0, f1⟩]) (by (try simp only [List.map_toArray, List.map_cons, List.map_nil]); first | done | rfl) (fun hS => ?_)
  refine (impl_EndDoor ⟨f0, f1⟩ _).mono ?_
  rintro e w4 ⟨rfl, hb4⟩
  simp only [hD]
  refine ⟨_, rfl, ?_, ?_⟩
  · first | exact (hb4.cell (by first | exact (by simp; omega) | exact (by simp))).trans hS | (obtain ⟨s0, s1, s2, s3, s4, s5⟩ := hS; exact ⟨(hb4.cell (by first | exact (by simp; omega) | exact (by simp))).trans s0, (hb4.cell (by first | exact (by simp; omega) | exact (by simp))).trans s1, (hb4.cell (by first | exact (by simp; omega) | exact (by simp))).trans s2, (hb4.cell (by first | exact (by simp; omega) | exact (by simp))).trans s3, (hb4.cell (by first | exact (by simp; omega) | exact (by simp))).trans s4, (hb4.cell (by first | exact (by simp; omega) | exact (by simp))).trans s5⟩)
  refine lin_norm (a' := ?_) ?_ ?_; rotate_left 1; (simp only [List.getElem_toArray, List.getElem_cons_zero, List.getElem_cons_succ, Act.put, List.setIfInBounds_toArray, List.set_cons_zero, List.set_cons_succ]; rfl)
  repeat (first | (refine lin_take rfl rfl (by kernel_rfl) (fun _ _ _ h => h) (by rfl) (v := ?_) (a' := ?_) ?_ ?_ ?_; rotate_left 2; (rintro w' ⟨s0, s1, s2, s3, s4, s5⟩; go_simp; with_reducible rfl); (simp only [List.getElem_toArray, List.getElem_cons_zero, List.getElem_cons_succ, Act.put, List.setIfInBounds_toArray, List.set_cons_zero, List.set_cons_succ]; rfl)) | (refine lin_off rfl rfl (by kernel_rfl) (fun _ _ _ h => h) (by rfl) (a' := ?_) ?_ ?_; rotate_left 1; (simp only [List.getElem_toArray, List.getElem_cons_zero, List.getElem_cons_succ, Act.put, List.setIfInBounds_toArray, List.set_cons_zero, List.set_cons_succ]; rfl)))
  refine lin_done (by kernel_rfl) ?_
  obtain ⟨bp, bq, hz, B4⟩ := after_two hb4
  have bg := (B4.block g hlt).trans hg
  have D4 : Dr g w w4 := Dr.of_below B4 (Nat.le_of_lt hlt)
  clear c0 c1 c2 c3 c4 c5 hb4 B4 hg
  have hgq : g ≠ w.heap.size + 1 := by omega
  have hgp : g ≠ w.heap.size := by omega
  have c5 : w4.cell? ⟨g, 5, none⟩ = some (.string ⟨down.toArray⟩) := (blk_cell bg 5).trans rfl
  have c7 : w4.cell? ⟨g, 7, none⟩ = some (.int .i64 y) := (blk_cell bg 7).trans rfl
  have p0 : w4.cell? ⟨w.heap.size, 0, none⟩ = some (.int .i64 2) := (blk_cell bp 0).trans rfl
  have p5 : w4.cell? ⟨w.heap.size, 5, none⟩ = some (.int .i64 a) := (blk_cell bp 5).trans rfl
  go_upto_region 9 with (fail)
  refine lind_start (fun w' => w'.cell? ⟨w.heap.size, 5, none⟩ = some (.int .i64 a) ∧ w'.cell? ⟨g, 7, none⟩ = some (.int .i64 y)) [10] (true, [([], []), ([], []), ([1], [1]), ([2], [2]), ([], []), ([4], [4]), ([], []), ([5, 6], [5, 6]), ([3, 7], [3, 7]), ([0, 0, 1, 2, 3, 4, 5, 6, 7, 8], [0]), ([9, 8, 0, 1, 2, 3, 4, 5, 6, 7, 8], [8, 9])]) [0, 1, 2, 3, 4, 5, 6, 7, 8, 9, 10] (by kernel_rfl) (by kernel_rfl) (by kernel_rfl) ⟨by go_simp, by go_simp⟩ ?_
  repeat (first | (refine lind_take rfl rfl (by kernel_rfl) (fun _ _ _ h => h) (by rfl) (v := ?_) (a' := ?_) ?_ ?_ ?_; rotate_left 2; (rintro w' ⟨s0, s1⟩; go_simp; with_reducible rfl); (simp only [List.getElem_toArray, List.getElem_cons_zero, List.getElem_cons_succ, Act.put, List.setIfInBounds_toArray, List.set_cons_zero, List.set_cons_succ]; rfl)) | (refine lind_off rfl rfl (by kernel_rfl) (fun _ _ _ h => h) (by rfl) (a' := ?_) ?_ ?_; rotate_left 1; (simp only [List.getElem_toArray, List.getElem_cons_zero, List.getElem_cons_succ, Act.put, List.setIfInBounds_toArray, List.set_cons_zero, List.set_cons_succ]; rfl)))
  have z7 := blk_frozen bg 7
  refine lind_last (w1 := (w4.setCell ⟨g, 7, none⟩ (.int .i64 (max y (min a (down.length : Int))))).drew) rfl rfl (by kernel_rfl) (by kernel_rfl) (by rfl) (fun hS => ?run) (by kernel_rfl) ?rest
  case run =>
    obtain ⟨s0, s1⟩ := hS
    first | (go_simp; done) | (go_simp; rfl)
  have bg5 : ((w4.setCell ⟨g, 7, none⟩ (.int .i64 (max y (min a (down.length : Int))))).drew).heap[g]? = some (.cells (cvCells ⟨⟨i0, i1⟩, ⟨o0, o1⟩, up, down, x, max y (min a (down.length : Int)), ug, dg⟩) 64 (0, 0)) := (blk_set bg 7 (.int .i64 (max y (min a (down.length : Int))))).trans rfl
  have bq5 : ((w4.setCell ⟨g, 7, none⟩ (.int .i64 (max y (min a (down.length : Int))))).drew).heap[w.heap.size + 1]? = some (.cells #[.int .i64 0, .int .i64 0, .int .i64 0, .int .i64 0, .int .i64 0, .int .i64 0, .string ⟨#[]⟩] 66 (0, 0)) := set_far bq g 7 (.int .i64 (max y (min a (down.length : Int)))) (Ne.symm hgq)
  have D5 : Dr g w ((w4.setCell ⟨g, 7, none⟩ (.int .i64 (max y (min a (down.length : Int))))).drew) := (D4.set 7 (.int .i64 (max y (min a (down.length : Int))))).drew
  obtain ⟨w5, hw5⟩ : ∃ w5, (w4.setCell ⟨g, 7, none⟩ (.int .i64 (max y (min a (down.length : Int))))).drew = w5 := ⟨_, rfl⟩
  rw [hw5] at bg5 bq5 D5 ⊢
  clear hw5 z7 c7 p5 bg bq bp D4
  have q0 : w5.cell? ⟨(w.heap.size + 1), 0, none⟩ = some (.int .i64 0) := (blk_cell bq5 0).trans rfl
  have q1 : w5.cell? ⟨(w.heap.size + 1), 1, none⟩ = some (.int .i64 0) := (blk_cell bq5 1).trans rfl
  have q2 : w5.cell? ⟨(w.heap.size + 1), 2, none⟩ = some (.int .i64 0) := (blk_cell bq5 2).trans rfl
  have q3 : w5.cell? ⟨(w.heap.size + 1), 3, none⟩ = some (.int .i64 0) := (blk_cell bq5 3).trans rfl
  have q4 : w5.cell? ⟨(w.heap.size + 1), 4, none⟩ = some (.int .i64 0) := (blk_cell bq5 4).trans rfl
  have q5 : w5.cell? ⟨(w.heap.size + 1), 5, none⟩ = some (.int .i64 0) := (blk_cell bq5 5).trans rfl
  have q6 : w5.cell? ⟨(w.heap.size + 1), 6, none⟩ = some (.string ⟨#[]⟩) := (blk_cell bq5 6).trans rfl
  have r0 := blk_frozen bq5 0
  have r1 := blk_frozen bq5 1
  have r2 := blk_frozen bq5 2
  have r3 := blk_frozen bq5 3
  have r4 := blk_frozen bq5 4
  have r5 := blk_frozen bq5 5
  have r6 := blk_frozen bq5 6
  go_wp2
  refine bodyPost_ret (v := (.tuple #[(.agg #[.int .i64 0, .int .i64 0, .int .i64 0, .int .i64 0, .int .i64 0, .int .i64 0, .string ⟨#[]⟩]), .bool false])) (by simp [results, Tryz.results97, go_sem, zEn, *]) rfl ⟨rfl, (by with_reducible repeat (first | exact bg5 | refine set_far ?_ _ _ _ hgq)), (by with_reducible repeat (first | exact D5 | refine Dr.q ?_ hlt _ _ | apply Dr.set | apply Dr.drewN | apply Dr.drew))⟩
set_option maxRecDepth 100000 in
set_option maxHeartbeats 2000000 in
theorem hear_o4 (f0 f1 a : Int) (text : List UInt8) (i0 i1 o0 o1 x y : Int) (up down ug dg : List UInt8) (g : Nat) (w : World)
    (hg : w.heap[g]? = some (.cells (cvCells ⟨⟨i0, i1⟩, ⟨o0, o1⟩, up, down, x, y, ug, dg⟩) 64 (0, 0))) (hD : (f0 == 9 && inB f1 10 17) = true) (hgl : ug.length ≤ 140737488355328) (ha : 0 ≤ a ∧ a ≤ 1000000) (hxl : text.length ≤ 140737488355328) :
    Calls Tryz.prog 97 #[.pointer (some ⟨g, 0, none⟩), .bool false, vPk ⟨1, ⟨f0, f1⟩, ⟨o0, o1⟩, a, text⟩] w fun r w' => r = .returned (.tuple #[vPk (backP ⟨⟨i0, i1⟩, ⟨o0, o1⟩, up, down, x, y, ug, dg⟩ false ⟨1, ⟨f0, f1⟩, ⟨o0, o1⟩, a, text⟩), .bool true]) ∧ w'.heap[g]? = some (.cells (cvCells ⟨⟨i0, i1⟩, ⟨o0, o1⟩, up, down, x, y, (gotP ug a text).1, dg⟩) 64 (0, 0)) ∧ Dr g w w' := by
  have hM : (o0 == o0 && (o1 == o1)) = true := by simp
  have hlt := blk_lt hg
  have c0 : w.cell? ⟨g, 0, none⟩ = some (.int .i64 i0) := (blk_cell hg 0).trans rfl
  have c1 : w.cell? ⟨g, 1, none⟩ = some (.int .i64 i1) := (blk_cell hg 1).trans rfl
  have c2 : w.cell? ⟨g, 2, none⟩ = some (.int .i64 o0) := (blk_cell hg 2).trans rfl
  have c3 : w.cell? ⟨g, 3, none⟩ = some (.int .i64 o1) := (blk_cell hg 3).trans rfl
  have c4 : w.cell? ⟨g, 4, none⟩ = some (.string ⟨up.toArray⟩) := (blk_cell hg 4).trans rfl
  have c5 : w.cell? ⟨g, 5, none⟩ = some (.string ⟨down.toArray⟩) := (blk_cell hg 5).trans rfl
  go_enter Tryz.func97, Tryz.ntmps97
  go_upto_region 1 with (fail)
  go_quiet (fail)
  go_upto_region 2 with (fail)
  refine lin_start (fun w' => w'.cell? ⟨w.heap.size, 1, none⟩ = some (.int .i64 f0) ∧ w'.cell? ⟨w.heap.size, 2, none⟩ = some (.int .i64 f1) ∧ w'.cell? ⟨w.heap.size, 3, none⟩ = some (.int .i64 o0) ∧ w'.cell? ⟨w.heap.size, 4, none⟩ = some (.int .i64 o1) ∧ w'.cell? ⟨g, 2, none⟩ = some (.int .i64 o0) ∧ w'.cell? ⟨g, 3, none⟩ = some (.int .i64 o1)) (true, [([], []), ([0], [0]), ([1], [1]), ([2, 2], [2]), ([3], [3]), ([4, 3], [3, 4]), ([3], [3]), ([6, 3], [3, 6]), ([7, 3], [3, 7]), ([8, 3], [3, 8]), ([5, 9, 3], [3, 5, 9]), ([3, 10], [3, 10]), ([11, 3, 0, 1, 2, 3, 4, 5, 6, 7, 8, 9, 10, 11], [11])]) [0, 1, 2, 3, 4, 5, 6, 7, 8, 9, 10, 11, 12] (by kernel_rfl) (by kernel_rfl) (by kernel_rfl) ⟨by go_simp, by go_simp, by go_simp, by go_simp, by go_simp, by go_simp⟩ ?_
  repeat (first | (refine lin_take rfl rfl (by kernel_rfl) (fun _ _ _ h => h) (by rfl) (v := ?_) (a' := ?_) ?_ ?_ ?_; rotate_left 2; (rintro w' ⟨s0, s1, s2, s3, s4, s5⟩; go_simp; with_reducible rfl); (simp only [List.getElem_toArray, List.getElem_cons_zero, List.getElem_cons_succ, Act.put, List.setIfInBounds_toArray, List.set_cons_zero, List.set_cons_succ]; rfl)) | (refine lin_off rfl rfl (by kernel_rfl) (fun _ _ _ h => h) (by rfl) (a' := ?_) ?_ ?_; rotate_left 1; (simp only [List.getElem_toArray, List.getElem_cons_zero, List.getElem_cons_succ, Act.put, List.setIfInBounds_toArray, List.set_cons_zero, List.set_cons_succ]; rfl)))
  refine lin_call rfl rfl rfl Tryz.func147 (by kernel_rfl) (by kernel_rfl) rfl (by rfl) (args := #[vEn ⟨f0, f1⟩]) (by (try simp only [List.map_toArray, List.map_cons, List.map_nil]); first | done | rfl) (fun hS => ?_)
  refine (impl_EndDoor ⟨f0, f1⟩ _).mono ?_
  rintro e w4 ⟨rfl, hb4⟩
  simp only [hD]
  refine ⟨_, rfl, ?_, ?_⟩
  · first | exact (hb4.cell (by first | exact (by simp; omega) | exact (by simp))).trans hS | (obtain ⟨s0, s1, s2, s3, s4, s5⟩ := hS; exact ⟨(hb4.cell (by first | exact (by simp; omega) | exact (by simp))).trans s0, (hb4.cell (by first | exact (by simp; omega) | exact (by simp))).trans s1, (hb4.cell (by first | exact (by simp; omega) | exact (by simp))).trans s2, (hb4.cell (by first | exact (by simp; omega) | exact (by simp))).trans s3, (hb4.cell (by first | exact (by simp; omega) | exact (by simp))).trans s4, (hb4.cell (by first | exact (by simp; omega) | exact (by simp))).trans s5⟩)
  refine lin_norm (a' := ?_) ?_ ?_; rotate_left 1; (simp only [List.getElem_toArray, List.getElem_cons_zero, List.getElem_cons_succ, Act.put, List.setIfInBounds_toArray, List.set_cons_zero, List.set_cons_succ]; rfl)
  repeat (first | (refine lin_take rfl rfl (by kernel_rfl) (fun _ _ _ h => h) (by rfl) (v := ?_) (a' := ?_) ?_ ?_ ?_; rotate_left 2; (rintro w' ⟨s0, s1, s2, s3, s4, s5⟩; go_simp; with_reducible rfl); (simp only [List.getElem_toArray, List.getElem_cons_zero, List.getElem_cons_succ, Act.put, List.setIfInBounds_toArray, List.set_cons_zero, List.set_cons_succ]; rfl)) | (refine lin_off rfl rfl (by kernel_rfl) (fun _ _ _ h => h) (by rfl) (a' := ?_) ?_ ?_; rotate_left 1; (simp only [List.getElem_toArray, List.getElem_cons_zero, List.getElem_cons_succ, Act.put, List.setIfInBounds_toArray, List.set_cons_zero, List.set_cons_succ]; rfl)))
  refine lin_done (by kernel_rfl) ?_
  obtain ⟨bp, bq, hz, B4⟩ := after_two hb4
  have bg := (B4.block g hlt).trans hg
  have D4 : Dr g w w4 := Dr.of_below B4 (Nat.le_of_lt hlt)
  clear c0 c1 c2 c3 c4 c5 hb4 B4 hg
  have hgq : g ≠ w.heap.size + 1 := by omega
  have hgp : g ≠ w.heap.size := by omega
  have c8 : w4.cell? ⟨g, 8, none⟩ = some (.string ⟨ug.toArray⟩) := (blk_cell bg 8).trans rfl
  have p0 : w4.cell? ⟨w.heap.size, 0, none⟩ = some (.int .i64 1) := (blk_cell bp 0).trans rfl
  have p5 : w4.cell? ⟨w.heap.size, 5, none⟩ = some (.int .i64 a) := (blk_cell bp 5).trans rfl
  have p6 : w4.cell? ⟨w.heap.size, 6, none⟩ = some (.string ⟨text.toArray⟩) := (blk_cell bp 6).trans rfl
  go_upto_region 11 with (fail)
  refine lind_start (fun w' => w'.cell? ⟨w.heap.size, 5, none⟩ = some (.int .i64 a) ∧ w'.cell? ⟨w.heap.size, 6, none⟩ = some (.string ⟨text.toArray⟩) ∧ w'.cell? ⟨g, 8, none⟩ = some (.string ⟨ug.toArray⟩)) [13] (true, [([], []), ([], []), ([1], [1]), ([2], [2]), ([], []), ([4], [4]), ([], []), ([6], [6]), ([3, 5, 7], [3, 5, 7]), ([8], [8]), ([9], [9]), ([9], [9]), ([0, 0, 1, 2, 3, 4, 5, 6, 7, 8, 9, 10], [0]), ([12, 10, 8, 0, 1, 2, 3, 4, 5, 6, 7, 8, 9, 10], [10, 12])]) [0, 1, 2, 3, 4, 5, 6, 7, 8, 9, 10, 11, 12, 13] (by kernel_rfl) (by kernel_rfl) (by kernel_rfl) ⟨by go_simp, by go_simp, by go_simp⟩ ?_
  repeat (first | (refine lind_take rfl rfl (by kernel_rfl) (fun _ _ _ h => h) (by rfl) (v := ?_) (a' := ?_) ?_ ?_ ?_; rotate_left 2; (rintro w' ⟨s0, s1, s2⟩; go_simp; with_reducible rfl); (simp only [List.getElem_toArray, List.getElem_cons_zero, List.getElem_cons_succ, Act.put, List.setIfInBounds_toArray, List.set_cons_zero, List.set_cons_succ]; rfl)) | (refine lind_off rfl rfl (by kernel_rfl) (fun _ _ _ h => h) (by rfl) (a' := ?_) ?_ ?_; rotate_left 1; (simp only [List.getElem_toArray, List.getElem_cons_zero, List.getElem_cons_succ, Act.put, List.setIfInBounds_toArray, List.set_cons_zero, List.set_cons_succ]; rfl)))
  refine lind_call rfl rfl rfl Tryz.func125 (by kernel_rfl) (by kernel_rfl) rfl (by rfl) (args := #[.string ⟨ug.toArray⟩, .int .i64 a, .string ⟨text.toArray⟩]) (by (try simp only [List.map_toArray, List.map_cons, List.map_nil]); first | done | rfl) (fun hS => ?_)
  refine (impl_got ug hgl a ha text hxl _).mono ?_
  rintro e w5 ⟨rfl, hb5⟩
  obtain ⟨⟨G, gb⟩, hG⟩ : ∃ q, gotP ug a text = q := ⟨_, rfl⟩
  rw [hG]
  have hgw : g < w4.heap.size := by omega
  refine ⟨_, rfl, ?_, ?_⟩
  · first | exact (hb5.cell (by first | exact (show w.heap.size < w4.heap.size by omega) | exact (show g < w4.heap.size from hgw))).trans hS | (obtain ⟨s0, s1, s2⟩ := hS; exact ⟨(hb5.cell (by first | exact (show w.heap.size < w4.heap.size by omega) | exact (show g < w4.heap.size from hgw))).trans s0, (hb5.cell (by first | exact (show w.heap.size < w4.heap.size by omega) | exact (show g < w4.heap.size from hgw))).trans s1, (hb5.cell (by first | exact (show w.heap.size < w4.heap.size by omega) | exact (show g < w4.heap.size from hgw))).trans s2⟩)
  refine lind_norm (a' := ?_) ?_ ?_; rotate_left 1; (simp only [List.getElem_toArray, List.getElem_cons_zero, List.getElem_cons_succ, Act.put, List.setIfInBounds_toArray, List.set_cons_zero, List.set_cons_succ]; rfl)
  repeat (refine lind_any rfl rfl (by kernel_rfl) (fun _ _ _ h => h) (by rfl) (v := ?_) (a' := ?_) ?_ ?_ ?_; rotate_left 2; (intro w'; go_simp; with_reducible rfl); (simp only [List.getElem_toArray, List.getElem_cons_zero, List.getElem_cons_succ, Act.put, List.setIfInBounds_toArray, List.set_cons_zero, List.set_cons_succ]; rfl))
  have bg5 := (hb5.block g hgw).trans bg
  have bq5 := (hb5.block (w.heap.size + 1) (show w.heap.size + 1 < w4.heap.size by omega)).trans bq
  have bp5 := (hb5.block w.heap.size (show w.heap.size < w4.heap.size by omega)).trans bp
  have D5 : Dr g w w5 := D4.drew.trans (Dr.of_below hb5 (Nat.le_of_lt hgw))
  have z7 := blk_frozen bg5 8
  have e8 : w5.cell? ⟨g, 8, none⟩ = some (.string ⟨ug.toArray⟩) := (blk_cell bg5 8).trans rfl
  refine lind_last (w1 := (w5.setCell ⟨g, 8, none⟩ (.string ⟨G.toArray⟩))) rfl rfl (by kernel_rfl) (by kernel_rfl) (by rfl) (fun hS => ?run) (by kernel_rfl) ?rest
  case run => first | (go_simp; done) | (go_simp; rfl)
  have bg6 : ((w5.setCell ⟨g, 8, none⟩ (.string ⟨G.toArray⟩))).heap[g]? = some (.cells (cvCells ⟨⟨i0, i1⟩, ⟨o0, o1⟩, up, down, x, y, G, dg⟩) 64 (0, 0)) := (blk_set bg5 8 (.string ⟨G.toArray⟩)).trans rfl
  have bq6 := set_far bq5 g 8 (.string ⟨G.toArray⟩) (Ne.symm hgq)
  have bp6 := set_far bp5 g 8 (.string ⟨G.toArray⟩) (Ne.symm hgp)
  have D6 : Dr g w ((w5.setCell ⟨g, 8, none⟩ (.string ⟨G.toArray⟩))) := D5.set 8 (.string ⟨G.toArray⟩)
  have bq6' : ((w5.setCell ⟨g, 8, none⟩ (.string ⟨G.toArray⟩))).heap[w.heap.size + 1]? = _ := bq6
  have bp6' : ((w5.setCell ⟨g, 8, none⟩ (.string ⟨G.toArray⟩))).heap[w.heap.size]? = _ := bp6
  clear bq6 bp6
  obtain ⟨w6, hw6⟩ : ∃ w6, (w5.setCell ⟨g, 8, none⟩ (.string ⟨G.toArray⟩)) = w6 := ⟨_, rfl⟩
  rw [hw6] at bg6 bq6' bp6' D6 ⊢
  clear hw6 z7 e8 bg bq bp D4 bg5 bq5 bp5 D5 hb5 p5 p6 c8
  have p1 : w6.cell? ⟨w.heap.size, 1, none⟩ = some (.int .i64 f0) := (blk_cell bp6' 1).trans rfl
  have p2 : w6.cell? ⟨w.heap.size, 2, none⟩ = some (.int .i64 f1) := (blk_cell bp6' 2).trans rfl
  have p3 : w6.cell? ⟨w.heap.size, 3, none⟩ = some (.int .i64 o0) := (blk_cell bp6' 3).trans rfl
  have p4 : w6.cell? ⟨w.heap.size, 4, none⟩ = some (.int .i64 o1) := (blk_cell bp6' 4).trans rfl
  have k8 : w6.cell? ⟨g, 8, none⟩ = some (.string ⟨G.toArray⟩) := (blk_cell bg6 8).trans rfl
  go_upto_region 12 with (fail)
  refine lin_start (fun w' => w'.cell? ⟨w.heap.size, 1, none⟩ = some (.int .i64 f0) ∧ w'.cell? ⟨w.heap.size, 2, none⟩ = some (.int .i64 f1) ∧ w'.cell? ⟨w.heap.size, 3, none⟩ = some (.int .i64 o0) ∧ w'.cell? ⟨w.heap.size, 4, none⟩ = some (.int .i64 o1) ∧ w'.cell? ⟨g, 8, none⟩ = some (.string ⟨G.toArray⟩)) (true, [([], []), ([0], [0]), ([], []), ([2], [2]), ([], []), ([4], [4]), ([5], [5]), ([6], [6]), ([1, 3, 7], [1, 3, 7]), ([8, 0, 1, 2, 3, 4, 5, 6, 7, 8], [8]), ([9, 0, 1, 2, 3, 4, 5, 6, 7, 8, 9], [])]) [0, 1, 2, 3, 4, 5, 6, 7, 8, 9, 10] (by kernel_rfl) (by kernel_rfl) (by kernel_rfl) ⟨by go_simp, by go_simp, by go_simp, by go_simp, by go_simp⟩ ?_
  repeat (first | (refine lin_take rfl rfl (by kernel_rfl) (fun _ _ _ h => h) (by rfl) (v := ?_) (a' := ?_) ?_ ?_ ?_; rotate_left 2; (rintro w' ⟨s0, s1, s2, s3, s4⟩; go_simp; with_reducible rfl); (simp only [List.getElem_toArray, List.getElem_cons_zero, List.getElem_cons_succ, Act.put, List.setIfInBounds_toArray, List.set_cons_zero, List.set_cons_succ]; rfl)) | (refine lin_off rfl rfl (by kernel_rfl) (fun _ _ _ h => h) (by rfl) (a' := ?_) ?_ ?_; rotate_left 1; (simp only [List.getElem_toArray, List.getElem_cons_zero, List.getElem_cons_succ, Act.put, List.setIfInBounds_toArray, List.set_cons_zero, List.set_cons_succ]; rfl)))
  have q0 : w6.cell? ⟨(w.heap.size + 1), 0, none⟩ = some (.int .i64 0) := (blk_cell bq6' 0).trans rfl
  have q1 : w6.cell? ⟨(w.heap.size + 1), 1, none⟩ = some (.int .i64 0) := (blk_cell bq6' 1).trans rfl
  have q2 : w6.cell? ⟨(w.heap.size + 1), 2, none⟩ = some (.int .i64 0) := (blk_cell bq6' 2).trans rfl
  have q3 : w6.cell? ⟨(w.heap.size + 1), 3, none⟩ = some (.int .i64 0) := (blk_cell bq6' 3).trans rfl
  have q4 : w6.cell? ⟨(w.heap.size + 1), 4, none⟩ = some (.int .i64 0) := (blk_cell bq6' 4).trans rfl
  have q5 : w6.cell? ⟨(w.heap.size + 1), 5, none⟩ = some (.int .i64 0) := (blk_cell bq6' 5).trans rfl
  have q6 : w6.cell? ⟨(w.heap.size + 1), 6, none⟩ = some (.string ⟨#[]⟩) := (blk_cell bq6' 6).trans rfl
  have r0 := blk_frozen bq6' 0
  have r1 := blk_frozen bq6' 1
  have r2 := blk_frozen bq6' 2
  have r3 := blk_frozen bq6' 3
  have r4 := blk_frozen bq6' 4
  have r5 := blk_frozen bq6' 5
  have r6 := blk_frozen bq6' 6
  have hpq : w.heap.size ≠ w.heap.size + 1 := by omega
  refine lin_skip (w1 := (((((((w6.setCell ⟨w.heap.size + 1, 0, none⟩ (.int .i64 2)).setCell ⟨w.heap.size + 1, 1, none⟩ (.int .i64 o0)).setCell ⟨w.heap.size + 1, 2, none⟩ (.int .i64 o1)).setCell ⟨w.heap.size + 1, 3, none⟩ (.int .i64 f0)).setCell ⟨w.heap.size + 1, 4, none⟩ (.int .i64 f1)).setCell ⟨w.heap.size + 1, 5, none⟩ (.int .i64 (G.length : Int))).setCell ⟨w.heap.size + 1, 6, none⟩ (.string ⟨#[]⟩)).drew) rfl rfl (by kernel_rfl) (by rfl) (fun hS => ?runB) (fun hS => ?keepB) ?restB
  case runB => first | (go_simp; done) | (go_simp; rfl)
  case keepB =>
    obtain ⟨s0, s1, s2, s3, s4⟩ := hS
    exact ⟨by simp only [keep_cell_d hpq]; exact s0, by simp only [keep_cell_d hpq]; exact s1, by simp only [keep_cell_d hpq]; exact s2, by simp only [keep_cell_d hpq]; exact s3, by simp only [keep_cell_d hgq]; exact s4⟩
  repeat (first | (refine lin_take rfl rfl (by kernel_rfl) (fun _ _ _ h => h) (by rfl) (v := ?_) (a' := ?_) ?_ ?_ ?_; rotate_left 2; (rintro w' ⟨s0, s1, s2, s3, s4⟩; go_simp; with_reducible rfl); (simp only [List.getElem_toArray, List.getElem_cons_zero, List.getElem_cons_succ, Act.put, List.setIfInBounds_toArray, List.set_cons_zero, List.set_cons_succ]; rfl)) | (refine lin_off rfl rfl (by kernel_rfl) (fun _ _ _ h => h) (by rfl) (a' := ?_) ?_ ?_; rotate_left 1; (simp only [List.getElem_toArray, List.getElem_cons_zero, List.getElem_cons_succ, Act.put, List.setIfInBounds_toArray, List.set_cons_zero, List.set_cons_succ]; rfl)))
  refine lin_done (by kernel_rfl) ?_
  go_wp2
  refine bodyPost_ret (v := (.tuple #[(.agg #[.int .i64 2, .int .i64 o0, .int .i64 o1, .int .i64 f0, .int .i64 f1, .int .i64 (G.length : Int), .string ⟨#[]⟩]), .bool true])) (by simp [results, Tryz.results97, go_sem, zEn, *]) rfl ⟨by simp only [backP, hG]; rfl, (by rw [show (gotP ug a text).1 = G from by rw [hG]]; with_reducible repeat (first | exact bg6 | refine drew_h ?_ | refine set_far ?_ _ _ _ hgq)), (by with_reducible repeat (first | exact D6 | refine Dr.q ?_ hlt _ _ | apply Dr.set | apply Dr.drewN | apply Dr.drew))⟩
end Go.Proofs.YtfjbjiklohjodaaGreatDoor.Z
namespace Go.Proofs.YtfjbjiklohjodaaGreatDoor.Z
open Go.RowKit Go.Proofs.YtfjbjiklohjodaaGreatDoorW.PrintWords Go.Proofs.YtfjbjiklohjodaaGreatDoorW.PrintLast Go.Proofs.YtfjbjiklohjodaaGreatDoorW.PrintMore
set_option linter.unusedVariables false
set_option linter.unusedSimpArgs false
attribute [local go_sem ↓] Go.wp_at_zero Go.wp_at_succ
attribute [local go_sem high] eqEn max2_int min2_int
set_option maxRecDepth 100000 in
set_option maxHeartbeats 2000000 in
theorem hear_i1 (kind f0 f1 d0 d1 a : Int) (text : List UInt8) (i0 i1 o0 o1 x y : Int) (up down ug dg : List UInt8) (g : Nat) (w : World)
    (hg : w.heap[g]? = some (.cells (cvCells ⟨⟨i0, i1⟩, ⟨o0, o1⟩, up, down, x, y, ug, dg⟩) 64 (0, 0))) (hD : (f0 == 9 && inB f1 10 17) = false) (hA : (f0 == o0 && (f1 == o1)) = false) :
    Calls Tryz.prog 97 #[.pointer (some ⟨g, 0, none⟩), .bool true, vPk ⟨kind, ⟨f0, f1⟩, ⟨d0, d1⟩, a, text⟩] w fun r w' => r = .returned (.tuple #[vPk zPk, .bool false]) ∧ w'.heap[g]? = some (.cells (cvCells ⟨⟨i0, i1⟩, ⟨o0, o1⟩, up, down, x, y, ug, dg⟩) 64 (0, 0)) ∧ Dr g w w' := by
  have hlt := blk_lt hg
  have c0 : w.cell? ⟨g, 0, none⟩ = some (.int .i64 i0) := (blk_cell hg 0).trans rfl
  have c1 : w.cell? ⟨g, 1, none⟩ = some (.int .i64 i1) := (blk_cell hg 1).trans rfl
  have c2 : w.cell? ⟨g, 2, none⟩ = some (.int .i64 o0) := (blk_cell hg 2).trans rfl
  have c3 : w.cell? ⟨g, 3, none⟩ = some (.int .i64 o1) := (blk_cell hg 3).trans rfl
  have c4 : w.cell? ⟨g, 4, none⟩ = some (.string ⟨up.toArray⟩) := (blk_cell hg 4).trans rfl
  have c5 : w.cell? ⟨g, 5, none⟩ = some (.string ⟨down.toArray⟩) := (blk_cell hg 5).trans rfl
  go_enter Tryz.func97, Tryz.ntmps97
  go_upto_region 1 with (fail)
  go_quiet (fail)
  go_upto_region 2 with (fail)
  refine lin_start (fun w' => w'.cell? ⟨w.heap.size, 1, none⟩ = some (.int .i64 f0) ∧ w'.cell? ⟨w.heap.size, 2, none⟩ = some (.int .i64 f1) ∧ w'.cell? ⟨w.heap.size, 3, none⟩ = some (.int .i64 d0) ∧ w'.cell? ⟨w.heap.size, 4, none⟩ = some (.int .i64 d1) ∧ w'.cell? ⟨g, 2, none⟩ = some (.int .i64 o0) ∧ w'.cell? ⟨g, 3, none⟩ = some (.int .i64 o1)) (true, [([], []), ([0], [0]), ([1], [1]), ([2, 2], [2]), ([3], [3]), ([4, 3], [3, 4]), ([3], [3]), ([6, 3], [3, 6]), ([7, 3], [3, 7]), ([8, 3], [3, 8]), ([5, 9, 3], [3, 5, 9]), ([3, 10], [3, 10]), ([11, 3, 0, 1, 2, 3, 4, 5, 6, 7, 8, 9, 10, 11], [11])]) [0, 1, 2, 3, 4, 5, 6, 7, 8, 9, 10, 11, 12] (by kernel_rfl) (by kernel_rfl) (by kernel_rfl) ⟨by go_simp, by go_simp, by go_simp, by go_simp, by go_simp, by go_simp⟩ ?_
  repeat (first | (refine lin_take rfl rfl (by kernel_rfl) (fun _ _ _ h => h) (by rfl) (v := ?_) (a' := ?_) ?_ ?_ ?_; rotate_left 2; (rintro w' ⟨s0, s1, s2, s3, s4, s5⟩; go_simp; with_reducible rfl); (simp only [List.getElem_toArray, List.getElem_cons_zero, List.getElem_cons_succ, Act.put, List.setIfInBounds_toArray, List.set_cons_zero, List.set_cons_succ]; rfl)) | (refine lin_off rfl rfl (by kernel_rfl) (fun _ _ _ h => h) (by rfl) (a' := ?_) ?_ ?_; rotate_left 1; (simp only [List.getElem_toArray, List.getElem_cons_zero, List.getElem_cons_succ, Act.put, List.setIfInBounds_toArray, List.set_cons_zero, List.set_cons_succ]; rfl)))
  refine lin_call rfl rfl rfl Tryz.func147 (by kernel_rfl) (by kernel_rfl) rfl (by rfl) (args := #[vEn ⟨f0, f1⟩]) (by (try simp only [List.map_toArray, List.map_cons, List.map_nil]); first | done | rfl) (fun hS => ?_)
  refine (impl_EndDoor ⟨f0, f1⟩ _).mono ?_
  rintro e w4 ⟨rfl, hb4⟩
  simp only [hD]
  refine ⟨_, rfl, ?_, ?_⟩
  · first | exact (hb4.cell (by first | exact (by simp; omega) | exact (by simp))).trans hS | (obtain ⟨s0, s1, s2, s3, s4, s5⟩ := hS; exact ⟨(hb4.cell (by first | exact (by simp; omega) | exact (by simp))).trans s0, (hb4.cell (by first | exact (by simp; omega) | exact (by simp))).trans s1, (hb4.cell (by first | exact (by simp; omega) | exact (by simp))).trans s2, (hb4.cell (by first | exact (by simp; omega) | exact (by simp))).trans s3, (hb4.cell (by first | exact (by simp; omega) | exact (by simp))).trans s4, (hb4.cell (by first | exact (by simp; omega) | exact (by simp))).trans s5⟩)
  refine lin_norm (a' := ?_) ?_ ?_; rotate_left 1; (simp only [List.getElem_toArray, List.getElem_cons_zero, List.getElem_cons_succ, Act.put, List.setIfInBounds_toArray, List.set_cons_zero, List.set_cons_succ]; rfl)
  repeat (first | (refine lin_take rfl rfl (by kernel_rfl) (fun _ _ _ h => h) (by rfl) (v := ?_) (a' := ?_) ?_ ?_ ?_; rotate_left 2; (rintro w' ⟨s0, s1, s2, s3, s4, s5⟩; go_simp; with_reducible rfl); (simp only [List.getElem_toArray, List.getElem_cons_zero, List.getElem_cons_succ, Act.put, List.setIfInBounds_toArray, List.set_cons_zero, List.set_cons_succ]; rfl)) | (refine lin_off rfl rfl (by kernel_rfl) (fun _ _ _ h => h) (by rfl) (a' := ?_) ?_ ?_; rotate_left 1; (simp only [List.getElem_toArray, List.getElem_cons_zero, List.getElem_cons_succ, Act.put, List.setIfInBounds_toArray, List.set_cons_zero, List.set_cons_succ]; rfl)))
  refine lin_done (by kernel_rfl) ?_
  obtain ⟨bp, bq, hz, B4⟩ := after_two hb4
  have bg := (B4.block g hlt).trans hg
  have D4 : Dr g w w4 := Dr.of_below B4 (Nat.le_of_lt hlt)
  clear c0 c1 c2 c3 c4 c5 hb4 B4 hg
  have hgq : g ≠ w.heap.size + 1 := by omega
  have hgp : g ≠ w.heap.size := by omega
  have c0 : w4.cell? ⟨g, 0, none⟩ = some (.int .i64 i0) := (blk_cell bg 0).trans rfl
  have c1 : w4.cell? ⟨g, 1, none⟩ = some (.int .i64 i1) := (blk_cell bg 1).trans rfl
  have c2 : w4.cell? ⟨g, 2, none⟩ = some (.int .i64 o0) := (blk_cell bg 2).trans rfl
  have c3 : w4.cell? ⟨g, 3, none⟩ = some (.int .i64 o1) := (blk_cell bg 3).trans rfl
  have c4 : w4.cell? ⟨g, 4, none⟩ = some (.string ⟨up.toArray⟩) := (blk_cell bg 4).trans rfl
  have c5 : w4.cell? ⟨g, 5, none⟩ = some (.string ⟨down.toArray⟩) := (blk_cell bg 5).trans rfl
  have p1 : w4.cell? ⟨w.heap.size, 1, none⟩ = some (.int .i64 f0) := (blk_cell bp 1).trans rfl
  have p2 : w4.cell? ⟨w.heap.size, 2, none⟩ = some (.int .i64 f1) := (blk_cell bp 2).trans rfl
  have p3 : w4.cell? ⟨w.heap.size, 3, none⟩ = some (.int .i64 d0) := (blk_cell bp 3).trans rfl
  have p4 : w4.cell? ⟨w.heap.size, 4, none⟩ = some (.int .i64 d1) := (blk_cell bp 4).trans rfl
  go_upto_region 4 with (fail)
  go_quiet (fail)
  obtain ⟨wa, hwn⟩ : ∃ x, w4.drewN nq = x := ⟨_, rfl⟩
  have bgn : wa.heap[g]? = some (.cells (cvCells ⟨⟨i0, i1⟩, ⟨o0, o1⟩, up, down, x, y, ug, dg⟩) 64 (0, 0)) := by rw [← hwn]; exact bg
  have bpn : wa.heap[w.heap.size]? = some (.cells #[.int .i64 kind, .int .i64 f0, .int .i64 f1, .int .i64 d0, .int .i64 d1, .int .i64 a, .string ⟨text.toArray⟩] 66 (0, 0)) := by rw [← hwn]; exact bp
  have bqn : wa.heap[w.heap.size + 1]? = some (.cells #[.int .i64 0, .int .i64 0, .int .i64 0, .int .i64 0, .int .i64 0, .int .i64 0, .string ⟨#[]⟩] 66 (0, 0)) := by rw [← hwn]; exact bq
  have hzn : w.heap.size + 2 ≤ wa.heap.size := by rw [← hwn]; exact hz
  have D4n : Dr g w wa := by rw [← hwn]; exact D4.drewN nq
  rw [hwn]
  clear hwn bg bp bq hz D4 c0 c1 c2 c3 c4 c5 p1 p2 p3 p4
  have bg := bgn
  have bp := bpn
  have bq := bqn
  have hz := hzn
  have D4 := D4n
  clear bgn bpn bqn hzn D4n
  have c0 : wa.cell? ⟨g, 0, none⟩ = some (.int .i64 i0) := (blk_cell bg 0).trans rfl
  have c1 : wa.cell? ⟨g, 1, none⟩ = some (.int .i64 i1) := (blk_cell bg 1).trans rfl
  have c2 : wa.cell? ⟨g, 2, none⟩ = some (.int .i64 o0) := (blk_cell bg 2).trans rfl
  have c3 : wa.cell? ⟨g, 3, none⟩ = some (.int .i64 o1) := (blk_cell bg 3).trans rfl
  have c4 : wa.cell? ⟨g, 4, none⟩ = some (.string ⟨up.toArray⟩) := (blk_cell bg 4).trans rfl
  have c5 : wa.cell? ⟨g, 5, none⟩ = some (.string ⟨down.toArray⟩) := (blk_cell bg 5).trans rfl
  have p1 : wa.cell? ⟨w.heap.size, 1, none⟩ = some (.int .i64 f0) := (blk_cell bp 1).trans rfl
  have p2 : wa.cell? ⟨w.heap.size, 2, none⟩ = some (.int .i64 f1) := (blk_cell bp 2).trans rfl
  have p3 : wa.cell? ⟨w.heap.size, 3, none⟩ = some (.int .i64 d0) := (blk_cell bp 3).trans rfl
  have p4 : wa.cell? ⟨w.heap.size, 4, none⟩ = some (.int .i64 d1) := (blk_cell bp 4).trans rfl
  go_upto_region 5 with (fail)
  go_quiet (fail)
  obtain ⟨wb, hwn⟩ : ∃ x, wa.drewN nq = x := ⟨_, rfl⟩
  have bgn : wb.heap[g]? = some (.cells (cvCells ⟨⟨i0, i1⟩, ⟨o0, o1⟩, up, down, x, y, ug, dg⟩) 64 (0, 0)) := by rw [← hwn]; exact bg
  have bpn : wb.heap[w.heap.size]? = some (.cells #[.int .i64 kind, .int .i64 f0, .int .i64 f1, .int .i64 d0, .int .i64 d1, .int .i64 a, .string ⟨text.toArray⟩] 66 (0, 0)) := by rw [← hwn]; exact bp
  have bqn : wb.heap[w.heap.size + 1]? = some (.cells #[.int .i64 0, .int .i64 0, .int .i64 0, .int .i64 0, .int .i64 0, .int .i64 0, .string ⟨#[]⟩] 66 (0, 0)) := by rw [← hwn]; exact bq
  have hzn : w.heap.size + 2 ≤ wb.heap.size := by rw [← hwn]; exact hz
  have D4n : Dr g w wb := by rw [← hwn]; exact D4.drewN nq
  rw [hwn]
  clear hwn bg bp bq hz D4 c0 c1 c2 c3 c4 c5 p1 p2 p3 p4
  have bg := bgn
  have bp := bpn
  have bq := bqn
  have hz := hzn
  have D4 := D4n
  clear bgn bpn bqn hzn D4n
  have q0 : wb.cell? ⟨(w.heap.size + 1), 0, none⟩ = some (.int .i64 0) := (blk_cell bq 0).trans rfl
  have q1 : wb.cell? ⟨(w.heap.size + 1), 1, none⟩ = some (.int .i64 0) := (blk_cell bq 1).trans rfl
  have q2 : wb.cell? ⟨(w.heap.size + 1), 2, none⟩ = some (.int .i64 0) := (blk_cell bq 2).trans rfl
  have q3 : wb.cell? ⟨(w.heap.size + 1), 3, none⟩ = some (.int .i64 0) := (blk_cell bq 3).trans rfl
  have q4 : wb.cell? ⟨(w.heap.size + 1), 4, none⟩ = some (.int .i64 0) := (blk_cell bq 4).trans rfl
  have q5 : wb.cell? ⟨(w.heap.size + 1), 5, none⟩ = some (.int .i64 0) := (blk_cell bq 5).trans rfl
  have q6 : wb.cell? ⟨(w.heap.size + 1), 6, none⟩ = some (.string ⟨#[]⟩) := (blk_cell bq 6).trans rfl
  have r0 := blk_frozen bq 0
  have r1 := blk_frozen bq 1
  have r2 := blk_frozen bq 2
  have r3 := blk_frozen bq 3
  have r4 := blk_frozen bq 4
  have r5 := blk_frozen bq 5
  have r6 := blk_frozen bq 6
  go_wp2
  refine bodyPost_ret (v := (.tuple #[(.agg #[.int .i64 0, .int .i64 0, .int .i64 0, .int .i64 0, .int .i64 0, .int .i64 0, .string ⟨#[]⟩]), .bool false])) (by simp [results, Tryz.results97, go_sem, zEn, *]) rfl ⟨rfl, (by with_reducible repeat (first | exact bg | refine set_far ?_ _ _ _ hgq)), (by with_reducible repeat (first | exact D4 | refine Dr.q ?_ hlt _ _ | apply Dr.set | apply Dr.drewN | apply Dr.drew))⟩
set_option maxRecDepth 100000 in
set_option maxHeartbeats 2000000 in
theorem hear_i2 (kind d0 d1 a : Int) (text : List UInt8) (i0 i1 o0 o1 x y : Int) (up down ug dg : List UInt8) (g : Nat) (w : World)
    (hg : w.heap[g]? = some (.cells (cvCells ⟨⟨i0, i1⟩, ⟨o0, o1⟩, up, down, x, y, ug, dg⟩) 64 (0, 0))) (hD : (o0 == 9 && inB o1 10 17) = false) (hA2 : (d0 == i0 && (d1 == i1)) = false) :
    Calls Tryz.prog 97 #[.pointer (some ⟨g, 0, none⟩), .bool true, vPk ⟨kind, ⟨o0, o1⟩, ⟨d0, d1⟩, a, text⟩] w fun r w' => r = .returned (.tuple #[vPk zPk, .bool false]) ∧ w'.heap[g]? = some (.cells (cvCells ⟨⟨i0, i1⟩, ⟨o0, o1⟩, up, down, x, y, ug, dg⟩) 64 (0, 0)) ∧ Dr g w w' := by
  have hA : (o0 == o0 && (o1 == o1)) = true := by simp
  have hlt := blk_lt hg
  have c0 : w.cell? ⟨g, 0, none⟩ = some (.int .i64 i0) := (blk_cell hg 0).trans rfl
  have c1 : w.cell? ⟨g, 1, none⟩ = some (.int .i64 i1) := (blk_cell hg 1).trans rfl
  have c2 : w.cell? ⟨g, 2, none⟩ = some (.int .i64 o0) := (blk_cell hg 2).trans rfl
  have c3 : w.cell? ⟨g, 3, none⟩ = some (.int .i64 o1) := (blk_cell hg 3).trans rfl
  have c4 : w.cell? ⟨g, 4, none⟩ = some (.string ⟨up.toArray⟩) := (blk_cell hg 4).trans rfl
  have c5 : w.cell? ⟨g, 5, none⟩ = some (.string ⟨down.toArray⟩) := (blk_cell hg 5).trans rfl
  go_enter Tryz.func97, Tryz.ntmps97
  go_upto_region 1 with (fail)
  go_quiet (fail)
  go_upto_region 2 with (fail)
  refine lin_start (fun w' => w'.cell? ⟨w.heap.size, 1, none⟩ = some (.int .i64 o0) ∧ w'.cell? ⟨w.heap.size, 2, none⟩ = some (.int .i64 o1) ∧ w'.cell? ⟨w.heap.size, 3, none⟩ = some (.int .i64 d0) ∧ w'.cell? ⟨w.heap.size, 4, none⟩ = some (.int .i64 d1) ∧ w'.cell? ⟨g, 2, none⟩ = some (.int .i64 o0) ∧ w'.cell? ⟨g, 3, none⟩ = some (.int .i64 o1)) (true, [([], []), ([0], [0]), ([1], [1]), ([2, 2], [2]), ([3], [3]), ([4, 3], [3, 4]), ([3], [3]), ([6, 3], [3, 6]), ([7, 3], [3, 7]), ([8, 3], [3, 8]), ([5, 9, 3], [3, 5, 9]), ([3, 10], [3, 10]), ([11, 3, 0, 1, 2, 3, 4, 5, 6, 7, 8, 9, 10, 11], [11])]) [0, 1, 2, 3, 4, 5, 6, 7, 8, 9, 10, 11, 12] (by kernel_rfl) (by kernel_rfl) (by kernel_rfl) ⟨by go_simp, by go_simp, by go_simp, by go_simp, by go_simp, by go_simp⟩ ?_
  repeat (first | (refine lin_take rfl rfl (by kernel_rfl) (fun _ _ _ h => h) (by rfl) (v := ?_) (a' := ?_) ?_ ?_ ?_; rotate_left 2; (rintro w' ⟨s0, s1, s2, s3, s4, s5⟩; go_simp; with_reducible rfl); (simp only [List.getElem_toArray, List.getElem_cons_zero, List.getElem_cons_succ, Act.put, List.setIfInBounds_toArray, List.set_cons_zero, List.set_cons_succ]; rfl)) | (refine lin_off rfl rfl (by kernel_rfl) (fun _ _ _ h => h) (by rfl) (a' := ?_) ?_ ?_; rotate_left 1; (simp only [List.getElem_toArray, List.getElem_cons_zero, List.getElem_cons_succ, Act.put, List.setIfInBounds_toArray, List.set_cons_zero, List.set_cons_succ]; rfl)))
  refine lin_call rfl rfl rfl Tryz.func147 (by kernel_rfl) (by kernel_rfl) rfl (by rfl) (args := #[vEn ⟨o0, o1⟩]) (by (try simp only [List.map_toArray, List.map_cons, List.map_nil]); first | done | rfl) (fun hS => ?_)
  refine (impl_EndDoor ⟨o0, o1⟩ _).mono ?_
  rintro e w4 ⟨rfl, hb4⟩
  simp only [hD]
  refine ⟨_, rfl, ?_, ?_⟩
  · first | exact (hb4.cell (by first | exact (by simp; omega) | exact (by simp))).trans hS | (obtain ⟨s0, s1, s2, s3, s4, s5⟩ := hS; exact ⟨(hb4.cell (by first | exact (by simp; omega) | exact (by simp))).trans s0, (hb4.cell (by first | exact (by simp; omega) | exact (by simp))).trans s1, (hb4.cell (by first | exact (by simp; omega) | exact (by simp))).trans s2, (hb4.cell (by first | exact (by simp; omega) | exact (by simp))).trans s3, (hb4.cell (by first | exact (by simp; omega) | exact (by simp))).trans s4, (hb4.cell (by first | exact (by simp; omega) | exact (by simp))).trans s5⟩)
  refine lin_norm (a' := ?_) ?_ ?_; rotate_left 1; (simp only [List.getElem_toArray, List.getElem_cons_zero, List.getElem_cons_succ, Act.put, List.setIfInBounds_toArray, List.set_cons_zero, List.set_cons_succ]; rfl)
  repeat (first | (refine lin_take rfl rfl (by kernel_rfl) (fun _ _ _ h => h) (by rfl) (v := ?_) (a' := ?_) ?_ ?_ ?_; rotate_left 2; (rintro w' ⟨s0, s1, s2, s3, s4, s5⟩; go_simp; with_reducible rfl); (simp only [List.getElem_toArray, List.getElem_cons_zero, List.getElem_cons_succ, Act.put, List.setIfInBounds_toArray, List.set_cons_zero, List.set_cons_succ]; rfl)) | (refine lin_off rfl rfl (by kernel_rfl) (fun _ _ _ h => h) (by rfl) (a' := ?_) ?_ ?_; rotate_left 1; (simp only [List.getElem_toArray, List.getElem_cons_zero, List.getElem_cons_succ, Act.put, List.setIfInBounds_toArray, List.set_cons_zero, List.set_cons_succ]; rfl)))
  refine lin_done (by kernel_rfl) ?_
  obtain ⟨bp, bq, hz, B4⟩ := after_two hb4
  have bg := (B4.block g hlt).trans hg
  have D4 : Dr g w w4 := Dr.of_below B4 (Nat.le_of_lt hlt)
  clear c0 c1 c2 c3 c4 c5 hb4 B4 hg
  have hgq : g ≠ w.heap.size + 1 := by omega
  have hgp : g ≠ w.heap.size := by omega
  have c0 : w4.cell? ⟨g, 0, none⟩ = some (.int .i64 i0) := (blk_cell bg 0).trans rfl
  have c1 : w4.cell? ⟨g, 1, none⟩ = some (.int .i64 i1) := (blk_cell bg 1).trans rfl
  have c2 : w4.cell? ⟨g, 2, none⟩ = some (.int .i64 o0) := (blk_cell bg 2).trans rfl
  have c3 : w4.cell? ⟨g, 3, none⟩ = some (.int .i64 o1) := (blk_cell bg 3).trans rfl
  have c4 : w4.cell? ⟨g, 4, none⟩ = some (.string ⟨up.toArray⟩) := (blk_cell bg 4).trans rfl
  have c5 : w4.cell? ⟨g, 5, none⟩ = some (.string ⟨down.toArray⟩) := (blk_cell bg 5).trans rfl
  have p1 : w4.cell? ⟨w.heap.size, 1, none⟩ = some (.int .i64 o0) := (blk_cell bp 1).trans rfl
  have p2 : w4.cell? ⟨w.heap.size, 2, none⟩ = some (.int .i64 o1) := (blk_cell bp 2).trans rfl
  have p3 : w4.cell? ⟨w.heap.size, 3, none⟩ = some (.int .i64 d0) := (blk_cell bp 3).trans rfl
  have p4 : w4.cell? ⟨w.heap.size, 4, none⟩ = some (.int .i64 d1) := (blk_cell bp 4).trans rfl
  go_upto_region 4 with (fail)
  go_quiet (fail)
  obtain ⟨wa, hwn⟩ : ∃ x, w4.drewN nq = x := ⟨_, rfl⟩
  have bgn : wa.heap[g]? = some (.cells (cvCells ⟨⟨i0, i1⟩, ⟨o0, o1⟩, up, down, x, y, ug, dg⟩) 64 (0, 0)) := by rw [← hwn]; exact bg
  have bpn : wa.heap[w.heap.size]? = some (.cells #[.int .i64 kind, .int .i64 o0, .int .i64 o1, .int .i64 d0, .int .i64 d1, .int .i64 a, .string ⟨text.toArray⟩] 66 (0, 0)) := by rw [← hwn]; exact bp
  have bqn : wa.heap[w.heap.size + 1]? = some (.cells #[.int .i64 0, .int .i64 0, .int .i64 0, .int .i64 0, .int .i64 0, .int .i64 0, .string ⟨#[]⟩] 66 (0, 0)) := by rw [← hwn]; exact bq
  have hzn : w.heap.size + 2 ≤ wa.heap.size := by rw [← hwn]; exact hz
  have D4n : Dr g w wa := by rw [← hwn]; exact D4.drewN nq
  rw [hwn]
  clear hwn bg bp bq hz D4 c0 c1 c2 c3 c4 c5 p1 p2 p3 p4
  have bg := bgn
  have bp := bpn
  have bq := bqn
  have hz := hzn
  have D4 := D4n
  clear bgn bpn bqn hzn D4n
  have c0 : wa.cell? ⟨g, 0, none⟩ = some (.int .i64 i0) := (blk_cell bg 0).trans rfl
  have c1 : wa.cell? ⟨g, 1, none⟩ = some (.int .i64 i1) := (blk_cell bg 1).trans rfl
  have c2 : wa.cell? ⟨g, 2, none⟩ = some (.int .i64 o0) := (blk_cell bg 2).trans rfl
  have c3 : wa.cell? ⟨g, 3, none⟩ = some (.int .i64 o1) := (blk_cell bg 3).trans rfl
  have c4 : wa.cell? ⟨g, 4, none⟩ = some (.string ⟨up.toArray⟩) := (blk_cell bg 4).trans rfl
  have c5 : wa.cell? ⟨g, 5, none⟩ = some (.string ⟨down.toArray⟩) := (blk_cell bg 5).trans rfl
  have p1 : wa.cell? ⟨w.heap.size, 1, none⟩ = some (.int .i64 o0) := (blk_cell bp 1).trans rfl
  have p2 : wa.cell? ⟨w.heap.size, 2, none⟩ = some (.int .i64 o1) := (blk_cell bp 2).trans rfl
  have p3 : wa.cell? ⟨w.heap.size, 3, none⟩ = some (.int .i64 d0) := (blk_cell bp 3).trans rfl
  have p4 : wa.cell? ⟨w.heap.size, 4, none⟩ = some (.int .i64 d1) := (blk_cell bp 4).trans rfl
  go_upto_region 5 with (fail)
  go_quiet (fail)
  obtain ⟨wb, hwn⟩ : ∃ x, wa.drewN nq = x := ⟨_, rfl⟩
  have bgn : wb.heap[g]? = some (.cells (cvCells ⟨⟨i0, i1⟩, ⟨o0, o1⟩, up, down, x, y, ug, dg⟩) 64 (0, 0)) := by rw [← hwn]; exact bg
  have bpn : wb.heap[w.heap.size]? = some (.cells #[.int .i64 kind, .int .i64 o0, .int .i64 o1, .int .i64 d0, .int .i64 d1, .int .i64 a, .string ⟨text.toArray⟩] 66 (0, 0)) := by rw [← hwn]; exact bp
  have bqn : wb.heap[w.heap.size + 1]? = some (.cells #[.int .i64 0, .int .i64 0, .int .i64 0, .int .i64 0, .int .i64 0, .int .i64 0, .string ⟨#[]⟩] 66 (0, 0)) := by rw [← hwn]; exact bq
  have hzn : w.heap.size + 2 ≤ wb.heap.size := by rw [← hwn]; exact hz
  have D4n : Dr g w wb := by rw [← hwn]; exact D4.drewN nq
  rw [hwn]
  clear hwn bg bp bq hz D4 c0 c1 c2 c3 c4 c5 p1 p2 p3 p4
  have bg := bgn
  have bp := bpn
  have bq := bqn
  have hz := hzn
  have D4 := D4n
  clear bgn bpn bqn hzn D4n
  have q0 : wb.cell? ⟨(w.heap.size + 1), 0, none⟩ = some (.int .i64 0) := (blk_cell bq 0).trans rfl
  have q1 : wb.cell? ⟨(w.heap.size + 1), 1, none⟩ = some (.int .i64 0) := (blk_cell bq 1).trans rfl
  have q2 : wb.cell? ⟨(w.heap.size + 1), 2, none⟩ = some (.int .i64 0) := (blk_cell bq 2).trans rfl
  have q3 : wb.cell? ⟨(w.heap.size + 1), 3, none⟩ = some (.int .i64 0) := (blk_cell bq 3).trans rfl
  have q4 : wb.cell? ⟨(w.heap.size + 1), 4, none⟩ = some (.int .i64 0) := (blk_cell bq 4).trans rfl
  have q5 : wb.cell? ⟨(w.heap.size + 1), 5, none⟩ = some (.int .i64 0) := (blk_cell bq 5).trans rfl
  have q6 : wb.cell? ⟨(w.heap.size + 1), 6, none⟩ = some (.string ⟨#[]⟩) := (blk_cell bq 6).trans rfl
  have r0 := blk_frozen bq 0
  have r1 := blk_frozen bq 1
  have r2 := blk_frozen bq 2
  have r3 := blk_frozen bq 3
  have r4 := blk_frozen bq 4
  have r5 := blk_frozen bq 5
  have r6 := blk_frozen bq 6
  go_wp2
  refine bodyPost_ret (v := (.tuple #[(.agg #[.int .i64 0, .int .i64 0, .int .i64 0, .int .i64 0, .int .i64 0, .int .i64 0, .string ⟨#[]⟩]), .bool false])) (by simp [results, Tryz.results97, go_sem, zEn, *]) rfl ⟨rfl, (by with_reducible repeat (first | exact bg | refine set_far ?_ _ _ _ hgq)), (by with_reducible repeat (first | exact D4 | refine Dr.q ?_ hlt _ _ | apply Dr.set | apply Dr.drewN | apply Dr.drew))⟩
set_option maxRecDepth 100000 in
set_option maxHeartbeats 2000000 in
theorem hear_i3 (kind f0 f1 d0 d1 a : Int) (text : List UInt8) (i0 i1 o0 o1 x y : Int) (up down ug dg : List UInt8) (g : Nat) (w : World)
    (hg : w.heap[g]? = some (.cells (cvCells ⟨⟨i0, i1⟩, ⟨o0, o1⟩, up, down, x, y, ug, dg⟩) 64 (0, 0))) (hD : (f0 == 9 && inB f1 10 17) = true) (hM : (d0 == o0 && (d1 == o1)) = false) (hA : (f0 == o0 && (f1 == o1)) = false) :
    Calls Tryz.prog 97 #[.pointer (some ⟨g, 0, none⟩), .bool true, vPk ⟨kind, ⟨f0, f1⟩, ⟨d0, d1⟩, a, text⟩] w fun r w' => r = .returned (.tuple #[vPk zPk, .bool false]) ∧ w'.heap[g]? = some (.cells (cvCells ⟨⟨i0, i1⟩, ⟨o0, o1⟩, up, down, x, y, ug, dg⟩) 64 (0, 0)) ∧ Dr g w w' := by
  have hlt := blk_lt hg
  have c0 : w.cell? ⟨g, 0, none⟩ = some (.int .i64 i0) := (blk_cell hg 0).trans rfl
  have c1 : w.cell? ⟨g, 1, none⟩ = some (.int .i64 i1) := (blk_cell hg 1).trans rfl
  have c2 : w.cell? ⟨g, 2, none⟩ = some (.int .i64 o0) := (blk_cell hg 2).trans rfl
  have c3 : w.cell? ⟨g, 3, none⟩ = some (.int .i64 o1) := (blk_cell hg 3).trans rfl
  have c4 : w.cell? ⟨g, 4, none⟩ = some (.string ⟨up.toArray⟩) := (blk_cell hg 4).trans rfl
  have c5 : w.cell? ⟨g, 5, none⟩ = some (.string ⟨down.toArray⟩) := (blk_cell hg 5).trans rfl
  go_enter Tryz.func97, Tryz.ntmps97
  go_upto_region 1 with (fail)
  go_quiet (fail)
  go_upto_region 2 with (fail)
  refine lin_start (fun w' => w'.cell? ⟨w.heap.size, 1, none⟩ = some (.int .i64 f0) ∧ w'.cell? ⟨w.heap.size, 2, none⟩ = some (.int .i64 f1) ∧ w'.cell? ⟨w.heap.size, 3, none⟩ = some (.int .i64 d0) ∧ w'.cell? ⟨w.heap.size, 4, none⟩ = some (.int .i64 d1) ∧ w'.cell? ⟨g, 2, none⟩ = some (.int .i64 o0) ∧ w'.cell? ⟨g, 3, none⟩ = some (.int .i64 o1)) (true, [([], []), ([0], [0]), ([1], [1]), ([2, 2], [2]), ([3], [3]), ([4, 3], [3, 4]), ([3], [3]), ([6, 3], [3, 6]), ([7, 3], [3, 7]), ([8, 3], [3, 8]), ([5, 9, 3], [3, 5, 9]), ([3, 10], [3, 10]), ([11, 3, 0, 1, 2, 3, 4, 5, 6, 7, 8, 9, 10, 11], [11])]) [0, 1, 2, 3, 4, 5, 6, 7, 8, 9, 10, 11, 12] (by kernel_rfl) (by kernel_rfl) (by kernel_rfl) ⟨by go_simp, by go_simp, by go_simp, by go_simp, by go_simp, by go_simp⟩ ?_
  repeat (first | (refine lin_take rfl rfl (by kernel_rfl) (fun _ _ _ h => h) (by rfl) (v := ?_) (a' := ?_) ?_ ?_ ?_; rotate_left 2; (rintro w' ⟨s0, s1, s2, s3, s4, s5⟩; go_simp; with_reducible rfl); (simp only [List.getElem_toArray, List.getElem_cons_zero, List.getElem_cons_succ, Act.put, List.setIfInBounds_toArray, List.set_cons_zero, List.set_cons_succ]; rfl)) | (refine lin_off rfl rfl (by kernel_rfl) (fun _ _ _ h => h) (by rfl) (a' := ?_) ?_ ?_; rotate_left 1; (simp only [List.getElem_toArray, List.getElem_cons_zero, List.getElem_cons_succ, Act.put, List.setIfInBounds_toArray, List.set_cons_zero, List.set_cons_succ]; rfl)))
  refine lin_call rfl rfl rfl Tryz.func147 (by kernel_rfl) (by kernel_rfl) rfl (by rfl) (args := #[vEn ⟨f0, f1⟩]) (by (try simp only [List.map_toArray, List.map_cons, List.map_nil]); first | done | rfl) (fun hS => ?_)
  refine (impl_EndDoor ⟨f0, f1⟩ _).mono ?_
  rintro e w4 ⟨rfl, hb4⟩
  simp only [hD]
  refine ⟨_, rfl, ?_, ?_⟩
  · first | exact (hb4.cell (by first | exact (by simp; omega) | exact (by simp))).trans hS | (obtain ⟨s0, s1, s2, s3, s4, s5⟩ := hS; exact ⟨(hb4.cell (by first | exact (by simp; omega) | exact (by simp))).trans s0, (hb4.cell (by first | exact (by simp; omega) | exact (by simp))).trans s1, (hb4.cell (by first | exact (by simp; omega) | exact (by simp))).trans s2, (hb4.cell (by first | exact (by simp; omega) | exact (by simp))).trans s3, (hb4.cell (by first | exact (by simp; omega) | exact (by simp))).trans s4, (hb4.cell (by first | exact (by simp; omega) | exact (by simp))).trans s5⟩)
  refine lin_norm (a' := ?_) ?_ ?_; rotate_left 1; (simp only [List.getElem_toArray, List.getElem_cons_zero, List.getElem_cons_succ, Act.put, List.setIfInBounds_toArray, List.set_cons_zero, List.set_cons_succ]; rfl)
  repeat (first | (refine lin_take rfl rfl (by kernel_rfl) (fun _ _ _ h => h) (by rfl) (v := ?_) (a' := ?_) ?_ ?_ ?_; rotate_left 2; (rintro w' ⟨s0, s1, s2, s3, s4, s5⟩; go_simp; with_reducible rfl); (simp only [List.getElem_toArray, List.getElem_cons_zero, List.getElem_cons_succ, Act.put, List.setIfInBounds_toArray, List.set_cons_zero, List.set_cons_succ]; rfl)) | (refine lin_off rfl rfl (by kernel_rfl) (fun _ _ _ h => h) (by rfl) (a' := ?_) ?_ ?_; rotate_left 1; (simp only [List.getElem_toArray, List.getElem_cons_zero, List.getElem_cons_succ, Act.put, List.setIfInBounds_toArray, List.set_cons_zero, List.set_cons_succ]; rfl)))
  refine lin_done (by kernel_rfl) ?_
  obtain ⟨bp, bq, hz, B4⟩ := after_two hb4
  have bg := (B4.block g hlt).trans hg
  have D4 : Dr g w w4 := Dr.of_below B4 (Nat.le_of_lt hlt)
  clear c0 c1 c2 c3 c4 c5 hb4 B4 hg
  have hgq : g ≠ w.heap.size + 1 := by omega
  have hgp : g ≠ w.heap.size := by omega
  have c0 : w4.cell? ⟨g, 0, none⟩ = some (.int .i64 i0) := (blk_cell bg 0).trans rfl
  have c1 : w4.cell? ⟨g, 1, none⟩ = some (.int .i64 i1) := (blk_cell bg 1).trans rfl
  have c2 : w4.cell? ⟨g, 2, none⟩ = some (.int .i64 o0) := (blk_cell bg 2).trans rfl
  have c3 : w4.cell? ⟨g, 3, none⟩ = some (.int .i64 o1) := (blk_cell bg 3).trans rfl
  have c4 : w4.cell? ⟨g, 4, none⟩ = some (.string ⟨up.toArray⟩) := (blk_cell bg 4).trans rfl
  have c5 : w4.cell? ⟨g, 5, none⟩ = some (.string ⟨down.toArray⟩) := (blk_cell bg 5).trans rfl
  have p1 : w4.cell? ⟨w.heap.size, 1, none⟩ = some (.int .i64 f0) := (blk_cell bp 1).trans rfl
  have p2 : w4.cell? ⟨w.heap.size, 2, none⟩ = some (.int .i64 f1) := (blk_cell bp 2).trans rfl
  have p3 : w4.cell? ⟨w.heap.size, 3, none⟩ = some (.int .i64 d0) := (blk_cell bp 3).trans rfl
  have p4 : w4.cell? ⟨w.heap.size, 4, none⟩ = some (.int .i64 d1) := (blk_cell bp 4).trans rfl
  go_upto_region 4 with (fail)
  go_quiet (fail)
  obtain ⟨wa, hwn⟩ : ∃ x, w4.drewN nq = x := ⟨_, rfl⟩
  have bgn : wa.heap[g]? = some (.cells (cvCells ⟨⟨i0, i1⟩, ⟨o0, o1⟩, up, down, x, y, ug, dg⟩) 64 (0, 0)) := by rw [← hwn]; exact bg
  have bpn : wa.heap[w.heap.size]? = some (.cells #[.int .i64 kind, .int .i64 f0, .int .i64 f1, .int .i64 d0, .int .i64 d1, .int .i64 a, .string ⟨text.toArray⟩] 66 (0, 0)) := by rw [← hwn]; exact bp
  have bqn : wa.heap[w.heap.size + 1]? = some (.cells #[.int .i64 0, .int .i64 0, .int .i64 0, .int .i64 0, .int .i64 0, .int .i64 0, .string ⟨#[]⟩] 66 (0, 0)) := by rw [← hwn]; exact bq
  have hzn : w.heap.size + 2 ≤ wa.heap.size := by rw [← hwn]; exact hz
  have D4n : Dr g w wa := by rw [← hwn]; exact D4.drewN nq
  rw [hwn]
  clear hwn bg bp bq hz D4 c0 c1 c2 c3 c4 c5 p1 p2 p3 p4
  have bg := bgn
  have bp := bpn
  have bq := bqn
  have hz := hzn
  have D4 := D4n
  clear bgn bpn bqn hzn D4n
  have c0 : wa.cell? ⟨g, 0, none⟩ = some (.int .i64 i0) := (blk_cell bg 0).trans rfl
  have c1 : wa.cell? ⟨g, 1, none⟩ = some (.int .i64 i1) := (blk_cell bg 1).trans rfl
  have c2 : wa.cell? ⟨g, 2, none⟩ = some (.int .i64 o0) := (blk_cell bg 2).trans rfl
  have c3 : wa.cell? ⟨g, 3, none⟩ = some (.int .i64 o1) := (blk_cell bg 3).trans rfl
  have c4 : wa.cell? ⟨g, 4, none⟩ = some (.string ⟨up.toArray⟩) := (blk_cell bg 4).trans rfl
  have c5 : wa.cell? ⟨g, 5, none⟩ = some (.string ⟨down.toArray⟩) := (blk_cell bg 5).trans rfl
  have p1 : wa.cell? ⟨w.heap.size, 1, none⟩ = some (.int .i64 f0) := (blk_cell bp 1).trans rfl
  have p2 : wa.cell? ⟨w.heap.size, 2, none⟩ = some (.int .i64 f1) := (blk_cell bp 2).trans rfl
  have p3 : wa.cell? ⟨w.heap.size, 3, none⟩ = some (.int .i64 d0) := (blk_cell bp 3).trans rfl
  have p4 : wa.cell? ⟨w.heap.size, 4, none⟩ = some (.int .i64 d1) := (blk_cell bp 4).trans rfl
  go_upto_region 5 with (fail)
  go_quiet (fail)
  obtain ⟨wb, hwn⟩ : ∃ x, wa.drewN nq = x := ⟨_, rfl⟩
  have bgn : wb.heap[g]? = some (.cells (cvCells ⟨⟨i0, i1⟩, ⟨o0, o1⟩, up, down, x, y, ug, dg⟩) 64 (0, 0)) := by rw [← hwn]; exact bg
  have bpn : wb.heap[w.heap.size]? = some (.cells #[.int .i64 kind, .int .i64 f0, .int .i64 f1, .int .i64 d0, .int .i64 d1, .int .i64 a, .string ⟨text.toArray⟩] 66 (0, 0)) := by rw [← hwn]; exact bp
  have bqn : wb.heap[w.heap.size + 1]? = some (.cells #[.int .i64 0, .int .i64 0, .int .i64 0, .int .i64 0, .int .i64 0, .int .i64 0, .string ⟨#[]⟩] 66 (0, 0)) := by rw [← hwn]; exact bq
  have hzn : w.heap.size + 2 ≤ wb.heap.size := by rw [← hwn]; exact hz
  have D4n : Dr g w wb := by rw [← hwn]; exact D4.drewN nq
  rw [hwn]
  clear hwn bg bp bq hz D4 c0 c1 c2 c3 c4 c5 p1 p2 p3 p4
  have bg := bgn
  have bp := bpn
  have bq := bqn
  have hz := hzn
  have D4 := D4n
  clear bgn bpn bqn hzn D4n
  have q0 : wb.cell? ⟨(w.heap.size + 1), 0, none⟩ = some (.int .i64 0) := (blk_cell bq 0).trans rfl
  have q1 : wb.cell? ⟨(w.heap.size + 1), 1, none⟩ = some (.int .i64 0) := (blk_cell bq 1).trans rfl
  have q2 : wb.cell? ⟨(w.heap.size + 1), 2, none⟩ = some (.int .i64 0) := (blk_cell bq 2).trans rfl
  have q3 : wb.cell? ⟨(w.heap.size + 1), 3, none⟩ = some (.int .i64 0) := (blk_cell bq 3).trans rfl
  have q4 : wb.cell? ⟨(w.heap.size + 1), 4, none⟩ = some (.int .i64 0) := (blk_cell bq 4).trans rfl
  have q5 : wb.cell? ⟨(w.heap.size + 1), 5, none⟩ = some (.int .i64 0) := (blk_cell bq 5).trans rfl
  have q6 : wb.cell? ⟨(w.heap.size + 1), 6, none⟩ = some (.string ⟨#[]⟩) := (blk_cell bq 6).trans rfl
  have r0 := blk_frozen bq 0
  have r1 := blk_frozen bq 1
  have r2 := blk_frozen bq 2
  have r3 := blk_frozen bq 3
  have r4 := blk_frozen bq 4
  have r5 := blk_frozen bq 5
  have r6 := blk_frozen bq 6
  go_wp2
  refine bodyPost_ret (v := (.tuple #[(.agg #[.int .i64 0, .int .i64 0, .int .i64 0, .int .i64 0, .int .i64 0, .int .i64 0, .string ⟨#[]⟩]), .bool false])) (by simp [results, Tryz.results97, go_sem, zEn, *]) rfl ⟨rfl, (by with_reducible repeat (first | exact bg | refine set_far ?_ _ _ _ hgq)), (by with_reducible repeat (first | exact D4 | refine Dr.q ?_ hlt _ _ | apply Dr.set | apply Dr.drewN | apply Dr.drew))⟩
set_option maxRecDepth 100000 in
set_option maxHeartbeats 2000000 in
theorem hear_i5 (kind f0 f1 a : Int) (text : List UInt8) (i0 i1 o0 o1 x y : Int) (up down ug dg : List UInt8) (g : Nat) (w : World)
    (hg : w.heap[g]? = some (.cells (cvCells ⟨⟨i0, i1⟩, ⟨o0, o1⟩, up, down, x, y, ug, dg⟩) 64 (0, 0))) (hD : (f0 == 9 && inB f1 10 17) = true) (hA : (f0 == o0 && (f1 == o1)) = false) :
    Calls Tryz.prog 97 #[.pointer (some ⟨g, 0, none⟩), .bool true, vPk ⟨kind, ⟨f0, f1⟩, ⟨o0, o1⟩, a, text⟩] w fun r w' => r = .returned (.tuple #[vPk zPk, .bool false]) ∧ w'.heap[g]? = some (.cells (cvCells ⟨⟨i0, i1⟩, ⟨o0, o1⟩, up, down, x, y, ug, dg⟩) 64 (0, 0)) ∧ Dr g w w' := by
  have hM : (o0 == o0 && (o1 == o1)) = true := by simp
  have hlt := blk_lt hg
  have c0 : w.cell? ⟨g, 0, none⟩ = some (.int .i64 i0) := (blk_cell hg 0).trans rfl
  have c1 : w.cell? ⟨g, 1, none⟩ = some (.int .i64 i1) := (blk_cell hg 1).trans rfl
  have c2 : w.cell? ⟨g, 2, none⟩ = some (.int .i64 o0) := (blk_cell hg 2).trans rfl
  have c3 : w.cell? ⟨g, 3, none⟩ = some (.int .i64 o1) := (blk_cell hg 3).trans rfl
  have c4 : w.cell? ⟨g, 4, none⟩ = some (.string ⟨up.toArray⟩) := (blk_cell hg 4).trans rfl
  have c5 : w.cell? ⟨g, 5, none⟩ = some (.string ⟨down.toArray⟩) := (blk_cell hg 5).trans rfl
  go_enter Tryz.func97, Tryz.ntmps97
  go_upto_region 1 with (fail)
  go_quiet (fail)
  go_upto_region 2 with (fail)
  refine lin_start (fun w' => w'.cell? ⟨w.heap.size, 1, none⟩ = some (.int .i64 f0) ∧ w'.cell? ⟨w.heap.size, 2, none⟩ = some (.int .i64 f1) ∧ w'.cell? ⟨w.heap.size, 3, none⟩ = some (.int .i64 o0) ∧ w'.cell? ⟨w.heap.size, 4, none⟩ = some (.int .i64 o1) ∧ w'.cell? ⟨g, 2, none⟩ = some (.int .i64 o0) ∧ w'.cell? ⟨g, 3, none⟩ = some (.int .i64 o1)) (true, [([], []), ([0], [0]), ([1], [1]), ([2, 2], [2]), ([3], [3]), ([4, 3], [3, 4]), ([3], [3]), ([6, 3], [3, 6]), ([7, 3], [3, 7]), ([8, 3], [3, 8]), ([5, 9, 3], [3, 5, 9]), ([3, 10], [3, 10]), ([11, 3, 0, 1, 2, 3, 4, 5, 6, 7, 8, 9, 10, 11], [11])]) [0, 1, 2, 3, 4, 5, 6, 7, 8, 9, 10, 11, 12] (by kernel_rfl) (by kernel_rfl) (by kernel_rfl) ⟨by go_simp, by go_simp, by go_simp, by go_simp, by go_simp, by go_simp⟩ ?_
  repeat (first | (refine lin_take rfl rfl (by kernel_rfl) (fun _ _ _ h => h) (by rfl) (v := ?_) (a' := ?_) ?_ ?_ ?_; rotate_left 2; (rintro w' ⟨s0, s1, s2, s3, s4, s5⟩; go_simp; with_reducible rfl); (simp only [List.getElem_toArray, List.getElem_cons_zero, List.getElem_cons_succ, Act.put, List.setIfInBounds_toArray, List.set_cons_zero, List.set_cons_succ]; rfl)) | (refine lin_off rfl rfl (by kernel_rfl) (fun _ _ _ h => h) (by rfl) (a' := ?_) ?_ ?_; rotate_left 1; (simp only [List.getElem_toArray, List.getElem_cons_zero, List.getElem_cons_succ, Act.put, List.setIfInBounds_toArray, List.set_cons_zero, List.set_cons_succ]; rfl)))
  refine lin_call rfl rfl rfl Tryz.func147 (by kernel_rfl) (by kernel_rfl) rfl (by rfl) (args := #[vEn ⟨f0, f1⟩]) (by (try simp only [List.map_toArray, List.map_cons, List.map_nil]); first | done | rfl) (fun hS => ?_)
  refine (impl_EndDoor ⟨f0, f1⟩ _).mono ?_
  rintro e w4 ⟨rfl, hb4⟩
  simp only [hD]
  refine ⟨_, rfl, ?_, ?_⟩
  · first | exact (hb4.cell (by first | exact (by simp; omega) | exact (by simp))).trans hS | (obtain ⟨s0, s1, s2, s3, s4, s5⟩ := hS; exact ⟨(hb4.cell (by first | exact (by simp; omega) | exact (by simp))).trans s0, (hb4.cell (by first | exact (by simp; omega) | exact (by simp))).trans s1, (hb4.cell (by first | exact (by simp; omega) | exact (by simp))).trans s2, (hb4.cell (by first | exact (by simp; omega) | exact (by simp))).trans s3, (hb4.cell (by first | exact (by simp; omega) | exact (by simp))).trans s4, (hb4.cell (by first | exact (by simp; omega) | exact (by simp))).trans s5⟩)
  refine lin_norm (a' := ?_) ?_ ?_; rotate_left 1; (simp only [List.getElem_toArray, List.getElem_cons_zero, List.getElem_cons_succ, Act.put, List.setIfInBounds_toArray, List.set_cons_zero, List.set_cons_succ]; rfl)
  repeat (first | (refine lin_take rfl rfl (by kernel_rfl) (fun _ _ _ h => h) (by rfl) (v := ?_) (a' := ?_) ?_ ?_ ?_; rotate_left 2; (rintro w' ⟨s0, s1, s2, s3, s4, s5⟩; go_simp; with_reducible rfl); (simp only [List.getElem_toArray, List.getElem_cons_zero, List.getElem_cons_succ, Act.put, List.setIfInBounds_toArray, List.set_cons_zero, List.set_cons_succ]; rfl)) | (refine lin_off rfl rfl (by kernel_rfl) (fun _ _ _ h => h) (by rfl) (a' := ?_) ?_ ?_; rotate_left 1; (simp only [List.getElem_toArray, List.getElem_cons_zero, List.getElem_cons_succ, Act.put, List.setIfInBounds_toArray, List.set_cons_zero, List.set_cons_succ]; rfl)))
  refine lin_done (by kernel_rfl) ?_
  obtain ⟨bp, bq, hz, B4⟩ := after_two hb4
  have bg := (B4.block g hlt).trans hg
  have D4 : Dr g w w4 := Dr.of_below B4 (Nat.le_of_lt hlt)
  clear c0 c1 c2 c3 c4 c5 hb4 B4 hg
  have hgq : g ≠ w.heap.size + 1 := by omega
  have hgp : g ≠ w.heap.size := by omega
  have c0 : w4.cell? ⟨g, 0, none⟩ = some (.int .i64 i0) := (blk_cell bg 0).trans rfl
  have c1 : w4.cell? ⟨g, 1, none⟩ = some (.int .i64 i1) := (blk_cell bg 1).trans rfl
  have c2 : w4.cell? ⟨g, 2, none⟩ = some (.int .i64 o0) := (blk_cell bg 2).trans rfl
  have c3 : w4.cell? ⟨g, 3, none⟩ = some (.int .i64 o1) := (blk_cell bg 3).trans rfl
  have c4 : w4.cell? ⟨g, 4, none⟩ = some (.string ⟨up.toArray⟩) := (blk_cell bg 4).trans rfl
  have c5 : w4.cell? ⟨g, 5, none⟩ = some (.string ⟨down.toArray⟩) := (blk_cell bg 5).trans rfl
  have p1 : w4.cell? ⟨w.heap.size, 1, none⟩ = some (.int .i64 f0) := (blk_cell bp 1).trans rfl
  have p2 : w4.cell? ⟨w.heap.size, 2, none⟩ = some (.int .i64 f1) := (blk_cell bp 2).trans rfl
  have p3 : w4.cell? ⟨w.heap.size, 3, none⟩ = some (.int .i64 o0) := (blk_cell bp 3).trans rfl
  have p4 : w4.cell? ⟨w.heap.size, 4, none⟩ = some (.int .i64 o1) := (blk_cell bp 4).trans rfl
  go_upto_region 4 with (fail)
  go_quiet (fail)
  obtain ⟨wa, hwn⟩ : ∃ x, w4.drewN nq = x := ⟨_, rfl⟩
  have bgn : wa.heap[g]? = some (.cells (cvCells ⟨⟨i0, i1⟩, ⟨o0, o1⟩, up, down, x, y, ug, dg⟩) 64 (0, 0)) := by rw [← hwn]; exact bg
  have bpn : wa.heap[w.heap.size]? = some (.cells #[.int .i64 kind, .int .i64 f0, .int .i64 f1, .int .i64 o0, .int .i64 o1, .int .i64 a, .string ⟨text.toArray⟩] 66 (0, 0)) := by rw [← hwn]; exact bp
  have bqn : wa.heap[w.heap.size + 1]? = some (.cells #[.int .i64 0, .int .i64 0, .int .i64 0, .int .i64 0, .int .i64 0, .int .i64 0, .string ⟨#[]⟩] 66 (0, 0)) := by rw [← hwn]; exact bq
  have hzn : w.heap.size + 2 ≤ wa.heap.size := by rw [← hwn]; exact hz
  have D4n : Dr g w wa := by rw [← hwn]; exact D4.drewN nq
  rw [hwn]
  clear hwn bg bp bq hz D4 c0 c1 c2 c3 c4 c5 p1 p2 p3 p4
  have bg := bgn
  have bp := bpn
  have bq := bqn
  have hz := hzn
  have D4 := D4n
  clear bgn bpn bqn hzn D4n
  have c0 : wa.cell? ⟨g, 0, none⟩ = some (.int .i64 i0) := (blk_cell bg 0).trans rfl
  have c1 : wa.cell? ⟨g, 1, none⟩ = some (.int .i64 i1) := (blk_cell bg 1).trans rfl
  have c2 : wa.cell? ⟨g, 2, none⟩ = some (.int .i64 o0) := (blk_cell bg 2).trans rfl
  have c3 : wa.cell? ⟨g, 3, none⟩ = some (.int .i64 o1) := (blk_cell bg 3).trans rfl
  have c4 : wa.cell? ⟨g, 4, none⟩ = some (.string ⟨up.toArray⟩) := (blk_cell bg 4).trans rfl
  have c5 : wa.cell? ⟨g, 5, none⟩ = some (.string ⟨down.toArray⟩) := (blk_cell bg 5).trans rfl
  have p1 : wa.cell? ⟨w.heap.size, 1, none⟩ = some (.int .i64 f0) := (blk_cell bp 1).trans rfl
  have p2 : wa.cell? ⟨w.heap.size, 2, none⟩ = some (.int .i64 f1) := (blk_cell bp 2).trans rfl
  have p3 : wa.cell? ⟨w.heap.size, 3, none⟩ = some (.int .i64 o0) := (blk_cell bp 3).trans rfl
  have p4 : wa.cell? ⟨w.heap.size, 4, none⟩ = some (.int .i64 o1) := (blk_cell bp 4).trans rfl
  go_upto_region 5 with (fail)
  go_quiet (fail)
  obtain ⟨wb, hwn⟩ : ∃ x, wa.drewN nq = x := ⟨_, rfl⟩
  have bgn : wb.heap[g]? = some (.cells (cvCells ⟨⟨i0, i1⟩, ⟨o0, o1⟩, up, down, x, y, ug, dg⟩) 64 (0, 0)) := by rw [← hwn]; exact bg
  have bpn : wb.heap[w.heap.size]? = some (.cells #[.int .i64 kind, .int .i64 f0, .int .i64 f1, .int .i64 o0, .int .i64 o1, .int .i64 a, .string ⟨text.toArray⟩] 66 (0, 0)) := by rw [← hwn]; exact bp
  have bqn : wb.heap[w.heap.size + 1]? = some (.cells #[.int .i64 0, .int .i64 0, .int .i64 0, .int .i64 0, .int .i64 0, .int .i64 0, .string ⟨#[]⟩] 66 (0, 0)) := by rw [← hwn]; exact bq
  have hzn : w.heap.size + 2 ≤ wb.heap.size := by rw [← hwn]; exact hz
  have D4n : Dr g w wb := by rw [← hwn]; exact D4.drewN nq
  rw [hwn]
  clear hwn bg bp bq hz D4 c0 c1 c2 c3 c4 c5 p1 p2 p3 p4
  have bg := bgn
  have bp := bpn
  have bq := bqn
  have hz := hzn
  have D4 := D4n
  clear bgn bpn bqn hzn D4n
  have q0 : wb.cell? ⟨(w.heap.size + 1), 0, none⟩ = some (.int .i64 0) := (blk_cell bq 0).trans rfl
  have q1 : wb.cell? ⟨(w.heap.size + 1), 1, none⟩ = some (.int .i64 0) := (blk_cell bq 1).trans rfl
  have q2 : wb.cell? ⟨(w.heap.size + 1), 2, none⟩ = some (.int .i64 0) := (blk_cell bq 2).trans rfl
  have q3 : wb.cell? ⟨(w.heap.size + 1), 3, none⟩ = some (.int .i64 0) := (blk_cell bq 3).trans rfl
  have q4 : wb.cell? ⟨(w.heap.size + 1), 4, none⟩ = some (.int .i64 0) := (blk_cell bq 4).trans rfl
  have q5 : wb.cell? ⟨(w.heap.size + 1), 5, none⟩ = some (.int .i64 0) := (blk_cell bq 5).trans rfl
  have q6 : wb.cell? ⟨(w.heap.size + 1), 6, none⟩ = some (.string ⟨#[]⟩) := (blk_cell bq 6).trans rfl
  have r0 := blk_frozen bq 0
  have r1 := blk_frozen bq 1
  have r2 := blk_frozen bq 2
  have r3 := blk_frozen bq 3
  have r4 := blk_frozen bq 4
  have r5 := blk_frozen bq 5
  have r6 := blk_frozen bq 6
  go_wp2
  refine bodyPost_ret (v := (.tuple #[(.agg #[.int .i64 0, .int .i64 0, .int .i64 0, .int .i64 0, .int .i64 0, .int .i64 0, .string ⟨#[]⟩]), .bool false])) (by simp [results, Tryz.results97, go_sem, zEn, *]) rfl ⟨rfl, (by with_reducible repeat (first | exact bg | refine set_far ?_ _ _ _ hgq)), (by with_reducible repeat (first | exact D4 | refine Dr.q ?_ hlt _ _ | apply Dr.set | apply Dr.drewN | apply Dr.drew))⟩
set_option maxRecDepth 100000 in
set_option maxHeartbeats 2000000 in
theorem hear_i7 (a : Int) (text : List UInt8) (i0 i1 o0 o1 x y : Int) (up down ug dg : List UInt8) (g : Nat) (w : World)
    (hg : w.heap[g]? = some (.cells (cvCells ⟨⟨i0, i1⟩, ⟨o0, o1⟩, up, down, x, y, ug, dg⟩) 64 (0, 0))) (hD : (o0 == 9 && inB o1 10 17) = false)  :
    Calls Tryz.prog 97 #[.pointer (some ⟨g, 0, none⟩), .bool true, vPk ⟨2, ⟨o0, o1⟩, ⟨i0, i1⟩, a, text⟩] w fun r w' => r = .returned (.tuple #[vPk zPk, .bool false]) ∧ w'.heap[g]? = some (.cells (cvCells ⟨⟨i0, i1⟩, ⟨o0, o1⟩, up, down, max x (min a (up.length : Int)), y, ug, dg⟩) 64 (0, 0)) ∧ Dr g w w' := by
  have hA : (o0 == o0 && (o1 == o1)) = true := by simp
  have hA2 : (i0 == i0 && (i1 == i1)) = true := by simp
  have hlt := blk_lt hg
  have c0 : w.cell? ⟨g, 0, none⟩ = some (.int .i64 i0) := (blk_cell hg 0).trans rfl
  have c1 : w.cell? ⟨g, 1, none⟩ = some (.int .i64 i1) := (blk_cell hg 1).trans rfl
  have c2 : w.cell? ⟨g, 2, none⟩ = some (.int .i64 o0) := (blk_cell hg 2).trans rfl
  have c3 : w.cell? ⟨g, 3, none⟩ = some (.int .i64 o1) := (blk_cell hg 3).trans rfl
  have c4 : w.cell? ⟨g, 4, none⟩ = some (.string ⟨up.toArray⟩) := (blk_cell hg 4).trans rfl
  have c5 : w.cell? ⟨g, 5, none⟩ = some (.string ⟨down.toArray⟩) := (blk_cell hg 5).trans rfl
  go_enter Tryz.func97, Tryz.ntmps97
  go_upto_region 1 with (fail)
  go_quiet (fail)
  go_upto_region 2 with (fail)
  refine lin_start (fun w' => w'.cell? ⟨w.heap.size, 1, none⟩ = some (.int .i64 o0) ∧ w'.cell? ⟨w.heap.size, 2, none⟩ = some (.int .i64 o1) ∧ w'.cell? ⟨w.heap.size, 3, none⟩ = some (.int .i64 i0) ∧ w'.cell? ⟨w.heap.size, 4, none⟩ = some (.int .i64 i1) ∧ w'.cell? ⟨g, 2, none⟩ = some (.int .i64 o0) ∧ w'.cell? ⟨g, 3, none⟩ = some (.int .i64 o1)) (true, [([], []), ([0], [0]), ([1], [1]), ([2, 2], [2]), ([3], [3]), ([4, 3], [3, 4]), ([3], [3]), ([6, 3], [3, 6]), ([7, 3], [3, 7]), ([8, 3], [3, 8]), ([5, 9, 3], [3, 5, 9]), ([3, 10], [3, 10]), ([11, 3, 0, 1, 2, 3, 4, 5, 6, 7, 8, 9, 10, 11], [11])]) [0, 1, 2, 3, 4, 5, 6, 7, 8, 9, 10, 11, 12] (by kernel_rfl) (by kernel_rfl) (by kernel_rfl) ⟨by go_simp, by go_simp, by go_simp, by go_simp, by go_simp, by go_simp⟩ ?_
  repeat (first | (refine lin_take rfl rfl (by kernel_rfl) (fun _ _ _ h => h) (by rfl) (v := ?_) (a' := ?_) ?_ ?_ ?_; rotate_left 2; (rintro w' ⟨s0, s1, s2, s3, s4, s5⟩; go_simp; with_reducible rfl); (simp only [List.getElem_toArray, List.getElem_cons_zero, List.getElem_cons_succ, Act.put, List.setIfInBounds_toArray, List.set_cons_zero, List.set_cons_succ]; rfl)) | (refine lin_off rfl rfl (by kernel_rfl) (fun _ _ _ h => h) (by rfl) (a' := ?_) ?_ ?_; rotate_left 1; (simp only [List.getElem_toArray, List.getElem_cons_zero, List.getElem_cons_succ, Act.put, List.setIfInBounds_toArray, List.set_cons_zero, List.set_cons_succ]; rfl)))
  refine lin_call rfl rfl rfl Tryz.func147 (by kernel_rfl) (by kernel_rfl) rfl (by rfl) (args := #[vEn ⟨o0, o1⟩]) (by (try simp only [List.map_toArray, List.map_cons, List.map_nil]); first | done | rfl) (fun hS => ?_)
  refine (impl_EndDoor ⟨o0, o1⟩ _).mono ?_
  rintro e w4 ⟨rfl, hb4⟩
  simp only [hD]
  refine ⟨_, rfl, ?_, ?_⟩
  · first | exact (hb4.cell (by first | exact (by simp; omega) | exact (by simp))).trans hS | (obtain ⟨s0, s1, s2, s3, s4, s5⟩ := hS; exact ⟨(hb4.cell (by first | exact (by simp; omega) | exact (by simp))).trans s0, (hb4.cell (by first | exact (by simp; omega) | exact (by simp))).trans s1, (hb4.cell (by first | exact (by simp; omega) | exact (by simp))).trans s2, (hb4.cell (by first | exact (by simp; omega) | exact (by simp))).trans s3, (hb4.cell (by first | exact (by simp; omega) | exact (by simp))).trans s4, (hb4.cell (by first | exact (by simp; omega) | exact (by simp))).trans s5⟩)
  refine lin_norm (a' := ?_) ?_ ?_; rotate_left 1; (simp only [List.getElem_toArray, List.getElem_cons_zero, List.getElem_cons_succ, Act.put, List.setIfInBounds_toArray, List.set_cons_zero, List.set_cons_succ]; rfl)
  repeat (first | (refine lin_take rfl rfl (by kernel_rfl) (fun _ _ _ h => h) (by rfl) (v := ?_) (a' := ?_) ?_ ?_ ?_; rotate_left 2; (rintro w' ⟨s0, s1, s2, s3, s4, s5⟩; go_simp; with_reducible rfl); (simp only [List.getElem_toArray, List.getElem_cons_zero, List.getElem_cons_succ, Act.put, List.setIfInBounds_toArray, List.set_cons_zero, List.set_cons_succ]; rfl)) | (refine lin_off rfl rfl (by kernel_rfl) (fun _ _ _ h => h) (by rfl) (a' := ?_) ?_ ?_; rotate_left 1; (simp only [List.getElem_toArray, List.getElem_cons_zero, List.getElem_cons_succ, Act.put, List.setIfInBounds_toArray, List.set_cons_zero, List.set_cons_succ]; rfl)))
  refine lin_done (by kernel_rfl) ?_
  obtain ⟨bp, bq, hz, B4⟩ := after_two hb4
  have bg := (B4.block g hlt).trans hg
  have D4 : Dr g w w4 := Dr.of_below B4 (Nat.le_of_lt hlt)
  clear c0 c1 c2 c3 c4 c5 hb4 B4 hg
  have hgq : g ≠ w.heap.size + 1 := by omega
  have hgp : g ≠ w.heap.size := by omega
  have c0 : w4.cell? ⟨g, 0, none⟩ = some (.int .i64 i0) := (blk_cell bg 0).trans rfl
  have c1 : w4.cell? ⟨g, 1, none⟩ = some (.int .i64 i1) := (blk_cell bg 1).trans rfl
  have c2 : w4.cell? ⟨g, 2, none⟩ = some (.int .i64 o0) := (blk_cell bg 2).trans rfl
  have c3 : w4.cell? ⟨g, 3, none⟩ = some (.int .i64 o1) := (blk_cell bg 3).trans rfl
  have c4 : w4.cell? ⟨g, 4, none⟩ = some (.string ⟨up.toArray⟩) := (blk_cell bg 4).trans rfl
  have c5 : w4.cell? ⟨g, 5, none⟩ = some (.string ⟨down.toArray⟩) := (blk_cell bg 5).trans rfl
  have p1 : w4.cell? ⟨w.heap.size, 1, none⟩ = some (.int .i64 o0) := (blk_cell bp 1).trans rfl
  have p2 : w4.cell? ⟨w.heap.size, 2, none⟩ = some (.int .i64 o1) := (blk_cell bp 2).trans rfl
  have p3 : w4.cell? ⟨w.heap.size, 3, none⟩ = some (.int .i64 i0) := (blk_cell bp 3).trans rfl
  have p4 : w4.cell? ⟨w.heap.size, 4, none⟩ = some (.int .i64 i1) := (blk_cell bp 4).trans rfl
  go_upto_region 4 with (fail)
  go_quiet (fail)
  obtain ⟨wa, hwn⟩ : ∃ x, w4.drewN nq = x := ⟨_, rfl⟩
  have bgn : wa.heap[g]? = some (.cells (cvCells ⟨⟨i0, i1⟩, ⟨o0, o1⟩, up, down, x, y, ug, dg⟩) 64 (0, 0)) := by rw [← hwn]; exact bg
  have bpn : wa.heap[w.heap.size]? = some (.cells #[.int .i64 2, .int .i64 o0, .int .i64 o1, .int .i64 i0, .int .i64 i1, .int .i64 a, .string ⟨text.toArray⟩] 66 (0, 0)) := by rw [← hwn]; exact bp
  have bqn : wa.heap[w.heap.size + 1]? = some (.cells #[.int .i64 0, .int .i64 0, .int .i64 0, .int .i64 0, .int .i64 0, .int .i64 0, .string ⟨#[]⟩] 66 (0, 0)) := by rw [← hwn]; exact bq
  have hzn : w.heap.size + 2 ≤ wa.heap.size := by rw [← hwn]; exact hz
  have D4n : Dr g w wa := by rw [← hwn]; exact D4.drewN nq
  rw [hwn]
  clear hwn bg bp bq hz D4 c0 c1 c2 c3 c4 c5 p1 p2 p3 p4
  have bg := bgn
  have bp := bpn
  have bq := bqn
  have hz := hzn
  have D4 := D4n
  clear bgn bpn bqn hzn D4n
  have c0 : wa.cell? ⟨g, 0, none⟩ = some (.int .i64 i0) := (blk_cell bg 0).trans rfl
  have c1 : wa.cell? ⟨g, 1, none⟩ = some (.int .i64 i1) := (blk_cell bg 1).trans rfl
  have c2 : wa.cell? ⟨g, 2, none⟩ = some (.int .i64 o0) := (blk_cell bg 2).trans rfl
  have c3 : wa.cell? ⟨g, 3, none⟩ = some (.int .i64 o1) := (blk_cell bg 3).trans rfl
  have c4 : wa.cell? ⟨g, 4, none⟩ = some (.string ⟨up.toArray⟩) := (blk_cell bg 4).trans rfl
  have c5 : wa.cell? ⟨g, 5, none⟩ = some (.string ⟨down.toArray⟩) := (blk_cell bg 5).trans rfl
  have p1 : wa.cell? ⟨w.heap.size, 1, none⟩ = some (.int .i64 o0) := (blk_cell bp 1).trans rfl
  have p2 : wa.cell? ⟨w.heap.size, 2, none⟩ = some (.int .i64 o1) := (blk_cell bp 2).trans rfl
  have p3 : wa.cell? ⟨w.heap.size, 3, none⟩ = some (.int .i64 i0) := (blk_cell bp 3).trans rfl
  have p4 : wa.cell? ⟨w.heap.size, 4, none⟩ = some (.int .i64 i1) := (blk_cell bp 4).trans rfl
  go_upto_region 5 with (fail)
  go_quiet (fail)
  obtain ⟨wb, hwn⟩ : ∃ x, wa.drewN nq = x := ⟨_, rfl⟩
  have bgn : wb.heap[g]? = some (.cells (cvCells ⟨⟨i0, i1⟩, ⟨o0, o1⟩, up, down, x, y, ug, dg⟩) 64 (0, 0)) := by rw [← hwn]; exact bg
  have bpn : wb.heap[w.heap.size]? = some (.cells #[.int .i64 2, .int .i64 o0, .int .i64 o1, .int .i64 i0, .int .i64 i1, .int .i64 a, .string ⟨text.toArray⟩] 66 (0, 0)) := by rw [← hwn]; exact bp
  have bqn : wb.heap[w.heap.size + 1]? = some (.cells #[.int .i64 0, .int .i64 0, .int .i64 0, .int .i64 0, .int .i64 0, .int .i64 0, .string ⟨#[]⟩] 66 (0, 0)) := by rw [← hwn]; exact bq
  have hzn : w.heap.size + 2 ≤ wb.heap.size := by rw [← hwn]; exact hz
  have D4n : Dr g w wb := by rw [← hwn]; exact D4.drewN nq
  rw [hwn]
  clear hwn bg bp bq hz D4 c0 c1 c2 c3 c4 c5 p1 p2 p3 p4
  have bg := bgn
  have bp := bpn
  have bq := bqn
  have hz := hzn
  have D4 := D4n
  clear bgn bpn bqn hzn D4n
  have c4 : wb.cell? ⟨g, 4, none⟩ = some (.string ⟨up.toArray⟩) := (blk_cell bg 4).trans rfl
  have c6 : wb.cell? ⟨g, 6, none⟩ = some (.int .i64 x) := (blk_cell bg 6).trans rfl
  have p0 : wb.cell? ⟨w.heap.size, 0, none⟩ = some (.int .i64 2) := (blk_cell bp 0).trans rfl
  have p5 : wb.cell? ⟨w.heap.size, 5, none⟩ = some (.int .i64 a) := (blk_cell bp 5).trans rfl
  go_upto_region 9 with (fail)
  refine lind_start (fun w' => w'.cell? ⟨w.heap.size, 5, none⟩ = some (.int .i64 a) ∧ w'.cell? ⟨g, 6, none⟩ = some (.int .i64 x)) [10] (true, [([], []), ([], []), ([1], [1]), ([2], [2]), ([], []), ([4], [4]), ([], []), ([5, 6], [5, 6]), ([3, 7], [3, 7]), ([0, 0, 1, 2, 3, 4, 5, 6, 7, 8], [0]), ([9, 8, 0, 1, 2, 3, 4, 5, 6, 7, 8], [8, 9])]) [0, 1, 2, 3, 4, 5, 6, 7, 8, 9, 10] (by kernel_rfl) (by kernel_rfl) (by kernel_rfl) ⟨by go_simp, by go_simp⟩ ?_
  repeat (first | (refine lind_take rfl rfl (by kernel_rfl) (fun _ _ _ h => h) (by rfl) (v := ?_) (a' := ?_) ?_ ?_ ?_; rotate_left 2; (rintro w' ⟨s0, s1⟩; go_simp; with_reducible rfl); (simp only [List.getElem_toArray, List.getElem_cons_zero, List.getElem_cons_succ, Act.put, List.setIfInBounds_toArray, List.set_cons_zero, List.set_cons_succ]; rfl)) | (refine lind_off rfl rfl (by kernel_rfl) (fun _ _ _ h => h) (by rfl) (a' := ?_) ?_ ?_; rotate_left 1; (simp only [List.getElem_toArray, List.getElem_cons_zero, List.getElem_cons_succ, Act.put, List.setIfInBounds_toArray, List.set_cons_zero, List.set_cons_succ]; rfl)))
  have z7 := blk_frozen bg 6
  refine lind_last (w1 := (wb.setCell ⟨g, 6, none⟩ (.int .i64 (max x (min a (up.length : Int))))).drew) rfl rfl (by kernel_rfl) (by kernel_rfl) (by rfl) (fun hS => ?run) (by kernel_rfl) ?rest
  case run =>
    obtain ⟨s0, s1⟩ := hS
    first | (go_simp; done) | (go_simp; rfl)
  have bg5 : ((wb.setCell ⟨g, 6, none⟩ (.int .i64 (max x (min a (up.length : Int))))).drew).heap[g]? = some (.cells (cvCells ⟨⟨i0, i1⟩, ⟨o0, o1⟩, up, down, max x (min a (up.length : Int)), y, ug, dg⟩) 64 (0, 0)) := (blk_set bg 6 (.int .i64 (max x (min a (up.length : Int))))).trans rfl
  have bq5 : ((wb.setCell ⟨g, 6, none⟩ (.int .i64 (max x (min a (up.length : Int))))).drew).heap[w.heap.size + 1]? = some (.cells #[.int .i64 0, .int .i64 0, .int .i64 0, .int .i64 0, .int .i64 0, .int .i64 0, .string ⟨#[]⟩] 66 (0, 0)) := set_far bq g 6 (.int .i64 (max x (min a (up.length : Int)))) (Ne.symm hgq)
  have D5 : Dr g w ((wb.setCell ⟨g, 6, none⟩ (.int .i64 (max x (min a (up.length : Int))))).drew) := (D4.set 6 (.int .i64 (max x (min a (up.length : Int))))).drew
  obtain ⟨w5, hw5⟩ : ∃ w5, (wb.setCell ⟨g, 6, none⟩ (.int .i64 (max x (min a (up.length : Int))))).drew = w5 := ⟨_, rfl⟩
  rw [hw5] at bg5 bq5 D5 ⊢
  clear hw5 z7 c6 p5 bg bq bp D4
  have q0 : w5.cell? ⟨(w.heap.size + 1), 0, none⟩ = some (.int .i64 0) := (blk_cell bq5 0).trans rfl
  have q1 : w5.cell? ⟨(w.heap.size + 1), 1, none⟩ = some (.int .i64 0) := (blk_cell bq5 1).trans rfl
  have q2 : w5.cell? ⟨(w.heap.size + 1), 2, none⟩ = some (.int .i64 0) := (blk_cell bq5 2).trans rfl
  have q3 : w5.cell? ⟨(w.heap.size + 1), 3, none⟩ = some (.int .i64 0) := (blk_cell bq5 3).trans rfl
  have q4 : w5.cell? ⟨(w.heap.size + 1), 4, none⟩ = some (.int .i64 0) := (blk_cell bq5 4).trans rfl
  have q5 : w5.cell? ⟨(w.heap.size + 1), 5, none⟩ = some (.int .i64 0) := (blk_cell bq5 5).trans rfl
  have q6 : w5.cell? ⟨(w.heap.size + 1), 6, none⟩ = some (.string ⟨#[]⟩) := (blk_cell bq5 6).trans rfl
  have r0 := blk_frozen bq5 0
  have r1 := blk_frozen bq5 1
  have r2 := blk_frozen bq5 2
  have r3 := blk_frozen bq5 3
  have r4 := blk_frozen bq5 4
  have r5 := blk_frozen bq5 5
  have r6 := blk_frozen bq5 6
  go_wp2
  refine bodyPost_ret (v := (.tuple #[(.agg #[.int .i64 0, .int .i64 0, .int .i64 0, .int .i64 0, .int .i64 0, .int .i64 0, .string ⟨#[]⟩]), .bool false])) (by simp [results, Tryz.results97, go_sem, zEn, *]) rfl ⟨rfl, (by with_reducible repeat (first | exact bg5 | refine set_far ?_ _ _ _ hgq)), (by with_reducible repeat (first | exact D5 | refine Dr.q ?_ hlt _ _ | apply Dr.set | apply Dr.drewN | apply Dr.drew))⟩
set_option maxRecDepth 100000 in
set_option maxHeartbeats 2000000 in
theorem hear_i8 (a : Int) (text : List UInt8) (i0 i1 o0 o1 x y : Int) (up down ug dg : List UInt8) (g : Nat) (w : World)
    (hg : w.heap[g]? = some (.cells (cvCells ⟨⟨i0, i1⟩, ⟨o0, o1⟩, up, down, x, y, ug, dg⟩) 64 (0, 0))) (hD : (o0 == 9 && inB o1 10 17) = false) (hgl : dg.length ≤ 140737488355328) (ha : 0 ≤ a ∧ a ≤ 1000000) (hxl : text.length ≤ 140737488355328) :
    Calls Tryz.prog 97 #[.pointer (some ⟨g, 0, none⟩), .bool true, vPk ⟨1, ⟨o0, o1⟩, ⟨i0, i1⟩, a, text⟩] w fun r w' => r = .returned (.tuple #[vPk (backP ⟨⟨i0, i1⟩, ⟨o0, o1⟩, up, down, x, y, ug, dg⟩ true ⟨1, ⟨o0, o1⟩, ⟨i0, i1⟩, a, text⟩), .bool true]) ∧ w'.heap[g]? = some (.cells (cvCells ⟨⟨i0, i1⟩, ⟨o0, o1⟩, up, down, x, y, ug, (gotP dg a text).1⟩) 64 (0, 0)) ∧ Dr g w w' := by
  have hA : (o0 == o0 && (o1 == o1)) = true := by simp
  have hA2 : (i0 == i0 && (i1 == i1)) = true := by simp
  have hlt := blk_lt hg
  have c0 : w.cell? ⟨g, 0, none⟩ = some (.int .i64 i0) := (blk_cell hg 0).trans rfl
  have c1 : w.cell? ⟨g, 1, none⟩ = some (.int .i64 i1) := (blk_cell hg 1).trans rfl
  have c2 : w.cell? ⟨g, 2, none⟩ = some (.int .i64 o0) := (blk_cell hg 2).trans rfl
  have c3 : w.cell? ⟨g, 3, none⟩ = some (.int .i64 o1) := (blk_cell hg 3).trans rfl
  have c4 : w.cell? ⟨g, 4, none⟩ = some (.string ⟨up.toArray⟩) := (blk_cell hg 4).trans rfl
  have c5 : w.cell? ⟨g, 5, none⟩ = some (.string ⟨down.toArray⟩) := (blk_cell hg 5).trans rfl
  go_enter Tryz.func97, Tryz.ntmps97
  go_upto_region 1 with (fail)
  go_quiet (fail)
  go_upto_region 2 with (fail)
  refine lin_start (fun w' => w'.cell? ⟨w.heap.size, 1, none⟩ = some (.int .i64 o0) ∧ w'.cell? ⟨w.heap.size, 2, none⟩ = some (.int .i64 o1) ∧ w'.cell? ⟨w.heap.size, 3, none⟩ = some (.int .i64 i0) ∧ w'.cell? ⟨w.heap.size, 4, none⟩ = some (.int .i64 i1) ∧ w'.cell? ⟨g, 2, none⟩ = some (.int .i64 o0) ∧ w'.cell? ⟨g, 3, none⟩ = some (.int .i64 o1)) (true, [([], []), ([0], [0]), ([1], [1]), ([2, 2], [2]), ([3], [3]), ([4, 3], [3, 4]), ([3], [3]), ([6, 3], [3, 6]), ([7, 3], [3, 7]), ([8, 3], [3, 8]), ([5, 9, 3], [3, 5, 9]), ([3, 10], [3, 10]), ([11, 3, 0, 1, 2, 3, 4, 5, 6, 7, 8, 9, 10, 11], [11])]) [0, 1, 2, 3, 4, 5, 6, 7, 8, 9, 10, 11, 12] (by kernel_rfl) (by kernel_rfl) (by kernel_rfl) ⟨by go_simp, by go_simp, by go_simp, by go_simp, by go_simp, by go_simp⟩ ?_
  repeat (first | (refine lin_take rfl rfl (by kernel_rfl) (fun _ _ _ h => h) (by rfl) (v := ?_) (a' := ?_) ?_ ?_ ?_; rotate_left 2; (rintro w' ⟨s0, s1, s2, s3, s4, s5⟩; go_simp; with_reducible rfl); (simp only [List.getElem_toArray, List.getElem_cons_zero, List.getElem_cons_succ, Act.put, List.setIfInBounds_toArray, List.set_cons_zero, List.set_cons_succ]; rfl)) | (refine lin_off rfl rfl (by kernel_rfl) (fun _ _ _ h => h) (by rfl) (a' := ?_) ?_ ?_; rotate_left 1; (simp only [List.getElem_toArray, List.getElem_cons_zero, List.getElem_cons_succ, Act.put, List.setIfInBounds_toArray, List.set_cons_zero, List.set_cons_succ]; rfl)))
  refine lin_call rfl rfl rfl Tryz.func147 (by kernel_rfl) (by kernel_rfl) rfl (by rfl) (args := #[vEn ⟨o0, o1⟩]) (by (try simp only [List.map_toArray, List.map_cons, List.map_nil]); first | done | rfl) (fun hS => ?_)
  refine (impl_EndDoor ⟨o0, o1⟩ _).mono ?_
  rintro e w4 ⟨rfl, hb4⟩
  simp only [hD]
  refine ⟨_, rfl, ?_, ?_⟩
  · first | exact (hb4.cell (by first | exact (by simp; omega) | exact (by simp))).trans hS | (obtain ⟨s0, s1, s2, s3, s4, s5⟩ := hS; exact ⟨(hb4.cell (by first | exact (by simp; omega) | exact (by simp))).trans s0, (hb4.cell (by first | exact (by simp; omega) | exact (by simp))).trans s1, (hb4.cell (by first | exact (by simp; omega) | exact (by simp))).trans s2, (hb4.cell (by first | exact (by simp; omega) | exact (by simp))).trans s3, (hb4.cell (by first | exact (by simp; omega) | exact (by simp))).trans s4, (hb4.cell (by first | exact (by simp; omega) | exact (by simp))).trans s5⟩)
  refine lin_norm (a' := ?_) ?_ ?_; rotate_left 1; (simp only [List.getElem_toArray, List.getElem_cons_zero, List.getElem_cons_succ, Act.put, List.setIfInBounds_toArray, List.set_cons_zero, List.set_cons_succ]; rfl)
  repeat (first | (refine lin_take rfl rfl (by kernel_rfl) (fun _ _ _ h => h) (by rfl) (v := ?_) (a' := ?_) ?_ ?_ ?_; rotate_left 2; (rintro w' ⟨s0, s1, s2, s3, s4, s5⟩; go_simp; with_reducible rfl); (simp only [List.getElem_toArray, List.getElem_cons_zero, List.getElem_cons_succ, Act.put, List.setIfInBounds_toArray, List.set_cons_zero, List.set_cons_succ]; rfl)) | (refine lin_off rfl rfl (by kernel_rfl) (fun _ _ _ h => h) (by rfl) (a' := ?_) ?_ ?_; rotate_left 1; (simp only [List.getElem_toArray, List.getElem_cons_zero, List.getElem_cons_succ, Act.put, List.setIfInBounds_toArray, List.set_cons_zero, List.set_cons_succ]; rfl)))
  refine lin_done (by kernel_rfl) ?_
  obtain ⟨bp, bq, hz, B4⟩ := after_two hb4
  have bg := (B4.block g hlt).trans hg
  have D4 : Dr g w w4 := Dr.of_below B4 (Nat.le_of_lt hlt)
  clear c0 c1 c2 c3 c4 c5 hb4 B4 hg
  have hgq : g ≠ w.heap.size + 1 := by omega
  have hgp : g ≠ w.heap.size := by omega
  have c0 : w4.cell? ⟨g, 0, none⟩ = some (.int .i64 i0) := (blk_cell bg 0).trans rfl
  have c1 : w4.cell? ⟨g, 1, none⟩ = some (.int .i64 i1) := (blk_cell bg 1).trans rfl
  have c2 : w4.cell? ⟨g, 2, none⟩ = some (.int .i64 o0) := (blk_cell bg 2).trans rfl
  have c3 : w4.cell? ⟨g, 3, none⟩ = some (.int .i64 o1) := (blk_cell bg 3).trans rfl
  have c4 : w4.cell? ⟨g, 4, none⟩ = some (.string ⟨up.toArray⟩) := (blk_cell bg 4).trans rfl
  have c5 : w4.cell? ⟨g, 5, none⟩ = some (.string ⟨down.toArray⟩) := (blk_cell bg 5).trans rfl
  have p1 : w4.cell? ⟨w.heap.size, 1, none⟩ = some (.int .i64 o0) := (blk_cell bp 1).trans rfl
  have p2 : w4.cell? ⟨w.heap.size, 2, none⟩ = some (.int .i64 o1) := (blk_cell bp 2).trans rfl
  have p3 : w4.cell? ⟨w.heap.size, 3, none⟩ = some (.int .i64 i0) := (blk_cell bp 3).trans rfl
  have p4 : w4.cell? ⟨w.heap.size, 4, none⟩ = some (.int .i64 i1) := (blk_cell bp 4).trans rfl
  go_upto_region 4 with (fail)
  go_quiet (fail)
  obtain ⟨wa, hwn⟩ : ∃ x, w4.drewN nq = x := ⟨_, rfl⟩
  have bgn : wa.heap[g]? = some (.cells (cvCells ⟨⟨i0, i1⟩, ⟨o0, o1⟩, up, down, x, y, ug, dg⟩) 64 (0, 0)) := by rw [← hwn]; exact bg
  have bpn : wa.heap[w.heap.size]? = some (.cells #[.int .i64 1, .int .i64 o0, .int .i64 o1, .int .i64 i0, .int .i64 i1, .int .i64 a, .string ⟨text.toArray⟩] 66 (0, 0)) := by rw [← hwn]; exact bp
  have bqn : wa.heap[w.heap.size + 1]? = some (.cells #[.int .i64 0, .int .i64 0, .int .i64 0, .int .i64 0, .int .i64 0, .int .i64 0, .string ⟨#[]⟩] 66 (0, 0)) := by rw [← hwn]; exact bq
  have hzn : w.heap.size + 2 ≤ wa.heap.size := by rw [← hwn]; exact hz
  have D4n : Dr g w wa := by rw [← hwn]; exact D4.drewN nq
  rw [hwn]
  clear hwn bg bp bq hz D4 c0 c1 c2 c3 c4 c5 p1 p2 p3 p4
  have bg := bgn
  have bp := bpn
  have bq := bqn
  have hz := hzn
  have D4 := D4n
  clear bgn bpn bqn hzn D4n
  have c0 : wa.cell? ⟨g, 0, none⟩ = some (.int .i64 i0) := (blk_cell bg 0).trans rfl
  have c1 : wa.cell? ⟨g, 1, none⟩ = some (.int .i64 i1) := (blk_cell bg 1).trans rfl
  have c2 : wa.cell? ⟨g, 2, none⟩ = some (.int .i64 o0) := (blk_cell bg 2).trans rfl
  have c3 : wa.cell? ⟨g, 3, none⟩ = some (.int .i64 o1) := (blk_cell bg 3).trans rfl
  have c4 : wa.cell? ⟨g, 4, none⟩ = some (.string ⟨up.toArray⟩) := (blk_cell bg 4).trans rfl
  have c5 : wa.cell? ⟨g, 5, none⟩ = some (.string ⟨down.toArray⟩) := (blk_cell bg 5).trans rfl
  have p1 : wa.cell? ⟨w.heap.size, 1, none⟩ = some (.int .i64 o0) := (blk_cell bp 1).trans rfl
  have p2 : wa.cell? ⟨w.heap.size, 2, none⟩ = some (.int .i64 o1) := (blk_cell bp 2).trans rfl
  have p3 : wa.cell? ⟨w.heap.size, 3, none⟩ = some (.int .i64 i0) := (blk_cell bp 3).trans rfl
  have p4 : wa.cell? ⟨w.heap.size, 4, none⟩ = some (.int .i64 i1) := (blk_cell bp 4).trans rfl
  go_upto_region 5 with (fail)
  go_quiet (fail)
  obtain ⟨wb, hwn⟩ : ∃ x, wa.drewN nq = x := ⟨_, rfl⟩
  have bgn : wb.heap[g]? = some (.cells (cvCells ⟨⟨i0, i1⟩, ⟨o0, o1⟩, up, down, x, y, ug, dg⟩) 64 (0, 0)) := by rw [← hwn]; exact bg
  have bpn : wb.heap[w.heap.size]? = some (.cells #[.int .i64 1, .int .i64 o0, .int .i64 o1, .int .i64 i0, .int .i64 i1, .int .i64 a, .string ⟨text.toArray⟩] 66 (0, 0)) := by rw [← hwn]; exact bp
  have bqn : wb.heap[w.heap.size + 1]? = some (.cells #[.int .i64 0, .int .i64 0, .int .i64 0, .int .i64 0, .int .i64 0, .int .i64 0, .string ⟨#[]⟩] 66 (0, 0)) := by rw [← hwn]; exact bq
  have hzn : w.heap.size + 2 ≤ wb.heap.size := by rw [← hwn]; exact hz
  have D4n : Dr g w wb := by rw [← hwn]; exact D4.drewN nq
  rw [hwn]
  clear hwn bg bp bq hz D4 c0 c1 c2 c3 c4 c5 p1 p2 p3 p4
  have bg := bgn
  have bp := bpn
  have bq := bqn
  have hz := hzn
  have D4 := D4n
  clear bgn bpn bqn hzn D4n
  have c9 : wb.cell? ⟨g, 9, none⟩ = some (.string ⟨dg.toArray⟩) := (blk_cell bg 9).trans rfl
  have p0 : wb.cell? ⟨w.heap.size, 0, none⟩ = some (.int .i64 1) := (blk_cell bp 0).trans rfl
  have p5 : wb.cell? ⟨w.heap.size, 5, none⟩ = some (.int .i64 a) := (blk_cell bp 5).trans rfl
  have p6 : wb.cell? ⟨w.heap.size, 6, none⟩ = some (.string ⟨text.toArray⟩) := (blk_cell bp 6).trans rfl
  go_upto_region 11 with (fail)
  refine lind_start (fun w' => w'.cell? ⟨w.heap.size, 5, none⟩ = some (.int .i64 a) ∧ w'.cell? ⟨w.heap.size, 6, none⟩ = some (.string ⟨text.toArray⟩) ∧ w'.cell? ⟨g, 9, none⟩ = some (.string ⟨dg.toArray⟩)) [13] (true, [([], []), ([], []), ([1], [1]), ([2], [2]), ([], []), ([4], [4]), ([], []), ([6], [6]), ([3, 5, 7], [3, 5, 7]), ([8], [8]), ([9], [9]), ([9], [9]), ([0, 0, 1, 2, 3, 4, 5, 6, 7, 8, 9, 10], [0]), ([12, 10, 8, 0, 1, 2, 3, 4, 5, 6, 7, 8, 9, 10], [10, 12])]) [0, 1, 2, 3, 4, 5, 6, 7, 8, 9, 10, 11, 12, 13] (by kernel_rfl) (by kernel_rfl) (by kernel_rfl) ⟨by go_simp, by go_simp, by go_simp⟩ ?_
  repeat (first | (refine lind_take rfl rfl (by kernel_rfl) (fun _ _ _ h => h) (by rfl) (v := ?_) (a' := ?_) ?_ ?_ ?_; rotate_left 2; (rintro w' ⟨s0, s1, s2⟩; go_simp; with_reducible rfl); (simp only [List.getElem_toArray, List.getElem_cons_zero, List.getElem_cons_succ, Act.put, List.setIfInBounds_toArray, List.set_cons_zero, List.set_cons_succ]; rfl)) | (refine lind_off rfl rfl (by kernel_rfl) (fun _ _ _ h => h) (by rfl) (a' := ?_) ?_ ?_; rotate_left 1; (simp only [List.getElem_toArray, List.getElem_cons_zero, List.getElem_cons_succ, Act.put, List.setIfInBounds_toArray, List.set_cons_zero, List.set_cons_succ]; rfl)))
  refine lind_call rfl rfl rfl Tryz.func125 (by kernel_rfl) (by kernel_rfl) rfl (by rfl) (args := #[.string ⟨dg.toArray⟩, .int .i64 a, .string ⟨text.toArray⟩]) (by (try simp only [List.map_toArray, List.map_cons, List.map_nil]); first | done | rfl) (fun hS => ?_)
  refine (impl_got dg hgl a ha text hxl _).mono ?_
  rintro e w5 ⟨rfl, hb5⟩
  obtain ⟨⟨G, gb⟩, hG⟩ : ∃ q, gotP dg a text = q := ⟨_, rfl⟩
  rw [hG]
  have hgw : g < wb.heap.size := by omega
  refine ⟨_, rfl, ?_, ?_⟩
  · first | exact (hb5.cell (by first | exact (show w.heap.size < wb.heap.size by omega) | exact (show g < wb.heap.size from hgw))).trans hS | (obtain ⟨s0, s1, s2⟩ := hS; exact ⟨(hb5.cell (by first | exact (show w.heap.size < wb.heap.size by omega) | exact (show g < wb.heap.size from hgw))).trans s0, (hb5.cell (by first | exact (show w.heap.size < wb.heap.size by omega) | exact (show g < wb.heap.size from hgw))).trans s1, (hb5.cell (by first | exact (show w.heap.size < wb.heap.size by omega) | exact (show g < wb.heap.size from hgw))).trans s2⟩)
  refine lind_norm (a' := ?_) ?_ ?_; rotate_left 1; (simp only [List.getElem_toArray, List.getElem_cons_zero, List.getElem_cons_succ, Act.put, List.setIfInBounds_toArray, List.set_cons_zero, List.set_cons_succ]; rfl)
  repeat (refine lind_any rfl rfl (by kernel_rfl) (fun _ _ _ h => h) (by rfl) (v := ?_) (a' := ?_) ?_ ?_ ?_; rotate_left 2; (intro w'; go_simp; with_reducible rfl); (simp only [List.getElem_toArray, List.getElem_cons_zero, List.getElem_cons_succ, Act.put, List.setIfInBounds_toArray, List.set_cons_zero, List.set_cons_succ]; rfl))
  have bg5 := (hb5.block g hgw).trans bg
  have bq5 := (hb5.block (w.heap.size + 1) (show w.heap.size + 1 < wb.heap.size by omega)).trans bq
  have bp5 := (hb5.block w.heap.size (show w.heap.size < wb.heap.size by omega)).trans bp
  have D5 : Dr g w w5 := D4.drew.trans (Dr.of_below hb5 (Nat.le_of_lt hgw))
  have z7 := blk_frozen bg5 9
  have e9 : w5.cell? ⟨g, 9, none⟩ = some (.string ⟨dg.toArray⟩) := (blk_cell bg5 9).trans rfl
  refine lind_last (w1 := (w5.setCell ⟨g, 9, none⟩ (.string ⟨G.toArray⟩))) rfl rfl (by kernel_rfl) (by kernel_rfl) (by rfl) (fun hS => ?run) (by kernel_rfl) ?rest
  case run => first | (go_simp; done) | (go_simp; rfl)
  have bg6 : ((w5.setCell ⟨g, 9, none⟩ (.string ⟨G.toArray⟩))).heap[g]? = some (.cells (cvCells ⟨⟨i0, i1⟩, ⟨o0, o1⟩, up, down, x, y, ug, G⟩) 64 (0, 0)) := (blk_set bg5 9 (.string ⟨G.toArray⟩)).trans rfl
  have bq6 := set_far bq5 g 9 (.string ⟨G.toArray⟩) (Ne.symm hgq)
  have bp6 := set_far bp5 g 9 (.string ⟨G.toArray⟩) (Ne.symm hgp)
  have D6 : Dr g w ((w5.setCell ⟨g, 9, none⟩ (.string ⟨G.toArray⟩))) := D5.set 9 (.string ⟨G.toArray⟩)
  have bq6' : ((w5.setCell ⟨g, 9, none⟩ (.string ⟨G.toArray⟩))).heap[w.heap.size + 1]? = _ := bq6
  have bp6' : ((w5.setCell ⟨g, 9, none⟩ (.string ⟨G.toArray⟩))).heap[w.heap.size]? = _ := bp6
  clear bq6 bp6
  obtain ⟨w6, hw6⟩ : ∃ w6, (w5.setCell ⟨g, 9, none⟩ (.string ⟨G.toArray⟩)) = w6 := ⟨_, rfl⟩
  rw [hw6] at bg6 bq6' bp6' D6 ⊢
  clear hw6 z7 e9 bg bq bp D4 bg5 bq5 bp5 D5 hb5 p5 p6 c9
  have p1 : w6.cell? ⟨w.heap.size, 1, none⟩ = some (.int .i64 o0) := (blk_cell bp6' 1).trans rfl
  have p2 : w6.cell? ⟨w.heap.size, 2, none⟩ = some (.int .i64 o1) := (blk_cell bp6' 2).trans rfl
  have p3 : w6.cell? ⟨w.heap.size, 3, none⟩ = some (.int .i64 i0) := (blk_cell bp6' 3).trans rfl
  have p4 : w6.cell? ⟨w.heap.size, 4, none⟩ = some (.int .i64 i1) := (blk_cell bp6' 4).trans rfl
  have k8 : w6.cell? ⟨g, 9, none⟩ = some (.string ⟨G.toArray⟩) := (blk_cell bg6 9).trans rfl
  go_upto_region 12 with (fail)
  refine lin_start (fun w' => w'.cell? ⟨w.heap.size, 1, none⟩ = some (.int .i64 o0) ∧ w'.cell? ⟨w.heap.size, 2, none⟩ = some (.int .i64 o1) ∧ w'.cell? ⟨w.heap.size, 3, none⟩ = some (.int .i64 i0) ∧ w'.cell? ⟨w.heap.size, 4, none⟩ = some (.int .i64 i1) ∧ w'.cell? ⟨g, 9, none⟩ = some (.string ⟨G.toArray⟩)) (true, [([], []), ([0], [0]), ([], []), ([2], [2]), ([], []), ([4], [4]), ([5], [5]), ([6], [6]), ([1, 3, 7], [1, 3, 7]), ([8, 0, 1, 2, 3, 4, 5, 6, 7, 8], [8]), ([9, 0, 1, 2, 3, 4, 5, 6, 7, 8, 9], [])]) [0, 1, 2, 3, 4, 5, 6, 7, 8, 9, 10] (by kernel_rfl) (by kernel_rfl) (by kernel_rfl) ⟨by go_simp, by go_simp, by go_simp, by go_simp, by go_simp⟩ ?_
  repeat (first | (refine lin_take rfl rfl (by kernel_rfl) (fun _ _ _ h => h) (by rfl) (v := ?_) (a' := ?_) ?_ ?_ ?_; rotate_left 2; (rintro w' ⟨s0, s1, s2, s3, s4⟩; go_simp; with_reducible rfl); (simp only [List.getElem_toArray, List.getElem_cons_zero, List.getElem_cons_succ, Act.put, List.setIfInBounds_toArray, List.set_cons_zero, List.set_cons_succ]; rfl)) | (refine lin_off rfl rfl (by kernel_rfl) (fun _ _ _ h => h) (by rfl) (a' := ?_) ?_ ?_; rotate_left 1; (simp only [List.getElem_toArray, List.getElem_cons_zero, List.getElem_cons_succ, Act.put, List.setIfInBounds_toArray, List.set_cons_zero, List.set_cons_succ]; rfl)))
  have q0 : w6.cell? ⟨(w.heap.size + 1), 0, none⟩ = some (.int .i64 0) := (blk_cell bq6' 0).trans rfl
  have q1 : w6.cell? ⟨(w.heap.size + 1), 1, none⟩ = some (.int .i64 0) := (blk_cell bq6' 1).trans rfl
  have q2 : w6.cell? ⟨(w.heap.size + 1), 2, none⟩ = some (.int .i64 0) := (blk_cell bq6' 2).trans rfl
  have q3 : w6.cell? ⟨(w.heap.size + 1), 3, none⟩ = some (.int .i64 0) := (blk_cell bq6' 3).trans rfl
  have q4 : w6.cell? ⟨(w.heap.size + 1), 4, none⟩ = some (.int .i64 0) := (blk_cell bq6' 4).trans rfl
  have q5 : w6.cell? ⟨(w.heap.size + 1), 5, none⟩ = some (.int .i64 0) := (blk_cell bq6' 5).trans rfl
  have q6 : w6.cell? ⟨(w.heap.size + 1), 6, none⟩ = some (.string ⟨#[]⟩) := (blk_cell bq6' 6).trans rfl
  have r0 := blk_frozen bq6' 0
  have r1 := blk_frozen bq6' 1
  have r2 := blk_frozen bq6' 2
  have r3 := blk_frozen bq6' 3
  have r4 := blk_frozen bq6' 4
  have r5 := blk_frozen bq6' 5
  have r6 := blk_frozen bq6' 6
  have hpq : w.heap.size ≠ w.heap.size + 1 := by omega
  refine lin_skip (w1 := (((((((w6.setCell ⟨w.heap.size + 1, 0, none⟩ (.int .i64 2)).setCell ⟨w.heap.size + 1, 1, none⟩ (.int .i64 i0)).setCell ⟨w.heap.size + 1, 2, none⟩ (.int .i64 i1)).setCell ⟨w.heap.size + 1, 3, none⟩ (.int .i64 o0)).setCell ⟨w.heap.size + 1, 4, none⟩ (.int .i64 o1)).setCell ⟨w.heap.size + 1, 5, none⟩ (.int .i64 (G.length : Int))).setCell ⟨w.heap.size + 1, 6, none⟩ (.string ⟨#[]⟩)).drew) rfl rfl (by kernel_rfl) (by rfl) (fun hS => ?runB) (fun hS => ?keepB) ?restB
  case runB => first | (go_simp; done) | (go_simp; rfl)
  case keepB =>
    obtain ⟨s0, s1, s2, s3, s4⟩ := hS
    exact ⟨by simp only [keep_cell_d hpq]; exact s0, by simp only [keep_cell_d hpq]; exact s1, by simp only [keep_cell_d hpq]; exact s2, by simp only [keep_cell_d hpq]; exact s3, by simp only [keep_cell_d hgq]; exact s4⟩
  repeat (first | (refine lin_take rfl rfl (by kernel_rfl) (fun _ _ _ h => h) (by rfl) (v := ?_) (a' := ?_) ?_ ?_ ?_; rotate_left 2; (rintro w' ⟨s0, s1, s2, s3, s4⟩; go_simp; with_reducible rfl); (simp only [List.getElem_toArray, List.getElem_cons_zero, List.getElem_cons_succ, Act.put, List.setIfInBounds_toArray, List.set_cons_zero, List.set_cons_succ]; rfl)) | (refine lin_off rfl rfl (by kernel_rfl) (fun _ _ _ h => h) (by rfl) (a' := ?_) ?_ ?_; rotate_left 1; (simp only [List.getElem_toArray, List.getElem_cons_zero, List.getElem_cons_succ, Act.put, List.setIfInBounds_toArray, List.set_cons_zero, List.set_cons_succ]; rfl)))
  refine lin_done (by kernel_rfl) ?_
  go_wp2
  refine bodyPost_ret (v := (.tuple #[(.agg #[.int .i64 2, .int .i64 i0, .int .i64 i1, .int .i64 o0, .int .i64 o1, .int .i64 (G.length : Int), .string ⟨#[]⟩]), .bool true])) (by simp [results, Tryz.results97, go_sem, zEn, *]) rfl ⟨by simp only [backP, hG]; rfl, (by rw [show (gotP dg a text).1 = G from by rw [hG]]; with_reducible repeat (first | exact bg6 | refine drew_h ?_ | refine set_far ?_ _ _ _ hgq)), (by with_reducible repeat (first | exact D6 | refine Dr.q ?_ hlt _ _ | apply Dr.set | apply Dr.drewN | apply Dr.drew))⟩
end Go.Proofs.YtfjbjiklohjodaaGreatDoor.Z
namespace Go.Proofs.YtfjbjiklohjodaaGreatDoor.Z
open Go.RowKit Go.Proofs.YtfjbjiklohjodaaGreatDoorW.PrintWords Go.Proofs.YtfjbjiklohjodaaGreatDoorW.PrintLast Go.Proofs.YtfjbjiklohjodaaGreatDoorW.PrintMore
set_option linter.unusedVariables false
set_option linter.unusedSimpArgs false
attribute [local go_sem ↓] Go.wp_at_zero Go.wp_at_succ
theorem out_door {o0 o1 : Int} (h : outsideB ⟨o0, o1⟩ = true) : (o0 == 9 && inB o1 10 17) = false := by
  have h1 : inB o0 4 6 = true := by
    unfold outsideB at h
    rw [Bool.and_eq_true] at h
    exact h.1
  have h2 : o0 ≤ 6 := by
    unfold inB at h1
    rw [Bool.and_eq_true, decide_eq_true_iff, decide_eq_true_iff] at h1
    exact h1.2
  rw [show (o0 == 9) = false from beq_eq_false_iff_ne.2 (by omega), Bool.false_and]
theorem impl_hear (c : Cv) (hl : c.small) (ho : outsideB c.outside = true) (inward : Bool) (p : Pk) (hk : p.kind = 1 ∨ p.kind = 2) (ha : 0 ≤ p.at_ ∧ p.at_ ≤ 1000000) (hx : p.text.length ≤ 140737488355328) (g : Nat) (w : World)
    (hg : w.heap[g]? = some (.cells (cvCells c) 64 (0, 0))) :
    Calls Tryz.prog 97 #[.pointer (some ⟨g, 0, none⟩), .bool inward, vPk p] w fun r w' => r = .returned (.tuple #[vPk (hearP c inward p).2.1, .bool (hearP c inward p).2.2]) ∧ w'.heap[g]? = some (.cells (cvCells (hearP c inward p).1) 64 (0, 0)) ∧ Dr g w w' := by
  obtain ⟨⟨i0, i1⟩, ⟨o0, o1⟩, up, down, x, y, ug, dg⟩ := c
  obtain ⟨kind, ⟨f0, f1⟩, ⟨d0, d1⟩, a, text⟩ := p
  obtain ⟨l1, l2, l3, l4⟩ := hl
  simp only at l1 l2 l3 l4 ho hk ha hx
  have hod := out_door ho
  cases inward with
  | false =>
    cases hD : (f0 == 9 && inB f1 10 17) with
    | false =>
      have e : hearP ⟨⟨i0, i1⟩, ⟨o0, o1⟩, up, down, x, y, ug, dg⟩ false ⟨kind, ⟨f0, f1⟩, ⟨d0, d1⟩, a, text⟩ = (⟨⟨i0, i1⟩, ⟨o0, o1⟩, up, down, x, y, ug, dg⟩, zPk, false) := by
        unfold hearP mineB
        simp only [Bool.false_eq_true, if_false, hD, Bool.false_and]
      rw [e]
      exact hear_o1 _ _ _ _ _ _ _ _ _ _ _ _ _ _ _ _ _ _ _ hg hD
    | true =>
      cases hM : (d0 == o0 && (d1 == o1)) with
      | false =>
        have e : hearP ⟨⟨i0, i1⟩, ⟨o0, o1⟩, up, down, x, y, ug, dg⟩ false ⟨kind, ⟨f0, f1⟩, ⟨d0, d1⟩, a, text⟩ = (⟨⟨i0, i1⟩, ⟨o0, o1⟩, up, down, x, y, ug, dg⟩, zPk, false) := by
          unfold hearP mineB
          simp only [Bool.false_eq_true, if_false, hD, hM, Bool.and_false]
        rw [e]
        exact hear_o2 _ _ _ _ _ _ _ _ _ _ _ _ _ _ _ _ _ _ _ hg hD hM
      | true =>
        obtain ⟨rfl, rfl⟩ : d0 = o0 ∧ d1 = o1 := by simpa using hM
        rcases hk with rfl | rfl
        · have e : hearP ⟨⟨i0, i1⟩, ⟨d0, d1⟩, up, down, x, y, ug, dg⟩ false ⟨1, ⟨f0, f1⟩, ⟨d0, d1⟩, a, text⟩ = (dataP ⟨⟨i0, i1⟩, ⟨d0, d1⟩, up, down, x, y, ug, dg⟩ false ⟨1, ⟨f0, f1⟩, ⟨d0, d1⟩, a, text⟩, backP ⟨⟨i0, i1⟩, ⟨d0, d1⟩, up, down, x, y, ug, dg⟩ false ⟨1, ⟨f0, f1⟩, ⟨d0, d1⟩, a, text⟩, true) := by
            unfold hearP mineB
            simp [hD]
          rw [e]
          exact hear_o4 _ _ _ _ _ _ _ _ _ _ _ _ _ _ _ _ hg hD l3 ha hx
        · have e : hearP ⟨⟨i0, i1⟩, ⟨d0, d1⟩, up, down, x, y, ug, dg⟩ false ⟨2, ⟨f0, f1⟩, ⟨d0, d1⟩, a, text⟩ = (ackP ⟨⟨i0, i1⟩, ⟨d0, d1⟩, up, down, x, y, ug, dg⟩ false ⟨2, ⟨f0, f1⟩, ⟨d0, d1⟩, a, text⟩, zPk, false) := by
            unfold hearP mineB
            simp [hD]
          rw [e]
          exact hear_o3 _ _ _ _ _ _ _ _ _ _ _ _ _ _ _ _ hg hD
  | true =>
    cases hA : (f0 == o0 && (f1 == o1)) with
    | false =>
      have e : hearP ⟨⟨i0, i1⟩, ⟨o0, o1⟩, up, down, x, y, ug, dg⟩ true ⟨kind, ⟨f0, f1⟩, ⟨d0, d1⟩, a, text⟩ = (⟨⟨i0, i1⟩, ⟨o0, o1⟩, up, down, x, y, ug, dg⟩, zPk, false) := by
        unfold hearP mineB
        simp only [if_true, hA, Bool.false_and, Bool.false_eq_true, if_false]
      rw [e]
      cases hD : (f0 == 9 && inB f1 10 17) with
      | false => exact hear_i1 _ _ _ _ _ _ _ _ _ _ _ _ _ _ _ _ _ _ _ hg hD hA
      | true =>
        cases hM : (d0 == o0 && (d1 == o1)) with
        | false => exact hear_i3 _ _ _ _ _ _ _ _ _ _ _ _ _ _ _ _ _ _ _ hg hD hM hA
        | true =>
          obtain ⟨rfl, rfl⟩ : d0 = o0 ∧ d1 = o1 := by simpa using hM
          exact hear_i5 _ _ _ _ _ _ _ _ _ _ _ _ _ _ _ _ _ hg hD hA
    | true =>
      obtain ⟨rfl, rfl⟩ : f0 = o0 ∧ f1 = o1 := by simpa using hA
      cases hA2 : (d0 == i0 && (d1 == i1)) with
      | false =>
        have e : hearP ⟨⟨i0, i1⟩, ⟨f0, f1⟩, up, down, x, y, ug, dg⟩ true ⟨kind, ⟨f0, f1⟩, ⟨d0, d1⟩, a, text⟩ = (⟨⟨i0, i1⟩, ⟨f0, f1⟩, up, down, x, y, ug, dg⟩, zPk, false) := by
          unfold hearP mineB
          simp only [if_true, hA2, Bool.and_false, Bool.false_eq_true, if_false]
        rw [e]
        exact hear_i2 _ _ _ _ _ _ _ _ _ _ _ _ _ _ _ _ _ hg hod hA2
      | true =>
        obtain ⟨rfl, rfl⟩ : d0 = i0 ∧ d1 = i1 := by simpa using hA2
        rcases hk with rfl | rfl
        · have e : hearP ⟨⟨d0, d1⟩, ⟨f0, f1⟩, up, down, x, y, ug, dg⟩ true ⟨1, ⟨f0, f1⟩, ⟨d0, d1⟩, a, text⟩ = (dataP ⟨⟨d0, d1⟩, ⟨f0, f1⟩, up, down, x, y, ug, dg⟩ true ⟨1, ⟨f0, f1⟩, ⟨d0, d1⟩, a, text⟩, backP ⟨⟨d0, d1⟩, ⟨f0, f1⟩, up, down, x, y, ug, dg⟩ true ⟨1, ⟨f0, f1⟩, ⟨d0, d1⟩, a, text⟩, true) := by
            unfold hearP mineB
            simp
          rw [e]
          exact hear_i8 _ _ _ _ _ _ _ _ _ _ _ _ _ _ hg hod l4 ha hx
        · have e : hearP ⟨⟨d0, d1⟩, ⟨f0, f1⟩, up, down, x, y, ug, dg⟩ true ⟨2, ⟨f0, f1⟩, ⟨d0, d1⟩, a, text⟩ = (ackP ⟨⟨d0, d1⟩, ⟨f0, f1⟩, up, down, x, y, ug, dg⟩ true ⟨2, ⟨f0, f1⟩, ⟨d0, d1⟩, a, text⟩, zPk, false) := by
            unfold hearP mineB
            simp
          rw [e]
          exact hear_i7 _ _ _ _ _ _ _ _ _ _ _ _ _ _ hg hod
end Go.Proofs.YtfjbjiklohjodaaGreatDoor.Z
