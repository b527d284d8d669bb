/- Names in texts: plainly; the program's name. The program's readName. Pieces of a text, as a kind. The program's piece. Contracts of mine in the print's own form: texts, what is held, names and pieces (the program's). The laws' own helpers on pairs: sizes, copies of arguments, comparisons. Copies of pairs: the reference's l3Copy; slices.Clone, slices.Clip at pairs; the program's copied and out. append to a clipped row (it grows always); the next port: the program's out, the reference's l3Out. MapOut of the program and of the reference. Contracts of mine in the print's own form: slices.Clip and slices.Clone at the program's types; the next port. Contracts of mine in the print's own form: ends, maps, texts, as they were walked by hand. The reference's l2Name. Plain laws of the printed functions: words; the pieces of a text. Packets: the program's and the reference's PktOk, walked. Contracts of mine in the print's own form: strings joined, and cloned. Plain laws of the printed functions: pieces as they go on. Plain laws of the printed functions: what a text goes out as, its pieces and names; maps compared. -/
import Derived.Test.YtfjbjiklohjodaaGreatDoorBh2
import Derived.WalkSpells
import Derived.ArgAppend
import Derived.DataReads
namespace Go.Proofs.YtfjbjiklohjodaaGreatDoor.Z
open Go.RowKit Go.Proofs.YtfjbjiklohjodaaGreatDoorW.PrintWords Go.Proofs.YtfjbjiklohjodaaGreatDoorW.PrintLast
set_option linter.unusedVariables false
set_option linter.unusedSimpArgs false
attribute [local go_sem ↓] Go.wp_at_zero Go.wp_at_succ
attribute [local go_sem high] bytes_append
def nameOf (e : En) : List UInt8 := 64 :: (endText e ++ [59])
theorem impl_name (e : En) (w : World) : Calls Tryz.prog 172 #[vEn e] w fun r w' => r = .returned (vS (nameOf e)) ∧ Below w.heap.size w w' := by
  have hl := endText_len e
  have h1 : ¬ (9223372036854775807 < 1 + (endText e).length) := by omega
  have h2 : ¬ (9223372036854775807 < (endText e).length + 1) := by omega
  have h3 : ¬ (9223372036854775807 < 1 + (endText e).length + 1) := by omega
  have h4 : ¬ (9223372036854775807 < (endText e).length + 1 + 1) := by omega
  obtain ⟨l, hx⟩ : ∃ l, endText e = l := ⟨_, rfl⟩
  have HX := Aside0.mk hx
  rw [hx] at h1 h2 h3 h4
  clear hx hl
  go_enter Tryz.func172, Tryz.ntmps172
  go_wp2_with (go_at_call 188; refine (impl_EndText e _).mono ?_; rintro r w1 ⟨rfl, hb1⟩; rw [HX.out])
  go_ret
  exact ⟨by unfold nameOf; rw [HX.out]; rfl, below_step (by repeat (first | (with_reducible exact (Below.refl _ _)) | (with_reducible apply below_alloc) | (with_reducible apply pw_below_drewN) | (with_reducible apply below_drew1) | with_reducible refine below_set ?_ (by first | (with_reducible exact Nat.le_refl _) | (with_reducible assumption) | (simp; done) | omega | (simp; omega)))) hb1⟩
def upto59 (l : List UInt8) : List UInt8 := l.takeWhile (fun b => b != 59)
def nm (l : List UInt8) : Option En := match l with
  | [] => none
  | c :: t => if c == 64 && t.contains 59 then endRead (upto59 t) else none
theorem text_no59 : ∀ e ∈ allEnds, (endText e).all (fun b => b != 59) = true := by decide +kernel
theorem nm_name {e : En} (h : anyB e = true) (r : List UInt8) : nm (nameOf e ++ r) = some e := by
  have h1 := text_no59 e (anyB_mem h)
  have h2 : upto59 (endText e ++ [59] ++ r) = endText e := by
    unfold upto59
    rw [List.append_assoc, List.takeWhile_append_of_pos (by simpa using h1)]
    simp
  show (if (64 : UInt8) == 64 && (endText e ++ [59] ++ r).contains 59 then endRead (upto59 (endText e ++ [59] ++ r)) else none) = some e
  rw [h2, endRead_of h]
  simp
theorem nm_some {l : List UInt8} {e : En} (h : nm l = some e) : anyB e = true ∧ ∃ r, l = nameOf e ++ r := by
  cases l with
  | nil => cases h
  | cons c t =>
    unfold nm at h
    simp only at h
    split at h
    · rename_i hc
      rw [Bool.and_eq_true, beq_iff_eq] at hc
      obtain ⟨ha, ht⟩ := endRead_some h
      refine ⟨ha, (t.dropWhile (fun b => b != 59)).tail, ?_⟩
      have h1 : t = upto59 t ++ t.dropWhile (fun b => b != 59) := (List.takeWhile_append_dropWhile).symm
      have h2 : ∃ r, t.dropWhile (fun b => b != 59) = 59 :: r := by
        cases hd : t.dropWhile (fun b => b != 59) with
        | nil =>
          exfalso
          have h3 : (59 : UInt8) ∈ t := by simpa using hc.2
          rw [h1, hd, List.append_nil] at h3
          have := List.all_eq_true.1 (List.all_takeWhile (l := t) (p := fun b => b != 59)) 59 h3
          simp at this
        | cons b r =>
          have := List.head?_dropWhile_not (fun b => b != (59 : UInt8)) t
          rw [hd] at this
          simp at this
          exact ⟨r, by rw [this]⟩
      obtain ⟨r, hr⟩ := h2
      rw [hr, List.tail_cons]
      unfold nameOf
      rw [ht, hc.1, List.cons_append, List.append_assoc, List.singleton_append, ← hr, ← h1]
    · cases h
theorem idx59 : ∀ t : List UInt8, Go.Lib.index t [59] = if t.contains 59 then ((upto59 t).length : Int) else -1
  | [] => by simp [Go.Lib.index]
  | b :: l => by
    have ih := idx59 l
    unfold Go.Lib.index
    by_cases h : b = 59
    · subst h
      simp [upto59]
    · have h1 : ([59] : List UInt8).isPrefixOf (b :: l) = false := by rw [List.isPrefixOf_cons_cons, show ((59 : UInt8) == b) = false from beq_eq_false_iff_ne.2 (fun e => h e.symm), Bool.false_and]
      have h2 : (b != 59) = true := by simpa using h
      have h3 : upto59 (b :: l) = b :: upto59 l := by unfold upto59; rw [List.takeWhile_cons, h2]; rfl
      have h4 : (b :: l).contains 59 = l.contains 59 := by rw [List.contains_cons, show ((59 : UInt8) == b) = false from beq_eq_false_iff_ne.2 (fun e => h e.symm), Bool.false_or]
      rw [h1, ih, h3, h4]
      by_cases hc : l.contains 59 = true
      · simp only [hc, if_true]
        rw [if_neg (by simp), if_neg (by rw [beq_iff_eq]; omega)]
        simp
      · rw [Bool.not_eq_true] at hc
        simp only [hc]
        rfl
theorem cut59 (t : List UInt8) : (Go.Lib.cut t [59]).2.2 = t.contains 59 ∧ (t.contains 59 = true → (Go.Lib.cut t [59]).1 = upto59 t) ∧ (Go.Lib.cut t [59]).1.length ≤ t.length := by
  unfold Go.Lib.cut
  rw [idx59]
  by_cases hc : t.contains 59 = true
  · rw [if_pos hc, if_pos (by omega)]
    refine ⟨hc.symm, fun _ => ?_, by simp; omega⟩
    have h1 : t = upto59 t ++ t.dropWhile (fun b => b != 59) := (List.takeWhile_append_dropWhile).symm
    simp only [Int.toNat_natCast]
    have h2 : (upto59 t ++ t.dropWhile (fun b => b != 59)).take (upto59 t).length = upto59 t := by rw [List.take_append_of_le_length (Nat.le_refl _), List.take_length]
    rw [← h1] at h2
    exact h2
  · rw [if_neg hc, if_neg (by omega)]
    exact ⟨by simpa using hc, fun h => absurd h hc, Nat.le_refl _⟩
end Go.Proofs.YtfjbjiklohjodaaGreatDoor.Z
namespace Go.Proofs.YtfjbjiklohjodaaGreatDoor.Z
open Go.RowKit Go.Proofs.YtfjbjiklohjodaaGreatDoorW.PrintWords Go.Proofs.YtfjbjiklohjodaaGreatDoorW.PrintLast
set_option linter.unusedVariables false
set_option linter.unusedSimpArgs false
attribute [local go_sem ↓] Go.wp_at_zero Go.wp_at_succ
attribute [local go_sem high] bytes_append
set_option maxHeartbeats 2000000 in
theorem impl_readName (t : List UInt8) (hl : t.length ≤ 100000000) (w : World) (hv : VarsIn w) :
    Calls Tryz.prog 171 #[vS t] w fun r w' => ∃ e, r = .returned (.tuple #[vEn e, .bool (nm (64 :: t)).isSome]) ∧ Aside0 (∀ e', nm (64 :: t) = some e' → e = e') ∧ Below w.heap.size w w' := by
  obtain ⟨cc1, cc2, cc3⟩ := cut59 t
  have bk := heap_alloc_new w (.cells #[.int .i64 0, .int .i64 0] 62)
  have hb0 : Below w.heap.size w (w.alloc (.cells #[.int .i64 0, .int .i64 0] 62)) := below_alloc (Below.refl _ _) _
  obtain ⟨⟨⟨m, hm⟩, _⟩, _⟩ := hv.next hb0
  have hcut := Aside0.mk (Tryz.strings_Cut ⟨t.toArray⟩ ⟨#[59]⟩ m (w.alloc (.cells #[.int .i64 0, .int .i64 0] 62)) (by show t.length < _; omega) hm)
  clear hm
  obtain ⟨x1, hx1⟩ : ∃ x, (Go.Lib.cut t [59]).1 = x := ⟨_, rfl⟩
  obtain ⟨x2, hx2⟩ : ∃ x, (Go.Lib.cut t [59]).2.1 = x := ⟨_, rfl⟩
  obtain ⟨x3, hx3⟩ : ∃ x, (Go.Lib.cut t [59]).2.2 = x := ⟨_, rfl⟩
  simp only [List.toList_toArray] at hcut
  rw [hx1, hx2, hx3] at hcut
  rw [hx1] at cc2 cc3
  rw [hx3] at cc1
  have hN : nm (64 :: t) = if x3 = true then endRead x1 else none := by
    have h0 : nm (64 :: t) = if t.contains 59 = true then endRead (upto59 t) else none := by
      show (if ((64 : UInt8) == 64 && t.contains 59) = true then endRead (upto59 t) else none) = _
      rw [beq_self_eq_true, Bool.true_and]
    rw [h0, cc1]
    by_cases hc : t.contains 59 = true
    · rw [if_pos hc, if_pos hc, cc2 hc]
    · rw [if_neg hc, if_neg hc]
  obtain ⟨o, ho⟩ : ∃ o, endRead x1 = o := ⟨_, rfl⟩
  rw [ho] at hN
  have HN := Aside0.mk hN
  have HO := Aside0.mk ho
  clear hN ho hx1 hx2 hx3 cc1 cc2
  go_enter Tryz.func171, Tryz.ntmps171
  go_wp2_with (go_at_call 186; refine hcut.out.mono ?_; rintro r w1 ⟨rfl, k, rfl⟩)
  have hbd := pw_below_drewN hb0 k
  refine (impl_EndRead x1 (by omega) _ (hv.below hbd hv.2)).mono ?_
  rintro r w2 ⟨rfl, hb2⟩
  rw [HO.out]
  replace bk := (hb2.block w.heap.size (by show w.heap.size < (w.alloc _).heap.size; simp)).trans bk
  have hz0 : w.heap.size < w2.heap.size := blk_lt bk
  replace hb2 : Below w.heap.size w w2 := below_step hbd hb2
  go_upto_region 3 with fail
  obtain ⟨e, he⟩ : ∃ e, e = o.getD zEn := ⟨_, rfl⟩
  rw [← he]
  obtain ⟨wb, hwb, hbb, bk2, hzb⟩ := box_as w2 (.cells #[.int .i64 e.addr, .int .i64 e.port] 62)
  rw [← hwb]
  clear hwb
  replace bk := (hbb.block _ hz0).trans bk
  have hB : Below w.heap.size w wb := below_step hb2 hbb
  have c0 : wb.cell? ⟨w.heap.size, 0, none⟩ = some (.int .i64 0) := (blk_cell bk 0).trans rfl
  have c1 : wb.cell? ⟨w.heap.size, 1, none⟩ = some (.int .i64 0) := (blk_cell bk 1).trans rfl
  have f0 := blk_frozen bk 0
  have f1 := blk_frozen bk 1
  have e0 : wb.cell? ⟨w2.heap.size, 0, none⟩ = some (.int .i64 e.addr) := (blk_cell bk2 0).trans rfl
  have e1 : wb.cell? ⟨w2.heap.size, 1, none⟩ = some (.int .i64 e.port) := (blk_cell bk2 1).trans rfl
  have HE := Aside0.mk he
  clear bk bk2 he
  cases x3
  · go_wp2
    refine bodyPost_ret (v := (.tuple #[vEn e, .bool false])) (by simp [results, Tryz.results171, go_sem, zEn, *]) rfl ⟨e, by rw [HN.out]; rfl, ⟨fun e' h => by rw [HN.out] at h; cases h⟩, (hB.setCell (Nat.le_refl _) _).setCell (Nat.le_refl _) _⟩
  · go_wp2
    refine bodyPost_ret (v := (.tuple #[vEn e, .bool o.isSome])) (by simp [results, Tryz.results171, go_sem, zEn, *]) rfl ⟨e, by rw [HN.out]; rfl, ⟨fun e' h => by rw [HN.out] at h; simp only [if_true] at h; rw [HE.out, h]; rfl⟩, (hB.setCell (Nat.le_refl _) _).setCell (Nat.le_refl _) _⟩
end Go.Proofs.YtfjbjiklohjodaaGreatDoor.Z
namespace Go.Proofs.YtfjbjiklohjodaaGreatDoor.Z
open Go.RowKit Go.Proofs.YtfjbjiklohjodaaGreatDoorW.PrintWords
set_option linter.unusedVariables false
set_option linter.unusedSimpArgs false
structure Pc where
  size : Int
  named : Bool
  fin : En
  deriving DecidableEq, Inhabited
abbrev vPc (p : Pc) : Value := .agg #[.int .i64 p.size, .bool p.named, .int .i64 p.fin.addr, .int .i64 p.fin.port]
def pieceAt (l : List UInt8) : Pc := match nm l with
  | some e => ⟨(nameOf e).length, true, e⟩
  | none => ⟨1, false, zEn⟩
def pcs : Nat → List UInt8 → List Pc
  | 0, _ => []
  | n + 1, l => if l = [] then [] else pieceAt l :: pcs n (l.drop (pieceAt l).size.toNat)
theorem pieceAt_size {l : List UInt8} (h : l ≠ []) : 1 ≤ (pieceAt l).size ∧ (pieceAt l).size.toNat ≤ l.length := by
  unfold pieceAt
  cases hn : nm l with
  | none =>
    refine ⟨by simp, ?_⟩
    have : 0 < l.length := List.length_pos_iff.2 h
    simp; omega
  | some e =>
    obtain ⟨_, r, hr⟩ := nm_some hn
    refine ⟨by simp [nameOf]; omega, ?_⟩
    rw [hr]
    simp
end Go.Proofs.YtfjbjiklohjodaaGreatDoor.Z
namespace Go.Proofs.YtfjbjiklohjodaaGreatDoor.Z
open Go.RowKit Go.Proofs.YtfjbjiklohjodaaGreatDoorW.PrintWords Go.Proofs.YtfjbjiklohjodaaGreatDoorW.PrintLast
set_option linter.unusedVariables false
set_option linter.unusedSimpArgs false
attribute [local go_sem ↓] Go.wp_at_zero Go.wp_at_succ
attribute [local go_sem high] bytes_append
set_option maxHeartbeats 2000000 in
theorem impl_piece (l : List UInt8) (hl : l.length ≤ 100000000) (w : World) (hv : VarsIn w) :
    Calls Tryz.prog 132 #[vS l] w fun r w' => r = .returned (vPc (pieceAt l)) ∧ Below w.heap.size w w' := by
  have bk := heap_alloc_new w (.cells #[.int .i64 0, .bool false, .int .i64 0, .int .i64 0] 116)
  have hb0 : Below w.heap.size w (w.alloc (.cells #[.int .i64 0, .bool false, .int .i64 0, .int .i64 0] 116)) := below_alloc (Below.refl _ _) _
  have hcp := Aside0.mk (Tryz.strings_CutPrefix ⟨l.toArray⟩ ⟨#[64]⟩ (w.alloc (.cells #[.int .i64 0, .bool false, .int .i64 0, .int .i64 0] 116)))
  by_cases h64 : ∃ t, l = 64 :: t
  · obtain ⟨t, ht⟩ := h64
    have e1 : Go.Lib.trimPrefix l [64] = t := by rw [ht]; simp [Go.Lib.trimPrefix, Go.Lib.hasPrefix]
    have e2 : Go.Lib.hasPrefix l [64] = true := by rw [ht]; simp [Go.Lib.hasPrefix]
    simp only [List.toList_toArray] at hcp
    rw [e1, e2] at hcp
    have hlt : t.length ≤ 100000000 := by rw [ht] at hl; simp at hl; omega
    have HL := Aside0.mk ht
    clear ht e1 e2
    go_enter Tryz.func132, Tryz.ntmps132
    go_wp2_with (go_at_call 170; refine hcp.out.mono ?_; rintro r w1 ⟨rfl, rfl⟩)
    refine (impl_readName t hlt _ (hv.next hb0)).mono ?_
    rintro r w2 ⟨e, rfl, HE, hb2⟩
    replace bk := (hb2.block w.heap.size (by simp)).trans bk
    have hz0 : w.heap.size < w2.heap.size := blk_lt bk
    replace hb2 : Below w.heap.size w w2 := below_step hb0 hb2
    rw [← HL.out] at HE ⊢
    cases hn : nm l with
    | none =>
      have HP := Aside0.mk (show pieceAt l = ⟨1, false, zEn⟩ from by unfold pieceAt; rw [hn])
      clear hn
      have c0 : w2.cell? ⟨w.heap.size, 0, none⟩ = some (.int .i64 0) := (blk_cell bk 0).trans rfl
      have c1 : w2.cell? ⟨w.heap.size, 1, none⟩ = some (.bool false) := (blk_cell bk 1).trans rfl
      have c2 : w2.cell? ⟨w.heap.size, 2, none⟩ = some (.int .i64 0) := (blk_cell bk 2).trans rfl
      have c3 : w2.cell? ⟨w.heap.size, 3, none⟩ = some (.int .i64 0) := (blk_cell bk 3).trans rfl
      have f0 := blk_frozen bk 0
      have f1 := blk_frozen bk 1
      have f2 := blk_frozen bk 2
      have f3 := blk_frozen bk 3
      clear bk
      go_wp2
      refine bodyPost_ret (v := (vPc ⟨1, false, zEn⟩)) (by simp [results, Tryz.results132, go_sem, zEn, *]) rfl ⟨by rw [HP.out], ((((hb2.setCell (Nat.le_refl _) _).setCell (Nat.le_refl _) _).setCell (Nat.le_refl _) _).setCell (Nat.le_refl _) _).alloc (by simp; omega) _⟩
    | some e' =>
      obtain rfl := HE.out e' hn
      have HP := Aside0.mk (show pieceAt l = ⟨(nameOf e).length, true, e⟩ from by unfold pieceAt; rw [hn])
      clear hn HE
      go_upto_region 5 with fail
      obtain ⟨wb, hwb, hbb, bk2, hzb⟩ := box_as w2 (.cells #[.int .i64 e.addr, .int .i64 e.port] 62)
      rw [← hwb]
      clear hwb
      replace bk := (hbb.block _ hz0).trans bk
      have hB : Below w.heap.size w wb := below_step hb2 hbb
      have e0 : wb.cell? ⟨w2.heap.size, 0, none⟩ = some (.int .i64 e.addr) := (blk_cell bk2 0).trans rfl
      have e1 : wb.cell? ⟨w2.heap.size, 1, none⟩ = some (.int .i64 e.port) := (blk_cell bk2 1).trans rfl
      refine lin_start (fun w' => w'.cell? ⟨w2.heap.size, 0, none⟩ = some (.int .i64 e.addr) ∧ w'.cell? ⟨w2.heap.size, 1, none⟩ = some (.int .i64 e.port)) (true, [([], []), ([0], [0]), ([1], [1]), ([], []), ([2, 3], [2, 3]), ([4, 1, 0, 1, 2, 3, 4], [4])]) [0, 3, 1, 2, 4, 5] (by kernel_rfl) (by kernel_rfl) (by kernel_rfl) ⟨e0, e1⟩ ?_
      repeat (first | (refine lin_take rfl rfl (by kernel_rfl) (fun _ _ _ h => h) (by rfl) (v := ?_) (a' := ?_) ?_ ?_ ?_; rotate_left 2; (rintro w' ⟨s0, s1⟩; go_simp; with_reducible rfl); (simp only [List.getElem_toArray, List.getElem_cons_zero, List.getElem_cons_succ, Act.put, List.setIfInBounds_toArray, List.set_cons_zero, List.set_cons_succ]; rfl)) | (refine lin_off rfl rfl (by kernel_rfl) (fun _ _ _ h => h) (by rfl) (a' := ?_) ?_ ?_; rotate_left 1; (simp only [List.getElem_toArray, List.getElem_cons_zero, List.getElem_cons_succ, Act.put, List.setIfInBounds_toArray, List.set_cons_zero, List.set_cons_succ]; rfl)))
      refine lin_call rfl rfl rfl Tryz.func172 (by kernel_rfl) (by kernel_rfl) rfl (by rfl) (args := #[vEn e]) (by (try simp only [List.map_toArray, List.map_cons, List.map_nil]); first | done | rfl) (fun hS => ?_)
      refine (impl_name e _).mono ?_
      rintro r w4 ⟨rfl, hb4⟩
      refine ⟨_, rfl, ?_, ?_⟩
      · first | exact (hb4.cell (by first | exact hzb)).trans hS | (obtain ⟨s0, s1⟩ := hS; exact ⟨(hb4.cell (by first | exact hzb)).trans s0, (hb4.cell (by first | exact hzb)).trans s1⟩)
      refine lin_norm (a' := ?_) ?_ ?_; rotate_left 1; (simp only [List.getElem_toArray, List.getElem_cons_zero, List.getElem_cons_succ, Act.put, List.setIfInBounds_toArray, List.set_cons_zero, List.set_cons_succ]; rfl)
      repeat (first | (refine lin_take rfl rfl (by kernel_rfl) (fun _ _ _ h => h) (by rfl) (v := ?_) (a' := ?_) ?_ ?_ ?_; rotate_left 2; (rintro w' ⟨s0, s1⟩; go_simp; with_reducible rfl); (simp only [List.getElem_toArray, List.getElem_cons_zero, List.getElem_cons_succ, Act.put, List.setIfInBounds_toArray, List.set_cons_zero, List.set_cons_succ]; rfl)) | (refine lin_off rfl rfl (by kernel_rfl) (fun _ _ _ h => h) (by rfl) (a' := ?_) ?_ ?_; rotate_left 1; (simp only [List.getElem_toArray, List.getElem_cons_zero, List.getElem_cons_succ, Act.put, List.setIfInBounds_toArray, List.set_cons_zero, List.set_cons_succ]; rfl)))
      replace bk := (hb4.block w.heap.size (by show w.heap.size < wb.heap.size; omega)).trans bk
      have c0 : w4.cell? ⟨w.heap.size, 0, none⟩ = some (.int .i64 0) := (blk_cell bk 0).trans rfl
      have c1 : w4.cell? ⟨w.heap.size, 1, none⟩ = some (.bool false) := (blk_cell bk 1).trans rfl
      have c2 : w4.cell? ⟨w.heap.size, 2, none⟩ = some (.int .i64 0) := (blk_cell bk 2).trans rfl
      have c3 : w4.cell? ⟨w.heap.size, 3, none⟩ = some (.int .i64 0) := (blk_cell bk 3).trans rfl
      have f0 := blk_frozen bk 0
      have f1 := blk_frozen bk 1
      have f2 := blk_frozen bk 2
      have f3 := blk_frozen bk 3
      have hB4 := below_step (below_drew hB) hb4
      refine lin_skip (w1 := (((w4.setCell ⟨w.heap.size, 0, none⟩ (.int .i64 ((nameOf e).length : Int))).setCell ⟨w.heap.size, 1, none⟩ (.bool true)).setCell ⟨w.heap.size, 2, none⟩ (.int .i64 e.addr)).setCell ⟨w.heap.size, 3, none⟩ (.int .i64 e.port)) rfl rfl (by kernel_rfl) (by rfl) (fun _ => ?_) (fun hS => ?_) ?_
      · go_simp
      · obtain ⟨s0, s1⟩ := hS
        have hne : w2.heap.size ≠ w.heap.size := by omega
        constructor <;> simp [World.cell?_setCell_other, hne, hne.symm, s0, s1]
      refine lin_done (by kernel_rfl) ?_
      clear bk
      go_wp2
      refine bodyPost_ret (v := (vPc ⟨(nameOf e).length, true, e⟩)) (by simp [results, Tryz.results132, go_sem, zEn, *]) rfl ⟨by rw [HP.out], (((hB4.setCell (Nat.le_refl _) _).setCell (Nat.le_refl _) _).setCell (Nat.le_refl _) _).setCell (Nat.le_refl _) _⟩
  · have e2 : Go.Lib.hasPrefix l [64] = false := by
      cases l with
      | nil => rfl
      | cons c t =>
        have hne : ((64 : UInt8) == c) = false := beq_eq_false_iff_ne.2 (fun e => h64 ⟨t, by rw [e]⟩)
        show ((64 : UInt8) == c && _) = false
        rw [hne, Bool.false_and]
    have hn : nm l = none := by
      cases l with
      | nil => rfl
      | cons c t =>
        have hne : (c == (64 : UInt8)) = false := beq_eq_false_iff_ne.2 (fun e => h64 ⟨t, by rw [e]⟩)
        show (if (c == 64 && t.contains 59) = true then _ else none) = none
        rw [hne, Bool.false_and]
        rfl
    have HP := Aside0.mk (show pieceAt l = ⟨1, false, zEn⟩ from by unfold pieceAt; rw [hn])
    simp only [List.toList_toArray] at hcp
    rw [e2] at hcp
    clear hn e2 bk
    go_enter Tryz.func132, Tryz.ntmps132
    go_wp2_with (go_at_call 170; refine hcp.out.mono ?_; rintro r w1 ⟨rfl, rfl⟩)
    refine bodyPost_ret (v := (vPc ⟨1, false, zEn⟩)) (by simp [results, Tryz.results132, go_sem, zEn, *]) rfl ⟨by rw [HP.out], (by repeat (first | (with_reducible exact (Below.refl _ _)) | (with_reducible apply below_alloc) | (with_reducible apply pw_below_drewN) | (with_reducible apply below_drew1) | with_reducible refine below_set ?_ (by first | (with_reducible exact Nat.le_refl _) | (with_reducible assumption) | (simp; done) | omega | (simp; omega))))⟩
end Go.Proofs.YtfjbjiklohjodaaGreatDoor.Z
namespace Go.Proofs.YtfjbjiklohjodaaGreatDoor.Q
open Go.RowKit Go.Proofs.YtfjbjiklohjodaaGreatDoorW.PrintWords Go.Proofs.YtfjbjiklohjodaaGreatDoor.Z
set_option linter.unusedVariables false
set_option linter.unusedSimpArgs false
abbrev bl (a : ByteArray) : List UInt8 := a.data.toList
theorem bl_mk (a : ByteArray) : (⟨(bl a).toArray⟩ : ByteArray) = a := by cases a; simp
theorem bl_len (a : ByteArray) : (bl a).length = a.size := rfl
theorem bl_of (l : List UInt8) : bl (⟨l.toArray⟩ : ByteArray) = l := rfl
theorem vS_bl (a : ByteArray) : vS (bl a) = .string a := by show Value.string _ = _; rw [bl_mk]
def impl_TextOk.f (a0 : ByteArray) : Option Bool := if a0.size ≤ 140737488355328 then some (textOk (bl a0)) else none
theorem impl_TextOk.calls (a0 : ByteArray) (r : Bool) (w : World) (h : impl_TextOk.f a0 = some r) :
    Calls Tryz.prog 67 #[.string a0] w fun e w' => e = .returned (.bool r) ∧ Below w.heap.size w w' := by
  unfold impl_TextOk.f at h
  split at h
  · rename_i hs
    obtain rfl := Option.some.inj h
    rw [← vS_bl]
    exact impl_TextOk (bl a0) (by rw [bl_len]; exact hs) w
  · cases h
def impl_held.f (a0 : ByteArray) : Option Int := if a0.size ≤ 140737488355328 then some (heldN (bl a0)) else none
theorem impl_held.calls (a0 : ByteArray) (r : Int) (w : World) (h : impl_held.f a0 = some r) :
    Calls Tryz.prog 131 #[.string a0] w fun e w' => e = .returned (.int .i64 r) ∧ Below w.heap.size w w' := by
  unfold impl_held.f at h
  split at h
  · rename_i hs
    obtain rfl := Option.some.inj h
    rw [← vS_bl]
    exact impl_held (bl a0) (by rw [bl_len]; exact hs) w
  · cases h
def impl_name.f (a0_0 : Int) (a0_1 : Int) : Option ByteArray := some ⟨(nameOf ⟨a0_0, a0_1⟩).toArray⟩
theorem impl_name.calls (a0_0 : Int) (a0_1 : Int) (r : ByteArray) (w : World) (h : impl_name.f a0_0 a0_1 = some r) :
    Calls Tryz.prog 172 #[.agg #[.int .i64 a0_0, .int .i64 a0_1]] w fun e w' => e = .returned (.string r) ∧ Below w.heap.size w w' := by
  obtain rfl := Option.some.inj h
  exact impl_name ⟨a0_0, a0_1⟩ w
def impl_piece.f (a0 : ByteArray) : Option (Int × Bool × Int × Int) := if a0.size ≤ 100000000 then some ((pieceAt (bl a0)).size, (pieceAt (bl a0)).named, (pieceAt (bl a0)).fin.addr, (pieceAt (bl a0)).fin.port) else none
theorem impl_piece.calls (a0 : ByteArray) (r1 : Int) (r2 : Bool) (r3 : Int) (r4 : Int) (w : World) (hV : VarsIn w) (h : impl_piece.f a0 = some (r1, r2, r3, r4)) :
    Calls Tryz.prog 132 #[.string a0] w fun e w' => e = .returned (.agg #[.int .i64 r1, .bool r2, .int .i64 r3, .int .i64 r4]) ∧ Below w.heap.size w w' := by
  unfold impl_piece.f at h
  split at h
  · rename_i hs
    have h2 := Option.some.inj h
    simp only [Prod.mk.injEq] at h2
    obtain ⟨rfl, rfl, rfl, rfl⟩ := h2
    rw [← vS_bl]
    exact impl_piece (bl a0) (by rw [bl_len]; exact hs) w hV
  · cases h
end Go.Proofs.YtfjbjiklohjodaaGreatDoor.Q
namespace Go.Proofs.YtfjbjiklohjodaaGreatDoor.Z
open Go.RowKit Go.Proofs.YtfjbjiklohjodaaGreatDoorW.PrintWords
set_option linter.unusedVariables false
set_option linter.unusedSimpArgs false
attribute [local go_sem ↓] Go.wp_at_zero Go.wp_at_succ
attribute [local go_sem high] eqEn eqPr
theorem infoPr : (Tryz.prog.info? 111).map (fun i => (i.zero, i.size, i.bytes)) = some (some (.agg #[(.int .i64 0), (.int .i64 0), (.int .i64 0)]), 3, 24) := by kernel_rfl
theorem laws_toEnd (e : En) (w : World) :
    Calls Tryz.prog 94 #[vEn e] w fun r w' => r = .returned (vEn e) ∧ Below w.heap.size w w' := by
  go_enter Tryz.func94, Tryz.ntmps94
  go_wp2
  refine bodyPost_ret (v := vEn e) (by simp [results, Tryz.results94, go_sem, zEn, *]) rfl ⟨rfl, (by repeat (first | (with_reducible exact (Below.refl _ _)) | (with_reducible apply below_alloc) | (with_reducible apply pw_below_drewN) | (with_reducible apply below_drew1) | with_reducible refine below_set ?_ (by first | (with_reducible exact Nat.le_refl _) | (with_reducible assumption) | (simp; done) | omega | (simp; omega))))⟩
def filled {α : Type} (l : List α) (z : α) (k : Nat) : List α := l.take k ++ List.replicate (l.length - k) z
end Go.Proofs.YtfjbjiklohjodaaGreatDoor.Z
namespace Go.Proofs.YtfjbjiklohjodaaGreatDoor.Z
open Go.RowKit Go.Proofs.YtfjbjiklohjodaaGreatDoorW.PrintWords
set_option linter.unusedVariables false
set_option linter.unusedSimpArgs false
attribute [local go_sem ↓] Go.wp_at_zero Go.wp_at_succ
attribute [local go_sem high] eqEn eqPr
def Cl {α : Type} (d : Kd α) (e : Nat) (w : World) (base : Nat) (v : Value) (xs : List α) : Prop := ∃ A c, v = .slice A xs.length xs.length ∧ d.R e w base (fun _ => True) (.slice A xs.length c) xs
theorem Cl.below {α : Type} {d : Kd α} {e : Nat} {w w1 : World} {base : Nat} {v : Value} {xs : List α} (h : Cl d e w base v xs) (hb : Below w.heap.size w w1) : Cl d e w1 base v xs := by
  obtain ⟨A, c, e, hR⟩ := h
  exact ⟨A, c, e, Kd.R_below hR hb⟩
theorem Cl.lower {α : Type} {d : Kd α} {e : Nat} {w : World} {base base' : Nat} {v : Value} {xs : List α} (h : Cl d e w base v xs) (hb : base' ≤ base) : Cl d e w base' v xs := by
  obtain ⟨A, c, e, hR⟩ := h
  exact ⟨A, c, e, Kd.R_lower hR hb⟩
theorem Cl.reads {α : Type} {d : Kd α} {e : Nat} {w : World} {base : Nat} {v : Value} {xs : List α} (h : Cl d e w base v xs) : ∃ A, v = .slice A xs.length xs.length ∧ d.C w A xs.length xs := by
  obtain ⟨A, c, e, hR⟩ := h
  exact ⟨A, e, (Kd.R_reads' hR).2.2⟩
theorem Clone_Pair (A : Option Addr) (n c : Nat) (m : List Pr) (w : World) (hC : Kd.C kPr w A n m) (hn : n ≤ 1099511627776) :
    Calls Tryz.prog 128 #[.slice A n c] w fun r w' => ∃ v, r = .returned v ∧ Kd.R kPr 111 w' w.heap.size (fun _ => True) v m ∧ Below w.heap.size w w' := by
  have heq := fun (w : World) => Lib.run_eql_slice_nil (P := Tryz.prog) w 23 111 A n c 0 0 Tryz.underlying23
  cases A with
  | none =>
    have h0 : m = [] := by
      have h1 := hC.1
      by_cases hp : 0 < n
      · obtain ⟨ad, h2, _⟩ := hC.2.2 hp
        cases h2
      · exact List.length_eq_zero_iff.1 (by omega)
    subst h0
    go_enter Tryz.func128, Tryz.ntmps128
    go_wp2
    go_ret
    exact ⟨_, rfl, Kd.R_nil _ _ _ _ _, Below.refl _ _⟩
  | some ad =>
    go_enter Tryz.func128, Tryz.ntmps128
    go_wp2_with (first | ((with_reducible refine gate_dst (N := 5) rfl ?_); refine Kd.R_lit kPr _ 111 ?hg (N := 5) ?hd (xs := ([] : List Pr)) (inner := []) (ok := fun _ => True) (okp := fun _ => True) ?hr ?hp (fun _ hk => hk) trivial (Below.refl _ _) (by first | exact Nat.le_refl _ | omega) (by simp) ?_; (case hd => rfl); (case hg => rfl); (case hr => first | (go_simp; done) | (go_simp; rfl)); (case hp => exact (Reps.none _ _)); intro v1 w1 ho1 hb1 _ _) | (at_builtin; refine Kd.R_append_rows kPr (w0 := _) _ rfl (.tmp 5) (.tmp 6) 23 111 (.agg #[(.int .i64 0), (.int .i64 0), (.int .i64 0)]) 24 rfl Tryz.underlying23 infoPr rfl (by decide) (by omega) v1 [] m (some ad) n c (fun _ => True) (fun _ => False) rfl rfl ho1 (Kd.C_below hC hb1) (fun _ _ h => h) (fun _ h => h.elim) (fun _ _ => trivial) hb1 (by first | exact Nat.le_refl _ | exact Below.size hb1 | omega) (by simp; omega) ?_; intro v2 w2 ho2 hb2 _ _))
    go_ret
    exact ⟨_, rfl, by simpa using ho2, hb2⟩
theorem Clip_Pair (A : Option Addr) (n c : Nat) (w : World) (hc : n ≤ c) :
    Calls Tryz.prog 127 #[.slice A n c] w fun r w' => r = .returned (.slice A n n) ∧ w = w' := by
  have h0 : (0 : Int) ≤ (n : Int) := Int.natCast_nonneg _
  have h1 : (n : Int) ≤ (c : Int) := by omega
  go_enter Tryz.func127, Tryz.ntmps127
  go_wp2
  go_ret
  exact ⟨by cases A <;> simp [Addr.add], rfl⟩
theorem impl_copied (A : Option Addr) (n c : Nat) (m : List Pr) (w : World) (hC : Kd.C kPr w A n m) (hn : n ≤ 1099511627776) :
    Calls Tryz.prog 70 #[.slice A n c] w fun r w' => ∃ v, r = .returned v ∧ Cl kPr 111 w' w.heap.size v m ∧ Below w.heap.size w w' := by
  go_enter Tryz.func70, Tryz.ntmps70
  go_wp2_with fail; refine (Clone_Pair A n c m w hC hn).mono ?_; rintro e w1 ⟨v1, rfl, hR, hb⟩
  obtain ⟨A1, c1, rfl, hl1, _⟩ := Kd.R_reads hR
  go_wp2_with fail; refine (Clip_Pair A1 m.length c1 _ hl1).mono ?_; rintro e w2 ⟨rfl, rfl⟩
  go_wp2
  go_ret
  exact ⟨_, rfl, ⟨A1, c1, rfl, hR⟩, hb⟩
end Go.Proofs.YtfjbjiklohjodaaGreatDoor.Z
namespace Go.Proofs.YtfjbjiklohjodaaGreatDoor.Z
open Go.RowKit Go.Proofs.YtfjbjiklohjodaaGreatDoorW.PrintWords
set_option linter.unusedVariables false
set_option linter.unusedSimpArgs false
attribute [local go_sem ↓] Go.wp_at_zero Go.wp_at_succ
attribute [local go_sem high] eqEn eqPr
section
variable {P : Program} {ops : Array Oper} {rest : List Oper} {o : Oper} {a : Act} {Q : Exit → Act → World → Prop} {α : Type}
theorem C_append_full (d : Kd α) {w0 W : World} (base : Nat) (hgd : o.guard = none) (s x : Operand) (t e : TypeId) (z : Value) (bytes : Nat)
    (ho : o.op = .call { callee := .builtin .append, args := #[s, x], argTypes := #[t, t] })
    (ht : P.underlying t = some (.slice e)) (hinfo : (P.info? e).map (fun i => (i.zero, i.size, i.bytes)) = some (some z, d.sz, bytes)) (hz : z.cells.size = d.sz) (hs0 : 0 < d.sz) (hb0 : 0 < bytes)
    (A : Option Addr) (n : Nat) (xs : List α) (p : α) (cs : List Value) (hs : a.eval s = .slice A n n) (hx : a.eval x = .slice (some ⟨W.heap.size, 0, none⟩) 1 1)
    (hKM : ∀ w w' b ok x cs, d.K w x cs → d.M w' b ok x cs) (hp : d.K W p cs) (hC : d.C W A n xs) (HB : Below base w0 W) (hbase : base ≤ W.heap.size) (hl : (n + 1) * bytes ≤ 140737488355328)
    (h : ∀ v1 w1, d.R e w1 base (fun _ => True) v1 (xs ++ [p]) → Below base w0 w1 → W.grownBy w1 none → wpList P ops Q rest (a.put o.dst v1) w1) :
    wpList P ops Q (o :: rest) a (W.alloc (.cells cs.toArray e)) := by
  obtain ⟨i0, hi, hzz⟩ := Option.map_eq_some_iff.1 hinfo
  simp only [Prod.mk.injEq] at hzz
  obtain ⟨hz0, hz1, hz2⟩ := hzz
  have hm : xs.length = n := hC.1
  have hlen : n + 1 ≤ 140737488355328 := Nat.le_trans (Nat.le_mul_of_pos_right _ hb0) hl
  have hin : ∃ inner, Reps (d.K W) d.sz xs inner ∧ ∀ b, A = some b → ∀ j u, inner[j]? = some u → W.cell? (b.add j) = some u := by
    cases A with
    | none =>
      have h0 : xs = [] := by
        rcases Nat.eq_zero_or_pos n with h0 | h0
        · exact List.length_eq_zero_iff.1 (by omega)
        · obtain ⟨ad, h, _⟩ := hC.2.2 h0
          cases h
      subst h0
      exact ⟨[], Reps.none _ _, fun b h => by cases h⟩
    | some ad =>
      obtain ⟨inner, h1, h2⟩ := ReadsRow.inner_ hC
      exact ⟨inner, h1, fun b hb => by cases hb; exact h2⟩
  obtain ⟨inner, hr, hcells⟩ := hin
  have hone : ∀ u ∈ cs, u.oneCell' = true := d.K_one hp
  have hcl : cs.length = d.sz := d.K_len hp
  have hblk : ∀ j u, cs[j]? = some u → (W.alloc (.cells cs.toArray e)).cell? (Addr.add ⟨W.heap.size, 0, none⟩ j) = some u := by
    intro j u hu
    have h1 := blk_cell (heap_alloc_new W (.cells cs.toArray e)) j
    have e1 : Addr.add ⟨W.heap.size, 0, none⟩ j = ⟨W.heap.size, j, none⟩ := by unfold Addr.add; split <;> simp_all
    rw [e1, h1]
    simpa using hu
  refine wpList_append_grows (W.alloc (.cells cs.toArray e)) hgd s x t ho e i0 z d.sz bytes ht hi hz0 hz1 hz2 hz hs0 A n n inner hs (fun hA => ?_) (by rw [hr.1, hm]) (fun b hb j u hu => ?_) ⟨W.heap.size, 0, none⟩ 1 1 cs hx (by rw [hcl, Nat.one_mul]) hblk hone (by omega) (by simp only [maxLen]; omega) hl ?_
  · subst hA
    rcases Nat.eq_zero_or_pos n with h0 | h0
    · exact ⟨h0, h0⟩
    · obtain ⟨ad, h, _⟩ := hC.2.2 h0
      cases h
  · have h1 := hcells b hb j u hu
    rw [← h1]
    exact (below_alloc (Below.refl W.heap.size W) _).cell (World.block_lt_of_cell? W _ h1)
  · intro v' w' hown hg
    have hg2 : W.grownBy w' none := (World.grownBy_alloc W (.cells cs.toArray e) none).trans hg
    refine h v' w' (Kd.R_lower (base := (W.alloc (.cells cs.toArray e)).heap.size) ⟨fun _ _ => trivial, inner ++ cs, by rw [List.length_append, List.length_singleton, hm]; exact hown, ?_⟩ ?_) ?_ hg2
    · exact (hr.imp_ (fun _ _ hq => hKM _ _ _ _ _ _ hq)).snoc (hKM _ _ _ _ _ _ hp) hcl
    · exact Nat.le_trans hbase (below_alloc (Below.refl W.heap.size W) _).size
    · exact HB.grown hg2 hbase (fun k hk => by cases hk)
end
theorem kPr_KM (w w' : World) (b : Nat) (ok : Nat → Prop) (x : Pr) (cs : List Value) (h : kPr.K w x cs) : kPr.M w' b ok x cs := by
  obtain rfl := kPr_open h
  exact kPr_mkM _ _ _ x
end Go.Proofs.YtfjbjiklohjodaaGreatDoor.Z
namespace Go.Proofs.YtfjbjiklohjodaaGreatDoor.Z
open Go.RowKit Go.Proofs.YtfjbjiklohjodaaGreatDoorW.PrintWords
set_option linter.unusedVariables false
set_option linter.unusedSimpArgs false
attribute [local go_sem ↓] Go.wp_at_zero Go.wp_at_succ
attribute [local go_sem high] eqEn eqPr
def outI (m : List Pr) (e : En) : List Pr × Int × Bool :=
  if portFrom m e 0 ≠ 0 then (m, portFrom m e 0, true) else if 7 < m.length then (m, 0, false) else (m ++ [⟨10 + m.length, e⟩], 10 + m.length, true)
set_option maxHeartbeats 1000000 in
theorem impl_out (A : Option Addr) (n c : Nat) (m : List Pr) (e : En) (w : World) (hC : Kd.C kPr w A n m) (hn : n ≤ 1099511627776) :
    Calls Tryz.prog 174 #[.slice A n c, vEn e] w fun r w' => ∃ v, r = .returned (.tuple #[v, .int .i64 (outI m e).2.1, .bool (outI m e).2.2]) ∧ Cl kPr 111 w' w.heap.size v (outI m e).1 ∧ Below w.heap.size w w' := by
  obtain rfl : m.length = n := hC.1
  have HC := Aside0.mk hC; clear hC
  by_cases h0 : portFrom m e 0 ≠ 0
  · have HV : Aside0 (outI m e = (m, portFrom m e 0, true)) := ⟨by unfold outI; rw [if_pos h0]⟩
    obtain ⟨p, hp⟩ : ∃ p, p = portFrom m e 0 := ⟨_, rfl⟩
    rw [← hp] at h0 HV
    have t0 : (p != 0) = true := bne_iff_ne.2 h0
    have HP := Aside0.mk hp; clear hp h0
    go_enter Tryz.func174, Tryz.ntmps174
    go_wp2_with (first | (go_at_call 70; refine (impl_copied A m.length c m _ (Kd.C_below HC.out (by repeat (first | (with_reducible exact (Below.refl _ _)) | (with_reducible apply below_alloc) | (with_reducible apply pw_below_drewN) | (with_reducible apply below_drew1) | with_reducible refine below_set ?_ (by first | (with_reducible exact Nat.le_refl _) | (with_reducible assumption) | (simp; done) | omega | (simp; omega))))) hn).mono ?_; rintro r w1 ⟨v1, rfl, hL1, hb1⟩; obtain ⟨hb1c, hb1f, hb1z⟩ := bcell hb1; (try simp at hb1z); (try have hb10 : w.heap.size < w1.heap.size := by omega); (try have hb11 : w.heap.size + 1 < w1.heap.size := by omega); (try have hb12 : w.heap.size + 2 < w1.heap.size := by omega)) | (go_at_call 76; refine (impl_port A m.length c m e _ (Kd.C_below HC.out (below_step (by repeat (first | (with_reducible exact (Below.refl _ _)) | (with_reducible apply below_alloc) | (with_reducible apply pw_below_drewN) | (with_reducible apply below_drew1) | with_reducible refine below_set ?_ (by first | (with_reducible exact Nat.le_refl _) | (with_reducible assumption) | (simp; done) | omega | (simp; omega)))) hb1))).mono ?_; rintro r w2 ⟨rfl, hb2⟩; obtain ⟨hb2c, hb2f, hb2z⟩ := bcell hb2; (try simp at hb2z); (try have hb20 : w.heap.size < w2.heap.size := by omega); (try have hb21 : w.heap.size + 1 < w2.heap.size := by omega); (try have hb22 : w.heap.size + 2 < w2.heap.size := by omega); rw [← HP.out]))
    go_ret3
    exact ⟨v1, by rw [HV.out]; rfl, by rw [HV.out]; exact (hL1.below hb2).lower (by simp), below_step (below_step (by repeat (first | (with_reducible exact (Below.refl _ _)) | (with_reducible apply below_alloc) | (with_reducible apply pw_below_drewN) | (with_reducible apply below_drew1) | with_reducible refine below_set ?_ (by first | (with_reducible exact Nat.le_refl _) | (with_reducible assumption) | (simp; done) | omega | (simp; omega)))) hb1) hb2⟩
  · have h1 : portFrom m e 0 = 0 := by omega
    by_cases h7 : 7 < m.length
    · have HV : Aside0 (outI m e = (m, 0, false)) := ⟨by unfold outI; rw [if_neg h0, if_pos h7]⟩
      have HP := Aside0.mk h1; clear h1 h0
      have hs : (10 : Int) + (m.length : Int) ≤ 9223372036854775807 := by omega
      have t1 : decide ((10 : Int) + (m.length : Int) > 17) = true := decide_eq_true (by omega)
      have t2 : decide ((17 : Int) < 10 + (m.length : Int)) = true := decide_eq_true (by omega)
      go_enter Tryz.func174, Tryz.ntmps174
      go_wp2_with (first | (go_at_call 70; refine (impl_copied A m.length c m _ (Kd.C_below HC.out (by repeat (first | (with_reducible exact (Below.refl _ _)) | (with_reducible apply below_alloc) | (with_reducible apply pw_below_drewN) | (with_reducible apply below_drew1) | with_reducible refine below_set ?_ (by first | (with_reducible exact Nat.le_refl _) | (with_reducible assumption) | (simp; done) | omega | (simp; omega))))) hn).mono ?_; rintro r w1 ⟨v1, rfl, hL1, hb1⟩; obtain ⟨hb1c, hb1f, hb1z⟩ := bcell hb1; (try simp at hb1z); (try have hb10 : w.heap.size < w1.heap.size := by omega); (try have hb11 : w.heap.size + 1 < w1.heap.size := by omega); (try have hb12 : w.heap.size + 2 < w1.heap.size := by omega)) | (go_at_call 76; refine (impl_port A m.length c m e _ (Kd.C_below HC.out (below_step (by repeat (first | (with_reducible exact (Below.refl _ _)) | (with_reducible apply below_alloc) | (with_reducible apply pw_below_drewN) | (with_reducible apply below_drew1) | with_reducible refine below_set ?_ (by first | (with_reducible exact Nat.le_refl _) | (with_reducible assumption) | (simp; done) | omega | (simp; omega)))) hb1))).mono ?_; rintro r w2 ⟨rfl, hb2⟩; obtain ⟨hb2c, hb2f, hb2z⟩ := bcell hb2; (try simp at hb2z); (try have hb20 : w.heap.size < w2.heap.size := by omega); (try have hb21 : w.heap.size + 1 < w2.heap.size := by omega); (try have hb22 : w.heap.size + 2 < w2.heap.size := by omega); rw [HP.out]))
      go_ret3
      exact ⟨v1, by rw [HV.out]; rfl, by rw [HV.out]; exact (hL1.below hb2).lower (by simp), below_step (below_step (by repeat (first | (with_reducible exact (Below.refl _ _)) | (with_reducible apply below_alloc) | (with_reducible apply pw_below_drewN) | (with_reducible apply below_drew1) | with_reducible refine below_set ?_ (by first | (with_reducible exact Nat.le_refl _) | (with_reducible assumption) | (simp; done) | omega | (simp; omega)))) hb1) hb2⟩
    · have HV : Aside0 (outI m e = (m ++ [⟨10 + m.length, e⟩], 10 + (m.length : Int), true)) := ⟨by unfold outI; rw [if_neg h0, if_neg h7]⟩
      obtain ⟨m3, hm3⟩ : ∃ m3, m3 = m ++ [⟨10 + m.length, e⟩] := ⟨_, rfl⟩
      rw [← hm3] at HV
      have HM := Aside0.mk hm3; clear hm3
      have HP := Aside0.mk h1; clear h1 h0
      have hs : (10 : Int) + (m.length : Int) ≤ 9223372036854775807 := by omega
      have t1 : decide ((10 : Int) + (m.length : Int) > 17) = false := decide_eq_false (by omega)
      have t2 : decide ((17 : Int) < 10 + (m.length : Int)) = false := decide_eq_false (by omega)
      go_enter Tryz.func174, Tryz.ntmps174
      go_wp2_with (first | (go_at_call 70; refine (impl_copied A m.length c m _ (Kd.C_below HC.out (by repeat (first | (with_reducible exact (Below.refl _ _)) | (with_reducible apply below_alloc) | (with_reducible apply pw_below_drewN) | (with_reducible apply below_drew1) | with_reducible refine below_set ?_ (by first | (with_reducible exact Nat.le_refl _) | (with_reducible assumption) | (simp; done) | omega | (simp; omega))))) hn).mono ?_; rintro r w1 ⟨v1, rfl, hL1, hb1⟩; obtain ⟨hb1c, hb1f, hb1z⟩ := bcell hb1; (try simp at hb1z); (try have hb10 : w.heap.size < w1.heap.size := by omega); (try have hb11 : w.heap.size + 1 < w1.heap.size := by omega); (try have hb12 : w.heap.size + 2 < w1.heap.size := by omega)) | (go_at_call 76; refine (impl_port A m.length c m e _ (Kd.C_below HC.out (below_step (by repeat (first | (with_reducible exact (Below.refl _ _)) | (with_reducible apply below_alloc) | (with_reducible apply pw_below_drewN) | (with_reducible apply below_drew1) | with_reducible refine below_set ?_ (by first | (with_reducible exact Nat.le_refl _) | (with_reducible assumption) | (simp; done) | omega | (simp; omega)))) hb1))).mono ?_; rintro r w2 ⟨rfl, hb2⟩; obtain ⟨hb2c, hb2f, hb2z⟩ := bcell hb2; (try simp at hb2z); (try have hb20 : w.heap.size < w2.heap.size := by omega); (try have hb21 : w.heap.size + 1 < w2.heap.size := by omega); (try have hb22 : w.heap.size + 2 < w2.heap.size := by omega); rw [HP.out]; obtain ⟨A1, rfl, hC1⟩ := (hL1.below hb2).reads) | (at_builtin; refine C_append_full kPr (w0 := w) w.heap.size rfl (.tmp 25) (.tmp 29) 23 111 (.agg #[(.int .i64 0), (.int .i64 0), (.int .i64 0)]) 24 rfl Tryz.underlying23 infoPr rfl (by decide) (by omega) A1 m.length m ⟨10 + m.length, e⟩ [.int .i64 (10 + m.length), .int .i64 e.addr, .int .i64 e.port] rfl rfl kPr_KM (kPr_mk _ _) hC1 (below_step (below_step (by repeat (first | (with_reducible exact (Below.refl _ _)) | (with_reducible apply below_alloc) | (with_reducible apply pw_below_drewN) | (with_reducible apply below_drew1) | with_reducible refine below_set ?_ (by first | (with_reducible exact Nat.le_refl _) | (with_reducible assumption) | (simp; done) | omega | (simp; omega)))) hb1) hb2) (by omega) (by omega) ?_; intro v3 w3 hR3 hb3 hg3; rw [← HM.out] at hR3; obtain ⟨A3, c3, rfl, hl3, _⟩ := Kd.R_reads hR3) | (go_at_call 127; refine (Clip_Pair A3 _ c3 _ hl3).mono ?_; rintro r w4 ⟨rfl, rfl⟩))
      go_ret3
      exact ⟨_, by rw [HV.out]; rfl, by rw [HV.out]; exact ⟨A3, c3, rfl, hR3⟩, hb3⟩
end Go.Proofs.YtfjbjiklohjodaaGreatDoor.Z
namespace Go.Proofs.YtfjbjiklohjodaaGreatDoor.Q
open Go.RowKit Go.Proofs.YtfjbjiklohjodaaGreatDoorW.PrintWords Go.Proofs.YtfjbjiklohjodaaGreatDoorW.PrintMore Go.Proofs.YtfjbjiklohjodaaGreatDoor.Z
set_option linter.unusedVariables false
set_option linter.unusedSimpArgs false
attribute [local go_sem ↓] Go.wp_at_zero Go.wp_at_succ
theorem infoqPair : (Tryz.prog.info? 111).map (fun i => (i.zero, i.size, i.bytes)) = some (some (.agg #[(.int .i64 0), (.int .i64 0), (.int .i64 0)]), 3, 24) := by kernel_rfl
theorem infoqPart : (Tryz.prog.info? 109).map (fun i => (i.zero, i.size, i.bytes)) = some (some (.agg #[(.int .i64 0), (.string ⟨#[]⟩)]), 2, 24) := by kernel_rfl
theorem clone_Pair (A : Option Addr) (n c : Nat) (m : List S111) (w : World) (hC : Kd.C k111 w A n m) (hn : n ≤ 1099511627776) :
    Calls Tryz.prog 128 #[.slice A n c] w fun r w' => ∃ v, r = .returned v ∧ Kd.R k111 111 w' w.heap.size (fun _ => True) v m ∧ Below w.heap.size w w' := by
  have heq := fun (w : World) => Lib.run_eql_slice_nil (P := Tryz.prog) w 23 111 A n c 0 0 Tryz.underlying23
  cases A with
  | none =>
    have h0 : m = [] := by
      have h1 := hC.1
      by_cases hp : 0 < n
      · obtain ⟨ad, h2, _⟩ := hC.2.2 hp
        cases h2
      · exact List.length_eq_zero_iff.1 (by omega)
    subst h0
    go_enter Tryz.func128, Tryz.ntmps128
    go_wp2
    go_ret
    exact ⟨_, rfl, Kd.R_nil _ _ _ _ _, Below.refl _ _⟩
  | some ad =>
    go_enter Tryz.func128, Tryz.ntmps128
    go_wp2_with (first | ((with_reducible refine gate_dst (N := 5) rfl ?_); refine Kd.R_lit k111 _ 111 ?hg (N := 5) ?hd (xs := ([] : List S111)) (inner := []) (ok := fun _ => True) (okp := fun _ => True) ?hr ?hp (fun _ hk => hk) trivial (Below.refl _ _) (by first | exact Nat.le_refl _ | omega) (by simp) ?_; (case hd => rfl); (case hg => rfl); (case hr => first | (go_simp; done) | (go_simp; rfl)); (case hp => exact (Reps.none _ _)); intro v1 w1 ho1 hb1 _ _) | (at_builtin; refine Kd.R_append_rows k111 (w0 := _) _ rfl (.tmp 5) (.tmp 6) 23 111 (.agg #[(.int .i64 0), (.int .i64 0), (.int .i64 0)]) 24 rfl Tryz.underlying23 infoqPair rfl (by decide) (by omega) v1 [] m (some ad) n c (fun _ => True) (fun _ => False) rfl rfl ho1 (Kd.C_below hC hb1) (fun _ _ h => h) (fun _ h => h.elim) (fun _ _ => trivial) hb1 (by first | exact Nat.le_refl _ | exact Below.size hb1 | omega) (by simp; omega) ?_; intro v2 w2 ho2 hb2 _ _))
    go_ret
    exact ⟨_, rfl, by simpa using ho2, hb2⟩
def slices_Clone_Pair.f (l0 : List S111) : Option (List S111) := if l0.length ≤ 1099511627776 then some l0 else none
theorem slices_Clone_Pair.calls (A0 : Option Addr) (c0 : Nat) (l0 : List (S111)) (r : List (S111)) (w : World) (hr0 : Kd.C k111 w A0 l0.length l0) (hc0 : l0.length ≤ c0) (h : slices_Clone_Pair.f l0 = some r) :
    Calls Tryz.prog 128 #[.slice A0 l0.length c0] w fun e w' => ∃ v0_ : Value, e = .returned (v0_) ∧ Kd.R k111 111 w' w.heap.size (fun _ => True) v0_ r ∧ Below w.heap.size w w' := by
  unfold slices_Clone_Pair.f at h
  split at h
  · rename_i hs
    obtain rfl := Option.some.inj h
    exact clone_Pair A0 l0.length c0 l0 w hr0 hs
  · cases h
theorem clone_Part (A : Option Addr) (n c : Nat) (m : List S109) (w : World) (hC : Kd.C k109 w A n m) (hn : n ≤ 1099511627776) :
    Calls Tryz.prog 126 #[.slice A n c] w fun r w' => ∃ v, r = .returned v ∧ Kd.R k109 109 w' w.heap.size (fun _ => True) v m ∧ Below w.heap.size w w' := by
  have heq := fun (w : World) => Lib.run_eql_slice_nil (P := Tryz.prog) w 24 109 A n c 0 0 Tryz.underlying24
  cases A with
  | none =>
    have h0 : m = [] := by
      have h1 := hC.1
      by_cases hp : 0 < n
      · obtain ⟨ad, h2, _⟩ := hC.2.2 hp
        cases h2
      · exact List.length_eq_zero_iff.1 (by omega)
    subst h0
    go_enter Tryz.func126, Tryz.ntmps126
    go_wp2
    go_ret
    exact ⟨_, rfl, Kd.R_nil _ _ _ _ _, Below.refl _ _⟩
  | some ad =>
    go_enter Tryz.func126, Tryz.ntmps126
    go_wp2_with (first | ((with_reducible refine gate_dst (N := 5) rfl ?_); refine Kd.R_lit k109 _ 109 ?hg (N := 5) ?hd (xs := ([] : List S109)) (inner := []) (ok := fun _ => True) (okp := fun _ => True) ?hr ?hp (fun _ hk => hk) trivial (Below.refl _ _) (by first | exact Nat.le_refl _ | omega) (by simp) ?_; (case hd => rfl); (case hg => rfl); (case hr => first | (go_simp; done) | (go_simp; rfl)); (case hp => exact (Reps.none _ _)); intro v1 w1 ho1 hb1 _ _) | (at_builtin; refine Kd.R_append_rows k109 (w0 := _) _ rfl (.tmp 5) (.tmp 6) 24 109 (.agg #[(.int .i64 0), (.string ⟨#[]⟩)]) 24 rfl Tryz.underlying24 infoqPart rfl (by decide) (by omega) v1 [] m (some ad) n c (fun _ => True) (fun _ => False) rfl rfl ho1 (Kd.C_below hC hb1) (fun _ _ h => h) (fun _ h => h.elim) (fun _ _ => trivial) hb1 (by first | exact Nat.le_refl _ | exact Below.size hb1 | omega) (by simp; omega) ?_; intro v2 w2 ho2 hb2 _ _))
    go_ret
    exact ⟨_, rfl, by simpa using ho2, hb2⟩
def slices_Clone_Part.f (l0 : List S109) : Option (List S109) := if l0.length ≤ 1099511627776 then some l0 else none
theorem slices_Clone_Part.calls (A0 : Option Addr) (c0 : Nat) (l0 : List (S109)) (r : List (S109)) (w : World) (hr0 : Kd.C k109 w A0 l0.length l0) (hc0 : l0.length ≤ c0) (h : slices_Clone_Part.f l0 = some r) :
    Calls Tryz.prog 126 #[.slice A0 l0.length c0] w fun e w' => ∃ v0_ : Value, e = .returned (v0_) ∧ Kd.R k109 109 w' w.heap.size (fun _ => True) v0_ r ∧ Below w.heap.size w w' := by
  unfold slices_Clone_Part.f at h
  split at h
  · rename_i hs
    obtain rfl := Option.some.inj h
    exact clone_Part A0 l0.length c0 l0 w hr0 hs
  · cases h
theorem clip_Pair (A : Option Addr) (n c : Nat) (w : World) (hc : n ≤ c) :
    Calls Tryz.prog 127 #[.slice A n c] w fun r w' => r = .returned (.slice A n n) ∧ w = w' := by
  have h0 : (0 : Int) ≤ (n : Int) := Int.natCast_nonneg _
  have h1 : (n : Int) ≤ (c : Int) := by omega
  go_enter Tryz.func127, Tryz.ntmps127
  go_wp2
  go_ret
  exact ⟨by cases A <;> simp [Addr.add], rfl⟩
def slices_Clip_Pair.f (l0 : List S111) : Option (List S111) := some l0
theorem slices_Clip_Pair.calls (P0_ : Nat → Prop) (A0 : Option Addr) (c0 : Nat) (l0 : List (S111)) (r : List (S111)) (w : World) (hs0 : Kd.V k111 111 w w.heap.size (fun k_ => P0_ k_) (.slice A0 l0.length c0) l0) (h : slices_Clip_Pair.f l0 = some r) :
    Calls Tryz.prog 127 #[.slice A0 l0.length c0] w fun e w' => ∃ v0_ : Value, e = .returned (v0_) ∧ Kd.V k111 111 w' w.heap.size (fun k_ => (P0_ k_ ∨ w.heap.size ≤ k_)) v0_ r ∧ Below w.heap.size w w' := by
  obtain rfl := Option.some.inj h
  obtain ⟨A, c, e, hl, hf⟩ := hs0
  injection e with e1 e2 e3
  subst e1 e3
  refine (clip_Pair A0 l0.length c0 w hl).mono ?_
  rintro e w' ⟨rfl, rfl⟩
  exact ⟨_, rfl, ⟨A0, l0.length, rfl, Nat.le_refl _, fun W' hW => hf W' (fun k hk => hW k (.inl hk))⟩, Below.refl _ _⟩
theorem clip_Piece (A : Option Addr) (n c : Nat) (w : World) (hc : n ≤ c) :
    Calls Tryz.prog 133 #[.slice A n c] w fun r w' => r = .returned (.slice A n n) ∧ w = w' := by
  have h0 : (0 : Int) ≤ (n : Int) := Int.natCast_nonneg _
  have h1 : (n : Int) ≤ (c : Int) := by omega
  go_enter Tryz.func133, Tryz.ntmps133
  go_wp2
  go_ret
  exact ⟨by cases A <;> simp [Addr.add], rfl⟩
def slices_Clip_Piece.f (l0 : List S116) : Option (List S116) := some l0
theorem slices_Clip_Piece.calls (P0_ : Nat → Prop) (A0 : Option Addr) (c0 : Nat) (l0 : List (S116)) (r : List (S116)) (w : World) (hs0 : Kd.V k116 116 w w.heap.size (fun k_ => P0_ k_) (.slice A0 l0.length c0) l0) (h : slices_Clip_Piece.f l0 = some r) :
    Calls Tryz.prog 133 #[.slice A0 l0.length c0] w fun e w' => ∃ v0_ : Value, e = .returned (v0_) ∧ Kd.V k116 116 w' w.heap.size (fun k_ => (P0_ k_ ∨ w.heap.size ≤ k_)) v0_ r ∧ Below w.heap.size w w' := by
  obtain rfl := Option.some.inj h
  obtain ⟨A, c, e, hl, hf⟩ := hs0
  injection e with e1 e2 e3
  subst e1 e3
  refine (clip_Piece A0 l0.length c0 w hl).mono ?_
  rintro e w' ⟨rfl, rfl⟩
  exact ⟨_, rfl, ⟨A0, l0.length, rfl, Nat.le_refl _, fun W' hW => hf W' (fun k hk => hW k (.inl hk))⟩, Below.refl _ _⟩
theorem clip_End (A : Option Addr) (n c : Nat) (w : World) (hc : n ≤ c) :
    Calls Tryz.prog 181 #[.slice A n c] w fun r w' => r = .returned (.slice A n n) ∧ w = w' := by
  have h0 : (0 : Int) ≤ (n : Int) := Int.natCast_nonneg _
  have h1 : (n : Int) ≤ (c : Int) := by omega
  go_enter Tryz.func181, Tryz.ntmps181
  go_wp2
  go_ret
  exact ⟨by cases A <;> simp [Addr.add], rfl⟩
def slices_Clip_End.f (l0 : List S62) : Option (List S62) := some l0
theorem slices_Clip_End.calls (P0_ : Nat → Prop) (A0 : Option Addr) (c0 : Nat) (l0 : List (S62)) (r : List (S62)) (w : World) (hs0 : Kd.V k62 62 w w.heap.size (fun k_ => P0_ k_) (.slice A0 l0.length c0) l0) (h : slices_Clip_End.f l0 = some r) :
    Calls Tryz.prog 181 #[.slice A0 l0.length c0] w fun e w' => ∃ v0_ : Value, e = .returned (v0_) ∧ Kd.V k62 62 w' w.heap.size (fun k_ => (P0_ k_ ∨ w.heap.size ≤ k_)) v0_ r ∧ Below w.heap.size w w' := by
  obtain rfl := Option.some.inj h
  obtain ⟨A, c, e, hl, hf⟩ := hs0
  injection e with e1 e2 e3
  subst e1 e3
  refine (clip_End A0 l0.length c0 w hl).mono ?_
  rintro e w' ⟨rfl, rfl⟩
  exact ⟨_, rfl, ⟨A0, l0.length, rfl, Nat.le_refl _, fun W' hW => hf W' (fun k hk => hW k (.inl hk))⟩, Below.refl _ _⟩
theorem clip_Part (A : Option Addr) (n c : Nat) (w : World) (hc : n ≤ c) :
    Calls Tryz.prog 129 #[.slice A n c] w fun r w' => r = .returned (.slice A n n) ∧ w = w' := by
  have h0 : (0 : Int) ≤ (n : Int) := Int.natCast_nonneg _
  have h1 : (n : Int) ≤ (c : Int) := by omega
  go_enter Tryz.func129, Tryz.ntmps129
  go_wp2
  go_ret
  exact ⟨by cases A <;> simp [Addr.add], rfl⟩
def slices_Clip_Part.f (l0 : List S109) : Option (List S109) := some l0
theorem slices_Clip_Part.calls (P0_ : Nat → Prop) (A0 : Option Addr) (c0 : Nat) (l0 : List (S109)) (r : List (S109)) (w : World) (hs0 : Kd.V k109 109 w w.heap.size (fun k_ => P0_ k_) (.slice A0 l0.length c0) l0) (h : slices_Clip_Part.f l0 = some r) :
    Calls Tryz.prog 129 #[.slice A0 l0.length c0] w fun e w' => ∃ v0_ : Value, e = .returned (v0_) ∧ Kd.V k109 109 w' w.heap.size (fun k_ => (P0_ k_ ∨ w.heap.size ≤ k_)) v0_ r ∧ Below w.heap.size w w' := by
  obtain rfl := Option.some.inj h
  obtain ⟨A, c, e, hl, hf⟩ := hs0
  injection e with e1 e2 e3
  subst e1 e3
  refine (clip_Part A0 l0.length c0 w hl).mono ?_
  rintro e w' ⟨rfl, rfl⟩
  exact ⟨_, rfl, ⟨A0, l0.length, rfl, Nat.le_refl _, fun W' hW => hf W' (fun k hk => hW k (.inl hk))⟩, Below.refl _ _⟩
def prOf (x : S111) : Pr := ⟨x.f0, ⟨x.f1.f0, x.f1.f1⟩⟩
def prTo (x : Pr) : S111 := ⟨x.port, ⟨x.inside.addr, x.inside.port⟩⟩
theorem prs_of_to (l : List Pr) : (l.map prTo).map prOf = l := by rw [List.map_map]; exact List.map_id _
theorem C_pr {w : World} {A : Option Addr} {n : Nat} {l : List S111} (h : Kd.C k111 w A n l) : Kd.C kPr w A n (l.map prOf) := by
  refine ⟨by rw [List.length_map]; exact h.1, h.2.1, fun hp => ?_⟩
  obtain ⟨ad, e, hx⟩ := h.2.2 hp
  refine ⟨ad, e, fun j p hj => ?_⟩
  rw [List.getElem?_map, Option.map_eq_some_iff] at hj
  obtain ⟨x, hx1, rfl⟩ := hj
  exact hx j x hx1
theorem C_pr' {w : World} {A : Option Addr} {n : Nat} {l : List S111} (h : Kd.C kPr w A n (l.map prOf)) : Kd.C k111 w A n l := by
  refine ⟨by have := h.1; rwa [List.length_map] at this, h.2.1, fun hp => ?_⟩
  obtain ⟨ad, e, hx⟩ := h.2.2 hp
  exact ⟨ad, e, fun j p hj => hx j (prOf p) (by rw [List.getElem?_map, hj]; rfl)⟩
def impl_pairs_out.f (l0 : List S111) (a1_0 : Int) (a1_1 : Int) : Option (List S111 × Int × Bool) :=
  if l0.length ≤ 1099511627776 then some (((outI (l0.map prOf) ⟨a1_0, a1_1⟩).1.map prTo), (outI (l0.map prOf) ⟨a1_0, a1_1⟩).2.1, (outI (l0.map prOf) ⟨a1_0, a1_1⟩).2.2) else none
theorem impl_pairs_out.calls (A0 : Option Addr) (c0 : Nat) (l0 : List (S111)) (a1_0 : Int) (a1_1 : Int) (r1 : List (S111)) (r2 : Int) (r3 : Bool) (w : World) (hr0 : Kd.C k111 w A0 l0.length l0) (hc0 : l0.length ≤ c0) (h : impl_pairs_out.f l0 a1_0 a1_1 = some (r1, r2, r3)) :
    Calls Tryz.prog 174 #[.slice A0 l0.length c0, .agg #[.int .i64 a1_0, .int .i64 a1_1]] w fun e w' => ∃ v0_ : Value, e = .returned (.tuple #[v0_, .int .i64 r2, .bool r3]) ∧ Kd.V k111 111 w' w.heap.size (fun k_ => (w.heap.size ≤ k_)) v0_ r1 ∧ Below w.heap.size w w' := by
  unfold impl_pairs_out.f at h
  split at h
  · rename_i hs
    have h2 := Option.some.inj h
    simp only [Prod.mk.injEq] at h2
    obtain ⟨rfl, rfl, rfl⟩ := h2
    refine (impl_out A0 l0.length c0 (l0.map prOf) ⟨a1_0, a1_1⟩ w (C_pr hr0) hs).mono ?_
    rintro e w' ⟨v, rfl, ⟨A, c, rfl, hR⟩, hb⟩
    refine ⟨_, rfl, ?_, hb⟩
    obtain ⟨A2, c2, e2, hl2, hf2⟩ := Kd.R_V (base' := 0) (Kd.R_tight rfl hR)
    injection e2 with e3 e4 e5
    subst e3 e5
    refine ⟨A, _, by rw [List.length_map], Nat.le_refl _, fun W' hW => ?_⟩
    rw [List.length_map]
    refine C_pr' ?_
    rw [prs_of_to]
    exact hf2 W' (fun k hk => hW k (Kd.R_base hR k hk.symm))
  · cases h
end Go.Proofs.YtfjbjiklohjodaaGreatDoor.Q
namespace Go.Proofs.YtfjbjiklohjodaaGreatDoor.Q
open Go.RowKit Go.Proofs.YtfjbjiklohjodaaGreatDoorW.PrintWords Go.Proofs.YtfjbjiklohjodaaGreatDoorW.PrintMore Go.Proofs.YtfjbjiklohjodaaGreatDoor.Z
set_option linter.unusedVariables false
set_option linter.unusedSimpArgs false
def impl_EndInside.f (a0_0 : Int) (a0_1 : Int) : Option Bool := some (insideB ⟨a0_0, a0_1⟩)
theorem impl_EndInside.calls (a0_0 : Int) (a0_1 : Int) (r : Bool) (w : World) (h : impl_EndInside.f a0_0 a0_1 = some r) :
    Calls Tryz.prog 75 #[.agg #[.int .i64 a0_0, .int .i64 a0_1]] w fun e w' => e = .returned (.bool r) ∧ Below w.heap.size w w' := by
  obtain rfl := Option.some.inj h
  exact impl_EndInside ⟨a0_0, a0_1⟩ w
def impl_EndOutside.f (a0_0 : Int) (a0_1 : Int) : Option Bool := some (outsideB ⟨a0_0, a0_1⟩)
theorem impl_EndOutside.calls (a0_0 : Int) (a0_1 : Int) (r : Bool) (w : World) (h : impl_EndOutside.f a0_0 a0_1 = some r) :
    Calls Tryz.prog 103 #[.agg #[.int .i64 a0_0, .int .i64 a0_1]] w fun e w' => e = .returned (.bool r) ∧ Below w.heap.size w w' := by
  obtain rfl := Option.some.inj h
  exact impl_EndOutside ⟨a0_0, a0_1⟩ w
def impl_EndDoor.f (a0_0 : Int) (a0_1 : Int) : Option Bool := some (doorB ⟨a0_0, a0_1⟩)
theorem impl_EndDoor.calls (a0_0 : Int) (a0_1 : Int) (r : Bool) (w : World) (h : impl_EndDoor.f a0_0 a0_1 = some r) :
    Calls Tryz.prog 147 #[.agg #[.int .i64 a0_0, .int .i64 a0_1]] w fun e w' => e = .returned (.bool r) ∧ Below w.heap.size w w' := by
  obtain rfl := Option.some.inj h
  exact impl_EndDoor ⟨a0_0, a0_1⟩ w
def impl_End_any.f (a0_0 : Int) (a0_1 : Int) : Option Bool := some (anyB ⟨a0_0, a0_1⟩)
theorem impl_End_any.calls (a0_0 : Int) (a0_1 : Int) (r : Bool) (w : World) (h : impl_End_any.f a0_0 a0_1 = some r) :
    Calls Tryz.prog 146 #[.agg #[.int .i64 a0_0, .int .i64 a0_1]] w fun e w' => e = .returned (.bool r) ∧ Below w.heap.size w w' := by
  obtain rfl := Option.some.inj h
  exact impl_any ⟨a0_0, a0_1⟩ w
def spec_EndInside.f (a0_0 : Int) (a0_1 : Int) : Option Bool := some (insideB ⟨a0_0, a0_1⟩)
theorem spec_EndInside.calls (a0_0 : Int) (a0_1 : Int) (r : Bool) (w : World) (h : spec_EndInside.f a0_0 a0_1 = some r) :
    Calls Tryz.prog 72 #[.agg #[.int .i64 a0_0, .int .i64 a0_1]] w fun e w' => e = .returned (.bool r) ∧ Below w.heap.size w w' := by
  obtain rfl := Option.some.inj h
  exact spec_EndInside ⟨a0_0, a0_1⟩ w
def spec_EndOutside.f (a0_0 : Int) (a0_1 : Int) : Option Bool := some (outsideB ⟨a0_0, a0_1⟩)
theorem spec_EndOutside.calls (a0_0 : Int) (a0_1 : Int) (r : Bool) (w : World) (h : spec_EndOutside.f a0_0 a0_1 = some r) :
    Calls Tryz.prog 100 #[.agg #[.int .i64 a0_0, .int .i64 a0_1]] w fun e w' => e = .returned (.bool r) ∧ Below w.heap.size w w' := by
  obtain rfl := Option.some.inj h
  exact spec_EndOutside ⟨a0_0, a0_1⟩ w
def spec_EndDoor.f (a0_0 : Int) (a0_1 : Int) : Option Bool := some (doorB ⟨a0_0, a0_1⟩)
theorem spec_EndDoor.calls (a0_0 : Int) (a0_1 : Int) (r : Bool) (w : World) (h : spec_EndDoor.f a0_0 a0_1 = some r) :
    Calls Tryz.prog 144 #[.agg #[.int .i64 a0_0, .int .i64 a0_1]] w fun e w' => e = .returned (.bool r) ∧ Below w.heap.size w w' := by
  obtain rfl := Option.some.inj h
  exact spec_EndDoor ⟨a0_0, a0_1⟩ w
def spec_l1Any.f (a0_0 : Int) (a0_1 : Int) : Option Bool := some (anyB ⟨a0_0, a0_1⟩)
theorem spec_l1Any.calls (a0_0 : Int) (a0_1 : Int) (r : Bool) (w : World) (h : spec_l1Any.f a0_0 a0_1 = some r) :
    Calls Tryz.prog 143 #[.agg #[.int .i64 a0_0, .int .i64 a0_1]] w fun e w' => e = .returned (.bool r) ∧ Below w.heap.size w w' := by
  obtain rfl := Option.some.inj h
  exact spec_l1Any ⟨a0_0, a0_1⟩ w
def spec_TextOk.f (a0 : ByteArray) : Option Bool := if a0.size ≤ 140737488355328 then some (textOk (bl a0)) else none
theorem spec_TextOk.calls (a0 : ByteArray) (r : Bool) (w : World) (h : spec_TextOk.f a0 = some r) :
    Calls Tryz.prog 22 #[.string a0] w fun e w' => e = .returned (.bool r) ∧ Below w.heap.size w w' := by
  unfold spec_TextOk.f at h
  split at h
  · rename_i hs
    obtain rfl := Option.some.inj h
    rw [← vS_bl]
    refine (spec_TextOk (bl a0) (by rw [bl_len]; exact hs) w).mono ?_
    rintro e w' ⟨rfl, rfl⟩
    exact ⟨rfl, Below.refl _ _⟩
  · cases h
def spec_l2Held.f (a0 : ByteArray) : Option Int := if a0.size ≤ 140737488355328 then some (heldN (bl a0)) else none
theorem spec_l2Held.calls (a0 : ByteArray) (r : Int) (w : World) (h : spec_l2Held.f a0 = some r) :
    Calls Tryz.prog 166 #[.string a0] w fun e w' => e = .returned (.int .i64 r) ∧ Below w.heap.size w w' := by
  unfold spec_l2Held.f at h
  split at h
  · rename_i hs
    obtain rfl := Option.some.inj h
    rw [← vS_bl]
    exact spec_l2Held (bl a0) (by rw [bl_len]; exact hs) w
  · cases h
def optE (o : Option En) : Int × Int × Bool := ((o.getD zEn).addr, (o.getD zEn).port, o.isSome)
def spec_EndRead.f (a0 : ByteArray) : Option (Int × Int × Bool) := if a0.size ≤ 100000000 then some (optE (endRead (bl a0))) else none
theorem spec_EndRead.calls (a0 : ByteArray) (r1 : Int) (r2 : Int) (r3 : Bool) (w : World) (h : spec_EndRead.f a0 = some (r1, r2, r3)) :
    Calls Tryz.prog 184 #[.string a0] w fun e w' => e = .returned (.tuple #[.agg #[.int .i64 r1, .int .i64 r2], .bool r3]) ∧ Below w.heap.size w w' := by
  unfold spec_EndRead.f at h
  split at h
  · rename_i hs
    have h2 := Option.some.inj h
    simp only [optE, Prod.mk.injEq] at h2
    obtain ⟨rfl, rfl, rfl⟩ := h2
    rw [← vS_bl]
    exact spec_EndRead (bl a0) (by rw [bl_len]; exact hs) w
  · cases h
noncomputable def impl_MapOk.f (l0 : List S111) : Option Bool := if l0.length ≤ 1099511627776 then some (mapOkB (l0.map prOf)) else none
theorem impl_MapOk.calls (A0 : Option Addr) (c0 : Nat) (l0 : List (S111)) (r : Bool) (w : World) (hr0 : Kd.C k111 w A0 l0.length l0) (hc0 : l0.length ≤ c0) (h : impl_MapOk.f l0 = some r) :
    Calls Tryz.prog 23 #[.slice A0 l0.length c0] w fun e w' => e = .returned (.bool r) ∧ Below w.heap.size w w' := by
  unfold impl_MapOk.f at h
  split at h
  · rename_i hs
    obtain rfl := Option.some.inj h
    exact impl_MapOk A0 l0.length c0 (l0.map prOf) w (C_pr hr0) hs hc0
  · cases h
noncomputable def spec_MapOk.f (l0 : List S111) : Option Bool := if l0.length ≤ 1099511627776 then some (mapOkB (l0.map prOf)) else none
theorem spec_MapOk.calls (A0 : Option Addr) (c0 : Nat) (l0 : List (S111)) (r : Bool) (w : World) (hr0 : Kd.C k111 w A0 l0.length l0) (hc0 : l0.length ≤ c0) (h : spec_MapOk.f l0 = some r) :
    Calls Tryz.prog 20 #[.slice A0 l0.length c0] w fun e w' => e = .returned (.bool r) ∧ Below w.heap.size w w' := by
  unfold spec_MapOk.f at h
  split at h
  · rename_i hs
    obtain rfl := Option.some.inj h
    exact spec_MapOk A0 l0.length c0 (l0.map prOf) w (C_pr hr0) hs
  · cases h
def impl_pairs_inside.f (l0 : List S111) (a1 : Int) : Option (Int × Int × Bool) := some (optE (insideFrom (l0.map prOf) a1 0))
theorem impl_pairs_inside.calls (A0 : Option Addr) (c0 : Nat) (l0 : List (S111)) (a1 : Int) (r1 : Int) (r2 : Int) (r3 : Bool) (w : World) (hr0 : Kd.C k111 w A0 l0.length l0) (hc0 : l0.length ≤ c0) (h : impl_pairs_inside.f l0 a1 = some (r1, r2, r3)) :
    Calls Tryz.prog 175 #[.slice A0 l0.length c0, .int .i64 a1] w fun e w' => e = .returned (.tuple #[.agg #[.int .i64 r1, .int .i64 r2], .bool r3]) ∧ Below w.heap.size w w' := by
  have h2 := Option.some.inj h
  simp only [optE, Prod.mk.injEq] at h2
  obtain ⟨rfl, rfl, rfl⟩ := h2
  exact impl_inside A0 l0.length c0 (l0.map prOf) a1 w (C_pr hr0)
def impl_pairs_port.f (l0 : List S111) (a1_0 : Int) (a1_1 : Int) : Option Int := some (portFrom (l0.map prOf) ⟨a1_0, a1_1⟩ 0)
theorem impl_pairs_port.calls (A0 : Option Addr) (c0 : Nat) (l0 : List (S111)) (a1_0 : Int) (a1_1 : Int) (r : Int) (w : World) (hr0 : Kd.C k111 w A0 l0.length l0) (hc0 : l0.length ≤ c0) (h : impl_pairs_port.f l0 a1_0 a1_1 = some r) :
    Calls Tryz.prog 76 #[.slice A0 l0.length c0, .agg #[.int .i64 a1_0, .int .i64 a1_1]] w fun e w' => e = .returned (.int .i64 r) ∧ Below w.heap.size w w' := by
  obtain rfl := Option.some.inj h
  exact impl_port A0 l0.length c0 (l0.map prOf) ⟨a1_0, a1_1⟩ w (C_pr hr0)
def spec_l3In.f (l0 : List S111) (a1 : Int) : Option (Int × Int × Bool) := if l0.length ≤ 1099511627776 ∧ -9223372036854775808 ≤ a1 ∧ a1 ≤ 9223372036854775807 then some (optE (l3InO (l0.map prOf) a1)) else none
theorem spec_l3In.calls (A0 : Option Addr) (c0 : Nat) (l0 : List (S111)) (a1 : Int) (r1 : Int) (r2 : Int) (r3 : Bool) (w : World) (hr0 : Kd.C k111 w A0 l0.length l0) (hc0 : l0.length ≤ c0) (h : spec_l3In.f l0 a1 = some (r1, r2, r3)) :
    Calls Tryz.prog 168 #[.slice A0 l0.length c0, .int .i64 a1] w fun e w' => e = .returned (.tuple #[.agg #[.int .i64 r1, .int .i64 r2], .bool r3]) ∧ Below w.heap.size w w' := by
  unfold spec_l3In.f at h
  split at h
  · rename_i hs
    have h2 := Option.some.inj h
    simp only [optE, Prod.mk.injEq] at h2
    obtain ⟨rfl, rfl, rfl⟩ := h2
    exact spec_l3In A0 l0.length c0 (l0.map prOf) a1 w (C_pr hr0) hs.1 hs.2
  · cases h
end Go.Proofs.YtfjbjiklohjodaaGreatDoor.Q
namespace Go.Proofs.YtfjbjiklohjodaaGreatDoor.Z
open Go.RowKit Go.Proofs.YtfjbjiklohjodaaGreatDoorW.PrintWords Go.Proofs.YtfjbjiklohjodaaGreatDoorW.PrintLast
set_option linter.unusedVariables false
set_option linter.unusedSimpArgs false
attribute [local go_sem ↓] Go.wp_at_zero Go.wp_at_succ
attribute [local go_sem high] bytes_append
def l2At (l : List UInt8) (n : Nat) : Option En := if n ≤ l.length ∧ l.getD 0 0 = 64 ∧ l.getD (n - 1) 0 = 59 then endRead ((l.drop 1).take (n - 2)) else none
theorem name_len (e : En) (h : anyB e = true) : (nameOf e).length = 5 ∨ (nameOf e).length = 6 := by
  have := text_len34 e (anyB_mem h)
  unfold nameOf
  simp
  omega
theorem l2At_some {l : List UInt8} {n : Nat} {e : En} (hn : 2 ≤ n) (h : l2At l n = some e) : nm l = some e ∧ (nameOf e).length = n := by
  unfold l2At at h
  split at h
  · rename_i hc
    obtain ⟨h1, h2, h3⟩ := hc
    obtain ⟨ha, ht⟩ := endRead_some h
    obtain ⟨m, rfl⟩ : ∃ m, n = m + 2 := ⟨n - 2, by omega⟩
    have e1 : l = nameOf e ++ l.drop (m + 2) := by
      unfold nameOf
      rw [ht]
      match l, h1, h2, h3 with
      | c :: t, h1, h2, h3 =>
        simp only [List.getD_cons_zero] at h2
        subst h2
        simp only [List.length_cons] at h1
        have h4 : t.getD m 0 = 59 := h3
        have h5 : m < t.length := by omega
        simp only [Nat.add_sub_cancel, List.drop_succ_cons, List.drop_zero, List.cons_append, List.append_assoc, List.singleton_append]
        congr 1
        rw [List.getD_eq_getElem?_getD, List.getElem?_eq_getElem h5] at h4
        simp only [Option.getD_some] at h4
        conv => lhs; rw [← List.take_append_drop m t, List.drop_eq_getElem_cons h5, h4]
        rfl
    have hlen : (nameOf e).length = m + 2 := by
      unfold nameOf
      rw [ht]
      simp
      omega
    refine ⟨?_, hlen⟩
    rw [e1]
    exact nm_name ha _
  · cases h
theorem nm_l2At {l : List UInt8} {e : En} (h : nm l = some e) : l2At l (nameOf e).length = some e := by
  obtain ⟨ha, r, hr⟩ := nm_some h
  unfold l2At
  have h1 : l.getD 0 0 = 64 := by rw [hr]; rfl
  have h2 : (nameOf e).length ≤ l.length := by rw [hr]; simp
  have h3 : l.getD ((nameOf e).length - 1) 0 = 59 := by
    rw [hr]; unfold nameOf; simp [List.getD_eq_getElem?_getD]
  have h4 : (l.drop 1).take ((nameOf e).length - 2) = endText e := by
    rw [hr]; unfold nameOf; simp
  rw [if_pos ⟨h2, h1, h3⟩, h4, endRead_of ha]
theorem nm_of_l2At {l : List UInt8} (h5 : l2At l 5 = none) (h6 : l2At l 6 = none) : nm l = none := by
  cases h : nm l with
  | none => rfl
  | some e =>
    have h1 := nm_l2At h
    rcases name_len e (nm_some h).1 with h2 | h2
    · rw [h2, h5] at h1; cases h1
    · rw [h2, h6] at h1; cases h1
end Go.Proofs.YtfjbjiklohjodaaGreatDoor.Z
namespace Go.Proofs.YtfjbjiklohjodaaGreatDoor.Q
open Go.RowKit Go.Proofs.YtfjbjiklohjodaaGreatDoorW.PrintWords Go.Proofs.YtfjbjiklohjodaaGreatDoorW.PrintLast Go.Proofs.YtfjbjiklohjodaaGreatDoorW.PrintMore
attribute [local go_sem] max2_int min2_int max_two min_two max_three min_three max_four min_four
set_option linter.unusedVariables false
set_option linter.unusedSimpArgs false
noncomputable section
mutual
def spec_l2Name.l0 : Nat → ByteArray → Int → Option (Int × Int × Int)
  | 0, _, _ => none
  | k + 1, x0, x4 => if x4 ≤ 6 then (spec_l2Name.j1 k x0 x4 (decide (x4 ≤ (x0.size : Int)))) else (spec_l2Name.j1 k x0 x4 false)
def spec_l2Name.j1 : Nat → ByteArray → Int → Bool → Option (Int × Int × Int)
  | 0, _, _, _ => none
  | k + 1, x0, x4, x14 => if x14 = true then (if 0 < (x0.size : Int) then (if (bt x0 0) = 64 then (if 0 ≤ (wrap64 (x4 - 1)) then (if (wrap64 (x4 - 1)) < (x0.size : Int) then (spec_l2Name.j2 k x0 x4 ((bt x0 (wrap64 (x4 - 1))) == 59)) else (none)) else (none)) else (spec_l2Name.j2 k x0 x4 false)) else (none)) else (some (0, 0, 0))
def spec_l2Name.j2 : Nat → ByteArray → Int → Bool → Option (Int × Int × Int)
  | 0, _, _, _ => none
  | k + 1, x0, x4, x26 => if x26 = true then (if 1 ≤ (wrap64 (x4 - 1)) then (if (wrap64 (x4 - 1)) ≤ (x0.size : Int) then ((spec_EndRead.f (x0.extract 1 ((wrap64 (x4 - 1)) : Int).toNat)).bind fun bt102 => (if bt102.2.2 = true then (some (bt102.1, bt102.2.1, x4)) else (spec_l2Name.l0 k x0 (wrap64 (x4 + 1))))) else (none)) else (none)) else (spec_l2Name.l0 k x0 (wrap64 (x4 + 1)))
end
def spec_l2Name.f (k : Nat) (a0 : ByteArray) : Option (Int × Int × Int) := spec_l2Name.l0 k a0 5
set_option maxHeartbeats 8000000 in
set_option maxRecDepth 100000 in
theorem spec_l2Name.calls (k : Nat) (a0 : ByteArray) (r1 : Int) (r2 : Int) (r3 : Int) (w : World) (h : spec_l2Name.f k a0 = some (r1, r2, r3)) :
    Calls Tryz.prog 167 #[.string a0] w fun e w' => e = .returned (.tuple #[.agg #[.int .i64 r1, .int .i64 r2], .int .i64 r3]) ∧ Below w.heap.size w w' := by
  have hu62 := Tryz.underlying62
  have HB := Aside0.mk (Below.refl w.heap.size w)
  have H : (spec_l2Name.l0 k a0 5) = some (r1, r2, r3) := h
  clear h
  have H' := Aside0.mk H
  clear H
  go_enter Tryz.func167, Tryz.ntmps167
  go_wp2_with (first | ((with_reducible refine gate_dst (N := 2) rfl ?_); (try (refine gate_guard (by rfl) ?_; dsimp only)); refine box_event ?hg (N := 2) ?hd (cs := #[.int .i64 0, .int .i64 0]) (t := 62) ?hr ?_; (case hd => rfl); (case hg => rfl); (case hr => first | (go_simp; done) | (go_simp; rfl)); intro gb101 hg w2 hbox hb; have n0_ := Aside0.mk (below_step (by repeat (first | (with_reducible first | exact HB.out | apply below_alloc | apply pw_below_drewN | apply below_drew1) | exact HB.out)) hb); have n1_ := Aside0.mk (hbox); have n2_ := Aside0.mk ((by rw [hg]; exact (below_size (by repeat (first | (with_reducible first | exact HB.out | apply below_alloc | apply pw_below_drewN | apply below_drew1) | exact HB.out))) : w.heap.size ≤ gb101)); have n3_ := Aside0.mk ((by rw [hg]; exact (below_size (by repeat (first | (with_reducible first | exact HB.out | apply below_alloc | apply pw_below_drewN | apply below_drew1) | exact HB.out))) : w.heap.size ≤ gb101)); clear HB; have HB := n0_; have BK101 := n1_; have GW101 := n2_; have GE101 := n3_; clear n0_ n1_ n2_ n3_; clear hb hbox hg))
  go_loopg [4] k (fun kq v4 w' => ∃ (x4_1 : Int) (x102000_1 : Int) (x102001_1 : Int), v4 = .int .i64 x4_1 ∧ Aside0 (spec_l2Name.l0 kq a0 x4_1 = some (r1, r2, r3)) ∧ Aside0 (kq ≤ k) ∧ Aside0 (w'.heap[gb101]? = some (.cells #[.int .i64 x102000_1, .int .i64 x102001_1] 62 (0, 0))) ∧ Aside0 (Below w.heap.size w w'))
  case atStart => exact ⟨(5), (0), (0), (by first | rfl | (simp; done) | (simp [*]; done)), H', ⟨Nat.le_refl _⟩, ⟨by (with_reducible repeat (first | refine blk_drewN ?_ _ | refine blk_drew ?_ | refine blk_alloc ?_ _)); exact BK101.out⟩, ⟨by repeat (first | (with_reducible first | exact HB.out | apply below_alloc | apply pw_below_drewN | apply below_drew1 | refine below_set ?_ GE101.out) | exact HB.out)⟩⟩
  case round =>
    clear H'
    try clear c1
    try clear p2
    obtain ⟨x4_1, x102000_1, x102001_1, rfl, HA, HK1, BK101, HB⟩ := hrel
    cases gk with
    | zero => exact absurd HA.out (by simp [spec_l2Name.l0])
    | succ k1 =>
      have H := HA.out
      clear HA
      simp only [spec_l2Name.l0] at H
      have HC3 := Aside0.mk H
      clear H
      go_upto_region 2 with (fail)
      go_cut [14] (fun v14 wc => ∃ (kq : Nat) (x14_2 : Bool), v14 = .bool x14_2 ∧ Aside0 (spec_l2Name.j1 kq a0 x4_1 x14_2 = some (r1, r2, r3)) ∧ Aside0 (kq ≤ k1) ∧ Aside0 (wc.heap[gb101]? = some (.cells #[.int .i64 x102000_1, .int .i64 x102001_1] 62 (0, 0))) ∧ Aside0 (Below w.heap.size w wc))
      case first =>
        have H := HC3.out
        clear HC3
        by_cases c4 : x4_1 ≤ 6
        · rw [if_pos c4] at H
          have c4b0 : decide (x4_1 ≤ 6) = true := decide_eq_true c4
          clear c4
          (first | rw [c4b0] | (simp only [i64_w, i32_w]; rw [c4b0]) | skip)
          have H' := Aside0.mk H
          clear H
          go_wp2
          go_meet
          case rel => exact ⟨_, (decide (x4_1 ≤ (a0.size : Int))), (by first | rfl | (simp; done) | (simp [*]; done)), H', ⟨by have := HK1.out; first | omega | exact Nat.le_refl _⟩, ⟨by (with_reducible repeat (first | refine blk_drewN ?_ _ | refine blk_drew ?_ | refine blk_alloc ?_ _)); exact BK101.out⟩, ⟨by repeat (first | (with_reducible first | exact HB.out | apply below_alloc | apply pw_below_drewN | apply below_drew1 | refine below_set ?_ GE101.out) | exact HB.out)⟩⟩
        · rw [if_neg c4] at H
          have c4b0 : decide (x4_1 ≤ 6) = false := decide_eq_false c4
          clear c4
          (first | rw [c4b0] | (simp only [i64_w, i32_w]; rw [c4b0]) | skip)
          have H' := Aside0.mk H
          clear H
          go_wp2
          go_meet
          case rel => exact ⟨_, (false), (by first | rfl | (simp; done) | (simp [*]; done)), H', ⟨by have := HK1.out; first | omega | exact Nat.le_refl _⟩, ⟨by (with_reducible repeat (first | refine blk_drewN ?_ _ | refine blk_drew ?_ | refine blk_alloc ?_ _)); exact BK101.out⟩, ⟨by repeat (first | (with_reducible first | exact HB.out | apply below_alloc | apply pw_below_drewN | apply below_drew1 | refine below_set ?_ GE101.out) | exact HB.out)⟩⟩
      case rest =>
        clear HC3
        try clear c1
        try clear p2
        try clear c4
        try clear c4b0
        try clear p2
        obtain ⟨kq, x14_2, rfl, HA, HJ2, BK101, HB⟩ := hcut
        cases kq with
        | zero => exact absurd HA.out (by simp [spec_l2Name.j1])
        | succ kj2 =>
          have H := HA.out
          clear HA
          simp only [spec_l2Name.j1] at H
          by_cases c5 : x14_2 = true
          · subst c5
            have H1 : (if 0 < (a0.size : Int) then (if (bt a0 0) = 64 then (if 0 ≤ (wrap64 (x4_1 - 1)) then (if (wrap64 (x4_1 - 1)) < (a0.size : Int) then (spec_l2Name.j2 kj2 a0 x4_1 ((bt a0 (wrap64 (x4_1 - 1))) == 59)) else (none)) else (none)) else (spec_l2Name.j2 kj2 a0 x4_1 false)) else (none)) = some (r1, r2, r3) := by rw [if_pos rfl] at H; exact H
            clear H
            have H := H1
            clear H1
            have HC6 := Aside0.mk H
            clear H
            go_upto_region 4 with (fail)
            go_cut [26] (fun v26 wc => ∃ (kq : Nat) (x26_5 : Bool), v26 = .bool x26_5 ∧ Aside0 (spec_l2Name.j2 kq a0 x4_1 x26_5 = some (r1, r2, r3)) ∧ Aside0 (kq ≤ kj2) ∧ Aside0 (wc.heap[gb101]? = some (.cells #[.int .i64 x102000_1, .int .i64 x102001_1] 62 (0, 0))) ∧ Aside0 (Below w.heap.size w wc))
            case first =>
              have H := HC6.out
              clear HC6
              by_cases c7 : 0 < (a0.size : Int)
              · rw [if_pos c7] at H
                have c7b0 : decide (0 < (a0.size : Int)) = true := decide_eq_true c7
                have c7b1 : decide (0 < a0.size) = true := decide_eq_true (by omega)
                clear c7
                (first | rw [c7b0] | (simp only [i64_w, i32_w]; rw [c7b0]) | skip)
                by_cases c9 : (bt a0 0) = 64
                · rw [if_pos c9] at H
                  have c9b0 : ((bt a0 0) == 64) = true := beq_iff_eq.mpr c9
                  have c9b1 : ((bt a0 0) != 64) = false := bne_eq_false_iff_eq.mpr c9
                  clear c9
                  obtain ⟨ji10, hji10⟩ : ∃ j_ : Int, (wrap64 (x4_1 - 1)) = j_ := ⟨_, rfl⟩
                  replace H : (if 0 ≤ (ji10) then (if (ji10) < (a0.size : Int) then (spec_l2Name.j2 kj2 a0 x4_1 ((bt a0 (ji10)) == 59)) else (none)) else (none)) = some (r1, r2, r3) := by first | (rw [hji10] at H; exact H) | (simp only [hji10] at H ⊢; exact H)
                  have hji10w : (IntKind.i64.wrap (x4_1 - 1)) = ji10 := (i64_w _).trans hji10
                  by_cases c11 : 0 ≤ (ji10)
                  · rw [if_pos c11] at H
                    have c11b0 : decide (0 ≤ (ji10)) = true := decide_eq_true c11
                    clear c11
                    by_cases c12 : (ji10) < (a0.size : Int)
                    · rw [if_pos c12] at H
                      have c12b0 : decide ((ji10) < (a0.size : Int)) = true := decide_eq_true c12
                      clear c12
                      have H' := Aside0.mk H
                      clear H
                      have p8 : 0 ≤ (0 : Int) := (by omega)
                      have q8 : 0 < a0.size := (by have : (0 : Int) < (a0.size : Int) := of_decide_eq_true (by first | (with_reducible assumption) | assumption); omega)
                      have hx8 : ∀ h : 0 < a0.size, ((a0[0]'h).toNat : Int) = bt a0 0 := bt_at a0 0
                      clear p8
                      have qi8 : (0 < (a0.size : Int)) = True := eq_true (of_decide_eq_true (by first | (with_reducible assumption) | assumption))
                      replace q8 := eq_true q8
                      have p13 : 0 ≤ ((ji10) : Int) := of_decide_eq_true (by first | (with_reducible assumption) | assumption)
                      have q13 : (ji10) < (a0.size : Int) := of_decide_eq_true (by first | (with_reducible assumption) | assumption)
                      have hx13 := bt_at a0 (ji10)
                      replace p13 := eq_true p13
                      replace q13 := eq_true q13
                      go_wp2
                      go_meet
                      case rel => exact ⟨_, (((bt a0 (ji10)) == 59)), (by first | rfl | (simp; done) | (simp only [← hji10] <;> (first | rfl | simp)) | (simp [*]; done)), H', ⟨by have := HK1.out; have := HJ2.out; first | omega | exact Nat.le_refl _⟩, ⟨by (with_reducible repeat (first | refine blk_drewN ?_ _ | refine blk_drew ?_ | refine blk_alloc ?_ _)); exact BK101.out⟩, ⟨by repeat (first | (with_reducible first | exact HB.out | apply below_alloc | apply pw_below_drewN | apply below_drew1 | refine below_set ?_ GE101.out) | exact HB.out)⟩⟩
                    · rw [if_neg c12] at H
                      exact absurd H (by simp)
                  · rw [if_neg c11] at H
                    exact absurd H (by simp)
                · rw [if_neg c9] at H
                  have c9b0 : ((bt a0 0) == 64) = false := beq_eq_false_iff_ne.mpr c9
                  have c9b1 : ((bt a0 0) != 64) = true := bne_iff_ne.mpr c9
                  have H' := Aside0.mk H
                  clear H
                  have p8 : 0 ≤ (0 : Int) := (by omega)
                  have q8 : 0 < a0.size := (by have : (0 : Int) < (a0.size : Int) := of_decide_eq_true (by first | (with_reducible assumption) | assumption); omega)
                  have hx8 : ∀ h : 0 < a0.size, ((a0[0]'h).toNat : Int) = bt a0 0 := bt_at a0 0
                  clear p8
                  have qi8 : (0 < (a0.size : Int)) = True := eq_true (of_decide_eq_true (by first | (with_reducible assumption) | assumption))
                  replace q8 := eq_true q8
                  go_wp2
                  go_meet
                  case rel => exact ⟨_, (false), (by first | rfl | (simp; done) | (simp [*]; done)), H', ⟨by have := HK1.out; have := HJ2.out; first | omega | exact Nat.le_refl _⟩, ⟨by (with_reducible repeat (first | refine blk_drewN ?_ _ | refine blk_drew ?_ | refine blk_alloc ?_ _)); exact BK101.out⟩, ⟨by repeat (first | (with_reducible first | exact HB.out | apply below_alloc | apply pw_below_drewN | apply below_drew1 | refine below_set ?_ GE101.out) | exact HB.out)⟩⟩
              · rw [if_neg c7] at H
                exact absurd H (by simp)
            case rest =>
              clear HC6
              try clear c1
              try clear p1
              try clear q1
              try clear hx1
              try clear p2
              try clear c4
              try clear c4b0
              try clear c5
              try clear p6
              try clear c7
              try clear c7b0
              try clear c7b1
              try clear p8
              try clear q8
              try clear hx8
              try clear qi8
              try clear c9
              try clear c9b0
              try clear c9b1
              try clear c11
              try clear c11b0
              try clear c12
              try clear c12b0
              try clear p13
              try clear q13
              try clear hx13
              try clear p13
              try clear p2
              try clear p8
              try clear q13
              try clear q8
              obtain ⟨kq, x26_5, rfl, HA, HJ5, BK101, HB⟩ := hcut
              cases kq with
              | zero => exact absurd HA.out (by simp [spec_l2Name.j2])
              | succ kj5 =>
                have H := HA.out
                clear HA
                simp only [spec_l2Name.j2] at H
                by_cases c14 : x26_5 = true
                · subst c14
                  have H1 : (if 1 ≤ (wrap64 (x4_1 - 1)) then (if (wrap64 (x4_1 - 1)) ≤ (a0.size : Int) then ((spec_EndRead.f (a0.extract 1 ((wrap64 (x4_1 - 1)) : Int).toNat)).bind fun bt102 => (if bt102.2.2 = true then (some (bt102.1, bt102.2.1, x4_1)) else (spec_l2Name.l0 kj5 a0 (wrap64 (x4_1 + 1))))) else (none)) else (none)) = some (r1, r2, r3) := by rw [if_pos rfl] at H; exact H
                  clear H
                  have H := H1
                  clear H1
                  by_cases c15 : 1 ≤ (wrap64 (x4_1 - 1))
                  · rw [if_pos c15] at H
                    have c15b0 := eq_true c15
                    have c15b1 : decide (1 ≤ (wrap64 (x4_1 - 1))) = true := decide_eq_true c15
                    clear c15
                    by_cases c16 : (wrap64 (x4_1 - 1)) ≤ (a0.size : Int)
                    · rw [if_pos c16] at H
                      have c16b0 := eq_true c16
                      have c16b1 : decide ((wrap64 (x4_1 - 1)) ≤ (a0.size : Int)) = true := decide_eq_true c16
                      clear c16
                      replace H := Option.bind_eq_some_iff.mp H
                      obtain ⟨⟨t102, t103, t104⟩, A170, H⟩ := H
                      replace H : (if t104 = true then (some (t102, t103, x4_1)) else (spec_l2Name.l0 kj5 a0 (wrap64 (x4_1 + 1)))) = some (r1, r2, r3) := H
                      have A17 := Aside0.mk A170
                      clear A170
                      by_cases c18 : t104 = true
                      · subst c18
                        have H1 : (some (t102, t103, x4_1)) = some (r1, r2, r3) := by rw [if_pos rfl] at H; exact H
                        clear H
                        have H := H1
                        clear H1
                        simp only [Option.some.injEq, Prod.mk.injEq] at H
                        obtain ⟨rfl, rfl, rfl⟩ := H
                        go_wp2_with (first | ((with_reducible refine gate_callee (f := 184) rfl ?_); refine goesL_ (some 32) rfl rfl Tryz.func184 (by kernel_rfl) rfl #[.string (a0.extract 1 ((wrap64 (x4_1 - 1)) : Int).toNat)] rfl (by (try simp only [List.map_toArray, List.map_cons, List.map_nil]); first | done | rfl | (simp only [List.length_drop, List.length_take]; rfl)) ?_; (with_reducible refine (spec_EndRead.calls (a0.extract 1 ((wrap64 (x4_1 - 1)) : Int).toNat) t102 t103 true _ A17.out).mono ?_); rintro e w19 ⟨rfl, hb⟩; refine ⟨_, rfl, ?_⟩; have n0_ := Aside0.mk (blk_below (g := gb101) (o := .cells #[.int .i64 x102000_1, .int .i64 x102001_1] 62 (0, 0)) (by (with_reducible repeat (first | refine blk_drewN ?_ _ | refine blk_drew ?_ | refine blk_alloc ?_ _)); exact BK101.out) hb); have n1_ := Aside0.mk (below_step (by repeat (first | (with_reducible first | exact HB.out | apply below_alloc | apply pw_below_drewN | apply below_drew1 | refine below_set ?_ GE101.out) | exact HB.out)) hb); clear BK101; clear HB; have BK101 := n0_; have HB := n1_; clear n0_ n1_; (try clear hb); (try clear hb2); (try clear hk); (try clear hi)) | ((with_reducible refine gate_dst (N := 5) rfl ?_); (try (refine gate_guard (by rfl) ?_; dsimp only)); refine box_event ?hg (N := 5) ?hd (cs := #[.int .i64 0, .int .i64 0]) (t := 62) ?hr ?_; (case hd => rfl); (case hg => rfl); (case hr => first | (go_simp; done) | (go_simp; rfl)); intro gb105 hg w20 hbox hb; have n0_ := Aside0.mk (blk_below (g := gb101) (o := .cells #[.int .i64 x102000_1, .int .i64 x102001_1] 62 (0, 0)) (by (with_reducible repeat (first | refine blk_drewN ?_ _ | refine blk_drew ?_ | refine blk_alloc ?_ _)); exact BK101.out) hb); have n1_ := Aside0.mk (below_step (by repeat (first | (with_reducible first | exact HB.out | apply below_alloc | apply pw_below_drewN | apply below_drew1 | refine below_set ?_ GE101.out) | exact HB.out)) hb); have n2_ := Aside0.mk (hbox); have n3_ := Aside0.mk ((by rw [hg]; exact (below_size (by repeat (first | (with_reducible first | exact HB.out | apply below_alloc | apply pw_below_drewN | apply below_drew1 | refine below_set ?_ GE101.out) | exact HB.out))) : w.heap.size ≤ gb105)); have n4_ := Aside0.mk ((by rw [hg]; exact (below_size (by repeat (first | (with_reducible first | exact HB.out | apply below_alloc | apply pw_below_drewN | apply below_drew1 | refine below_set ?_ GE101.out) | exact HB.out))) : w.heap.size ≤ gb105)); have n5_ := Aside0.mk ((by rw [hg]; exact Nat.ne_of_lt (blk_lt (g := gb101) (o := .cells #[.int .i64 x102000_1, .int .i64 x102001_1] 62 (0, 0)) (by (with_reducible repeat (first | refine blk_drewN ?_ _ | refine blk_drew ?_ | refine blk_alloc ?_ _)); exact BK101.out)) : gb101 ≠ gb105)); have n6_ := Aside0.mk ((by rw [hg]; exact Nat.ne_of_gt (blk_lt (g := gb101) (o := .cells #[.int .i64 x102000_1, .int .i64 x102001_1] 62 (0, 0)) (by (with_reducible repeat (first | refine blk_drewN ?_ _ | refine blk_drew ?_ | refine blk_alloc ?_ _)); exact BK101.out)) : gb105 ≠ gb101)); clear BK101; clear HB; have BK101 := n0_; have HB := n1_; have BK105 := n2_; have GW105 := n3_; have GE105 := n4_; have NB101_105 := n5_; have NB105_101 := n6_; clear n0_ n1_ n2_ n3_ n4_ n5_ n6_; clear hb hbox hg; have hnb21 := NB105_101.out; have hnc21 := NB101_105.out; have hcz22_0 : w20.cell? ⟨gb105, 0, none⟩ = some (.int .i64 0) := (blk_cell BK105.out 0).trans rfl; have hcz22_1 : w20.cell? ⟨gb105, 1, none⟩ = some (.int .i64 0) := (blk_cell BK105.out 1).trans rfl; have hfz22_0 := blk_frozen BK105.out 0; have hfz22_1 := blk_frozen BK105.out 1; have hcz23_0 : w20.cell? ⟨gb101, 0, none⟩ = some (.int .i64 x102000_1) := (blk_cell BK101.out 0).trans rfl; have hcz23_1 : w20.cell? ⟨gb101, 1, none⟩ = some (.int .i64 x102001_1) := (blk_cell BK101.out 1).trans rfl; have hfz23_0 := blk_frozen BK101.out 0; have hfz23_1 := blk_frozen BK101.out 1))
                        refine bodyPost_ret (results_ct rfl _ _ gb101 62 #[.int .i64 t102, .int .i64 t103] (0, 0) _ rfl (by (with_reducible repeat (first | refine blk_drewN ?_ _ | refine blk_drew ?_ | refine blk_alloc ?_ _)); refine blk_put (cs := #[.int .i64 t102, .int .i64 x102001_1]) ?_ 1 _ rfl; (with_reducible repeat (first | refine blk_drewN ?_ _ | refine blk_drew ?_ | refine blk_alloc ?_ _)); refine blk_put (cs := #[.int .i64 x102000_1, .int .i64 x102001_1]) ?_ 0 _ rfl; (with_reducible repeat (first | refine blk_drewN ?_ _ | refine blk_drew ?_ | refine blk_alloc ?_ _)); refine blk_far ?_ NB101_105.out _; (with_reducible repeat (first | refine blk_drewN ?_ _ | refine blk_drew ?_ | refine blk_alloc ?_ _)); refine blk_far ?_ NB101_105.out _; (with_reducible repeat (first | refine blk_drewN ?_ _ | refine blk_drew ?_ | refine blk_alloc ?_ _)); exact BK101.out) Tryz.underlying62 rfl (by kernel_rfl)) rfl ?_
                        exact ⟨by first | rfl | (simp [errW_none, errW_some] <;> rfl) | (simp [*, errW_none, errW_some] <;> rfl), by repeat (first | (with_reducible first | exact HB.out | apply below_alloc | apply pw_below_drewN | apply below_drew1 | refine below_set ?_ GE101.out | refine below_set ?_ GE105.out) | exact HB.out)⟩
                      · replace c18 := Bool.eq_false_iff.mpr c18
                        subst c18
                        have H1 : (spec_l2Name.l0 kj5 a0 (wrap64 (x4_1 + 1))) = some (r1, r2, r3) := by rw [if_neg (show ¬ (false = true) by decide)] at H; exact H
                        clear H
                        have H := H1
                        clear H1
                        have H' := Aside0.mk H
                        clear H
                        go_wp2_with (first | ((with_reducible refine gate_callee (f := 184) rfl ?_); refine goesL_ (some 32) rfl rfl Tryz.func184 (by kernel_rfl) rfl #[.string (a0.extract 1 ((wrap64 (x4_1 - 1)) : Int).toNat)] rfl (by (try simp only [List.map_toArray, List.map_cons, List.map_nil]); first | done | rfl | (simp only [List.length_drop, List.length_take]; rfl)) ?_; (with_reducible refine (spec_EndRead.calls (a0.extract 1 ((wrap64 (x4_1 - 1)) : Int).toNat) t102 t103 false _ A17.out).mono ?_); rintro e w24 ⟨rfl, hb⟩; refine ⟨_, rfl, ?_⟩; have n0_ := Aside0.mk (blk_below (g := gb101) (o := .cells #[.int .i64 x102000_1, .int .i64 x102001_1] 62 (0, 0)) (by (with_reducible repeat (first | refine blk_drewN ?_ _ | refine blk_drew ?_ | refine blk_alloc ?_ _)); exact BK101.out) hb); have n1_ := Aside0.mk (below_step (by repeat (first | (with_reducible first | exact HB.out | apply below_alloc | apply pw_below_drewN | apply below_drew1 | refine below_set ?_ GE101.out) | exact HB.out)) hb); clear BK101; clear HB; have BK101 := n0_; have HB := n1_; clear n0_ n1_; (try clear hb); (try clear hb2); (try clear hk); (try clear hi)) | ((with_reducible refine gate_dst (N := 5) rfl ?_); (try (refine gate_guard (by rfl) ?_; dsimp only)); refine box_event ?hg (N := 5) ?hd (cs := #[.int .i64 0, .int .i64 0]) (t := 62) ?hr ?_; (case hd => rfl); (case hg => rfl); (case hr => first | (go_simp; done) | (go_simp; rfl)); intro gb105 hg w25 hbox hb; have n0_ := Aside0.mk (blk_below (g := gb101) (o := .cells #[.int .i64 x102000_1, .int .i64 x102001_1] 62 (0, 0)) (by (with_reducible repeat (first | refine blk_drewN ?_ _ | refine blk_drew ?_ | refine blk_alloc ?_ _)); exact BK101.out) hb); have n1_ := Aside0.mk (below_step (by repeat (first | (with_reducible first | exact HB.out | apply below_alloc | apply pw_below_drewN | apply below_drew1 | refine below_set ?_ GE101.out) | exact HB.out)) hb); have n2_ := Aside0.mk (hbox); have n3_ := Aside0.mk ((by rw [hg]; exact (below_size (by repeat (first | (with_reducible first | exact HB.out | apply below_alloc | apply pw_below_drewN | apply below_drew1 | refine below_set ?_ GE101.out) | exact HB.out))) : w.heap.size ≤ gb105)); have n4_ := Aside0.mk ((by rw [hg]; exact (below_size (by repeat (first | (with_reducible first | exact HB.out | apply below_alloc | apply pw_below_drewN | apply below_drew1 | refine below_set ?_ GE101.out) | exact HB.out))) : w.heap.size ≤ gb105)); have n5_ := Aside0.mk ((by rw [hg]; exact Nat.ne_of_lt (blk_lt (g := gb101) (o := .cells #[.int .i64 x102000_1, .int .i64 x102001_1] 62 (0, 0)) (by (with_reducible repeat (first | refine blk_drewN ?_ _ | refine blk_drew ?_ | refine blk_alloc ?_ _)); exact BK101.out)) : gb101 ≠ gb105)); have n6_ := Aside0.mk ((by rw [hg]; exact Nat.ne_of_gt (blk_lt (g := gb101) (o := .cells #[.int .i64 x102000_1, .int .i64 x102001_1] 62 (0, 0)) (by (with_reducible repeat (first | refine blk_drewN ?_ _ | refine blk_drew ?_ | refine blk_alloc ?_ _)); exact BK101.out)) : gb105 ≠ gb101)); clear BK101; clear HB; have BK101 := n0_; have HB := n1_; have BK105 := n2_; have GW105 := n3_; have GE105 := n4_; have NB101_105 := n5_; have NB105_101 := n6_; clear n0_ n1_ n2_ n3_ n4_ n5_ n6_; clear hb hbox hg; have hnb26 := NB105_101.out; have hnc26 := NB101_105.out; have hcz27_0 : w25.cell? ⟨gb105, 0, none⟩ = some (.int .i64 0) := (blk_cell BK105.out 0).trans rfl; have hcz27_1 : w25.cell? ⟨gb105, 1, none⟩ = some (.int .i64 0) := (blk_cell BK105.out 1).trans rfl; have hfz27_0 := blk_frozen BK105.out 0; have hfz27_1 := blk_frozen BK105.out 1))
                        go_roundg kj5
                        case measure => have := HK1.out; have := HJ2.out; have := HJ5.out; omega
                        case rel => exact ⟨(wrap64 (x4_1 + 1)), (x102000_1), (x102001_1), (by first | rfl | (simp; done) | (simp [*]; done)), H', ⟨by have := HK1.out; have := HJ2.out; have := HJ5.out; omega⟩, ⟨by (with_reducible repeat (first | refine blk_drewN ?_ _ | refine blk_drew ?_ | refine blk_alloc ?_ _)); refine blk_far ?_ NB101_105.out _; (with_reducible repeat (first | refine blk_drewN ?_ _ | refine blk_drew ?_ | refine blk_alloc ?_ _)); refine blk_far ?_ NB101_105.out _; (with_reducible repeat (first | refine blk_drewN ?_ _ | refine blk_drew ?_ | refine blk_alloc ?_ _)); exact BK101.out⟩, ⟨by repeat (first | (with_reducible first | exact HB.out | apply below_alloc | apply pw_below_drewN | apply below_drew1 | refine below_set ?_ GE101.out | refine below_set ?_ GE105.out) | exact HB.out)⟩⟩
                    · rw [if_neg c16] at H
                      exact absurd H (by simp)
                  · rw [if_neg c15] at H
                    exact absurd H (by simp)
                · replace c14 := Bool.eq_false_iff.mpr c14
                  subst c14
                  have H1 : (spec_l2Name.l0 kj5 a0 (wrap64 (x4_1 + 1))) = some (r1, r2, r3) := by rw [if_neg (show ¬ (false = true) by decide)] at H; exact H
                  clear H
                  have H := H1
                  clear H1
                  have H' := Aside0.mk H
                  clear H
                  go_wp2
                  go_roundg kj5
                  case measure => have := HK1.out; have := HJ2.out; have := HJ5.out; omega
                  case rel => exact ⟨(wrap64 (x4_1 + 1)), (x102000_1), (x102001_1), (by first | rfl | (simp; done) | (simp [*]; done)), H', ⟨by have := HK1.out; have := HJ2.out; have := HJ5.out; omega⟩, ⟨by (with_reducible repeat (first | refine blk_drewN ?_ _ | refine blk_drew ?_ | refine blk_alloc ?_ _)); exact BK101.out⟩, ⟨by repeat (first | (with_reducible first | exact HB.out | apply below_alloc | apply pw_below_drewN | apply below_drew1 | refine below_set ?_ GE101.out) | exact HB.out)⟩⟩
          · replace c5 := Bool.eq_false_iff.mpr c5
            subst c5
            have H1 : (some (0, 0, 0)) = some (r1, r2, r3) := by rw [if_neg (show ¬ (false = true) by decide)] at H; exact H
            clear H
            have H := H1
            clear H1
            simp only [Option.some.injEq, Prod.mk.injEq] at H
            obtain ⟨rfl, rfl, rfl⟩ := H
            have hcz28_0 : wc.cell? ⟨gb101, 0, none⟩ = some (.int .i64 x102000_1) := (blk_cell BK101.out 0).trans rfl
            have hcz28_1 : wc.cell? ⟨gb101, 1, none⟩ = some (.int .i64 x102001_1) := (blk_cell BK101.out 1).trans rfl
            have hfz28_0 := blk_frozen BK101.out 0
            have hfz28_1 := blk_frozen BK101.out 1
            go_wp2
            refine bodyPost_ret (results_ct rfl _ _ gb101 62 #[.int .i64 0, .int .i64 0] (0, 0) _ rfl (by (with_reducible repeat (first | refine blk_drewN ?_ _ | refine blk_drew ?_ | refine blk_alloc ?_ _)); refine blk_put (cs := #[.int .i64 0, .int .i64 x102001_1]) ?_ 1 _ rfl; (with_reducible repeat (first | refine blk_drewN ?_ _ | refine blk_drew ?_ | refine blk_alloc ?_ _)); refine blk_put (cs := #[.int .i64 x102000_1, .int .i64 x102001_1]) ?_ 0 _ rfl; (with_reducible repeat (first | refine blk_drewN ?_ _ | refine blk_drew ?_ | refine blk_alloc ?_ _)); exact BK101.out) Tryz.underlying62 rfl (by kernel_rfl)) rfl ?_
            exact ⟨by first | rfl | (simp [errW_none, errW_some] <;> rfl) | (simp [*, errW_none, errW_some] <;> rfl), by repeat (first | (with_reducible first | exact HB.out | apply below_alloc | apply pw_below_drewN | apply below_drew1 | refine below_set ?_ GE101.out) | exact HB.out)⟩
end
end Go.Proofs.YtfjbjiklohjodaaGreatDoor.Q
namespace Go.Proofs.YtfjbjiklohjodaaGreatDoor.Q
open Go.RowKit Go.Proofs.YtfjbjiklohjodaaGreatDoorW.PrintWords Go.Proofs.YtfjbjiklohjodaaGreatDoorW.PrintLast Go.Proofs.YtfjbjiklohjodaaGreatDoorW.PrintMore
attribute [local go_sem] max2_int min2_int max_two min_two max_three min_three max_four min_four
set_option linter.unusedVariables false
set_option linter.unusedSimpArgs false
noncomputable section
def spec_l2Pieces.l0 : Nat → ByteArray → List (S116) → Int → Int → Option ((List (S116)))
  | 0, _, _, _, _ => none
  | k + 1, x0, x3, x4, x5 => if x5 < x4 then (if 0 ≤ x5 then (if x5 ≤ x4 then (if x4 ≤ (x0.size : Int) then ((spec_l2Name.f k (x0.extract (x5 : Int).toNat (x4 : Int).toNat)).bind fun bt105 => (if bt105.2.2 > 0 then (if x3.length < 4398046511104 then (spec_l2Pieces.l0 k x0 (x3 ++ [(⟨bt105.2.2, true, (⟨bt105.1, bt105.2.1⟩ : S62)⟩ : S116)]) x4 (wrap64 (x5 + bt105.2.2))) else (none)) else (if x3.length < 4398046511104 then (spec_l2Pieces.l0 k x0 (x3 ++ [(⟨1, false, (⟨0, 0⟩ : S62)⟩ : S116)]) x4 (wrap64 (x5 + 1))) else (none)))) else (none)) else (none)) else (none)) else (some x3)
def spec_l2Pieces.f (k : Nat) (a0 : ByteArray) : Option ((List (S116))) := (spec_l2Held.f a0).bind fun t104 => (spec_l2Pieces.l0 k a0 (([] : List (S116))) (wrap64 ((a0.size : Int) - t104)) 0)
set_option maxHeartbeats 8000000 in
set_option maxRecDepth 100000 in
theorem spec_l2Pieces.calls (k : Nat) (a0 : ByteArray) (r : List (S116)) (w : World) (h : spec_l2Pieces.f k a0 = some r) :
    Calls Tryz.prog 121 #[.string a0] w fun e w' => ∃ v0_ : Value, e = .returned (v0_) ∧ Kd.R k116 116 w' w.heap.size (fun _ => True) v0_ r ∧ Below w.heap.size w w' := by
  have hu62 := Tryz.underlying62
  have hu116 := Tryz.underlying116
  have HB := Aside0.mk (Below.refl w.heap.size w)
  have H : ((spec_l2Held.f a0).bind fun t104 => (spec_l2Pieces.l0 k a0 (([] : List (S116))) (wrap64 ((a0.size : Int) - t104)) 0)) = some r := h
  clear h
  obtain ⟨y101, hy101⟩ : ∃ y_ : List (S116), y_ = (([] : List (S116))) := ⟨_, rfl⟩
  replace H : ((spec_l2Held.f a0).bind fun t104 => (spec_l2Pieces.l0 k a0 y101 (wrap64 ((a0.size : Int) - t104)) 0)) = some r := by first | (rw [hy101]; with_reducible exact H) | (have H2_ := (Option.bind_some _ _).symm.trans H; rw [hy101]; with_reducible exact H2_) | (have H2_ := (Option.bind_some _ _).symm.trans H; with_reducible exact H2_) | with_reducible exact H | (rw [hy101]; exact H) | exact H
  have Ny101 := Aside0.mk hy101
  clear hy101
  replace H := Option.bind_eq_some_iff.mp H
  obtain ⟨t104, A20, H⟩ := H
  replace H : (spec_l2Pieces.l0 k a0 y101 (wrap64 ((a0.size : Int) - t104)) 0) = some r := H
  have A2 := Aside0.mk A20
  clear A20
  have H' := Aside0.mk H
  clear H
  go_enter Tryz.func121, Tryz.ntmps121
  go_wp2_with (first | ((with_reducible refine gate_dst (N := 8) rfl ?_); refine Kd.R_lit k116 _ 116 ?hg (N := 8) ?hd (xs := ([] : List (S116))) (inner := []) (ok := fun _ => True) (okp := fun _ => True) ?hr ?hp (fun _ hk => hk) trivial (Below.refl _ _) (Nat.le_refl _) (by simp) ?_; (case hd => rfl); (case hg => rfl); (case hr => first | (go_simp; done) | (go_simp; rfl)); (case hp => exact (Reps.none _ _)); intro v102 w3 ho4 hb hg_ hnew_; clear hg_ hnew_; (first | rw [← Ny101.out] at ho4 | (simp only [Int.reduceToNat] at ho4; rw [← Ny101.out] at ho4)); have n0_ := Aside0.mk (Kd.R_lower ho4 (below_size (by repeat (first | (with_reducible first | exact HB.out | apply below_alloc | apply pw_below_drewN | apply below_drew1) | exact HB.out)))); have n1_ := Aside0.mk (below_step (by repeat (first | (with_reducible first | exact HB.out | apply below_alloc | apply pw_below_drewN | apply below_drew1) | exact HB.out)) hb); clear HB; have HO103 := n0_; have HB := n1_; clear n0_ n1_; clear hb ho4) | ((with_reducible refine gate_callee (f := 166) rfl ?_); refine goesL_ (some 12) rfl rfl Tryz.func166 (by kernel_rfl) rfl #[.string a0] rfl (by (try simp only [List.map_toArray, List.map_cons, List.map_nil]); first | done | rfl | (simp only [List.length_drop, List.length_take]; rfl)) ?_; (with_reducible refine (spec_l2Held.calls a0 t104 _ A2.out).mono ?_); rintro e w5 ⟨rfl, hb⟩; refine ⟨_, rfl, ?_⟩; have n0_ := Aside0.mk (Kd.R_below (by (with_reducible repeat (first | apply Kd.R_alloc | apply Kd.R_drewN | apply Kd.R_drew)); exact HO103.out) hb); have n1_ := Aside0.mk (below_step (by repeat (first | (with_reducible first | exact HB.out | apply below_alloc | apply pw_below_drewN | apply below_drew1) | exact HB.out)) hb); clear HO103; clear HB; have HO103 := n0_; have HB := n1_; clear n0_ n1_; (try clear hb); (try clear hb2); (try clear hk); (try clear hi)))
  go_loopg [3, 5] k (fun kq v3 v5 w' => ∃ (x3_1 : List (S116)) (x5_1 : Int), v5 = .int .i64 x5_1 ∧ Aside0 (spec_l2Pieces.l0 kq a0 x3_1 (wrap64 ((a0.size : Int) - t104)) x5_1 = some r) ∧ Aside0 (kq ≤ k) ∧ Aside0 (Kd.R k116 116 w' w.heap.size (fun _ => True) v3 x3_1) ∧ Aside0 (Below w.heap.size w w'))
  case atStart => exact ⟨(y101), (0), (by first | rfl | (simp; done) | (simp [*]; done)), H', ⟨Nat.le_refl _⟩, ⟨by (with_reducible repeat (first | apply Kd.R_alloc | apply Kd.R_drewN | apply Kd.R_drew)); exact HO103.out⟩, ⟨by repeat (first | (with_reducible first | exact HB.out | apply below_alloc | apply pw_below_drewN | apply below_drew1) | exact HB.out)⟩⟩
  case round =>
    clear H'
    try clear c1
    try clear p2
    obtain ⟨x3_1, x5_1, rfl, HA, HK1, HO_3, HB⟩ := hrel
    cases gk with
    | zero => exact absurd HA.out (by simp [spec_l2Pieces.l0])
    | succ k1 =>
      have H := HA.out
      clear HA
      simp only [spec_l2Pieces.l0] at H
      by_cases c6 : x5_1 < (wrap64 ((a0.size : Int) - t104))
      · rw [if_pos c6] at H
        have c6b0 : decide (x5_1 < (wrap64 ((a0.size : Int) - t104))) = true := decide_eq_true c6
        clear c6
        by_cases c7 : 0 ≤ x5_1
        · rw [if_pos c7] at H
          have c7b0 := eq_true c7
          have c7b1 : decide (0 ≤ x5_1) = true := decide_eq_true c7
          clear c7
          by_cases c8 : x5_1 ≤ (wrap64 ((a0.size : Int) - t104))
          · rw [if_pos c8] at H
            have c8b0 := eq_true c8
            have c8b1 : decide (x5_1 ≤ (wrap64 ((a0.size : Int) - t104))) = true := decide_eq_true c8
            clear c8
            by_cases c9 : (wrap64 ((a0.size : Int) - t104)) ≤ (a0.size : Int)
            · rw [if_pos c9] at H
              have c9b0 := eq_true c9
              have c9b1 : decide ((wrap64 ((a0.size : Int) - t104)) ≤ (a0.size : Int)) = true := decide_eq_true c9
              clear c9
              replace H := Option.bind_eq_some_iff.mp H
              obtain ⟨⟨t105, t106, t107⟩, A100, H⟩ := H
              replace H : (if t107 > 0 then (if x3_1.length < 4398046511104 then (spec_l2Pieces.l0 k1 a0 (x3_1 ++ [(⟨t107, true, (⟨t105, t106⟩ : S62)⟩ : S116)]) (wrap64 ((a0.size : Int) - t104)) (wrap64 (x5_1 + t107))) else (none)) else (if x3_1.length < 4398046511104 then (spec_l2Pieces.l0 k1 a0 (x3_1 ++ [(⟨1, false, (⟨0, 0⟩ : S62)⟩ : S116)]) (wrap64 ((a0.size : Int) - t104)) (wrap64 (x5_1 + 1))) else (none))) = some r := H
              have A10 := Aside0.mk A100
              clear A100
              by_cases c11 : t107 > 0
              · rw [if_pos c11] at H
                have c11b0 : decide (0 < t107) = true := decide_eq_true c11
                clear c11
                by_cases c12 : x3_1.length < 4398046511104
                · rw [if_pos c12] at H
                  have LMc12 := Aside0.mk c12
                  clear c12
                  obtain ⟨y109, hy109⟩ : ∃ y_ : List (S116), y_ = (x3_1 ++ [(⟨t107, true, (⟨t105, t106⟩ : S62)⟩ : S116)]) := ⟨_, rfl⟩
                  replace H : (spec_l2Pieces.l0 k1 a0 y109 (wrap64 ((a0.size : Int) - t104)) (wrap64 (x5_1 + t107))) = some r := by first | (rw [hy109]; with_reducible exact H) | (have H2_ := (Option.bind_some _ _).symm.trans H; rw [hy109]; with_reducible exact H2_) | (have H2_ := (Option.bind_some _ _).symm.trans H; with_reducible exact H2_) | with_reducible exact H | (rw [hy109]; exact H) | exact H
                  have Ny109 := Aside0.mk hy109
                  clear hy109
                  have H' := Aside0.mk H
                  clear H
                  go_wp2_with (first | ((with_reducible refine gate_callee (f := 167) rfl ?_); refine goesL_ (some 22) rfl rfl Tryz.func167 (by kernel_rfl) rfl #[.string (a0.extract (x5_1 : Int).toNat ((wrap64 ((a0.size : Int) - t104)) : Int).toNat)] rfl (by (try simp only [List.map_toArray, List.map_cons, List.map_nil]); first | done | rfl | (simp only [List.length_drop, List.length_take]; rfl)) ?_; (with_reducible refine (spec_l2Name.calls k1 (a0.extract (x5_1 : Int).toNat ((wrap64 ((a0.size : Int) - t104)) : Int).toNat) t105 t106 t107 _ A10.out).mono ?_); rintro e w13 ⟨rfl, hb⟩; refine ⟨_, rfl, ?_⟩; have n0_ := Aside0.mk (Kd.R_below (by (with_reducible repeat (first | apply Kd.R_alloc | apply Kd.R_drewN | apply Kd.R_drew)); exact HO_3.out) hb); have n1_ := Aside0.mk (below_step (by repeat (first | (with_reducible first | exact HB.out | apply below_alloc | apply pw_below_drewN | apply below_drew1) | exact HB.out)) hb); clear HO_3; clear HB; have HO_3 := n0_; have HB := n1_; clear n0_ n1_; (try clear hb); (try clear hb2); (try clear hk); (try clear hi)) | ((with_reducible refine gate_dst (N := 6) rfl ?_); refine box_event ?hg (N := 6) ?hd (cs := #[.int .i64 0, .int .i64 0]) (t := 62) ?hr ?_; (case hd => rfl); (case hg => rfl); (case hr => first | (go_simp; done) | (go_simp; rfl)); intro gb108 hg w14 hbox hb; have n0_ := Aside0.mk (Kd.R_below (by (with_reducible repeat (first | apply Kd.R_alloc | apply Kd.R_drewN | apply Kd.R_drew)); exact HO_3.out) hb); have n1_ := Aside0.mk (below_step (by repeat (first | (with_reducible first | exact HB.out | apply below_alloc | apply pw_below_drewN | apply below_drew1) | exact HB.out)) hb); have n2_ := Aside0.mk (hbox); have n3_ := Aside0.mk ((by rw [hg]; exact (below_size (by repeat (first | (with_reducible first | exact HB.out | apply below_alloc | apply pw_below_drewN | apply below_drew1) | exact HB.out))) : w.heap.size ≤ gb108)); have n4_ := Aside0.mk ((by rw [hg]; exact (below_size (by repeat (first | (with_reducible first | exact HB.out | apply below_alloc | apply pw_below_drewN | apply below_drew1) | exact HB.out))) : w.heap.size ≤ gb108)); clear HO_3; clear HB; have HO_3 := n0_; have HB := n1_; have BK108 := n2_; have GW108 := n3_; have GE108 := n4_; clear n0_ n1_ n2_ n3_ n4_; clear hb hbox hg; have hcz15_0 : w14.cell? ⟨gb108, 0, none⟩ = some (.int .i64 0) := (blk_cell BK108.out 0).trans rfl; have hcz15_1 : w14.cell? ⟨gb108, 1, none⟩ = some (.int .i64 0) := (blk_cell BK108.out 1).trans rfl; have hfz15_0 := blk_frozen BK108.out 0; have hfz15_1 := blk_frozen BK108.out 1) | ((with_reducible refine gate_builtin (b := .append) (xs := #[.tmp 27, .tmp 31]) rfl ?_); at_builtin; refine Kd.R_append k116 (w0 := w) w.heap.size rfl (.tmp 27) (.tmp 31) 113 116 (.agg #[(.int .i64 0), (.bool false), (.int .i64 0), (.int .i64 0)]) 32 rfl Tryz.underlying113 info116 rfl (by decide) (by omega) u3 x3_1 (⟨t107, true, (⟨t105, t106⟩ : S62)⟩ : S116) [.int .i64 t107, .bool true, .int .i64 t105, .int .i64 t106] (fun _ => True) (fun _ => False) rfl (by first | (go_simp; done) | (go_simp; rfl)) ?aP (fun _ hk => hk.elim) ?aF ?aO ?aB ?aS ?aL ?_; (case aP => exact k116_mkM _ _ _ (⟨t107, true, (⟨t105, t106⟩ : S62)⟩ : S116)); (case aB => exact (by repeat (first | (with_reducible first | exact HB.out | apply below_alloc | apply pw_below_drewN | apply below_drew1 | refine below_set ?_ GE108.out) | exact HB.out))); (case aF => exact (fun _ _ => trivial)); (case aO => exact (by (with_reducible repeat (first | apply Kd.R_alloc | apply Kd.R_drewN | apply Kd.R_drew)); exact Kd.R_mono (Kd.R_far (p := ⟨gb108, 1, none⟩) (Kd.R_far (p := ⟨gb108, 0, none⟩) (Kd.R_types HO_3.out BK108.out (by decide)) (fun _ hk => hk.2) (.int .i64 t105)) (fun _ hk => hk.2) (.int .i64 t106)) (fun _ hk => trivial))); (case aS => exact (below_size (by repeat (first | (with_reducible first | exact HB.out | apply below_alloc | apply pw_below_drewN | apply below_drew1 | refine below_set ?_ GE108.out) | exact HB.out)))); (case aL => have := LMc12.out; omega); intro v110 w16 ho hb hg hat; rw [← Ny109.out] at ho; have n0_ := Aside0.mk (blk_grown (g := gb108) (o := .cells #[.int .i64 t105, .int .i64 t106] 62 (0, 0)) (by (with_reducible repeat (first | refine blk_drewN ?_ _ | refine blk_drew ?_ | refine blk_alloc ?_ _)); refine blk_put (cs := #[.int .i64 t105, .int .i64 0]) ?_ 1 _ rfl; (with_reducible repeat (first | refine blk_drewN ?_ _ | refine blk_drew ?_ | refine blk_alloc ?_ _)); refine blk_put (cs := #[.int .i64 0, .int .i64 0]) ?_ 0 _ rfl; (with_reducible repeat (first | refine blk_drewN ?_ _ | refine blk_drew ?_ | refine blk_alloc ?_ _)); exact BK108.out) hg (Kd.R_ne HO_3.out BK108.out (by decide))); have n1_ := Aside0.mk (hb); have n2_ := Aside0.mk (ho); clear BK108; clear HB; clear HO_3; have BK108 := n0_; have HB := n1_; have HO111 := n2_; clear n0_ n1_ n2_; clear ho hb hg hat))
                  go_roundg k1
                  case measure => have := HK1.out; omega
                  case rel => exact ⟨(y109), (wrap64 (x5_1 + t107)), (by first | rfl | (simp; done) | (simp [*]; done)), H', ⟨by have := HK1.out; omega⟩, ⟨by (with_reducible repeat (first | apply Kd.R_alloc | apply Kd.R_drewN | apply Kd.R_drew)); exact HO111.out⟩, ⟨by repeat (first | (with_reducible first | exact HB.out | apply below_alloc | apply pw_below_drewN | apply below_drew1 | refine below_set ?_ GE108.out) | exact HB.out)⟩⟩
                · rw [if_neg c12] at H
                  exact absurd H (by simp)
              · rw [if_neg c11] at H
                have c11b0 : decide (0 < t107) = false := decide_eq_false c11
                clear c11
                by_cases c17 : x3_1.length < 4398046511104
                · rw [if_pos c17] at H
                  have LMc17 := Aside0.mk c17
                  clear c17
                  obtain ⟨y112, hy112⟩ : ∃ y_ : List (S116), y_ = (x3_1 ++ [(⟨1, false, (⟨0, 0⟩ : S62)⟩ : S116)]) := ⟨_, rfl⟩
                  replace H : (spec_l2Pieces.l0 k1 a0 y112 (wrap64 ((a0.size : Int) - t104)) (wrap64 (x5_1 + 1))) = some r := by first | (rw [hy112]; with_reducible exact H) | (have H2_ := (Option.bind_some _ _).symm.trans H; rw [hy112]; with_reducible exact H2_) | (have H2_ := (Option.bind_some _ _).symm.trans H; with_reducible exact H2_) | with_reducible exact H | (rw [hy112]; exact H) | exact H
                  have Ny112 := Aside0.mk hy112
                  clear hy112
                  have H' := Aside0.mk H
                  clear H
                  go_wp2_with (first | ((with_reducible refine gate_callee (f := 167) rfl ?_); refine goesL_ (some 22) rfl rfl Tryz.func167 (by kernel_rfl) rfl #[.string (a0.extract (x5_1 : Int).toNat ((wrap64 ((a0.size : Int) - t104)) : Int).toNat)] rfl (by (try simp only [List.map_toArray, List.map_cons, List.map_nil]); first | done | rfl | (simp only [List.length_drop, List.length_take]; rfl)) ?_; (with_reducible refine (spec_l2Name.calls k1 (a0.extract (x5_1 : Int).toNat ((wrap64 ((a0.size : Int) - t104)) : Int).toNat) t105 t106 t107 _ A10.out).mono ?_); rintro e w18 ⟨rfl, hb⟩; refine ⟨_, rfl, ?_⟩; have n0_ := Aside0.mk (Kd.R_below (by (with_reducible repeat (first | apply Kd.R_alloc | apply Kd.R_drewN | apply Kd.R_drew)); exact HO_3.out) hb); have n1_ := Aside0.mk (below_step (by repeat (first | (with_reducible first | exact HB.out | apply below_alloc | apply pw_below_drewN | apply below_drew1) | exact HB.out)) hb); clear HO_3; clear HB; have HO_3 := n0_; have HB := n1_; clear n0_ n1_; (try clear hb); (try clear hb2); (try clear hk); (try clear hi)) | ((with_reducible refine gate_dst (N := 6) rfl ?_); refine box_event ?hg (N := 6) ?hd (cs := #[.int .i64 0, .int .i64 0]) (t := 62) ?hr ?_; (case hd => rfl); (case hg => rfl); (case hr => first | (go_simp; done) | (go_simp; rfl)); intro gb108 hg w19 hbox hb; have n0_ := Aside0.mk (Kd.R_below (by (with_reducible repeat (first | apply Kd.R_alloc | apply Kd.R_drewN | apply Kd.R_drew)); exact HO_3.out) hb); have n1_ := Aside0.mk (below_step (by repeat (first | (with_reducible first | exact HB.out | apply below_alloc | apply pw_below_drewN | apply below_drew1) | exact HB.out)) hb); have n2_ := Aside0.mk (hbox); have n3_ := Aside0.mk ((by rw [hg]; exact (below_size (by repeat (first | (with_reducible first | exact HB.out | apply below_alloc | apply pw_below_drewN | apply below_drew1) | exact HB.out))) : w.heap.size ≤ gb108)); have n4_ := Aside0.mk ((by rw [hg]; exact (below_size (by repeat (first | (with_reducible first | exact HB.out | apply below_alloc | apply pw_below_drewN | apply below_drew1) | exact HB.out))) : w.heap.size ≤ gb108)); clear HO_3; clear HB; have HO_3 := n0_; have HB := n1_; have BK108 := n2_; have GW108 := n3_; have GE108 := n4_; clear n0_ n1_ n2_ n3_ n4_; clear hb hbox hg; have hcz20_0 : w19.cell? ⟨gb108, 0, none⟩ = some (.int .i64 0) := (blk_cell BK108.out 0).trans rfl; have hcz20_1 : w19.cell? ⟨gb108, 1, none⟩ = some (.int .i64 0) := (blk_cell BK108.out 1).trans rfl; have hfz20_0 := blk_frozen BK108.out 0; have hfz20_1 := blk_frozen BK108.out 1) | ((with_reducible refine gate_builtin (b := .append) (xs := #[.tmp 33, .tmp 35]) rfl ?_); at_builtin; refine Kd.R_append k116 (w0 := w) w.heap.size rfl (.tmp 33) (.tmp 35) 113 116 (.agg #[(.int .i64 0), (.bool false), (.int .i64 0), (.int .i64 0)]) 32 rfl Tryz.underlying113 info116 rfl (by decide) (by omega) u3 x3_1 (⟨1, false, (⟨0, 0⟩ : S62)⟩ : S116) [.int .i64 1, .bool false, .int .i64 0, .int .i64 0] (fun _ => True) (fun _ => False) rfl (by first | (go_simp; done) | (go_simp; rfl)) ?aP (fun _ hk => hk.elim) ?aF ?aO ?aB ?aS ?aL ?_; (case aP => exact k116_mkM _ _ _ (⟨1, false, (⟨0, 0⟩ : S62)⟩ : S116)); (case aB => exact (by repeat (first | (with_reducible first | exact HB.out | apply below_alloc | apply pw_below_drewN | apply below_drew1 | refine below_set ?_ GE108.out) | exact HB.out))); (case aF => exact (fun _ _ => trivial)); (case aO => exact (by (with_reducible repeat (first | apply Kd.R_alloc | apply Kd.R_drewN | apply Kd.R_drew)); exact Kd.R_mono (Kd.R_far (p := ⟨gb108, 1, none⟩) (Kd.R_far (p := ⟨gb108, 0, none⟩) (Kd.R_types HO_3.out BK108.out (by decide)) (fun _ hk => hk.2) (.int .i64 t105)) (fun _ hk => hk.2) (.int .i64 t106)) (fun _ hk => trivial))); (case aS => exact (below_size (by repeat (first | (with_reducible first | exact HB.out | apply below_alloc | apply pw_below_drewN | apply below_drew1 | refine below_set ?_ GE108.out) | exact HB.out)))); (case aL => have := LMc17.out; omega); intro v113 w21 ho hb hg hat; rw [← Ny112.out] at ho; have n0_ := Aside0.mk (blk_grown (g := gb108) (o := .cells #[.int .i64 t105, .int .i64 t106] 62 (0, 0)) (by (with_reducible repeat (first | refine blk_drewN ?_ _ | refine blk_drew ?_ | refine blk_alloc ?_ _)); refine blk_put (cs := #[.int .i64 t105, .int .i64 0]) ?_ 1 _ rfl; (with_reducible repeat (first | refine blk_drewN ?_ _ | refine blk_drew ?_ | refine blk_alloc ?_ _)); refine blk_put (cs := #[.int .i64 0, .int .i64 0]) ?_ 0 _ rfl; (with_reducible repeat (first | refine blk_drewN ?_ _ | refine blk_drew ?_ | refine blk_alloc ?_ _)); exact BK108.out) hg (Kd.R_ne HO_3.out BK108.out (by decide))); have n1_ := Aside0.mk (hb); have n2_ := Aside0.mk (ho); clear BK108; clear HB; clear HO_3; have BK108 := n0_; have HB := n1_; have HO114 := n2_; clear n0_ n1_ n2_; clear ho hb hg hat))
                  go_roundg k1
                  case measure => have := HK1.out; omega
                  case rel => exact ⟨(y112), (wrap64 (x5_1 + 1)), (by first | rfl | (simp; done) | (simp [*]; done)), H', ⟨by have := HK1.out; omega⟩, ⟨by (with_reducible repeat (first | apply Kd.R_alloc | apply Kd.R_drewN | apply Kd.R_drew)); exact HO114.out⟩, ⟨by repeat (first | (with_reducible first | exact HB.out | apply below_alloc | apply pw_below_drewN | apply below_drew1 | refine below_set ?_ GE108.out) | exact HB.out)⟩⟩
                · rw [if_neg c17] at H
                  exact absurd H (by simp)
            · rw [if_neg c9] at H
              exact absurd H (by simp)
          · rw [if_neg c8] at H
            exact absurd H (by simp)
        · rw [if_neg c7] at H
          exact absurd H (by simp)
      · rw [if_neg c6] at H
        have c6b0 : decide (x5_1 < (wrap64 ((a0.size : Int) - t104))) = false := decide_eq_false c6
        clear c6
        obtain rfl := Option.some.inj H
        go_wp2
        go_ret
        exact ⟨_, by first | rfl | (simp [errW_none, errW_some] <;> rfl) | (simp [*, errW_none, errW_some] <;> rfl), by (with_reducible repeat (first | apply Kd.R_alloc | apply Kd.R_drewN | apply Kd.R_drew)); exact HO_3.out, by repeat (first | (with_reducible first | exact HB.out | apply below_alloc | apply pw_below_drewN | apply below_drew1) | exact HB.out)⟩
end
end Go.Proofs.YtfjbjiklohjodaaGreatDoor.Q
namespace Go.Proofs.YtfjbjiklohjodaaGreatDoor.Q
open Go.RowKit Go.Proofs.YtfjbjiklohjodaaGreatDoorW.PrintWords Go.Proofs.YtfjbjiklohjodaaGreatDoorW.PrintLast Go.Proofs.YtfjbjiklohjodaaGreatDoorW.PrintMore Go.Proofs.YtfjbjiklohjodaaGreatDoor.Z
attribute [local go_sem] max2_int min2_int max_two min_two max_three min_three max_four min_four
set_option linter.unusedVariables false
set_option linter.unusedSimpArgs false
noncomputable section
def impl_pieces.l0 : Nat → List (S116) → ByteArray → Option ((List (S116)))
  | 0, _, _ => none
  | k + 1, x3, x4 => if x4.toList = ([] : List UInt8) then ((slices_Clip_Piece.f x3).bind fun t105 => (some t105)) else ((impl_piece.f x4).bind fun bt108 => (if x3.length < 4398046511104 then (if 0 ≤ bt108.1 then (if bt108.1 ≤ (x4.size : Int) then (impl_pieces.l0 k (x3 ++ [(⟨bt108.1, bt108.2.1, (⟨bt108.2.2.1, bt108.2.2.2⟩ : S62)⟩ : S116)]) (x4.extract (bt108.1 : Int).toNat x4.size)) else (none)) else (none)) else (none)))
def impl_pieces.f (k : Nat) (a0 : ByteArray) : Option ((List (S116))) := (impl_held.f a0).bind fun t104 => (if 0 ≤ (wrap64 ((a0.size : Int) - t104)) then (if (wrap64 ((a0.size : Int) - t104)) ≤ (a0.size : Int) then (impl_pieces.l0 k (([] : List (S116))) (a0.extract 0 ((wrap64 ((a0.size : Int) - t104)) : Int).toNat)) else (none)) else (none))
set_option maxHeartbeats 8000000 in
set_option maxRecDepth 100000 in
theorem impl_pieces.calls (k : Nat) (a0 : ByteArray) (r : List (S116)) (w : World) (hV : VarsIn w) (h : impl_pieces.f k a0 = some r) :
    Calls Tryz.prog 78 #[.string a0] w fun e w' => ∃ v0_ : Value, e = .returned (v0_) ∧ Kd.V k116 116 w' w.heap.size (fun k_ => (w.heap.size ≤ k_)) v0_ r ∧ Below w.heap.size w w' := by
  have hu116 := Tryz.underlying116
  have HB := Aside0.mk (Below.refl w.heap.size w)
  have H : ((impl_held.f a0).bind fun t104 => (if 0 ≤ (wrap64 ((a0.size : Int) - t104)) then (if (wrap64 ((a0.size : Int) - t104)) ≤ (a0.size : Int) then (impl_pieces.l0 k (([] : List (S116))) (a0.extract 0 ((wrap64 ((a0.size : Int) - t104)) : Int).toNat)) else (none)) else (none))) = some r := h
  clear h
  obtain ⟨y101, hy101⟩ : ∃ y_ : List (S116), y_ = (([] : List (S116))) := ⟨_, rfl⟩
  replace H : ((impl_held.f a0).bind fun t104 => (if 0 ≤ (wrap64 ((a0.size : Int) - t104)) then (if (wrap64 ((a0.size : Int) - t104)) ≤ (a0.size : Int) then (impl_pieces.l0 k y101 (a0.extract 0 ((wrap64 ((a0.size : Int) - t104)) : Int).toNat)) else (none)) else (none))) = some r := by first | (rw [hy101]; with_reducible exact H) | (have H2_ := (Option.bind_some _ _).symm.trans H; rw [hy101]; with_reducible exact H2_) | (have H2_ := (Option.bind_some _ _).symm.trans H; with_reducible exact H2_) | with_reducible exact H | (rw [hy101]; exact H) | exact H
  have Ny101 := Aside0.mk hy101
  clear hy101
  replace H := Option.bind_eq_some_iff.mp H
  obtain ⟨t104, A20, H⟩ := H
  replace H : (if 0 ≤ (wrap64 ((a0.size : Int) - t104)) then (if (wrap64 ((a0.size : Int) - t104)) ≤ (a0.size : Int) then (impl_pieces.l0 k y101 (a0.extract 0 ((wrap64 ((a0.size : Int) - t104)) : Int).toNat)) else (none)) else (none)) = some r := H
  have A2 := Aside0.mk A20
  clear A20
  obtain ⟨ji3, hji3⟩ : ∃ j_ : Int, (wrap64 ((a0.size : Int) - t104)) = j_ := ⟨_, rfl⟩
  replace H : (if 0 ≤ (ji3) then (if (ji3) ≤ (a0.size : Int) then (impl_pieces.l0 k y101 (a0.extract 0 ((ji3) : Int).toNat)) else (none)) else (none)) = some r := by first | (rw [hji3] at H; exact H) | (simp only [hji3] at H ⊢; exact H)
  (try rw [hji3] at A2)
  have hji3w : (IntKind.i64.wrap ((a0.size : Int) - t104)) = ji3 := (i64_w _).trans hji3
  by_cases c4 : 0 ≤ (ji3)
  · rw [if_pos c4] at H
    have c4b0 := eq_true c4
    have c4b1 : decide (0 ≤ (ji3)) = true := decide_eq_true c4
    clear c4
    by_cases c5 : (ji3) ≤ (a0.size : Int)
    · rw [if_pos c5] at H
      have c5b0 := eq_true c5
      have c5b1 : decide ((ji3) ≤ (a0.size : Int)) = true := decide_eq_true c5
      clear c5
      have H' := Aside0.mk H
      clear H
      go_enter Tryz.func78, Tryz.ntmps78
      go_wp2_with (first | ((with_reducible refine gate_dst (N := 6) rfl ?_); refine Kd.R_lit k116 _ 116 ?hg (N := 6) ?hd (xs := ([] : List (S116))) (inner := []) (ok := fun _ => True) (okp := fun _ => True) ?hr ?hp (fun _ hk => hk) trivial (Below.refl _ _) (Nat.le_refl _) (by simp) ?_; (case hd => rfl); (case hg => rfl); (case hr => first | (go_simp; done) | (go_simp; rfl)); (case hp => exact (Reps.none _ _)); intro v102 w6 ho7 hb hg_ hnew_; clear hg_ hnew_; (first | rw [← Ny101.out] at ho7 | (simp only [Int.reduceToNat] at ho7; rw [← Ny101.out] at ho7)); have n0_ := Aside0.mk (Kd.R_lower (Kd.R_newM (M := fun k_ => (w.heap.size ≤ k_)) ho7 (below_size (by repeat (first | (with_reducible first | exact HB.out | apply below_alloc | apply pw_below_drewN | apply below_drew1) | exact HB.out))) (fun k_ h_ => h_)) (below_size (by repeat (first | (with_reducible first | exact HB.out | apply below_alloc | apply pw_below_drewN | apply below_drew1) | exact HB.out)))); have n1_ := Aside0.mk (below_step (by repeat (first | (with_reducible first | exact HB.out | apply below_alloc | apply pw_below_drewN | apply below_drew1) | exact HB.out)) hb); clear HB; have HO103 := n0_; have HB := n1_; clear n0_ n1_; clear hb ho7) | ((with_reducible refine gate_callee (f := 131) rfl ?_); refine goesL_ (some 11) rfl rfl Tryz.func131 (by kernel_rfl) rfl #[.string a0] rfl (by (try simp only [List.map_toArray, List.map_cons, List.map_nil]); first | done | rfl | (simp only [List.length_drop, List.length_take]; rfl)) ?_; (with_reducible refine (impl_held.calls a0 t104 _ A2.out).mono ?_); rintro e w8 ⟨rfl, hb⟩; refine ⟨_, rfl, ?_⟩; have n0_ := Aside0.mk (Kd.R_below (by (with_reducible repeat (first | apply Kd.R_alloc | apply Kd.R_drewN | apply Kd.R_drew)); exact HO103.out) hb); have n1_ := Aside0.mk (below_step (by repeat (first | (with_reducible first | exact HB.out | apply below_alloc | apply pw_below_drewN | apply below_drew1) | exact HB.out)) hb); clear HO103; clear HB; have HO103 := n0_; have HB := n1_; clear n0_ n1_; (try clear hb); (try clear hb2); (try clear hk); (try clear hi)))
      go_loopg [3, 4] k (fun kq v3 v4 w' => ∃ (x3_1 : List (S116)) (x4_1 : ByteArray), v4 = .string x4_1 ∧ Aside0 (impl_pieces.l0 kq x3_1 x4_1 = some r) ∧ Aside0 (kq ≤ k) ∧ Aside0 (Kd.R k116 116 w' w.heap.size (fun k_ => (w.heap.size ≤ k_)) v3 x3_1) ∧ Aside0 (Below w.heap.size w w'))
      case atStart => exact ⟨(y101), (a0.extract 0 ((ji3) : Int).toNat), (by first | rfl | (simp; done) | (simp only [← hji3] <;> (first | rfl | simp)) | (simp [*]; done)), H', ⟨Nat.le_refl _⟩, ⟨by (with_reducible repeat (first | apply Kd.R_alloc | apply Kd.R_drewN | apply Kd.R_drew)); exact Kd.R_mono HO103.out (fun _ hk => hk.1)⟩, ⟨by repeat (first | (with_reducible first | exact HB.out | apply below_alloc | apply pw_below_drewN | apply below_drew1) | exact HB.out)⟩⟩
      case round =>
        clear H'
        try clear c1
        try clear p2
        try clear c4
        try clear c4b0
        try clear c4b1
        try clear c5
        try clear c5b0
        try clear c5b1
        try clear p6
        try clear c7
        obtain ⟨x3_1, x4_1, rfl, HA, HK1, HO_3, HB⟩ := hrel
        cases gk with
        | zero => exact absurd HA.out (by simp [impl_pieces.l0])
        | succ k1 =>
          have H := HA.out
          clear HA
          simp only [impl_pieces.l0] at H
          by_cases c9 : x4_1.toList = ([] : List UInt8)
          · rw [if_pos c9] at H
            have c9b0 : (x4_1.toList == ([] : List UInt8)) = true := beq_iff_eq.mpr c9
            have c9b1 : (x4_1.toList != ([] : List UInt8)) = false := bne_eq_false_iff_eq.mpr c9
            clear c9
            replace H := Option.bind_eq_some_iff.mp H
            obtain ⟨t105, A100, H⟩ := H
            replace H : (some t105) = some r := H
            have A10 := Aside0.mk A100
            clear A100
            obtain rfl := Option.some.inj H
            obtain ⟨Ao11, co11, eo11⟩ := Kd.R_slice HO_3.out
            subst eo11
            go_wp2_with (first | ((with_reducible refine gate_callee (f := 133) rfl ?_); refine goesL_ (some 27) rfl rfl Tryz.func133 (by kernel_rfl) rfl #[.slice Ao11 x3_1.length co11] rfl (by (try simp only [List.map_toArray, List.map_cons, List.map_nil]); first | done | rfl | (simp only [List.length_drop, List.length_take]; rfl)) ?_; (with_reducible refine (slices_Clip_Piece.calls (fun k_ => some k_ = (.slice Ao11 x3_1.length co11 : Value).ownBlock) _ _ x3_1 t105 _ ?side1 A10.out).mono ?_); (case side1 => exact Kd.R_V (Kd.R_tight rfl (HO_3.out))); rintro e w12 ⟨v106, rfl, ho0, hb⟩; refine ⟨_, rfl, ?_⟩; have n0_ := Aside0.mk (Kd.R_below (by (with_reducible repeat (first | apply Kd.R_alloc | apply Kd.R_drewN | apply Kd.R_drew)); exact HO_3.out) hb); have n1_ := Aside0.mk (Kd.V_lower (Kd.V_mono (ok' := fun k_ => (w.heap.size ≤ k_)) ho0 (fun k_ hk_ => Or.elim hk_ (fun hs_ => ((HO_3.out).1 k_ hs_.symm)) (fun hn_ => (Nat.le_trans (below_size (by repeat (first | (with_reducible first | exact HB.out | apply below_alloc | apply pw_below_drewN | apply below_drew1) | exact HB.out))) hn_)))) (below_size (by repeat (first | (with_reducible first | exact HB.out | apply below_alloc | apply pw_below_drewN | apply below_drew1) | exact HB.out)))); have n2_ := Aside0.mk (below_step (by repeat (first | (with_reducible first | exact HB.out | apply below_alloc | apply pw_below_drewN | apply below_drew1) | exact HB.out)) hb); clear HO_3; clear HB; have HO_3 := n0_; have HO107 := n1_; have HB := n2_; clear n0_ n1_ n2_; (try clear hb); (try clear hb2); (try clear hk); (try clear hi); (try clear ho0)))
            go_ret
            exact ⟨_, by first | rfl | (simp [errW_none, errW_some] <;> rfl) | (simp only [← hji3]; first | rfl | (simp [errW_none, errW_some] <;> rfl)) | (simp [*, errW_none, errW_some] <;> rfl), by (with_reducible repeat (first | apply Kd.V_alloc | apply Kd.V_drewN | apply Kd.V_drew)); exact HO107.out, by repeat (first | (with_reducible first | exact HB.out | apply below_alloc | apply pw_below_drewN | apply below_drew1) | exact HB.out)⟩
          · rw [if_neg c9] at H
            have c9b0 : (x4_1.toList == ([] : List UInt8)) = false := beq_eq_false_iff_ne.mpr c9
            have c9b1 : (x4_1.toList != ([] : List UInt8)) = true := bne_iff_ne.mpr c9
            replace H := Option.bind_eq_some_iff.mp H
            obtain ⟨⟨t108, t109, t110, t111⟩, A130, H⟩ := H
            replace H : (if x3_1.length < 4398046511104 then (if 0 ≤ t108 then (if t108 ≤ (x4_1.size : Int) then (impl_pieces.l0 k1 (x3_1 ++ [(⟨t108, t109, (⟨t110, t111⟩ : S62)⟩ : S116)]) (x4_1.extract (t108 : Int).toNat x4_1.size)) else (none)) else (none)) else (none)) = some r := H
            have A13 := Aside0.mk A130
            clear A130
            by_cases c14 : x3_1.length < 4398046511104
            · rw [if_pos c14] at H
              have LMc14 := Aside0.mk c14
              clear c14
              obtain ⟨y113, hy113⟩ : ∃ y_ : List (S116), y_ = (x3_1 ++ [(⟨t108, t109, (⟨t110, t111⟩ : S62)⟩ : S116)]) := ⟨_, rfl⟩
              replace H : (if 0 ≤ t108 then (if t108 ≤ (x4_1.size : Int) then (impl_pieces.l0 k1 y113 (x4_1.extract (t108 : Int).toNat x4_1.size)) else (none)) else (none)) = some r := by first | (rw [hy113]; with_reducible exact H) | (have H2_ := (Option.bind_some _ _).symm.trans H; rw [hy113]; with_reducible exact H2_) | (have H2_ := (Option.bind_some _ _).symm.trans H; with_reducible exact H2_) | with_reducible exact H | (rw [hy113]; exact H) | exact H
              have Ny113 := Aside0.mk hy113
              clear hy113
              by_cases c15 : 0 ≤ t108
              · rw [if_pos c15] at H
                have c15b0 := eq_true c15
                have c15b1 : decide (0 ≤ t108) = true := decide_eq_true c15
                clear c15
                by_cases c16 : t108 ≤ (x4_1.size : Int)
                · rw [if_pos c16] at H
                  have c16b0 := eq_true c16
                  have c16b1 : decide (t108 ≤ (x4_1.size : Int)) = true := decide_eq_true c16
                  clear c16
                  have H' := Aside0.mk H
                  clear H
                  go_wp2_with (first | ((with_reducible refine gate_callee (f := 132) rfl ?_); refine goesL_ (some 17) rfl rfl Tryz.func132 (by kernel_rfl) rfl #[.string x4_1] rfl (by (try simp only [List.map_toArray, List.map_cons, List.map_nil]); first | done | rfl | (simp only [List.length_drop, List.length_take]; rfl)) ?_; (with_reducible refine (impl_piece.calls x4_1 t108 t109 t110 t111 _ ?side1 A13.out).mono ?_); (case side1 => exact hV.next (by repeat (first | (with_reducible first | exact HB.out | apply below_alloc | apply pw_below_drewN | apply below_drew1) | exact HB.out))); rintro e w17 ⟨rfl, hb⟩; refine ⟨_, rfl, ?_⟩; have n0_ := Aside0.mk (Kd.R_below (by (with_reducible repeat (first | apply Kd.R_alloc | apply Kd.R_drewN | apply Kd.R_drew)); exact HO_3.out) hb); have n1_ := Aside0.mk (below_step (by repeat (first | (with_reducible first | exact HB.out | apply below_alloc | apply pw_below_drewN | apply below_drew1) | exact HB.out)) hb); clear HO_3; clear HB; have HO_3 := n0_; have HB := n1_; clear n0_ n1_; (try clear hb); (try clear hb2); (try clear hk); (try clear hi)) | ((with_reducible refine gate_dst (N := 5) rfl ?_); refine box_event ?hg (N := 5) ?hd (cs := #[.int .i64 0, .bool false, .int .i64 0, .int .i64 0]) (t := 116) ?hr ?_; (case hd => rfl); (case hg => rfl); (case hr => first | (go_simp; done) | (go_simp; rfl)); intro gb112 hg w18 hbox hb; have n0_ := Aside0.mk (Kd.R_below (Kd.R_elderB (by (with_reducible repeat (first | apply Kd.R_alloc | apply Kd.R_drewN | apply Kd.R_drew)); exact HO_3.out) gb112 (Nat.le_of_eq hg.symm)) hb); have n1_ := Aside0.mk (below_step (by repeat (first | (with_reducible first | exact HB.out | apply below_alloc | apply pw_below_drewN | apply below_drew1) | exact HB.out)) hb); have n2_ := Aside0.mk (hbox); have n3_ := Aside0.mk ((by rw [hg]; exact (below_size (by repeat (first | (with_reducible first | exact HB.out | apply below_alloc | apply pw_below_drewN | apply below_drew1) | exact HB.out))) : w.heap.size ≤ gb112)); have n4_ := Aside0.mk ((by rw [hg]; exact (below_size (by repeat (first | (with_reducible first | exact HB.out | apply below_alloc | apply pw_below_drewN | apply below_drew1) | exact HB.out))) : w.heap.size ≤ gb112)); clear HO_3; clear HB; have HO_3 := n0_; have HB := n1_; have BK112 := n2_; have GW112 := n3_; have GE112 := n4_; clear n0_ n1_ n2_ n3_ n4_; clear hb hbox hg; have hcz19_0 : w18.cell? ⟨gb112, 0, none⟩ = some (.int .i64 0) := (blk_cell BK112.out 0).trans rfl; have hcz19_1 : w18.cell? ⟨gb112, 1, none⟩ = some (.bool false) := (blk_cell BK112.out 1).trans rfl; have hcz19_2 : w18.cell? ⟨gb112, 2, none⟩ = some (.int .i64 0) := (blk_cell BK112.out 2).trans rfl; have hcz19_3 : w18.cell? ⟨gb112, 3, none⟩ = some (.int .i64 0) := (blk_cell BK112.out 3).trans rfl; have hfz19_0 := blk_frozen BK112.out 0; have hfz19_1 := blk_frozen BK112.out 1; have hfz19_2 := blk_frozen BK112.out 2; have hfz19_3 := blk_frozen BK112.out 3) | ((with_reducible refine gate_builtin (b := .append) (xs := #[.tmp 18, .tmp 20]) rfl ?_); at_builtin; refine Kd.R_append k116 (w0 := w) w.heap.size rfl (.tmp 18) (.tmp 20) 113 116 (.agg #[(.int .i64 0), (.bool false), (.int .i64 0), (.int .i64 0)]) 32 rfl Tryz.underlying113 info116 rfl (by decide) (by omega) u3 x3_1 (⟨t108, t109, (⟨t110, t111⟩ : S62)⟩ : S116) [.int .i64 t108, .bool t109, .int .i64 t110, .int .i64 t111] (fun k_ => (w.heap.size ≤ k_) ∧ k_ ≠ gb112) (fun _ => False) rfl (by first | (go_simp; done) | (go_simp; rfl)) ?aP (fun _ hk => hk.elim) ?aF ?aO ?aB ?aS ?aL ?_; (case aP => exact k116_mkM _ _ _ (⟨t108, t109, (⟨t110, t111⟩ : S62)⟩ : S116)); (case aB => exact (by repeat (first | (with_reducible first | exact HB.out | apply below_alloc | apply pw_below_drewN | apply below_drew1 | refine below_set ?_ GE112.out) | exact HB.out))); (case aF => exact (fun k_ hk => ⟨(Nat.le_trans (below_size (by repeat (first | (with_reducible first | exact HB.out | apply below_alloc | apply pw_below_drewN | apply below_drew1 | refine below_set ?_ GE112.out) | exact HB.out))) hk), Kd.freshB (g := gb112) (o := .cells #[.int .i64 t108, .bool t109, .int .i64 t110, .int .i64 t111] 116 (0, 0)) (by (with_reducible repeat (first | refine blk_drewN ?_ _ | refine blk_drew ?_ | refine blk_alloc ?_ _)); refine blk_put (cs := #[.int .i64 t108, .bool t109, .int .i64 t110, .int .i64 0]) ?_ 3 _ rfl; (with_reducible repeat (first | refine blk_drewN ?_ _ | refine blk_drew ?_ | refine blk_alloc ?_ _)); refine blk_put (cs := #[.int .i64 t108, .bool t109, .int .i64 0, .int .i64 0]) ?_ 2 _ rfl; (with_reducible repeat (first | refine blk_drewN ?_ _ | refine blk_drew ?_ | refine blk_alloc ?_ _)); refine blk_put (cs := #[.int .i64 t108, .bool false, .int .i64 0, .int .i64 0]) ?_ 1 _ rfl; (with_reducible repeat (first | refine blk_drewN ?_ _ | refine blk_drew ?_ | refine blk_alloc ?_ _)); refine blk_put (cs := #[.int .i64 0, .bool false, .int .i64 0, .int .i64 0]) ?_ 0 _ rfl; (with_reducible repeat (first | refine blk_drewN ?_ _ | refine blk_drew ?_ | refine blk_alloc ?_ _)); exact BK112.out) k_ hk⟩)); (case aO => exact (by (with_reducible repeat (first | apply Kd.R_alloc | apply Kd.R_drewN | apply Kd.R_drew)); exact Kd.R_mono (Kd.R_far (p := ⟨gb112, 3, none⟩) (Kd.R_far (p := ⟨gb112, 2, none⟩) (Kd.R_far (p := ⟨gb112, 1, none⟩) (Kd.R_far (p := ⟨gb112, 0, none⟩) (Kd.R_mono HO_3.out (fun k_ hk => (⟨hk, hk.2⟩ : _ ∧ k_ ≠ gb112))) (fun _ hk => hk.2) (.int .i64 t108)) (fun _ hk => hk.2) (.bool t109)) (fun _ hk => hk.2) (.int .i64 t110)) (fun _ hk => hk.2) (.int .i64 t111)) (fun _ hk => ⟨hk.1.1, hk.1.2⟩))); (case aS => exact (below_size (by repeat (first | (with_reducible first | exact HB.out | apply below_alloc | apply pw_below_drewN | apply below_drew1 | refine below_set ?_ GE112.out) | exact HB.out)))); (case aL => have := LMc14.out; omega); intro v114 w20 ho hb hg hat; rw [← Ny113.out] at ho; have n0_ := Aside0.mk (blk_grown (g := gb112) (o := .cells #[.int .i64 t108, .bool t109, .int .i64 t110, .int .i64 t111] 116 (0, 0)) (by (with_reducible repeat (first | refine blk_drewN ?_ _ | refine blk_drew ?_ | refine blk_alloc ?_ _)); refine blk_put (cs := #[.int .i64 t108, .bool t109, .int .i64 t110, .int .i64 0]) ?_ 3 _ rfl; (with_reducible repeat (first | refine blk_drewN ?_ _ | refine blk_drew ?_ | refine blk_alloc ?_ _)); refine blk_put (cs := #[.int .i64 t108, .bool t109, .int .i64 0, .int .i64 0]) ?_ 2 _ rfl; (with_reducible repeat (first | refine blk_drewN ?_ _ | refine blk_drew ?_ | refine blk_alloc ?_ _)); refine blk_put (cs := #[.int .i64 t108, .bool false, .int .i64 0, .int .i64 0]) ?_ 1 _ rfl; (with_reducible repeat (first | refine blk_drewN ?_ _ | refine blk_drew ?_ | refine blk_alloc ?_ _)); refine blk_put (cs := #[.int .i64 0, .bool false, .int .i64 0, .int .i64 0]) ?_ 0 _ rfl; (with_reducible repeat (first | refine blk_drewN ?_ _ | refine blk_drew ?_ | refine blk_alloc ?_ _)); exact BK112.out) hg (Kd.R_away HO_3.out (fun _ hk => hk.2))); have n1_ := Aside0.mk (hb); have n2_ := Aside0.mk (ho); clear BK112; clear HB; clear HO_3; have BK112 := n0_; have HB := n1_; have HO115 := n2_; clear n0_ n1_ n2_; clear ho hb hg hat; have hcz21_0 : w20.cell? ⟨gb112, 0, none⟩ = some (.int .i64 t108) := (blk_cell BK112.out 0).trans rfl; have hcz21_1 : w20.cell? ⟨gb112, 1, none⟩ = some (.bool t109) := (blk_cell BK112.out 1).trans rfl; have hcz21_2 : w20.cell? ⟨gb112, 2, none⟩ = some (.int .i64 t110) := (blk_cell BK112.out 2).trans rfl; have hcz21_3 : w20.cell? ⟨gb112, 3, none⟩ = some (.int .i64 t111) := (blk_cell BK112.out 3).trans rfl; have hfz21_0 := blk_frozen BK112.out 0; have hfz21_1 := blk_frozen BK112.out 1; have hfz21_2 := blk_frozen BK112.out 2; have hfz21_3 := blk_frozen BK112.out 3))
                  go_roundg k1
                  case measure => have := HK1.out; omega
                  case rel => exact ⟨(y113), (x4_1.extract (t108 : Int).toNat x4_1.size), (by first | rfl | (simp; done) | (simp [*]; done)), H', ⟨by have := HK1.out; omega⟩, ⟨by (with_reducible repeat (first | apply Kd.R_alloc | apply Kd.R_drewN | apply Kd.R_drew)); exact Kd.R_mono HO115.out (fun _ hk => hk.1)⟩, ⟨by repeat (first | (with_reducible first | exact HB.out | apply below_alloc | apply pw_below_drewN | apply below_drew1 | refine below_set ?_ GE112.out) | exact HB.out)⟩⟩
                · rw [if_neg c16] at H
                  exact absurd H (by simp)
              · rw [if_neg c15] at H
                exact absurd H (by simp)
            · rw [if_neg c14] at H
              exact absurd H (by simp)
    · rw [if_neg c5] at H
      exact absurd H (by simp)
  · rw [if_neg c4] at H
    exact absurd H (by simp)
end
end Go.Proofs.YtfjbjiklohjodaaGreatDoor.Q
namespace Go.Proofs.YtfjbjiklohjodaaGreatDoor.Q
open Go.RowKit Go.Proofs.YtfjbjiklohjodaaGreatDoorW.PrintWords Go.Proofs.YtfjbjiklohjodaaGreatDoorW.PrintMore Go.Proofs.YtfjbjiklohjodaaGreatDoor.Z
set_option linter.unusedVariables false
set_option linter.unusedSimpArgs false
def To {α : Type} (g : Nat → Option α) (r : α) : Prop := ∃ K, ∀ k, K ≤ k → g k = some r
theorem To.of {α : Type} {g : Nat → Option α} {r : α} (h : ∀ k, g k = some r) : To g r := ⟨0, fun k _ => h k⟩
theorem To.step {α : Type} {g h : Nat → Option α} {r : α} (hg : ∀ k, g (k + 1) = h k) (hh : To h r) : To g r := by
  obtain ⟨K, hK⟩ := hh
  refine ⟨K + 1, fun k hk => ?_⟩
  obtain ⟨k, rfl⟩ : ∃ m, k = m + 1 := ⟨k - 1, by omega⟩
  rw [hg]
  exact hK k (by omega)
theorem To.bind {α β : Type} {g : Nat → Option α} {h : Nat → α → Option β} {a : α} {r : β} (hg : To g a) (hh : To (fun k => h k a) r) : To (fun k => (g k).bind (h k)) r := by
  obtain ⟨K, hK⟩ := hg
  obtain ⟨L, hL⟩ := hh
  exact ⟨K + L, fun k hk => by show (g k).bind (h k) = _; rw [hK k (by omega)]; exact hL k (by omega)⟩
theorem To.congr {α : Type} {g h : Nat → Option α} {r : α} (hh : To h r) (e : ∀ k, g k = h k) : To g r := by
  obtain ⟨K, hK⟩ := hh
  exact ⟨K, fun k hk => by rw [e]; exact hK k hk⟩
theorem w64 {x : Int} (h : -9223372036854775808 ≤ x ∧ x ≤ 9223372036854775807) : wrap64 x = x := by unfold wrap64; omega
abbrev mkB (l : List UInt8) : ByteArray := ⟨l.toArray⟩
theorem size_mkB (l : List UInt8) : (mkB l).size = l.length := rfl
theorem ext_bl {a b : ByteArray} (h : bl a = bl b) : a = b := by rw [← bl_mk a, ← bl_mk b, h]
theorem toList_bl (a : ByteArray) : a.toList = bl a := by
  exact ByteArray.toList_eq a
theorem bt_bl (a : ByteArray) (i : Nat) : bt a (i : Int) = (((bl a).getD i 0).toNat : Int) := by
  unfold bt
  simp only [Int.toNat_natCast]
  by_cases h : i < a.size
  · rw [dif_pos h, List.getD_eq_getElem?_getD, List.getElem?_eq_getElem (by rw [bl_len]; exact h)]
    rfl
  · rw [dif_neg h, List.getD_eq_getElem?_getD, List.getElem?_eq_none (by rw [bl_len]; omega)]
    rfl
theorem bl_extract (a : ByteArray) (i j : Nat) : bl (a.extract i j) = ((bl a).drop i).take (j - i) := by
  unfold bl
  rw [ByteArray.data_extract]
  simp
theorem u8_eq {b : UInt8} {n : Nat} (hn : n < 256) : ((b.toNat : Int) = (n : Int)) ↔ b = UInt8.ofNat n := by
  constructor
  · intro h
    apply UInt8.toNat_inj.1
    rw [UInt8.toNat_ofNat']
    omega
  · rintro rfl
    rw [UInt8.toNat_ofNat']
    omega
theorem bt64 (a : ByteArray) : (bt a 0 = 64) ↔ (bl a).getD 0 0 = 64 := by
  have h := bt_bl a 0
  rw [show ((0 : Nat) : Int) = 0 from rfl] at h
  rw [h]
  exact u8_eq (n := 64) (by decide)
theorem bt59 (a : ByteArray) (i : Nat) : (bt a (i : Int) == 59) = decide ((bl a).getD i 0 = 59) := by
  rw [bt_bl, Bool.eq_iff_iff, beq_iff_eq, decide_eq_true_iff]
  exact u8_eq (n := 59) (by decide)
theorem l2_one (k : Nat) (a : ByteArray) (n : Nat) (hn : n = 5 ∨ n = 6) (h0 : 0 < a.size) (h1 : a.size ≤ 100000000) :
    spec_l2Name.l0 (k + 3) a n = if n ≤ a.size then (match l2At (bl a) n with | some e => some (e.addr, e.port, (n : Int)) | none => spec_l2Name.l0 k a ((n + 1 : Nat) : Int)) else some (0, 0, 0) := by
  have hw : wrap64 ((n : Int) - 1) = ((n - 1 : Nat) : Int) := by rw [w64 (by omega)]; omega
  have hw2 : wrap64 ((n : Int) + 1) = ((n + 1 : Nat) : Int) := by rw [w64 (by omega)]; omega
  simp only [spec_l2Name.l0, spec_l2Name.j1, spec_l2Name.j2, hw, hw2]
  rw [if_pos (by omega)]
  by_cases hle : n ≤ a.size
  · rw [if_pos hle, if_pos (by simpa using hle), if_pos (by omega)]
    unfold l2At
    rw [bl_len]
    by_cases h64 : (bl a).getD 0 0 = 64
    · rw [if_pos ((bt64 a).2 h64), bt59, if_pos (by omega), if_pos (by omega)]
      by_cases h59 : (bl a).getD (n - 1) 0 = 59
      · rw [if_pos (show decide ((bl a).getD (n - 1) 0 = 59) = true from decide_eq_true h59), if_pos (show (1 : Int) ≤ ((n - 1 : Nat) : Int) by omega), if_pos (show ((n - 1 : Nat) : Int) ≤ (a.size : Int) by omega), if_pos (show n ≤ a.size ∧ (bl a).getD 0 0 = 64 ∧ (bl a).getD (n - 1) 0 = 59 from ⟨hle, h64, h59⟩)]
        unfold spec_EndRead.f
        have hx : bl (a.extract 1 ((n - 1 : Nat) : Int).toNat) = ((bl a).drop 1).take (n - 2) := by rw [bl_extract, Int.toNat_natCast]; congr 1
        rw [hx, if_pos (by rw [← bl_len, hx, List.length_take]; omega), Option.bind_some]
        unfold optE
        cases endRead (((bl a).drop 1).take (n - 2)) with
        | none => simp
        | some e => simp
      · rw [if_neg (show ¬ decide ((bl a).getD (n - 1) 0 = 59) = true by simpa using h59), if_neg (show ¬ (n ≤ a.size ∧ (bl a).getD 0 0 = 64 ∧ (bl a).getD (n - 1) 0 = 59) from fun h => h59 h.2.2)]
    · rw [if_neg (fun h => h64 ((bt64 a).1 h)), if_neg (show ¬ (n ≤ a.size ∧ (bl a).getD 0 0 = 64 ∧ (bl a).getD (n - 1) 0 = 59) from fun h => h64 h.2.1), if_neg (show ¬ false = true by simp)]
  · rw [if_neg hle, if_neg (by simpa using hle)]
def l2N (l : List UInt8) : Int × Int × Int := match nm l with
  | some e => (e.addr, e.port, ((nameOf e).length : Int))
  | none => (0, 0, 0)
theorem l2N_none {l : List UInt8} (h : nm l = none) : l2N l = (0, 0, 0) := by unfold l2N; rw [h]
theorem l2N_some {l : List UInt8} {e : En} (h : nm l = some e) : l2N l = (e.addr, e.port, ((nameOf e).length : Int)) := by unfold l2N; rw [h]
theorem nm_len {l : List UInt8} {e : En} (h : nm l = some e) : (nameOf e).length ≤ l.length := by
  obtain ⟨_, r, hr⟩ := nm_some h
  rw [hr]; simp
theorem l2Name_to (k : Nat) (a : ByteArray) (h0 : 0 < a.size) (h1 : a.size ≤ 100000000) : spec_l2Name.f (k + 8) a = some (l2N (bl a)) := by
  have hs := bl_len a
  show spec_l2Name.l0 (k + 5 + 3) a ((5 : Nat) : Int) = _
  rw [l2_one (k + 5) a 5 (.inl rfl) h0 h1]
  by_cases h5 : 5 ≤ a.size
  · rw [if_pos h5]
    cases e5 : l2At (bl a) 5 with
    | some e =>
      obtain ⟨hn, hl⟩ := l2At_some (by decide) e5
      rw [l2N_some hn, hl]
    | none =>
      show spec_l2Name.l0 (k + 2 + 3) a ((6 : Nat) : Int) = _
      rw [l2_one (k + 2) a 6 (.inr rfl) h0 h1]
      by_cases h6 : 6 ≤ a.size
      · rw [if_pos h6]
        cases e6 : l2At (bl a) 6 with
        | some e =>
          obtain ⟨hn, hl⟩ := l2At_some (by decide) e6
          rw [l2N_some hn, hl]
        | none =>
          rw [l2N_none (nm_of_l2At e5 e6)]
          rfl
      · rw [if_neg h6, l2N_none (nm_of_l2At e5 (by unfold l2At; rw [if_neg (fun h => h6 (by rw [← hs]; exact h.1))]))]
  · rw [if_neg h5, l2N_none (nm_of_l2At (by unfold l2At; rw [if_neg (fun h => h5 (by rw [← hs]; exact h.1))]) (by unfold l2At; rw [if_neg (fun h => h5 (by rw [← hs]; have := h.1; omega))]))]
def pcTo (p : Pc) : S116 := ⟨p.size, p.named, ⟨p.fin.addr, p.fin.port⟩⟩
def pcL (l : List UInt8) : List Pc := pcs l.length l
theorem pcs_nil (n : Nat) : pcs n [] = [] := by cases n <;> simp [pcs]
theorem pcs_enough : ∀ (n m : Nat) (l : List UInt8), l.length ≤ n → l.length ≤ m → pcs n l = pcs m l := by
  intro n
  induction n with
  | zero => intro m l h1 h2; obtain rfl := List.length_eq_zero_iff.1 (Nat.le_zero.1 h1); rw [pcs_nil, pcs_nil]
  | succ n ih =>
    intro m l h1 h2
    by_cases hl : l = []
    · subst hl; rw [pcs_nil, pcs_nil]
    · cases m with
      | zero => exact absurd (List.length_eq_zero_iff.1 (Nat.le_zero.1 h2)) hl
      | succ m =>
        have hp := pieceAt_size hl
        show (if l = [] then [] else pieceAt l :: pcs n (l.drop (pieceAt l).size.toNat)) = (if l = [] then [] else pieceAt l :: pcs m (l.drop (pieceAt l).size.toNat))
        rw [if_neg hl, if_neg hl, ih m _ (by rw [List.length_drop]; omega) (by rw [List.length_drop]; omega)]
theorem pcL_nil : pcL [] = [] := rfl
theorem pcL_cons {l : List UInt8} (hl : l ≠ []) : pcL l = pieceAt l :: pcL (l.drop (pieceAt l).size.toNat) := by
  have hp := pieceAt_size hl
  have h0 : 0 < l.length := List.length_pos_iff.2 hl
  unfold pcL
  obtain ⟨n, hn⟩ : ∃ n, l.length = n + 1 := ⟨l.length - 1, by omega⟩
  rw [hn]
  show (if l = [] then [] else pieceAt l :: pcs n (l.drop (pieceAt l).size.toNat)) = _
  rw [if_neg hl, pcs_enough n (l.drop (pieceAt l).size.toNat).length _ (by rw [List.length_drop]; omega) (Nat.le_refl _)]
theorem pcL_len : ∀ (n : Nat) (l : List UInt8), l.length ≤ n → (pcL l).length ≤ l.length := by
  intro n
  induction n with
  | zero => intro l h; obtain rfl := List.length_eq_zero_iff.1 (Nat.le_zero.1 h); exact Nat.le_refl _
  | succ n ih =>
    intro l h
    by_cases hl : l = []
    · subst hl; exact Nat.le_refl _
    · have hp := pieceAt_size hl
      have := ih (l.drop (pieceAt l).size.toNat) (by rw [List.length_drop]; omega)
      rw [pcL_cons hl, List.length_cons]
      rw [List.length_drop] at this
      omega
theorem impl_pieces_l0 (n : Nat) : ∀ (k : Nat) (x3 : List S116) (l : List UInt8), l.length ≤ n → n < k → x3.length + l.length ≤ 1000 → impl_pieces.l0 k x3 (mkB l) = some (x3 ++ (pcL l).map pcTo) := by
  induction n with
  | zero =>
    intro k x3 l hl hk hx
    obtain rfl := List.length_eq_zero_iff.1 (Nat.le_zero.1 hl)
    obtain ⟨k, rfl⟩ : ∃ m, k = m + 1 := ⟨k - 1, by omega⟩
    simp only [impl_pieces.l0]
    rw [if_pos (by rw [toList_bl]), pcL_nil]
    simp [slices_Clip_Piece.f]
  | succ n ih =>
    intro k x3 l hl hk hx
    obtain ⟨k, rfl⟩ : ∃ m, k = m + 1 := ⟨k - 1, by omega⟩
    simp only [impl_pieces.l0]
    by_cases hne : l = []
    · subst hne
      rw [if_pos (by rw [toList_bl]), pcL_nil]
      simp [slices_Clip_Piece.f]
    · have hp := pieceAt_size hne
      have hsz : (mkB l).size = l.length := rfl
      have hb : bl (mkB l) = l := rfl
      rw [if_neg (by rw [toList_bl]; exact hne)]
      unfold impl_piece.f
      rw [if_pos (by rw [hsz]; omega), Option.bind_some]
      simp only [hb, hsz]
      rw [if_pos (by omega), if_pos (by omega), if_pos (by omega)]
      have he : (mkB l).extract (pieceAt l).size.toNat l.length = mkB (l.drop (pieceAt l).size.toNat) := by
        apply ext_bl
        rw [bl_extract]
        show (l.drop _).take _ = l.drop _
        rw [List.take_of_length_le (by rw [List.length_drop]; exact Nat.le_refl _)]
      rw [he, ih k _ _ (by rw [List.length_drop]; omega) (by omega) (by rw [List.length_append, List.length_singleton, List.length_drop]; omega)]
      rw [pcL_cons hne, List.map_cons, List.append_assoc]
      rfl
def body (l : List UInt8) : List UInt8 := l.take (l.length - heldN l)
theorem heldFrom_le (l : List UInt8) : ∀ n, heldFrom l n ≤ n := by
  intro n
  induction n with
  | zero => exact Nat.le_refl _
  | succ n ih => unfold heldFrom; split <;> omega
theorem heldN_le (l : List UInt8) : heldN l ≤ l.length := by unfold heldN; have := heldFrom_le l (min 5 l.length); omega
theorem impl_pieces_to (k : Nat) (l : List UInt8) (hl : l.length ≤ 1000) (hk : 1000 < k) : impl_pieces.f k (mkB l) = some ((pcL (body l)).map pcTo) := by
  have hh := heldN_le l
  unfold impl_pieces.f impl_held.f
  have hsz : (mkB l).size = l.length := rfl
  have hb : bl (mkB l) = l := rfl
  rw [if_pos (by rw [hsz]; omega), Option.bind_some, hsz, hb]
  have hw : wrap64 ((l.length : Int) - (heldN l : Int)) = ((l.length - heldN l : Nat) : Int) := by rw [w64 (by omega)]; omega
  rw [hw, if_pos (by omega), if_pos (by omega)]
  have he : (mkB l).extract 0 ((l.length - heldN l : Nat) : Int).toNat = mkB (body l) := by
    apply ext_bl
    rw [bl_extract, Int.toNat_natCast]
    rfl
  rw [he, impl_pieces_l0 1000 k [] (body l) (by unfold body; rw [List.length_take]; omega) hk (by unfold body; rw [List.length_take]; simp; omega)]
  rfl
theorem spec_pieces_l0 (l : List UInt8) (hl : l.length ≤ 1000) (M : Nat) (hM : M ≤ l.length) (n : Nat) : ∀ (k : Nat) (x3 : List S116) (p : Nat), p ≤ M → M - p ≤ n → n + 8 < k → x3.length + (M - p) ≤ 1000 →
    spec_l2Pieces.l0 k (mkB l) x3 M p = some (x3 ++ (pcL ((l.take M).drop p)).map pcTo) := by
  induction n with
  | zero =>
    intro k x3 p hp hn hk hx
    obtain ⟨k, rfl⟩ : ∃ m, k = m + 1 := ⟨k - 1, by omega⟩
    simp only [spec_l2Pieces.l0]
    rw [if_neg (by omega), List.drop_of_length_le (by rw [List.length_take]; omega), pcL_nil]
    simp
  | succ n ih =>
    intro k x3 p hp hn hk hx
    obtain ⟨k, rfl⟩ : ∃ m, k = m + 1 := ⟨k - 1, by omega⟩
    simp only [spec_l2Pieces.l0]
    by_cases hlt : p < M
    · have hsz : (mkB l).size = l.length := rfl
      have hb : bl (mkB l) = l := rfl
      obtain ⟨t, ht⟩ : ∃ t, t = (l.take M).drop p := ⟨_, rfl⟩
      have htl : t.length = M - p := by rw [ht, List.length_drop, List.length_take]; omega
      have hne : t ≠ [] := by intro h; rw [h] at htl; simp at htl; omega
      have he : (mkB l).extract (p : Int).toNat (M : Int).toNat = mkB t := by
        apply ext_bl
        rw [bl_extract, Int.toNat_natCast, Int.toNat_natCast, ht, List.drop_take]
      obtain ⟨k2, hk2⟩ : ∃ m, k = m + 8 := ⟨k - 8, by omega⟩
      rw [if_pos (by omega), if_pos (by omega), if_pos (by omega), if_pos (by rw [hsz]; omega), he]
      have h2 : spec_l2Name.f k (mkB t) = some (l2N t) := by rw [hk2]; exact l2Name_to k2 (mkB t) (by show 0 < t.length; omega) (by show t.length ≤ _; omega)
      rw [h2, Option.bind_some]
      have hps := pieceAt_size hne
      have hdrop : ∀ j, t.drop j = (l.take M).drop (p + j) := fun j => by rw [ht, List.drop_drop]
      rw [← ht, pcL_cons hne]
      cases hn2 : nm t with
      | some e =>
        have hpc : pieceAt t = ⟨(nameOf e).length, true, e⟩ := by unfold pieceAt; rw [hn2]
        have hln := nm_len hn2
        rw [hpc] at hps ⊢
        simp only at hps
        rw [l2N_some hn2]
        simp only
        rw [if_pos (by omega), if_pos (by omega), w64 (by omega)]
        have := ih k (x3 ++ [(⟨((nameOf e).length : Int), true, ⟨e.addr, e.port⟩⟩ : S116)]) (p + (nameOf e).length) (by omega) (by omega) (by omega) (by rw [List.length_append, List.length_singleton]; omega)
        rw [Int.natCast_add] at this
        rw [this, ← hdrop, List.append_assoc, Int.toNat_natCast]
        rfl
      | none =>
        have hpc : pieceAt t = ⟨1, false, zEn⟩ := by unfold pieceAt; rw [hn2]
        rw [hpc] at hps ⊢
        rw [l2N_none hn2]
        simp only
        rw [if_neg (by omega), if_pos (by omega), w64 (by omega)]
        have := ih k (x3 ++ [(⟨1, false, ⟨0, 0⟩⟩ : S116)]) (p + 1) (by omega) (by omega) (by omega) (by rw [List.length_append, List.length_singleton]; omega)
        rw [Int.natCast_add] at this
        rw [show ((p : Int) + 1) = (p : Int) + ((1 : Nat) : Int) from rfl, this, ← hdrop, List.append_assoc]
        rfl
    · rw [if_neg (by omega), List.drop_of_length_le (by rw [List.length_take]; omega), pcL_nil]
      simp
theorem spec_pieces_to (k : Nat) (l : List UInt8) (hl : l.length ≤ 1000) (hk : 1008 < k) : spec_l2Pieces.f k (mkB l) = some ((pcL (body l)).map pcTo) := by
  have hh := heldN_le l
  unfold spec_l2Pieces.f spec_l2Held.f
  have hsz : (mkB l).size = l.length := rfl
  have hb : bl (mkB l) = l := rfl
  rw [if_pos (by rw [hsz]; omega), Option.bind_some, hsz, hb]
  have hw : wrap64 ((l.length : Int) - (heldN l : Int)) = ((l.length - heldN l : Nat) : Int) := by rw [w64 (by omega)]; omega
  rw [hw]
  have := spec_pieces_l0 l hl (l.length - heldN l) (by omega) 1000 k [] 0 (by omega) (by omega) hk (by simp; omega)
  rw [show ((0 : Nat) : Int) = 0 from rfl] at this
  rw [this]
  rfl
end Go.Proofs.YtfjbjiklohjodaaGreatDoor.Q
namespace Go.Proofs.YtfjbjiklohjodaaGreatDoor.Z
open Go.RowKit Go.Proofs.YtfjbjiklohjodaaGreatDoorW.PrintWords Go.Proofs.YtfjbjiklohjodaaGreatDoorW.PrintLast Go.Proofs.YtfjbjiklohjodaaGreatDoorW.PrintMore
set_option linter.unusedVariables false
set_option linter.unusedSimpArgs false
attribute [local go_sem ↓] Go.wp_at_zero Go.wp_at_succ
structure Pk where
  kind : Int
  frm : En
  dst : En
  at_ : Int
  text : List UInt8
  deriving DecidableEq
abbrev vPk (p : Pk) : Value := .agg #[.int .i64 p.kind, .int .i64 p.frm.addr, .int .i64 p.frm.port, .int .i64 p.dst.addr, .int .i64 p.dst.port, .int .i64 p.at_, .string ⟨p.text.toArray⟩]
def zPk : Pk := ⟨0, ⟨0, 0⟩, ⟨0, 0⟩, 0, []⟩
noncomputable def pktB (p : Pk) : Bool := anyB p.frm && anyB p.dst && inB p.at_ 0 99 && ((p.kind == 1 && textOk p.text && !p.text.isEmpty) || (p.kind == 2 && p.text.isEmpty))
set_option maxRecDepth 100000 in
set_option maxHeartbeats 4000000 in
theorem impl_pktOk (p : Pk) (hl : p.text.length ≤ 140737488355328) (w : World) :
    Calls Tryz.prog 96 #[vPk p] w fun r w' => r = .returned (.bool (pktB p)) ∧ Below w.heap.size w w' := by
  have B0 := Aside0.mk (Below.refl w.heap.size w)
  obtain ⟨kind, ⟨f0, f1⟩, ⟨g0, g1⟩, at_, text⟩ := p
  unfold pktB
  simp only at hl ⊢
  have HT0 : Q.impl_TextOk.f ⟨text.toArray⟩ = some (textOk text) := by unfold Q.impl_TextOk.f; rw [if_pos (show (⟨text.toArray⟩ : ByteArray).size ≤ _ from hl)]
  clear hl
  cases A0 : anyB ⟨f0, f1⟩ with
  | false =>
    simp only [Bool.false_and, Bool.and_false, Bool.true_and]
    clear HT0
    go_enter Tryz.func96, Tryz.ntmps96
    go_wp2_with (first | (go_at_call 146; with_reducible refine (impl_any ⟨f0, f1⟩ _).mono ?_; rintro r w1 ⟨rfl, hb1⟩; obtain ⟨hb1c, hb1f, hb1z⟩ := bcell hb1; (try simp at hb1z); (try have hb10 : w.heap.size < w1.heap.size := by omega); (try have hb11 : w.heap.size + 1 < w1.heap.size := by omega); (try have hb12 : w.heap.size + 2 < w1.heap.size := by omega); rw [A0]; have B1 := Aside0.mk (show Below w.heap.size w w1 from (by refine below_step ?_ hb1; repeat (first | (with_reducible exact B0.out) | (with_reducible apply below_alloc) | (with_reducible apply pw_below_drewN) | (with_reducible apply below_drew1) | with_reducible refine below_set ?_ (by first | (with_reducible exact Nat.le_refl _) | (with_reducible assumption) | (simp; done) | omega | (simp; omega)))))))
    refine bodyPost_ret (v := (.bool false)) (by simp [results, Tryz.results96, go_sem, zEn, *]) rfl ⟨by first | rfl | simp, (by repeat (first | (with_reducible exact B1.out) | (with_reducible apply below_alloc) | (with_reducible apply pw_below_drewN) | (with_reducible apply below_drew1) | with_reducible refine below_set ?_ (by first | (with_reducible exact Nat.le_refl _) | (with_reducible assumption) | (simp; done) | omega | (simp; omega))))⟩
  | true =>
    cases A1 : anyB ⟨g0, g1⟩ with
    | false =>
      simp only [Bool.false_and, Bool.and_false, Bool.true_and]
      clear HT0
      go_enter Tryz.func96, Tryz.ntmps96
      go_wp2_with (first | (go_at_call 146; with_reducible refine (impl_any ⟨f0, f1⟩ _).mono ?_; rintro r w1 ⟨rfl, hb1⟩; obtain ⟨hb1c, hb1f, hb1z⟩ := bcell hb1; (try simp at hb1z); (try have hb10 : w.heap.size < w1.heap.size := by omega); (try have hb11 : w.heap.size + 1 < w1.heap.size := by omega); (try have hb12 : w.heap.size + 2 < w1.heap.size := by omega); rw [A0]; have B1 := Aside0.mk (show Below w.heap.size w w1 from (by refine below_step ?_ hb1; repeat (first | (with_reducible exact B0.out) | (with_reducible apply below_alloc) | (with_reducible apply pw_below_drewN) | (with_reducible apply below_drew1) | with_reducible refine below_set ?_ (by first | (with_reducible exact Nat.le_refl _) | (with_reducible assumption) | (simp; done) | omega | (simp; omega)))))) | (go_at_call 146; with_reducible refine (impl_any ⟨g0, g1⟩ _).mono ?_; rintro r w2 ⟨rfl, hb2⟩; obtain ⟨hb2c, hb2f, hb2z⟩ := bcell hb2; (try simp at hb2z); (try have hb20 : w.heap.size < w2.heap.size := by omega); (try have hb21 : w.heap.size + 1 < w2.heap.size := by omega); (try have hb22 : w.heap.size + 2 < w2.heap.size := by omega); rw [A1]; have B2 := Aside0.mk (show Below w.heap.size w w2 from (by refine below_step ?_ hb2; repeat (first | (with_reducible exact B1.out) | (with_reducible apply below_alloc) | (with_reducible apply pw_below_drewN) | (with_reducible apply below_drew1) | with_reducible refine below_set ?_ (by first | (with_reducible exact Nat.le_refl _) | (with_reducible assumption) | (simp; done) | omega | (simp; omega)))))))
      refine bodyPost_ret (v := (.bool false)) (by simp [results, Tryz.results96, go_sem, zEn, *]) rfl ⟨by first | rfl | simp, (by repeat (first | (with_reducible exact B2.out) | (with_reducible apply below_alloc) | (with_reducible apply pw_below_drewN) | (with_reducible apply below_drew1) | with_reducible refine below_set ?_ (by first | (with_reducible exact Nat.le_refl _) | (with_reducible assumption) | (simp; done) | omega | (simp; omega))))⟩
    | true =>
      cases A2 : inB at_ 0 99 with
      | false =>
        simp only [Bool.false_and, Bool.and_false, Bool.true_and]
        clear HT0
        go_enter Tryz.func96, Tryz.ntmps96
        go_wp2_with (first | (go_at_call 146; with_reducible refine (impl_any ⟨f0, f1⟩ _).mono ?_; rintro r w1 ⟨rfl, hb1⟩; obtain ⟨hb1c, hb1f, hb1z⟩ := bcell hb1; (try simp at hb1z); (try have hb10 : w.heap.size < w1.heap.size := by omega); (try have hb11 : w.heap.size + 1 < w1.heap.size := by omega); (try have hb12 : w.heap.size + 2 < w1.heap.size := by omega); rw [A0]; have B1 := Aside0.mk (show Below w.heap.size w w1 from (by refine below_step ?_ hb1; repeat (first | (with_reducible exact B0.out) | (with_reducible apply below_alloc) | (with_reducible apply pw_below_drewN) | (with_reducible apply below_drew1) | with_reducible refine below_set ?_ (by first | (with_reducible exact Nat.le_refl _) | (with_reducible assumption) | (simp; done) | omega | (simp; omega)))))) | (go_at_call 146; with_reducible refine (impl_any ⟨g0, g1⟩ _).mono ?_; rintro r w2 ⟨rfl, hb2⟩; obtain ⟨hb2c, hb2f, hb2z⟩ := bcell hb2; (try simp at hb2z); (try have hb20 : w.heap.size < w2.heap.size := by omega); (try have hb21 : w.heap.size + 1 < w2.heap.size := by omega); (try have hb22 : w.heap.size + 2 < w2.heap.size := by omega); rw [A1]; have B2 := Aside0.mk (show Below w.heap.size w w2 from (by refine below_step ?_ hb2; repeat (first | (with_reducible exact B1.out) | (with_reducible apply below_alloc) | (with_reducible apply pw_below_drewN) | (with_reducible apply below_drew1) | with_reducible refine below_set ?_ (by first | (with_reducible exact Nat.le_refl _) | (with_reducible assumption) | (simp; done) | omega | (simp; omega)))))) | (go_at_call 68; with_reducible refine (impl_within at_ 0 99 _).mono ?_; rintro r w3 ⟨rfl, rfl⟩; obtain ⟨B2.outc, B2.outf, B2.outz⟩ := bcell B2.out; (try simp at B2.outz); (try have B2.out0 : w.heap.size < w3.heap.size := by omega); (try have B2.out1 : w.heap.size + 1 < w3.heap.size := by omega); (try have B2.out2 : w.heap.size + 2 < w3.heap.size := by omega); rw [A2]))
        refine bodyPost_ret (v := (.bool false)) (by simp [results, Tryz.results96, go_sem, zEn, *]) rfl ⟨by first | rfl | simp, (by repeat (first | (with_reducible exact B2.out) | (with_reducible apply below_alloc) | (with_reducible apply pw_below_drewN) | (with_reducible apply below_drew1) | with_reducible refine below_set ?_ (by first | (with_reducible exact Nat.le_refl _) | (with_reducible assumption) | (simp; done) | omega | (simp; omega))))⟩
      | true =>
        simp only [Bool.true_and]
        by_cases K1 : kind = 1
        · subst K1
          obtain ⟨T, hT⟩ : ∃ T, textOk text = T := ⟨_, rfl⟩
          rw [hT] at HT0 ⊢
          have HT := Aside0.mk HT0
          clear HT0 hT
          cases T with
          | false =>
            simp only [Bool.and_false, Bool.false_and, Bool.false_or]
            rw [show ((1 : Int) == 2) = false from by decide, Bool.false_and]
            go_enter Tryz.func96, Tryz.ntmps96
            go_wp2_with (first | (go_at_call 146; with_reducible refine (impl_any ⟨f0, f1⟩ _).mono ?_; rintro r w1 ⟨rfl, hb1⟩; obtain ⟨hb1c, hb1f, hb1z⟩ := bcell hb1; (try simp at hb1z); (try have hb10 : w.heap.size < w1.heap.size := by omega); (try have hb11 : w.heap.size + 1 < w1.heap.size := by omega); (try have hb12 : w.heap.size + 2 < w1.heap.size := by omega); rw [A0]; have B1 := Aside0.mk (show Below w.heap.size w w1 from (by refine below_step ?_ hb1; repeat (first | (with_reducible exact B0.out) | (with_reducible apply below_alloc) | (with_reducible apply pw_below_drewN) | (with_reducible apply below_drew1) | with_reducible refine below_set ?_ (by first | (with_reducible exact Nat.le_refl _) | (with_reducible assumption) | (simp; done) | omega | (simp; omega)))))) | (go_at_call 146; with_reducible refine (impl_any ⟨g0, g1⟩ _).mono ?_; rintro r w2 ⟨rfl, hb2⟩; obtain ⟨hb2c, hb2f, hb2z⟩ := bcell hb2; (try simp at hb2z); (try have hb20 : w.heap.size < w2.heap.size := by omega); (try have hb21 : w.heap.size + 1 < w2.heap.size := by omega); (try have hb22 : w.heap.size + 2 < w2.heap.size := by omega); rw [A1]; have B2 := Aside0.mk (show Below w.heap.size w w2 from (by refine below_step ?_ hb2; repeat (first | (with_reducible exact B1.out) | (with_reducible apply below_alloc) | (with_reducible apply pw_below_drewN) | (with_reducible apply below_drew1) | with_reducible refine below_set ?_ (by first | (with_reducible exact Nat.le_refl _) | (with_reducible assumption) | (simp; done) | omega | (simp; omega)))))) | (go_at_call 68; with_reducible refine (impl_within at_ 0 99 _).mono ?_; rintro r w3 ⟨rfl, rfl⟩; obtain ⟨B2.outc, B2.outf, B2.outz⟩ := bcell B2.out; (try simp at B2.outz); (try have B2.out0 : w.heap.size < w3.heap.size := by omega); (try have B2.out1 : w.heap.size + 1 < w3.heap.size := by omega); (try have B2.out2 : w.heap.size + 2 < w3.heap.size := by omega); rw [A2]) | (go_at_call 67; with_reducible refine (Q.impl_TextOk.calls _ _ _ HT.out).mono ?_; rintro r w4 ⟨rfl, hb4⟩; obtain ⟨hb4c, hb4f, hb4z⟩ := bcell hb4; (try simp at hb4z); (try have hb40 : w.heap.size < w4.heap.size := by omega); (try have hb41 : w.heap.size + 1 < w4.heap.size := by omega); (try have hb42 : w.heap.size + 2 < w4.heap.size := by omega); have B4 := Aside0.mk (show Below w.heap.size w w4 from (by refine below_step ?_ hb4; repeat (first | (with_reducible exact B2.out) | (with_reducible apply below_alloc) | (with_reducible apply pw_below_drewN) | (with_reducible apply below_drew1) | with_reducible refine below_set ?_ (by first | (with_reducible exact Nat.le_refl _) | (with_reducible assumption) | (simp; done) | omega | (simp; omega)))))))
            refine bodyPost_ret (v := (.bool false)) (by simp [results, Tryz.results96, go_sem, zEn, *]) rfl ⟨by first | rfl | simp, (by repeat (first | (with_reducible exact B4.out) | (with_reducible apply below_alloc) | (with_reducible apply pw_below_drewN) | (with_reducible apply below_drew1) | with_reducible refine below_set ?_ (by first | (with_reducible exact Nat.le_refl _) | (with_reducible assumption) | (simp; done) | omega | (simp; omega))))⟩
          | true =>
            cases text with
            | nil =>
              rw [show ((1 : Int) == 2) = false from by decide, Bool.false_and, List.isEmpty_nil, Bool.not_true, Bool.and_false, Bool.or_false]
              go_enter Tryz.func96, Tryz.ntmps96
              go_wp2_with (first | (go_at_call 146; with_reducible refine (impl_any ⟨f0, f1⟩ _).mono ?_; rintro r w1 ⟨rfl, hb1⟩; obtain ⟨hb1c, hb1f, hb1z⟩ := bcell hb1; (try simp at hb1z); (try have hb10 : w.heap.size < w1.heap.size := by omega); (try have hb11 : w.heap.size + 1 < w1.heap.size := by omega); (try have hb12 : w.heap.size + 2 < w1.heap.size := by omega); rw [A0]; have B1 := Aside0.mk (show Below w.heap.size w w1 from (by refine below_step ?_ hb1; repeat (first | (with_reducible exact B0.out) | (with_reducible apply below_alloc) | (with_reducible apply pw_below_drewN) | (with_reducible apply below_drew1) | with_reducible refine below_set ?_ (by first | (with_reducible exact Nat.le_refl _) | (with_reducible assumption) | (simp; done) | omega | (simp; omega)))))) | (go_at_call 146; with_reducible refine (impl_any ⟨g0, g1⟩ _).mono ?_; rintro r w2 ⟨rfl, hb2⟩; obtain ⟨hb2c, hb2f, hb2z⟩ := bcell hb2; (try simp at hb2z); (try have hb20 : w.heap.size < w2.heap.size := by omega); (try have hb21 : w.heap.size + 1 < w2.heap.size := by omega); (try have hb22 : w.heap.size + 2 < w2.heap.size := by omega); rw [A1]; have B2 := Aside0.mk (show Below w.heap.size w w2 from (by refine below_step ?_ hb2; repeat (first | (with_reducible exact B1.out) | (with_reducible apply below_alloc) | (with_reducible apply pw_below_drewN) | (with_reducible apply below_drew1) | with_reducible refine below_set ?_ (by first | (with_reducible exact Nat.le_refl _) | (with_reducible assumption) | (simp; done) | omega | (simp; omega)))))) | (go_at_call 68; with_reducible refine (impl_within at_ 0 99 _).mono ?_; rintro r w3 ⟨rfl, rfl⟩; obtain ⟨B2.outc, B2.outf, B2.outz⟩ := bcell B2.out; (try simp at B2.outz); (try have B2.out0 : w.heap.size < w3.heap.size := by omega); (try have B2.out1 : w.heap.size + 1 < w3.heap.size := by omega); (try have B2.out2 : w.heap.size + 2 < w3.heap.size := by omega); rw [A2]) | (go_at_call 67; with_reducible refine (Q.impl_TextOk.calls _ _ _ HT.out).mono ?_; rintro r w4 ⟨rfl, hb4⟩; obtain ⟨hb4c, hb4f, hb4z⟩ := bcell hb4; (try simp at hb4z); (try have hb40 : w.heap.size < w4.heap.size := by omega); (try have hb41 : w.heap.size + 1 < w4.heap.size := by omega); (try have hb42 : w.heap.size + 2 < w4.heap.size := by omega); have B4 := Aside0.mk (show Below w.heap.size w w4 from (by refine below_step ?_ hb4; repeat (first | (with_reducible exact B2.out) | (with_reducible apply below_alloc) | (with_reducible apply pw_below_drewN) | (with_reducible apply below_drew1) | with_reducible refine below_set ?_ (by first | (with_reducible exact Nat.le_refl _) | (with_reducible assumption) | (simp; done) | omega | (simp; omega)))))))
              refine bodyPost_ret (v := (.bool false)) (by simp [results, Tryz.results96, go_sem, zEn, *]) rfl ⟨by first | rfl | simp, (by repeat (first | (with_reducible exact B4.out) | (with_reducible apply below_alloc) | (with_reducible apply pw_below_drewN) | (with_reducible apply below_drew1) | with_reducible refine below_set ?_ (by first | (with_reducible exact Nat.le_refl _) | (with_reducible assumption) | (simp; done) | omega | (simp; omega))))⟩
            | cons c t =>
              have hs4 : (c :: t) ≠ [] := List.cons_ne_nil _ _
              rw [show ((1 : Int) == 2) = false from by decide, Bool.false_and, List.isEmpty_cons, Bool.not_false, Bool.and_true, Bool.or_false, show ((1 : Int) == 1) = true from by decide, Bool.true_and]
              generalize (c :: t) = text at *
              go_enter Tryz.func96, Tryz.ntmps96
              go_wp2_with (first | (go_at_call 146; with_reducible refine (impl_any ⟨f0, f1⟩ _).mono ?_; rintro r w1 ⟨rfl, hb1⟩; obtain ⟨hb1c, hb1f, hb1z⟩ := bcell hb1; (try simp at hb1z); (try have hb10 : w.heap.size < w1.heap.size := by omega); (try have hb11 : w.heap.size + 1 < w1.heap.size := by omega); (try have hb12 : w.heap.size + 2 < w1.heap.size := by omega); rw [A0]; have B1 := Aside0.mk (show Below w.heap.size w w1 from (by refine below_step ?_ hb1; repeat (first | (with_reducible exact B0.out) | (with_reducible apply below_alloc) | (with_reducible apply pw_below_drewN) | (with_reducible apply below_drew1) | with_reducible refine below_set ?_ (by first | (with_reducible exact Nat.le_refl _) | (with_reducible assumption) | (simp; done) | omega | (simp; omega)))))) | (go_at_call 146; with_reducible refine (impl_any ⟨g0, g1⟩ _).mono ?_; rintro r w2 ⟨rfl, hb2⟩; obtain ⟨hb2c, hb2f, hb2z⟩ := bcell hb2; (try simp at hb2z); (try have hb20 : w.heap.size < w2.heap.size := by omega); (try have hb21 : w.heap.size + 1 < w2.heap.size := by omega); (try have hb22 : w.heap.size + 2 < w2.heap.size := by omega); rw [A1]; have B2 := Aside0.mk (show Below w.heap.size w w2 from (by refine below_step ?_ hb2; repeat (first | (with_reducible exact B1.out) | (with_reducible apply below_alloc) | (with_reducible apply pw_below_drewN) | (with_reducible apply below_drew1) | with_reducible refine below_set ?_ (by first | (with_reducible exact Nat.le_refl _) | (with_reducible assumption) | (simp; done) | omega | (simp; omega)))))) | (go_at_call 68; with_reducible refine (impl_within at_ 0 99 _).mono ?_; rintro r w3 ⟨rfl, rfl⟩; obtain ⟨B2.outc, B2.outf, B2.outz⟩ := bcell B2.out; (try simp at B2.outz); (try have B2.out0 : w.heap.size < w3.heap.size := by omega); (try have B2.out1 : w.heap.size + 1 < w3.heap.size := by omega); (try have B2.out2 : w.heap.size + 2 < w3.heap.size := by omega); rw [A2]) | (go_at_call 67; with_reducible refine (Q.impl_TextOk.calls _ _ _ HT.out).mono ?_; rintro r w4 ⟨rfl, hb4⟩; obtain ⟨hb4c, hb4f, hb4z⟩ := bcell hb4; (try simp at hb4z); (try have hb40 : w.heap.size < w4.heap.size := by omega); (try have hb41 : w.heap.size + 1 < w4.heap.size := by omega); (try have hb42 : w.heap.size + 2 < w4.heap.size := by omega); have B4 := Aside0.mk (show Below w.heap.size w w4 from (by refine below_step ?_ hb4; repeat (first | (with_reducible exact B2.out) | (with_reducible apply below_alloc) | (with_reducible apply pw_below_drewN) | (with_reducible apply below_drew1) | with_reducible refine below_set ?_ (by first | (with_reducible exact Nat.le_refl _) | (with_reducible assumption) | (simp; done) | omega | (simp; omega)))))))
              refine bodyPost_ret (v := (.bool true)) (by simp [results, Tryz.results96, go_sem, zEn, *]) rfl ⟨by first | rfl | simp, (by repeat (first | (with_reducible exact B4.out) | (with_reducible apply below_alloc) | (with_reducible apply pw_below_drewN) | (with_reducible apply below_drew1) | with_reducible refine below_set ?_ (by first | (with_reducible exact Nat.le_refl _) | (with_reducible assumption) | (simp; done) | omega | (simp; omega))))⟩
        · clear HT0
          have k1 : (kind == 1) = false := beq_eq_false_iff_ne.2 K1
          rw [k1, Bool.false_and, Bool.false_and, Bool.false_or]
          by_cases K2 : kind = 2
          · subst K2
            cases text with
            | nil =>
              go_enter Tryz.func96, Tryz.ntmps96
              go_wp2_with (first | (go_at_call 146; with_reducible refine (impl_any ⟨f0, f1⟩ _).mono ?_; rintro r w1 ⟨rfl, hb1⟩; obtain ⟨hb1c, hb1f, hb1z⟩ := bcell hb1; (try simp at hb1z); (try have hb10 : w.heap.size < w1.heap.size := by omega); (try have hb11 : w.heap.size + 1 < w1.heap.size := by omega); (try have hb12 : w.heap.size + 2 < w1.heap.size := by omega); rw [A0]; have B1 := Aside0.mk (show Below w.heap.size w w1 from (by refine below_step ?_ hb1; repeat (first | (with_reducible exact B0.out) | (with_reducible apply below_alloc) | (with_reducible apply pw_below_drewN) | (with_reducible apply below_drew1) | with_reducible refine below_set ?_ (by first | (with_reducible exact Nat.le_refl _) | (with_reducible assumption) | (simp; done) | omega | (simp; omega)))))) | (go_at_call 146; with_reducible refine (impl_any ⟨g0, g1⟩ _).mono ?_; rintro r w2 ⟨rfl, hb2⟩; obtain ⟨hb2c, hb2f, hb2z⟩ := bcell hb2; (try simp at hb2z); (try have hb20 : w.heap.size < w2.heap.size := by omega); (try have hb21 : w.heap.size + 1 < w2.heap.size := by omega); (try have hb22 : w.heap.size + 2 < w2.heap.size := by omega); rw [A1]; have B2 := Aside0.mk (show Below w.heap.size w w2 from (by refine below_step ?_ hb2; repeat (first | (with_reducible exact B1.out) | (with_reducible apply below_alloc) | (with_reducible apply pw_below_drewN) | (with_reducible apply below_drew1) | with_reducible refine below_set ?_ (by first | (with_reducible exact Nat.le_refl _) | (with_reducible assumption) | (simp; done) | omega | (simp; omega)))))) | (go_at_call 68; with_reducible refine (impl_within at_ 0 99 _).mono ?_; rintro r w3 ⟨rfl, rfl⟩; obtain ⟨B2.outc, B2.outf, B2.outz⟩ := bcell B2.out; (try simp at B2.outz); (try have B2.out0 : w.heap.size < w3.heap.size := by omega); (try have B2.out1 : w.heap.size + 1 < w3.heap.size := by omega); (try have B2.out2 : w.heap.size + 2 < w3.heap.size := by omega); rw [A2]))
              refine bodyPost_ret (v := (.bool true)) (by simp [results, Tryz.results96, go_sem, zEn, *]) rfl ⟨by first | rfl | simp, (by repeat (first | (with_reducible exact B2.out) | (with_reducible apply below_alloc) | (with_reducible apply pw_below_drewN) | (with_reducible apply below_drew1) | with_reducible refine below_set ?_ (by first | (with_reducible exact Nat.le_refl _) | (with_reducible assumption) | (simp; done) | omega | (simp; omega))))⟩
            | cons c t =>
              have hs4 : (c :: t) ≠ [] := List.cons_ne_nil _ _
              rw [List.isEmpty_cons, Bool.and_false]
              generalize (c :: t) = text at *
              go_enter Tryz.func96, Tryz.ntmps96
              go_wp2_with (first | (go_at_call 146; with_reducible refine (impl_any ⟨f0, f1⟩ _).mono ?_; rintro r w1 ⟨rfl, hb1⟩; obtain ⟨hb1c, hb1f, hb1z⟩ := bcell hb1; (try simp at hb1z); (try have hb10 : w.heap.size < w1.heap.size := by omega); (try have hb11 : w.heap.size + 1 < w1.heap.size := by omega); (try have hb12 : w.heap.size + 2 < w1.heap.size := by omega); rw [A0]; have B1 := Aside0.mk (show Below w.heap.size w w1 from (by refine below_step ?_ hb1; repeat (first | (with_reducible exact B0.out) | (with_reducible apply below_alloc) | (with_reducible apply pw_below_drewN) | (with_reducible apply below_drew1) | with_reducible refine below_set ?_ (by first | (with_reducible exact Nat.le_refl _) | (with_reducible assumption) | (simp; done) | omega | (simp; omega)))))) | (go_at_call 146; with_reducible refine (impl_any ⟨g0, g1⟩ _).mono ?_; rintro r w2 ⟨rfl, hb2⟩; obtain ⟨hb2c, hb2f, hb2z⟩ := bcell hb2; (try simp at hb2z); (try have hb20 : w.heap.size < w2.heap.size := by omega); (try have hb21 : w.heap.size + 1 < w2.heap.size := by omega); (try have hb22 : w.heap.size + 2 < w2.heap.size := by omega); rw [A1]; have B2 := Aside0.mk (show Below w.heap.size w w2 from (by refine below_step ?_ hb2; repeat (first | (with_reducible exact B1.out) | (with_reducible apply below_alloc) | (with_reducible apply pw_below_drewN) | (with_reducible apply below_drew1) | with_reducible refine below_set ?_ (by first | (with_reducible exact Nat.le_refl _) | (with_reducible assumption) | (simp; done) | omega | (simp; omega)))))) | (go_at_call 68; with_reducible refine (impl_within at_ 0 99 _).mono ?_; rintro r w3 ⟨rfl, rfl⟩; obtain ⟨B2.outc, B2.outf, B2.outz⟩ := bcell B2.out; (try simp at B2.outz); (try have B2.out0 : w.heap.size < w3.heap.size := by omega); (try have B2.out1 : w.heap.size + 1 < w3.heap.size := by omega); (try have B2.out2 : w.heap.size + 2 < w3.heap.size := by omega); rw [A2]))
              refine bodyPost_ret (v := (.bool false)) (by simp [results, Tryz.results96, go_sem, zEn, *]) rfl ⟨by first | rfl | simp, (by repeat (first | (with_reducible exact B2.out) | (with_reducible apply below_alloc) | (with_reducible apply pw_below_drewN) | (with_reducible apply below_drew1) | with_reducible refine below_set ?_ (by first | (with_reducible exact Nat.le_refl _) | (with_reducible assumption) | (simp; done) | omega | (simp; omega))))⟩
          · have k2 : (kind == 2) = false := beq_eq_false_iff_ne.2 K2
            rw [k2, Bool.false_and]
            go_enter Tryz.func96, Tryz.ntmps96
            go_wp2_with (first | (go_at_call 146; with_reducible refine (impl_any ⟨f0, f1⟩ _).mono ?_; rintro r w1 ⟨rfl, hb1⟩; obtain ⟨hb1c, hb1f, hb1z⟩ := bcell hb1; (try simp at hb1z); (try have hb10 : w.heap.size < w1.heap.size := by omega); (try have hb11 : w.heap.size + 1 < w1.heap.size := by omega); (try have hb12 : w.heap.size + 2 < w1.heap.size := by omega); rw [A0]; have B1 := Aside0.mk (show Below w.heap.size w w1 from (by refine below_step ?_ hb1; repeat (first | (with_reducible exact B0.out) | (with_reducible apply below_alloc) | (with_reducible apply pw_below_drewN) | (with_reducible apply below_drew1) | with_reducible refine below_set ?_ (by first | (with_reducible exact Nat.le_refl _) | (with_reducible assumption) | (simp; done) | omega | (simp; omega)))))) | (go_at_call 146; with_reducible refine (impl_any ⟨g0, g1⟩ _).mono ?_; rintro r w2 ⟨rfl, hb2⟩; obtain ⟨hb2c, hb2f, hb2z⟩ := bcell hb2; (try simp at hb2z); (try have hb20 : w.heap.size < w2.heap.size := by omega); (try have hb21 : w.heap.size + 1 < w2.heap.size := by omega); (try have hb22 : w.heap.size + 2 < w2.heap.size := by omega); rw [A1]; have B2 := Aside0.mk (show Below w.heap.size w w2 from (by refine below_step ?_ hb2; repeat (first | (with_reducible exact B1.out) | (with_reducible apply below_alloc) | (with_reducible apply pw_below_drewN) | (with_reducible apply below_drew1) | with_reducible refine below_set ?_ (by first | (with_reducible exact Nat.le_refl _) | (with_reducible assumption) | (simp; done) | omega | (simp; omega)))))) | (go_at_call 68; with_reducible refine (impl_within at_ 0 99 _).mono ?_; rintro r w3 ⟨rfl, rfl⟩; obtain ⟨B2.outc, B2.outf, B2.outz⟩ := bcell B2.out; (try simp at B2.outz); (try have B2.out0 : w.heap.size < w3.heap.size := by omega); (try have B2.out1 : w.heap.size + 1 < w3.heap.size := by omega); (try have B2.out2 : w.heap.size + 2 < w3.heap.size := by omega); rw [A2]))
            refine bodyPost_ret (v := (.bool false)) (by simp [results, Tryz.results96, go_sem, zEn, *]) rfl ⟨by first | rfl | simp, (by repeat (first | (with_reducible exact B2.out) | (with_reducible apply below_alloc) | (with_reducible apply pw_below_drewN) | (with_reducible apply below_drew1) | with_reducible refine below_set ?_ (by first | (with_reducible exact Nat.le_refl _) | (with_reducible assumption) | (simp; done) | omega | (simp; omega))))⟩
set_option maxRecDepth 100000 in
set_option maxHeartbeats 4000000 in
theorem spec_pktOk (p : Pk) (hl : p.text.length ≤ 140737488355328) (w : World) :
    Calls Tryz.prog 92 #[vPk p] w fun r w' => r = .returned (.bool (pktB p)) ∧ Below w.heap.size w w' := by
  have B0 := Aside0.mk (Below.refl w.heap.size w)
  obtain ⟨kind, ⟨f0, f1⟩, ⟨g0, g1⟩, at_, text⟩ := p
  unfold pktB
  simp only at hl ⊢
  have HT0 : Q.spec_TextOk.f ⟨text.toArray⟩ = some (textOk text) := by unfold Q.spec_TextOk.f; rw [if_pos (show (⟨text.toArray⟩ : ByteArray).size ≤ _ from hl)]
  clear hl
  cases A0 : anyB ⟨f0, f1⟩ with
  | false =>
    simp only [Bool.false_and, Bool.and_false, Bool.true_and]
    clear HT0
    go_enter Tryz.func92, Tryz.ntmps92
    go_wp2_with (first | (go_at_call 143; with_reducible refine (spec_l1Any ⟨f0, f1⟩ _).mono ?_; rintro r w1 ⟨rfl, hb1⟩; obtain ⟨hb1c, hb1f, hb1z⟩ := bcell hb1; (try simp at hb1z); (try have hb10 : w.heap.size < w1.heap.size := by omega); (try have hb11 : w.heap.size + 1 < w1.heap.size := by omega); (try have hb12 : w.heap.size + 2 < w1.heap.size := by omega); rw [A0]; have B1 := Aside0.mk (show Below w.heap.size w w1 from (by refine below_step ?_ hb1; repeat (first | (with_reducible exact B0.out) | (with_reducible apply below_alloc) | (with_reducible apply pw_below_drewN) | (with_reducible apply below_drew1) | with_reducible refine below_set ?_ (by first | (with_reducible exact Nat.le_refl _) | (with_reducible assumption) | (simp; done) | omega | (simp; omega)))))))
    refine bodyPost_ret (v := (.bool false)) (by simp [results, Tryz.results92, go_sem, zEn, *]) rfl ⟨by first | rfl | simp, (by repeat (first | (with_reducible exact B1.out) | (with_reducible apply below_alloc) | (with_reducible apply pw_below_drewN) | (with_reducible apply below_drew1) | with_reducible refine below_set ?_ (by first | (with_reducible exact Nat.le_refl _) | (with_reducible assumption) | (simp; done) | omega | (simp; omega))))⟩
  | true =>
    cases A1 : anyB ⟨g0, g1⟩ with
    | false =>
      simp only [Bool.false_and, Bool.and_false, Bool.true_and]
      clear HT0
      go_enter Tryz.func92, Tryz.ntmps92
      go_wp2_with (first | (go_at_call 143; with_reducible refine (spec_l1Any ⟨f0, f1⟩ _).mono ?_; rintro r w1 ⟨rfl, hb1⟩; obtain ⟨hb1c, hb1f, hb1z⟩ := bcell hb1; (try simp at hb1z); (try have hb10 : w.heap.size < w1.heap.size := by omega); (try have hb11 : w.heap.size + 1 < w1.heap.size := by omega); (try have hb12 : w.heap.size + 2 < w1.heap.size := by omega); rw [A0]; have B1 := Aside0.mk (show Below w.heap.size w w1 from (by refine below_step ?_ hb1; repeat (first | (with_reducible exact B0.out) | (with_reducible apply below_alloc) | (with_reducible apply pw_below_drewN) | (with_reducible apply below_drew1) | with_reducible refine below_set ?_ (by first | (with_reducible exact Nat.le_refl _) | (with_reducible assumption) | (simp; done) | omega | (simp; omega)))))) | (go_at_call 143; with_reducible refine (spec_l1Any ⟨g0, g1⟩ _).mono ?_; rintro r w2 ⟨rfl, hb2⟩; obtain ⟨hb2c, hb2f, hb2z⟩ := bcell hb2; (try simp at hb2z); (try have hb20 : w.heap.size < w2.heap.size := by omega); (try have hb21 : w.heap.size + 1 < w2.heap.size := by omega); (try have hb22 : w.heap.size + 2 < w2.heap.size := by omega); rw [A1]; have B2 := Aside0.mk (show Below w.heap.size w w2 from (by refine below_step ?_ hb2; repeat (first | (with_reducible exact B1.out) | (with_reducible apply below_alloc) | (with_reducible apply pw_below_drewN) | (with_reducible apply below_drew1) | with_reducible refine below_set ?_ (by first | (with_reducible exact Nat.le_refl _) | (with_reducible assumption) | (simp; done) | omega | (simp; omega)))))))
      refine bodyPost_ret (v := (.bool false)) (by simp [results, Tryz.results92, go_sem, zEn, *]) rfl ⟨by first | rfl | simp, (by repeat (first | (with_reducible exact B2.out) | (with_reducible apply below_alloc) | (with_reducible apply pw_below_drewN) | (with_reducible apply below_drew1) | with_reducible refine below_set ?_ (by first | (with_reducible exact Nat.le_refl _) | (with_reducible assumption) | (simp; done) | omega | (simp; omega))))⟩
    | true =>
      cases A2 : inB at_ 0 99 with
      | false =>
        simp only [Bool.false_and, Bool.and_false, Bool.true_and]
        clear HT0
        go_enter Tryz.func92, Tryz.ntmps92
        go_wp2_with (first | (go_at_call 143; with_reducible refine (spec_l1Any ⟨f0, f1⟩ _).mono ?_; rintro r w1 ⟨rfl, hb1⟩; obtain ⟨hb1c, hb1f, hb1z⟩ := bcell hb1; (try simp at hb1z); (try have hb10 : w.heap.size < w1.heap.size := by omega); (try have hb11 : w.heap.size + 1 < w1.heap.size := by omega); (try have hb12 : w.heap.size + 2 < w1.heap.size := by omega); rw [A0]; have B1 := Aside0.mk (show Below w.heap.size w w1 from (by refine below_step ?_ hb1; repeat (first | (with_reducible exact B0.out) | (with_reducible apply below_alloc) | (with_reducible apply pw_below_drewN) | (with_reducible apply below_drew1) | with_reducible refine below_set ?_ (by first | (with_reducible exact Nat.le_refl _) | (with_reducible assumption) | (simp; done) | omega | (simp; omega)))))) | (go_at_call 143; with_reducible refine (spec_l1Any ⟨g0, g1⟩ _).mono ?_; rintro r w2 ⟨rfl, hb2⟩; obtain ⟨hb2c, hb2f, hb2z⟩ := bcell hb2; (try simp at hb2z); (try have hb20 : w.heap.size < w2.heap.size := by omega); (try have hb21 : w.heap.size + 1 < w2.heap.size := by omega); (try have hb22 : w.heap.size + 2 < w2.heap.size := by omega); rw [A1]; have B2 := Aside0.mk (show Below w.heap.size w w2 from (by refine below_step ?_ hb2; repeat (first | (with_reducible exact B1.out) | (with_reducible apply below_alloc) | (with_reducible apply pw_below_drewN) | (with_reducible apply below_drew1) | with_reducible refine below_set ?_ (by first | (with_reducible exact Nat.le_refl _) | (with_reducible assumption) | (simp; done) | omega | (simp; omega)))))) | (go_at_call 63; with_reducible refine (spec_l6In at_ 0 99 _).mono ?_; rintro r w3 ⟨rfl, rfl⟩; obtain ⟨B2.outc, B2.outf, B2.outz⟩ := bcell B2.out; (try simp at B2.outz); (try have B2.out0 : w.heap.size < w3.heap.size := by omega); (try have B2.out1 : w.heap.size + 1 < w3.heap.size := by omega); (try have B2.out2 : w.heap.size + 2 < w3.heap.size := by omega); rw [A2]))
        refine bodyPost_ret (v := (.bool false)) (by simp [results, Tryz.results92, go_sem, zEn, *]) rfl ⟨by first | rfl | simp, (by repeat (first | (with_reducible exact B2.out) | (with_reducible apply below_alloc) | (with_reducible apply pw_below_drewN) | (with_reducible apply below_drew1) | with_reducible refine below_set ?_ (by first | (with_reducible exact Nat.le_refl _) | (with_reducible assumption) | (simp; done) | omega | (simp; omega))))⟩
      | true =>
        simp only [Bool.true_and]
        by_cases K1 : kind = 1
        · subst K1
          obtain ⟨T, hT⟩ : ∃ T, textOk text = T := ⟨_, rfl⟩
          rw [hT] at HT0 ⊢
          have HT := Aside0.mk HT0
          clear HT0 hT
          cases T with
          | false =>
            simp only [Bool.and_false, Bool.false_and, Bool.false_or]
            rw [show ((1 : Int) == 2) = false from by decide, Bool.false_and]
            go_enter Tryz.func92, Tryz.ntmps92
            go_wp2_with (first | (go_at_call 143; with_reducible refine (spec_l1Any ⟨f0, f1⟩ _).mono ?_; rintro r w1 ⟨rfl, hb1⟩; obtain ⟨hb1c, hb1f, hb1z⟩ := bcell hb1; (try simp at hb1z); (try have hb10 : w.heap.size < w1.heap.size := by omega); (try have hb11 : w.heap.size + 1 < w1.heap.size := by omega); (try have hb12 : w.heap.size + 2 < w1.heap.size := by omega); rw [A0]; have B1 := Aside0.mk (show Below w.heap.size w w1 from (by refine below_step ?_ hb1; repeat (first | (with_reducible exact B0.out) | (with_reducible apply below_alloc) | (with_reducible apply pw_below_drewN) | (with_reducible apply below_drew1) | with_reducible refine below_set ?_ (by first | (with_reducible exact Nat.le_refl _) | (with_reducible assumption) | (simp; done) | omega | (simp; omega)))))) | (go_at_call 143; with_reducible refine (spec_l1Any ⟨g0, g1⟩ _).mono ?_; rintro r w2 ⟨rfl, hb2⟩; obtain ⟨hb2c, hb2f, hb2z⟩ := bcell hb2; (try simp at hb2z); (try have hb20 : w.heap.size < w2.heap.size := by omega); (try have hb21 : w.heap.size + 1 < w2.heap.size := by omega); (try have hb22 : w.heap.size + 2 < w2.heap.size := by omega); rw [A1]; have B2 := Aside0.mk (show Below w.heap.size w w2 from (by refine below_step ?_ hb2; repeat (first | (with_reducible exact B1.out) | (with_reducible apply below_alloc) | (with_reducible apply pw_below_drewN) | (with_reducible apply below_drew1) | with_reducible refine below_set ?_ (by first | (with_reducible exact Nat.le_refl _) | (with_reducible assumption) | (simp; done) | omega | (simp; omega)))))) | (go_at_call 63; with_reducible refine (spec_l6In at_ 0 99 _).mono ?_; rintro r w3 ⟨rfl, rfl⟩; obtain ⟨B2.outc, B2.outf, B2.outz⟩ := bcell B2.out; (try simp at B2.outz); (try have B2.out0 : w.heap.size < w3.heap.size := by omega); (try have B2.out1 : w.heap.size + 1 < w3.heap.size := by omega); (try have B2.out2 : w.heap.size + 2 < w3.heap.size := by omega); rw [A2]) | (go_at_call 22; with_reducible refine (Q.spec_TextOk.calls _ _ _ HT.out).mono ?_; rintro r w4 ⟨rfl, hb4⟩; obtain ⟨hb4c, hb4f, hb4z⟩ := bcell hb4; (try simp at hb4z); (try have hb40 : w.heap.size < w4.heap.size := by omega); (try have hb41 : w.heap.size + 1 < w4.heap.size := by omega); (try have hb42 : w.heap.size + 2 < w4.heap.size := by omega); have B4 := Aside0.mk (show Below w.heap.size w w4 from (by refine below_step ?_ hb4; repeat (first | (with_reducible exact B2.out) | (with_reducible apply below_alloc) | (with_reducible apply pw_below_drewN) | (with_reducible apply below_drew1) | with_reducible refine below_set ?_ (by first | (with_reducible exact Nat.le_refl _) | (with_reducible assumption) | (simp; done) | omega | (simp; omega)))))))
            refine bodyPost_ret (v := (.bool false)) (by simp [results, Tryz.results92, go_sem, zEn, *]) rfl ⟨by first | rfl | simp, (by repeat (first | (with_reducible exact B4.out) | (with_reducible apply below_alloc) | (with_reducible apply pw_below_drewN) | (with_reducible apply below_drew1) | with_reducible refine below_set ?_ (by first | (with_reducible exact Nat.le_refl _) | (with_reducible assumption) | (simp; done) | omega | (simp; omega))))⟩
          | true =>
            cases text with
            | nil =>
              rw [show ((1 : Int) == 2) = false from by decide, Bool.false_and, List.isEmpty_nil, Bool.not_true, Bool.and_false, Bool.or_false]
              go_enter Tryz.func92, Tryz.ntmps92
              go_wp2_with (first | (go_at_call 143; with_reducible refine (spec_l1Any ⟨f0, f1⟩ _).mono ?_; rintro r w1 ⟨rfl, hb1⟩; obtain ⟨hb1c, hb1f, hb1z⟩ := bcell hb1; (try simp at hb1z); (try have hb10 : w.heap.size < w1.heap.size := by omega); (try have hb11 : w.heap.size + 1 < w1.heap.size := by omega); (try have hb12 : w.heap.size + 2 < w1.heap.size := by omega); rw [A0]; have B1 := Aside0.mk (show Below w.heap.size w w1 from (by refine below_step ?_ hb1; repeat (first | (with_reducible exact B0.out) | (with_reducible apply below_alloc) | (with_reducible apply pw_below_drewN) | (with_reducible apply below_drew1) | with_reducible refine below_set ?_ (by first | (with_reducible exact Nat.le_refl _) | (with_reducible assumption) | (simp; done) | omega | (simp; omega)))))) | (go_at_call 143; with_reducible refine (spec_l1Any ⟨g0, g1⟩ _).mono ?_; rintro r w2 ⟨rfl, hb2⟩; obtain ⟨hb2c, hb2f, hb2z⟩ := bcell hb2; (try simp at hb2z); (try have hb20 : w.heap.size < w2.heap.size := by omega); (try have hb21 : w.heap.size + 1 < w2.heap.size := by omega); (try have hb22 : w.heap.size + 2 < w2.heap.size := by omega); rw [A1]; have B2 := Aside0.mk (show Below w.heap.size w w2 from (by refine below_step ?_ hb2; repeat (first | (with_reducible exact B1.out) | (with_reducible apply below_alloc) | (with_reducible apply pw_below_drewN) | (with_reducible apply below_drew1) | with_reducible refine below_set ?_ (by first | (with_reducible exact Nat.le_refl _) | (with_reducible assumption) | (simp; done) | omega | (simp; omega)))))) | (go_at_call 63; with_reducible refine (spec_l6In at_ 0 99 _).mono ?_; rintro r w3 ⟨rfl, rfl⟩; obtain ⟨B2.outc, B2.outf, B2.outz⟩ := bcell B2.out; (try simp at B2.outz); (try have B2.out0 : w.heap.size < w3.heap.size := by omega); (try have B2.out1 : w.heap.size + 1 < w3.heap.size := by omega); (try have B2.out2 : w.heap.size + 2 < w3.heap.size := by omega); rw [A2]) | (go_at_call 22; with_reducible refine (Q.spec_TextOk.calls _ _ _ HT.out).mono ?_; rintro r w4 ⟨rfl, hb4⟩; obtain ⟨hb4c, hb4f, hb4z⟩ := bcell hb4; (try simp at hb4z); (try have hb40 : w.heap.size < w4.heap.size := by omega); (try have hb41 : w.heap.size + 1 < w4.heap.size := by omega); (try have hb42 : w.heap.size + 2 < w4.heap.size := by omega); have B4 := Aside0.mk (show Below w.heap.size w w4 from (by refine below_step ?_ hb4; repeat (first | (with_reducible exact B2.out) | (with_reducible apply below_alloc) | (with_reducible apply pw_below_drewN) | (with_reducible apply below_drew1) | with_reducible refine below_set ?_ (by first | (with_reducible exact Nat.le_refl _) | (with_reducible assumption) | (simp; done) | omega | (simp; omega)))))))
              refine bodyPost_ret (v := (.bool false)) (by simp [results, Tryz.results92, go_sem, zEn, *]) rfl ⟨by first | rfl | simp, (by repeat (first | (with_reducible exact B4.out) | (with_reducible apply below_alloc) | (with_reducible apply pw_below_drewN) | (with_reducible apply below_drew1) | with_reducible refine below_set ?_ (by first | (with_reducible exact Nat.le_refl _) | (with_reducible assumption) | (simp; done) | omega | (simp; omega))))⟩
            | cons c t =>
              have hs4 : (c :: t) ≠ [] := List.cons_ne_nil _ _
              rw [show ((1 : Int) == 2) = false from by decide, Bool.false_and, List.isEmpty_cons, Bool.not_false, Bool.and_true, Bool.or_false, show ((1 : Int) == 1) = true from by decide, Bool.true_and]
              generalize (c :: t) = text at *
              go_enter Tryz.func92, Tryz.ntmps92
              go_wp2_with (first | (go_at_call 143; with_reducible refine (spec_l1Any ⟨f0, f1⟩ _).mono ?_; rintro r w1 ⟨rfl, hb1⟩; obtain ⟨hb1c, hb1f, hb1z⟩ := bcell hb1; (try simp at hb1z); (try have hb10 : w.heap.size < w1.heap.size := by omega); (try have hb11 : w.heap.size + 1 < w1.heap.size := by omega); (try have hb12 : w.heap.size + 2 < w1.heap.size := by omega); rw [A0]; have B1 := Aside0.mk (show Below w.heap.size w w1 from (by refine below_step ?_ hb1; repeat (first | (with_reducible exact B0.out) | (with_reducible apply below_alloc) | (with_reducible apply pw_below_drewN) | (with_reducible apply below_drew1) | with_reducible refine below_set ?_ (by first | (with_reducible exact Nat.le_refl _) | (with_reducible assumption) | (simp; done) | omega | (simp; omega)))))) | (go_at_call 143; with_reducible refine (spec_l1Any ⟨g0, g1⟩ _).mono ?_; rintro r w2 ⟨rfl, hb2⟩; obtain ⟨hb2c, hb2f, hb2z⟩ := bcell hb2; (try simp at hb2z); (try have hb20 : w.heap.size < w2.heap.size := by omega); (try have hb21 : w.heap.size + 1 < w2.heap.size := by omega); (try have hb22 : w.heap.size + 2 < w2.heap.size := by omega); rw [A1]; have B2 := Aside0.mk (show Below w.heap.size w w2 from (by refine below_step ?_ hb2; repeat (first | (with_reducible exact B1.out) | (with_reducible apply below_alloc) | (with_reducible apply pw_below_drewN) | (with_reducible apply below_drew1) | with_reducible refine below_set ?_ (by first | (with_reducible exact Nat.le_refl _) | (with_reducible assumption) | (simp; done) | omega | (simp; omega)))))) | (go_at_call 63; with_reducible refine (spec_l6In at_ 0 99 _).mono ?_; rintro r w3 ⟨rfl, rfl⟩; obtain ⟨B2.outc, B2.outf, B2.outz⟩ := bcell B2.out; (try simp at B2.outz); (try have B2.out0 : w.heap.size < w3.heap.size := by omega); (try have B2.out1 : w.heap.size + 1 < w3.heap.size := by omega); (try have B2.out2 : w.heap.size + 2 < w3.heap.size := by omega); rw [A2]) | (go_at_call 22; with_reducible refine (Q.spec_TextOk.calls _ _ _ HT.out).mono ?_; rintro r w4 ⟨rfl, hb4⟩; obtain ⟨hb4c, hb4f, hb4z⟩ := bcell hb4; (try simp at hb4z); (try have hb40 : w.heap.size < w4.heap.size := by omega); (try have hb41 : w.heap.size + 1 < w4.heap.size := by omega); (try have hb42 : w.heap.size + 2 < w4.heap.size := by omega); have B4 := Aside0.mk (show Below w.heap.size w w4 from (by refine below_step ?_ hb4; repeat (first | (with_reducible exact B2.out) | (with_reducible apply below_alloc) | (with_reducible apply pw_below_drewN) | (with_reducible apply below_drew1) | with_reducible refine below_set ?_ (by first | (with_reducible exact Nat.le_refl _) | (with_reducible assumption) | (simp; done) | omega | (simp; omega)))))))
              refine bodyPost_ret (v := (.bool true)) (by simp [results, Tryz.results92, go_sem, zEn, *]) rfl ⟨by first | rfl | simp, (by repeat (first | (with_reducible exact B4.out) | (with_reducible apply below_alloc) | (with_reducible apply pw_below_drewN) | (with_reducible apply below_drew1) | with_reducible refine below_set ?_ (by first | (with_reducible exact Nat.le_refl _) | (with_reducible assumption) | (simp; done) | omega | (simp; omega))))⟩
        · clear HT0
          have k1 : (kind == 1) = false := beq_eq_false_iff_ne.2 K1
          rw [k1, Bool.false_and, Bool.false_and, Bool.false_or]
          by_cases K2 : kind = 2
          · subst K2
            cases text with
            | nil =>
              go_enter Tryz.func92, Tryz.ntmps92
              go_wp2_with (first | (go_at_call 143; with_reducible refine (spec_l1Any ⟨f0, f1⟩ _).mono ?_; rintro r w1 ⟨rfl, hb1⟩; obtain ⟨hb1c, hb1f, hb1z⟩ := bcell hb1; (try simp at hb1z); (try have hb10 : w.heap.size < w1.heap.size := by omega); (try have hb11 : w.heap.size + 1 < w1.heap.size := by omega); (try have hb12 : w.heap.size + 2 < w1.heap.size := by omega); rw [A0]; have B1 := Aside0.mk (show Below w.heap.size w w1 from (by refine below_step ?_ hb1; repeat (first | (with_reducible exact B0.out) | (with_reducible apply below_alloc) | (with_reducible apply pw_below_drewN) | (with_reducible apply below_drew1) | with_reducible refine below_set ?_ (by first | (with_reducible exact Nat.le_refl _) | (with_reducible assumption) | (simp; done) | omega | (simp; omega)))))) | (go_at_call 143; with_reducible refine (spec_l1Any ⟨g0, g1⟩ _).mono ?_; rintro r w2 ⟨rfl, hb2⟩; obtain ⟨hb2c, hb2f, hb2z⟩ := bcell hb2; (try simp at hb2z); (try have hb20 : w.heap.size < w2.heap.size := by omega); (try have hb21 : w.heap.size + 1 < w2.heap.size := by omega); (try have hb22 : w.heap.size + 2 < w2.heap.size := by omega); rw [A1]; have B2 := Aside0.mk (show Below w.heap.size w w2 from (by refine below_step ?_ hb2; repeat (first | (with_reducible exact B1.out) | (with_reducible apply below_alloc) | (with_reducible apply pw_below_drewN) | (with_reducible apply below_drew1) | with_reducible refine below_set ?_ (by first | (with_reducible exact Nat.le_refl _) | (with_reducible assumption) | (simp; done) | omega | (simp; omega)))))) | (go_at_call 63; with_reducible refine (spec_l6In at_ 0 99 _).mono ?_; rintro r w3 ⟨rfl, rfl⟩; obtain ⟨B2.outc, B2.outf, B2.outz⟩ := bcell B2.out; (try simp at B2.outz); (try have B2.out0 : w.heap.size < w3.heap.size := by omega); (try have B2.out1 : w.heap.size + 1 < w3.heap.size := by omega); (try have B2.out2 : w.heap.size + 2 < w3.heap.size := by omega); rw [A2]))
              refine bodyPost_ret (v := (.bool true)) (by simp [results, Tryz.results92, go_sem, zEn, *]) rfl ⟨by first | rfl | simp, (by repeat (first | (with_reducible exact B2.out) | (with_reducible apply below_alloc) | (with_reducible apply pw_below_drewN) | (with_reducible apply below_drew1) | with_reducible refine below_set ?_ (by first | (with_reducible exact Nat.le_refl _) | (with_reducible assumption) | (simp; done) | omega | (simp; omega))))⟩
            | cons c t =>
              have hs4 : (c :: t) ≠ [] := List.cons_ne_nil _ _
              rw [List.isEmpty_cons, Bool.and_false]
              generalize (c :: t) = text at *
              go_enter Tryz.func92, Tryz.ntmps92
              go_wp2_with (first | (go_at_call 143; with_reducible refine (spec_l1Any ⟨f0, f1⟩ _).mono ?_; rintro r w1 ⟨rfl, hb1⟩; obtain ⟨hb1c, hb1f, hb1z⟩ := bcell hb1; (try simp at hb1z); (try have hb10 : w.heap.size < w1.heap.size := by omega); (try have hb11 : w.heap.size + 1 < w1.heap.size := by omega); (try have hb12 : w.heap.size + 2 < w1.heap.size := by omega); rw [A0]; have B1 := Aside0.mk (show Below w.heap.size w w1 from (by refine below_step ?_ hb1; repeat (first | (with_reducible exact B0.out) | (with_reducible apply below_alloc) | (with_reducible apply pw_below_drewN) | (with_reducible apply below_drew1) | with_reducible refine below_set ?_ (by first | (with_reducible exact Nat.le_refl _) | (with_reducible assumption) | (simp; done) | omega | (simp; omega)))))) | (go_at_call 143; with_reducible refine (spec_l1Any ⟨g0, g1⟩ _).mono ?_; rintro r w2 ⟨rfl, hb2⟩; obtain ⟨hb2c, hb2f, hb2z⟩ := bcell hb2; (try simp at hb2z); (try have hb20 : w.heap.size < w2.heap.size := by omega); (try have hb21 : w.heap.size + 1 < w2.heap.size := by omega); (try have hb22 : w.heap.size + 2 < w2.heap.size := by omega); rw [A1]; have B2 := Aside0.mk (show Below w.heap.size w w2 from (by refine below_step ?_ hb2; repeat (first | (with_reducible exact B1.out) | (with_reducible apply below_alloc) | (with_reducible apply pw_below_drewN) | (with_reducible apply below_drew1) | with_reducible refine below_set ?_ (by first | (with_reducible exact Nat.le_refl _) | (with_reducible assumption) | (simp; done) | omega | (simp; omega)))))) | (go_at_call 63; with_reducible refine (spec_l6In at_ 0 99 _).mono ?_; rintro r w3 ⟨rfl, rfl⟩; obtain ⟨B2.outc, B2.outf, B2.outz⟩ := bcell B2.out; (try simp at B2.outz); (try have B2.out0 : w.heap.size < w3.heap.size := by omega); (try have B2.out1 : w.heap.size + 1 < w3.heap.size := by omega); (try have B2.out2 : w.heap.size + 2 < w3.heap.size := by omega); rw [A2]))
              refine bodyPost_ret (v := (.bool false)) (by simp [results, Tryz.results92, go_sem, zEn, *]) rfl ⟨by first | rfl | simp, (by repeat (first | (with_reducible exact B2.out) | (with_reducible apply below_alloc) | (with_reducible apply pw_below_drewN) | (with_reducible apply below_drew1) | with_reducible refine below_set ?_ (by first | (with_reducible exact Nat.le_refl _) | (with_reducible assumption) | (simp; done) | omega | (simp; omega))))⟩
          · have k2 : (kind == 2) = false := beq_eq_false_iff_ne.2 K2
            rw [k2, Bool.false_and]
            go_enter Tryz.func92, Tryz.ntmps92
            go_wp2_with (first | (go_at_call 143; with_reducible refine (spec_l1Any ⟨f0, f1⟩ _).mono ?_; rintro r w1 ⟨rfl, hb1⟩; obtain ⟨hb1c, hb1f, hb1z⟩ := bcell hb1; (try simp at hb1z); (try have hb10 : w.heap.size < w1.heap.size := by omega); (try have hb11 : w.heap.size + 1 < w1.heap.size := by omega); (try have hb12 : w.heap.size + 2 < w1.heap.size := by omega); rw [A0]; have B1 := Aside0.mk (show Below w.heap.size w w1 from (by refine below_step ?_ hb1; repeat (first | (with_reducible exact B0.out) | (with_reducible apply below_alloc) | (with_reducible apply pw_below_drewN) | (with_reducible apply below_drew1) | with_reducible refine below_set ?_ (by first | (with_reducible exact Nat.le_refl _) | (with_reducible assumption) | (simp; done) | omega | (simp; omega)))))) | (go_at_call 143; with_reducible refine (spec_l1Any ⟨g0, g1⟩ _).mono ?_; rintro r w2 ⟨rfl, hb2⟩; obtain ⟨hb2c, hb2f, hb2z⟩ := bcell hb2; (try simp at hb2z); (try have hb20 : w.heap.size < w2.heap.size := by omega); (try have hb21 : w.heap.size + 1 < w2.heap.size := by omega); (try have hb22 : w.heap.size + 2 < w2.heap.size := by omega); rw [A1]; have B2 := Aside0.mk (show Below w.heap.size w w2 from (by refine below_step ?_ hb2; repeat (first | (with_reducible exact B1.out) | (with_reducible apply below_alloc) | (with_reducible apply pw_below_drewN) | (with_reducible apply below_drew1) | with_reducible refine below_set ?_ (by first | (with_reducible exact Nat.le_refl _) | (with_reducible assumption) | (simp; done) | omega | (simp; omega)))))) | (go_at_call 63; with_reducible refine (spec_l6In at_ 0 99 _).mono ?_; rintro r w3 ⟨rfl, rfl⟩; obtain ⟨B2.outc, B2.outf, B2.outz⟩ := bcell B2.out; (try simp at B2.outz); (try have B2.out0 : w.heap.size < w3.heap.size := by omega); (try have B2.out1 : w.heap.size + 1 < w3.heap.size := by omega); (try have B2.out2 : w.heap.size + 2 < w3.heap.size := by omega); rw [A2]))
            refine bodyPost_ret (v := (.bool false)) (by simp [results, Tryz.results92, go_sem, zEn, *]) rfl ⟨by first | rfl | simp, (by repeat (first | (with_reducible exact B2.out) | (with_reducible apply below_alloc) | (with_reducible apply pw_below_drewN) | (with_reducible apply below_drew1) | with_reducible refine below_set ?_ (by first | (with_reducible exact Nat.le_refl _) | (with_reducible assumption) | (simp; done) | omega | (simp; omega))))⟩
end Go.Proofs.YtfjbjiklohjodaaGreatDoor.Z
namespace Go.Proofs.YtfjbjiklohjodaaGreatDoor.Q
open Go.RowKit Go.Proofs.YtfjbjiklohjodaaGreatDoorW.PrintWords Go.Proofs.YtfjbjiklohjodaaGreatDoorW.PrintMore Go.Proofs.YtfjbjiklohjodaaGreatDoor.Z
set_option linter.unusedVariables false
set_option linter.unusedSimpArgs false
attribute [local go_sem ↓] Go.wp_at_zero Go.wp_at_succ
def strings_Clone.f (a0 : ByteArray) : Option ByteArray := if a0.size ≤ 281474976710656 then some a0 else none
theorem strings_Clone.calls (a0 : ByteArray) (r : ByteArray) (w : World) (h : strings_Clone.f a0 = some r) :
    Calls Tryz.prog 137 #[.string a0] w fun e w' => e = .returned (.string r) ∧ Below w.heap.size w w' := by
  unfold strings_Clone.f at h
  split at h
  · rename_i hs
    obtain rfl := Option.some.inj h
    have HC := Aside0.mk (fun w => Tryz.stringslite_Clone a0 w hs)
    clear hs h
    go_enter Tryz.func137, Tryz.ntmps137
    go_wp2_with (go_at_call 176; refine (HC.out _).mono ?_; rintro r w1 ⟨rfl, hb1⟩)
    go_ret
    exact ⟨rfl, hb1⟩
  · cases h
def joinB (l0 : List ByteArray) (a1 : ByteArray) : List UInt8 := Go.Lib.join (l0.map (·.data.toList)) a1.data.toList
def strings_Join.f (l0 : List ByteArray) (a1 : ByteArray) : Option ByteArray := if l0.length ≤ 140737488355328 ∧ (joinB l0 a1).length ≤ 140737488355328 then some ⟨(joinB l0 a1).toArray⟩ else none
theorem strings_Join.calls (A0 : Option Addr) (c0 : Nat) (l0 : List ByteArray) (a1 : ByteArray) (r : ByteArray) (w : World) (hr0 : Kd.C Kd.string w A0 l0.length l0) (hc0 : l0.length ≤ c0) (h : strings_Join.f l0 a1 = some r) :
    Calls Tryz.prog 83 #[.slice A0 l0.length c0, .string a1] w fun e w' => e = .returned (.string r) ∧ Below w.heap.size w w' := by
  unfold strings_Join.f at h
  split at h
  · rename_i hs
    obtain rfl := Option.some.inj h
    rcases Nat.eq_zero_or_pos l0.length with h0 | h0
    · obtain rfl := List.length_eq_zero_iff.1 h0
      refine (Tryz.strings_Join_none A0 c0 a1 w).mono ?_
      rintro e w' ⟨rfl, rfl⟩
      exact ⟨rfl, Below.refl _ _⟩
    · obtain ⟨ad, rfl, hx⟩ := hr0.2.2 h0
      have hcell : ∀ (j : Nat) x, l0[j]? = some x → w.cell? (ad.add j) = some (.string x) := by
        intro j x hj
        obtain ⟨cs, hl, hK, hc⟩ := hx j x hj
        have h1 : cs = [.string x] := hK
        subst h1
        have h2 := hc 0 (.string x) rfl
        rw [Nat.add_zero, show Kd.string.sz = 1 from rfl, Nat.mul_one] at h2
        exact h2
      have hlt : ad.block < w.heap.size := by
        have h1 := hcell 0 _ (List.getElem?_eq_getElem h0)
        have h2 := World.block_lt_of_cell? w _ h1
        have h3 : (ad.add 0).block = ad.block := by unfold Addr.add; split <;> rfl
        omega
      obtain ⟨b, o, p⟩ := ad
      cases p with
      | none => exact Tryz.strings_Join b o c0 l0 a1 w (fun j x hj => by have := hcell j x hj; rwa [Addr.add_lit] at this) hlt hs.1 hc0 hs.2
      | some p =>
        have h1 := hcell 0 _ (List.getElem?_eq_getElem h0)
        have h2 := World.cell?_spot h1
        cases h2
  · cases h
end Go.Proofs.YtfjbjiklohjodaaGreatDoor.Q
namespace Go.Proofs.YtfjbjiklohjodaaGreatDoor.Q
open Go.RowKit Go.Proofs.YtfjbjiklohjodaaGreatDoorW.PrintWords Go.Proofs.YtfjbjiklohjodaaGreatDoorW.PrintMore Go.Proofs.YtfjbjiklohjodaaGreatDoor.Z
set_option linter.unusedVariables false
set_option linter.unusedSimpArgs false
theorem rd_pc (ps : List Pc) (i : Nat) (p : Pc) (h : ps[i]? = some p) : rd_T116 (ps.map pcTo) (i : Int) = pcTo p := by
  unfold rd_T116
  rw [Int.toNat_natCast, List.getD_eq_getElem?_getD, List.getElem?_map, h]
  rfl
theorem drop_of {α : Type} {ps : List α} {i : Nat} {p : α} (h : ps[i]? = some p) : ps.drop i = p :: ps.drop (i + 1) := by
  obtain ⟨hi, e⟩ := List.getElem?_eq_some_iff.1 h
  rw [List.drop_eq_getElem_cons hi, e]
theorem extE (t : List UInt8) (n : Nat) : (mkB t).extract n t.length = mkB (t.drop n) := by
  apply ext_bl
  rw [bl_extract]
  show (t.drop n).take _ = t.drop n
  rw [List.take_of_length_le (by rw [List.length_drop]; exact Nat.le_refl _)]
theorem body_len (l : List UInt8) : (body l).length ≤ l.length := by unfold body; rw [List.length_take]; omega
theorem textOk_len {l : List UInt8} (h : textOk l = true) : l.length ≤ 40 := by
  unfold textOk at h
  rw [Bool.and_eq_true, decide_eq_true_iff] at h
  omega
end Go.Proofs.YtfjbjiklohjodaaGreatDoor.Q
namespace Go.Proofs.YtfjbjiklohjodaaGreatDoor.Q
open Go.RowKit Go.Proofs.YtfjbjiklohjodaaGreatDoorW.PrintWords Go.Proofs.YtfjbjiklohjodaaGreatDoorW.PrintLast Go.Proofs.YtfjbjiklohjodaaGreatDoorW.PrintMore Go.Proofs.YtfjbjiklohjodaaGreatDoor.Z
attribute [local go_sem] max2_int min2_int max_two min_two max_three min_three max_four min_four
set_option linter.unusedVariables false
set_option linter.unusedSimpArgs false
noncomputable section
def impl_TextPieces.f (k : Nat) (a0 : ByteArray) : Option ((List (S116))) := (impl_TextOk.f a0).bind fun t101 => (if t101 = true then ((impl_pieces.f k a0).bind fun t102 => (some t102)) else (some ([] : List (S116))))
set_option maxHeartbeats 8000000 in
set_option maxRecDepth 100000 in
theorem impl_TextPieces.calls (k : Nat) (a0 : ByteArray) (r : List (S116)) (w : World) (hV : VarsIn w) (h : impl_TextPieces.f k a0 = some r) :
    Calls Tryz.prog 180 #[.string a0] w fun e w' => ∃ v0_ : Value, e = .returned (v0_) ∧ Kd.V k116 116 w' w.heap.size (fun k_ => (w.heap.size ≤ k_)) v0_ r ∧ Below w.heap.size w w' := by
  have HB := Aside0.mk (Below.refl w.heap.size w)
  have H : ((impl_TextOk.f a0).bind fun t101 => (if t101 = true then ((impl_pieces.f k a0).bind fun t102 => (some t102)) else (some ([] : List (S116))))) = some r := h
  clear h
  replace H := Option.bind_eq_some_iff.mp H
  obtain ⟨t101, A20, H⟩ := H
  replace H : (if t101 = true then ((impl_pieces.f k a0).bind fun t102 => (some t102)) else (some ([] : List (S116)))) = some r := H
  have A2 := Aside0.mk A20
  clear A20
  by_cases c3 : t101 = true
  · subst c3
    have H1 : ((impl_pieces.f k a0).bind fun t102 => (some t102)) = some r := by rw [if_pos rfl] at H; exact H
    clear H
    have H := H1
    clear H1
    replace H := Option.bind_eq_some_iff.mp H
    obtain ⟨t102, A40, H⟩ := H
    replace H : (some t102) = some r := H
    have A4 := Aside0.mk A40
    clear A40
    obtain rfl := Option.some.inj H
    go_enter Tryz.func180, Tryz.ntmps180
    go_wp2_with (first | ((with_reducible refine gate_callee (f := 67) rfl ?_); refine goesL_ (some 4) rfl rfl Tryz.func67 (by kernel_rfl) rfl #[.string a0] rfl (by (try simp only [List.map_toArray, List.map_cons, List.map_nil]); first | done | rfl | (simp only [List.length_drop, List.length_take]; rfl)) ?_; (with_reducible refine (impl_TextOk.calls a0 true _ A2.out).mono ?_); rintro e w5 ⟨rfl, hb⟩; refine ⟨_, rfl, ?_⟩; have n0_ := Aside0.mk (below_step (by repeat (first | (with_reducible first | exact HB.out | apply below_alloc | apply pw_below_drewN | apply below_drew1) | exact HB.out)) hb); clear HB; have HB := n0_; clear n0_; (try clear hb); (try clear hb2); (try clear hk); (try clear hi)) | ((with_reducible refine gate_callee (f := 78) rfl ?_); refine goesL_ (some 7) rfl rfl Tryz.func78 (by kernel_rfl) rfl #[.string a0] rfl (by (try simp only [List.map_toArray, List.map_cons, List.map_nil]); first | done | rfl | (simp only [List.length_drop, List.length_take]; rfl)) ?_; (with_reducible refine (impl_pieces.calls k a0 t102 _ ?side1 A4.out).mono ?_); (case side1 => exact hV.next (by repeat (first | (with_reducible first | exact HB.out | apply below_alloc | apply pw_below_drewN | apply below_drew1) | exact HB.out))); rintro e w6 ⟨v103, rfl, ho0, hb⟩; refine ⟨_, rfl, ?_⟩; have n0_ := Aside0.mk (Kd.V_lower (Kd.V_mono (ok' := fun k_ => (w.heap.size ≤ k_)) ho0 (fun k_ hk_ => (Nat.le_trans (below_size (by repeat (first | (with_reducible first | exact HB.out | apply below_alloc | apply pw_below_drewN | apply below_drew1) | exact HB.out))) hk_))) (below_size (by repeat (first | (with_reducible first | exact HB.out | apply below_alloc | apply pw_below_drewN | apply below_drew1) | exact HB.out)))); have n1_ := Aside0.mk (below_step (by repeat (first | (with_reducible first | exact HB.out | apply below_alloc | apply pw_below_drewN | apply below_drew1) | exact HB.out)) hb); clear HB; have HO104 := n0_; have HB := n1_; clear n0_ n1_; (try clear hb); (try clear hb2); (try clear hk); (try clear hi); (try clear ho0)))
    go_ret
    exact ⟨_, by first | rfl | (simp [errW_none, errW_some] <;> rfl) | (simp [*, errW_none, errW_some] <;> rfl), by (with_reducible repeat (first | apply Kd.V_alloc | apply Kd.V_drewN | apply Kd.V_drew)); exact HO104.out, by repeat (first | (with_reducible first | exact HB.out | apply below_alloc | apply pw_below_drewN | apply below_drew1) | exact HB.out)⟩
  · replace c3 := Bool.eq_false_iff.mpr c3
    subst c3
    have H1 : (some ([] : List (S116))) = some r := by rw [if_neg (show ¬ (false = true) by decide)] at H; exact H
    clear H
    have H := H1
    clear H1
    obtain rfl := Option.some.inj H
    go_enter Tryz.func180, Tryz.ntmps180
    go_wp2_with (first | ((with_reducible refine gate_callee (f := 67) rfl ?_); refine goesL_ (some 4) rfl rfl Tryz.func67 (by kernel_rfl) rfl #[.string a0] rfl (by (try simp only [List.map_toArray, List.map_cons, List.map_nil]); first | done | rfl | (simp only [List.length_drop, List.length_take]; rfl)) ?_; (with_reducible refine (impl_TextOk.calls a0 false _ A2.out).mono ?_); rintro e w7 ⟨rfl, hb⟩; refine ⟨_, rfl, ?_⟩; have n0_ := Aside0.mk (below_step (by repeat (first | (with_reducible first | exact HB.out | apply below_alloc | apply pw_below_drewN | apply below_drew1) | exact HB.out)) hb); clear HB; have HB := n0_; clear n0_; (try clear hb); (try clear hb2); (try clear hk); (try clear hi)))
    go_ret
    exact ⟨_, by first | rfl | (simp [errW_none, errW_some] <;> rfl) | (simp [*, errW_none, errW_some] <;> rfl), (by first | exact Kd.V_nil _ _ _ _ _ | exact Kd.R_V (Kd.R_nil _ _ _ _ _)), by repeat (first | (with_reducible first | exact HB.out | apply below_alloc | apply pw_below_drewN | apply below_drew1) | exact HB.out)⟩
end
end Go.Proofs.YtfjbjiklohjodaaGreatDoor.Q
namespace Go.Proofs.YtfjbjiklohjodaaGreatDoor.Q
open Go.RowKit Go.Proofs.YtfjbjiklohjodaaGreatDoorW.PrintWords Go.Proofs.YtfjbjiklohjodaaGreatDoorW.PrintLast Go.Proofs.YtfjbjiklohjodaaGreatDoorW.PrintMore Go.Proofs.YtfjbjiklohjodaaGreatDoor.Z
attribute [local go_sem] max2_int min2_int max_two min_two max_three min_three max_four min_four
set_option linter.unusedVariables false
set_option linter.unusedSimpArgs false
noncomputable section
def impl_TextNames.l0 : Nat → List (S62) → List (S116) → Int → Int → Option ((List (S62)))
  | 0, _, _, _, _ => none
  | k + 1, x3, x8, x9, x10 => if x10 < x9 then (if 0 ≤ x10 then (if x10 < (x8.length : Int) then (if (rd_T116 x8 x10).f1 = true then (if x3.length < 8796093022208 then (impl_TextNames.l0 k (x3 ++ [(⟨(rd_T116 x8 x10).f2.f0, (rd_T116 x8 x10).f2.f1⟩ : S62)]) x8 x9 (wrap64 (x10 + 1))) else (none)) else (impl_TextNames.l0 k x3 x8 x9 (wrap64 (x10 + 1)))) else (none)) else (none)) else ((slices_Clip_End.f x3).bind fun t112 => (some t112))
def impl_TextNames.f (k : Nat) (a0 : ByteArray) : Option ((List (S62))) := (impl_TextPieces.f k a0).bind fun t104 => (impl_TextNames.l0 k (([] : List (S62))) t104 (t104.length : Int) 0)
set_option maxHeartbeats 8000000 in
set_option maxRecDepth 100000 in
theorem impl_TextNames.calls (k : Nat) (a0 : ByteArray) (r : List (S62)) (w : World) (hV : VarsIn w) (h : impl_TextNames.f k a0 = some r) :
    Calls Tryz.prog 159 #[.string a0] w fun e w' => ∃ v0_ : Value, e = .returned (v0_) ∧ Kd.V k62 62 w' w.heap.size (fun k_ => (w.heap.size ≤ k_)) v0_ r ∧ Below w.heap.size w w' := by
  have hu116 := Tryz.underlying116
  have hu62 := Tryz.underlying62
  have HB := Aside0.mk (Below.refl w.heap.size w)
  have H : ((impl_TextPieces.f k a0).bind fun t104 => (impl_TextNames.l0 k (([] : List (S62))) t104 (t104.length : Int) 0)) = some r := h
  clear h
  obtain ⟨y101, hy101⟩ : ∃ y_ : List (S62), y_ = (([] : List (S62))) := ⟨_, rfl⟩
  replace H : ((impl_TextPieces.f k a0).bind fun t104 => (impl_TextNames.l0 k y101 t104 (t104.length : Int) 0)) = some r := by first | (rw [hy101]; with_reducible exact H) | (have H2_ := (Option.bind_some _ _).symm.trans H; rw [hy101]; with_reducible exact H2_) | (have H2_ := (Option.bind_some _ _).symm.trans H; with_reducible exact H2_) | with_reducible exact H | (rw [hy101]; exact H) | exact H
  have Ny101 := Aside0.mk hy101
  clear hy101
  replace H := Option.bind_eq_some_iff.mp H
  obtain ⟨t104, A20, H⟩ := H
  replace H : (impl_TextNames.l0 k y101 t104 (t104.length : Int) 0) = some r := H
  have A2 := Aside0.mk A20
  clear A20
  have H' := Aside0.mk H
  clear H
  go_enter Tryz.func159, Tryz.ntmps159
  go_wp2_with (first | ((with_reducible refine gate_dst (N := 6) rfl ?_); refine Kd.R_lit k62 _ 62 ?hg (N := 6) ?hd (xs := ([] : List (S62))) (inner := []) (ok := fun _ => True) (okp := fun _ => True) ?hr ?hp (fun _ hk => hk) trivial (Below.refl _ _) (Nat.le_refl _) (by simp) ?_; (case hd => rfl); (case hg => rfl); (case hr => first | (go_simp; done) | (go_simp; rfl)); (case hp => exact (Reps.none _ _)); intro v102 w3 ho4 hb hg_ hnew_; clear hg_ hnew_; (first | rw [← Ny101.out] at ho4 | (simp only [Int.reduceToNat] at ho4; rw [← Ny101.out] at ho4)); have n0_ := Aside0.mk (Kd.R_lower (Kd.R_newM (M := fun k_ => (w.heap.size ≤ k_)) ho4 (below_size (by repeat (first | (with_reducible first | exact HB.out | apply below_alloc | apply pw_below_drewN | apply below_drew1) | exact HB.out))) (fun k_ h_ => h_)) (below_size (by repeat (first | (with_reducible first | exact HB.out | apply below_alloc | apply pw_below_drewN | apply below_drew1) | exact HB.out)))); have n1_ := Aside0.mk (below_step (by repeat (first | (with_reducible first | exact HB.out | apply below_alloc | apply pw_below_drewN | apply below_drew1) | exact HB.out)) hb); clear HB; have HO103 := n0_; have HB := n1_; clear n0_ n1_; clear hb ho4) | ((with_reducible refine gate_callee (f := 180) rfl ?_); refine goesL_ (some 8) rfl rfl Tryz.func180 (by kernel_rfl) rfl #[.string a0] rfl (by (try simp only [List.map_toArray, List.map_cons, List.map_nil]); first | done | rfl | (simp only [List.length_drop, List.length_take]; rfl)) ?_; (with_reducible refine (impl_TextPieces.calls k a0 t104 _ ?side1 A2.out).mono ?_); (case side1 => exact hV.next (by repeat (first | (with_reducible first | exact HB.out | apply below_alloc | apply pw_below_drewN | apply below_drew1) | exact HB.out))); rintro e w5 ⟨v105, rfl, ho0, hb⟩; refine ⟨_, rfl, ?_⟩; have n0_ := Aside0.mk (Kd.R_below (by (with_reducible repeat (first | apply Kd.R_alloc | apply Kd.R_drewN | apply Kd.R_drew)); exact HO103.out) hb); have n1_ := Aside0.mk (Kd.V_lower (Kd.V_mono (ok' := fun k_ => (w.heap.size ≤ k_) ∧ some k_ ≠ (v102 : Value).ownBlock) ho0 (fun k_ hk_ => ⟨(Nat.le_trans (below_size (by repeat (first | (with_reducible first | exact HB.out | apply below_alloc | apply pw_below_drewN | apply below_drew1) | exact HB.out))) hk_), (Kd.fresh' (Kd.R_lt (by (with_reducible repeat (first | apply Kd.R_alloc | apply Kd.R_drewN | apply Kd.R_drew)); exact HO103.out)) k_ hk_)⟩)) (below_size (by repeat (first | (with_reducible first | exact HB.out | apply below_alloc | apply pw_below_drewN | apply below_drew1) | exact HB.out)))); have n2_ := Aside0.mk (below_step (by repeat (first | (with_reducible first | exact HB.out | apply below_alloc | apply pw_below_drewN | apply below_drew1) | exact HB.out)) hb); clear HO103; clear HB; have HO103 := n0_; have HO106 := n1_; have HB := n2_; clear n0_ n1_ n2_; (try clear hb); (try clear hb2); (try clear hk); (try clear hi); (try clear ho0); obtain ⟨Ao6, co6, eo6⟩ := Kd.V_slice HO106.out; subst eo6))
  go_loopg [3, 10] k (fun kq v3 v10 w' => ∃ (x3_1 : List (S62)) (x10_1 : Int), v10 = .int .i64 x10_1 ∧ Aside0 (impl_TextNames.l0 kq x3_1 t104 (t104.length : Int) x10_1 = some r) ∧ Aside0 (kq ≤ k) ∧ Aside0 (Kd.R k62 62 w' w.heap.size (fun k_ => (w.heap.size ≤ k_)) v3 x3_1) ∧ Aside0 (Kd.V k116 116 w' w.heap.size (fun k_ => (w.heap.size ≤ k_) ∧ some k_ ≠ (v3 : Value).ownBlock) (.slice Ao6 t104.length co6) t104) ∧ Aside0 (Below w.heap.size w w'))
  case atStart => exact ⟨(y101), (0), (by first | rfl | (simp; done) | (simp [*]; done)), H', ⟨Nat.le_refl _⟩, ⟨by (with_reducible repeat (first | apply Kd.R_alloc | apply Kd.R_drewN | apply Kd.R_drew)); exact Kd.R_mono HO103.out (fun _ hk => hk.1)⟩, ⟨by (with_reducible repeat (first | apply Kd.V_alloc | apply Kd.V_drewN | apply Kd.V_drew)); exact HO106.out⟩, ⟨by repeat (first | (with_reducible first | exact HB.out | apply below_alloc | apply pw_below_drewN | apply below_drew1) | exact HB.out)⟩⟩
  case round =>
    clear H'
    try clear c1
    try clear p2
    obtain ⟨x3_1, x10_1, rfl, HA, HK1, HO_3, HO_8, HB⟩ := hrel
    cases gk with
    | zero => exact absurd HA.out (by simp [impl_TextNames.l0])
    | succ k1 =>
      have H := HA.out
      clear HA
      simp only [impl_TextNames.l0] at H
      by_cases c7 : x10_1 < (t104.length : Int)
      · rw [if_pos c7] at H
        have c7b0 : decide (x10_1 < (t104.length : Int)) = true := decide_eq_true c7
        clear c7
        by_cases c8 : 0 ≤ x10_1
        · rw [if_pos c8] at H
          have c8b0 : decide (0 ≤ x10_1) = true := decide_eq_true c8
          clear c8
          by_cases c9 : x10_1 < (t104.length : Int)
          · rw [if_pos c9] at H
            have c9b0 : decide (x10_1 < (t104.length : Int)) = true := decide_eq_true c9
            clear c9
            obtain ⟨bq10, hbq10⟩ : ∃ b_ : Bool, b_ = ((rd_T116 t104 x10_1).f1) := ⟨_, rfl⟩
            replace H : (if bq10 = true then (if x3_1.length < 8796093022208 then (impl_TextNames.l0 k1 (x3_1 ++ [(⟨(rd_T116 t104 x10_1).f2.f0, (rd_T116 t104 x10_1).f2.f1⟩ : S62)]) t104 (t104.length : Int) (wrap64 (x10_1 + 1))) else (none)) else (impl_TextNames.l0 k1 x3_1 t104 (t104.length : Int) (wrap64 (x10_1 + 1)))) = some r := by rw [← hbq10] at H; exact H
            have Nbq10 := Aside0.mk hbq10
            clear hbq10
            by_cases c11 : bq10 = true
            · subst c11
              have H1 : (if x3_1.length < 8796093022208 then (impl_TextNames.l0 k1 (x3_1 ++ [(⟨(rd_T116 t104 x10_1).f2.f0, (rd_T116 t104 x10_1).f2.f1⟩ : S62)]) t104 (t104.length : Int) (wrap64 (x10_1 + 1))) else (none)) = some r := by rw [if_pos rfl] at H; exact H
              clear H
              have H := H1
              clear H1
              by_cases c12 : x3_1.length < 8796093022208
              · rw [if_pos c12] at H
                have LMc12 := Aside0.mk c12
                clear c12
                obtain ⟨y109, hy109⟩ : ∃ y_ : List (S62), y_ = (x3_1 ++ [(⟨(rd_T116 t104 x10_1).f2.f0, (rd_T116 t104 x10_1).f2.f1⟩ : S62)]) := ⟨_, rfl⟩
                replace H : (impl_TextNames.l0 k1 y109 t104 (t104.length : Int) (wrap64 (x10_1 + 1))) = some r := by first | (rw [hy109]; with_reducible exact H) | (have H2_ := (Option.bind_some _ _).symm.trans H; rw [hy109]; with_reducible exact H2_) | (have H2_ := (Option.bind_some _ _).symm.trans H; with_reducible exact H2_) | with_reducible exact H | (rw [hy109]; exact H) | exact H
                have Ny109 := Aside0.mk hy109
                clear hy109
                have H' := Aside0.mk H
                clear H
                have p107 : 0 ≤ (x10_1 : Int) := of_decide_eq_true (by first | (with_reducible assumption) | assumption)
                have q107 : x10_1 < (t104.length : Int) := of_decide_eq_true (by first | (with_reducible assumption) | assumption)
                obtain ⟨ad107, e107, hx107_0, hx107_1, hx107_2, hx107_3⟩ := at_T116 (Kd.V_reads' HO_8.out).2.2 x10_1 p107 q107
                (try rw [← Nbq10.out] at hx107_1)
                cases e107
                replace p107 := eq_true p107
                replace q107 := eq_true q107
                go_wp2_with (first | ((with_reducible refine gate_dst (N := 5) rfl ?_); refine box_event ?hg (N := 5) ?hd (cs := #[.int .i64 0, .bool false, .int .i64 0, .int .i64 0]) (t := 116) ?hr ?_; (case hd => rfl); (case hg => rfl); (case hr => first | (go_simp; done) | (go_simp; rfl)); intro gb108 hg w13 hbox hb; have n0_ := Aside0.mk (Kd.R_below (by (with_reducible repeat (first | apply Kd.R_alloc | apply Kd.R_drewN | apply Kd.R_drew)); exact HO_3.out) hb); have n1_ := Aside0.mk (Kd.V_below (Kd.V_elderB (by (with_reducible repeat (first | apply Kd.V_alloc | apply Kd.V_drewN | apply Kd.V_drew)); exact HO_8.out) gb108 (Nat.le_of_eq hg.symm)) hb); have n2_ := Aside0.mk (below_step (by repeat (first | (with_reducible first | exact HB.out | apply below_alloc | apply pw_below_drewN | apply below_drew1) | exact HB.out)) hb); have n3_ := Aside0.mk (hbox); have n4_ := Aside0.mk ((by rw [hg]; exact (below_size (by repeat (first | (with_reducible first | exact HB.out | apply below_alloc | apply pw_below_drewN | apply below_drew1) | exact HB.out))) : w.heap.size ≤ gb108)); have n5_ := Aside0.mk ((by rw [hg]; exact (below_size (by repeat (first | (with_reducible first | exact HB.out | apply below_alloc | apply pw_below_drewN | apply below_drew1) | exact HB.out))) : w.heap.size ≤ gb108)); clear HO_3; clear HO_8; clear HB; have HO_3 := n0_; have HO_8 := n1_; have HB := n2_; have BK108 := n3_; have GW108 := n4_; have GE108 := n5_; clear n0_ n1_ n2_ n3_ n4_ n5_; clear hb hbox hg; have hcz14_0 : w13.cell? ⟨gb108, 0, none⟩ = some (.int .i64 0) := (blk_cell BK108.out 0).trans rfl; have hcz14_1 : w13.cell? ⟨gb108, 1, none⟩ = some (.bool false) := (blk_cell BK108.out 1).trans rfl; have hcz14_2 : w13.cell? ⟨gb108, 2, none⟩ = some (.int .i64 0) := (blk_cell BK108.out 2).trans rfl; have hcz14_3 : w13.cell? ⟨gb108, 3, none⟩ = some (.int .i64 0) := (blk_cell BK108.out 3).trans rfl; have hfz14_0 := blk_frozen BK108.out 0; have hfz14_1 := blk_frozen BK108.out 1; have hfz14_2 := blk_frozen BK108.out 2; have hfz14_3 := blk_frozen BK108.out 3) | ((with_reducible refine gate_builtin (b := .append) (xs := #[.tmp 16, .tmp 19]) rfl ?_); at_builtin; refine Kd.R_append k62 (w0 := w) w.heap.size rfl (.tmp 16) (.tmp 19) 200 62 (.agg #[(.int .i64 0), (.int .i64 0)]) 16 rfl Tryz.underlying200 info62 rfl (by decide) (by omega) u3 x3_1 (⟨(rd_T116 t104 x10_1).f2.f0, (rd_T116 t104 x10_1).f2.f1⟩ : S62) [.int .i64 ((rd_T116 t104 x10_1).f2.f0), .int .i64 ((rd_T116 t104 x10_1).f2.f1)] (fun k_ => (w.heap.size ≤ k_)) (fun _ => False) rfl (by first | (go_simp; done) | (go_simp; rfl)) ?aP (fun _ hk => hk.elim) ?aF ?aO ?aB ?aS ?aL ?_; (case aP => exact k62_mkM _ _ _ (⟨(rd_T116 t104 x10_1).f2.f0, (rd_T116 t104 x10_1).f2.f1⟩ : S62)); (case aB => exact (by repeat (first | (with_reducible first | exact HB.out | apply below_alloc | apply pw_below_drewN | apply below_drew1 | refine below_set ?_ GE108.out) | exact HB.out))); (case aF => exact (fun k_ hk => (Nat.le_trans (below_size (by repeat (first | (with_reducible first | exact HB.out | apply below_alloc | apply pw_below_drewN | apply below_drew1 | refine below_set ?_ GE108.out) | exact HB.out))) hk))); (case aO => exact (by (with_reducible repeat (first | apply Kd.R_alloc | apply Kd.R_drewN | apply Kd.R_drew)); exact Kd.R_mono (Kd.R_far (p := ⟨gb108, 3, none⟩) (Kd.R_far (p := ⟨gb108, 2, none⟩) (Kd.R_far (p := ⟨gb108, 1, none⟩) (Kd.R_far (p := ⟨gb108, 0, none⟩) (Kd.R_types HO_3.out BK108.out (by decide)) (fun _ hk => hk.2) (.int .i64 ((rd_T116 t104 x10_1).f0))) (fun _ hk => hk.2) (.bool true)) (fun _ hk => hk.2) (.int .i64 ((rd_T116 t104 x10_1).f2.f0))) (fun _ hk => hk.2) (.int .i64 ((rd_T116 t104 x10_1).f2.f1))) (fun _ hk => hk.1))); (case aS => exact (below_size (by repeat (first | (with_reducible first | exact HB.out | apply below_alloc | apply pw_below_drewN | apply below_drew1 | refine below_set ?_ GE108.out) | exact HB.out)))); (case aL => have := LMc12.out; omega); intro v110 w15 ho hb hg hat; rw [← Ny109.out] at ho; have n0_ := Aside0.mk (Kd.V_afterv (ok := (fun k_ => (w.heap.size ≤ k_) ∧ k_ ≠ gb108)) (by (with_reducible repeat (first | apply Kd.V_alloc | apply Kd.V_drewN | apply Kd.V_drew)); exact Kd.V_mono (Kd.V_far (p := ⟨gb108, 3, none⟩) (Kd.V_far (p := ⟨gb108, 2, none⟩) (Kd.V_far (p := ⟨gb108, 1, none⟩) (Kd.V_far (p := ⟨gb108, 0, none⟩) (Kd.V_mono HO_8.out (fun k_ hk => (⟨hk, hk.2⟩ : _ ∧ k_ ≠ gb108))) (fun _ hk => hk.2) (.int .i64 ((rd_T116 t104 x10_1).f0))) (fun _ hk => hk.2) (.bool true)) (fun _ hk => hk.2) (.int .i64 ((rd_T116 t104 x10_1).f2.f0))) (fun _ hk => hk.2) (.int .i64 ((rd_T116 t104 x10_1).f2.f1))) (fun _ hk => ⟨⟨hk.1.1.1, hk.1.2⟩, hk.1.1.2⟩)) hg hat); have n1_ := Aside0.mk (blk_grown (g := gb108) (o := .cells #[.int .i64 ((rd_T116 t104 x10_1).f0), .bool true, .int .i64 ((rd_T116 t104 x10_1).f2.f0), .int .i64 ((rd_T116 t104 x10_1).f2.f1)] 116 (0, 0)) (by (with_reducible repeat (first | refine blk_drewN ?_ _ | refine blk_drew ?_ | refine blk_alloc ?_ _)); refine blk_put (cs := #[.int .i64 ((rd_T116 t104 x10_1).f0), .bool true, .int .i64 ((rd_T116 t104 x10_1).f2.f0), .int .i64 0]) ?_ 3 _ rfl; (with_reducible repeat (first | refine blk_drewN ?_ _ | refine blk_drew ?_ | refine blk_alloc ?_ _)); refine blk_put (cs := #[.int .i64 ((rd_T116 t104 x10_1).f0), .bool true, .int .i64 0, .int .i64 0]) ?_ 2 _ rfl; (with_reducible repeat (first | refine blk_drewN ?_ _ | refine blk_drew ?_ | refine blk_alloc ?_ _)); refine blk_put (cs := #[.int .i64 ((rd_T116 t104 x10_1).f0), .bool false, .int .i64 0, .int .i64 0]) ?_ 1 _ rfl; (with_reducible repeat (first | refine blk_drewN ?_ _ | refine blk_drew ?_ | refine blk_alloc ?_ _)); refine blk_put (cs := #[.int .i64 0, .bool false, .int .i64 0, .int .i64 0]) ?_ 0 _ rfl; (with_reducible repeat (first | refine blk_drewN ?_ _ | refine blk_drew ?_ | refine blk_alloc ?_ _)); exact BK108.out) hg (Kd.R_ne HO_3.out BK108.out (by decide))); have n2_ := Aside0.mk (hb); have n3_ := Aside0.mk (ho); clear HO_8; clear BK108; clear HB; clear HO_3; have HO_8 := n0_; have BK108 := n1_; have HB := n2_; have HO111 := n3_; clear n0_ n1_ n2_ n3_; clear ho hb hg hat))
                go_roundg k1
                case measure => have := HK1.out; omega
                case rel => exact ⟨(y109), (wrap64 (x10_1 + 1)), (by first | rfl | (simp; done) | (simp [*]; done)), H', ⟨by have := HK1.out; omega⟩, ⟨by (with_reducible repeat (first | apply Kd.R_alloc | apply Kd.R_drewN | apply Kd.R_drew)); exact HO111.out⟩, ⟨by (with_reducible repeat (first | apply Kd.V_alloc | apply Kd.V_drewN | apply Kd.V_drew)); exact Kd.V_mono HO_8.out (fun _ hk => ⟨hk.1.1, hk.2⟩)⟩, ⟨by repeat (first | (with_reducible first | exact HB.out | apply below_alloc | apply pw_below_drewN | apply below_drew1 | refine below_set ?_ GE108.out) | exact HB.out)⟩⟩
              · rw [if_neg c12] at H
                exact absurd H (by simp)
            · replace c11 := Bool.eq_false_iff.mpr c11
              subst c11
              have H1 : (impl_TextNames.l0 k1 x3_1 t104 (t104.length : Int) (wrap64 (x10_1 + 1))) = some r := by rw [if_neg (show ¬ (false = true) by decide)] at H; exact H
              clear H
              have H := H1
              clear H1
              have H' := Aside0.mk H
              clear H
              have p107 : 0 ≤ (x10_1 : Int) := of_decide_eq_true (by first | (with_reducible assumption) | assumption)
              have q107 : x10_1 < (t104.length : Int) := of_decide_eq_true (by first | (with_reducible assumption) | assumption)
              obtain ⟨ad107, e107, hx107_0, hx107_1, hx107_2, hx107_3⟩ := at_T116 (Kd.V_reads' HO_8.out).2.2 x10_1 p107 q107
              (try rw [← Nbq10.out] at hx107_1)
              cases e107
              replace p107 := eq_true p107
              replace q107 := eq_true q107
              go_wp2_with (first | ((with_reducible refine gate_dst (N := 5) rfl ?_); refine box_event ?hg (N := 5) ?hd (cs := #[.int .i64 0, .bool false, .int .i64 0, .int .i64 0]) (t := 116) ?hr ?_; (case hd => rfl); (case hg => rfl); (case hr => first | (go_simp; done) | (go_simp; rfl)); intro gb108 hg w16 hbox hb; have n0_ := Aside0.mk (Kd.R_below (by (with_reducible repeat (first | apply Kd.R_alloc | apply Kd.R_drewN | apply Kd.R_drew)); exact HO_3.out) hb); have n1_ := Aside0.mk (Kd.V_below (Kd.V_elderB (by (with_reducible repeat (first | apply Kd.V_alloc | apply Kd.V_drewN | apply Kd.V_drew)); exact HO_8.out) gb108 (Nat.le_of_eq hg.symm)) hb); have n2_ := Aside0.mk (below_step (by repeat (first | (with_reducible first | exact HB.out | apply below_alloc | apply pw_below_drewN | apply below_drew1) | exact HB.out)) hb); have n3_ := Aside0.mk (hbox); have n4_ := Aside0.mk ((by rw [hg]; exact (below_size (by repeat (first | (with_reducible first | exact HB.out | apply below_alloc | apply pw_below_drewN | apply below_drew1) | exact HB.out))) : w.heap.size ≤ gb108)); have n5_ := Aside0.mk ((by rw [hg]; exact (below_size (by repeat (first | (with_reducible first | exact HB.out | apply below_alloc | apply pw_below_drewN | apply below_drew1) | exact HB.out))) : w.heap.size ≤ gb108)); clear HO_3; clear HO_8; clear HB; have HO_3 := n0_; have HO_8 := n1_; have HB := n2_; have BK108 := n3_; have GW108 := n4_; have GE108 := n5_; clear n0_ n1_ n2_ n3_ n4_ n5_; clear hb hbox hg; have hcz17_0 : w16.cell? ⟨gb108, 0, none⟩ = some (.int .i64 0) := (blk_cell BK108.out 0).trans rfl; have hcz17_1 : w16.cell? ⟨gb108, 1, none⟩ = some (.bool false) := (blk_cell BK108.out 1).trans rfl; have hcz17_2 : w16.cell? ⟨gb108, 2, none⟩ = some (.int .i64 0) := (blk_cell BK108.out 2).trans rfl; have hcz17_3 : w16.cell? ⟨gb108, 3, none⟩ = some (.int .i64 0) := (blk_cell BK108.out 3).trans rfl; have hfz17_0 := blk_frozen BK108.out 0; have hfz17_1 := blk_frozen BK108.out 1; have hfz17_2 := blk_frozen BK108.out 2; have hfz17_3 := blk_frozen BK108.out 3))
              go_roundg k1
              case measure => have := HK1.out; omega
              case rel => exact ⟨(x3_1), (wrap64 (x10_1 + 1)), (by first | rfl | (simp; done) | (simp [*]; done)), H', ⟨by have := HK1.out; omega⟩, ⟨by (with_reducible repeat (first | apply Kd.R_alloc | apply Kd.R_drewN | apply Kd.R_drew)); exact Kd.R_mono (Kd.R_far (p := ⟨gb108, 3, none⟩) (Kd.R_far (p := ⟨gb108, 2, none⟩) (Kd.R_far (p := ⟨gb108, 1, none⟩) (Kd.R_far (p := ⟨gb108, 0, none⟩) (Kd.R_types HO_3.out BK108.out (by decide)) (fun _ hk => hk.2) (.int .i64 ((rd_T116 t104 x10_1).f0))) (fun _ hk => hk.2) (.bool false)) (fun _ hk => hk.2) (.int .i64 ((rd_T116 t104 x10_1).f2.f0))) (fun _ hk => hk.2) (.int .i64 ((rd_T116 t104 x10_1).f2.f1))) (fun _ hk => hk.1)⟩, ⟨by (with_reducible repeat (first | apply Kd.V_alloc | apply Kd.V_drewN | apply Kd.V_drew)); exact Kd.V_mono (Kd.V_far (p := ⟨gb108, 3, none⟩) (Kd.V_far (p := ⟨gb108, 2, none⟩) (Kd.V_far (p := ⟨gb108, 1, none⟩) (Kd.V_far (p := ⟨gb108, 0, none⟩) (Kd.V_mono HO_8.out (fun k_ hk => (⟨hk, hk.2⟩ : _ ∧ k_ ≠ gb108))) (fun _ hk => hk.2) (.int .i64 ((rd_T116 t104 x10_1).f0))) (fun _ hk => hk.2) (.bool false)) (fun _ hk => hk.2) (.int .i64 ((rd_T116 t104 x10_1).f2.f0))) (fun _ hk => hk.2) (.int .i64 ((rd_T116 t104 x10_1).f2.f1))) (fun _ hk => ⟨hk.1.1.1, hk.1.1.2⟩)⟩, ⟨by repeat (first | (with_reducible first | exact HB.out | apply below_alloc | apply pw_below_drewN | apply below_drew1 | refine below_set ?_ GE108.out) | exact HB.out)⟩⟩
          · rw [if_neg c9] at H
            exact absurd H (by simp)
        · rw [if_neg c8] at H
          exact absurd H (by simp)
      · rw [if_neg c7] at H
        have c7b0 : decide (x10_1 < (t104.length : Int)) = false := decide_eq_false c7
        clear c7
        replace H := Option.bind_eq_some_iff.mp H
        obtain ⟨t112, A180, H⟩ := H
        replace H : (some t112) = some r := H
        have A18 := Aside0.mk A180
        clear A180
        obtain rfl := Option.some.inj H
        obtain ⟨Ao19, co19, eo19⟩ := Kd.R_slice HO_3.out
        subst eo19
        go_wp2_with (first | ((with_reducible refine gate_callee (f := 181) rfl ?_); refine goesL_ (some 23) rfl rfl Tryz.func181 (by kernel_rfl) rfl #[.slice Ao19 x3_1.length co19] rfl (by (try simp only [List.map_toArray, List.map_cons, List.map_nil]); first | done | rfl | (simp only [List.length_drop, List.length_take]; rfl)) ?_; (with_reducible refine (slices_Clip_End.calls (fun k_ => some k_ = (.slice Ao19 x3_1.length co19 : Value).ownBlock) _ _ x3_1 t112 _ ?side1 A18.out).mono ?_); (case side1 => exact Kd.R_V (Kd.R_tight rfl (HO_3.out))); rintro e w20 ⟨v113, rfl, ho0, hb⟩; refine ⟨_, rfl, ?_⟩; have n0_ := Aside0.mk (Kd.R_below (by (with_reducible repeat (first | apply Kd.R_alloc | apply Kd.R_drewN | apply Kd.R_drew)); exact HO_3.out) hb); have n1_ := Aside0.mk (Kd.V_below (by (with_reducible repeat (first | apply Kd.V_alloc | apply Kd.V_drewN | apply Kd.V_drew)); exact HO_8.out) hb); have n2_ := Aside0.mk (Kd.V_lower (Kd.V_mono (ok' := fun k_ => (w.heap.size ≤ k_)) ho0 (fun k_ hk_ => Or.elim hk_ (fun hs_ => ((HO_3.out).1 k_ hs_.symm)) (fun hn_ => (Nat.le_trans (below_size (by repeat (first | (with_reducible first | exact HB.out | apply below_alloc | apply pw_below_drewN | apply below_drew1) | exact HB.out))) hn_)))) (below_size (by repeat (first | (with_reducible first | exact HB.out | apply below_alloc | apply pw_below_drewN | apply below_drew1) | exact HB.out)))); have n3_ := Aside0.mk (below_step (by repeat (first | (with_reducible first | exact HB.out | apply below_alloc | apply pw_below_drewN | apply below_drew1) | exact HB.out)) hb); clear HO_3; clear HO_8; clear HB; have HO_3 := n0_; have HO_8 := n1_; have HO114 := n2_; have HB := n3_; clear n0_ n1_ n2_ n3_; (try clear hb); (try clear hb2); (try clear hk); (try clear hi); (try clear ho0)))
        go_ret
        exact ⟨_, by first | rfl | (simp [errW_none, errW_some] <;> rfl) | (simp [*, errW_none, errW_some] <;> rfl), by (with_reducible repeat (first | apply Kd.V_alloc | apply Kd.V_drewN | apply Kd.V_drew)); exact HO114.out, by repeat (first | (with_reducible first | exact HB.out | apply below_alloc | apply pw_below_drewN | apply below_drew1) | exact HB.out)⟩
end
end Go.Proofs.YtfjbjiklohjodaaGreatDoor.Q
namespace Go.Proofs.YtfjbjiklohjodaaGreatDoor.Q
open Go.RowKit Go.Proofs.YtfjbjiklohjodaaGreatDoorW.PrintWords Go.Proofs.YtfjbjiklohjodaaGreatDoorW.PrintLast Go.Proofs.YtfjbjiklohjodaaGreatDoorW.PrintMore
attribute [local go_sem] max2_int min2_int max_two min_two max_three min_three max_four min_four
set_option linter.unusedVariables false
set_option linter.unusedSimpArgs false
noncomputable section
theorem eqA62 (d : Nat) (w : World) (x0 y0 : Int) (x1 y1 : Int) :
    (Op.equalIn (d + 2) 62 (.agg #[.int .i64 x0, .int .i64 x1]) (.agg #[.int .i64 y0, .int .i64 y1])).run Tryz.prog w = .ok (x0 == y0 && (x1 == y1)) w := by
  refine eqA_of Tryz.underlying62 (by kernel_rfl) ?_
  refine eqf_cons (by rfl) (by go_simp; rfl) (by go_simp; rfl) (by go_simp) ?_
  exact eqf_last (by rfl) (by go_simp; rfl) (by go_simp; rfl) (by go_simp)
end
end Go.Proofs.YtfjbjiklohjodaaGreatDoor.Q
namespace Go.Proofs.YtfjbjiklohjodaaGreatDoor.Q
open Go.RowKit Go.Proofs.YtfjbjiklohjodaaGreatDoorW.PrintWords Go.Proofs.YtfjbjiklohjodaaGreatDoorW.PrintLast Go.Proofs.YtfjbjiklohjodaaGreatDoorW.PrintMore
attribute [local go_sem] max2_int min2_int max_two min_two max_three min_three max_four min_four
set_option linter.unusedVariables false
set_option linter.unusedSimpArgs false
noncomputable section
theorem eqA111 (d : Nat) (w : World) (x0 y0 : Int) (x1 y1 : Int) (x2 y2 : Int) :
    (Op.equalIn (d + 3) 111 (.agg #[.int .i64 x0, .int .i64 x1, .int .i64 x2]) (.agg #[.int .i64 y0, .int .i64 y1, .int .i64 y2])).run Tryz.prog w = .ok (x0 == y0 && ((x1 == y1 && (x2 == y2)))) w := by
  refine eqA_of Tryz.underlying111 (by kernel_rfl) ?_
  refine eqf_cons (by rfl) (by go_simp; rfl) (by go_simp; rfl) (by go_simp) ?_
  exact eqf_last (by rfl) (by go_simp) (by go_simp) (eqA62 (d + 0) w _ _ _ _)
end
end Go.Proofs.YtfjbjiklohjodaaGreatDoor.Q
namespace Go.Proofs.YtfjbjiklohjodaaGreatDoor.Q
open Go.RowKit Go.Proofs.YtfjbjiklohjodaaGreatDoorW.PrintWords Go.Proofs.YtfjbjiklohjodaaGreatDoorW.PrintMore Go.Proofs.YtfjbjiklohjodaaGreatDoor.Z
set_option linter.unusedVariables false
set_option linter.unusedSimpArgs false
def pieces (l : List UInt8) : List Pc := if textOk l then pcL (body l) else []
theorem impl_TextPieces_to (k : Nat) (hk : 2000 < k) (l : List UInt8) (hl : l.length ≤ 140737488355328) : impl_TextPieces.f k (mkB l) = some ((pieces l).map pcTo) := by
  unfold impl_TextPieces.f impl_TextOk.f pieces
  rw [size_mkB, if_pos hl, bl_of, Option.bind_some]
  cases h2 : textOk l
  · simp
  · have hl2 := textOk_len h2
    rw [if_pos rfl, if_pos rfl, impl_pieces_to k l (by omega) (by omega)]
    rfl
def enTo (e : En) : S62 := ⟨e.addr, e.port⟩
def names (ps : List Pc) : List En := (ps.filter (·.named)).map (·.fin)
theorem names_cons (p : Pc) (ps : List Pc) : names (p :: ps) = (if p.named then [p.fin] else []) ++ names ps := by
  unfold names
  rw [List.filter_cons]
  cases p.named <;> simp
theorem names_l0 (ps : List Pc) (hps : ps.length ≤ 1000) (n : Nat) : ∀ (k : Nat) (acc : List S62) (i : Nat), ps.length - i ≤ n → n < k → i ≤ ps.length → acc.length ≤ i →
    impl_TextNames.l0 k acc (ps.map pcTo) ps.length i = some (acc ++ (names (ps.drop i)).map enTo) := by
  induction n with
  | zero =>
    intro k acc i hn hk hi ha
    obtain ⟨k, rfl⟩ : ∃ m, k = m + 1 := ⟨k - 1, by omega⟩
    simp only [impl_TextNames.l0]
    rw [if_neg (by omega), List.drop_of_length_le (by omega)]
    simp [names, slices_Clip_End.f]
  | succ n ih =>
    intro k acc i hn hk hi ha
    obtain ⟨k, rfl⟩ : ∃ m, k = m + 1 := ⟨k - 1, by omega⟩
    simp only [impl_TextNames.l0]
    by_cases hlt : i < ps.length
    · obtain ⟨p, hp⟩ : ∃ p, ps[i]? = some p := ⟨_, List.getElem?_eq_getElem hlt⟩
      have q0 : (i : Int) < (ps.length : Int) := by omega
      have q1 : (0 : Int) ≤ (i : Int) := by omega
      have q2 : acc.length < 8796093022208 := by omega
      have ih1 := ih k (acc ++ [enTo p.fin]) (i + 1) (by omega) (by omega) (by omega) (by rw [List.length_append, List.length_singleton]; omega)
      have ih2 := ih k acc (i + 1) (by omega) (by omega) (by omega) (by omega)
      have hw3 : wrap64 ((i : Int) + 1) = ((i + 1 : Nat) : Int) := by rw [w64 (by omega)]; omega
      have hr := rd_pc ps i p hp
      have hf1 : (rd_T116 (ps.map pcTo) (i : Int)).f1 = p.named := by rw [hr]; rfl
      have hf2 : (rd_T116 (ps.map pcTo) (i : Int)).f2.f0 = p.fin.addr := by rw [hr]; rfl
      have hf3 : (rd_T116 (ps.map pcTo) (i : Int)).f2.f1 = p.fin.port := by rw [hr]; rfl
      simp only [hf1, hf2, hf3, hw3, List.length_map, q0, q1, q2, if_true]
      rw [drop_of hp, names_cons]
      cases hn : p.named
      · rw [if_neg (by simp)]
        exact ih2
      · rw [if_pos rfl]
        refine ih1.trans ?_
        simp [enTo]
    · rw [if_neg (by omega), List.drop_of_length_le (by omega)]
      simp [names, slices_Clip_End.f]
theorem pieces_len (l : List UInt8) : (pieces l).length ≤ 40 := by
  unfold pieces
  split
  · rename_i h
    have h1 := textOk_len h
    have hp := pcL_len (body l).length (body l) (Nat.le_refl _)
    have hb := body_len l
    omega
  · simp
theorem impl_TextNames_to (k : Nat) (hk : 2000 < k) (l : List UInt8) (hl : l.length ≤ 140737488355328) : impl_TextNames.f k (mkB l) = some ((names (pieces l)).map enTo) := by
  have h := pieces_len l
  unfold impl_TextNames.f
  rw [impl_TextPieces_to k hk l hl, Option.bind_some, List.length_map]
  have := names_l0 (pieces l) (by omega) 1000 k [] 0 (by omega) (by omega) (by omega) (by simp)
  rw [List.drop_zero, List.nil_append] at this
  exact this
end Go.Proofs.YtfjbjiklohjodaaGreatDoor.Q
namespace Go.Proofs.YtfjbjiklohjodaaGreatDoor.Q
open Go.RowKit Go.Proofs.YtfjbjiklohjodaaGreatDoorW.PrintWords Go.Proofs.YtfjbjiklohjodaaGreatDoorW.PrintLast Go.Proofs.YtfjbjiklohjodaaGreatDoorW.PrintMore
attribute [local go_sem] max2_int min2_int max_two min_two max_three min_three max_four min_four
set_option linter.unusedVariables false
set_option linter.unusedSimpArgs false
noncomputable section
def impl_saying.f (a0 : ByteArray) : Option (Bool) := if (a0.size : Int) ≤ 24 then ((impl_TextOk.f a0).bind fun t101 => (if t101 = true then ((impl_held.f a0).bind fun t102 => (some (t102 == 0))) else (some false))) else (some false)
set_option maxHeartbeats 8000000 in
set_option maxRecDepth 100000 in
theorem impl_saying.calls (a0 : ByteArray) (r : Bool) (w : World) (h : impl_saying.f a0 = some r) :
    Calls Tryz.prog 157 #[.string a0] w fun e w' => e = .returned (.bool r) ∧ Below w.heap.size w w' := by
  have HB := Aside0.mk (Below.refl w.heap.size w)
  have H : (if (a0.size : Int) ≤ 24 then ((impl_TextOk.f a0).bind fun t101 => (if t101 = true then ((impl_held.f a0).bind fun t102 => (some (t102 == 0))) else (some false))) else (some false)) = some r := h
  clear h
  by_cases c2 : (a0.size : Int) ≤ 24
  · rw [if_pos c2] at H
    have c2b0 : decide ((a0.size : Int) ≤ 24) = true := decide_eq_true c2
    have c2b1 : decide (a0.size ≤ 24) = true := decide_eq_true (by omega)
    clear c2
    replace H := Option.bind_eq_some_iff.mp H
    obtain ⟨t101, A30, H⟩ := H
    replace H : (if t101 = true then ((impl_held.f a0).bind fun t102 => (some (t102 == 0))) else (some false)) = some r := H
    have A3 := Aside0.mk A30
    clear A30
    by_cases c4 : t101 = true
    · subst c4
      have H1 : ((impl_held.f a0).bind fun t102 => (some (t102 == 0))) = some r := by rw [if_pos rfl] at H; exact H
      clear H
      have H := H1
      clear H1
      replace H := Option.bind_eq_some_iff.mp H
      obtain ⟨t102, A50, H⟩ := H
      replace H : (some (t102 == 0)) = some r := H
      have A5 := Aside0.mk A50
      clear A50
      obtain rfl := Option.some.inj H
      go_enter Tryz.func157, Tryz.ntmps157
      go_wp2_with (first | (go_at_call 67; (with_reducible refine (impl_TextOk.calls a0 true _ A3.out).mono ?_); rintro e w6 ⟨rfl, hb⟩; have n0_ := Aside0.mk (below_step (by repeat (first | (with_reducible first | exact HB.out | apply below_alloc | apply pw_below_drewN | apply below_drew1) | exact HB.out)) hb); clear HB; have HB := n0_; clear n0_; (try clear hb); (try clear hb2); (try clear hk); (try clear hi)) | (go_at_call 131; (with_reducible refine (impl_held.calls a0 t102 _ A5.out).mono ?_); rintro e w7 ⟨rfl, hb⟩; have n0_ := Aside0.mk (below_step (by repeat (first | (with_reducible first | exact HB.out | apply below_alloc | apply pw_below_drewN | apply below_drew1) | exact HB.out)) hb); clear HB; have HB := n0_; clear n0_; (try clear hb); (try clear hb2); (try clear hk); (try clear hi)))
      go_ret
      exact ⟨by first | rfl | (simp [errW_none, errW_some] <;> rfl) | (simp [*, errW_none, errW_some] <;> rfl), by repeat (first | (with_reducible first | exact HB.out | apply below_alloc | apply pw_below_drewN | apply below_drew1) | exact HB.out)⟩
    · replace c4 := Bool.eq_false_iff.mpr c4
      subst c4
      have H1 : (some false) = some r := by rw [if_neg (show ¬ (false = true) by decide)] at H; exact H
      clear H
      have H := H1
      clear H1
      obtain rfl := Option.some.inj H
      go_enter Tryz.func157, Tryz.ntmps157
      go_wp2_with (first | (go_at_call 67; (with_reducible refine (impl_TextOk.calls a0 false _ A3.out).mono ?_); rintro e w8 ⟨rfl, hb⟩; have n0_ := Aside0.mk (below_step (by repeat (first | (with_reducible first | exact HB.out | apply below_alloc | apply pw_below_drewN | apply below_drew1) | exact HB.out)) hb); clear HB; have HB := n0_; clear n0_; (try clear hb); (try clear hb2); (try clear hk); (try clear hi)))
      go_ret
      exact ⟨by first | rfl | (simp [errW_none, errW_some] <;> rfl) | (simp [*, errW_none, errW_some] <;> rfl), by repeat (first | (with_reducible first | exact HB.out | apply below_alloc | apply pw_below_drewN | apply below_drew1) | exact HB.out)⟩
  · rw [if_neg c2] at H
    have c2b0 : decide ((a0.size : Int) ≤ 24) = false := decide_eq_false c2
    have c2b1 : decide (a0.size ≤ 24) = false := decide_eq_false (by omega)
    clear c2
    obtain rfl := Option.some.inj H
    go_enter Tryz.func157, Tryz.ntmps157
    go_wp2
    go_ret
    exact ⟨by first | rfl | (simp [errW_none, errW_some] <;> rfl) | (simp [*, errW_none, errW_some] <;> rfl), by repeat (first | (with_reducible first | exact HB.out | apply below_alloc | apply pw_below_drewN | apply below_drew1) | exact HB.out)⟩
end
end Go.Proofs.YtfjbjiklohjodaaGreatDoor.Q
namespace Go.Proofs.YtfjbjiklohjodaaGreatDoor.Q
open Go.RowKit Go.Proofs.YtfjbjiklohjodaaGreatDoorW.PrintWords Go.Proofs.YtfjbjiklohjodaaGreatDoorW.PrintLast Go.Proofs.YtfjbjiklohjodaaGreatDoorW.PrintMore
attribute [local go_sem] max2_int min2_int max_two min_two max_three min_three max_four min_four
set_option linter.unusedVariables false
set_option linter.unusedSimpArgs false
noncomputable section
def spec_l21Whole.f (a0 : ByteArray) : Option (Bool) := (spec_TextOk.f a0).bind fun t101 => (if t101 = true then (if (a0.size : Int) ≤ 24 then ((spec_l2Held.f a0).bind fun t102 => (some (t102 == 0))) else (some false)) else (some false))
set_option maxHeartbeats 8000000 in
set_option maxRecDepth 100000 in
theorem spec_l21Whole.calls (a0 : ByteArray) (r : Bool) (w : World) (h : spec_l21Whole.f a0 = some r) :
    Calls Tryz.prog 155 #[.string a0] w fun e w' => e = .returned (.bool r) ∧ Below w.heap.size w w' := by
  have HB := Aside0.mk (Below.refl w.heap.size w)
  have H : ((spec_TextOk.f a0).bind fun t101 => (if t101 = true then (if (a0.size : Int) ≤ 24 then ((spec_l2Held.f a0).bind fun t102 => (some (t102 == 0))) else (some false)) else (some false))) = some r := h
  clear h
  replace H := Option.bind_eq_some_iff.mp H
  obtain ⟨t101, A20, H⟩ := H
  replace H : (if t101 = true then (if (a0.size : Int) ≤ 24 then ((spec_l2Held.f a0).bind fun t102 => (some (t102 == 0))) else (some false)) else (some false)) = some r := H
  have A2 := Aside0.mk A20
  clear A20
  by_cases c3 : t101 = true
  · subst c3
    have H1 : (if (a0.size : Int) ≤ 24 then ((spec_l2Held.f a0).bind fun t102 => (some (t102 == 0))) else (some false)) = some r := by rw [if_pos rfl] at H; exact H
    clear H
    have H := H1
    clear H1
    by_cases c4 : (a0.size : Int) ≤ 24
    · rw [if_pos c4] at H
      have c4b0 : decide ((a0.size : Int) ≤ 24) = true := decide_eq_true c4
      have c4b1 : decide (a0.size ≤ 24) = true := decide_eq_true (by omega)
      clear c4
      replace H := Option.bind_eq_some_iff.mp H
      obtain ⟨t102, A50, H⟩ := H
      replace H : (some (t102 == 0)) = some r := H
      have A5 := Aside0.mk A50
      clear A50
      obtain rfl := Option.some.inj H
      go_enter Tryz.func155, Tryz.ntmps155
      go_wp2_with (first | ((with_reducible refine gate_callee (f := 22) rfl ?_); refine goesL_ (some 4) rfl rfl Tryz.func22 (by kernel_rfl) rfl #[.string a0] rfl (by (try simp only [List.map_toArray, List.map_cons, List.map_nil]); first | done | rfl | (simp only [List.length_drop, List.length_take]; rfl)) ?_; (with_reducible refine (spec_TextOk.calls a0 true _ A2.out).mono ?_); rintro e w6 ⟨rfl, hb⟩; refine ⟨_, rfl, ?_⟩; have n0_ := Aside0.mk (below_step (by repeat (first | (with_reducible first | exact HB.out | apply below_alloc | apply pw_below_drewN | apply below_drew1) | exact HB.out)) hb); clear HB; have HB := n0_; clear n0_; (try clear hb); (try clear hb2); (try clear hk); (try clear hi)) | (go_at_call 166; (with_reducible refine (spec_l2Held.calls a0 t102 _ A5.out).mono ?_); rintro e w7 ⟨rfl, hb⟩; have n0_ := Aside0.mk (below_step (by repeat (first | (with_reducible first | exact HB.out | apply below_alloc | apply pw_below_drewN | apply below_drew1) | exact HB.out)) hb); clear HB; have HB := n0_; clear n0_; (try clear hb); (try clear hb2); (try clear hk); (try clear hi)))
      go_ret
      exact ⟨by first | rfl | (simp [errW_none, errW_some] <;> rfl) | (simp [*, errW_none, errW_some] <;> rfl), by repeat (first | (with_reducible first | exact HB.out | apply below_alloc | apply pw_below_drewN | apply below_drew1) | exact HB.out)⟩
    · rw [if_neg c4] at H
      have c4b0 : decide ((a0.size : Int) ≤ 24) = false := decide_eq_false c4
      have c4b1 : decide (a0.size ≤ 24) = false := decide_eq_false (by omega)
      clear c4
      obtain rfl := Option.some.inj H
      go_enter Tryz.func155, Tryz.ntmps155
      go_wp2_with (first | ((with_reducible refine gate_callee (f := 22) rfl ?_); refine goesL_ (some 4) rfl rfl Tryz.func22 (by kernel_rfl) rfl #[.string a0] rfl (by (try simp only [List.map_toArray, List.map_cons, List.map_nil]); first | done | rfl | (simp only [List.length_drop, List.length_take]; rfl)) ?_; (with_reducible refine (spec_TextOk.calls a0 true _ A2.out).mono ?_); rintro e w8 ⟨rfl, hb⟩; refine ⟨_, rfl, ?_⟩; have n0_ := Aside0.mk (below_step (by repeat (first | (with_reducible first | exact HB.out | apply below_alloc | apply pw_below_drewN | apply below_drew1) | exact HB.out)) hb); clear HB; have HB := n0_; clear n0_; (try clear hb); (try clear hb2); (try clear hk); (try clear hi)))
      go_ret
      exact ⟨by first | rfl | (simp [errW_none, errW_some] <;> rfl) | (simp [*, errW_none, errW_some] <;> rfl), by repeat (first | (with_reducible first | exact HB.out | apply below_alloc | apply pw_below_drewN | apply below_drew1) | exact HB.out)⟩
  · replace c3 := Bool.eq_false_iff.mpr c3
    subst c3
    have H1 : (some false) = some r := by rw [if_neg (show ¬ (false = true) by decide)] at H; exact H
    clear H
    have H := H1
    clear H1
    obtain rfl := Option.some.inj H
    go_enter Tryz.func155, Tryz.ntmps155
    go_wp2_with (first | ((with_reducible refine gate_callee (f := 22) rfl ?_); refine goesL_ (some 4) rfl rfl Tryz.func22 (by kernel_rfl) rfl #[.string a0] rfl (by (try simp only [List.map_toArray, List.map_cons, List.map_nil]); first | done | rfl | (simp only [List.length_drop, List.length_take]; rfl)) ?_; (with_reducible refine (spec_TextOk.calls a0 false _ A2.out).mono ?_); rintro e w9 ⟨rfl, hb⟩; refine ⟨_, rfl, ?_⟩; have n0_ := Aside0.mk (below_step (by repeat (first | (with_reducible first | exact HB.out | apply below_alloc | apply pw_below_drewN | apply below_drew1) | exact HB.out)) hb); clear HB; have HB := n0_; clear n0_; (try clear hb); (try clear hb2); (try clear hk); (try clear hi)))
    go_ret
    exact ⟨by first | rfl | (simp [errW_none, errW_some] <;> rfl) | (simp [*, errW_none, errW_some] <;> rfl), by repeat (first | (with_reducible first | exact HB.out | apply below_alloc | apply pw_below_drewN | apply below_drew1) | exact HB.out)⟩
end
end Go.Proofs.YtfjbjiklohjodaaGreatDoor.Q
namespace Go.Proofs.YtfjbjiklohjodaaGreatDoor.Q
open Go.RowKit Go.Proofs.YtfjbjiklohjodaaGreatDoorW.PrintWords Go.Proofs.YtfjbjiklohjodaaGreatDoorW.PrintLast Go.Proofs.YtfjbjiklohjodaaGreatDoorW.PrintMore
attribute [local go_sem] max2_int min2_int max_two min_two max_three min_three max_four min_four
set_option linter.unusedVariables false
set_option linter.unusedSimpArgs false
noncomputable section
def spec_TextPieces.f (k : Nat) (a0 : ByteArray) : Option ((List (S116))) := (spec_TextOk.f a0).bind fun t101 => (if t101 = true then ((spec_l2Pieces.f k a0).bind fun t102 => (some t102)) else (some (([] : List (S116)))))
set_option maxHeartbeats 8000000 in
set_option maxRecDepth 100000 in
theorem spec_TextPieces.calls (k : Nat) (a0 : ByteArray) (r : List (S116)) (w : World) (h : spec_TextPieces.f k a0 = some r) :
    Calls Tryz.prog 73 #[.string a0] w fun e w' => ∃ v0_ : Value, e = .returned (v0_) ∧ Kd.R k116 116 w' w.heap.size (fun _ => True) v0_ r ∧ Below w.heap.size w w' := by
  have HB := Aside0.mk (Below.refl w.heap.size w)
  have H : ((spec_TextOk.f a0).bind fun t101 => (if t101 = true then ((spec_l2Pieces.f k a0).bind fun t102 => (some t102)) else (some (([] : List (S116)))))) = some r := h
  clear h
  replace H := Option.bind_eq_some_iff.mp H
  obtain ⟨t101, A20, H⟩ := H
  replace H : (if t101 = true then ((spec_l2Pieces.f k a0).bind fun t102 => (some t102)) else (some (([] : List (S116))))) = some r := H
  have A2 := Aside0.mk A20
  clear A20
  by_cases c3 : t101 = true
  · subst c3
    have H1 : ((spec_l2Pieces.f k a0).bind fun t102 => (some t102)) = some r := by rw [if_pos rfl] at H; exact H
    clear H
    have H := H1
    clear H1
    replace H := Option.bind_eq_some_iff.mp H
    obtain ⟨t102, A40, H⟩ := H
    replace H : (some t102) = some r := H
    have A4 := Aside0.mk A40
    clear A40
    obtain rfl := Option.some.inj H
    go_enter Tryz.func73, Tryz.ntmps73
    go_wp2_with (first | ((with_reducible refine gate_callee (f := 22) rfl ?_); refine goesL_ (some 4) rfl rfl Tryz.func22 (by kernel_rfl) rfl #[.string a0] rfl (by (try simp only [List.map_toArray, List.map_cons, List.map_nil]); first | done | rfl | (simp only [List.length_drop, List.length_take]; rfl)) ?_; (with_reducible refine (spec_TextOk.calls a0 true _ A2.out).mono ?_); rintro e w5 ⟨rfl, hb⟩; refine ⟨_, rfl, ?_⟩; have n0_ := Aside0.mk (below_step (by repeat (first | (with_reducible first | exact HB.out | apply below_alloc | apply pw_below_drewN | apply below_drew1) | exact HB.out)) hb); clear HB; have HB := n0_; clear n0_; (try clear hb); (try clear hb2); (try clear hk); (try clear hi)) | ((with_reducible refine gate_callee (f := 121) rfl ?_); refine goesL_ (some 8) rfl rfl Tryz.func121 (by kernel_rfl) rfl #[.string a0] rfl (by (try simp only [List.map_toArray, List.map_cons, List.map_nil]); first | done | rfl | (simp only [List.length_drop, List.length_take]; rfl)) ?_; (with_reducible refine (spec_l2Pieces.calls k a0 t102 _ A4.out).mono ?_); rintro e w6 ⟨v103, rfl, ho0, hb⟩; refine ⟨_, rfl, ?_⟩; have n0_ := Aside0.mk (Kd.R_lower ho0 (below_size (by repeat (first | (with_reducible first | exact HB.out | apply below_alloc | apply pw_below_drewN | apply below_drew1) | exact HB.out)))); have n1_ := Aside0.mk (below_step (by repeat (first | (with_reducible first | exact HB.out | apply below_alloc | apply pw_below_drewN | apply below_drew1) | exact HB.out)) hb); clear HB; have HO104 := n0_; have HB := n1_; clear n0_ n1_; (try clear hb); (try clear hb2); (try clear hk); (try clear hi); (try clear ho0)))
    go_ret
    exact ⟨_, by first | rfl | (simp [errW_none, errW_some] <;> rfl) | (simp [*, errW_none, errW_some] <;> rfl), by (with_reducible repeat (first | apply Kd.R_alloc | apply Kd.R_drewN | apply Kd.R_drew)); exact HO104.out, by repeat (first | (with_reducible first | exact HB.out | apply below_alloc | apply pw_below_drewN | apply below_drew1) | exact HB.out)⟩
  · replace c3 := Bool.eq_false_iff.mpr c3
    subst c3
    have H1 : (some (([] : List (S116)))) = some r := by rw [if_neg (show ¬ (false = true) by decide)] at H; exact H
    clear H
    have H := H1
    clear H1
    obtain ⟨y105, hy105⟩ : ∃ y_ : List (S116), y_ = (([] : List (S116))) := ⟨_, rfl⟩
    replace H : (some y105) = some r := by first | (rw [hy105]; with_reducible exact H) | (have H2_ := (Option.bind_some _ _).symm.trans H; rw [hy105]; with_reducible exact H2_) | (have H2_ := (Option.bind_some _ _).symm.trans H; with_reducible exact H2_) | with_reducible exact H | (rw [hy105]; exact H) | exact H
    have Ny105 := Aside0.mk hy105
    clear hy105
    obtain rfl := Option.some.inj H
    go_enter Tryz.func73, Tryz.ntmps73
    go_wp2_with (first | ((with_reducible refine gate_callee (f := 22) rfl ?_); refine goesL_ (some 4) rfl rfl Tryz.func22 (by kernel_rfl) rfl #[.string a0] rfl (by (try simp only [List.map_toArray, List.map_cons, List.map_nil]); first | done | rfl | (simp only [List.length_drop, List.length_take]; rfl)) ?_; (with_reducible refine (spec_TextOk.calls a0 false _ A2.out).mono ?_); rintro e w7 ⟨rfl, hb⟩; refine ⟨_, rfl, ?_⟩; have n0_ := Aside0.mk (below_step (by repeat (first | (with_reducible first | exact HB.out | apply below_alloc | apply pw_below_drewN | apply below_drew1) | exact HB.out)) hb); clear HB; have HB := n0_; clear n0_; (try clear hb); (try clear hb2); (try clear hk); (try clear hi)) | ((with_reducible refine gate_dst (N := 6) rfl ?_); refine Kd.R_lit k116 _ 116 ?hg (N := 6) ?hd (xs := ([] : List (S116))) (inner := []) (ok := fun _ => True) (okp := fun _ => True) ?hr ?hp (fun _ hk => hk) trivial (Below.refl _ _) (Nat.le_refl _) (by simp) ?_; (case hd => rfl); (case hg => rfl); (case hr => first | (go_simp; done) | (go_simp; rfl)); (case hp => exact (Reps.none _ _)); intro v106 w8 ho9 hb hg_ hnew_; clear hg_ hnew_; (first | rw [← Ny105.out] at ho9 | (simp only [Int.reduceToNat] at ho9; rw [← Ny105.out] at ho9)); have n0_ := Aside0.mk (Kd.R_lower ho9 (below_size (by repeat (first | (with_reducible first | exact HB.out | apply below_alloc | apply pw_below_drewN | apply below_drew1) | exact HB.out)))); have n1_ := Aside0.mk (below_step (by repeat (first | (with_reducible first | exact HB.out | apply below_alloc | apply pw_below_drewN | apply below_drew1) | exact HB.out)) hb); clear HB; have HO107 := n0_; have HB := n1_; clear n0_ n1_; clear hb ho9))
    go_ret
    exact ⟨_, by first | rfl | (simp [errW_none, errW_some] <;> rfl) | (simp [*, errW_none, errW_some] <;> rfl), by (with_reducible repeat (first | apply Kd.R_alloc | apply Kd.R_drewN | apply Kd.R_drew)); exact HO107.out, by repeat (first | (with_reducible first | exact HB.out | apply below_alloc | apply pw_below_drewN | apply below_drew1) | exact HB.out)⟩
end
end Go.Proofs.YtfjbjiklohjodaaGreatDoor.Q
namespace Go.Proofs.YtfjbjiklohjodaaGreatDoor.Q
open Go.RowKit Go.Proofs.YtfjbjiklohjodaaGreatDoorW.PrintWords Go.Proofs.YtfjbjiklohjodaaGreatDoorW.PrintLast Go.Proofs.YtfjbjiklohjodaaGreatDoorW.PrintMore
attribute [local go_sem] max2_int min2_int max_two min_two max_three min_three max_four min_four
set_option linter.unusedVariables false
set_option linter.unusedSimpArgs false
noncomputable section
def spec_TextNames.l0 : Nat → List (S62) → List (S116) → Int → Option ((List (S62)))
  | 0, _, _, _ => none
  | k + 1, x3, x4, x5 => if x5 < (x4.length : Int) then (if 0 ≤ x5 then (if (rd_T116 x4 x5).f1 = true then (if x3.length < 8796093022208 then (spec_TextNames.l0 k (x3 ++ [(⟨(rd_T116 x4 x5).f2.f0, (rd_T116 x4 x5).f2.f1⟩ : S62)]) x4 (wrap64 (x5 + 1))) else (none)) else (spec_TextNames.l0 k x3 x4 (wrap64 (x5 + 1)))) else (none)) else (some x3)
def spec_TextNames.f (k : Nat) (a0 : ByteArray) : Option ((List (S62))) := (spec_TextPieces.f k a0).bind fun t104 => (spec_TextNames.l0 k (([] : List (S62))) t104 0)
set_option maxHeartbeats 8000000 in
set_option maxRecDepth 100000 in
theorem spec_TextNames.calls (k : Nat) (a0 : ByteArray) (r : List (S62)) (w : World) (h : spec_TextNames.f k a0 = some r) :
    Calls Tryz.prog 178 #[.string a0] w fun e w' => ∃ v0_ : Value, e = .returned (v0_) ∧ Kd.R k62 62 w' w.heap.size (fun _ => True) v0_ r ∧ Below w.heap.size w w' := by
  have hu62 := Tryz.underlying62
  have HB := Aside0.mk (Below.refl w.heap.size w)
  have H : ((spec_TextPieces.f k a0).bind fun t104 => (spec_TextNames.l0 k (([] : List (S62))) t104 0)) = some r := h
  clear h
  obtain ⟨y101, hy101⟩ : ∃ y_ : List (S62), y_ = (([] : List (S62))) := ⟨_, rfl⟩
  replace H : ((spec_TextPieces.f k a0).bind fun t104 => (spec_TextNames.l0 k y101 t104 0)) = some r := by first | (rw [hy101]; with_reducible exact H) | (have H2_ := (Option.bind_some _ _).symm.trans H; rw [hy101]; with_reducible exact H2_) | (have H2_ := (Option.bind_some _ _).symm.trans H; with_reducible exact H2_) | with_reducible exact H | (rw [hy101]; exact H) | exact H
  have Ny101 := Aside0.mk hy101
  clear hy101
  replace H := Option.bind_eq_some_iff.mp H
  obtain ⟨t104, A20, H⟩ := H
  replace H : (spec_TextNames.l0 k y101 t104 0) = some r := H
  have A2 := Aside0.mk A20
  clear A20
  have H' := Aside0.mk H
  clear H
  go_enter Tryz.func178, Tryz.ntmps178
  go_wp2_with (first | ((with_reducible refine gate_dst (N := 6) rfl ?_); refine Kd.R_lit k62 _ 62 ?hg (N := 6) ?hd (xs := ([] : List (S62))) (inner := []) (ok := fun _ => True) (okp := fun _ => True) ?hr ?hp (fun _ hk => hk) trivial (Below.refl _ _) (Nat.le_refl _) (by simp) ?_; (case hd => rfl); (case hg => rfl); (case hr => first | (go_simp; done) | (go_simp; rfl)); (case hp => exact (Reps.none _ _)); intro v102 w3 ho4 hb hg_ hnew_; clear hg_ hnew_; (first | rw [← Ny101.out] at ho4 | (simp only [Int.reduceToNat] at ho4; rw [← Ny101.out] at ho4)); have n0_ := Aside0.mk (Kd.R_lower ho4 (below_size (by repeat (first | (with_reducible first | exact HB.out | apply below_alloc | apply pw_below_drewN | apply below_drew1) | exact HB.out)))); have n1_ := Aside0.mk (below_step (by repeat (first | (with_reducible first | exact HB.out | apply below_alloc | apply pw_below_drewN | apply below_drew1) | exact HB.out)) hb); clear HB; have HO103 := n0_; have HB := n1_; clear n0_ n1_; clear hb ho4) | ((with_reducible refine gate_callee (f := 73) rfl ?_); refine goesL_ (some 8) rfl rfl Tryz.func73 (by kernel_rfl) rfl #[.string a0] rfl (by (try simp only [List.map_toArray, List.map_cons, List.map_nil]); first | done | rfl | (simp only [List.length_drop, List.length_take]; rfl)) ?_; (with_reducible refine (spec_TextPieces.calls k a0 t104 _ A2.out).mono ?_); rintro e w5 ⟨v105, rfl, ho0, hb⟩; refine ⟨_, rfl, ?_⟩; have n0_ := Aside0.mk (Kd.R_below (by (with_reducible repeat (first | apply Kd.R_alloc | apply Kd.R_drewN | apply Kd.R_drew)); exact HO103.out) hb); have n1_ := Aside0.mk (Kd.R_lower ho0 (below_size (by repeat (first | (with_reducible first | exact HB.out | apply below_alloc | apply pw_below_drewN | apply below_drew1) | exact HB.out)))); have n2_ := Aside0.mk (below_step (by repeat (first | (with_reducible first | exact HB.out | apply below_alloc | apply pw_below_drewN | apply below_drew1) | exact HB.out)) hb); clear HO103; clear HB; have HO103 := n0_; have HO106 := n1_; have HB := n2_; clear n0_ n1_ n2_; (try clear hb); (try clear hb2); (try clear hk); (try clear hi); (try clear ho0)))
  go_loopg [3, 5] k (fun kq v3 v5 w' => ∃ (x3_1 : List (S62)) (x5_1 : Int), v5 = .int .i64 x5_1 ∧ Aside0 (spec_TextNames.l0 kq x3_1 t104 x5_1 = some r) ∧ Aside0 (kq ≤ k) ∧ Aside0 (Kd.R k62 62 w' w.heap.size (fun _ => True) v3 x3_1) ∧ Aside0 (Kd.R k116 116 w' w.heap.size (fun _ => True) v105 t104) ∧ Aside0 (Below w.heap.size w w'))
  case atStart => exact ⟨(y101), (0), (by first | rfl | (simp; done) | (simp [*]; done)), H', ⟨Nat.le_refl _⟩, ⟨by (with_reducible repeat (first | apply Kd.R_alloc | apply Kd.R_drewN | apply Kd.R_drew)); exact HO103.out⟩, ⟨by (with_reducible repeat (first | apply Kd.R_alloc | apply Kd.R_drewN | apply Kd.R_drew)); exact HO106.out⟩, ⟨by repeat (first | (with_reducible first | exact HB.out | apply below_alloc | apply pw_below_drewN | apply below_drew1) | exact HB.out)⟩⟩
  case round =>
    clear H'
    try clear c1
    try clear p2
    obtain ⟨x3_1, x5_1, rfl, HA, HK1, HO_3, HO_4, HB⟩ := hrel
    cases gk with
    | zero => exact absurd HA.out (by simp [spec_TextNames.l0])
    | succ k1 =>
      have H := HA.out
      clear HA
      simp only [spec_TextNames.l0] at H
      by_cases c6 : x5_1 < (t104.length : Int)
      · rw [if_pos c6] at H
        have c6b0 : decide (x5_1 < (t104.length : Int)) = true := decide_eq_true c6
        clear c6
        by_cases c7 : 0 ≤ x5_1
        · rw [if_pos c7] at H
          have c7b0 : decide (0 ≤ x5_1) = true := decide_eq_true c7
          clear c7
          obtain ⟨bq8, hbq8⟩ : ∃ b_ : Bool, b_ = ((rd_T116 t104 x5_1).f1) := ⟨_, rfl⟩
          replace H : (if bq8 = true then (if x3_1.length < 8796093022208 then (spec_TextNames.l0 k1 (x3_1 ++ [(⟨(rd_T116 t104 x5_1).f2.f0, (rd_T116 t104 x5_1).f2.f1⟩ : S62)]) t104 (wrap64 (x5_1 + 1))) else (none)) else (spec_TextNames.l0 k1 x3_1 t104 (wrap64 (x5_1 + 1)))) = some r := by rw [← hbq8] at H; exact H
          have Nbq8 := Aside0.mk hbq8
          clear hbq8
          by_cases c9 : bq8 = true
          · subst c9
            have H1 : (if x3_1.length < 8796093022208 then (spec_TextNames.l0 k1 (x3_1 ++ [(⟨(rd_T116 t104 x5_1).f2.f0, (rd_T116 t104 x5_1).f2.f1⟩ : S62)]) t104 (wrap64 (x5_1 + 1))) else (none)) = some r := by rw [if_pos rfl] at H; exact H
            clear H
            have H := H1
            clear H1
            by_cases c10 : x3_1.length < 8796093022208
            · rw [if_pos c10] at H
              have LMc10 := Aside0.mk c10
              clear c10
              obtain ⟨y109, hy109⟩ : ∃ y_ : List (S62), y_ = (x3_1 ++ [(⟨(rd_T116 t104 x5_1).f2.f0, (rd_T116 t104 x5_1).f2.f1⟩ : S62)]) := ⟨_, rfl⟩
              replace H : (spec_TextNames.l0 k1 y109 t104 (wrap64 (x5_1 + 1))) = some r := by first | (rw [hy109]; with_reducible exact H) | (have H2_ := (Option.bind_some _ _).symm.trans H; rw [hy109]; with_reducible exact H2_) | (have H2_ := (Option.bind_some _ _).symm.trans H; with_reducible exact H2_) | with_reducible exact H | (rw [hy109]; exact H) | exact H
              have Ny109 := Aside0.mk hy109
              clear hy109
              have H' := Aside0.mk H
              clear H
              obtain ⟨Ao11, co11, eo11⟩ := Kd.R_slice HO_4.out
              subst eo11
              have p107 : 0 ≤ (x5_1 : Int) := of_decide_eq_true (by first | (with_reducible assumption) | assumption)
              have q107 : x5_1 < (t104.length : Int) := of_decide_eq_true (by first | (with_reducible assumption) | assumption)
              obtain ⟨ad107, e107, hx107_0, hx107_1, hx107_2, hx107_3⟩ := at_T116 (Kd.R_reads' HO_4.out).2.2 x5_1 p107 q107
              (try rw [← Nbq8.out] at hx107_1)
              cases e107
              replace p107 := eq_true p107
              replace q107 := eq_true q107
              have p108 : 0 ≤ (x5_1 : Int) := of_decide_eq_true (by first | (with_reducible assumption) | assumption)
              have q108 : x5_1 < (t104.length : Int) := of_decide_eq_true (by first | (with_reducible assumption) | assumption)
              obtain ⟨ad108, e108, hx108_0, hx108_1, hx108_2, hx108_3⟩ := at_T116 (Kd.R_reads' HO_4.out).2.2 x5_1 p108 q108
              (try rw [← Nbq8.out] at hx108_1)
              obtain rfl : ad107 = ad108 := (by injection e108)
              replace p108 := eq_true p108
              replace q108 := eq_true q108
              go_wp2_with (first | ((with_reducible refine gate_builtin (b := .append) (xs := #[.tmp 20, .tmp 26]) rfl ?_); at_builtin; refine Kd.R_append k62 (w0 := w) w.heap.size rfl (.tmp 20) (.tmp 26) 200 62 (.agg #[(.int .i64 0), (.int .i64 0)]) 16 rfl Tryz.underlying200 info62 rfl (by decide) (by omega) u3 x3_1 (⟨(rd_T116 t104 x5_1).f2.f0, (rd_T116 t104 x5_1).f2.f1⟩ : S62) [.int .i64 ((rd_T116 t104 x5_1).f2.f0), .int .i64 ((rd_T116 t104 x5_1).f2.f1)] (fun _ => True) (fun _ => False) rfl rfl ?aP (fun _ hk => hk.elim) ?aF ?aO ?aB ?aS ?aL ?_; (case aP => exact k62_mkM _ _ _ (⟨(rd_T116 t104 x5_1).f2.f0, (rd_T116 t104 x5_1).f2.f1⟩ : S62)); (case aB => exact (by repeat (first | (with_reducible first | exact HB.out | apply below_alloc | apply pw_below_drewN | apply below_drew1) | exact HB.out))); (case aF => exact (fun _ _ => trivial)); (case aO => exact (by (with_reducible repeat (first | apply Kd.R_alloc | apply Kd.R_drewN | apply Kd.R_drew)); exact HO_3.out)); (case aS => exact (below_size (by repeat (first | (with_reducible first | exact HB.out | apply below_alloc | apply pw_below_drewN | apply below_drew1) | exact HB.out)))); (case aL => have := LMc10.out; omega); intro v110 w12 ho hb hg hat; rw [← Ny109.out] at ho; have n0_ := Aside0.mk (Kd.R_over' (by (with_reducible repeat (first | apply Kd.R_alloc | apply Kd.R_drewN | apply Kd.R_drew)); exact HO_4.out) (Kd.R_typed (by (with_reducible repeat (first | apply Kd.R_alloc | apply Kd.R_drewN | apply Kd.R_drew)); exact HO_3.out)) (by decide) hg); have n1_ := Aside0.mk (hb); have n2_ := Aside0.mk (ho); clear HO_4; clear HB; clear HO_3; have HO_4 := n0_; have HB := n1_; have HO111 := n2_; clear n0_ n1_ n2_; clear ho hb hg hat))
              go_roundg k1
              case measure => have := HK1.out; omega
              case rel => exact ⟨(y109), (wrap64 (x5_1 + 1)), (by first | rfl | (simp; done) | (simp [*]; done)), H', ⟨by have := HK1.out; omega⟩, ⟨by (with_reducible repeat (first | apply Kd.R_alloc | apply Kd.R_drewN | apply Kd.R_drew)); exact HO111.out⟩, ⟨by (with_reducible repeat (first | apply Kd.R_alloc | apply Kd.R_drewN | apply Kd.R_drew)); exact HO_4.out⟩, ⟨by repeat (first | (with_reducible first | exact HB.out | apply below_alloc | apply pw_below_drewN | apply below_drew1) | exact HB.out)⟩⟩
            · rw [if_neg c10] at H
              exact absurd H (by simp)
          · replace c9 := Bool.eq_false_iff.mpr c9
            subst c9
            have H1 : (spec_TextNames.l0 k1 x3_1 t104 (wrap64 (x5_1 + 1))) = some r := by rw [if_neg (show ¬ (false = true) by decide)] at H; exact H
            clear H
            have H := H1
            clear H1
            have H' := Aside0.mk H
            clear H
            obtain ⟨Ao13, co13, eo13⟩ := Kd.R_slice HO_4.out
            subst eo13
            have p107 : 0 ≤ (x5_1 : Int) := of_decide_eq_true (by first | (with_reducible assumption) | assumption)
            have q107 : x5_1 < (t104.length : Int) := of_decide_eq_true (by first | (with_reducible assumption) | assumption)
            obtain ⟨ad107, e107, hx107_0, hx107_1, hx107_2, hx107_3⟩ := at_T116 (Kd.R_reads' HO_4.out).2.2 x5_1 p107 q107
            (try rw [← Nbq8.out] at hx107_1)
            cases e107
            replace p107 := eq_true p107
            replace q107 := eq_true q107
            go_wp2
            go_roundg k1
            case measure => have := HK1.out; omega
            case rel => exact ⟨(x3_1), (wrap64 (x5_1 + 1)), (by first | rfl | (simp; done) | (simp [*]; done)), H', ⟨by have := HK1.out; omega⟩, ⟨by (with_reducible repeat (first | apply Kd.R_alloc | apply Kd.R_drewN | apply Kd.R_drew)); exact HO_3.out⟩, ⟨by (with_reducible repeat (first | apply Kd.R_alloc | apply Kd.R_drewN | apply Kd.R_drew)); exact HO_4.out⟩, ⟨by repeat (first | (with_reducible first | exact HB.out | apply below_alloc | apply pw_below_drewN | apply below_drew1) | exact HB.out)⟩⟩
        · rw [if_neg c7] at H
          exact absurd H (by simp)
      · rw [if_neg c6] at H
        have c6b0 : decide (x5_1 < (t104.length : Int)) = false := decide_eq_false c6
        clear c6
        obtain rfl := Option.some.inj H
        obtain ⟨Ao14, co14, eo14⟩ := Kd.R_slice HO_4.out
        subst eo14
        go_wp2
        go_ret
        exact ⟨_, by first | rfl | (simp [errW_none, errW_some] <;> rfl) | (simp [*, errW_none, errW_some] <;> rfl), by (with_reducible repeat (first | apply Kd.R_alloc | apply Kd.R_drewN | apply Kd.R_drew)); exact HO_3.out, by repeat (first | (with_reducible first | exact HB.out | apply below_alloc | apply pw_below_drewN | apply below_drew1) | exact HB.out)⟩
end
end Go.Proofs.YtfjbjiklohjodaaGreatDoor.Q
