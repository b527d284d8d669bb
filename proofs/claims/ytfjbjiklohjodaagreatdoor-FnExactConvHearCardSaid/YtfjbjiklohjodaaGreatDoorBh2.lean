/- The closed facts of the row of FnExactConvHear. The kinds of this program's structs (an end, a pair), read in memory, and small words that every walk of this seat uses. The maps of the program: what the small functions on ends and pairs return, program and reference alike. Ends: outside, of the door, of any kind; their texts, plainly. A statement whose order Go leaves open, walked in one order that is told beforehand: what reads is taken when it may come up, a call when nothing else may. Contracts of Go's library at this program, as the kit's tools lay-shelf.mjs and lay-plain.mjs wrote them; those that the claims' texts use. The text of an end: the reference's l6Dec and EndText, the program's EndText. The loops over pairs: the port that stands for an end, and whether pairs are a map; program and reference alike. Whether pairs are a map: the program's MapOk, and the reference's. Whether pairs are a map: the reference's MapOk; for which end a port stands: MapIn, program and reference. For which end a port stands: MapIn of the program and of the reference. The variables of Go's library that the program reads; the end of a text: EndRead. A law over variables of Go's library that are laid by the program's text: the wrap that keeps the world's shape beside them; what the walks want of them. Contracts of mine in the print's own form: the text of an end. The reference's EndRead. Which bytes may be in a text: TextOk of both. Whether a text is the beginning of a name; how much of a text is held. The reference's l2Begins. How much of a text is held: both. -/
import Derived.Test.YtfjbjiklohjodaaGreatDoorProg
import Derived.Test.YtfjbjiklohjodaaGreatDoorRows
import Derived.Test.YtfjbjiklohjodaaGreatDoorBh1
import Derived.Stop.Joined
import Derived.WalkKit
import Derived.ProofKit
import Derived.Lib.Hide
import Derived.Deep.RegionHeld3
import Derived.Deep.DrawnRows
import Derived.Lib.AtoiAll
import Derived.Lib.ItoaNum
import Derived.Lib.IndexMore
import Derived.Shelf.Strings.Builder1
import Derived.Shelf.Strings.Builder2
import Derived.Shelf.Strings.OnBuilder
import Derived.Shelf.Small.Wraps
import Derived.Shelf.Strings.BuilderF
import Derived.Shelf.Strings.BuilderK
import Derived.Shelf.Strings.Builder2Cap
import Derived.Shelf.Strconv.Atoi
import Derived.Shelf.Strconv.Itoa0
import Derived.Shelf.Strconv.Itoa1
import Derived.Shelf.LaysM
import Derived.Shelf.Strconv.Itoa2
import Derived.Shelf.Strconv.Itoa3
import Derived.Shelf.Strconv.AtoiErrFast
import Derived.Shelf.Strconv.ParseIntEmpty
import Derived.Shelf.Strconv.AtoiFail
import Derived.Shelf.Strconv.Clone
import Derived.Shelf.Strconv.SyntaxError
import Derived.Shelf.LaysC
import Derived.Shelf.Strconv.ToError
import Derived.Shelf.Strconv.Lower
import Derived.Shelf.Strconv.ParseUint10
import Derived.Shelf.Strconv.ParseUint10Empty
import Derived.Shelf.Strconv.ParseUint10Any
import Derived.Shelf.Strconv.ParseInt10
import Derived.Shelf.Strconv.AtoiLong
import Derived.Shelf.Strconv.AtoiInnerAll
import Derived.Shelf.Strconv.RangeError
import Derived.Shelf.Strconv.ToErrorRange
import Derived.Shelf.Strconv.AtoiAll
import Derived.Shelf.Strconv.ErrVarAll
import Derived.Shelf.Strings.Search1
import Derived.Shelf.Strings.Search2
import Derived.Shelf.Strings.Cut
import Derived.Shelf.Strings.Shaped
import Derived.Shelf.Strings.Prefix
import Derived.Shelf.Strings.BuilderCap
import Derived.IntWalk
import Derived.WalkSmall
import Derived.Lib.AtoiErrMem
import Derived.Handed
import Derived.LaidMore
import Derived.Lay
import Derived.LaidOnce
import Derived.Shelf.Vars
import Derived.Below
import Derived.Deep.Draws
import Derived.Deep.AppendLies
import Derived.Maps.AppendAt
import Derived.OwnWalk
import Derived.Laws.BytesArg
import Derived.Laws.MakeOwn
import Derived.Laws.OwnMore
import Derived.Deep.OwnRows
import Derived.Tactics
import Derived.Lib.ConvBytes
import Derived.Laws.Slices
import Derived.KernelRfl
import Derived.RowKit3
import Derived.Deep.LoopGhost
import Derived.Deep.QuietTactic
import Derived.BigQuiet
import Derived.WideLaws
import Derived.Deep.DeepCutAuto
import Derived.Deep.CutBlock
import Derived.Laws.Rows
import Derived.Lib.AppendStr
import Derived.ArgAppend
import Derived.Laws.IdiomCopy
import Derived.OrdersHeld
import Derived.Laws.BitsLemmas
import Derived.RowKit
namespace Go.Proofs.YtfjbjiklohjodaaGreatDoor.fnExactConvHear
open Go.ChangeShapes Go.WideShapes Go.ChangeAt Go.RowKit
set_option maxHeartbeats 8000000 in
set_option maxRecDepth 100000 in
theorem jf : joinedFacts Tryz.pinned.checked.prog 12 Tryz.f12 Rows.fnExactConvHearSpec Rows.fnExactConvHearRow = true := by
  unfold joinedFacts
  repeat' (with_reducible refine Bool.and_eq_true_iff.2 ⟨?_, ?_⟩)
  all_goals (as_aux_lemma => kernel_rfl)
end Go.Proofs.YtfjbjiklohjodaaGreatDoor.fnExactConvHear
namespace Go.Proofs.YtfjbjiklohjodaaGreatDoor.Z
open Go.RowKit Go.Proofs.YtfjbjiklohjodaaGreatDoorW.PrintWords
set_option linter.unusedVariables false
set_option linter.unusedSimpArgs false
structure En where
  addr : Int
  port : Int
  deriving DecidableEq, Inhabited
structure Pr where
  port : Int
  inside : En
  deriving DecidableEq, Inhabited
def zEn : En := ⟨0, 0⟩
def zPr : Pr := ⟨0, zEn⟩
def kEn : Kd En := Kd.iso (Kd.pair (Kd.int .i64) (Kd.int .i64)) (fun x : En => (x.addr, x.port))
def kPr : Kd Pr := Kd.iso (Kd.pair (Kd.int .i64) kEn) (fun x : Pr => (x.port, x.inside))
abbrev vEn (e : En) : Value := .agg #[.int .i64 e.addr, .int .i64 e.port]
theorem kEn_open {w : World} {x : En} {cs : List Value} (h : kEn.K w x cs) : cs = [.int .i64 x.addr, .int .i64 x.port] := by
  obtain ⟨_, _, rfl, rfl, rfl⟩ := h
  exact rfl
theorem kPr_open {w : World} {x : Pr} {cs : List Value} (h : kPr.K w x cs) : cs = [.int .i64 x.port, .int .i64 x.inside.addr, .int .i64 x.inside.port] := by
  obtain ⟨_, _, rfl, rfl, s1⟩ := h
  obtain rfl := kEn_open s1
  exact rfl
theorem kEn_mk (w : World) (x : En) : kEn.K w x [.int .i64 x.addr, .int .i64 x.port] := ⟨[.int .i64 x.addr], [.int .i64 x.port], rfl, rfl, rfl⟩
theorem kPr_mk (w : World) (x : Pr) : kPr.K w x [.int .i64 x.port, .int .i64 x.inside.addr, .int .i64 x.inside.port] := ⟨[.int .i64 x.port], _, rfl, rfl, kEn_mk w x.inside⟩
theorem kEn_mkM (w : World) (base : Nat) (ok : Nat → Prop) (x : En) : kEn.M w base ok x [.int .i64 x.addr, .int .i64 x.port] := ⟨[.int .i64 x.addr], [.int .i64 x.port], rfl, rfl, rfl⟩
theorem kPr_mkM (w : World) (base : Nat) (ok : Nat → Prop) (x : Pr) : kPr.M w base ok x [.int .i64 x.port, .int .i64 x.inside.addr, .int .i64 x.inside.port] := ⟨[.int .i64 x.port], _, rfl, rfl, kEn_mkM w base ok x.inside⟩
theorem at_Pr {w : World} {A : Option Addr} {n : Nat} {xs : List Pr} (h : Kd.C kPr w A n xs) (k : Nat) (h1 : k < n) :
    ∃ ad p, A = some ad ∧ Aside0 (xs.getD k zPr = p) ∧ (ad.add (k * 3)).block < w.heap.size ∧ w.cell? (ad.add (k * 3)) = some (.int .i64 p.port) ∧ w.cell? ⟨(ad.add (k * 3)).block, (ad.add (k * 3)).off + 1, none⟩ = some (.int .i64 p.inside.addr) ∧ w.cell? ⟨(ad.add (k * 3)).block, (ad.add (k * 3)).off + 2, none⟩ = some (.int .i64 p.inside.port) := by
  obtain ⟨ad, c, e, _, hK, hc0⟩ := Kd.C_get h zPr (k : Int) (by omega) (by omega)
  have hc : ∀ j u, c[j]? = some u → w.cell? (ad.add (k * 3 + j)) = some u := hc0
  obtain rfl := kPr_open hK
  exact ⟨ad, _, e, ⟨rfl⟩, World.block_lt_of_cell? w _ (hc 0 _ rfl), hc 0 _ rfl, by rw [← add_field _ _ 1 (by omega)]; exact hc 1 _ rfl, by rw [← add_field _ _ 2 (by omega)]; exact hc 2 _ rfl⟩
theorem eqEn (d : Nat) (w : World) (x0 y0 x1 y1 : Int) :
    (Op.equalIn (d + 2) 62 (.agg #[.int .i64 x0, .int .i64 x1]) (.agg #[.int .i64 y0, .int .i64 y1])).run Tryz.prog w = .ok (x0 == y0 && (x1 == y1)) w := by
  refine eqA_of Tryz.underlying62 (by kernel_rfl) ?_
  refine eqf_cons (by rfl) (by go_simp; rfl) (by go_simp; rfl) (by go_simp) ?_
  exact eqf_last (by rfl) (by go_simp; rfl) (by go_simp; rfl) (by go_simp)
theorem eqPr (d : Nat) (w : World) (x0 y0 x1 y1 x2 y2 : Int) :
    (Op.equalIn (d + 3) 111 (.agg #[.int .i64 x0, .int .i64 x1, .int .i64 x2]) (.agg #[.int .i64 y0, .int .i64 y1, .int .i64 y2])).run Tryz.prog w = .ok (x0 == y0 && (x1 == y1 && (x2 == y2))) w := by
  refine eqA_of Tryz.underlying111 (by kernel_rfl) ?_
  refine eqf_cons (by rfl) (by go_simp; rfl) (by go_simp; rfl) (by go_simp) ?_
  exact eqf_last (by rfl) (by first | (go_simp; done) | (go_simp; rfl)) (by first | (go_simp; done) | (go_simp; rfl)) (eqEn d w _ _ _ _)
def Rds {α : Type} (d : Kd α) (w : World) (v : Value) (xs : List α) : Prop := ∃ A c, v = .slice A xs.length c ∧ xs.length ≤ c ∧ d.C w A xs.length xs
theorem Rds.below {α : Type} {d : Kd α} {w w1 : World} {v : Value} {xs : List α} (h : Rds d w v xs) (hb : Below w.heap.size w w1) : Rds d w1 v xs := by
  obtain ⟨A, c, e, hl, hC⟩ := h
  exact ⟨A, c, e, hl, Kd.C_below hC hb⟩
theorem C_take' {α : Type} {d : Kd α} {w : World} {A : Option Addr} {n m : Nat} {xs : List α} (h : Kd.C d w A n xs) (hm : m ≤ n) : Kd.C d w A m (xs.take m) := by
  obtain rfl : xs.length = n := h.1
  have := Kd.C_take h hm
  rwa [List.length_take, Nat.min_eq_left hm] at this
theorem bcell {W w1 : World} (hb : Below W.heap.size W w1) : (∀ b o, b < W.heap.size → w1.cell? ⟨b, o, none⟩ = W.cell? ⟨b, o, none⟩) ∧ (∀ b o, b < W.heap.size → w1.frozen? ⟨b, o, none⟩ = W.frozen? ⟨b, o, none⟩) ∧ W.heap.size ≤ w1.heap.size :=
  ⟨fun b o h => hb.cell (p := ⟨b, o, none⟩) h, fun b o h => hb.frozen (p := ⟨b, o, none⟩) h, hb.size⟩
theorem max_len {α : Type} {d : Kd α} {w : World} {A : Option Addr} {n : Nat} {xs : List α} (h : Kd.C d w A n xs) : n ≤ 9223372036854775807 := h.2.1
end Go.Proofs.YtfjbjiklohjodaaGreatDoor.Z
namespace Go.Proofs.YtfjbjiklohjodaaGreatDoor.Z
open Go.RowKit Go.Proofs.YtfjbjiklohjodaaGreatDoorW.PrintWords
set_option linter.unusedVariables false
set_option linter.unusedSimpArgs false
attribute [local go_sem ↓] Go.wp_at_zero Go.wp_at_succ
def inB (n lo hi : Int) : Bool := decide (lo ≤ n) && decide (n ≤ hi)
theorem impl_within (n lo hi : Int) (w : World) :
    Calls Tryz.prog 68 #[.int .i64 n, .int .i64 lo, .int .i64 hi] w fun e w' => e = .returned (.bool (inB n lo hi)) ∧ w = w' := by
  cases h1 : decide (lo ≤ n)
  all_goals
    go_enter Tryz.func68, Tryz.ntmps68
    go_wp2
    go_ret
    exact ⟨by simp [inB, h1], rfl⟩
theorem spec_l6In (n lo hi : Int) (w : World) :
    Calls Tryz.prog 63 #[.int .i64 n, .int .i64 lo, .int .i64 hi] w fun e w' => e = .returned (.bool (inB n lo hi)) ∧ w = w' := by
  cases h1 : decide (lo ≤ n)
  all_goals
    go_enter Tryz.func63, Tryz.ntmps63
    go_wp2
    go_ret
    exact ⟨by simp [inB, h1], rfl⟩
def insideB (e : En) : Bool := inB e.addr 1 3 && inB e.port 1 9
theorem impl_EndInside (e : En) (w : World) :
    Calls Tryz.prog 75 #[vEn e] w fun r w' => r = .returned (.bool (insideB e)) ∧ Below w.heap.size w w' := by
  cases h : inB e.addr 1 3
  all_goals
    have H := Aside0.mk h; clear h
    go_enter Tryz.func75, Tryz.ntmps75
    go_wp2_with (go_at_call 68; refine (impl_within _ _ _ _).mono ?_; rintro e w' ⟨rfl, rfl⟩; try rw [H.out])
    go_ret
    exact ⟨by simp [insideB, H.out], (Below.refl _ _).alloc (Nat.le_refl _) _⟩
theorem spec_l1Host (e : En) (w : World) :
    Calls Tryz.prog 130 #[vEn e] w fun r w' => r = .returned (.bool (inB e.port 1 9)) ∧ Below w.heap.size w w' := by
  go_enter Tryz.func130, Tryz.ntmps130
  go_wp2_with (go_at_call 63; refine (spec_l6In _ _ _ _).mono ?_; rintro e w' ⟨rfl, rfl⟩)
  go_ret
  exact ⟨rfl, (Below.refl _ _).alloc (Nat.le_refl _) _⟩
theorem spec_EndInside (e : En) (w : World) :
    Calls Tryz.prog 72 #[vEn e] w fun r w' => r = .returned (.bool (insideB e)) ∧ Below w.heap.size w w' := by
  cases h : inB e.addr 1 3
  · have H := Aside0.mk h; clear h
    go_enter Tryz.func72, Tryz.ntmps72
    go_wp2_with (go_at_call 63; refine (spec_l6In _ _ _ _).mono ?_; rintro e w' ⟨rfl, rfl⟩; rw [H.out])
    go_ret
    exact ⟨by simp [insideB, H.out], (Below.refl _ _).alloc (Nat.le_refl _) _⟩
  · have H := Aside0.mk h; clear h
    go_enter Tryz.func72, Tryz.ntmps72
    go_wp2_with (first | (go_at_call 63; refine (spec_l6In _ _ _ _).mono ?_; rintro e w' ⟨rfl, rfl⟩; rw [H.out]) | (go_at_call 130; refine (spec_l1Host e _).mono ?_; rintro _ w' ⟨rfl, hb⟩))
    go_ret
    exact ⟨by simp [insideB, H.out], ((Below.refl _ _).alloc (Nat.le_refl _) _).trans (hb.mono (by simp))⟩
theorem impl_EndDoor (e : En) (w : World) :
    Calls Tryz.prog 147 #[vEn e] w fun r w' => r = .returned (.bool (e.addr == 9 && inB e.port 10 17)) ∧ Below w.heap.size w w' := by
  cases h : (e.addr == 9)
  all_goals
    go_enter Tryz.func147, Tryz.ntmps147
    go_wp2_with (go_at_call 68; refine (impl_within _ _ _ _).mono ?_; rintro e w' ⟨rfl, rfl⟩)
    go_ret
    exact ⟨by simp [h], (Below.refl _ _).alloc (Nat.le_refl _) _⟩
end Go.Proofs.YtfjbjiklohjodaaGreatDoor.Z
namespace Go.Proofs.YtfjbjiklohjodaaGreatDoor.Z
open Go.RowKit Go.Proofs.YtfjbjiklohjodaaGreatDoorW.PrintWords
set_option linter.unusedVariables false
set_option linter.unusedSimpArgs false
attribute [local go_sem ↓] Go.wp_at_zero Go.wp_at_succ
def outsideB (e : En) : Bool := inB e.addr 4 6 && inB e.port 1 9
def doorB (e : En) : Bool := e.addr == 9 && inB e.port 10 17
def anyB (e : En) : Bool := insideB e || outsideB e || doorB e
theorem impl_EndOutside (e : En) (w : World) :
    Calls Tryz.prog 103 #[vEn e] w fun r w' => r = .returned (.bool (outsideB e)) ∧ Below w.heap.size w w' := by
  cases h : inB e.addr 4 6
  all_goals
    have H := Aside0.mk h; clear h
    go_enter Tryz.func103, Tryz.ntmps103
    go_wp2_with (go_at_call 68; refine (impl_within _ _ _ _).mono ?_; rintro e w' ⟨rfl, rfl⟩; try rw [H.out])
    go_ret
    exact ⟨by simp [outsideB, H.out], (Below.refl _ _).alloc (Nat.le_refl _) _⟩
theorem spec_EndOutside (e : En) (w : World) :
    Calls Tryz.prog 100 #[vEn e] w fun r w' => r = .returned (.bool (outsideB e)) ∧ Below w.heap.size w w' := by
  cases h : inB e.addr 4 6
  · have H := Aside0.mk h; clear h
    go_enter Tryz.func100, Tryz.ntmps100
    go_wp2_with (go_at_call 63; refine (spec_l6In _ _ _ _).mono ?_; rintro e w' ⟨rfl, rfl⟩; rw [H.out])
    go_ret
    exact ⟨by simp [outsideB, H.out], (Below.refl _ _).alloc (Nat.le_refl _) _⟩
  · have H := Aside0.mk h; clear h
    go_enter Tryz.func100, Tryz.ntmps100
    go_wp2_with (first | (go_at_call 63; refine (spec_l6In _ _ _ _).mono ?_; rintro e w' ⟨rfl, rfl⟩; rw [H.out]) | (go_at_call 130; refine (spec_l1Host e _).mono ?_; rintro _ w' ⟨rfl, hb⟩))
    go_ret
    exact ⟨by simp [outsideB, H.out], ((Below.refl _ _).alloc (Nat.le_refl _) _).trans (hb.mono (by simp))⟩
theorem spec_EndDoor (e : En) (w : World) :
    Calls Tryz.prog 144 #[vEn e] w fun r w' => r = .returned (.bool (doorB e)) ∧ Below w.heap.size w w' := by
  cases h : (e.addr == 9)
  all_goals
    go_enter Tryz.func144, Tryz.ntmps144
    go_wp2_with (go_at_call 63; refine (spec_l6In _ _ _ _).mono ?_; rintro e w' ⟨rfl, rfl⟩)
    go_ret
    exact ⟨by simp [doorB, h], (Below.refl _ _).alloc (Nat.le_refl _) _⟩
theorem spec_l1Any (e : En) (w : World) :
    Calls Tryz.prog 143 #[vEn e] w fun r w' => r = .returned (.bool (anyB e)) ∧ Below w.heap.size w w' := by
  cases h1 : insideB e
  · have H1 := Aside0.mk h1; clear h1
    cases h2 : outsideB e
    all_goals
      have H2 := Aside0.mk h2; clear h2
      go_enter Tryz.func143, Tryz.ntmps143
      go_wp2_with (first | (go_at_call 72; refine (spec_EndInside e _).mono ?_; rintro r w1 ⟨rfl, hb1⟩; rw [H1.out]; obtain ⟨hb1c, hb1f, hb1z⟩ := bcell hb1; (try simp at hb1z); (try have hb10 : w.heap.size < w1.heap.size := by omega); (try have hb11 : w.heap.size + 1 < w1.heap.size := by omega); (try have hb12 : w.heap.size + 2 < w1.heap.size := by omega)) | (go_at_call 100; refine (spec_EndOutside e _).mono ?_; rintro r w2 ⟨rfl, hb2⟩; rw [H2.out]; obtain ⟨hb2c, hb2f, hb2z⟩ := bcell hb2; (try simp at hb2z); (try have hb20 : w.heap.size < w2.heap.size := by omega); (try have hb21 : w.heap.size + 1 < w2.heap.size := by omega); (try have hb22 : w.heap.size + 2 < w2.heap.size := by omega)) | (go_at_call 144; refine (spec_EndDoor e _).mono ?_; rintro r w3 ⟨rfl, hb3⟩; obtain ⟨hb3c, hb3f, hb3z⟩ := bcell hb3; (try simp at hb3z); (try have hb30 : w.heap.size < w3.heap.size := by omega); (try have hb31 : w.heap.size + 1 < w3.heap.size := by omega); (try have hb32 : w.heap.size + 2 < w3.heap.size := by omega)))
      go_ret
      exact ⟨by simp [anyB, H1.out, H2.out], by first | exact below_step (below_step (below_step (by repeat (first | (with_reducible exact (Below.refl _ _)) | (with_reducible apply below_alloc) | (with_reducible apply pw_below_drewN) | (with_reducible apply below_drew1) | with_reducible refine below_set ?_ (by first | (with_reducible exact Nat.le_refl _) | (with_reducible assumption) | (simp; done) | omega | (simp; omega)))) hb1) hb2) hb3 | exact below_step (below_step (by repeat (first | (with_reducible exact (Below.refl _ _)) | (with_reducible apply below_alloc) | (with_reducible apply pw_below_drewN) | (with_reducible apply below_drew1) | with_reducible refine below_set ?_ (by first | (with_reducible exact Nat.le_refl _) | (with_reducible assumption) | (simp; done) | omega | (simp; omega)))) hb1) hb2⟩
  · have H1 := Aside0.mk h1; clear h1
    go_enter Tryz.func143, Tryz.ntmps143
    go_wp2_with (go_at_call 72; refine (spec_EndInside e _).mono ?_; rintro r w1 ⟨rfl, hb1⟩; rw [H1.out]; obtain ⟨hb1c, hb1f, hb1z⟩ := bcell hb1; (try simp at hb1z); (try have hb10 : w.heap.size < w1.heap.size := by omega); (try have hb11 : w.heap.size + 1 < w1.heap.size := by omega); (try have hb12 : w.heap.size + 2 < w1.heap.size := by omega))
    go_ret
    exact ⟨by simp [anyB, H1.out], below_step (by repeat (first | (with_reducible exact (Below.refl _ _)) | (with_reducible apply below_alloc) | (with_reducible apply pw_below_drewN) | (with_reducible apply below_drew1) | with_reducible refine below_set ?_ (by first | (with_reducible exact Nat.le_refl _) | (with_reducible assumption) | (simp; done) | omega | (simp; omega)))) hb1⟩
theorem impl_any (e : En) (w : World) :
    Calls Tryz.prog 146 #[vEn e] w fun r w' => r = .returned (.bool (anyB e)) ∧ Below w.heap.size w w' := by
  cases h1 : insideB e
  · have H1 := Aside0.mk h1; clear h1
    cases h2 : outsideB e
    all_goals
      have H2 := Aside0.mk h2; clear h2
      go_enter Tryz.func146, Tryz.ntmps146
      go_wp2_with (first | (go_at_call 75; refine (impl_EndInside e _).mono ?_; rintro r w1 ⟨rfl, hb1⟩; rw [H1.out]; obtain ⟨hb1c, hb1f, hb1z⟩ := bcell hb1; (try simp at hb1z); (try have hb10 : w.heap.size < w1.heap.size := by omega); (try have hb11 : w.heap.size + 1 < w1.heap.size := by omega); (try have hb12 : w.heap.size + 2 < w1.heap.size := by omega)) | (go_at_call 103; refine (impl_EndOutside e _).mono ?_; rintro r w2 ⟨rfl, hb2⟩; rw [H2.out]; obtain ⟨hb2c, hb2f, hb2z⟩ := bcell hb2; (try simp at hb2z); (try have hb20 : w.heap.size < w2.heap.size := by omega); (try have hb21 : w.heap.size + 1 < w2.heap.size := by omega); (try have hb22 : w.heap.size + 2 < w2.heap.size := by omega)) | (go_at_call 147; refine (impl_EndDoor e _).mono ?_; rintro r w3 ⟨rfl, hb3⟩; obtain ⟨hb3c, hb3f, hb3z⟩ := bcell hb3; (try simp at hb3z); (try have hb30 : w.heap.size < w3.heap.size := by omega); (try have hb31 : w.heap.size + 1 < w3.heap.size := by omega); (try have hb32 : w.heap.size + 2 < w3.heap.size := by omega)))
      go_ret
      exact ⟨by simp [anyB, doorB, H1.out, H2.out], by first | exact below_step (below_step (below_step (by repeat (first | (with_reducible exact (Below.refl _ _)) | (with_reducible apply below_alloc) | (with_reducible apply pw_below_drewN) | (with_reducible apply below_drew1) | with_reducible refine below_set ?_ (by first | (with_reducible exact Nat.le_refl _) | (with_reducible assumption) | (simp; done) | omega | (simp; omega)))) hb1) hb2) hb3 | exact below_step (below_step (by repeat (first | (with_reducible exact (Below.refl _ _)) | (with_reducible apply below_alloc) | (with_reducible apply pw_below_drewN) | (with_reducible apply below_drew1) | with_reducible refine below_set ?_ (by first | (with_reducible exact Nat.le_refl _) | (with_reducible assumption) | (simp; done) | omega | (simp; omega)))) hb1) hb2⟩
  · have H1 := Aside0.mk h1; clear h1
    go_enter Tryz.func146, Tryz.ntmps146
    go_wp2_with (go_at_call 75; refine (impl_EndInside e _).mono ?_; rintro r w1 ⟨rfl, hb1⟩; rw [H1.out]; obtain ⟨hb1c, hb1f, hb1z⟩ := bcell hb1; (try simp at hb1z); (try have hb10 : w.heap.size < w1.heap.size := by omega); (try have hb11 : w.heap.size + 1 < w1.heap.size := by omega); (try have hb12 : w.heap.size + 2 < w1.heap.size := by omega))
    go_ret
    exact ⟨by simp [anyB, H1.out], below_step (by repeat (first | (with_reducible exact (Below.refl _ _)) | (with_reducible apply below_alloc) | (with_reducible apply pw_below_drewN) | (with_reducible apply below_drew1) | with_reducible refine below_set ?_ (by first | (with_reducible exact Nat.le_refl _) | (with_reducible assumption) | (simp; done) | omega | (simp; omega)))) hb1⟩
abbrev vS (l : List UInt8) : Value := .string ⟨l.toArray⟩
def dec2 (n : Nat) : List UInt8 := if n < 10 then [UInt8.ofNat (48 + n)] else [UInt8.ofNat (48 + n / 10), UInt8.ofNat (48 + n % 10)]
theorem dec2_eq (n : Nat) (h : n < 100) : Go.Lib.decDigits n = dec2 n := by
  unfold dec2
  by_cases h1 : n < 10
  · rw [if_pos h1, Go.Lib.decDigits, dif_pos h1]
  · rw [if_neg h1, Go.Lib.decDigits, dif_neg h1, Go.Lib.decDigits, dif_pos (by omega)]
    rfl
def endText (e : En) : List UInt8 := if anyB e then dec2 e.addr.toNat ++ 58 :: dec2 e.port.toNat else []
def allEnds : List En := ((List.range 3).flatMap fun a => (List.range 9).map fun p => ⟨1 + (a : Int), 1 + (p : Int)⟩) ++ ((List.range 3).flatMap fun a => (List.range 9).map fun p => ⟨4 + (a : Int), 1 + (p : Int)⟩) ++ ((List.range 8).map fun p => ⟨9, 10 + (p : Int)⟩)
theorem anyB_mem {e : En} (h : anyB e = true) : e ∈ allEnds := by
  obtain ⟨a, p⟩ := e
  simp only [anyB, insideB, outsideB, doorB, inB, Bool.or_eq_true, Bool.and_eq_true, decide_eq_true_eq, beq_iff_eq] at h
  unfold allEnds
  rcases h with (⟨⟨h1, h2⟩, h3, h4⟩ | ⟨⟨h1, h2⟩, h3, h4⟩) | ⟨h1, h3, h4⟩
  · refine List.mem_append_left _ (List.mem_append_left _ (List.mem_flatMap.2 ⟨(a - 1).toNat, List.mem_range.2 (by omega), List.mem_map.2 ⟨(p - 1).toNat, List.mem_range.2 (by omega), ?_⟩⟩))
    congr 1 <;> omega
  · refine List.mem_append_left _ (List.mem_append_right _ (List.mem_flatMap.2 ⟨(a - 4).toNat, List.mem_range.2 (by omega), List.mem_map.2 ⟨(p - 1).toNat, List.mem_range.2 (by omega), ?_⟩⟩))
    congr 1 <;> omega
  · refine List.mem_append_right _ (List.mem_map.2 ⟨(p - 10).toNat, List.mem_range.2 (by omega), ?_⟩)
    congr 1 <;> omega
def digI (b : UInt8) : Int := if b.toNat < 48 ∨ 57 < b.toNat then -1 else (b.toNat : Int) - 48
def readE (l : List UInt8) : En := ⟨digI (l.getD 0 0), (l.drop 2).foldl (fun n b => 10 * n + digI b) 0⟩
def endRead (l : List UInt8) : Option En := if anyB (readE l) && decide (endText (readE l) = l) then some (readE l) else none
theorem readE_text : ∀ e ∈ allEnds, readE (endText e) = e := by decide +kernel
theorem endRead_of {e : En} (h : anyB e = true) : endRead (endText e) = some e := by
  unfold endRead
  rw [readE_text e (anyB_mem h), h]
  simp
theorem endRead_some {l : List UInt8} {e : En} (h : endRead l = some e) : anyB e = true ∧ endText e = l := by
  unfold endRead at h
  split at h
  · rename_i h2
    injection h with h3
    simp only [Bool.and_eq_true, decide_eq_true_eq] at h2
    rw [h3] at h2
    exact h2
  · cases h
theorem endRead_none {l : List UInt8} (h : ∀ e, anyB e = true → endText e ≠ l) : endRead l = none := by
  cases he : endRead l with
  | none => rfl
  | some e => exact absurd (endRead_some he).2 (h e (endRead_some he).1)
end Go.Proofs.YtfjbjiklohjodaaGreatDoor.Z
namespace Go.Proofs.YtfjbjiklohjodaaGreatDoor.Z
open Go.RowKit Go.Proofs.YtfjbjiklohjodaaGreatDoorW.PrintWords Go.Proofs.YtfjbjiklohjodaaGreatDoorW.PrintLast
set_option linter.unusedVariables false
def lst (n : Nat) (dn : List Nat) : List Bool := (List.range n).map (fun i => dn.contains i)
def Lin (P : Program) (ops : Array Oper) (Q : Exit → Act → World → Prop) (S : World → Prop) (T : Bool × List (List Nat × List Nat)) (n : Nat) (dn todo : List Nat) (a : Act) (w : World) : Prop :=
  Aside0 (rtab .any ops = T) → S w → wpAnyLast P .any ops Q S [] todo.length (lst n dn).toArray a w
section
variable {P : Program} {ops : Array Oper} {Q : Exit → Act → World → Prop} {S : World → Prop} {T : Bool × List (List Nat × List Nat)} {n : Nat} {dn rest : List Nat} {i : Nat} {oi : Oper} {N : Option Tmp} {a : Act} {w : World}
theorem lin_start {id : Nat} (S : World → Prop) (T : Bool × List (List Nat × List Nat)) (ord : List Nat) (hm : P.follows .mixedOrders = true) (hT : rtab .any ops = T) (hn : (ops.size == ord.length) = true) (hS : S w.drew)
    (h : Lin P ops Q S T ord.length [] ord a w.drew) : (Code.region id ops true).wp P Q a w := by
  have hn' : ops.size = ord.length := by simpa using hn
  refine start_ (n := ord.length) (S := S) (ds := []) ((lst ord.length []).toArray) hm hn' ?_ hS (fun hS => h ⟨hT⟩ hS)
  apply Array.ext'
  simp [lst, List.map_const']
theorem lin_take {v : Value} {a' : Act} (hi : ops[i]? = some oi) (hN : oi.dst = N) (hc : takeT T [] (lst n dn) (lst n (i :: dn)) i = true)
    (hQ : ∀ c a w, Q (.panic c) (a.put oi.dst v) w → Q (.panic c) a w) (hw : Region.wanted oi (yielded ops a.tmps) = true) (hy : ∀ w, S w → (execOp a.eval oi).run P w = .ok (.value v) w) (ha : a.put N v = a')
    (h : Lin P ops Q S T n (i :: dn) rest a' w) : Lin P ops Q S T n dn (i :: rest) a w :=
  fun hT hS => take_ (lst n (i :: dn)).toArray hi hN (take_of hT.out (by simpa using hc)) hQ (.inl ⟨hw, hy⟩) hS ha (h hT hS)
theorem lin_off {a' : Act} (hi : ops[i]? = some oi) (hN : oi.dst = N) (hc : takeT T [] (lst n dn) (lst n (i :: dn)) i = true)
    (hQ : ∀ c a w, Q (.panic c) (a.put oi.dst undef) w → Q (.panic c) a w) (hw : Region.wanted oi (yielded ops a.tmps) = false) (ha : a.put N undef = a')
    (h : Lin P ops Q S T n (i :: dn) rest a' w) : Lin P ops Q S T n dn (i :: rest) a w :=
  fun hT hS => take_ (lst n (i :: dn)).toArray hi hN (take_of hT.out (by simpa using hc)) hQ (.inr ⟨hw, rfl⟩) hS ha (h hT hS)
theorem lin_one (hi : ops[i]? = some oi) (hN : oi.dst = N) (hc : (readyT T.2 (lst n dn) == [i] && (lst n dn).set i true == lst n (i :: dn)) = true)
    (h : S w → ∀ K : Act → World → Prop, Shut (∀ a' w', S w' → Lin P ops Q S T n (i :: dn) rest a' w' → K a' w') → if Region.wanted oi (yielded ops a.tmps) = true then Oper.wp P oi a w K Q else K (a.put N undef) w) :
    Lin P ops Q S T n dn (i :: rest) a w :=
  fun hT hS => one_ (lst n (i :: dn)).toArray hi hN (one_of hT.out (by simpa using hc)) (by simp) (fun K hK => h hS K (fun a' w' h1 h2 => hK.out a' w' h1 (fun h3 => h2 hT h3)))
theorem lin_call {f : FuncId} {fn : Func} {xs : Array Operand} {ts : Array TypeId} {args : Array Value} (hi : ops[i]? = some oi) (hop : oi.op = .call { callee := .value (.func f), args := xs, argTypes := ts }) (hN : oi.dst = N) (hf : P.funcs[f]? = some fn)
    (hc : (readyT T.2 (lst n dn) == [i] && (lst n dn).set i true == lst n (i :: dn)) = true) (hname : (fn.name == "runtime.NumGoroutine") = false) (hb : fn.body.isSome = true)
    (hw : Region.wanted oi (yielded ops a.tmps) = true) (hargs : xs.map a.eval = args)
    (h : S w → Calls P f args w fun e w' => ∃ v, e = .returned v ∧ S w' ∧ Lin P ops Q S T n (i :: dn) rest (a.put N v) w') : Lin P ops Q S T n dn (i :: rest) a w :=
  lin_one hi hN hc (fun hS K hK => goes_ hf hname hb args hw hN hop hargs ((h hS).mono fun e w' ⟨v, he, h1, h2⟩ => ⟨v, he, hK.out _ _ h1 h2⟩))
theorem lin_two {j : Nat} {oj : Oper} {Nj : Option Tmp} {rest' : List Nat} (hi : ops[i]? = some oi) (hj : ops[j]? = some oj) (hN : oi.dst = N) (hNj : oj.dst = Nj)
    (hc : (readyT T.2 (lst n dn) == [i, j] && (lst n dn).set i true == lst n (i :: dn) && (lst n dn).set j true == lst n (j :: dn)) = true) (hlen : rest'.length = rest.length)
    (h1 : S w → ∀ K : Act → World → Prop, Shut (∀ a' w', S w' → Lin P ops Q S T n (i :: dn) rest a' w' → K a' w') → if Region.wanted oi (yielded ops a.tmps) = true then Oper.wp P oi a w K Q else K (a.put N undef) w)
    (h2 : S w → ∀ K : Act → World → Prop, Shut (∀ a' w', S w' → Lin P ops Q S T n (j :: dn) rest' a' w' → K a' w') → if Region.wanted oj (yielded ops a.tmps) = true then Oper.wp P oj a w K Q else K (a.put Nj undef) w) :
    Lin P ops Q S T n dn (i :: rest) a w :=
  fun hT hS => two_ (lst n (i :: dn)).toArray (lst n (j :: dn)).toArray hi hj hN hNj (two_of hT.out (by simpa using hc)) (by simp) (by simp)
    (fun K hK => h1 hS K (fun a' w' hw hl => hK.out a' w' hw (fun h3 => hl hT h3)))
    (fun K hK => h2 hS K (fun a' w' hw hl => hK.out a' w' hw (fun h3 => by have := hl hT h3; rwa [hlen] at this)))
theorem step_value {K : Act → World → Prop} {w1 : World} {v : Value} (hw : Region.wanted oi (yielded ops a.tmps) = true) (hN : oi.dst = N) (hrun : (execOp a.eval oi).run P w = .ok (.value v) w1) (h : K (a.put N v) w1) :
    if Region.wanted oi (yielded ops a.tmps) = true then Oper.wp P oi a w K Q else K (a.put N undef) w := by
  subst hN
  exact event_step hw hrun h
theorem step_call {K : Act → World → Prop} {f : FuncId} {fn : Func} {xs : Array Operand} {ts : Array TypeId} {args : Array Value} (hw : Region.wanted oi (yielded ops a.tmps) = true) (hN : oi.dst = N) (hop : oi.op = .call { callee := .value (.func f), args := xs, argTypes := ts }) (hf : P.funcs[f]? = some fn)
    (hname : (fn.name == "runtime.NumGoroutine") = false) (hb : fn.body.isSome = true) (hargs : xs.map a.eval = args) (h : Calls P f args w fun e w' => ∃ v, e = .returned v ∧ K (a.put N v) w') :
    if Region.wanted oi (yielded ops a.tmps) = true then Oper.wp P oi a w K Q else K (a.put N undef) w :=
  goes_ hf hname hb args hw hN hop hargs h
theorem lin_event {v : Value} {a' : Act} {w1 : World} (hi : ops[i]? = some oi) (hN : oi.dst = N) (hc : (readyT T.2 (lst n dn) == [i] && (lst n dn).set i true == lst n (i :: dn)) = true)
    (hw : Region.wanted oi (yielded ops a.tmps) = true) (hrun : S w → (execOp a.eval oi).run P w = .ok (.value v) w1) (hS : S w → S w1) (ha : a.put N v = a') (h : Lin P ops Q S T n (i :: dn) rest a' w1) : Lin P ops Q S T n dn (i :: rest) a w := by
  subst ha
  subst hN
  exact lin_one hi rfl hc (fun hs K hK => event_step hw (hrun hs) (hK.out _ _ (hS hs) h))
theorem lin_skip {w1 : World} (hi : ops[i]? = some oi) (hN : oi.dst = none) (hc : (readyT T.2 (lst n dn) == [i] && (lst n dn).set i true == lst n (i :: dn)) = true)
    (hw : Region.wanted oi (yielded ops a.tmps) = true) (hrun : S w → (execOp a.eval oi).run P w = .ok .skip w1) (hS : S w → S w1) (h : Lin P ops Q S T n (i :: dn) rest a w1) : Lin P ops Q S T n dn (i :: rest) a w := by
  refine lin_one hi hN hc (fun hs K hK => ?_)
  rw [if_pos hw]
  unfold Oper.wp
  rw [hrun hs]
  show K (a.put oi.dst undef) w1
  rw [hN]
  exact hK.out _ _ (hS hs) h
theorem lin_norm {a' : Act} {todo : List Nat} (ha : a = a') (h : Lin P ops Q S T n dn todo a' w) : Lin P ops Q S T n dn todo a w := by
  subst ha
  exact h
theorem lin_done (hc : (readyT T.2 (lst n dn) == []) = true) (h : Q .normal a w) : Lin P ops Q S T n dn [] a w :=
  fun hT _ => done_ (done_of hT.out (by simpa using hc)) h
end
end Go.Proofs.YtfjbjiklohjodaaGreatDoor.Z
namespace Go.Proofs
open Go.Shelf
def Tryz.lays156_ren : Go.Shelf.Ren := ⟨fun | 156 => 83 | 165 => 138 | 166 => 134 | 169 => 135 | 240 => 173 | 241 => 177 | 276 => 189 | 277 => 190 | n => n, fun | 31 => 122 | 9 => 9 | 3 => 3 | 4 => 4 | 0 => 0 | 20 => 20 | 72 => 173 | 76 => 176 | 70 => 171 | 37 => 22 | 75 => 175 | 127 => 213 | 164 => 221 | 5 => 5 | 80 => 121 | n => n, fun | n => n⟩
theorem Tryz.lays156 : Go.Proofs.Lays.n156 Tryz.prog Tryz.lays156_ren := {
  mixed := by kernel_rfl
  f156 := Tryz.func83.trans (congrArg some (by kernel_rfl))
  f165 := Tryz.func138.trans (congrArg some (by kernel_rfl))
  f166 := Tryz.func134.trans (congrArg some (by kernel_rfl))
  f169 := Tryz.func135.trans (congrArg some (by kernel_rfl))
  f240 := Tryz.func173.trans (congrArg some (by kernel_rfl))
  f241 := Tryz.func177.trans (congrArg some (by kernel_rfl))
  f276 := Tryz.func189.trans (congrArg some (by kernel_rfl))
  f277 := Tryz.func190.trans (congrArg some (by kernel_rfl))
  t0 := Tryz.underlying0
  a0 := Tryz.isAgg0
  z0 := Tryz.sizeOf0
  v0 := Tryz.zeroValue0
  t3 := Tryz.underlying3
  a3 := Tryz.isAgg3
  z3 := Tryz.sizeOf3
  v3 := Tryz.zeroValue3
  t4 := Tryz.underlying4
  a4 := Tryz.isAgg4
  z4 := Tryz.sizeOf4
  v4 := Tryz.zeroValue4
  t9 := Tryz.underlying9
  a9 := Tryz.isAgg9
  z9 := Tryz.sizeOf9
  v9 := Tryz.zeroValue9
  t20 := Tryz.underlying20
  a20 := Tryz.isAgg20
  z20 := Tryz.sizeOf20
  v20 := Tryz.zeroValue20
  t31 := Tryz.underlying122
  a31 := Tryz.isAgg122
  z31 := Tryz.sizeOf122
  v31 := Tryz.zeroValue122
  t37 := Tryz.underlying22
  a37 := Tryz.isAgg22
  z37 := Tryz.sizeOf22
  v37 := Tryz.zeroValue22
  t70 := Tryz.underlying171
  a70 := Tryz.isAgg171
  z70 := Tryz.sizeOf171
  v70 := Tryz.zeroValue171
  t72 := Tryz.underlying173
  a72 := Tryz.isAgg173
  z72 := Tryz.sizeOf173
  v72 := Tryz.zeroValue173
  t75 := Tryz.underlying175
  a75 := Tryz.isAgg175
  z75 := Tryz.sizeOf175
  v75 := Tryz.zeroValue175
  t76 := Tryz.underlying176
  a76 := Tryz.isAgg176
  z76 := Tryz.sizeOf176
  v76 := Tryz.zeroValue176
  t127 := Tryz.underlying213
  a127 := Tryz.isAgg213
  z127 := Tryz.sizeOf213
  v127 := Tryz.zeroValue213
  t164 := Tryz.underlying221
  a164 := Tryz.isAgg221
  z164 := Tryz.sizeOf221
  v164 := Tryz.zeroValue221 }
theorem Tryz.Builder_Extra_156 : Builder.Extra Tryz.prog Tryz.lays156_ren := {
  sizeBuilder := by kernel_rfl
  liesBuilder := by kernel_rfl
  t5 := Tryz.underlying5
  a5 := Tryz.isAgg5
  z5 := Tryz.sizeOf5
  v5 := Tryz.zeroValue5
  infoByte := by kernel_rfl
  cellsByte := by kernel_rfl
  sizeByte := by kernel_rfl
  neB5 := by decide }
open Go.RowKit in
theorem Tryz.strings_Join_none (a : Option Addr) (c : Nat) (sep : ByteArray) (w : World) :
    Calls Tryz.prog 83 #[.slice a 0 c, .string sep] w fun e w' => e = .returned (.string ⟨#[]⟩) ∧ w' = w := Any.strings_Join_none Tryz.lays156 Tryz.Builder_Extra_156 a c sep w
open Go.RowKit in
theorem Tryz.strings_Join (bk o c : Nat) (xs : List ByteArray) (sep : ByteArray) (w : World) (hcells : ∀ (j : Nat) x, xs[j]? = some x → w.cell? ⟨bk, o + j, none⟩ = some (.string x)) (hbk : bk < w.heap.size) (hN : xs.length ≤ 140737488355328) (hcap : xs.length ≤ c) (hlen : (Lib.join (xs.map (·.data.toList)) sep.data.toList).length ≤ 140737488355328) :
    Calls Tryz.prog 83 #[.slice (some ⟨bk, o, none⟩) xs.length c, .string sep] w fun e w' => e = .returned (.string ⟨(Lib.join (xs.map (·.data.toList)) sep.data.toList).toArray⟩) ∧ Below w.heap.size w w' := Any.strings_Join Tryz.lays156 Tryz.Builder_Extra_156 bk o c xs sep w hcells hbk hN hcap hlen
def Tryz.lays103_ren : Go.Shelf.Ren := ⟨fun | 103 => 170 | 210 => 185 | 206 => 192 | n => n, fun | 9 => 9 | 4 => 4 | 24 => 165 | 3 => 3 | n => n, fun | n => n⟩
theorem Tryz.lays103 : Go.Proofs.Lays.n103 Tryz.prog Tryz.lays103_ren := {
  mixed := by kernel_rfl
  f103 := Tryz.func170.trans (congrArg some (by kernel_rfl))
  f206 := Tryz.func192.trans (congrArg some (by kernel_rfl))
  f210 := Tryz.func185.trans (congrArg some (by kernel_rfl))
  t3 := Tryz.underlying3
  a3 := Tryz.isAgg3
  z3 := Tryz.sizeOf3
  v3 := Tryz.zeroValue3
  t4 := Tryz.underlying4
  a4 := Tryz.isAgg4
  z4 := Tryz.sizeOf4
  v4 := Tryz.zeroValue4
  t9 := Tryz.underlying9
  a9 := Tryz.isAgg9
  z9 := Tryz.sizeOf9
  v9 := Tryz.zeroValue9
  t24 := Tryz.underlying165
  a24 := Tryz.isAgg165
  z24 := Tryz.sizeOf165
  v24 := Tryz.zeroValue165 }
open Go.RowKit in
theorem Tryz.strings_CutPrefix (s p : ByteArray) (w : World) :
    Calls Tryz.prog 170 #[.string s, .string p] w fun e w' => e = .returned (.tuple #[.string ⟨(Lib.trimPrefix s.data.toList p.data.toList).toArray⟩, .bool (Lib.hasPrefix s.data.toList p.data.toList)]) ∧ w' = w := Any.strings_CutPrefix Tryz.lays103 s p w
def Tryz.lays171_ren : Go.Shelf.Ren := ⟨fun | 171 => 195 | 243 => 199 | 246 => 209 | 283 => 214 | 284 => 215 | 285 => 216 | 286 => 217 | 129 => 221 | 317 => 220 | 318 => 222 | 319 => 223 | 320 => 224 | 337 => 225 | 338 => 226 | n => n, fun | 3 => 3 | 9 => 9 | 2 => 2 | 4 => 4 | 171 => 245 | 0 => 0 | 53 => 239 | 37 => 22 | 5 => 5 | 173 => 248 | 212 => 255 | 51 => 236 | 20 => 20 | 213 => 256 | 46 => 228 | 232 => 260 | 233 => 261 | n => n, fun | 17 => 3 | 18 => 4 | 19 => 5 | n => n⟩
theorem Tryz.lays171 : Go.Proofs.Lays.n171 Tryz.prog Tryz.lays171_ren := {
  mixed := by kernel_rfl
  f129 := Tryz.func221.trans (congrArg some (by kernel_rfl))
  f171 := Tryz.func195.trans (congrArg some (by kernel_rfl))
  f243 := Tryz.func199.trans (congrArg some (by kernel_rfl))
  f246 := Tryz.func209.trans (congrArg some (by kernel_rfl))
  f283 := Tryz.func214.trans (congrArg some (by kernel_rfl))
  f284 := Tryz.func215.trans (congrArg some (by kernel_rfl))
  f285 := Tryz.func216.trans (congrArg some (by kernel_rfl))
  f286 := Tryz.func217.trans (congrArg some (by kernel_rfl))
  f317 := Tryz.func220.trans (congrArg some (by kernel_rfl))
  f318 := Tryz.func222.trans (congrArg some (by kernel_rfl))
  f319 := Tryz.func223.trans (congrArg some (by kernel_rfl))
  f320 := Tryz.func224.trans (congrArg some (by kernel_rfl))
  f337 := Tryz.func225.trans (congrArg some (by kernel_rfl))
  f338 := Tryz.func226.trans (congrArg some (by kernel_rfl))
  t0 := Tryz.underlying0
  a0 := Tryz.isAgg0
  z0 := Tryz.sizeOf0
  v0 := Tryz.zeroValue0
  t2 := Tryz.underlying2
  a2 := Tryz.isAgg2
  z2 := Tryz.sizeOf2
  v2 := Tryz.zeroValue2
  t3 := Tryz.underlying3
  a3 := Tryz.isAgg3
  z3 := Tryz.sizeOf3
  v3 := Tryz.zeroValue3
  t4 := Tryz.underlying4
  a4 := Tryz.isAgg4
  z4 := Tryz.sizeOf4
  v4 := Tryz.zeroValue4
  t5 := Tryz.underlying5
  a5 := Tryz.isAgg5
  z5 := Tryz.sizeOf5
  v5 := Tryz.zeroValue5
  t9 := Tryz.underlying9
  a9 := Tryz.isAgg9
  z9 := Tryz.sizeOf9
  v9 := Tryz.zeroValue9
  t20 := Tryz.underlying20
  a20 := Tryz.isAgg20
  z20 := Tryz.sizeOf20
  v20 := Tryz.zeroValue20
  t37 := Tryz.underlying22
  a37 := Tryz.isAgg22
  z37 := Tryz.sizeOf22
  v37 := Tryz.zeroValue22
  t46 := Tryz.underlying228
  a46 := Tryz.isAgg228
  z46 := Tryz.sizeOf228
  v46 := Tryz.zeroValue228
  t51 := Tryz.underlying236
  a51 := Tryz.isAgg236
  z51 := Tryz.sizeOf236
  v51 := Tryz.zeroValue236
  t53 := Tryz.underlying239
  a53 := Tryz.isAgg239
  z53 := Tryz.sizeOf239
  v53 := Tryz.zeroValue239
  t171 := Tryz.underlying245
  a171 := Tryz.isAgg245
  z171 := Tryz.sizeOf245
  v171 := Tryz.zeroValue245
  t173 := Tryz.underlying248
  a173 := Tryz.isAgg248
  z173 := Tryz.sizeOf248
  v173 := Tryz.zeroValue248
  t212 := Tryz.underlying255
  a212 := Tryz.isAgg255
  z212 := Tryz.sizeOf255
  v212 := Tryz.zeroValue255
  t213 := Tryz.underlying256
  a213 := Tryz.isAgg256
  z213 := Tryz.sizeOf256
  t232 := Tryz.underlying260
  a232 := Tryz.isAgg260
  z232 := Tryz.sizeOf260
  v232 := Tryz.zeroValue260
  t233 := Tryz.underlying261
  a233 := Tryz.isAgg261
  z233 := Tryz.sizeOf261
  v233 := Tryz.zeroValue261
  g17 := by kernel_rfl
  g18 := by kernel_rfl
  g19 := by kernel_rfl }
open Go.RowKit Go.Sort Go.Lib in
theorem Tryz.strconv_Itoa_small (i : Nat) (hi : i < 100) (w : World) :
    Calls Tryz.prog 195 #[.int .i64 i] w fun e w' => e = .returned (.string ⟨(Lib.decDigits i).toArray⟩) ∧ w' = w := Any.strconv_Itoa_small Tryz.lays171 i hi w
def Tryz.laysM316_ren : Go.Shelf.Ren := ⟨fun | 316 => 176 | n => n, fun | 9 => 9 | 3 => 3 | 4 => 4 | 37 => 22 | 0 => 0 | 127 => 213 | 5 => 5 | n => n, fun | n => n⟩
theorem Tryz.laysM316 : Go.Proofs.LaysM.n316 Tryz.prog Tryz.laysM316_ren := {
  mixed := by kernel_rfl
  f316 := Tryz.func176.trans (congrArg some (by kernel_rfl))
  t0 := Tryz.underlying0
  a0 := Tryz.isAgg0
  z0 := Tryz.sizeOf0
  v0 := Tryz.zeroValue0
  t3 := Tryz.underlying3
  a3 := Tryz.isAgg3
  z3 := Tryz.sizeOf3
  v3 := Tryz.zeroValue3
  t4 := Tryz.underlying4
  a4 := Tryz.isAgg4
  z4 := Tryz.sizeOf4
  v4 := Tryz.zeroValue4
  t9 := Tryz.underlying9
  a9 := Tryz.isAgg9
  z9 := Tryz.sizeOf9
  v9 := Tryz.zeroValue9
  t37 := Tryz.underlying22
  a37 := Tryz.isAgg22
  z37 := Tryz.sizeOf22
  v37 := Tryz.zeroValue22
  t127 := Tryz.underlying213
  a127 := Tryz.isAgg213
  z127 := Tryz.sizeOf213
  v127 := Tryz.zeroValue213
  t5 := Tryz.underlying5
  a5 := Tryz.isAgg5
  z5 := Tryz.sizeOf5
  v5 := Tryz.zeroValue5
  i0 := by kernel_rfl
  i3 := by kernel_rfl
  i4 := by kernel_rfl
  i5 := by kernel_rfl
  i9 := by kernel_rfl
  i37 := by kernel_rfl
  i127 := by kernel_rfl }
open Go.RowKit in
theorem Tryz.stringslite_Clone (s : ByteArray) (w : World) (hlim : s.size ≤ 281474976710656) :
    Calls Tryz.prog 176 #[.string s] w fun e w' => e = .returned (.string s) ∧ Below w.heap.size w w' := Any.stringslite_Clone Tryz.laysM316 s w hlim
def Tryz.laysC172_ren : Go.Shelf.Ren := ⟨fun | 172 => 194 | 244 => 197 | 245 => 198 | 247 => 204 | 279 => 205 | 280 => 206 | 281 => 207 | 282 => 208 | 287 => 212 | 316 => 176 | 171 => 195 | 205 => 213 | 321 => 218 | 322 => 219 | 243 => 199 | 246 => 209 | 283 => 214 | 284 => 215 | 285 => 216 | 286 => 217 | 129 => 221 | 317 => 220 | 318 => 222 | 319 => 223 | 320 => 224 | 337 => 225 | 338 => 226 | n => n, fun | 9 => 9 | 3 => 3 | 75 => 175 | 76 => 176 | 4 => 4 | 5 => 5 | 167 => 229 | 37 => 22 | 0 => 0 | 85 => 230 | 2 => 2 | 168 => 232 | 53 => 239 | 175 => 240 | 46 => 228 | 210 => 243 | 127 => 213 | 145 => 253 | 143 => 251 | 21 => 21 | 171 => 245 | 173 => 248 | 212 => 255 | 51 => 236 | 20 => 20 | 213 => 256 | 232 => 260 | 233 => 261 | 80 => 121 | n => n, fun | 15 => 1 | 16 => 2 | 17 => 3 | 18 => 4 | 19 => 5 | n => n⟩
theorem Tryz.laysC172 : Go.Proofs.LaysC.n172 Tryz.prog Tryz.laysC172_ren := {
  mixed := by kernel_rfl
  f129 := Tryz.func221.trans (congrArg some (by kernel_rfl))
  f171 := Tryz.func195.trans (congrArg some (by kernel_rfl))
  f172 := Tryz.func194.trans (congrArg some (by kernel_rfl))
  f205 := Tryz.func213.trans (congrArg some (by kernel_rfl))
  f243 := Tryz.func199.trans (congrArg some (by kernel_rfl))
  f244 := Tryz.func197.trans (congrArg some (by kernel_rfl))
  f245 := Tryz.func198.trans (congrArg some (by kernel_rfl))
  f246 := Tryz.func209.trans (congrArg some (by kernel_rfl))
  f247 := Tryz.func204.trans (congrArg some (by kernel_rfl))
  f279 := Tryz.func205.trans (congrArg some (by kernel_rfl))
  f280 := Tryz.func206.trans (congrArg some (by kernel_rfl))
  f281 := Tryz.func207.trans (congrArg some (by kernel_rfl))
  f282 := Tryz.func208.trans (congrArg some (by kernel_rfl))
  f283 := Tryz.func214.trans (congrArg some (by kernel_rfl))
  f284 := Tryz.func215.trans (congrArg some (by kernel_rfl))
  f285 := Tryz.func216.trans (congrArg some (by kernel_rfl))
  f286 := Tryz.func217.trans (congrArg some (by kernel_rfl))
  f287 := Tryz.func212.trans (congrArg some (by kernel_rfl))
  f316 := Tryz.func176.trans (congrArg some (by kernel_rfl))
  f317 := Tryz.func220.trans (congrArg some (by kernel_rfl))
  f318 := Tryz.func222.trans (congrArg some (by kernel_rfl))
  f319 := Tryz.func223.trans (congrArg some (by kernel_rfl))
  f320 := Tryz.func224.trans (congrArg some (by kernel_rfl))
  f321 := Tryz.func218.trans (congrArg some (by kernel_rfl))
  f322 := Tryz.func219.trans (congrArg some (by kernel_rfl))
  f337 := Tryz.func225.trans (congrArg some (by kernel_rfl))
  f338 := Tryz.func226.trans (congrArg some (by kernel_rfl))
  t0 := Tryz.underlying0
  a0 := Tryz.isAgg0
  z0 := Tryz.sizeOf0
  v0 := Tryz.zeroValue0
  t2 := Tryz.underlying2
  a2 := Tryz.isAgg2
  z2 := Tryz.sizeOf2
  v2 := Tryz.zeroValue2
  t3 := Tryz.underlying3
  a3 := Tryz.isAgg3
  z3 := Tryz.sizeOf3
  v3 := Tryz.zeroValue3
  t4 := Tryz.underlying4
  a4 := Tryz.isAgg4
  z4 := Tryz.sizeOf4
  v4 := Tryz.zeroValue4
  t5 := Tryz.underlying5
  a5 := Tryz.isAgg5
  z5 := Tryz.sizeOf5
  v5 := Tryz.zeroValue5
  t9 := Tryz.underlying9
  a9 := Tryz.isAgg9
  z9 := Tryz.sizeOf9
  v9 := Tryz.zeroValue9
  t20 := Tryz.underlying20
  a20 := Tryz.isAgg20
  z20 := Tryz.sizeOf20
  v20 := Tryz.zeroValue20
  t21 := Tryz.underlying21
  a21 := Tryz.isAgg21
  z21 := Tryz.sizeOf21
  v21 := Tryz.zeroValue21
  t37 := Tryz.underlying22
  a37 := Tryz.isAgg22
  z37 := Tryz.sizeOf22
  v37 := Tryz.zeroValue22
  t46 := Tryz.underlying228
  a46 := Tryz.isAgg228
  z46 := Tryz.sizeOf228
  v46 := Tryz.zeroValue228
  t51 := Tryz.underlying236
  a51 := Tryz.isAgg236
  z51 := Tryz.sizeOf236
  v51 := Tryz.zeroValue236
  t53 := Tryz.underlying239
  a53 := Tryz.isAgg239
  z53 := Tryz.sizeOf239
  v53 := Tryz.zeroValue239
  t75 := Tryz.underlying175
  a75 := Tryz.isAgg175
  z75 := Tryz.sizeOf175
  v75 := Tryz.zeroValue175
  t76 := Tryz.underlying176
  a76 := Tryz.isAgg176
  z76 := Tryz.sizeOf176
  v76 := Tryz.zeroValue176
  t85 := Tryz.underlying230
  a85 := Tryz.isAgg230
  z85 := Tryz.sizeOf230
  v85 := Tryz.zeroValue230
  t127 := Tryz.underlying213
  a127 := Tryz.isAgg213
  z127 := Tryz.sizeOf213
  v127 := Tryz.zeroValue213
  t143 := Tryz.underlying251
  a143 := Tryz.isAgg251
  z143 := Tryz.sizeOf251
  v143 := Tryz.zeroValue251
  t145 := Tryz.underlying253
  a145 := Tryz.isAgg253
  z145 := Tryz.sizeOf253
  v145 := Tryz.zeroValue253
  t167 := Tryz.underlying229
  a167 := Tryz.isAgg229
  z167 := Tryz.sizeOf229
  v167 := Tryz.zeroValue229
  t168 := Tryz.underlying232
  a168 := Tryz.isAgg232
  z168 := Tryz.sizeOf232
  v168 := Tryz.zeroValue232
  t171 := Tryz.underlying245
  a171 := Tryz.isAgg245
  z171 := Tryz.sizeOf245
  v171 := Tryz.zeroValue245
  t173 := Tryz.underlying248
  a173 := Tryz.isAgg248
  z173 := Tryz.sizeOf248
  v173 := Tryz.zeroValue248
  t175 := Tryz.underlying240
  a175 := Tryz.isAgg240
  z175 := Tryz.sizeOf240
  v175 := Tryz.zeroValue240
  t210 := Tryz.underlying243
  a210 := Tryz.isAgg243
  z210 := Tryz.sizeOf243
  v210 := Tryz.zeroValue243
  t212 := Tryz.underlying255
  a212 := Tryz.isAgg255
  z212 := Tryz.sizeOf255
  v212 := Tryz.zeroValue255
  t213 := Tryz.underlying256
  a213 := Tryz.isAgg256
  z213 := Tryz.sizeOf256
  t232 := Tryz.underlying260
  a232 := Tryz.isAgg260
  z232 := Tryz.sizeOf260
  v232 := Tryz.zeroValue260
  t233 := Tryz.underlying261
  a233 := Tryz.isAgg261
  z233 := Tryz.sizeOf261
  v233 := Tryz.zeroValue261
  g15 := by kernel_rfl
  g16 := by kernel_rfl
  g17 := by kernel_rfl
  g18 := by kernel_rfl
  g19 := by kernel_rfl
  t80 := Tryz.underlying121
  a80 := Tryz.isAgg121
  z80 := Tryz.sizeOf121
  v80 := Tryz.zeroValue121
  i0 := by kernel_rfl
  i2 := by kernel_rfl
  i3 := by kernel_rfl
  i4 := by kernel_rfl
  i5 := by kernel_rfl
  i9 := by kernel_rfl
  i20 := by kernel_rfl
  i21 := by kernel_rfl
  i37 := by kernel_rfl
  i46 := by kernel_rfl
  i51 := by kernel_rfl
  i53 := by kernel_rfl
  i75 := by kernel_rfl
  i76 := by kernel_rfl
  i80 := by kernel_rfl
  i85 := by kernel_rfl
  i127 := by kernel_rfl
  i143 := by kernel_rfl
  i145 := by kernel_rfl
  i167 := by kernel_rfl
  i168 := by kernel_rfl
  i171 := by kernel_rfl
  i173 := by kernel_rfl
  i175 := by kernel_rfl
  i210 := by kernel_rfl
  i212 := by kernel_rfl
  i232 := by kernel_rfl
  i233 := by kernel_rfl
  m15 := by kernel_rfl
  m16 := by kernel_rfl
  m17 := by kernel_rfl
  m18 := by kernel_rfl
  m19 := by kernel_rfl
  c0 := by kernel_rfl
  c2 := by kernel_rfl
  c3 := by kernel_rfl
  c4 := by kernel_rfl
  c5 := by kernel_rfl
  c9 := by kernel_rfl
  c20 := by kernel_rfl
  c21 := by kernel_rfl
  c37 := by kernel_rfl
  c46 := by kernel_rfl
  c51 := by kernel_rfl
  c53 := by kernel_rfl
  c75 := by kernel_rfl
  c76 := by kernel_rfl
  c80 := by kernel_rfl
  c85 := by kernel_rfl
  c127 := by kernel_rfl
  c143 := by kernel_rfl
  c145 := by kernel_rfl
  c167 := by kernel_rfl
  c168 := by kernel_rfl
  c171 := by kernel_rfl
  c173 := by kernel_rfl
  c175 := by kernel_rfl
  c210 := by kernel_rfl
  c212 := by kernel_rfl
  c213 := by kernel_rfl
  c232 := by kernel_rfl
  c233 := by kernel_rfl }
open Go.RowKit in
theorem Tryz.strconv_Atoi_ok (s : ByteArray) (hmax : s.size ≤ 9223372036854775806) (v : Int) (h : Lib.atoiAll s.data.toList = .ok v) (w : World) :
    Calls Tryz.prog 194 #[.string s] w fun e w' => e = .returned (.tuple #[.int .i64 v, .nilIface]) ∧ (w' = w ∨ ∃ t, w' = Lib.bytesWorld w 5 t) := Any.strconv_Atoi_ok Tryz.laysC172 s hmax v h w
open Go.RowKit in
theorem Tryz.strconv_Atoi_syntax_var (s : ByteArray) (hlim : s.size ≤ 281474976710656) (h : Lib.atoiAll s.data.toList = Lib.atoiAll []) (tp : TypeId) (p : Value) (w : World) (hvar : w.var? Tryz.prog "strconv.ErrSyntax" = some #[.iface tp p]) :
    Calls Tryz.prog 194 #[.string s] w fun e w' => ∃ N, e = .returned (.tuple #[.int .i64 0, .iface 232 (.pointer (some ⟨N, 0, none⟩))]) ∧ w.heap.size ≤ N ∧ w'.heap[N]? = some (.cells #[.string ⟨#[65, 116, 111, 105]⟩, .string s, .iface tp p] 243 (0, 0)) ∧ Below w.heap.size w w' := Any.strconv_Atoi_syntax_var Tryz.laysC172 s hlim (h.trans rfl) tp p w hvar
open Go.RowKit in
theorem Tryz.strconv_Atoi_range_var (s : ByteArray) (hlim : s.size ≤ 281474976710656) (h : Lib.atoiAll s.data.toList = .range) (tp : TypeId) (p : Value) (w : World) (hvar : w.var? Tryz.prog "strconv.ErrRange" = some #[.iface tp p]) :
    Calls Tryz.prog 194 #[.string s] w fun e w' => ∃ N, e = .returned (.tuple #[.int .i64 (Lib.atoiSat s.data.toList), .iface 232 (.pointer (some ⟨N, 0, none⟩))]) ∧ w.heap.size ≤ N ∧ w'.heap[N]? = some (.cells #[.string ⟨#[65, 116, 111, 105]⟩, .string s, .iface tp p] 243 (0, 0)) ∧ Below w.heap.size w w' := Any.strconv_Atoi_range_var Tryz.laysC172 s hlim h tp p w hvar
def Tryz.lays145_ren : Go.Shelf.Ren := ⟨fun | 145 => 186 | 220 => 193 | 219 => 196 | 217 => 200 | 225 => 201 | 224 => 202 | 267 => 203 | 266 => 210 | 314 => 211 | n => n, fun | 9 => 9 | 4 => 4 | 59 => 219 | 3 => 3 | 5 => 5 | 46 => 228 | 146 => 237 | 51 => 236 | n => n, fun | 1 => 0 | n => n⟩
theorem Tryz.lays145 : Go.Proofs.Lays.n145 Tryz.prog Tryz.lays145_ren := {
  mixed := by kernel_rfl
  f145 := Tryz.func186.trans (congrArg some (by kernel_rfl))
  f217 := Tryz.func200.trans (congrArg some (by kernel_rfl))
  f219 := Tryz.func196.trans (congrArg some (by kernel_rfl))
  f220 := Tryz.func193.trans (congrArg some (by kernel_rfl))
  f224 := Tryz.func202.trans (congrArg some (by kernel_rfl))
  f225 := Tryz.func201.trans (congrArg some (by kernel_rfl))
  f266 := Tryz.func210.trans (congrArg some (by kernel_rfl))
  f267 := Tryz.func203.trans (congrArg some (by kernel_rfl))
  f314 := Tryz.func211.trans (congrArg some (by kernel_rfl))
  t3 := Tryz.underlying3
  a3 := Tryz.isAgg3
  z3 := Tryz.sizeOf3
  v3 := Tryz.zeroValue3
  t4 := Tryz.underlying4
  a4 := Tryz.isAgg4
  z4 := Tryz.sizeOf4
  v4 := Tryz.zeroValue4
  t5 := Tryz.underlying5
  a5 := Tryz.isAgg5
  z5 := Tryz.sizeOf5
  v5 := Tryz.zeroValue5
  t9 := Tryz.underlying9
  a9 := Tryz.isAgg9
  z9 := Tryz.sizeOf9
  v9 := Tryz.zeroValue9
  t46 := Tryz.underlying228
  a46 := Tryz.isAgg228
  z46 := Tryz.sizeOf228
  v46 := Tryz.zeroValue228
  t51 := Tryz.underlying236
  a51 := Tryz.isAgg236
  z51 := Tryz.sizeOf236
  v51 := Tryz.zeroValue236
  t59 := Tryz.underlying219
  a59 := Tryz.isAgg219
  z59 := Tryz.sizeOf219
  v59 := Tryz.zeroValue219
  t146 := Tryz.underlying237
  a146 := Tryz.isAgg237
  z146 := Tryz.sizeOf237
  v146 := Tryz.zeroValue237
  g1 := by kernel_rfl }
open Go.RowKit Go.Lib in
theorem Tryz.strings_Cut (s sep : ByteArray) (m : Int) (w : World) (hs : s.size < 4294967281) (hm : w.cell? ⟨0, 0, none⟩ = some (.int .i64 m)) :
    Calls Tryz.prog 186 #[.string s, .string sep] w fun e w' => e = .returned (.tuple #[.string ⟨(Lib.cut s.data.toList sep.data.toList).1.toArray⟩, .string ⟨(Lib.cut s.data.toList sep.data.toList).2.1.toArray⟩, .bool (Lib.cut s.data.toList sep.data.toList).2.2]) ∧ ∃ n, w' = w.drewN n := Any.strings_Cut Tryz.lays145 s sep m w hs hm
end Go.Proofs
namespace Go.Proofs.YtfjbjiklohjodaaGreatDoor.Z
open Go.RowKit Go.Proofs.YtfjbjiklohjodaaGreatDoorW.PrintWords Go.Proofs.YtfjbjiklohjodaaGreatDoorW.PrintLast
set_option linter.unusedVariables false
set_option linter.unusedSimpArgs false
attribute [local go_sem ↓] Go.wp_at_zero Go.wp_at_succ
theorem bytes_append (a b : List UInt8) : (⟨a.toArray⟩ : ByteArray) ++ ⟨b.toArray⟩ = ⟨(a ++ b).toArray⟩ := by
  apply ByteArray.ext
  simp [ByteArray.data_append]
attribute [local go_sem high] bytes_append
theorem dec2_len (n : Nat) : (dec2 n).length ≤ 2 := by unfold dec2; split <;> simp
theorem byte_at_ {w : World} (b : Nat) (n : Nat) (h : n < 10) (hc : w.cell? ⟨b, 0, none⟩ = some (.int .u8 (48 + (n : Int)))) :
    (convert 22 9 (.slice (some ⟨b, 0, none⟩) 1 1)).run Tryz.prog w = .ok (vS [UInt8.ofNat (48 + n)]) w := by
  have h1 := run_convert_bytes_arg (P := Tryz.prog) (w := w) 22 5 Tryz.underlying22 Tryz.underlying5 b 0 1 1 [48 + (n : Int)] rfl (fun i hi => by
    obtain rfl : i = 0 := by simpa using hi
    simpa using hc) 9 Tryz.underlying9
  rw [h1]
  congr 2
theorem one_byte (w : World) (n : Nat) (h : n < 10) :
    (convert 22 9 (.slice (some ⟨w.heap.size, 0, none⟩) 1 1)).run Tryz.prog (w.alloc (.cells #[.int .u8 (48 + (n : Int))] 5)) = .ok (vS [UInt8.ofNat (48 + n)]) (w.alloc (.cells #[.int .u8 (48 + (n : Int))] 5)) := by
  have h1 := run_convert_bytes_arg (P := Tryz.prog) (w := w.alloc (.cells #[.int .u8 (48 + (n : Int))] 5)) 22 5 Tryz.underlying22 Tryz.underlying5 w.heap.size 0 1 1 [48 + (n : Int)] rfl (fun i hi => by
    obtain rfl : i = 0 := by simpa using hi
    simp) 9 Tryz.underlying9
  rw [h1]
  congr 2
set_option maxRecDepth 100000 in
theorem spec_l6Dec1 (n : Nat) (h : n < 10) (w : World) :
    Calls Tryz.prog 165 #[.int .i64 n] w fun r w' => r = .returned (vS (dec2 n)) ∧ Below w.heap.size w w' := by
  have e0 : dec2 n = [UInt8.ofNat (48 + n)] := by unfold dec2; rw [if_pos h]
  have t1 : decide ((n : Int) < -9223372036854775807) = false := decide_eq_false (by omega)
  have t2 : decide ((n : Int) < 0) = false := decide_eq_false (by omega)
  have t3 : decide ((n : Int) < 10) = true := decide_eq_true (by omega)
  have hn : (n : Int) ≤ 9 := by omega
  have hb := one_byte w n h
  obtain ⟨l, hl⟩ : ∃ l, l = [UInt8.ofNat (48 + n)] := ⟨_, rfl⟩
  rw [← hl] at hb e0
  have HE := Aside0.mk e0; clear e0 h hl
  go_enter Tryz.func165, Tryz.ntmps165
  go_wp2
  go_ret
  exact ⟨by rw [HE.out]; rfl, (by repeat (first | (with_reducible exact (Below.refl _ _)) | (with_reducible apply below_alloc) | (with_reducible apply pw_below_drewN) | (with_reducible apply below_drew1) | with_reducible refine below_set ?_ (by first | (with_reducible exact Nat.le_refl _) | (with_reducible assumption) | (simp; done) | omega | (simp; omega))))⟩
set_option maxRecDepth 100000 in
set_option maxHeartbeats 1000000 in
theorem spec_l6Dec (n : Nat) (h : n < 100) (w : World) :
    Calls Tryz.prog 165 #[.int .i64 n] w fun r w' => r = .returned (vS (dec2 n)) ∧ Below w.heap.size w w' := by
  by_cases h10 : n < 10
  · exact spec_l6Dec1 n h10 w
  have e0 : dec2 n = [UInt8.ofNat (48 + n / 10)] ++ [UInt8.ofNat (48 + n % 10)] := by unfold dec2; rw [if_neg h10]; rfl
  have e1 : dec2 (n / 10) = [UInt8.ofNat (48 + n / 10)] := by unfold dec2; rw [if_pos (by omega)]
  have t1 : decide ((n : Int) < -9223372036854775807) = false := decide_eq_false (by omega)
  have t2 : decide ((n : Int) < 0) = false := decide_eq_false (by omega)
  have t3 : decide ((n : Int) < 10) = false := decide_eq_false (by omega)
  obtain ⟨q, hq⟩ : ∃ q, n / 10 = q := ⟨_, rfl⟩
  obtain ⟨m, hm⟩ : ∃ m, n % 10 = m := ⟨_, rfl⟩
  have hq1 : q < 10 := by omega
  have hm1 : m < 10 := by omega
  have v0 : Int.tdiv (n : Int) 10 = (q : Int) := by rw [Int.tdiv_eq_ediv_of_nonneg (by omega)]; omega
  have v1 : Int.tmod (n : Int) 10 = (m : Int) := by rw [Int.tmod_eq_emod_of_nonneg (by omega)]; omega
  have v2 : IntKind.i64.wrap (q : Int) = q := IntWalk.i64_in _ (by omega)
  have v3 : IntKind.i64.wrap (48 + (m : Int)) = 48 + m := IntWalk.i64_in _ (by omega)
  have v4 : IntKind.u8.wrap (48 + (m : Int)) = 48 + m := IntWalk.u8_in _ (by omega)
  rw [hq] at e0 e1
  rw [hm] at e0
  obtain ⟨l, hl⟩ : ∃ l, l = [UInt8.ofNat (48 + m)] := ⟨_, rfl⟩
  rw [← e1, ← hl] at e0
  have HQ := Aside0.mk e0; clear e0 e1 h h10 hq hm
  have HB := Aside0.mk (fun (w : World) => one_byte w m hm1)
  rw [← hl] at HB
  have hcat : ¬ (9223372036854775807 < (dec2 q).length + l.length) := by have := dec2_len q; rw [hl]; simp; omega
  have HL := Aside0.mk hl; clear hl
  go_enter Tryz.func165, Tryz.ntmps165
  go_wp2_with fail
  refine lin_start (fun _ => True) (true, [([], []), ([0], [0]), ([1], [1]), ([], []), ([3], [3]), ([4], [4]), ([5], [5]), ([6], [6]), ([7], [7]), ([2, 8], [2, 8]), ([9, 2, 0, 1, 2, 3, 4, 5, 6, 7, 8, 9], [9])]) [0, 1, 3, 4, 5, 6, 2, 7, 8, 9, 10] (by kernel_rfl) (by kernel_rfl) (by kernel_rfl) trivial ?_
  repeat (first | (refine lin_take rfl rfl (by kernel_rfl) (fun _ _ _ h => h) (by rfl) (v := ?_) (a' := ?_) ?_ ?_ ?_; rotate_left 2; (intro w' _; go_simp; with_reducible rfl); (simp only [List.getElem_toArray, List.getElem_cons_zero, List.getElem_cons_succ, Act.put, List.setIfInBounds_toArray, List.set_cons_zero, List.set_cons_succ]; rfl)) | (refine lin_off rfl rfl (by kernel_rfl) (fun _ _ _ h => h) (by rfl) (a' := ?_) ?_ ?_; rotate_left 1; (simp only [List.getElem_toArray, List.getElem_cons_zero, List.getElem_cons_succ, Act.put, List.setIfInBounds_toArray, List.set_cons_zero, List.set_cons_succ]; rfl)))
  refine lin_two (j := 7) (rest' := [2, 8, 9, 10]) rfl rfl rfl rfl (by kernel_rfl) rfl ?_ ?_
  · intro _ K hK
    refine step_call (by rfl) rfl rfl Tryz.func165 (by kernel_rfl) (by kernel_rfl) (args := #[.int .i64 q]) (by (try simp only [List.map_toArray, List.map_cons, List.map_nil]); first | done | rfl) ?_
    refine (spec_l6Dec1 q hq1 _).mono ?_
    rintro e w1 ⟨rfl, hb1⟩
    refine ⟨_, rfl, hK.out _ _ trivial ?_⟩
    refine lin_norm (a' := ?_) ?_ ?_; rotate_left 1; (simp only [List.getElem_toArray, List.getElem_cons_zero, List.getElem_cons_succ, Act.put, List.setIfInBounds_toArray, List.set_cons_zero, List.set_cons_succ]; rfl)
    refine lin_event (v := .slice (some ⟨w1.heap.size, 0, none⟩) 1 1) (w1 := w1.alloc (.cells #[.int .u8 (48 + (m : Int))] 5)) (a' := ?_) rfl rfl (by kernel_rfl) (by rfl) (fun hS => ?_) (fun hS => trivial) ?_ ?_; rotate_left 1; (focus (first | (go_simp; done) | (go_simp; rfl))); (focus (first | (simp only [List.getElem_toArray, List.getElem_cons_zero, List.getElem_cons_succ, Act.put, List.setIfInBounds_toArray, List.set_cons_zero, List.set_cons_succ]; done) | (simp only [List.getElem_toArray, List.getElem_cons_zero, List.getElem_cons_succ, Act.put, List.setIfInBounds_toArray, List.set_cons_zero, List.set_cons_succ]; rfl)))
    refine lin_event (v := vS l) (w1 := w1.alloc (.cells #[.int .u8 (48 + (m : Int))] 5)) (a' := ?_) rfl rfl (by kernel_rfl) (by rfl) (fun hS => ?_) (fun hS => trivial) ?_ ?_; rotate_left 1; (focus (have h1 := HB.out w1; go_simp)); (focus (first | (simp only [List.getElem_toArray, List.getElem_cons_zero, List.getElem_cons_succ, Act.put, List.setIfInBounds_toArray, List.set_cons_zero, List.set_cons_succ]; done) | (simp only [List.getElem_toArray, List.getElem_cons_zero, List.getElem_cons_succ, Act.put, List.setIfInBounds_toArray, List.set_cons_zero, List.set_cons_succ]; rfl)))
    repeat (first | (refine lin_take rfl rfl (by kernel_rfl) (fun _ _ _ h => h) (by rfl) (v := ?_) (a' := ?_) ?_ ?_ ?_; rotate_left 2; (intro w' _; go_simp; with_reducible rfl); (simp only [List.getElem_toArray, List.getElem_cons_zero, List.getElem_cons_succ, Act.put, List.setIfInBounds_toArray, List.set_cons_zero, List.set_cons_succ]; rfl)) | (refine lin_off rfl rfl (by kernel_rfl) (fun _ _ _ h => h) (by rfl) (a' := ?_) ?_ ?_; rotate_left 1; (simp only [List.getElem_toArray, List.getElem_cons_zero, List.getElem_cons_succ, Act.put, List.setIfInBounds_toArray, List.set_cons_zero, List.set_cons_succ]; rfl)))
    refine lin_done (by kernel_rfl) ?_
    clear hK
    go_wp2
    go_ret
    exact ⟨by rw [HQ.out]; rfl, below_alloc (below_step ((below_drew (Below.refl _ _))) hb1) _⟩
  · intro _ K hK
    refine step_value (v := .slice (some ⟨w.heap.size, 0, none⟩) 1 1) (w1 := w.drew.alloc (.cells #[.int .u8 (48 + (m : Int))] 5)) (by rfl) rfl ?_ ?_
    · first | (go_simp; done) | (go_simp; rfl)
    refine hK.out _ _ trivial ?_
    clear hK
    refine lin_norm (a' := ?_) ?_ ?_; rotate_left 1; (simp only [List.getElem_toArray, List.getElem_cons_zero, List.getElem_cons_succ, Act.put, List.setIfInBounds_toArray, List.set_cons_zero, List.set_cons_succ]; rfl)
    refine lin_two (j := 8) (rest' := [2, 9, 10]) rfl rfl rfl rfl (by kernel_rfl) rfl ?_ ?_
    · intro _ K hK
      refine step_call (by rfl) rfl rfl Tryz.func165 (by kernel_rfl) (by kernel_rfl) (args := #[.int .i64 q]) (by (try simp only [List.map_toArray, List.map_cons, List.map_nil]); first | done | rfl) ?_
      refine (spec_l6Dec1 q hq1 _).mono ?_
      rintro e w1 ⟨rfl, hb1⟩
      refine ⟨_, rfl, hK.out _ _ trivial ?_⟩
      refine lin_norm (a' := ?_) ?_ ?_; rotate_left 1; (simp only [List.getElem_toArray, List.getElem_cons_zero, List.getElem_cons_succ, Act.put, List.setIfInBounds_toArray, List.set_cons_zero, List.set_cons_succ]; rfl)
      have hz := hb1.size
      have hcv : (convert 22 9 (.slice (some ⟨w.heap.size, 0, none⟩) 1 1)).run Tryz.prog w1 = .ok (vS l) w1 := by
        rw [HL.out]
        exact byte_at_ w.heap.size m hm1 ((hb1.cell (p := ⟨w.heap.size, 0, none⟩) (by show w.heap.size < (w.alloc _).heap.size; simp)).trans ((blk_cell (heap_alloc_new w.drew (.cells #[.int .u8 (48 + (m : Int))] 5)) 0).trans rfl))
      refine lin_event (v := vS l) (w1 := w1) (a' := ?_) rfl rfl (by kernel_rfl) (by rfl) (fun hS => ?_) (fun hS => trivial) ?_ ?_; rotate_left 1; (focus (go_simp)); (focus (first | (simp only [List.getElem_toArray, List.getElem_cons_zero, List.getElem_cons_succ, Act.put, List.setIfInBounds_toArray, List.set_cons_zero, List.set_cons_succ]; done) | (simp only [List.getElem_toArray, List.getElem_cons_zero, List.getElem_cons_succ, Act.put, List.setIfInBounds_toArray, List.set_cons_zero, List.set_cons_succ]; rfl)))
      repeat (first | (refine lin_take rfl rfl (by kernel_rfl) (fun _ _ _ h => h) (by rfl) (v := ?_) (a' := ?_) ?_ ?_ ?_; rotate_left 2; (intro w' _; go_simp; with_reducible rfl); (simp only [List.getElem_toArray, List.getElem_cons_zero, List.getElem_cons_succ, Act.put, List.setIfInBounds_toArray, List.set_cons_zero, List.set_cons_succ]; rfl)) | (refine lin_off rfl rfl (by kernel_rfl) (fun _ _ _ h => h) (by rfl) (a' := ?_) ?_ ?_; rotate_left 1; (simp only [List.getElem_toArray, List.getElem_cons_zero, List.getElem_cons_succ, Act.put, List.setIfInBounds_toArray, List.set_cons_zero, List.set_cons_succ]; rfl)))
      refine lin_done (by kernel_rfl) ?_
      clear hK
      go_wp2
      go_ret
      exact ⟨by rw [HQ.out]; rfl, below_step (below_alloc (below_drew (Below.refl _ _)) _) hb1⟩
    · intro _ K hK
      refine step_value (v := vS l) (w1 := w.drew.alloc (.cells #[.int .u8 (48 + (m : Int))] 5)) (by rfl) rfl ?_ ?_
      · have h1 := byte_at_ (w := (w.alloc (.cells #[.int .u8 (48 + (m : Int))] 5)).drew) w.heap.size m hm1 (by simp)
        rw [← HL.out] at h1
        go_simp
      refine hK.out _ _ trivial ?_
      clear hK
      refine lin_norm (a' := ?_) ?_ ?_; rotate_left 1; (simp only [List.getElem_toArray, List.getElem_cons_zero, List.getElem_cons_succ, Act.put, List.setIfInBounds_toArray, List.set_cons_zero, List.set_cons_succ]; rfl)
      refine lin_call rfl rfl rfl Tryz.func165 (by kernel_rfl) (by kernel_rfl) rfl (by rfl) (args := #[.int .i64 q]) (by (try simp only [List.map_toArray, List.map_cons, List.map_nil]); first | done | rfl) (fun hS => ?_)
      refine (spec_l6Dec1 q hq1 _).mono ?_
      rintro e w1 ⟨rfl, hb1⟩
      refine ⟨_, rfl, trivial, ?_⟩
      refine lin_norm (a' := ?_) ?_ ?_; rotate_left 1; (simp only [List.getElem_toArray, List.getElem_cons_zero, List.getElem_cons_succ, Act.put, List.setIfInBounds_toArray, List.set_cons_zero, List.set_cons_succ]; rfl)
      repeat (first | (refine lin_take rfl rfl (by kernel_rfl) (fun _ _ _ h => h) (by rfl) (v := ?_) (a' := ?_) ?_ ?_ ?_; rotate_left 2; (intro w' _; go_simp; with_reducible rfl); (simp only [List.getElem_toArray, List.getElem_cons_zero, List.getElem_cons_succ, Act.put, List.setIfInBounds_toArray, List.set_cons_zero, List.set_cons_succ]; rfl)) | (refine lin_off rfl rfl (by kernel_rfl) (fun _ _ _ h => h) (by rfl) (a' := ?_) ?_ ?_; rotate_left 1; (simp only [List.getElem_toArray, List.getElem_cons_zero, List.getElem_cons_succ, Act.put, List.setIfInBounds_toArray, List.set_cons_zero, List.set_cons_succ]; rfl)))
      refine lin_done (by kernel_rfl) ?_
      go_wp2
      go_ret
      exact ⟨by rw [HQ.out]; rfl, below_step (below_alloc (below_drew (Below.refl _ _)) _) hb1⟩
theorem endText_len (e : En) : (endText e).length ≤ 5 := by
  unfold endText
  split
  · have := dec2_len e.addr.toNat
    have := dec2_len e.port.toNat
    simp; omega
  · simp
theorem any_range {e : En} (h : anyB e = true) : 0 ≤ e.addr ∧ e.addr < 100 ∧ 0 ≤ e.port ∧ e.port < 100 := by
  simp only [anyB, insideB, outsideB, doorB, inB, Bool.or_eq_true, Bool.and_eq_true, decide_eq_true_eq, beq_iff_eq] at h
  omega
set_option maxHeartbeats 1000000 in
theorem spec_EndText (e : En) (w : World) :
    Calls Tryz.prog 118 #[vEn e] w fun r w' => r = .returned (vS (endText e)) ∧ Below w.heap.size w w' := by
  cases h : anyB e
  · have e0 : endText e = [] := by unfold endText; rw [h]; rfl
    have H := Aside0.mk h; clear h
    have E := Aside0.mk e0; clear e0
    go_enter Tryz.func118, Tryz.ntmps118
    go_wp2_with (go_at_call 143; refine (spec_l1Any e _).mono ?_; rintro r w1 ⟨rfl, hb1⟩; rw [H.out]; obtain ⟨hb1c, hb1f, hb1z⟩ := bcell hb1; (try simp at hb1z); (try have hb10 : w.heap.size < w1.heap.size := by omega); (try have hb11 : w.heap.size + 1 < w1.heap.size := by omega); (try have hb12 : w.heap.size + 2 < w1.heap.size := by omega))
    go_ret
    exact ⟨by rw [E.out]; rfl, below_step (by repeat (first | (with_reducible exact (Below.refl _ _)) | (with_reducible apply below_alloc) | (with_reducible apply pw_below_drewN) | (with_reducible apply below_drew1) | with_reducible refine below_set ?_ (by first | (with_reducible exact Nat.le_refl _) | (with_reducible assumption) | (simp; done) | omega | (simp; omega)))) hb1⟩
  · obtain ⟨a0, a1, p0, p1⟩ := any_range h
    obtain ⟨a, ha⟩ : ∃ a : Nat, e.addr = a := ⟨e.addr.toNat, by omega⟩
    obtain ⟨p, hp⟩ : ∃ p : Nat, e.port = p := ⟨e.port.toNat, by omega⟩
    have e0 : endText e = dec2 a ++ 58 :: dec2 p := by unfold endText; rw [h, ha, hp]; simp
    obtain ⟨x, y⟩ := e
    obtain rfl : x = a := ha
    obtain rfl : y = p := hp
    have H := Aside0.mk h; clear h
    have E := Aside0.mk e0; clear e0
    have l1 := dec2_len a
    have l2 := dec2_len p
    have hc1 : ¬ (9223372036854775807 < (dec2 a).length + 1) := by omega
    have hc2 : ¬ (9223372036854775807 < (dec2 a).length + 1 + (dec2 p).length) := by omega
    have hc3 : ¬ (9223372036854775807 < (dec2 a ++ [58]).length + (dec2 p).length) := by simp; omega
    have bk := heap_alloc_new w (.cells #[.int .i64 (a : Int), .int .i64 (p : Int)] 62)
    go_enter Tryz.func118, Tryz.ntmps118
    go_wp2_with (go_at_call 143; refine (spec_l1Any ⟨a, p⟩ _).mono ?_; rintro r w1 ⟨rfl, hb1⟩; rw [H.out]; obtain ⟨hb1c, hb1f, hb1z⟩ := bcell hb1; (try simp at hb1z); (try have hb10 : w.heap.size < w1.heap.size := by omega); (try have hb11 : w.heap.size + 1 < w1.heap.size := by omega); (try have hb12 : w.heap.size + 2 < w1.heap.size := by omega))
    replace bk := (hb1.block _ (by simp)).trans bk
    have c0 : w1.cell? ⟨w.heap.size, 0, none⟩ = some (.int .i64 (a : Int)) := (blk_cell bk 0).trans rfl
    have c1 : w1.cell? ⟨w.heap.size, 1, none⟩ = some (.int .i64 (p : Int)) := (blk_cell bk 1).trans rfl
    refine lin_start (fun w' => w'.cell? ⟨w.heap.size, 0, none⟩ = some (.int .i64 (a : Int)) ∧ w'.cell? ⟨w.heap.size, 1, none⟩ = some (.int .i64 (p : Int))) (true, [([], []), ([0], [0]), ([1], [1]), ([2], [2]), ([], []), ([4], [4]), ([5, 2], [5]), ([3, 6], [3, 6]), ([7, 6, 0, 1, 2, 3, 4, 5, 6, 7], [7])]) [0, 1, 4, 5, 2, 3, 6, 7, 8] (by kernel_rfl) (by kernel_rfl) (by kernel_rfl) ⟨c0, c1⟩ ?_
    repeat (first | (refine lin_take rfl rfl (by kernel_rfl) (fun _ _ _ h => h) (by rfl) (v := ?_) (a' := ?_) ?_ ?_ ?_; rotate_left 2; (rintro w' ⟨s0, s1⟩; go_simp; with_reducible rfl); (simp only [List.getElem_toArray, List.getElem_cons_zero, List.getElem_cons_succ, Act.put, List.setIfInBounds_toArray, List.set_cons_zero, List.set_cons_succ]; rfl)) | (refine lin_off rfl rfl (by kernel_rfl) (fun _ _ _ h => h) (by rfl) (a' := ?_) ?_ ?_; rotate_left 1; (simp only [List.getElem_toArray, List.getElem_cons_zero, List.getElem_cons_succ, Act.put, List.setIfInBounds_toArray, List.set_cons_zero, List.set_cons_succ]; rfl)))
    refine lin_call rfl rfl rfl Tryz.func165 (by kernel_rfl) (by kernel_rfl) rfl (by rfl) (args := #[.int .i64 a]) (by (try simp only [List.map_toArray, List.map_cons, List.map_nil]); first | done | rfl) (fun hS => ?_)
    refine (spec_l6Dec a (by omega) _).mono ?_
    rintro r w2 ⟨rfl, hb2⟩
    have hz2 := hb2.size
    refine ⟨_, rfl, ?_, ?_⟩
    · first | exact (hb2.cell (by first | exact hb10)).trans hS | (obtain ⟨s0, s1⟩ := hS; exact ⟨(hb2.cell (by first | exact hb10)).trans s0, (hb2.cell (by first | exact hb10)).trans s1⟩)
    refine lin_norm (a' := ?_) ?_ ?_; rotate_left 1; (simp only [List.getElem_toArray, List.getElem_cons_zero, List.getElem_cons_succ, Act.put, List.setIfInBounds_toArray, List.set_cons_zero, List.set_cons_succ]; rfl)
    repeat (first | (refine lin_take rfl rfl (by kernel_rfl) (fun _ _ _ h => h) (by rfl) (v := ?_) (a' := ?_) ?_ ?_ ?_; rotate_left 2; (rintro w' ⟨s0, s1⟩; go_simp; with_reducible rfl); (simp only [List.getElem_toArray, List.getElem_cons_zero, List.getElem_cons_succ, Act.put, List.setIfInBounds_toArray, List.set_cons_zero, List.set_cons_succ]; rfl)) | (refine lin_off rfl rfl (by kernel_rfl) (fun _ _ _ h => h) (by rfl) (a' := ?_) ?_ ?_; rotate_left 1; (simp only [List.getElem_toArray, List.getElem_cons_zero, List.getElem_cons_succ, Act.put, List.setIfInBounds_toArray, List.set_cons_zero, List.set_cons_succ]; rfl)))
    refine lin_call rfl rfl rfl Tryz.func165 (by kernel_rfl) (by kernel_rfl) rfl (by rfl) (args := #[.int .i64 p]) (by (try simp only [List.map_toArray, List.map_cons, List.map_nil]); first | done | rfl) (fun hS => ?_)
    refine (spec_l6Dec p (by omega) _).mono ?_
    rintro r w3 ⟨rfl, hb3⟩
    refine ⟨_, rfl, ?_, ?_⟩
    · first | exact (hb3.cell (by first | exact Nat.lt_of_lt_of_le hb10 hz2)).trans hS | (obtain ⟨s0, s1⟩ := hS; exact ⟨(hb3.cell (by first | exact Nat.lt_of_lt_of_le hb10 hz2)).trans s0, (hb3.cell (by first | exact Nat.lt_of_lt_of_le hb10 hz2)).trans s1⟩)
    refine lin_norm (a' := ?_) ?_ ?_; rotate_left 1; (simp only [List.getElem_toArray, List.getElem_cons_zero, List.getElem_cons_succ, Act.put, List.setIfInBounds_toArray, List.set_cons_zero, List.set_cons_succ]; rfl)
    repeat (first | (refine lin_take rfl rfl (by kernel_rfl) (fun _ _ _ h => h) (by rfl) (v := ?_) (a' := ?_) ?_ ?_ ?_; rotate_left 2; (rintro w' ⟨s0, s1⟩; go_simp; with_reducible rfl); (simp only [List.getElem_toArray, List.getElem_cons_zero, List.getElem_cons_succ, Act.put, List.setIfInBounds_toArray, List.set_cons_zero, List.set_cons_succ]; rfl)) | (refine lin_off rfl rfl (by kernel_rfl) (fun _ _ _ h => h) (by rfl) (a' := ?_) ?_ ?_; rotate_left 1; (simp only [List.getElem_toArray, List.getElem_cons_zero, List.getElem_cons_succ, Act.put, List.setIfInBounds_toArray, List.set_cons_zero, List.set_cons_succ]; rfl)))
    refine lin_done (by kernel_rfl) ?_
    go_wp2
    go_ret
    exact ⟨by rw [E.out]; rfl, below_step (below_step (below_drew (below_step (by repeat (first | (with_reducible exact (Below.refl _ _)) | (with_reducible apply below_alloc) | (with_reducible apply pw_below_drewN) | (with_reducible apply below_drew1) | with_reducible refine below_set ?_ (by first | (with_reducible exact Nat.le_refl _) | (with_reducible assumption) | (simp; done) | omega | (simp; omega)))) hb1)) hb2) hb3⟩
theorem itoa_small (n : Nat) (h : n < 100) (w : World) : Calls Tryz.prog 195 #[.int .i64 n] w fun r w' => r = .returned (vS (dec2 n)) ∧ Below w.heap.size w w' := by
  refine (Tryz.strconv_Itoa_small n h w).mono ?_
  rintro r w' ⟨rfl, rfl⟩
  rw [dec2_eq n h]
  exact ⟨rfl, Below.refl _ _⟩
set_option maxHeartbeats 1000000 in
theorem impl_EndText (e : En) (w : World) :
    Calls Tryz.prog 188 #[vEn e] w fun r w' => r = .returned (vS (endText e)) ∧ Below w.heap.size w w' := by
  cases h : anyB e
  · have e0 : endText e = [] := by unfold endText; rw [h]; rfl
    have H := Aside0.mk h; clear h
    have E := Aside0.mk e0; clear e0
    go_enter Tryz.func188, Tryz.ntmps188
    go_wp2_with (go_at_call 146; refine (impl_any e _).mono ?_; rintro r w1 ⟨rfl, hb1⟩; rw [H.out]; obtain ⟨hb1c, hb1f, hb1z⟩ := bcell hb1; (try simp at hb1z); (try have hb10 : w.heap.size < w1.heap.size := by omega); (try have hb11 : w.heap.size + 1 < w1.heap.size := by omega); (try have hb12 : w.heap.size + 2 < w1.heap.size := by omega))
    go_ret
    exact ⟨by rw [E.out]; rfl, below_step (by repeat (first | (with_reducible exact (Below.refl _ _)) | (with_reducible apply below_alloc) | (with_reducible apply pw_below_drewN) | (with_reducible apply below_drew1) | with_reducible refine below_set ?_ (by first | (with_reducible exact Nat.le_refl _) | (with_reducible assumption) | (simp; done) | omega | (simp; omega)))) hb1⟩
  · obtain ⟨a0, a1, p0, p1⟩ := any_range h
    obtain ⟨a, ha⟩ : ∃ a : Nat, e.addr = a := ⟨e.addr.toNat, by omega⟩
    obtain ⟨p, hp⟩ : ∃ p : Nat, e.port = p := ⟨e.port.toNat, by omega⟩
    have e0 : endText e = dec2 a ++ 58 :: dec2 p := by unfold endText; rw [h, ha, hp]; simp
    obtain ⟨x, y⟩ := e
    obtain rfl : x = a := ha
    obtain rfl : y = p := hp
    have H := Aside0.mk h; clear h
    have E := Aside0.mk e0; clear e0
    have l1 := dec2_len a
    have l2 := dec2_len p
    have hc1 : ¬ (9223372036854775807 < (dec2 a).length + 1) := by omega
    have hc2 : ¬ (9223372036854775807 < (dec2 a).length + 1 + (dec2 p).length) := by omega
    have hc3 : ¬ (9223372036854775807 < (dec2 a ++ [58]).length + (dec2 p).length) := by simp; omega
    have bk := heap_alloc_new w (.cells #[.int .i64 (a : Int), .int .i64 (p : Int)] 62)
    go_enter Tryz.func188, Tryz.ntmps188
    go_wp2_with (go_at_call 146; refine (impl_any ⟨a, p⟩ _).mono ?_; rintro r w1 ⟨rfl, hb1⟩; rw [H.out]; obtain ⟨hb1c, hb1f, hb1z⟩ := bcell hb1; (try simp at hb1z); (try have hb10 : w.heap.size < w1.heap.size := by omega); (try have hb11 : w.heap.size + 1 < w1.heap.size := by omega); (try have hb12 : w.heap.size + 2 < w1.heap.size := by omega))
    replace bk := (hb1.block _ (by simp)).trans bk
    have c0 : w1.cell? ⟨w.heap.size, 0, none⟩ = some (.int .i64 (a : Int)) := (blk_cell bk 0).trans rfl
    have c1 : w1.cell? ⟨w.heap.size, 1, none⟩ = some (.int .i64 (p : Int)) := (blk_cell bk 1).trans rfl
    refine lin_start (fun w' => w'.cell? ⟨w.heap.size, 0, none⟩ = some (.int .i64 (a : Int)) ∧ w'.cell? ⟨w.heap.size, 1, none⟩ = some (.int .i64 (p : Int))) (true, [([], []), ([0], [0]), ([1], [1]), ([2], [2]), ([], []), ([4], [4]), ([5, 2], [5]), ([3, 6], [3, 6]), ([7, 6, 0, 1, 2, 3, 4, 5, 6, 7], [7])]) [0, 1, 4, 5, 2, 3, 6, 7, 8] (by kernel_rfl) (by kernel_rfl) (by kernel_rfl) ⟨c0, c1⟩ ?_
    repeat (first | (refine lin_take rfl rfl (by kernel_rfl) (fun _ _ _ h => h) (by rfl) (v := ?_) (a' := ?_) ?_ ?_ ?_; rotate_left 2; (rintro w' ⟨s0, s1⟩; go_simp; with_reducible rfl); (simp only [List.getElem_toArray, List.getElem_cons_zero, List.getElem_cons_succ, Act.put, List.setIfInBounds_toArray, List.set_cons_zero, List.set_cons_succ]; rfl)) | (refine lin_off rfl rfl (by kernel_rfl) (fun _ _ _ h => h) (by rfl) (a' := ?_) ?_ ?_; rotate_left 1; (simp only [List.getElem_toArray, List.getElem_cons_zero, List.getElem_cons_succ, Act.put, List.setIfInBounds_toArray, List.set_cons_zero, List.set_cons_succ]; rfl)))
    refine lin_call rfl rfl rfl Tryz.func195 (by kernel_rfl) (by kernel_rfl) rfl (by rfl) (args := #[.int .i64 a]) (by (try simp only [List.map_toArray, List.map_cons, List.map_nil]); first | done | rfl) (fun hS => ?_)
    refine (itoa_small a (by omega) _).mono ?_
    rintro r w2 ⟨rfl, hb2⟩
    have hz2 := hb2.size
    refine ⟨_, rfl, ?_, ?_⟩
    · first | exact (hb2.cell (by first | exact hb10)).trans hS | (obtain ⟨s0, s1⟩ := hS; exact ⟨(hb2.cell (by first | exact hb10)).trans s0, (hb2.cell (by first | exact hb10)).trans s1⟩)
    refine lin_norm (a' := ?_) ?_ ?_; rotate_left 1; (simp only [List.getElem_toArray, List.getElem_cons_zero, List.getElem_cons_succ, Act.put, List.setIfInBounds_toArray, List.set_cons_zero, List.set_cons_succ]; rfl)
    repeat (first | (refine lin_take rfl rfl (by kernel_rfl) (fun _ _ _ h => h) (by rfl) (v := ?_) (a' := ?_) ?_ ?_ ?_; rotate_left 2; (rintro w' ⟨s0, s1⟩; go_simp; with_reducible rfl); (simp only [List.getElem_toArray, List.getElem_cons_zero, List.getElem_cons_succ, Act.put, List.setIfInBounds_toArray, List.set_cons_zero, List.set_cons_succ]; rfl)) | (refine lin_off rfl rfl (by kernel_rfl) (fun _ _ _ h => h) (by rfl) (a' := ?_) ?_ ?_; rotate_left 1; (simp only [List.getElem_toArray, List.getElem_cons_zero, List.getElem_cons_succ, Act.put, List.setIfInBounds_toArray, List.set_cons_zero, List.set_cons_succ]; rfl)))
    refine lin_call rfl rfl rfl Tryz.func195 (by kernel_rfl) (by kernel_rfl) rfl (by rfl) (args := #[.int .i64 p]) (by (try simp only [List.map_toArray, List.map_cons, List.map_nil]); first | done | rfl) (fun hS => ?_)
    refine (itoa_small p (by omega) _).mono ?_
    rintro r w3 ⟨rfl, hb3⟩
    refine ⟨_, rfl, ?_, ?_⟩
    · first | exact (hb3.cell (by first | exact Nat.lt_of_lt_of_le hb10 hz2)).trans hS | (obtain ⟨s0, s1⟩ := hS; exact ⟨(hb3.cell (by first | exact Nat.lt_of_lt_of_le hb10 hz2)).trans s0, (hb3.cell (by first | exact Nat.lt_of_lt_of_le hb10 hz2)).trans s1⟩)
    refine lin_norm (a' := ?_) ?_ ?_; rotate_left 1; (simp only [List.getElem_toArray, List.getElem_cons_zero, List.getElem_cons_succ, Act.put, List.setIfInBounds_toArray, List.set_cons_zero, List.set_cons_succ]; rfl)
    repeat (first | (refine lin_take rfl rfl (by kernel_rfl) (fun _ _ _ h => h) (by rfl) (v := ?_) (a' := ?_) ?_ ?_ ?_; rotate_left 2; (rintro w' ⟨s0, s1⟩; go_simp; with_reducible rfl); (simp only [List.getElem_toArray, List.getElem_cons_zero, List.getElem_cons_succ, Act.put, List.setIfInBounds_toArray, List.set_cons_zero, List.set_cons_succ]; rfl)) | (refine lin_off rfl rfl (by kernel_rfl) (fun _ _ _ h => h) (by rfl) (a' := ?_) ?_ ?_; rotate_left 1; (simp only [List.getElem_toArray, List.getElem_cons_zero, List.getElem_cons_succ, Act.put, List.setIfInBounds_toArray, List.set_cons_zero, List.set_cons_succ]; rfl)))
    refine lin_done (by kernel_rfl) ?_
    go_wp2
    go_ret
    exact ⟨by rw [E.out]; rfl, below_step (below_step (below_drew (below_step (by repeat (first | (with_reducible exact (Below.refl _ _)) | (with_reducible apply below_alloc) | (with_reducible apply pw_below_drewN) | (with_reducible apply below_drew1) | with_reducible refine below_set ?_ (by first | (with_reducible exact Nat.le_refl _) | (with_reducible assumption) | (simp; done) | omega | (simp; omega)))) hb1)) hb2) hb3⟩
end Go.Proofs.YtfjbjiklohjodaaGreatDoor.Z
namespace Go.Proofs.YtfjbjiklohjodaaGreatDoor.Z
open Go.RowKit Go.Proofs.YtfjbjiklohjodaaGreatDoorW.PrintWords
set_option linter.unusedVariables false
set_option linter.unusedSimpArgs false
attribute [local go_sem ↓] Go.wp_at_zero Go.wp_at_succ
attribute [local go_sem high] eqEn eqPr
def portFrom (m : List Pr) (e : En) (k : Nat) : Int := ((m.drop k).find? (fun p => decide (p.inside = e))).elim 0 (·.port)
theorem portFrom_end (m : List Pr) (e : En) (k : Nat) (h : m.length ≤ k) : portFrom m e k = 0 := by
  unfold portFrom; rw [List.drop_of_length_le h]; rfl
theorem drop_getD {α : Type} (m : List α) (z : α) (k : Nat) (h : k < m.length) : m.drop k = m.getD k z :: m.drop (k + 1) := by
  rw [List.drop_eq_getElem_cons h, List.getD_eq_getElem?_getD, List.getElem?_eq_getElem h]; rfl
theorem portFrom_hit {m : List Pr} {e : En} {k : Nat} {p : Pr} (h : k < m.length) (hp : Aside0 (m.getD k zPr = p)) (he : p.inside = e) : portFrom m e k = p.port := by
  obtain rfl := hp.out
  unfold portFrom; rw [drop_getD m zPr k h, List.find?_cons]; simp only [he, decide_true]; rfl
theorem portFrom_miss {m : List Pr} {e : En} {k : Nat} {p : Pr} (h : k < m.length) (hp : Aside0 (m.getD k zPr = p)) (he : p.inside ≠ e) : portFrom m e k = portFrom m e (k + 1) := by
  obtain rfl := hp.out
  unfold portFrom; rw [drop_getD m zPr k h, List.find?_cons]; simp only [he, decide_false]
theorem En_ext {a b : En} (h1 : a.addr = b.addr) (h2 : a.port = b.port) : a = b := by cases a; cases b; simp_all
theorem En_beq {a b : En} (h : a = b) : (a.addr == b.addr && (a.port == b.port)) = true := by subst h; simp
theorem En_bne {a b : En} (h : a ≠ b) : (a.addr == b.addr && (a.port == b.port)) = false := by
  rw [Bool.eq_false_iff]; intro h2; simp at h2; exact h (En_ext h2.1 h2.2)
theorem ret_int {k : IntKind} {a b : Int} (h : a = b) : Ending.returned (.int k a) = .returned (.int k b) := by rw [h]
theorem ret_bool {a b : Bool} (h : a = b) : Ending.returned (.bool a) = .returned (.bool b) := by rw [h]
set_option maxHeartbeats 1000000 in
theorem impl_port (A : Option Addr) (n c : Nat) (m : List Pr) (e : En) (w : World) (hC : Kd.C kPr w A n m) :
    Calls Tryz.prog 76 #[.slice A n c, vEn e] w fun r w' => r = .returned (.int .i64 (portFrom m e 0)) ∧ Below w.heap.size w w' := by
  obtain rfl : m.length = n := hC.1
  have hm := max_len hC
  have HC := Aside0.mk hC; clear hC
  go_enter Tryz.func76, Tryz.ntmps76
  go_wp2
  go_loopw [9] (fun i w' => ∃ k : Nat, k ≤ m.length ∧ i = .int .i64 k ∧ Aside0 (portFrom m e k = portFrom m e 0) ∧ Aside0 (w'.heap[w.heap.size]? = some (.cells #[.int .i64 e.addr, .int .i64 e.port] 62 (0, 0))) ∧ Below w.heap.size w w') (fun i _ => m.length - (intOf i).toNat)
  case atStart => exact ⟨0, Nat.zero_le _, rfl, ⟨rfl⟩, ⟨heap_alloc_new w _⟩, (Below.refl _ _).alloc (Nat.le_refl _) _⟩
  case round =>
    obtain ⟨k, hk, rfl, HP, HX, hb⟩ := hrel
    by_cases hlt : k < m.length
    · have c0 : wr.cell? ⟨w.heap.size, 0, none⟩ = some (.int .i64 e.addr) := (blk_cell HX.out 0).trans rfl
      have c1 : wr.cell? ⟨w.heap.size, 1, none⟩ = some (.int .i64 e.port) := (blk_cell HX.out 1).trans rfl
      have hz := blk_lt HX.out
      obtain ⟨ad, p, hA, hp, dL, d0, d1, d2⟩ := at_Pr (Kd.C_below HC.out hb) k hlt
      cases hA
      by_cases he : p.inside = e
      · have ht := En_beq he
        have HF := Aside0.mk ((portFrom_hit hlt hp he).symm.trans HP.out)
        clear he
        go_wp2
        go_ret
        exact ⟨ret_int HF.out, hb.alloc hb.size _⟩
      · have ht := En_bne he
        have HF := Aside0.mk ((portFrom_miss hlt hp he).symm.trans HP.out)
        clear he
        go_wp2
        go_roundw
        case rel => exact ⟨k + 1, by omega, by go_num, HF, ⟨blk_alloc HX.out _⟩, hb.alloc hb.size _⟩
        case measure => simp [intOf]; omega
    · have HF := Aside0.mk ((portFrom_end m e k (by omega)).symm.trans HP.out)
      go_wp2
      go_ret
      exact ⟨ret_int HF.out, hb⟩
def goodAt (m : List Pr) (i : Nat) : Prop := (m.getD i zPr).port = 10 + i ∧ insideB (m.getD i zPr).inside = true ∧ ∀ j, j < i → (m.getD j zPr).inside ≠ (m.getD i zPr).inside
def okUpto (m : List Pr) (k : Nat) : Prop := ∀ i, i < k → goodAt m i
def mapOk (m : List Pr) : Prop := okUpto m m.length ∧ m.length ≤ 8
open Classical in
noncomputable def mapOkB (m : List Pr) : Bool := decide (mapOk m)
theorem mapOkB_no {m : List Pr} {k : Nat} (h : k < m.length) (hn : ¬ goodAt m k) : mapOkB m = false := by
  unfold mapOkB; rw [decide_eq_false_iff_not]; intro h2; exact hn (h2.1 k h)
theorem mapOkB_iff {m : List Pr} : mapOkB m = true ↔ mapOk m := by unfold mapOkB; simp
theorem mapOkB_end {m : List Pr} {k : Nat} (hk : ¬ k < m.length) (h : okUpto m k) (hk2 : k ≤ m.length) : mapOkB m = decide ((m.length : Int) ≤ 8) := by
  obtain rfl : k = m.length := by omega
  rw [Bool.eq_iff_iff, mapOkB_iff, decide_eq_true_iff]
  exact ⟨fun h2 => by have := h2.2; omega, fun h2 => ⟨h, by omega⟩⟩
theorem okUpto_succ {m : List Pr} {k : Nat} (h : okUpto m k) (hg : goodAt m k) : okUpto m (k + 1) := by
  intro i hi
  rcases Nat.lt_succ_iff_lt_or_eq.1 hi with h1 | h1
  · exact h i h1
  · exact h1 ▸ hg
theorem find_none_take {m : List Pr} {e : En} {k : Nat} (hk : k ≤ m.length) : (m.take k).find? (fun p => decide (p.inside = e)) = none ↔ ∀ j, j < k → (m.getD j zPr).inside ≠ e := by
  rw [List.find?_eq_none]
  constructor
  · intro h j hj he
    have hj2 : j < m.length := by omega
    refine h (m.getD j zPr) ?_ (by rw [decide_eq_true_iff]; exact he)
    rw [List.getD_eq_getElem?_getD, List.getElem?_eq_getElem hj2]
    exact List.mem_take_iff_getElem.2 ⟨j, by omega, rfl⟩
  · intro h x hx
    obtain ⟨j, hj, rfl⟩ := List.mem_take_iff_getElem.1 hx
    have := h j (by omega)
    rw [List.getD_eq_getElem?_getD, List.getElem?_eq_getElem (by omega)] at this
    simpa using this
theorem port_take_zero {m : List Pr} {e : En} {k : Nat} (hk : k ≤ m.length) (h : okUpto m k) : portFrom (m.take k) e 0 = 0 ↔ ∀ j, j < k → (m.getD j zPr).inside ≠ e := by
  rw [← find_none_take hk]
  unfold portFrom
  rw [List.drop_zero]
  cases hf : (m.take k).find? (fun p => decide (p.inside = e)) with
  | none => simp
  | some p =>
    obtain ⟨j, hj, rfl⟩ := List.mem_take_iff_getElem.1 (List.mem_of_find?_eq_some hf)
    have := (h j (by omega)).1
    rw [List.getD_eq_getElem?_getD, List.getElem?_eq_getElem (by omega)] at this
    simp only [Option.getD_some] at this
    simp [Option.elim, this]
    omega
end Go.Proofs.YtfjbjiklohjodaaGreatDoor.Z
namespace Go.Proofs.YtfjbjiklohjodaaGreatDoor.Z
open Go.RowKit Go.Proofs.YtfjbjiklohjodaaGreatDoorW.PrintWords
set_option linter.unusedVariables false
set_option linter.unusedSimpArgs false
attribute [local go_sem ↓] Go.wp_at_zero Go.wp_at_succ
attribute [local go_sem high] eqEn eqPr
set_option maxHeartbeats 2000000 in
theorem impl_MapOk (A : Option Addr) (n c : Nat) (m : List Pr) (w : World) (hC : Kd.C kPr w A n m) (hn : n ≤ 1099511627776) (hc : n ≤ c) :
    Calls Tryz.prog 23 #[.slice A n c] w fun r w' => r = .returned (.bool (mapOkB m)) ∧ Below w.heap.size w w' := by
  obtain rfl : m.length = n := hC.1
  have hcI : (m.length : Int) ≤ (c : Int) := by omega
  have HC := Aside0.mk hC; clear hC
  go_enter Tryz.func23, Tryz.ntmps23
  go_wp2
  go_loopw [7] (fun i w' => ∃ k : Nat, k ≤ m.length ∧ i = .int .i64 k ∧ Aside0 (okUpto m k) ∧ Below w.heap.size w w') (fun i _ => m.length - (intOf i).toNat)
  case atStart => exact ⟨0, Nat.zero_le _, rfl, ⟨fun i hi => absurd hi (Nat.not_lt_zero _)⟩, Below.refl _ _⟩
  case round =>
    obtain ⟨k, hk, rfl, HP, hb⟩ := hrel
    by_cases hlt : k < m.length
    · obtain ⟨ad, p, hA, hp, dL, d0, d1, d2⟩ := at_Pr (Kd.C_below HC.out hb) k hlt
      cases hA
      have hk0 : (0 : Int) ≤ (k : Int) := Int.natCast_nonneg _
      have hk1 : (k : Int) ≤ (m.length : Int) := by omega
      have hkc : (k : Int) ≤ (c : Int) := by omega
      by_cases h1 : p.port = 10 + k
      · have t1 : (p.port == 10 + (k : Int)) = true := beq_iff_eq.2 h1
        have t2 : (p.port != 10 + (k : Int)) = false := by rw [bne_eq_false_iff_eq]; exact h1
        cases h2 : insideB p.inside
        · have HF := Aside0.mk (mapOkB_no hlt (fun hg => by have := hg.2.1; rw [hp.out, h2] at this; cases this))
          have H2 := Aside0.mk h2
          clear h1 h2
          go_wp2
          have hw : IntKind.i64.wrap (10 + (k : Int)) = 10 + k := IntWalk.i64_in _ (by omega)
          refine lin_start (fun w' => w'.cell? ⟨wr.heap.size, 0, none⟩ = some (.int .i64 p.port) ∧ w'.cell? ⟨wr.heap.size, 1, none⟩ = some (.int .i64 p.inside.addr) ∧ w'.cell? ⟨wr.heap.size, 2, none⟩ = some (.int .i64 p.inside.port)) (true, [([], []), ([0], [0]), ([], []), ([2], [2]), ([1, 3], [1, 3]), ([4], [4]), ([5], [5]), ([6, 5], [5, 6]), ([7, 5, 5], [5, 7]), ([8, 5], [5, 8]), ([5, 9], [5, 9]), ([10, 8], [10]), ([11], [11]), ([11], [11]), ([12, 13, 11], [11, 12, 13]), ([11], [11]), ([15, 11], [11, 15]), ([14, 16, 11, 11], [11, 14, 16]), ([17, 11], [11, 17]), ([11, 18], [11, 18])]) [0, 1, 2, 3, 4, 5, 6, 7, 8, 9, 10, 11, 12, 13, 14, 15, 16, 17, 18, 19] (by kernel_rfl) (by kernel_rfl) (by kernel_rfl) (by simp) ?_
          repeat (first | (refine lin_take rfl rfl (by kernel_rfl) (fun _ _ _ h => h) (by rfl) (v := ?_) (a' := ?_) ?_ ?_ ?_; rotate_left 2; (rintro w' ⟨s0, s1, s2⟩; go_simp; with_reducible rfl); (simp only [List.getElem_toArray, List.getElem_cons_zero, List.getElem_cons_succ, Act.put, List.setIfInBounds_toArray, List.set_cons_zero, List.set_cons_succ]; rfl)) | (refine lin_off rfl rfl (by kernel_rfl) (fun _ _ _ h => h) (by rfl) (a' := ?_) ?_ ?_; rotate_left 1; (simp only [List.getElem_toArray, List.getElem_cons_zero, List.getElem_cons_succ, Act.put, List.setIfInBounds_toArray, List.set_cons_zero, List.set_cons_succ]; rfl)))
          refine lin_call rfl rfl rfl Tryz.func75 (by kernel_rfl) (by kernel_rfl) rfl (by rfl) (args := #[vEn p.inside]) (by (try simp only [List.map_toArray, List.map_cons, List.map_nil]); first | done | rfl) (fun hS => ?_)
          refine (impl_EndInside p.inside _).mono ?_
          rintro e w3 ⟨rfl, hb3⟩
          refine ⟨_, rfl, ?_, ?_⟩
          · first | exact (hb3.cell (by first | exact blk_lt (heap_alloc_new wr _))).trans hS | (obtain ⟨s0, s1, s2⟩ := hS; exact ⟨(hb3.cell (by first | exact blk_lt (heap_alloc_new wr _))).trans s0, (hb3.cell (by first | exact blk_lt (heap_alloc_new wr _))).trans s1, (hb3.cell (by first | exact blk_lt (heap_alloc_new wr _))).trans s2⟩)
          refine lin_norm (a' := ?_) ?_ ?_; rotate_left 1; (simp only [List.getElem_toArray, List.getElem_cons_zero, List.getElem_cons_succ, Act.put, List.setIfInBounds_toArray, List.set_cons_zero, List.set_cons_succ, H2.out]; rfl)
          repeat (first | (refine lin_take rfl rfl (by kernel_rfl) (fun _ _ _ h => h) (by rfl) (v := ?_) (a' := ?_) ?_ ?_ ?_; rotate_left 2; (rintro w' ⟨s0, s1, s2⟩; go_simp; with_reducible rfl); (simp only [List.getElem_toArray, List.getElem_cons_zero, List.getElem_cons_succ, Act.put, List.setIfInBounds_toArray, List.set_cons_zero, List.set_cons_succ]; rfl)) | (refine lin_off rfl rfl (by kernel_rfl) (fun _ _ _ h => h) (by rfl) (a' := ?_) ?_ ?_; rotate_left 1; (simp only [List.getElem_toArray, List.getElem_cons_zero, List.getElem_cons_succ, Act.put, List.setIfInBounds_toArray, List.set_cons_zero, List.set_cons_succ]; rfl)))
          refine lin_done (by kernel_rfl) ?_
          clear hw
          go_wp2
          go_ret
          exact ⟨ret_bool HF.out.symm, below_step ((by repeat (first | (with_reducible exact hb) | (with_reducible apply below_alloc) | (with_reducible apply pw_below_drewN) | (with_reducible apply below_drew1) | with_reducible refine below_set ?_ (by first | (with_reducible exact Nat.le_refl _) | (with_reducible assumption) | (simp; done) | omega | (simp; omega))))) hb3⟩
        · have H2 := Aside0.mk h2
          have hz : (portFrom (m.take k) p.inside 0 = 0) ↔ _ := port_take_zero (Nat.le_of_lt hlt) HP.out
          by_cases h3 : portFrom (m.take k) p.inside 0 = 0
          · have hg : goodAt m k := ⟨by rw [hp.out]; exact h1, by rw [hp.out]; exact h2, by rw [hp.out]; exact hz.1 h3⟩
            have HF := Aside0.mk (okUpto_succ HP.out hg)
            have H3 := Aside0.mk h3
            clear h1 h2 h3 hz hg
            go_wp2
            have hw : IntKind.i64.wrap (10 + (k : Int)) = 10 + k := IntWalk.i64_in _ (by omega)
            refine lin_start (fun w' => w'.cell? ⟨wr.heap.size, 0, none⟩ = some (.int .i64 p.port) ∧ w'.cell? ⟨wr.heap.size, 1, none⟩ = some (.int .i64 p.inside.addr) ∧ w'.cell? ⟨wr.heap.size, 2, none⟩ = some (.int .i64 p.inside.port)) (true, [([], []), ([0], [0]), ([], []), ([2], [2]), ([1, 3], [1, 3]), ([4], [4]), ([5], [5]), ([6, 5], [5, 6]), ([7, 5, 5], [5, 7]), ([8, 5], [5, 8]), ([5, 9], [5, 9]), ([10, 8], [10]), ([11], [11]), ([11], [11]), ([12, 13, 11], [11, 12, 13]), ([11], [11]), ([15, 11], [11, 15]), ([14, 16, 11, 11], [11, 14, 16]), ([17, 11], [11, 17]), ([11, 18], [11, 18])]) [0, 1, 2, 3, 4, 5, 6, 7, 8, 9, 10, 11, 12, 13, 14, 15, 16, 17, 18, 19] (by kernel_rfl) (by kernel_rfl) (by kernel_rfl) (by simp) ?_
            repeat (first | (refine lin_take rfl rfl (by kernel_rfl) (fun _ _ _ h => h) (by rfl) (v := ?_) (a' := ?_) ?_ ?_ ?_; rotate_left 2; (rintro w' ⟨s0, s1, s2⟩; go_simp; with_reducible rfl); (simp only [List.getElem_toArray, List.getElem_cons_zero, List.getElem_cons_succ, Act.put, List.setIfInBounds_toArray, List.set_cons_zero, List.set_cons_succ]; rfl)) | (refine lin_off rfl rfl (by kernel_rfl) (fun _ _ _ h => h) (by rfl) (a' := ?_) ?_ ?_; rotate_left 1; (simp only [List.getElem_toArray, List.getElem_cons_zero, List.getElem_cons_succ, Act.put, List.setIfInBounds_toArray, List.set_cons_zero, List.set_cons_succ]; rfl)))
            refine lin_call rfl rfl rfl Tryz.func75 (by kernel_rfl) (by kernel_rfl) rfl (by rfl) (args := #[vEn p.inside]) (by (try simp only [List.map_toArray, List.map_cons, List.map_nil]); first | done | rfl) (fun hS => ?_)
            refine (impl_EndInside p.inside _).mono ?_
            rintro e w3 ⟨rfl, hb3⟩
            refine ⟨_, rfl, ?_, ?_⟩
            · first | exact (hb3.cell (by first | exact blk_lt (heap_alloc_new wr _))).trans hS | (obtain ⟨s0, s1, s2⟩ := hS; exact ⟨(hb3.cell (by first | exact blk_lt (heap_alloc_new wr _))).trans s0, (hb3.cell (by first | exact blk_lt (heap_alloc_new wr _))).trans s1, (hb3.cell (by first | exact blk_lt (heap_alloc_new wr _))).trans s2⟩)
            refine lin_norm (a' := ?_) ?_ ?_; rotate_left 1; (simp only [List.getElem_toArray, List.getElem_cons_zero, List.getElem_cons_succ, Act.put, List.setIfInBounds_toArray, List.set_cons_zero, List.set_cons_succ, H2.out]; rfl)
            repeat (first | (refine lin_take rfl rfl (by kernel_rfl) (fun _ _ _ h => h) (by rfl) (v := ?_) (a' := ?_) ?_ ?_ ?_; rotate_left 2; (rintro w' ⟨s0, s1, s2⟩; go_simp; with_reducible rfl); (simp only [List.getElem_toArray, List.getElem_cons_zero, List.getElem_cons_succ, Act.put, List.setIfInBounds_toArray, List.set_cons_zero, List.set_cons_succ]; rfl)) | (refine lin_off rfl rfl (by kernel_rfl) (fun _ _ _ h => h) (by rfl) (a' := ?_) ?_ ?_; rotate_left 1; (simp only [List.getElem_toArray, List.getElem_cons_zero, List.getElem_cons_succ, Act.put, List.setIfInBounds_toArray, List.set_cons_zero, List.set_cons_succ]; rfl)))
            refine lin_call rfl rfl rfl Tryz.func76 (by kernel_rfl) (by kernel_rfl) rfl (by rfl) (args := #[.slice (some ad) k c, vEn p.inside]) (by (try simp only [List.map_toArray, List.map_cons, List.map_nil]); first | done | rfl) (fun hS => ?_)
            refine (impl_port (some ad) k c (m.take k) p.inside _ (C_take' (Kd.C_below (w := w) HC.out (below_step ((by repeat (first | (with_reducible exact hb) | (with_reducible apply below_alloc) | (with_reducible apply pw_below_drewN) | (with_reducible apply below_drew1) | with_reducible refine below_set ?_ (by first | (with_reducible exact Nat.le_refl _) | (with_reducible assumption) | (simp; done) | omega | (simp; omega))))) hb3)) (Nat.le_of_lt hlt))).mono ?_
            rintro e w4 ⟨rfl, hb4⟩
            refine ⟨_, rfl, ?_, ?_⟩
            · first | exact (hb4.cell (by first | exact Nat.lt_of_lt_of_le (blk_lt (heap_alloc_new wr _)) hb3.size)).trans hS | (obtain ⟨s0, s1, s2⟩ := hS; exact ⟨(hb4.cell (by first | exact Nat.lt_of_lt_of_le (blk_lt (heap_alloc_new wr _)) hb3.size)).trans s0, (hb4.cell (by first | exact Nat.lt_of_lt_of_le (blk_lt (heap_alloc_new wr _)) hb3.size)).trans s1, (hb4.cell (by first | exact Nat.lt_of_lt_of_le (blk_lt (heap_alloc_new wr _)) hb3.size)).trans s2⟩)
            refine lin_norm (a' := ?_) ?_ ?_; rotate_left 1; (simp only [List.getElem_toArray, List.getElem_cons_zero, List.getElem_cons_succ, Act.put, List.setIfInBounds_toArray, List.set_cons_zero, List.set_cons_succ, H3.out]; rfl)
            repeat (first | (refine lin_take rfl rfl (by kernel_rfl) (fun _ _ _ h => h) (by rfl) (v := ?_) (a' := ?_) ?_ ?_ ?_; rotate_left 2; (rintro w' ⟨s0, s1, s2⟩; go_simp; with_reducible rfl); (simp only [List.getElem_toArray, List.getElem_cons_zero, List.getElem_cons_succ, Act.put, List.setIfInBounds_toArray, List.set_cons_zero, List.set_cons_succ]; rfl)) | (refine lin_off rfl rfl (by kernel_rfl) (fun _ _ _ h => h) (by rfl) (a' := ?_) ?_ ?_; rotate_left 1; (simp only [List.getElem_toArray, List.getElem_cons_zero, List.getElem_cons_succ, Act.put, List.setIfInBounds_toArray, List.set_cons_zero, List.set_cons_succ]; rfl)))
            refine lin_done (by kernel_rfl) ?_
            clear hw
            go_wp2
            go_roundw
            case rel => exact ⟨k + 1, by omega, by go_num, HF, below_step (below_step ((by repeat (first | (with_reducible exact hb) | (with_reducible apply below_alloc) | (with_reducible apply pw_below_drewN) | (with_reducible apply below_drew1) | with_reducible refine below_set ?_ (by first | (with_reducible exact Nat.le_refl _) | (with_reducible assumption) | (simp; done) | omega | (simp; omega))))) hb3) hb4⟩
            case measure => simp [intOf]; omega
          · have HF := Aside0.mk (mapOkB_no hlt (fun hg => h3 (hz.2 (by have := hg.2.2; rw [hp.out] at this; exact this))))
            have t5 : (portFrom (m.take k) p.inside 0 == 0) = false := beq_eq_false_iff_ne.2 h3
            have t6 : (portFrom (m.take k) p.inside 0 != 0) = true := bne_iff_ne.2 h3
            clear h1 h2 h3 hz
            go_wp2
            have hw : IntKind.i64.wrap (10 + (k : Int)) = 10 + k := IntWalk.i64_in _ (by omega)
            refine lin_start (fun w' => w'.cell? ⟨wr.heap.size, 0, none⟩ = some (.int .i64 p.port) ∧ w'.cell? ⟨wr.heap.size, 1, none⟩ = some (.int .i64 p.inside.addr) ∧ w'.cell? ⟨wr.heap.size, 2, none⟩ = some (.int .i64 p.inside.port)) (true, [([], []), ([0], [0]), ([], []), ([2], [2]), ([1, 3], [1, 3]), ([4], [4]), ([5], [5]), ([6, 5], [5, 6]), ([7, 5, 5], [5, 7]), ([8, 5], [5, 8]), ([5, 9], [5, 9]), ([10, 8], [10]), ([11], [11]), ([11], [11]), ([12, 13, 11], [11, 12, 13]), ([11], [11]), ([15, 11], [11, 15]), ([14, 16, 11, 11], [11, 14, 16]), ([17, 11], [11, 17]), ([11, 18], [11, 18])]) [0, 1, 2, 3, 4, 5, 6, 7, 8, 9, 10, 11, 12, 13, 14, 15, 16, 17, 18, 19] (by kernel_rfl) (by kernel_rfl) (by kernel_rfl) (by simp) ?_
            repeat (first | (refine lin_take rfl rfl (by kernel_rfl) (fun _ _ _ h => h) (by rfl) (v := ?_) (a' := ?_) ?_ ?_ ?_; rotate_left 2; (rintro w' ⟨s0, s1, s2⟩; go_simp; with_reducible rfl); (simp only [List.getElem_toArray, List.getElem_cons_zero, List.getElem_cons_succ, Act.put, List.setIfInBounds_toArray, List.set_cons_zero, List.set_cons_succ]; rfl)) | (refine lin_off rfl rfl (by kernel_rfl) (fun _ _ _ h => h) (by rfl) (a' := ?_) ?_ ?_; rotate_left 1; (simp only [List.getElem_toArray, List.getElem_cons_zero, List.getElem_cons_succ, Act.put, List.setIfInBounds_toArray, List.set_cons_zero, List.set_cons_succ]; rfl)))
            refine lin_call rfl rfl rfl Tryz.func75 (by kernel_rfl) (by kernel_rfl) rfl (by rfl) (args := #[vEn p.inside]) (by (try simp only [List.map_toArray, List.map_cons, List.map_nil]); first | done | rfl) (fun hS => ?_)
            refine (impl_EndInside p.inside _).mono ?_
            rintro e w3 ⟨rfl, hb3⟩
            refine ⟨_, rfl, ?_, ?_⟩
            · first | exact (hb3.cell (by first | exact blk_lt (heap_alloc_new wr _))).trans hS | (obtain ⟨s0, s1, s2⟩ := hS; exact ⟨(hb3.cell (by first | exact blk_lt (heap_alloc_new wr _))).trans s0, (hb3.cell (by first | exact blk_lt (heap_alloc_new wr _))).trans s1, (hb3.cell (by first | exact blk_lt (heap_alloc_new wr _))).trans s2⟩)
            refine lin_norm (a' := ?_) ?_ ?_; rotate_left 1; (simp only [List.getElem_toArray, List.getElem_cons_zero, List.getElem_cons_succ, Act.put, List.setIfInBounds_toArray, List.set_cons_zero, List.set_cons_succ, H2.out]; rfl)
            repeat (first | (refine lin_take rfl rfl (by kernel_rfl) (fun _ _ _ h => h) (by rfl) (v := ?_) (a' := ?_) ?_ ?_ ?_; rotate_left 2; (rintro w' ⟨s0, s1, s2⟩; go_simp; with_reducible rfl); (simp only [List.getElem_toArray, List.getElem_cons_zero, List.getElem_cons_succ, Act.put, List.setIfInBounds_toArray, List.set_cons_zero, List.set_cons_succ]; rfl)) | (refine lin_off rfl rfl (by kernel_rfl) (fun _ _ _ h => h) (by rfl) (a' := ?_) ?_ ?_; rotate_left 1; (simp only [List.getElem_toArray, List.getElem_cons_zero, List.getElem_cons_succ, Act.put, List.setIfInBounds_toArray, List.set_cons_zero, List.set_cons_succ]; rfl)))
            refine lin_call rfl rfl rfl Tryz.func76 (by kernel_rfl) (by kernel_rfl) rfl (by rfl) (args := #[.slice (some ad) k c, vEn p.inside]) (by (try simp only [List.map_toArray, List.map_cons, List.map_nil]); first | done | rfl) (fun hS => ?_)
            refine (impl_port (some ad) k c (m.take k) p.inside _ (C_take' (Kd.C_below (w := w) HC.out (below_step ((by repeat (first | (with_reducible exact hb) | (with_reducible apply below_alloc) | (with_reducible apply pw_below_drewN) | (with_reducible apply below_drew1) | with_reducible refine below_set ?_ (by first | (with_reducible exact Nat.le_refl _) | (with_reducible assumption) | (simp; done) | omega | (simp; omega))))) hb3)) (Nat.le_of_lt hlt))).mono ?_
            rintro e w4 ⟨rfl, hb4⟩
            refine ⟨_, rfl, ?_, ?_⟩
            · first | exact (hb4.cell (by first | exact Nat.lt_of_lt_of_le (blk_lt (heap_alloc_new wr _)) hb3.size)).trans hS | (obtain ⟨s0, s1, s2⟩ := hS; exact ⟨(hb4.cell (by first | exact Nat.lt_of_lt_of_le (blk_lt (heap_alloc_new wr _)) hb3.size)).trans s0, (hb4.cell (by first | exact Nat.lt_of_lt_of_le (blk_lt (heap_alloc_new wr _)) hb3.size)).trans s1, (hb4.cell (by first | exact Nat.lt_of_lt_of_le (blk_lt (heap_alloc_new wr _)) hb3.size)).trans s2⟩)
            refine lin_norm (a' := ?_) ?_ ?_; rotate_left 1; (simp only [List.getElem_toArray, List.getElem_cons_zero, List.getElem_cons_succ, Act.put, List.setIfInBounds_toArray, List.set_cons_zero, List.set_cons_succ]; rfl)
            repeat (first | (refine lin_take rfl rfl (by kernel_rfl) (fun _ _ _ h => h) (by rfl) (v := ?_) (a' := ?_) ?_ ?_ ?_; rotate_left 2; (rintro w' ⟨s0, s1, s2⟩; go_simp; with_reducible rfl); (simp only [List.getElem_toArray, List.getElem_cons_zero, List.getElem_cons_succ, Act.put, List.setIfInBounds_toArray, List.set_cons_zero, List.set_cons_succ]; rfl)) | (refine lin_off rfl rfl (by kernel_rfl) (fun _ _ _ h => h) (by rfl) (a' := ?_) ?_ ?_; rotate_left 1; (simp only [List.getElem_toArray, List.getElem_cons_zero, List.getElem_cons_succ, Act.put, List.setIfInBounds_toArray, List.set_cons_zero, List.set_cons_succ]; rfl)))
            refine lin_done (by kernel_rfl) ?_
            clear hw
            go_wp2
            go_ret
            exact ⟨ret_bool HF.out.symm, below_step (below_step ((by repeat (first | (with_reducible exact hb) | (with_reducible apply below_alloc) | (with_reducible apply pw_below_drewN) | (with_reducible apply below_drew1) | with_reducible refine below_set ?_ (by first | (with_reducible exact Nat.le_refl _) | (with_reducible assumption) | (simp; done) | omega | (simp; omega))))) hb3) hb4⟩
      · have t1 : (p.port == 10 + (k : Int)) = false := beq_eq_false_iff_ne.2 h1
        have t2 : (p.port != 10 + (k : Int)) = true := bne_iff_ne.2 h1
        have HF := Aside0.mk (mapOkB_no hlt (fun hg => h1 (by have := hg.1; rw [hp.out] at this; exact this)))
        clear h1
        go_wp2
        go_quiet (fail)
        go_wp2
        go_ret
        exact ⟨ret_bool HF.out.symm, by repeat (first | exact hb | apply below_alloc | apply pw_below_drewN | apply below_drew1)⟩
    · have HF := Aside0.mk (mapOkB_end hlt HP.out hk)
      go_wp2
      go_ret
      exact ⟨ret_bool HF.out.symm, hb⟩
end Go.Proofs.YtfjbjiklohjodaaGreatDoor.Z
namespace Go.Proofs.YtfjbjiklohjodaaGreatDoor.Z
open Go.RowKit Go.Proofs.YtfjbjiklohjodaaGreatDoorW.PrintWords
set_option linter.unusedVariables false
set_option linter.unusedSimpArgs false
attribute [local go_sem ↓] Go.wp_at_zero Go.wp_at_succ
attribute [local go_sem high] eqEn eqPr
set_option maxHeartbeats 2000000 in
theorem spec_MapOk (A : Option Addr) (n c : Nat) (m : List Pr) (w : World) (hC : Kd.C kPr w A n m) (hn : n ≤ 1099511627776) :
    Calls Tryz.prog 20 #[.slice A n c] w fun r w' => r = .returned (.bool (mapOkB m)) ∧ Below w.heap.size w w' := by
  obtain rfl : m.length = n := hC.1
  have HC := Aside0.mk hC; clear hC
  go_enter Tryz.func20, Tryz.ntmps20
  go_wp2
  go_loopw [3] (fun i w' => ∃ k : Nat, k ≤ m.length ∧ i = .int .i64 k ∧ Aside0 (okUpto m k) ∧ Below w.heap.size w w') (fun i _ => m.length - (intOf i).toNat)
  case atStart => exact ⟨0, Nat.zero_le _, rfl, ⟨fun i hi => absurd hi (Nat.not_lt_zero _)⟩, Below.refl _ _⟩
  case round =>
    obtain ⟨k, hk, rfl, HP, hb⟩ := hrel
    by_cases hlt : k < m.length
    · obtain ⟨ad, p, hA, hp, dL, d0, d1, d2⟩ := at_Pr (Kd.C_below HC.out hb) k hlt
      cases hA
      by_cases h1 : p.port = 10 + k
      · have t1 : (p.port == 10 + (k : Int)) = true := beq_iff_eq.2 h1
        have t2 : (p.port != 10 + (k : Int)) = false := by rw [bne_eq_false_iff_eq]; exact h1
        cases h2 : insideB p.inside
        · have HF := Aside0.mk (mapOkB_no hlt (fun hg => by have := hg.2.1; rw [hp.out, h2] at this; cases this))
          have H2 := Aside0.mk h2
          clear h1 h2
          go_wp2_with (go_at_call 72; refine (spec_EndInside p.inside _).mono ?_; rintro e w3 ⟨rfl, hb3⟩; rw [H2.out])
          go_ret
          exact ⟨ret_bool HF.out.symm, below_step hb hb3⟩
        · have H2 := Aside0.mk h2
          have HH := Aside0.mk (show p.port = 10 + (k : Int) ∧ insideB p.inside = true from ⟨h1, h2⟩)
          clear h1 h2
          go_wp2_with (go_at_call 72; refine (spec_EndInside p.inside _).mono ?_; rintro e w3 ⟨rfl, hb3⟩; rw [H2.out])
          replace hb := below_step hb hb3
          have D0 := (hb3.cell (World.block_lt_of_cell? _ _ d0)).trans d0
          have D1 := (hb3.cell (World.block_lt_of_cell? _ _ d1)).trans d1
          have D2 := (hb3.cell (World.block_lt_of_cell? _ _ d2)).trans d2
          clear d0 d1 d2 hb3 t1 t2
          obtain ⟨wo, rfl⟩ : ∃ wo : World, wo = w3 := ⟨_, rfl⟩
          go_loopw [4] (fun i w' => ∃ j : Nat, j ≤ k ∧ i = .int .i64 j ∧ Aside0 (∀ i, i < j → (m.getD i zPr).inside ≠ p.inside) ∧ Below wo.heap.size wo w') (fun i _ => k - (intOf i).toNat)
          case atStart => exact ⟨0, Nat.zero_le _, rfl, ⟨fun i hi => absurd hi (Nat.not_lt_zero _)⟩, Below.refl _ _⟩
          case round =>
            obtain ⟨j, hj, rfl, HJ, hb2⟩ := hrel
            have E0 := (hb2.cell (World.block_lt_of_cell? _ _ D0)).trans D0
            have E1 := (hb2.cell (World.block_lt_of_cell? _ _ D1)).trans D1
            have E2 := (hb2.cell (World.block_lt_of_cell? _ _ D2)).trans D2
            by_cases hjk : j < k
            · obtain ⟨ad2, q, hA2, hq, fL, f0, f1, f2⟩ := at_Pr (Kd.C_below HC.out (below_step hb hb2)) j (by omega)
              cases hA2
              have hj0 : (0 : Int) ≤ (j : Int) := Int.natCast_nonneg _
              have hj1 : (j : Int) < (m.length : Int) := by omega
              have hk0 : (0 : Int) ≤ (k : Int) := Int.natCast_nonneg _
              have hk1 : (k : Int) < (m.length : Int) := by omega
              by_cases he : q.inside = p.inside
              · have ht := En_beq he
                have HF := Aside0.mk (mapOkB_no hlt (fun hg => by have := hg.2.2 j hjk; rw [hp.out, hq.out] at this; exact this he))
                clear he
                go_wp2
                go_quiet (fail)
                go_wp2
                go_ret
                exact ⟨ret_bool HF.out.symm, below_step hb ((by repeat (first | (with_reducible exact hb2) | (with_reducible apply below_alloc) | (with_reducible apply pw_below_drewN) | (with_reducible apply below_drew1) | with_reducible refine below_set ?_ (by first | (with_reducible exact Nat.le_refl _) | (with_reducible assumption) | (simp; done) | omega | (simp; omega)))))⟩
              · have ht := En_bne he
                have HF := Aside0.mk (show ∀ i, i < j + 1 → (m.getD i zPr).inside ≠ p.inside from fun i hi => by
                  rcases Nat.lt_succ_iff_lt_or_eq.1 hi with h | h
                  · exact HJ.out i h
                  · subst h; rw [hq.out]; exact he)
                clear he
                go_wp2
                go_quiet (fail)
                go_wp2
                go_roundw
                case rel => exact ⟨j + 1, by omega, by go_num, HF, ((by repeat (first | (with_reducible exact hb2) | (with_reducible apply below_alloc) | (with_reducible apply pw_below_drewN) | (with_reducible apply below_drew1) | with_reducible refine below_set ?_ (by first | (with_reducible exact Nat.le_refl _) | (with_reducible assumption) | (simp; done) | omega | (simp; omega)))))⟩
                case measure => simp [intOf]; omega
            · have HF := Aside0.mk (okUpto_succ HP.out (show goodAt m k from ⟨by rw [hp.out]; exact HH.out.1, by rw [hp.out]; exact HH.out.2, fun i hi => by rw [hp.out]; exact HJ.out i (by omega)⟩))
              clear E0 E1 E2 D0 D1 D2
              go_wp2
              go_roundw
              case rel => exact ⟨k + 1, by omega, by go_num, HF, below_step hb hb2⟩
              case measure => simp [intOf]; omega
      · have t1 : (p.port == 10 + (k : Int)) = false := beq_eq_false_iff_ne.2 h1
        have t2 : (p.port != 10 + (k : Int)) = true := bne_iff_ne.2 h1
        have HF := Aside0.mk (mapOkB_no hlt (fun hg => h1 (by have := hg.1; rw [hp.out] at this; exact this)))
        clear h1
        go_wp2
        go_ret
        exact ⟨ret_bool HF.out.symm, hb⟩
    · have HF := Aside0.mk (mapOkB_end hlt HP.out hk)
      go_wp2
      go_ret
      exact ⟨ret_bool HF.out.symm, hb⟩
end Go.Proofs.YtfjbjiklohjodaaGreatDoor.Z
namespace Go.Proofs.YtfjbjiklohjodaaGreatDoor.Z
open Go.RowKit Go.Proofs.YtfjbjiklohjodaaGreatDoorW.PrintWords
set_option linter.unusedVariables false
set_option linter.unusedSimpArgs false
attribute [local go_sem ↓] Go.wp_at_zero Go.wp_at_succ
attribute [local go_sem high] eqEn eqPr
def insideFrom (m : List Pr) (port : Int) (k : Nat) : Option En := ((m.drop k).find? (fun p => decide (p.port = port))).map (·.inside)
theorem insideFrom_end (m : List Pr) (port : Int) (k : Nat) (h : m.length ≤ k) : insideFrom m port k = none := by
  unfold insideFrom; rw [List.drop_of_length_le h]; rfl
theorem insideFrom_hit {m : List Pr} {port : Int} {k : Nat} {p : Pr} (h : k < m.length) (hp : Aside0 (m.getD k zPr = p)) (he : p.port = port) : insideFrom m port k = some p.inside := by
  obtain rfl := hp.out
  unfold insideFrom; rw [drop_getD m zPr k h, List.find?_cons]; simp only [he, decide_true]; rfl
theorem insideFrom_miss {m : List Pr} {port : Int} {k : Nat} {p : Pr} (h : k < m.length) (hp : Aside0 (m.getD k zPr = p)) (he : p.port ≠ port) : insideFrom m port k = insideFrom m port (k + 1) := by
  obtain rfl := hp.out
  unfold insideFrom; rw [drop_getD m zPr k h, List.find?_cons]; simp only [he, decide_false]
abbrev vOpt (o : Option En) : Value := .tuple #[vEn (o.getD zEn), .bool o.isSome]
set_option maxHeartbeats 1000000 in
theorem impl_inside (A : Option Addr) (n c : Nat) (m : List Pr) (port : Int) (w : World) (hC : Kd.C kPr w A n m) :
    Calls Tryz.prog 175 #[.slice A n c, .int .i64 port] w fun r w' => r = .returned (vOpt (insideFrom m port 0)) ∧ Below w.heap.size w w' := by
  obtain rfl : m.length = n := hC.1
  have hm := max_len hC
  have HC := Aside0.mk hC; clear hC
  go_enter Tryz.func175, Tryz.ntmps175
  go_wp2
  go_loopw [10] (fun i w' => ∃ k : Nat, k ≤ m.length ∧ i = .int .i64 k ∧ Aside0 (insideFrom m port k = insideFrom m port 0) ∧ Aside0 (w'.heap[w.heap.size]? = some (.cells #[.int .i64 0, .int .i64 0] 62 (0, 0))) ∧ Below w.heap.size w w') (fun i _ => m.length - (intOf i).toNat)
  case atStart => exact ⟨0, Nat.zero_le _, rfl, ⟨rfl⟩, ⟨heap_alloc_new w _⟩, (Below.refl _ _).alloc (Nat.le_refl _) _⟩
  case round =>
    obtain ⟨k, hk, rfl, HP, HX, hb⟩ := hrel
    have c0 : wr.cell? ⟨w.heap.size, 0, none⟩ = some (.int .i64 0) := (blk_cell HX.out 0).trans rfl
    have c1 : wr.cell? ⟨w.heap.size, 1, none⟩ = some (.int .i64 0) := (blk_cell HX.out 1).trans rfl
    have z0 := blk_frozen HX.out 0
    have z1 := blk_frozen HX.out 1
    have hz := blk_lt HX.out
    by_cases hlt : k < m.length
    · obtain ⟨ad, p, hA, hp, dL, d0, d1, d2⟩ := at_Pr (Kd.C_below HC.out hb) k hlt
      cases hA
      by_cases he : p.port = port
      · have ht : (p.port == port) = true := beq_iff_eq.2 he
        have HF := Aside0.mk ((insideFrom_hit hlt hp he).symm.trans HP.out)
        clear he
        go_wp2
        refine bodyPost_ret (v := vOpt (some p.inside)) (by simp [results, Tryz.results175, go_sem, zEn, *]) rfl ⟨by rw [HF.out], (by repeat (first | (with_reducible exact hb) | (with_reducible apply below_alloc) | (with_reducible apply pw_below_drewN) | (with_reducible apply below_drew1) | with_reducible refine below_set ?_ (by first | (with_reducible exact Nat.le_refl _) | (with_reducible assumption) | (simp; done) | omega | (simp; omega))))⟩
      · have ht : (p.port == port) = false := beq_eq_false_iff_ne.2 he
        have HF := Aside0.mk ((insideFrom_miss hlt hp he).symm.trans HP.out)
        clear he
        go_wp2
        go_roundw
        case rel => exact ⟨k + 1, by omega, by go_num, HF, ⟨blk_alloc HX.out _⟩, hb.alloc hb.size _⟩
        case measure => simp [intOf]; omega
    · have HF := Aside0.mk ((insideFrom_end m port k (by omega)).symm.trans HP.out)
      go_wp2
      refine bodyPost_ret (v := vOpt none) (by simp [results, Tryz.results175, go_sem, zEn, *]) rfl ⟨by rw [HF.out], (by repeat (first | (with_reducible exact hb) | (with_reducible apply below_alloc) | (with_reducible apply pw_below_drewN) | (with_reducible apply below_drew1) | with_reducible refine below_set ?_ (by first | (with_reducible exact Nat.le_refl _) | (with_reducible assumption) | (simp; done) | omega | (simp; omega))))⟩
def l3InO (m : List Pr) (port : Int) : Option En := if 10 ≤ port ∧ port - 10 < m.length then some (m.getD (port - 10).toNat zPr).inside else none
theorem spec_l3In (A : Option Addr) (n c : Nat) (m : List Pr) (port : Int) (w : World) (hC : Kd.C kPr w A n m) (hn : n ≤ 1099511627776) (hp : -9223372036854775808 ≤ port ∧ port ≤ 9223372036854775807) :
    Calls Tryz.prog 168 #[.slice A n c, .int .i64 port] w fun r w' => r = .returned (vOpt (l3InO m port)) ∧ Below w.heap.size w w' := by
  obtain rfl : m.length = n := hC.1
  obtain ⟨i, hi⟩ : ∃ i, i = wrap64 (port - 10) := ⟨_, rfl⟩
  have hi2 : (10 ≤ port ∧ i = port - 10) ∨ (port < 10 ∧ (i < 0 ∨ 1099511627776 < i)) := by unfold wrap64 at hi; omega
  by_cases h1 : 10 ≤ port ∧ port - 10 < m.length
  · have hin : inB (port - 10) 0 ((m.length : Int) - 1) = true := by unfold inB; simp; omega
    have HV := Aside0.mk (show l3InO m port = some (m.getD (port - 10).toNat zPr).inside by unfold l3InO; rw [if_pos h1])
    obtain ⟨k, hk⟩ : ∃ k : Nat, port - 10 = k := ⟨(port - 10).toNat, by omega⟩
    obtain rfl : port = (k : Int) + 10 := by omega
    have e1 : ((k : Int) + 10 - 10) = k := by omega
    rw [e1] at HV hin
    obtain ⟨ad, p, hA, hp2, dL, d0, d1, d2⟩ := at_Pr hC k (by omega)
    cases hA
    have hk0 : (0 : Int) ≤ (k : Int) := by omega
    have hk1 : (k : Int) < (m.length : Int) := by omega
    have HI := Aside0.mk hin
    clear hin hi hi2 hk h1
    go_enter Tryz.func168, Tryz.ntmps168
    go_wp2_with (go_at_call 63; (try rw [e1]); refine (spec_l6In _ _ _ _).mono ?_; rintro e w1 ⟨rfl, rfl⟩; rw [HI.out])
    refine bodyPost_ret (v := vOpt (some p.inside)) (by simp [results, Tryz.results168, go_sem, zEn, *]) rfl ⟨by rw [HV.out, Int.toNat_natCast, hp2.out], (by repeat (first | (with_reducible exact (Below.refl _ _)) | (with_reducible apply below_alloc) | (with_reducible apply pw_below_drewN) | (with_reducible apply below_drew1) | with_reducible refine below_set ?_ (by first | (with_reducible exact Nat.le_refl _) | (with_reducible assumption) | (simp; done) | omega | (simp; omega))))⟩
  · have hin : inB i 0 ((m.length : Int) - 1) = false := by
      unfold inB; rw [Bool.and_eq_false_iff]; rcases hi2 with ⟨a, b⟩ | ⟨a, b | b⟩
      · right; simp; omega
      · left; simp; omega
      · right; simp; omega
    have HV := Aside0.mk (show l3InO m port = none by unfold l3InO; rw [if_neg h1])
    subst hi
    have HI := Aside0.mk hin
    clear hin hi2 h1
    by_cases hp3 : -9223372036854775808 ≤ port - 10
    · have e1 : wrap64 (port - 10) = port - 10 := by unfold wrap64; omega
      rw [e1] at HI
      clear e1
      go_enter Tryz.func168, Tryz.ntmps168
      go_wp2_with (go_at_call 63; refine (spec_l6In _ _ _ _).mono ?_; rintro e w1 ⟨rfl, rfl⟩; rw [HI.out])
      refine bodyPost_ret (v := vOpt none) (by simp [results, Tryz.results168, go_sem, zEn, *]) rfl ⟨by rw [HV.out], (by repeat (first | (with_reducible exact (Below.refl _ _)) | (with_reducible apply below_alloc) | (with_reducible apply pw_below_drewN) | (with_reducible apply below_drew1) | with_reducible refine below_set ?_ (by first | (with_reducible exact Nat.le_refl _) | (with_reducible assumption) | (simp; done) | omega | (simp; omega))))⟩
    · go_enter Tryz.func168, Tryz.ntmps168
      go_wp2_with (go_at_call 63; refine (spec_l6In _ _ _ _).mono ?_; rintro e w1 ⟨rfl, rfl⟩; rw [HI.out])
      refine bodyPost_ret (v := vOpt none) (by simp [results, Tryz.results168, go_sem, zEn, *]) rfl ⟨by rw [HV.out], (by repeat (first | (with_reducible exact (Below.refl _ _)) | (with_reducible apply below_alloc) | (with_reducible apply pw_below_drewN) | (with_reducible apply below_drew1) | with_reducible refine below_set ?_ (by first | (with_reducible exact Nat.le_refl _) | (with_reducible assumption) | (simp; done) | omega | (simp; omega))))⟩
end Go.Proofs.YtfjbjiklohjodaaGreatDoor.Z
namespace Go.Proofs.YtfjbjiklohjodaaGreatDoor.Z
open Go.RowKit Go.Proofs.YtfjbjiklohjodaaGreatDoorW.PrintWords Go.Proofs.YtfjbjiklohjodaaGreatDoorW.PrintLast
set_option linter.unusedVariables false
set_option linter.unusedSimpArgs false
attribute [local go_sem ↓] Go.wp_at_zero Go.wp_at_succ
attribute [local go_sem high] bytes_append
def Vars (w : World) : Prop := (∃ m, w.cell? ⟨0, 0, none⟩ = some (.int .i64 m)) ∧ (∃ tp p, w.var? Tryz.prog "strconv.ErrSyntax" = some #[.iface tp p]) ∧ (∃ tp p, w.var? Tryz.prog "strconv.ErrRange" = some #[.iface tp p])
def gTop : Nat := max 0 (max 1 2) + 1
theorem gSyntax : Tryz.prog.globalNamed "strconv.ErrSyntax" = some 1 := by kernel_rfl
theorem gRange : Tryz.prog.globalNamed "strconv.ErrRange" = some 2 := by kernel_rfl
theorem Vars.below {w w' : World} {B : Nat} (h : Vars w) (hb : Below B w w') (hB : gTop ≤ B) : Vars w' := by
  unfold gTop at hB
  obtain ⟨⟨m, h1⟩, ⟨tp, p, h2⟩, ⟨tp2, p2, h3⟩⟩ := h
  exact ⟨⟨m, (hb.cell (p := ⟨0, 0, none⟩) (by show 0 < B; omega)).trans h1⟩, ⟨tp, p, var?_below hb gSyntax (by omega) h2⟩, ⟨tp2, p2, var?_below hb gRange (by omega) h3⟩⟩
def VarsIn (w : World) : Prop := Vars w ∧ gTop ≤ w.heap.size
theorem VarsIn.below {w w' : World} {B : Nat} (h : VarsIn w) (hb : Below B w w') (hB : gTop ≤ B) : VarsIn w' := ⟨h.1.below hb hB, Nat.le_trans h.2 hb.size⟩
theorem VarsIn.next {w w' : World} (h : VarsIn w) (hb : Below w.heap.size w w') : VarsIn w' := h.below hb h.2
theorem parse_text : ∀ e ∈ allEnds, Go.Lib.cut (endText e) [58] = (dec2 e.addr.toNat, dec2 e.port.toNat, true) ∧ Go.Lib.atoiAll (dec2 e.addr.toNat) = .ok e.addr ∧ Go.Lib.atoiAll (dec2 e.port.toNat) = .ok e.port := by decide +kernel
theorem atoi (l : List UInt8) (hl : l.length ≤ 100000000) (w : World) (hv : VarsIn w) :
    Calls Tryz.prog 194 #[vS l] w fun r w' => ∃ x ev, r = .returned (.tuple #[.int .i64 x, ev]) ∧ ((Go.Lib.atoiAll l = .ok x ∧ ev = .nilIface) ∨ ((∀ v, Go.Lib.atoiAll l ≠ .ok v) ∧ ∃ t p, ev = .iface t p)) ∧ Below w.heap.size w w' := by
  obtain ⟨⟨_, ⟨tp, p, h2⟩, ⟨tp2, p2, h3⟩⟩, _⟩ := hv
  have hs : (⟨l.toArray⟩ : ByteArray).size = l.length := rfl
  cases h : Go.Lib.atoiAll l
  case ok v =>
    refine (Tryz.strconv_Atoi_ok ⟨l.toArray⟩ (by rw [hs]; omega) v h w).mono ?_
    rintro r w' ⟨rfl, hw⟩
    refine ⟨v, .nilIface, rfl, .inl ⟨rfl, rfl⟩, ?_⟩
    rcases hw with rfl | ⟨t, rfl⟩
    · exact Below.refl _ _
    · exact Go.Lib.bytesWorld_below w _ _
  · refine (Tryz.strconv_Atoi_syntax_var ⟨l.toArray⟩ (by rw [hs]; omega) h tp p w h2).mono ?_
    rintro r w' ⟨N, rfl, _, _, hb⟩
    exact ⟨_, _, rfl, .inr ⟨fun v e => (by cases e), _, _, rfl⟩, hb⟩
  case range =>
    refine (Tryz.strconv_Atoi_range_var ⟨l.toArray⟩ (by rw [hs]; omega) h tp2 p2 w h3).mono ?_
    rintro r w' ⟨N, rfl, _, _, hb⟩
    exact ⟨_, _, rfl, .inr ⟨fun v e => (by cases e), _, _, rfl⟩, hb⟩
theorem endRead_fail {l : List UInt8} (h : ∀ a p, Go.Lib.atoiAll (Go.Lib.cut l [58]).1 = .ok a → Go.Lib.atoiAll (Go.Lib.cut l [58]).2.1 = .ok p → anyB ⟨a, p⟩ = true → endText ⟨a, p⟩ ≠ l) : endRead l = none := by
  refine endRead_none (fun e he ht => ?_)
  obtain ⟨h1, h2, h3⟩ := parse_text e (anyB_mem he)
  rw [ht] at h1
  exact h e.addr e.port (by rw [h1]; exact h2) (by rw [h1]; exact h3) he ht
theorem cut_len (l : List UInt8) : (Go.Lib.cut l [58]).1.length ≤ l.length ∧ (Go.Lib.cut l [58]).2.1.length ≤ l.length := by
  unfold Go.Lib.cut
  split
  · simp only [List.length_take, List.length_drop]; omega
  · simp
theorem box_as (w : World) (o : Obj) : ∃ wb, wb = w.alloc o ∧ Below w.heap.size w wb ∧ wb.heap[w.heap.size]? = some o ∧ w.heap.size < wb.heap.size :=
  ⟨_, rfl, below_alloc (Below.refl _ _) _, heap_alloc_new w o, blk_lt (heap_alloc_new w o)⟩
set_option maxHeartbeats 2000000 in
theorem impl_EndRead (l : List UInt8) (hl : l.length ≤ 100000000) (w : World) (hv : VarsIn w) :
    Calls Tryz.prog 187 #[vS l] w fun r w' => r = .returned (vOpt (endRead l)) ∧ Below w.heap.size w w' := by
  have hF := Aside0.mk (@endRead_fail l)
  obtain ⟨cl1, cl2⟩ := cut_len l
  have bk := heap_alloc_new w (.cells #[.int .i64 0, .int .i64 0] 62)
  obtain ⟨⟨⟨m, hm⟩, _⟩, _⟩ := hv.next (below_alloc (Below.refl _ _) (.cells #[.int .i64 0, .int .i64 0] 62))
  have hcut := Aside0.mk (Tryz.strings_Cut ⟨l.toArray⟩ ⟨#[58]⟩ m (w.alloc (.cells #[.int .i64 0, .int .i64 0] 62)) (by show l.length < _; omega) hm)
  clear hm
  obtain ⟨x1, hx1⟩ : ∃ x, (Go.Lib.cut l [58]).1 = x := ⟨_, rfl⟩
  obtain ⟨x2, hx2⟩ : ∃ x, (Go.Lib.cut l [58]).2.1 = x := ⟨_, rfl⟩
  obtain ⟨x3, hx3⟩ : ∃ x, (Go.Lib.cut l [58]).2.2 = x := ⟨_, rfl⟩
  rw [hx1] at hF cl1
  rw [hx2] at hF cl2
  simp only [List.toList_toArray] at hcut
  rw [hx1, hx2, hx3] at hcut
  clear hx1 hx2 hx3
  have hb0 : Below w.heap.size w (w.alloc (.cells #[.int .i64 0, .int .i64 0] 62)) := below_alloc (Below.refl _ _) _
  go_enter Tryz.func187, Tryz.ntmps187
  go_wp2_with (go_at_call 186; refine hcut.out.mono ?_; rintro r w1 ⟨rfl, k, rfl⟩)
  have hbd := pw_below_drewN hb0 k
  refine (atoi x1 (by omega) _ (hv.below hbd hv.2)).mono ?_
  rintro r w2 ⟨a, ev1, rfl, hc1, hb2⟩
  replace bk := (hb2.block w.heap.size (by show w.heap.size < (w.alloc _).heap.size; simp)).trans bk
  have hz0 : w.heap.size < w2.heap.size := blk_lt bk
  replace hb2 : Below w.heap.size w w2 := below_step hbd hb2
  go_wp2_with fail; refine (atoi x2 (by omega) _ (hv.below hb2 hv.2)).mono ?_; rintro r w3 ⟨p, ev2, rfl, hc2, hb3⟩
  have hz3 := hb3.size
  replace bk := (hb3.block _ hz0).trans bk
  have hB3 : Below w.heap.size w w3 := below_step hb2 hb3
  go_upto_region 5 with fail
  obtain ⟨wb, hwb, hbb, bk2, hzb⟩ := box_as w3 (.cells #[.int .i64 a, .int .i64 p] 62)
  rw [← hwb]
  clear hwb
  replace bk := (hbb.block _ (by omega)).trans bk
  have hBb : Below w.heap.size w wb := below_step hB3 hbb
  have c0 : wb.cell? ⟨w.heap.size, 0, none⟩ = some (.int .i64 0) := (blk_cell bk 0).trans rfl
  have c1 : wb.cell? ⟨w.heap.size, 1, none⟩ = some (.int .i64 0) := (blk_cell bk 1).trans rfl
  have f0 := blk_frozen bk 0
  have f1 := blk_frozen bk 1
  have e0 : wb.cell? ⟨w3.heap.size, 0, none⟩ = some (.int .i64 a) := (blk_cell bk2 0).trans rfl
  have e1 : wb.cell? ⟨w3.heap.size, 1, none⟩ = some (.int .i64 p) := (blk_cell bk2 1).trans rfl
  rcases hc1 with ⟨h1, rfl⟩ | ⟨h1, t, pv, rfl⟩
  · rcases hc2 with ⟨h2, rfl⟩ | ⟨h2, t, pv, rfl⟩
    · go_wp2_with fail; refine (impl_any ⟨a, p⟩ _).mono ?_; rintro r w4 ⟨rfl, hb4⟩
      have hz4 := hb4.size
      replace bk := (hb4.block _ (by omega)).trans bk
      replace bk2 := (hb4.block _ hzb).trans bk2
      have hB4 : Below w.heap.size w w4 := below_step hBb hb4
      have c0 : w4.cell? ⟨w.heap.size, 0, none⟩ = some (.int .i64 0) := (blk_cell bk 0).trans rfl
      have c1 : w4.cell? ⟨w.heap.size, 1, none⟩ = some (.int .i64 0) := (blk_cell bk 1).trans rfl
      have f0 := blk_frozen bk 0
      have f1 := blk_frozen bk 1
      have e0 : w4.cell? ⟨w3.heap.size, 0, none⟩ = some (.int .i64 a) := (blk_cell bk2 0).trans rfl
      have e1 : w4.cell? ⟨w3.heap.size, 1, none⟩ = some (.int .i64 p) := (blk_cell bk2 1).trans rfl
      cases hany : anyB ⟨a, p⟩
      · have HN := Aside0.mk (hF.out (fun a' p' e1 e2 e3 => by
          rw [h1] at e1; rw [h2] at e2
          cases e1; cases e2
          rw [hany] at e3; cases e3))
        clear hF h1 h2 hany
        clear bk
        go_wp2
        refine bodyPost_ret (v := (vOpt none)) (by simp [results, Tryz.results187, go_sem, zEn, *]) rfl ⟨by rw [HN.out], ((hB4).setCell (Nat.le_refl _) _).setCell (Nat.le_refl _) _⟩
      · go_wp2_with fail; refine (impl_EndText ⟨a, p⟩ _).mono ?_; rintro r w5 ⟨rfl, hb5⟩
        have hz5 := hb5.size
        replace bk := (hb5.block _ (by omega)).trans bk
        replace bk2 := (hb5.block _ (by omega)).trans bk2
        have hB5 : Below w.heap.size w w5 := below_step hB4 hb5
        have c0 : w5.cell? ⟨w.heap.size, 0, none⟩ = some (.int .i64 0) := (blk_cell bk 0).trans rfl
        have c1 : w5.cell? ⟨w.heap.size, 1, none⟩ = some (.int .i64 0) := (blk_cell bk 1).trans rfl
        have f0 := blk_frozen bk 0
        have f1 := blk_frozen bk 1
        have e0 : w5.cell? ⟨w3.heap.size, 0, none⟩ = some (.int .i64 a) := (blk_cell bk2 0).trans rfl
        have e1 : w5.cell? ⟨w3.heap.size, 1, none⟩ = some (.int .i64 p) := (blk_cell bk2 1).trans rfl
        by_cases ht : endText ⟨a, p⟩ = l
        · have HN := Aside0.mk (show endRead l = some ⟨a, p⟩ from by rw [← ht]; exact endRead_of hany)
          have he : (endText ⟨a, p⟩ == l) = true := beq_iff_eq.2 ht
          clear bk bk2 hF ht
          go_wp2
          refine bodyPost_ret (v := (vOpt (some ⟨a, p⟩))) (by simp [results, Tryz.results187, go_sem, zEn, *]) rfl ⟨by rw [HN.out], ((hB5).setCell (Nat.le_refl _) _).setCell (Nat.le_refl _) _⟩
        · have HN := Aside0.mk (hF.out (fun a' p' e1 e2 e3 => by
            rw [h1] at e1; rw [h2] at e2
            cases e1; cases e2
            exact ht))
          have he : (endText ⟨a, p⟩ == l) = false := beq_eq_false_iff_ne.2 ht
          clear bk bk2 hF ht
          go_wp2
          refine bodyPost_ret (v := (vOpt none)) (by simp [results, Tryz.results187, go_sem, zEn, *]) rfl ⟨by rw [HN.out], ((hB5).setCell (Nat.le_refl _) _).setCell (Nat.le_refl _) _⟩
    · have HN := Aside0.mk (hF.out (fun a' p' e1 e2 e3 => absurd e2 (h2 _)))
      clear hF h1 h2
      clear bk
      go_wp2
      refine bodyPost_ret (v := (vOpt none)) (by simp [results, Tryz.results187, go_sem, zEn, *]) rfl ⟨by rw [HN.out], ((hBb).setCell (Nat.le_refl _) _).setCell (Nat.le_refl _) _⟩
  · have HN := Aside0.mk (hF.out (fun a' p' e1 e2 e3 => absurd e1 (h1 _)))
    clear hF h1
    clear bk
    go_wp2
    refine bodyPost_ret (v := (vOpt none)) (by simp [results, Tryz.results187, go_sem, zEn, *]) rfl ⟨by rw [HN.out], ((hBb).setCell (Nat.le_refl _) _).setCell (Nat.le_refl _) _⟩
end Go.Proofs.YtfjbjiklohjodaaGreatDoor.Z
namespace Go.Proofs.YtfjbjiklohjodaaGreatDoor.Z
open Go.RowKit
set_option linter.unusedVariables false
theorem wrap_laid {H : Type} {enc : TypeId × Value → H} {a : Assume} {C : Checked} {os : Os} {f : FuncId} {fn : Func} {s : ChangeSpec} {conds : List PathCond} {apart fresh handsOn again : Bool} {X : World → Array Value → Prop}
    (hX : ∀ (w w' : World) (args : Array Value), w.heap = w'.heap → X w args → X w' args)
    (own : ownKnob C.prog.godebug = none) (started : os.Started) (noInit : C.prog.inits.idxOf? f = none) (hfn : C.prog.funcs[f]? = some fn)
    (witness : ∃ (w : World) (tape : Tape) (i : Input), w.os = os ∧ (w.forCall tape i).Shaped C.prog ∧ i.vars = [] ∧ Input.okWide C.prog (w.forCall tape i) .any w.heap.size f i ∧
      ((s.pre enc C.prog fn conds apart (w.forCall tape i).memory i.args ∧ X (w.forCall tape i).memory i.args) ∧ sizedMet enc C.prog fn (OpenSpec.ofChange s) apart (w.forCall tape i).memory i.args) ∧ a.holds C.prog (lone (Frame.enter C.prog f i.args .normal) [] (w.forCall tape i)))
    (walk : ∀ (W : World) (base : Nat) (args : Array Value) (ds gs : List (DataW H)) (before : List MemPlace),
      (∀ (j : Nat) t v, fn.params[j]? = some t → args[j]? = some v → Value.okWide C.prog W .any base t v) →
      DataW.Whole enc C.prog fn.params.toList s.vars apart W args.toList ds gs before → X W args → W.ShapedOpen C.prog →
      Calls C.prog f args W fun e W' => ∃ v, e = .returned v ∧ s.post enc C.prog fn apart fresh handsOn again W args v W') :
    ReturnsInHanded a C os f .any (fun w args => (s.pre enc C.prog fn conds apart w args ∧ X w args) ∧ sizedMet enc C.prog fn (OpenSpec.ofChange s) apart w args) (s.post enc C.prog fn apart fresh handsOn again) := by
  refine returnsInHanded_of_calls own started noInit witness (fun w tape i _ shape _ ok pre _ => ?_)
  obtain ⟨_, _, _, fn', e, _, _, _, _, val⟩ := ok
  obtain rfl : fn' = fn := Option.some.inj (e.symm.trans hfn)
  obtain ⟨⟨⟨ds, gs, before, whole, _⟩, x⟩, _⟩ := pre
  refine (walk (w.forCall tape i) w.heap.size i.args ds gs before val (DataW.Whole.of_heap (w' := w.forCall tape i) (by rfl) whole) (hX _ _ _ (by rfl) x) shape).mono ?_
  rintro e W' ⟨v, rfl, post⟩
  exact ChangeSpec.post_blind post
abbrev laidL : List (String × DataW Unit) := [("math/bits.deBruijn32tab", Rows.laid_math_bits_deBruijn32tab), ("math/bits.deBruijn64tab", Rows.laid_math_bits_deBruijn64tab), ("internal/strconv.uint64pow10", Rows.laid_internal_strconv_uint64pow10), ("strconv.ErrRange", Rows.laid_strconv_ErrRange), ("strconv.ErrSyntax", Rows.laid_strconv_ErrSyntax)]
theorem tRange : (Tryz.prog.globals[2]?).map (·.type) = some 175 := by kernel_rfl
theorem tSyntax : (Tryz.prog.globals[1]?).map (·.type) = some 175 := by kernel_rfl
theorem err_of {W : World} {n : String} {g0 g : Nat} {t : TypeId} {cs : Array Value} {fu : Nat} {name : String} {d : DataW Unit} {p : List MemPlace} {enc : TypeId × Value → Unit} (e0 : Tryz.prog.globalNamed n = some g0) (t0 : (Tryz.prog.globals[g0]?).map (·.type) = some 175)
    (hg : Tryz.prog.globalNamed n = some g) (ht : (Tryz.prog.globals[g]?).map (·.type) = some t) (hv : W.var? Tryz.prog n = some cs) {sp : Nat → Bool} (hd : DataW.trod enc Tryz.prog W 0 sp false fu t cs.toList = some (.iface name d, p)) :
    (∃ tp q, W.var? Tryz.prog n = some #[.iface tp q]) ∧ g0 < W.heap.size := by
  obtain rfl := Option.some.inj (e0.symm.trans hg)
  obtain rfl := Option.some.inj (t0.symm.trans ht)
  obtain ⟨l⟩ := cs
  obtain ⟨_, u, v, e, _, _⟩ := iface_of_trod Tryz.underlying175 hd
  have e1 : l = [.iface u v] := e
  subst e1
  refine ⟨⟨u, v, hv⟩, ?_⟩
  have h1 := World.var?_cell hg hv 0
  exact World.block_lt_of_cell? W ⟨g0, 0, none⟩ (h1.trans rfl)
theorem vars_of {W : World} (h : laidMetH Tryz.prog laidL W) (hs : W.ShapedOpen Tryz.prog) : VarsIn W := by
  rw [MakeChecks.laidMetH_plain _ _ _ (by kernel_rfl)] at h
  obtain ⟨ps, ⟨g0, t0, cs0, f0, p0, q0, hg0, ht0, hv0, hd0, ⟨g1, t1, cs1, f1, p1, q1, hg1, ht1, hv1, hd1, ⟨g2, t2, cs2, f2, p2, q2, hg2, ht2, hv2, hd2, ⟨g3, t3, cs3, f3, p3, q3, hg3, ht3, hv3, hd3, ⟨g4, t4, cs4, f4, p4, q4, hg4, ht4, hv4, hd4, _, _⟩, _⟩, _⟩, _⟩, _⟩, _, _⟩ := h
  obtain ⟨r1, r2⟩ := err_of gRange tRange hg3 ht3 hv3 hd3
  obtain ⟨s1, s2⟩ := err_of gSyntax tSyntax hg4 ht4 hv4 hd4
  obtain ⟨m, hm⟩ := cell_of_shapedOpen_int (P := Tryz.prog) (g := 0) (t := 3) (zero := #[.int .i64 0]) hs (of_decide_eq_true (by kernel_rfl)) (by kernel_rfl) rfl (by kernel_rfl) (by kernel_rfl) Tryz.underlying3
  have h3 : 0 < W.heap.size := World.block_lt_of_cell? W ⟨0, 0, none⟩ hm
  exact ⟨⟨⟨m, hm⟩, s1, r1⟩, by unfold gTop; omega⟩
theorem laid_met (os : Os) (args : Array Value) : laidMetH Tryz.prog laidL ((World.laidAll Tryz.prog os laidL).forCall (fun _ _ => 0) ⟨#[], args, []⟩).memory := by
  rw [MakeChecks.laidMetH_plain _ _ _ (by kernel_rfl)]
  exact laidMet_laidAll _ (by kernel_rfl) (by kernel_rfl)
end Go.Proofs.YtfjbjiklohjodaaGreatDoor.Z
namespace Go.Proofs.YtfjbjiklohjodaaGreatDoor.Q
open Go.RowKit Go.Proofs.YtfjbjiklohjodaaGreatDoorW.PrintWords Go.Proofs.YtfjbjiklohjodaaGreatDoorW.PrintLast Go.Proofs.YtfjbjiklohjodaaGreatDoorW.PrintMore
attribute [local go_sem] max2_int min2_int max_two min_two max_three min_three max_four min_four
set_option linter.unusedVariables false
set_option linter.unusedSimpArgs false
noncomputable section
def errW : Option Int → Value
  | none => .nilIface
  | some c => .iface 0 (.int .i64 c)
theorem errW_none : errW none = .nilIface := rfl
theorem errW_some (c : Int) : errW (some c) = .iface 0 (.int .i64 c) := rfl
theorem info62 : (Tryz.prog.info? 62).map (fun i => (i.zero, i.size, i.bytes)) = some (some (.agg #[(.int .i64 0), (.int .i64 0)]), 2, 16) := by kernel_rfl
theorem info116 : (Tryz.prog.info? 116).map (fun i => (i.zero, i.size, i.bytes)) = some (some (.agg #[(.int .i64 0), (.bool false), (.int .i64 0), (.int .i64 0)]), 4, 32) := by kernel_rfl
structure S62 where
  f0 : Int
  f1 : Int
def z62 : S62 := ⟨(0 : Int), (0 : Int)⟩
def k62 : Kd S62 := Kd.iso (Kd.pair (Kd.int .i64) (Kd.int .i64)) (fun x : S62 => (x.f0, x.f1))
theorem k62_open {w : World} {x : S62} {cs : List Value} (h : k62.K w x cs) : cs = [.int .i64 x.f0, .int .i64 x.f1] := by
  obtain ⟨_, _, rfl, rfl, rfl⟩ := h
  exact rfl
theorem k62_mkM (w : World) (base : Nat) (ok : Nat → Prop) (x : S62)  : k62.M w base ok x [.int .i64 x.f0, .int .i64 x.f1] := ⟨[.int .i64 x.f0], [.int .i64 x.f1], rfl, rfl, rfl⟩
def rd_T62 (xs : List S62) (i : Int) : S62 := xs.getD i.toNat z62
theorem at_T62 {w : World} {A : Option Addr} {n : Nat} {xs : List S62} (h : Kd.C k62 w A n xs) (i : Int) (h0 : 0 ≤ i) (h1 : i < n) : ∃ ad , A = some ad ∧ w.cell? (ad.add (i.toNat * 2)) = some (.int .i64 (rd_T62 xs i).f0) ∧ w.cell? ⟨(ad.add (i.toNat * 2)).block, (ad.add (i.toNat * 2)).off + 1, none⟩ = some (.int .i64 (rd_T62 xs i).f1) := by
  obtain ⟨ad, c, e, _, hK, hc0⟩ := Kd.C_get h z62 i h0 h1
  have hc : ∀ j u, c[j]? = some u → w.cell? (ad.add (i.toNat * 2 + j)) = some u := hc0
  obtain rfl := k62_open hK
  exact ⟨ad, e, hc 0 _ rfl, by rw [← add_field _ _ 1 (by omega)]; exact hc 1 _ rfl⟩
structure S111 where
  f0 : Int
  f1 : S62
def k111 : Kd S111 := Kd.iso (Kd.pair (Kd.int .i64) k62) (fun x : S111 => (x.f0, x.f1))
structure S109 where
  f0 : Int
  f1 : ByteArray
def k109 : Kd S109 := Kd.iso (Kd.pair (Kd.int .i64) Kd.string) (fun x : S109 => (x.f0, x.f1))
structure S116 where
  f0 : Int
  f1 : Bool
  f2 : S62
def z116 : S116 := ⟨(0 : Int), false, z62⟩
def k116 : Kd S116 := Kd.iso (Kd.pair (Kd.int .i64) (Kd.pair Kd.bool k62)) (fun x : S116 => (x.f0, x.f1, x.f2))
theorem k116_open {w : World} {x : S116} {cs : List Value} (h : k116.K w x cs) : cs = [.int .i64 x.f0, .bool x.f1, .int .i64 x.f2.f0, .int .i64 x.f2.f1] := by
  obtain ⟨_, _, rfl, rfl, ⟨_, _, rfl, rfl, s2⟩⟩ := h
  obtain rfl := k62_open s2
  exact rfl
theorem k116_mkM (w : World) (base : Nat) (ok : Nat → Prop) (x : S116)  : k116.M w base ok x [.int .i64 x.f0, .bool x.f1, .int .i64 x.f2.f0, .int .i64 x.f2.f1] := ⟨[.int .i64 x.f0], [.bool x.f1, .int .i64 x.f2.f0, .int .i64 x.f2.f1], rfl, rfl, ⟨[.bool x.f1], [.int .i64 x.f2.f0, .int .i64 x.f2.f1], rfl, rfl, (k62_mkM w base ok x.f2 )⟩⟩
def rd_T116 (xs : List S116) (i : Int) : S116 := xs.getD i.toNat z116
theorem at_T116 {w : World} {A : Option Addr} {n : Nat} {xs : List S116} (h : Kd.C k116 w A n xs) (i : Int) (h0 : 0 ≤ i) (h1 : i < n) : ∃ ad , A = some ad ∧ w.cell? (ad.add (i.toNat * 4)) = some (.int .i64 (rd_T116 xs i).f0) ∧ w.cell? ⟨(ad.add (i.toNat * 4)).block, (ad.add (i.toNat * 4)).off + 1, none⟩ = some (.bool (rd_T116 xs i).f1) ∧ w.cell? ⟨(ad.add (i.toNat * 4)).block, (ad.add (i.toNat * 4)).off + 2, none⟩ = some (.int .i64 (rd_T116 xs i).f2.f0) ∧ w.cell? ⟨(ad.add (i.toNat * 4)).block, (ad.add (i.toNat * 4)).off + 3, none⟩ = some (.int .i64 (rd_T116 xs i).f2.f1) := by
  obtain ⟨ad, c, e, _, hK, hc0⟩ := Kd.C_get h z116 i h0 h1
  have hc : ∀ j u, c[j]? = some u → w.cell? (ad.add (i.toNat * 4 + j)) = some u := hc0
  obtain rfl := k116_open hK
  exact ⟨ad, e, hc 0 _ rfl, by rw [← add_field _ _ 1 (by omega)]; exact hc 1 _ rfl, by rw [← add_field _ _ 2 (by omega)]; exact hc 2 _ rfl, by rw [← add_field _ _ 3 (by omega)]; exact hc 3 _ rfl⟩
end
end Go.Proofs.YtfjbjiklohjodaaGreatDoor.Q
namespace Go.Proofs.YtfjbjiklohjodaaGreatDoor.Q
open Go.RowKit Go.Proofs.YtfjbjiklohjodaaGreatDoorW.PrintWords Go.Proofs.YtfjbjiklohjodaaGreatDoorW.PrintLast Go.Proofs.YtfjbjiklohjodaaGreatDoorW.PrintMore
attribute [local go_sem] max2_int min2_int max_two min_two max_three min_three max_four min_four
set_option linter.unusedVariables false
set_option linter.unusedSimpArgs false
noncomputable section
def laws_szConv.f (a0_0 : Int) (a0_1 : Int) (a0_2 : Int) (a0_3 : Int) (a0_4 : ByteArray) (a0_5 : ByteArray) (a0_6 : Int) (a0_7 : Int) (a0_8 : ByteArray) (a0_9 : ByteArray) (a1 : Int) : Option (Int) := if (wrap64 (a1 - (a0_4.size : Int))) < 0 then (some (-1)) else (if (wrap64 ((wrap64 (a1 - (a0_4.size : Int))) - (a0_5.size : Int))) < 0 then (some (-1)) else (if (wrap64 ((wrap64 ((wrap64 (a1 - (a0_4.size : Int))) - (a0_5.size : Int))) - (a0_8.size : Int))) < 0 then (some (-1)) else (if (wrap64 ((wrap64 ((wrap64 ((wrap64 (a1 - (a0_4.size : Int))) - (a0_5.size : Int))) - (a0_8.size : Int))) - (a0_9.size : Int))) < 0 then (some (-1)) else (some (wrap64 ((wrap64 ((wrap64 ((wrap64 (a1 - (a0_4.size : Int))) - (a0_5.size : Int))) - (a0_8.size : Int))) - (a0_9.size : Int)))))))
set_option maxHeartbeats 8000000 in
set_option maxRecDepth 100000 in
theorem laws_szConv.calls (a0_0 : Int) (a0_1 : Int) (a0_2 : Int) (a0_3 : Int) (a0_4 : ByteArray) (a0_5 : ByteArray) (a0_6 : Int) (a0_7 : Int) (a0_8 : ByteArray) (a0_9 : ByteArray) (a1 : Int) (r : Int) (w : World) (h : laws_szConv.f a0_0 a0_1 a0_2 a0_3 a0_4 a0_5 a0_6 a0_7 a0_8 a0_9 a1 = some r) :
    Calls Tryz.prog 40 #[.agg #[.int .i64 a0_0, .int .i64 a0_1, .int .i64 a0_2, .int .i64 a0_3, .string a0_4, .string a0_5, .int .i64 a0_6, .int .i64 a0_7, .string a0_8, .string a0_9], .int .i64 a1] w fun e w' => e = .returned (.int .i64 r) ∧ Below w.heap.size w w' := by
  have hu57 := Tryz.underlying57
  have HB := Aside0.mk (Below.refl w.heap.size w)
  have H : (if (wrap64 (a1 - (a0_4.size : Int))) < 0 then (some (-1)) else (if (wrap64 ((wrap64 (a1 - (a0_4.size : Int))) - (a0_5.size : Int))) < 0 then (some (-1)) else (if (wrap64 ((wrap64 ((wrap64 (a1 - (a0_4.size : Int))) - (a0_5.size : Int))) - (a0_8.size : Int))) < 0 then (some (-1)) else (if (wrap64 ((wrap64 ((wrap64 ((wrap64 (a1 - (a0_4.size : Int))) - (a0_5.size : Int))) - (a0_8.size : Int))) - (a0_9.size : Int))) < 0 then (some (-1)) else (some (wrap64 ((wrap64 ((wrap64 ((wrap64 (a1 - (a0_4.size : Int))) - (a0_5.size : Int))) - (a0_8.size : Int))) - (a0_9.size : Int)))))))) = some r := h
  clear h
  by_cases c3 : (wrap64 (a1 - (a0_4.size : Int))) < 0
  · rw [if_pos c3] at H
    have c3b0 : decide ((wrap64 (a1 - (a0_4.size : Int))) < 0) = true := decide_eq_true c3
    clear c3
    obtain rfl := Option.some.inj H
    go_enter Tryz.func40, Tryz.ntmps40
    go_wp2_with (first | ((with_reducible refine gate_dst (N := 2) rfl ?_); refine box_event ?hg (N := 2) ?hd (cs := #[.int .i64 a0_0, .int .i64 a0_1, .int .i64 a0_2, .int .i64 a0_3, .string a0_4, .string a0_5, .int .i64 a0_6, .int .i64 a0_7, .string a0_8, .string a0_9]) (t := 57) ?hr ?_; (case hd => rfl); (case hg => rfl); (case hr => first | (go_simp; done) | (go_simp; rfl)); intro gb101 hg w4 hbox hb; have n0_ := Aside0.mk (below_step (by repeat (first | (with_reducible first | exact HB.out | apply below_alloc | apply pw_below_drewN | apply below_drew1) | exact HB.out)) hb); have n1_ := Aside0.mk (hbox); have n2_ := Aside0.mk ((by rw [hg]; exact (below_size (by repeat (first | (with_reducible first | exact HB.out | apply below_alloc | apply pw_below_drewN | apply below_drew1) | exact HB.out))) : w.heap.size ≤ gb101)); have n3_ := Aside0.mk ((by rw [hg]; exact (below_size (by repeat (first | (with_reducible first | exact HB.out | apply below_alloc | apply pw_below_drewN | apply below_drew1) | exact HB.out))) : w.heap.size ≤ gb101)); clear HB; have HB := n0_; have BK101 := n1_; have GW101 := n2_; have GE101 := n3_; clear n0_ n1_ n2_ n3_; clear hb hbox hg; have hcz5_0 : w4.cell? ⟨gb101, 0, none⟩ = some (.int .i64 a0_0) := (blk_cell BK101.out 0).trans rfl; have hcz5_1 : w4.cell? ⟨gb101, 1, none⟩ = some (.int .i64 a0_1) := (blk_cell BK101.out 1).trans rfl; have hcz5_2 : w4.cell? ⟨gb101, 2, none⟩ = some (.int .i64 a0_2) := (blk_cell BK101.out 2).trans rfl; have hcz5_3 : w4.cell? ⟨gb101, 3, none⟩ = some (.int .i64 a0_3) := (blk_cell BK101.out 3).trans rfl; have hcz5_4 : w4.cell? ⟨gb101, 4, none⟩ = some (.string a0_4) := (blk_cell BK101.out 4).trans rfl; have hcz5_5 : w4.cell? ⟨gb101, 5, none⟩ = some (.string a0_5) := (blk_cell BK101.out 5).trans rfl; have hcz5_6 : w4.cell? ⟨gb101, 6, none⟩ = some (.int .i64 a0_6) := (blk_cell BK101.out 6).trans rfl; have hcz5_7 : w4.cell? ⟨gb101, 7, none⟩ = some (.int .i64 a0_7) := (blk_cell BK101.out 7).trans rfl; have hcz5_8 : w4.cell? ⟨gb101, 8, none⟩ = some (.string a0_8) := (blk_cell BK101.out 8).trans rfl; have hcz5_9 : w4.cell? ⟨gb101, 9, none⟩ = some (.string a0_9) := (blk_cell BK101.out 9).trans rfl; have hfz5_0 := blk_frozen BK101.out 0; have hfz5_1 := blk_frozen BK101.out 1; have hfz5_2 := blk_frozen BK101.out 2; have hfz5_3 := blk_frozen BK101.out 3; have hfz5_4 := blk_frozen BK101.out 4; have hfz5_5 := blk_frozen BK101.out 5; have hfz5_6 := blk_frozen BK101.out 6; have hfz5_7 := blk_frozen BK101.out 7; have hfz5_8 := blk_frozen BK101.out 8; have hfz5_9 := blk_frozen BK101.out 9))
    go_ret
    exact ⟨by first | rfl | (simp [errW_none, errW_some] <;> rfl) | (simp [*, errW_none, errW_some] <;> rfl), by repeat (first | (with_reducible first | exact HB.out | apply below_alloc | apply pw_below_drewN | apply below_drew1 | refine below_set ?_ GE101.out) | exact HB.out)⟩
  · rw [if_neg c3] at H
    have c3b0 : decide ((wrap64 (a1 - (a0_4.size : Int))) < 0) = false := decide_eq_false c3
    clear c3
    by_cases c6 : (wrap64 ((wrap64 (a1 - (a0_4.size : Int))) - (a0_5.size : Int))) < 0
    · rw [if_pos c6] at H
      have c6b0 : decide ((wrap64 ((wrap64 (a1 - (a0_4.size : Int))) - (a0_5.size : Int))) < 0) = true := decide_eq_true c6
      clear c6
      obtain rfl := Option.some.inj H
      go_enter Tryz.func40, Tryz.ntmps40
      go_wp2_with (first | ((with_reducible refine gate_dst (N := 2) rfl ?_); refine box_event ?hg (N := 2) ?hd (cs := #[.int .i64 a0_0, .int .i64 a0_1, .int .i64 a0_2, .int .i64 a0_3, .string a0_4, .string a0_5, .int .i64 a0_6, .int .i64 a0_7, .string a0_8, .string a0_9]) (t := 57) ?hr ?_; (case hd => rfl); (case hg => rfl); (case hr => first | (go_simp; done) | (go_simp; rfl)); intro gb101 hg w7 hbox hb; have n0_ := Aside0.mk (below_step (by repeat (first | (with_reducible first | exact HB.out | apply below_alloc | apply pw_below_drewN | apply below_drew1) | exact HB.out)) hb); have n1_ := Aside0.mk (hbox); have n2_ := Aside0.mk ((by rw [hg]; exact (below_size (by repeat (first | (with_reducible first | exact HB.out | apply below_alloc | apply pw_below_drewN | apply below_drew1) | exact HB.out))) : w.heap.size ≤ gb101)); have n3_ := Aside0.mk ((by rw [hg]; exact (below_size (by repeat (first | (with_reducible first | exact HB.out | apply below_alloc | apply pw_below_drewN | apply below_drew1) | exact HB.out))) : w.heap.size ≤ gb101)); clear HB; have HB := n0_; have BK101 := n1_; have GW101 := n2_; have GE101 := n3_; clear n0_ n1_ n2_ n3_; clear hb hbox hg; have hcz8_0 : w7.cell? ⟨gb101, 0, none⟩ = some (.int .i64 a0_0) := (blk_cell BK101.out 0).trans rfl; have hcz8_1 : w7.cell? ⟨gb101, 1, none⟩ = some (.int .i64 a0_1) := (blk_cell BK101.out 1).trans rfl; have hcz8_2 : w7.cell? ⟨gb101, 2, none⟩ = some (.int .i64 a0_2) := (blk_cell BK101.out 2).trans rfl; have hcz8_3 : w7.cell? ⟨gb101, 3, none⟩ = some (.int .i64 a0_3) := (blk_cell BK101.out 3).trans rfl; have hcz8_4 : w7.cell? ⟨gb101, 4, none⟩ = some (.string a0_4) := (blk_cell BK101.out 4).trans rfl; have hcz8_5 : w7.cell? ⟨gb101, 5, none⟩ = some (.string a0_5) := (blk_cell BK101.out 5).trans rfl; have hcz8_6 : w7.cell? ⟨gb101, 6, none⟩ = some (.int .i64 a0_6) := (blk_cell BK101.out 6).trans rfl; have hcz8_7 : w7.cell? ⟨gb101, 7, none⟩ = some (.int .i64 a0_7) := (blk_cell BK101.out 7).trans rfl; have hcz8_8 : w7.cell? ⟨gb101, 8, none⟩ = some (.string a0_8) := (blk_cell BK101.out 8).trans rfl; have hcz8_9 : w7.cell? ⟨gb101, 9, none⟩ = some (.string a0_9) := (blk_cell BK101.out 9).trans rfl; have hfz8_0 := blk_frozen BK101.out 0; have hfz8_1 := blk_frozen BK101.out 1; have hfz8_2 := blk_frozen BK101.out 2; have hfz8_3 := blk_frozen BK101.out 3; have hfz8_4 := blk_frozen BK101.out 4; have hfz8_5 := blk_frozen BK101.out 5; have hfz8_6 := blk_frozen BK101.out 6; have hfz8_7 := blk_frozen BK101.out 7; have hfz8_8 := blk_frozen BK101.out 8; have hfz8_9 := blk_frozen BK101.out 9))
      go_ret
      exact ⟨by first | rfl | (simp [errW_none, errW_some] <;> rfl) | (simp [*, errW_none, errW_some] <;> rfl), by repeat (first | (with_reducible first | exact HB.out | apply below_alloc | apply pw_below_drewN | apply below_drew1 | refine below_set ?_ GE101.out) | exact HB.out)⟩
    · rw [if_neg c6] at H
      have c6b0 : decide ((wrap64 ((wrap64 (a1 - (a0_4.size : Int))) - (a0_5.size : Int))) < 0) = false := decide_eq_false c6
      clear c6
      by_cases c9 : (wrap64 ((wrap64 ((wrap64 (a1 - (a0_4.size : Int))) - (a0_5.size : Int))) - (a0_8.size : Int))) < 0
      · rw [if_pos c9] at H
        have c9b0 : decide ((wrap64 ((wrap64 ((wrap64 (a1 - (a0_4.size : Int))) - (a0_5.size : Int))) - (a0_8.size : Int))) < 0) = true := decide_eq_true c9
        clear c9
        obtain rfl := Option.some.inj H
        go_enter Tryz.func40, Tryz.ntmps40
        go_wp2_with (first | ((with_reducible refine gate_dst (N := 2) rfl ?_); refine box_event ?hg (N := 2) ?hd (cs := #[.int .i64 a0_0, .int .i64 a0_1, .int .i64 a0_2, .int .i64 a0_3, .string a0_4, .string a0_5, .int .i64 a0_6, .int .i64 a0_7, .string a0_8, .string a0_9]) (t := 57) ?hr ?_; (case hd => rfl); (case hg => rfl); (case hr => first | (go_simp; done) | (go_simp; rfl)); intro gb101 hg w10 hbox hb; have n0_ := Aside0.mk (below_step (by repeat (first | (with_reducible first | exact HB.out | apply below_alloc | apply pw_below_drewN | apply below_drew1) | exact HB.out)) hb); have n1_ := Aside0.mk (hbox); have n2_ := Aside0.mk ((by rw [hg]; exact (below_size (by repeat (first | (with_reducible first | exact HB.out | apply below_alloc | apply pw_below_drewN | apply below_drew1) | exact HB.out))) : w.heap.size ≤ gb101)); have n3_ := Aside0.mk ((by rw [hg]; exact (below_size (by repeat (first | (with_reducible first | exact HB.out | apply below_alloc | apply pw_below_drewN | apply below_drew1) | exact HB.out))) : w.heap.size ≤ gb101)); clear HB; have HB := n0_; have BK101 := n1_; have GW101 := n2_; have GE101 := n3_; clear n0_ n1_ n2_ n3_; clear hb hbox hg; have hcz11_0 : w10.cell? ⟨gb101, 0, none⟩ = some (.int .i64 a0_0) := (blk_cell BK101.out 0).trans rfl; have hcz11_1 : w10.cell? ⟨gb101, 1, none⟩ = some (.int .i64 a0_1) := (blk_cell BK101.out 1).trans rfl; have hcz11_2 : w10.cell? ⟨gb101, 2, none⟩ = some (.int .i64 a0_2) := (blk_cell BK101.out 2).trans rfl; have hcz11_3 : w10.cell? ⟨gb101, 3, none⟩ = some (.int .i64 a0_3) := (blk_cell BK101.out 3).trans rfl; have hcz11_4 : w10.cell? ⟨gb101, 4, none⟩ = some (.string a0_4) := (blk_cell BK101.out 4).trans rfl; have hcz11_5 : w10.cell? ⟨gb101, 5, none⟩ = some (.string a0_5) := (blk_cell BK101.out 5).trans rfl; have hcz11_6 : w10.cell? ⟨gb101, 6, none⟩ = some (.int .i64 a0_6) := (blk_cell BK101.out 6).trans rfl; have hcz11_7 : w10.cell? ⟨gb101, 7, none⟩ = some (.int .i64 a0_7) := (blk_cell BK101.out 7).trans rfl; have hcz11_8 : w10.cell? ⟨gb101, 8, none⟩ = some (.string a0_8) := (blk_cell BK101.out 8).trans rfl; have hcz11_9 : w10.cell? ⟨gb101, 9, none⟩ = some (.string a0_9) := (blk_cell BK101.out 9).trans rfl; have hfz11_0 := blk_frozen BK101.out 0; have hfz11_1 := blk_frozen BK101.out 1; have hfz11_2 := blk_frozen BK101.out 2; have hfz11_3 := blk_frozen BK101.out 3; have hfz11_4 := blk_frozen BK101.out 4; have hfz11_5 := blk_frozen BK101.out 5; have hfz11_6 := blk_frozen BK101.out 6; have hfz11_7 := blk_frozen BK101.out 7; have hfz11_8 := blk_frozen BK101.out 8; have hfz11_9 := blk_frozen BK101.out 9))
        go_ret
        exact ⟨by first | rfl | (simp [errW_none, errW_some] <;> rfl) | (simp [*, errW_none, errW_some] <;> rfl), by repeat (first | (with_reducible first | exact HB.out | apply below_alloc | apply pw_below_drewN | apply below_drew1 | refine below_set ?_ GE101.out) | exact HB.out)⟩
      · rw [if_neg c9] at H
        have c9b0 : decide ((wrap64 ((wrap64 ((wrap64 (a1 - (a0_4.size : Int))) - (a0_5.size : Int))) - (a0_8.size : Int))) < 0) = false := decide_eq_false c9
        clear c9
        by_cases c12 : (wrap64 ((wrap64 ((wrap64 ((wrap64 (a1 - (a0_4.size : Int))) - (a0_5.size : Int))) - (a0_8.size : Int))) - (a0_9.size : Int))) < 0
        · rw [if_pos c12] at H
          have c12b0 : decide ((wrap64 ((wrap64 ((wrap64 ((wrap64 (a1 - (a0_4.size : Int))) - (a0_5.size : Int))) - (a0_8.size : Int))) - (a0_9.size : Int))) < 0) = true := decide_eq_true c12
          clear c12
          obtain rfl := Option.some.inj H
          go_enter Tryz.func40, Tryz.ntmps40
          go_wp2_with (first | ((with_reducible refine gate_dst (N := 2) rfl ?_); refine box_event ?hg (N := 2) ?hd (cs := #[.int .i64 a0_0, .int .i64 a0_1, .int .i64 a0_2, .int .i64 a0_3, .string a0_4, .string a0_5, .int .i64 a0_6, .int .i64 a0_7, .string a0_8, .string a0_9]) (t := 57) ?hr ?_; (case hd => rfl); (case hg => rfl); (case hr => first | (go_simp; done) | (go_simp; rfl)); intro gb101 hg w13 hbox hb; have n0_ := Aside0.mk (below_step (by repeat (first | (with_reducible first | exact HB.out | apply below_alloc | apply pw_below_drewN | apply below_drew1) | exact HB.out)) hb); have n1_ := Aside0.mk (hbox); have n2_ := Aside0.mk ((by rw [hg]; exact (below_size (by repeat (first | (with_reducible first | exact HB.out | apply below_alloc | apply pw_below_drewN | apply below_drew1) | exact HB.out))) : w.heap.size ≤ gb101)); have n3_ := Aside0.mk ((by rw [hg]; exact (below_size (by repeat (first | (with_reducible first | exact HB.out | apply below_alloc | apply pw_below_drewN | apply below_drew1) | exact HB.out))) : w.heap.size ≤ gb101)); clear HB; have HB := n0_; have BK101 := n1_; have GW101 := n2_; have GE101 := n3_; clear n0_ n1_ n2_ n3_; clear hb hbox hg; have hcz14_0 : w13.cell? ⟨gb101, 0, none⟩ = some (.int .i64 a0_0) := (blk_cell BK101.out 0).trans rfl; have hcz14_1 : w13.cell? ⟨gb101, 1, none⟩ = some (.int .i64 a0_1) := (blk_cell BK101.out 1).trans rfl; have hcz14_2 : w13.cell? ⟨gb101, 2, none⟩ = some (.int .i64 a0_2) := (blk_cell BK101.out 2).trans rfl; have hcz14_3 : w13.cell? ⟨gb101, 3, none⟩ = some (.int .i64 a0_3) := (blk_cell BK101.out 3).trans rfl; have hcz14_4 : w13.cell? ⟨gb101, 4, none⟩ = some (.string a0_4) := (blk_cell BK101.out 4).trans rfl; have hcz14_5 : w13.cell? ⟨gb101, 5, none⟩ = some (.string a0_5) := (blk_cell BK101.out 5).trans rfl; have hcz14_6 : w13.cell? ⟨gb101, 6, none⟩ = some (.int .i64 a0_6) := (blk_cell BK101.out 6).trans rfl; have hcz14_7 : w13.cell? ⟨gb101, 7, none⟩ = some (.int .i64 a0_7) := (blk_cell BK101.out 7).trans rfl; have hcz14_8 : w13.cell? ⟨gb101, 8, none⟩ = some (.string a0_8) := (blk_cell BK101.out 8).trans rfl; have hcz14_9 : w13.cell? ⟨gb101, 9, none⟩ = some (.string a0_9) := (blk_cell BK101.out 9).trans rfl; have hfz14_0 := blk_frozen BK101.out 0; have hfz14_1 := blk_frozen BK101.out 1; have hfz14_2 := blk_frozen BK101.out 2; have hfz14_3 := blk_frozen BK101.out 3; have hfz14_4 := blk_frozen BK101.out 4; have hfz14_5 := blk_frozen BK101.out 5; have hfz14_6 := blk_frozen BK101.out 6; have hfz14_7 := blk_frozen BK101.out 7; have hfz14_8 := blk_frozen BK101.out 8; have hfz14_9 := blk_frozen BK101.out 9))
          go_ret
          exact ⟨by first | rfl | (simp [errW_none, errW_some] <;> rfl) | (simp [*, errW_none, errW_some] <;> rfl), by repeat (first | (with_reducible first | exact HB.out | apply below_alloc | apply pw_below_drewN | apply below_drew1 | refine below_set ?_ GE101.out) | exact HB.out)⟩
        · rw [if_neg c12] at H
          have c12b0 : decide ((wrap64 ((wrap64 ((wrap64 ((wrap64 (a1 - (a0_4.size : Int))) - (a0_5.size : Int))) - (a0_8.size : Int))) - (a0_9.size : Int))) < 0) = false := decide_eq_false c12
          clear c12
          obtain rfl := Option.some.inj H
          go_enter Tryz.func40, Tryz.ntmps40
          go_wp2_with (first | ((with_reducible refine gate_dst (N := 2) rfl ?_); refine box_event ?hg (N := 2) ?hd (cs := #[.int .i64 a0_0, .int .i64 a0_1, .int .i64 a0_2, .int .i64 a0_3, .string a0_4, .string a0_5, .int .i64 a0_6, .int .i64 a0_7, .string a0_8, .string a0_9]) (t := 57) ?hr ?_; (case hd => rfl); (case hg => rfl); (case hr => first | (go_simp; done) | (go_simp; rfl)); intro gb101 hg w15 hbox hb; have n0_ := Aside0.mk (below_step (by repeat (first | (with_reducible first | exact HB.out | apply below_alloc | apply pw_below_drewN | apply below_drew1) | exact HB.out)) hb); have n1_ := Aside0.mk (hbox); have n2_ := Aside0.mk ((by rw [hg]; exact (below_size (by repeat (first | (with_reducible first | exact HB.out | apply below_alloc | apply pw_below_drewN | apply below_drew1) | exact HB.out))) : w.heap.size ≤ gb101)); have n3_ := Aside0.mk ((by rw [hg]; exact (below_size (by repeat (first | (with_reducible first | exact HB.out | apply below_alloc | apply pw_below_drewN | apply below_drew1) | exact HB.out))) : w.heap.size ≤ gb101)); clear HB; have HB := n0_; have BK101 := n1_; have GW101 := n2_; have GE101 := n3_; clear n0_ n1_ n2_ n3_; clear hb hbox hg; have hcz16_0 : w15.cell? ⟨gb101, 0, none⟩ = some (.int .i64 a0_0) := (blk_cell BK101.out 0).trans rfl; have hcz16_1 : w15.cell? ⟨gb101, 1, none⟩ = some (.int .i64 a0_1) := (blk_cell BK101.out 1).trans rfl; have hcz16_2 : w15.cell? ⟨gb101, 2, none⟩ = some (.int .i64 a0_2) := (blk_cell BK101.out 2).trans rfl; have hcz16_3 : w15.cell? ⟨gb101, 3, none⟩ = some (.int .i64 a0_3) := (blk_cell BK101.out 3).trans rfl; have hcz16_4 : w15.cell? ⟨gb101, 4, none⟩ = some (.string a0_4) := (blk_cell BK101.out 4).trans rfl; have hcz16_5 : w15.cell? ⟨gb101, 5, none⟩ = some (.string a0_5) := (blk_cell BK101.out 5).trans rfl; have hcz16_6 : w15.cell? ⟨gb101, 6, none⟩ = some (.int .i64 a0_6) := (blk_cell BK101.out 6).trans rfl; have hcz16_7 : w15.cell? ⟨gb101, 7, none⟩ = some (.int .i64 a0_7) := (blk_cell BK101.out 7).trans rfl; have hcz16_8 : w15.cell? ⟨gb101, 8, none⟩ = some (.string a0_8) := (blk_cell BK101.out 8).trans rfl; have hcz16_9 : w15.cell? ⟨gb101, 9, none⟩ = some (.string a0_9) := (blk_cell BK101.out 9).trans rfl; have hfz16_0 := blk_frozen BK101.out 0; have hfz16_1 := blk_frozen BK101.out 1; have hfz16_2 := blk_frozen BK101.out 2; have hfz16_3 := blk_frozen BK101.out 3; have hfz16_4 := blk_frozen BK101.out 4; have hfz16_5 := blk_frozen BK101.out 5; have hfz16_6 := blk_frozen BK101.out 6; have hfz16_7 := blk_frozen BK101.out 7; have hfz16_8 := blk_frozen BK101.out 8; have hfz16_9 := blk_frozen BK101.out 9))
          go_ret
          exact ⟨by first | rfl | (simp [errW_none, errW_some] <;> rfl) | (simp [*, errW_none, errW_some] <;> rfl), by repeat (first | (with_reducible first | exact HB.out | apply below_alloc | apply pw_below_drewN | apply below_drew1 | refine below_set ?_ GE101.out) | exact HB.out)⟩
end
end Go.Proofs.YtfjbjiklohjodaaGreatDoor.Q
namespace Go.Proofs.YtfjbjiklohjodaaGreatDoor.Q
open Go.RowKit Go.Proofs.YtfjbjiklohjodaaGreatDoorW.PrintWords Go.Proofs.YtfjbjiklohjodaaGreatDoorW.PrintLast Go.Proofs.YtfjbjiklohjodaaGreatDoorW.PrintMore
attribute [local go_sem] max2_int min2_int max_two min_two max_three min_three max_four min_four
set_option linter.unusedVariables false
set_option linter.unusedSimpArgs false
noncomputable section
def laws_szPkt.f (a0_0 : Int) (a0_1 : Int) (a0_2 : Int) (a0_3 : Int) (a0_4 : Int) (a0_5 : Int) (a0_6 : ByteArray) (a1 : Int) : Option (Int) := if (wrap64 (a1 - (a0_6.size : Int))) < 0 then (some (-1)) else (some (wrap64 (a1 - (a0_6.size : Int))))
set_option maxHeartbeats 8000000 in
set_option maxRecDepth 100000 in
theorem laws_szPkt.calls (a0_0 : Int) (a0_1 : Int) (a0_2 : Int) (a0_3 : Int) (a0_4 : Int) (a0_5 : Int) (a0_6 : ByteArray) (a1 : Int) (r : Int) (w : World) (h : laws_szPkt.f a0_0 a0_1 a0_2 a0_3 a0_4 a0_5 a0_6 a1 = some r) :
    Calls Tryz.prog 41 #[.agg #[.int .i64 a0_0, .int .i64 a0_1, .int .i64 a0_2, .int .i64 a0_3, .int .i64 a0_4, .int .i64 a0_5, .string a0_6], .int .i64 a1] w fun e w' => e = .returned (.int .i64 r) ∧ Below w.heap.size w w' := by
  have hu59 := Tryz.underlying59
  have HB := Aside0.mk (Below.refl w.heap.size w)
  have H : (if (wrap64 (a1 - (a0_6.size : Int))) < 0 then (some (-1)) else (some (wrap64 (a1 - (a0_6.size : Int))))) = some r := h
  clear h
  by_cases c3 : (wrap64 (a1 - (a0_6.size : Int))) < 0
  · rw [if_pos c3] at H
    have c3b0 : decide ((wrap64 (a1 - (a0_6.size : Int))) < 0) = true := decide_eq_true c3
    clear c3
    obtain rfl := Option.some.inj H
    go_enter Tryz.func41, Tryz.ntmps41
    go_wp2_with (first | ((with_reducible refine gate_dst (N := 2) rfl ?_); refine box_event ?hg (N := 2) ?hd (cs := #[.int .i64 a0_0, .int .i64 a0_1, .int .i64 a0_2, .int .i64 a0_3, .int .i64 a0_4, .int .i64 a0_5, .string a0_6]) (t := 59) ?hr ?_; (case hd => rfl); (case hg => rfl); (case hr => first | (go_simp; done) | (go_simp; rfl)); intro gb101 hg w4 hbox hb; have n0_ := Aside0.mk (below_step (by repeat (first | (with_reducible first | exact HB.out | apply below_alloc | apply pw_below_drewN | apply below_drew1) | exact HB.out)) hb); have n1_ := Aside0.mk (hbox); have n2_ := Aside0.mk ((by rw [hg]; exact (below_size (by repeat (first | (with_reducible first | exact HB.out | apply below_alloc | apply pw_below_drewN | apply below_drew1) | exact HB.out))) : w.heap.size ≤ gb101)); have n3_ := Aside0.mk ((by rw [hg]; exact (below_size (by repeat (first | (with_reducible first | exact HB.out | apply below_alloc | apply pw_below_drewN | apply below_drew1) | exact HB.out))) : w.heap.size ≤ gb101)); clear HB; have HB := n0_; have BK101 := n1_; have GW101 := n2_; have GE101 := n3_; clear n0_ n1_ n2_ n3_; clear hb hbox hg; have hcz5_0 : w4.cell? ⟨gb101, 0, none⟩ = some (.int .i64 a0_0) := (blk_cell BK101.out 0).trans rfl; have hcz5_1 : w4.cell? ⟨gb101, 1, none⟩ = some (.int .i64 a0_1) := (blk_cell BK101.out 1).trans rfl; have hcz5_2 : w4.cell? ⟨gb101, 2, none⟩ = some (.int .i64 a0_2) := (blk_cell BK101.out 2).trans rfl; have hcz5_3 : w4.cell? ⟨gb101, 3, none⟩ = some (.int .i64 a0_3) := (blk_cell BK101.out 3).trans rfl; have hcz5_4 : w4.cell? ⟨gb101, 4, none⟩ = some (.int .i64 a0_4) := (blk_cell BK101.out 4).trans rfl; have hcz5_5 : w4.cell? ⟨gb101, 5, none⟩ = some (.int .i64 a0_5) := (blk_cell BK101.out 5).trans rfl; have hcz5_6 : w4.cell? ⟨gb101, 6, none⟩ = some (.string a0_6) := (blk_cell BK101.out 6).trans rfl; have hfz5_0 := blk_frozen BK101.out 0; have hfz5_1 := blk_frozen BK101.out 1; have hfz5_2 := blk_frozen BK101.out 2; have hfz5_3 := blk_frozen BK101.out 3; have hfz5_4 := blk_frozen BK101.out 4; have hfz5_5 := blk_frozen BK101.out 5; have hfz5_6 := blk_frozen BK101.out 6))
    go_ret
    exact ⟨by first | rfl | (simp [errW_none, errW_some] <;> rfl) | (simp [*, errW_none, errW_some] <;> rfl), by repeat (first | (with_reducible first | exact HB.out | apply below_alloc | apply pw_below_drewN | apply below_drew1 | refine below_set ?_ GE101.out) | exact HB.out)⟩
  · rw [if_neg c3] at H
    have c3b0 : decide ((wrap64 (a1 - (a0_6.size : Int))) < 0) = false := decide_eq_false c3
    clear c3
    obtain rfl := Option.some.inj H
    go_enter Tryz.func41, Tryz.ntmps41
    go_wp2_with (first | ((with_reducible refine gate_dst (N := 2) rfl ?_); refine box_event ?hg (N := 2) ?hd (cs := #[.int .i64 a0_0, .int .i64 a0_1, .int .i64 a0_2, .int .i64 a0_3, .int .i64 a0_4, .int .i64 a0_5, .string a0_6]) (t := 59) ?hr ?_; (case hd => rfl); (case hg => rfl); (case hr => first | (go_simp; done) | (go_simp; rfl)); intro gb101 hg w6 hbox hb; have n0_ := Aside0.mk (below_step (by repeat (first | (with_reducible first | exact HB.out | apply below_alloc | apply pw_below_drewN | apply below_drew1) | exact HB.out)) hb); have n1_ := Aside0.mk (hbox); have n2_ := Aside0.mk ((by rw [hg]; exact (below_size (by repeat (first | (with_reducible first | exact HB.out | apply below_alloc | apply pw_below_drewN | apply below_drew1) | exact HB.out))) : w.heap.size ≤ gb101)); have n3_ := Aside0.mk ((by rw [hg]; exact (below_size (by repeat (first | (with_reducible first | exact HB.out | apply below_alloc | apply pw_below_drewN | apply below_drew1) | exact HB.out))) : w.heap.size ≤ gb101)); clear HB; have HB := n0_; have BK101 := n1_; have GW101 := n2_; have GE101 := n3_; clear n0_ n1_ n2_ n3_; clear hb hbox hg; have hcz7_0 : w6.cell? ⟨gb101, 0, none⟩ = some (.int .i64 a0_0) := (blk_cell BK101.out 0).trans rfl; have hcz7_1 : w6.cell? ⟨gb101, 1, none⟩ = some (.int .i64 a0_1) := (blk_cell BK101.out 1).trans rfl; have hcz7_2 : w6.cell? ⟨gb101, 2, none⟩ = some (.int .i64 a0_2) := (blk_cell BK101.out 2).trans rfl; have hcz7_3 : w6.cell? ⟨gb101, 3, none⟩ = some (.int .i64 a0_3) := (blk_cell BK101.out 3).trans rfl; have hcz7_4 : w6.cell? ⟨gb101, 4, none⟩ = some (.int .i64 a0_4) := (blk_cell BK101.out 4).trans rfl; have hcz7_5 : w6.cell? ⟨gb101, 5, none⟩ = some (.int .i64 a0_5) := (blk_cell BK101.out 5).trans rfl; have hcz7_6 : w6.cell? ⟨gb101, 6, none⟩ = some (.string a0_6) := (blk_cell BK101.out 6).trans rfl; have hfz7_0 := blk_frozen BK101.out 0; have hfz7_1 := blk_frozen BK101.out 1; have hfz7_2 := blk_frozen BK101.out 2; have hfz7_3 := blk_frozen BK101.out 3; have hfz7_4 := blk_frozen BK101.out 4; have hfz7_5 := blk_frozen BK101.out 5; have hfz7_6 := blk_frozen BK101.out 6))
    go_ret
    exact ⟨by first | rfl | (simp [errW_none, errW_some] <;> rfl) | (simp [*, errW_none, errW_some] <;> rfl), by repeat (first | (with_reducible first | exact HB.out | apply below_alloc | apply pw_below_drewN | apply below_drew1 | refine below_set ?_ GE101.out) | exact HB.out)⟩
end
end Go.Proofs.YtfjbjiklohjodaaGreatDoor.Q
namespace Go.Proofs.YtfjbjiklohjodaaGreatDoor.Q
open Go.RowKit Go.Proofs.YtfjbjiklohjodaaGreatDoorW.PrintWords Go.Proofs.YtfjbjiklohjodaaGreatDoorW.PrintLast Go.Proofs.YtfjbjiklohjodaaGreatDoorW.PrintMore
attribute [local go_sem] max2_int min2_int max_two min_two max_three min_three max_four min_four
set_option linter.unusedVariables false
set_option linter.unusedSimpArgs false
noncomputable section
def laws_toEnd.f (a0_0 : Int) (a0_1 : Int) : Option (Int × Int) := some (a0_0, a0_1)
set_option maxHeartbeats 8000000 in
set_option maxRecDepth 100000 in
theorem laws_toEnd.calls (a0_0 : Int) (a0_1 : Int) (r1 : Int) (r2 : Int) (w : World) (h : laws_toEnd.f a0_0 a0_1 = some (r1, r2)) :
    Calls Tryz.prog 94 #[.agg #[.int .i64 a0_0, .int .i64 a0_1]] w fun e w' => e = .returned (.agg #[.int .i64 r1, .int .i64 r2]) ∧ Below w.heap.size w w' := by
  have hu55 := Tryz.underlying55
  have hu62 := Tryz.underlying62
  have HB := Aside0.mk (Below.refl w.heap.size w)
  have H : (some (a0_0, a0_1)) = some (r1, r2) := h
  clear h
  simp only [Option.some.injEq, Prod.mk.injEq] at H
  obtain ⟨rfl, rfl⟩ := H
  go_enter Tryz.func94, Tryz.ntmps94
  go_wp2_with (first | ((with_reducible refine gate_dst (N := 1) rfl ?_); refine box_event ?hg (N := 1) ?hd (cs := #[.int .i64 a0_0, .int .i64 a0_1]) (t := 55) ?hr ?_; (case hd => rfl); (case hg => rfl); (case hr => first | (go_simp; done) | (go_simp; rfl)); intro gb101 hg w2 hbox hb; have n0_ := Aside0.mk (below_step (by repeat (first | (with_reducible first | exact HB.out | apply below_alloc | apply pw_below_drewN | apply below_drew1) | exact HB.out)) hb); have n1_ := Aside0.mk (hbox); have n2_ := Aside0.mk ((by rw [hg]; exact (below_size (by repeat (first | (with_reducible first | exact HB.out | apply below_alloc | apply pw_below_drewN | apply below_drew1) | exact HB.out))) : w.heap.size ≤ gb101)); have n3_ := Aside0.mk ((by rw [hg]; exact (below_size (by repeat (first | (with_reducible first | exact HB.out | apply below_alloc | apply pw_below_drewN | apply below_drew1) | exact HB.out))) : w.heap.size ≤ gb101)); clear HB; have HB := n0_; have BK101 := n1_; have GW101 := n2_; have GE101 := n3_; clear n0_ n1_ n2_ n3_; clear hb hbox hg) | ((with_reducible refine gate_dst (N := 2) rfl ?_); refine box_event ?hg (N := 2) ?hd (cs := #[.int .i64 0, .int .i64 0]) (t := 62) ?hr ?_; (case hd => rfl); (case hg => rfl); (case hr => first | (go_simp; done) | (go_simp; rfl)); intro gb102 hg w3 hbox hb; have n0_ := Aside0.mk (blk_below (g := gb101) (o := .cells #[.int .i64 a0_0, .int .i64 a0_1] 55 (0, 0)) (by (with_reducible repeat (first | refine blk_drewN ?_ _ | refine blk_drew ?_ | refine blk_alloc ?_ _)); exact BK101.out) hb); have n1_ := Aside0.mk (below_step (by repeat (first | (with_reducible first | exact HB.out | apply below_alloc | apply pw_below_drewN | apply below_drew1 | refine below_set ?_ GE101.out) | exact HB.out)) hb); have n2_ := Aside0.mk (hbox); have n3_ := Aside0.mk ((by rw [hg]; exact (below_size (by repeat (first | (with_reducible first | exact HB.out | apply below_alloc | apply pw_below_drewN | apply below_drew1 | refine below_set ?_ GE101.out) | exact HB.out))) : w.heap.size ≤ gb102)); have n4_ := Aside0.mk ((by rw [hg]; exact (below_size (by repeat (first | (with_reducible first | exact HB.out | apply below_alloc | apply pw_below_drewN | apply below_drew1 | refine below_set ?_ GE101.out) | exact HB.out))) : w.heap.size ≤ gb102)); have n5_ := Aside0.mk ((by rw [hg]; exact Nat.ne_of_lt (blk_lt (g := gb101) (o := .cells #[.int .i64 a0_0, .int .i64 a0_1] 55 (0, 0)) (by (with_reducible repeat (first | refine blk_drewN ?_ _ | refine blk_drew ?_ | refine blk_alloc ?_ _)); exact BK101.out)) : gb101 ≠ gb102)); have n6_ := Aside0.mk ((by rw [hg]; exact Nat.ne_of_gt (blk_lt (g := gb101) (o := .cells #[.int .i64 a0_0, .int .i64 a0_1] 55 (0, 0)) (by (with_reducible repeat (first | refine blk_drewN ?_ _ | refine blk_drew ?_ | refine blk_alloc ?_ _)); exact BK101.out)) : gb102 ≠ gb101)); clear BK101; clear HB; have BK101 := n0_; have HB := n1_; have BK102 := n2_; have GW102 := n3_; have GE102 := n4_; have NB101_102 := n5_; have NB102_101 := n6_; clear n0_ n1_ n2_ n3_ n4_ n5_ n6_; clear hb hbox hg) | ((with_reducible refine gate_dst (N := 3) rfl ?_); refine box_event ?hg (N := 3) ?hd (cs := #[.int .i64 0, .int .i64 0]) (t := 62) ?hr ?_; (case hd => rfl); (case hg => rfl); (case hr => first | (go_simp; done) | (go_simp; rfl)); intro gb103 hg w4 hbox hb; have n0_ := Aside0.mk (blk_below (g := gb101) (o := .cells #[.int .i64 a0_0, .int .i64 a0_1] 55 (0, 0)) (by (with_reducible repeat (first | refine blk_drewN ?_ _ | refine blk_drew ?_ | refine blk_alloc ?_ _)); exact BK101.out) hb); have n1_ := Aside0.mk (blk_below (g := gb102) (o := .cells #[.int .i64 0, .int .i64 0] 62 (0, 0)) (by (with_reducible repeat (first | refine blk_drewN ?_ _ | refine blk_drew ?_ | refine blk_alloc ?_ _)); exact BK102.out) hb); have n2_ := Aside0.mk (below_step (by repeat (first | (with_reducible first | exact HB.out | apply below_alloc | apply pw_below_drewN | apply below_drew1 | refine below_set ?_ GE101.out | refine below_set ?_ GE102.out) | exact HB.out)) hb); have n3_ := Aside0.mk (hbox); have n4_ := Aside0.mk ((by rw [hg]; exact (below_size (by repeat (first | (with_reducible first | exact HB.out | apply below_alloc | apply pw_below_drewN | apply below_drew1 | refine below_set ?_ GE101.out | refine below_set ?_ GE102.out) | exact HB.out))) : w.heap.size ≤ gb103)); have n5_ := Aside0.mk ((by rw [hg]; exact (below_size (by repeat (first | (with_reducible first | exact HB.out | apply below_alloc | apply pw_below_drewN | apply below_drew1 | refine below_set ?_ GE101.out | refine below_set ?_ GE102.out) | exact HB.out))) : w.heap.size ≤ gb103)); have n6_ := Aside0.mk ((by rw [hg]; exact Nat.ne_of_lt (blk_lt (g := gb101) (o := .cells #[.int .i64 a0_0, .int .i64 a0_1] 55 (0, 0)) (by (with_reducible repeat (first | refine blk_drewN ?_ _ | refine blk_drew ?_ | refine blk_alloc ?_ _)); exact BK101.out)) : gb101 ≠ gb103)); have n7_ := Aside0.mk ((by rw [hg]; exact Nat.ne_of_gt (blk_lt (g := gb101) (o := .cells #[.int .i64 a0_0, .int .i64 a0_1] 55 (0, 0)) (by (with_reducible repeat (first | refine blk_drewN ?_ _ | refine blk_drew ?_ | refine blk_alloc ?_ _)); exact BK101.out)) : gb103 ≠ gb101)); have n8_ := Aside0.mk ((by rw [hg]; exact Nat.ne_of_lt (blk_lt (g := gb102) (o := .cells #[.int .i64 0, .int .i64 0] 62 (0, 0)) (by (with_reducible repeat (first | refine blk_drewN ?_ _ | refine blk_drew ?_ | refine blk_alloc ?_ _)); exact BK102.out)) : gb102 ≠ gb103)); have n9_ := Aside0.mk ((by rw [hg]; exact Nat.ne_of_gt (blk_lt (g := gb102) (o := .cells #[.int .i64 0, .int .i64 0] 62 (0, 0)) (by (with_reducible repeat (first | refine blk_drewN ?_ _ | refine blk_drew ?_ | refine blk_alloc ?_ _)); exact BK102.out)) : gb103 ≠ gb102)); clear BK101; clear BK102; clear HB; have BK101 := n0_; have BK102 := n1_; have HB := n2_; have BK103 := n3_; have GW103 := n4_; have GE103 := n5_; have NB101_103 := n6_; have NB103_101 := n7_; have NB102_103 := n8_; have NB103_102 := n9_; clear n0_ n1_ n2_ n3_ n4_ n5_ n6_ n7_ n8_ n9_; clear hb hbox hg; have hnb5 := NB101_102.out; have hnc5 := NB102_101.out; have hnb6 := NB101_103.out; have hnc6 := NB103_101.out; have hcz7_0 : w4.cell? ⟨gb101, 0, none⟩ = some (.int .i64 a0_0) := (blk_cell BK101.out 0).trans rfl; have hcz7_1 : w4.cell? ⟨gb101, 1, none⟩ = some (.int .i64 a0_1) := (blk_cell BK101.out 1).trans rfl; have hfz7_0 := blk_frozen BK101.out 0; have hfz7_1 := blk_frozen BK101.out 1; have hnb8 := NB103_102.out; have hnc8 := NB102_103.out; have hcz9_0 : w4.cell? ⟨gb103, 0, none⟩ = some (.int .i64 0) := (blk_cell BK103.out 0).trans rfl; have hcz9_1 : w4.cell? ⟨gb103, 1, none⟩ = some (.int .i64 0) := (blk_cell BK103.out 1).trans rfl; have hfz9_0 := blk_frozen BK103.out 0; have hfz9_1 := blk_frozen BK103.out 1; have hcz10_0 : w4.cell? ⟨gb102, 0, none⟩ = some (.int .i64 0) := (blk_cell BK102.out 0).trans rfl; have hcz10_1 : w4.cell? ⟨gb102, 1, none⟩ = some (.int .i64 0) := (blk_cell BK102.out 1).trans rfl; have hfz10_0 := blk_frozen BK102.out 0; have hfz10_1 := blk_frozen BK102.out 1))
  refine bodyPost_ret (results_cell_row rfl _ _ gb102 62 #[.int .i64 a0_0, .int .i64 a0_1] (0, 0) _ rfl (by (with_reducible repeat (first | refine blk_drewN ?_ _ | refine blk_drew ?_ | refine blk_alloc ?_ _)); refine blk_put (cs := #[.int .i64 a0_0, .int .i64 0]) ?_ 1 _ rfl; (with_reducible repeat (first | refine blk_drewN ?_ _ | refine blk_drew ?_ | refine blk_alloc ?_ _)); refine blk_put (cs := #[.int .i64 0, .int .i64 0]) ?_ 0 _ rfl; (with_reducible repeat (first | refine blk_drewN ?_ _ | refine blk_drew ?_ | refine blk_alloc ?_ _)); refine blk_far ?_ NB102_103.out _; (with_reducible repeat (first | refine blk_drewN ?_ _ | refine blk_drew ?_ | refine blk_alloc ?_ _)); refine blk_far ?_ NB102_103.out _; (with_reducible repeat (first | refine blk_drewN ?_ _ | refine blk_drew ?_ | refine blk_alloc ?_ _)); exact BK102.out) Tryz.underlying62 rfl (by kernel_rfl)) rfl ?_
  exact ⟨by first | rfl | (simp [errW_none, errW_some] <;> rfl) | (simp [*, errW_none, errW_some] <;> rfl), by repeat (first | (with_reducible first | exact HB.out | apply below_alloc | apply pw_below_drewN | apply below_drew1 | refine below_set ?_ GE101.out | refine below_set ?_ GE102.out | refine below_set ?_ GE103.out) | exact HB.out)⟩
end
end Go.Proofs.YtfjbjiklohjodaaGreatDoor.Q
namespace Go.Proofs.YtfjbjiklohjodaaGreatDoor.Q
open Go.RowKit Go.Proofs.YtfjbjiklohjodaaGreatDoorW.PrintWords Go.Proofs.YtfjbjiklohjodaaGreatDoorW.PrintLast Go.Proofs.YtfjbjiklohjodaaGreatDoorW.PrintMore
attribute [local go_sem] max2_int min2_int max_two min_two max_three min_three max_four min_four
set_option linter.unusedVariables false
set_option linter.unusedSimpArgs false
noncomputable section
def laws_toConv.f (a0_0 : Int) (a0_1 : Int) (a0_2 : Int) (a0_3 : Int) (a0_4 : ByteArray) (a0_5 : ByteArray) (a0_6 : Int) (a0_7 : Int) (a0_8 : ByteArray) (a0_9 : ByteArray) : Option (Int × Int × Int × Int × ByteArray × ByteArray × Int × Int × ByteArray × ByteArray) := (laws_toEnd.f a0_0 a0_1).bind fun bt104 => ((laws_toEnd.f a0_2 a0_3).bind fun bt106 => (some (bt104.1, bt104.2, bt106.1, bt106.2, a0_4, a0_5, a0_6, a0_7, a0_8, a0_9)))
set_option maxHeartbeats 8000000 in
set_option maxRecDepth 100000 in
theorem laws_toConv.calls (a0_0 : Int) (a0_1 : Int) (a0_2 : Int) (a0_3 : Int) (a0_4 : ByteArray) (a0_5 : ByteArray) (a0_6 : Int) (a0_7 : Int) (a0_8 : ByteArray) (a0_9 : ByteArray) (r1 : Int) (r2 : Int) (r3 : Int) (r4 : Int) (r5 : ByteArray) (r6 : ByteArray) (r7 : Int) (r8 : Int) (r9 : ByteArray) (r10 : ByteArray) (w : World) (h : laws_toConv.f a0_0 a0_1 a0_2 a0_3 a0_4 a0_5 a0_6 a0_7 a0_8 a0_9 = some (r1, r2, r3, r4, r5, r6, r7, r8, r9, r10)) :
    Calls Tryz.prog 43 #[.agg #[.int .i64 a0_0, .int .i64 a0_1, .int .i64 a0_2, .int .i64 a0_3, .string a0_4, .string a0_5, .int .i64 a0_6, .int .i64 a0_7, .string a0_8, .string a0_9]] w fun e w' => e = .returned (.agg #[.int .i64 r1, .int .i64 r2, .int .i64 r3, .int .i64 r4, .string r5, .string r6, .int .i64 r7, .int .i64 r8, .string r9, .string r10]) ∧ Below w.heap.size w w' := by
  have hu57 := Tryz.underlying57
  have hu64 := Tryz.underlying64
  have hu55 := Tryz.underlying55
  have hu62 := Tryz.underlying62
  have HB := Aside0.mk (Below.refl w.heap.size w)
  have H : ((laws_toEnd.f a0_0 a0_1).bind fun bt104 => ((laws_toEnd.f a0_2 a0_3).bind fun bt106 => (some (bt104.1, bt104.2, bt106.1, bt106.2, a0_4, a0_5, a0_6, a0_7, a0_8, a0_9)))) = some (r1, r2, r3, r4, r5, r6, r7, r8, r9, r10) := h
  clear h
  replace H := Option.bind_eq_some_iff.mp H
  obtain ⟨⟨t104, t105⟩, A20, H⟩ := H
  replace H : ((laws_toEnd.f a0_2 a0_3).bind fun bt106 => (some (t104, t105, bt106.1, bt106.2, a0_4, a0_5, a0_6, a0_7, a0_8, a0_9))) = some (r1, r2, r3, r4, r5, r6, r7, r8, r9, r10) := H
  have A2 := Aside0.mk A20
  clear A20
  replace H := Option.bind_eq_some_iff.mp H
  obtain ⟨⟨t106, t107⟩, A30, H⟩ := H
  replace H : (some (t104, t105, t106, t107, a0_4, a0_5, a0_6, a0_7, a0_8, a0_9)) = some (r1, r2, r3, r4, r5, r6, r7, r8, r9, r10) := H
  have A3 := Aside0.mk A30
  clear A30
  simp only [Option.some.injEq, Prod.mk.injEq] at H
  obtain ⟨rfl, rfl, rfl, rfl, rfl, rfl, rfl, rfl, rfl, rfl⟩ := H
  go_enter Tryz.func43, Tryz.ntmps43
  go_wp2_with (first | ((with_reducible refine gate_dst (N := 1) rfl ?_); refine box_event ?hg (N := 1) ?hd (cs := #[.int .i64 a0_0, .int .i64 a0_1, .int .i64 a0_2, .int .i64 a0_3, .string a0_4, .string a0_5, .int .i64 a0_6, .int .i64 a0_7, .string a0_8, .string a0_9]) (t := 57) ?hr ?_; (case hd => rfl); (case hg => rfl); (case hr => first | (go_simp; done) | (go_simp; rfl)); intro gb101 hg w4 hbox hb; have n0_ := Aside0.mk (below_step (by repeat (first | (with_reducible first | exact HB.out | apply below_alloc | apply pw_below_drewN | apply below_drew1) | exact HB.out)) hb); have n1_ := Aside0.mk (hbox); have n2_ := Aside0.mk ((by rw [hg]; exact (below_size (by repeat (first | (with_reducible first | exact HB.out | apply below_alloc | apply pw_below_drewN | apply below_drew1) | exact HB.out))) : w.heap.size ≤ gb101)); have n3_ := Aside0.mk ((by rw [hg]; exact (below_size (by repeat (first | (with_reducible first | exact HB.out | apply below_alloc | apply pw_below_drewN | apply below_drew1) | exact HB.out))) : w.heap.size ≤ gb101)); clear HB; have HB := n0_; have BK101 := n1_; have GW101 := n2_; have GE101 := n3_; clear n0_ n1_ n2_ n3_; clear hb hbox hg) | ((with_reducible refine gate_dst (N := 2) rfl ?_); refine box_event ?hg (N := 2) ?hd (cs := #[.int .i64 0, .int .i64 0, .int .i64 0, .int .i64 0, .string (⟨#[]⟩ : ByteArray), .string (⟨#[]⟩ : ByteArray), .int .i64 0, .int .i64 0, .string (⟨#[]⟩ : ByteArray), .string (⟨#[]⟩ : ByteArray)]) (t := 64) ?hr ?_; (case hd => rfl); (case hg => rfl); (case hr => first | (go_simp; done) | (go_simp; rfl)); intro gb102 hg w5 hbox hb; have n0_ := Aside0.mk (blk_below (g := gb101) (o := .cells #[.int .i64 a0_0, .int .i64 a0_1, .int .i64 a0_2, .int .i64 a0_3, .string a0_4, .string a0_5, .int .i64 a0_6, .int .i64 a0_7, .string a0_8, .string a0_9] 57 (0, 0)) (by (with_reducible repeat (first | refine blk_drewN ?_ _ | refine blk_drew ?_ | refine blk_alloc ?_ _)); exact BK101.out) hb); have n1_ := Aside0.mk (below_step (by repeat (first | (with_reducible first | exact HB.out | apply below_alloc | apply pw_below_drewN | apply below_drew1 | refine below_set ?_ GE101.out) | exact HB.out)) hb); have n2_ := Aside0.mk (hbox); have n3_ := Aside0.mk ((by rw [hg]; exact (below_size (by repeat (first | (with_reducible first | exact HB.out | apply below_alloc | apply pw_below_drewN | apply below_drew1 | refine below_set ?_ GE101.out) | exact HB.out))) : w.heap.size ≤ gb102)); have n4_ := Aside0.mk ((by rw [hg]; exact (below_size (by repeat (first | (with_reducible first | exact HB.out | apply below_alloc | apply pw_below_drewN | apply below_drew1 | refine below_set ?_ GE101.out) | exact HB.out))) : w.heap.size ≤ gb102)); have n5_ := Aside0.mk ((by rw [hg]; exact Nat.ne_of_lt (blk_lt (g := gb101) (o := .cells #[.int .i64 a0_0, .int .i64 a0_1, .int .i64 a0_2, .int .i64 a0_3, .string a0_4, .string a0_5, .int .i64 a0_6, .int .i64 a0_7, .string a0_8, .string a0_9] 57 (0, 0)) (by (with_reducible repeat (first | refine blk_drewN ?_ _ | refine blk_drew ?_ | refine blk_alloc ?_ _)); exact BK101.out)) : gb101 ≠ gb102)); have n6_ := Aside0.mk ((by rw [hg]; exact Nat.ne_of_gt (blk_lt (g := gb101) (o := .cells #[.int .i64 a0_0, .int .i64 a0_1, .int .i64 a0_2, .int .i64 a0_3, .string a0_4, .string a0_5, .int .i64 a0_6, .int .i64 a0_7, .string a0_8, .string a0_9] 57 (0, 0)) (by (with_reducible repeat (first | refine blk_drewN ?_ _ | refine blk_drew ?_ | refine blk_alloc ?_ _)); exact BK101.out)) : gb102 ≠ gb101)); clear BK101; clear HB; have BK101 := n0_; have HB := n1_; have BK102 := n2_; have GW102 := n3_; have GE102 := n4_; have NB101_102 := n5_; have NB102_101 := n6_; clear n0_ n1_ n2_ n3_ n4_ n5_ n6_; clear hb hbox hg) | ((with_reducible refine gate_dst (N := 3) rfl ?_); refine box_event ?hg (N := 3) ?hd (cs := #[.int .i64 0, .int .i64 0, .int .i64 0, .int .i64 0, .string (⟨#[]⟩ : ByteArray), .string (⟨#[]⟩ : ByteArray), .int .i64 0, .int .i64 0, .string (⟨#[]⟩ : ByteArray), .string (⟨#[]⟩ : ByteArray)]) (t := 64) ?hr ?_; (case hd => rfl); (case hg => rfl); (case hr => first | (go_simp; done) | (go_simp; rfl)); intro gb103 hg w6 hbox hb; have n0_ := Aside0.mk (blk_below (g := gb101) (o := .cells #[.int .i64 a0_0, .int .i64 a0_1, .int .i64 a0_2, .int .i64 a0_3, .string a0_4, .string a0_5, .int .i64 a0_6, .int .i64 a0_7, .string a0_8, .string a0_9] 57 (0, 0)) (by (with_reducible repeat (first | refine blk_drewN ?_ _ | refine blk_drew ?_ | refine blk_alloc ?_ _)); exact BK101.out) hb); have n1_ := Aside0.mk (blk_below (g := gb102) (o := .cells #[.int .i64 0, .int .i64 0, .int .i64 0, .int .i64 0, .string (⟨#[]⟩ : ByteArray), .string (⟨#[]⟩ : ByteArray), .int .i64 0, .int .i64 0, .string (⟨#[]⟩ : ByteArray), .string (⟨#[]⟩ : ByteArray)] 64 (0, 0)) (by (with_reducible repeat (first | refine blk_drewN ?_ _ | refine blk_drew ?_ | refine blk_alloc ?_ _)); exact BK102.out) hb); have n2_ := Aside0.mk (below_step (by repeat (first | (with_reducible first | exact HB.out | apply below_alloc | apply pw_below_drewN | apply below_drew1 | refine below_set ?_ GE101.out | refine below_set ?_ GE102.out) | exact HB.out)) hb); have n3_ := Aside0.mk (hbox); have n4_ := Aside0.mk ((by rw [hg]; exact (below_size (by repeat (first | (with_reducible first | exact HB.out | apply below_alloc | apply pw_below_drewN | apply below_drew1 | refine below_set ?_ GE101.out | refine below_set ?_ GE102.out) | exact HB.out))) : w.heap.size ≤ gb103)); have n5_ := Aside0.mk ((by rw [hg]; exact (below_size (by repeat (first | (with_reducible first | exact HB.out | apply below_alloc | apply pw_below_drewN | apply below_drew1 | refine below_set ?_ GE101.out | refine below_set ?_ GE102.out) | exact HB.out))) : w.heap.size ≤ gb103)); have n6_ := Aside0.mk ((by rw [hg]; exact Nat.ne_of_lt (blk_lt (g := gb101) (o := .cells #[.int .i64 a0_0, .int .i64 a0_1, .int .i64 a0_2, .int .i64 a0_3, .string a0_4, .string a0_5, .int .i64 a0_6, .int .i64 a0_7, .string a0_8, .string a0_9] 57 (0, 0)) (by (with_reducible repeat (first | refine blk_drewN ?_ _ | refine blk_drew ?_ | refine blk_alloc ?_ _)); exact BK101.out)) : gb101 ≠ gb103)); have n7_ := Aside0.mk ((by rw [hg]; exact Nat.ne_of_gt (blk_lt (g := gb101) (o := .cells #[.int .i64 a0_0, .int .i64 a0_1, .int .i64 a0_2, .int .i64 a0_3, .string a0_4, .string a0_5, .int .i64 a0_6, .int .i64 a0_7, .string a0_8, .string a0_9] 57 (0, 0)) (by (with_reducible repeat (first | refine blk_drewN ?_ _ | refine blk_drew ?_ | refine blk_alloc ?_ _)); exact BK101.out)) : gb103 ≠ gb101)); have n8_ := Aside0.mk ((by rw [hg]; exact Nat.ne_of_lt (blk_lt (g := gb102) (o := .cells #[.int .i64 0, .int .i64 0, .int .i64 0, .int .i64 0, .string (⟨#[]⟩ : ByteArray), .string (⟨#[]⟩ : ByteArray), .int .i64 0, .int .i64 0, .string (⟨#[]⟩ : ByteArray), .string (⟨#[]⟩ : ByteArray)] 64 (0, 0)) (by (with_reducible repeat (first | refine blk_drewN ?_ _ | refine blk_drew ?_ | refine blk_alloc ?_ _)); exact BK102.out)) : gb102 ≠ gb103)); have n9_ := Aside0.mk ((by rw [hg]; exact Nat.ne_of_gt (blk_lt (g := gb102) (o := .cells #[.int .i64 0, .int .i64 0, .int .i64 0, .int .i64 0, .string (⟨#[]⟩ : ByteArray), .string (⟨#[]⟩ : ByteArray), .int .i64 0, .int .i64 0, .string (⟨#[]⟩ : ByteArray), .string (⟨#[]⟩ : ByteArray)] 64 (0, 0)) (by (with_reducible repeat (first | refine blk_drewN ?_ _ | refine blk_drew ?_ | refine blk_alloc ?_ _)); exact BK102.out)) : gb103 ≠ gb102)); clear BK101; clear BK102; clear HB; have BK101 := n0_; have BK102 := n1_; have HB := n2_; have BK103 := n3_; have GW103 := n4_; have GE103 := n5_; have NB101_103 := n6_; have NB103_101 := n7_; have NB102_103 := n8_; have NB103_102 := n9_; clear n0_ n1_ n2_ n3_ n4_ n5_ n6_ n7_ n8_ n9_; clear hb hbox hg; have hnb7 := NB101_102.out; have hnc7 := NB102_101.out; have hnb8 := NB101_103.out; have hnc8 := NB103_101.out; have hcz9_0 : w6.cell? ⟨gb101, 0, none⟩ = some (.int .i64 a0_0) := (blk_cell BK101.out 0).trans rfl; have hcz9_1 : w6.cell? ⟨gb101, 1, none⟩ = some (.int .i64 a0_1) := (blk_cell BK101.out 1).trans rfl; have hcz9_2 : w6.cell? ⟨gb101, 2, none⟩ = some (.int .i64 a0_2) := (blk_cell BK101.out 2).trans rfl; have hcz9_3 : w6.cell? ⟨gb101, 3, none⟩ = some (.int .i64 a0_3) := (blk_cell BK101.out 3).trans rfl; have hcz9_4 : w6.cell? ⟨gb101, 4, none⟩ = some (.string a0_4) := (blk_cell BK101.out 4).trans rfl; have hcz9_5 : w6.cell? ⟨gb101, 5, none⟩ = some (.string a0_5) := (blk_cell BK101.out 5).trans rfl; have hcz9_6 : w6.cell? ⟨gb101, 6, none⟩ = some (.int .i64 a0_6) := (blk_cell BK101.out 6).trans rfl; have hcz9_7 : w6.cell? ⟨gb101, 7, none⟩ = some (.int .i64 a0_7) := (blk_cell BK101.out 7).trans rfl; have hcz9_8 : w6.cell? ⟨gb101, 8, none⟩ = some (.string a0_8) := (blk_cell BK101.out 8).trans rfl; have hcz9_9 : w6.cell? ⟨gb101, 9, none⟩ = some (.string a0_9) := (blk_cell BK101.out 9).trans rfl; have hfz9_0 := blk_frozen BK101.out 0; have hfz9_1 := blk_frozen BK101.out 1; have hfz9_2 := blk_frozen BK101.out 2; have hfz9_3 := blk_frozen BK101.out 3; have hfz9_4 := blk_frozen BK101.out 4; have hfz9_5 := blk_frozen BK101.out 5; have hfz9_6 := blk_frozen BK101.out 6; have hfz9_7 := blk_frozen BK101.out 7; have hfz9_8 := blk_frozen BK101.out 8; have hfz9_9 := blk_frozen BK101.out 9) | ((with_reducible refine gate_callee (f := 94) rfl ?_); refine goesL_ (some 6) rfl rfl Tryz.func94 (by kernel_rfl) rfl #[.agg #[.int .i64 a0_0, .int .i64 a0_1]] rfl (by (try simp only [List.map_toArray, List.map_cons, List.map_nil]); first | done | rfl | (simp only [List.length_drop, List.length_take]; rfl)) ?_; (with_reducible refine (laws_toEnd.calls a0_0 a0_1 t104 t105 _ A2.out).mono ?_); rintro e w10 ⟨rfl, hb⟩; refine ⟨_, rfl, ?_⟩; have n0_ := Aside0.mk (blk_below (g := gb101) (o := .cells #[.int .i64 a0_0, .int .i64 a0_1, .int .i64 a0_2, .int .i64 a0_3, .string a0_4, .string a0_5, .int .i64 a0_6, .int .i64 a0_7, .string a0_8, .string a0_9] 57 (0, 0)) (by (with_reducible repeat (first | refine blk_drewN ?_ _ | refine blk_drew ?_ | refine blk_alloc ?_ _)); exact BK101.out) hb); have n1_ := Aside0.mk (blk_below (g := gb102) (o := .cells #[.int .i64 0, .int .i64 0, .int .i64 0, .int .i64 0, .string (⟨#[]⟩ : ByteArray), .string (⟨#[]⟩ : ByteArray), .int .i64 0, .int .i64 0, .string (⟨#[]⟩ : ByteArray), .string (⟨#[]⟩ : ByteArray)] 64 (0, 0)) (by (with_reducible repeat (first | refine blk_drewN ?_ _ | refine blk_drew ?_ | refine blk_alloc ?_ _)); exact BK102.out) hb); have n2_ := Aside0.mk (blk_below (g := gb103) (o := .cells #[.int .i64 0, .int .i64 0, .int .i64 0, .int .i64 0, .string (⟨#[]⟩ : ByteArray), .string (⟨#[]⟩ : ByteArray), .int .i64 0, .int .i64 0, .string (⟨#[]⟩ : ByteArray), .string (⟨#[]⟩ : ByteArray)] 64 (0, 0)) (by (with_reducible repeat (first | refine blk_drewN ?_ _ | refine blk_drew ?_ | refine blk_alloc ?_ _)); exact BK103.out) hb); have n3_ := Aside0.mk (below_step (by repeat (first | (with_reducible first | exact HB.out | apply below_alloc | apply pw_below_drewN | apply below_drew1 | refine below_set ?_ GE101.out | refine below_set ?_ GE102.out | refine below_set ?_ GE103.out) | exact HB.out)) hb); clear BK101; clear BK102; clear BK103; clear HB; have BK101 := n0_; have BK102 := n1_; have BK103 := n2_; have HB := n3_; clear n0_ n1_ n2_ n3_; (try clear hb); (try clear hb2); (try clear hk); (try clear hi); have hnb11 := NB103_102.out; have hnc11 := NB102_103.out; have hcz12_0 : w10.cell? ⟨gb103, 0, none⟩ = some (.int .i64 0) := (blk_cell BK103.out 0).trans rfl; have hcz12_1 : w10.cell? ⟨gb103, 1, none⟩ = some (.int .i64 0) := (blk_cell BK103.out 1).trans rfl; have hcz12_2 : w10.cell? ⟨gb103, 2, none⟩ = some (.int .i64 0) := (blk_cell BK103.out 2).trans rfl; have hcz12_3 : w10.cell? ⟨gb103, 3, none⟩ = some (.int .i64 0) := (blk_cell BK103.out 3).trans rfl; have hcz12_4 : w10.cell? ⟨gb103, 4, none⟩ = some (.string (⟨#[]⟩ : ByteArray)) := (blk_cell BK103.out 4).trans rfl; have hcz12_5 : w10.cell? ⟨gb103, 5, none⟩ = some (.string (⟨#[]⟩ : ByteArray)) := (blk_cell BK103.out 5).trans rfl; have hcz12_6 : w10.cell? ⟨gb103, 6, none⟩ = some (.int .i64 0) := (blk_cell BK103.out 6).trans rfl; have hcz12_7 : w10.cell? ⟨gb103, 7, none⟩ = some (.int .i64 0) := (blk_cell BK103.out 7).trans rfl; have hcz12_8 : w10.cell? ⟨gb103, 8, none⟩ = some (.string (⟨#[]⟩ : ByteArray)) := (blk_cell BK103.out 8).trans rfl; have hcz12_9 : w10.cell? ⟨gb103, 9, none⟩ = some (.string (⟨#[]⟩ : ByteArray)) := (blk_cell BK103.out 9).trans rfl; have hfz12_0 := blk_frozen BK103.out 0; have hfz12_1 := blk_frozen BK103.out 1; have hfz12_2 := blk_frozen BK103.out 2; have hfz12_3 := blk_frozen BK103.out 3; have hfz12_4 := blk_frozen BK103.out 4; have hfz12_5 := blk_frozen BK103.out 5; have hfz12_6 := blk_frozen BK103.out 6; have hfz12_7 := blk_frozen BK103.out 7; have hfz12_8 := blk_frozen BK103.out 8; have hfz12_9 := blk_frozen BK103.out 9; have hcz13_0 : w10.cell? ⟨gb101, 0, none⟩ = some (.int .i64 a0_0) := (blk_cell BK101.out 0).trans rfl; have hcz13_1 : w10.cell? ⟨gb101, 1, none⟩ = some (.int .i64 a0_1) := (blk_cell BK101.out 1).trans rfl; have hcz13_2 : w10.cell? ⟨gb101, 2, none⟩ = some (.int .i64 a0_2) := (blk_cell BK101.out 2).trans rfl; have hcz13_3 : w10.cell? ⟨gb101, 3, none⟩ = some (.int .i64 a0_3) := (blk_cell BK101.out 3).trans rfl; have hcz13_4 : w10.cell? ⟨gb101, 4, none⟩ = some (.string a0_4) := (blk_cell BK101.out 4).trans rfl; have hcz13_5 : w10.cell? ⟨gb101, 5, none⟩ = some (.string a0_5) := (blk_cell BK101.out 5).trans rfl; have hcz13_6 : w10.cell? ⟨gb101, 6, none⟩ = some (.int .i64 a0_6) := (blk_cell BK101.out 6).trans rfl; have hcz13_7 : w10.cell? ⟨gb101, 7, none⟩ = some (.int .i64 a0_7) := (blk_cell BK101.out 7).trans rfl; have hcz13_8 : w10.cell? ⟨gb101, 8, none⟩ = some (.string a0_8) := (blk_cell BK101.out 8).trans rfl; have hcz13_9 : w10.cell? ⟨gb101, 9, none⟩ = some (.string a0_9) := (blk_cell BK101.out 9).trans rfl; have hfz13_0 := blk_frozen BK101.out 0; have hfz13_1 := blk_frozen BK101.out 1; have hfz13_2 := blk_frozen BK101.out 2; have hfz13_3 := blk_frozen BK101.out 3; have hfz13_4 := blk_frozen BK101.out 4; have hfz13_5 := blk_frozen BK101.out 5; have hfz13_6 := blk_frozen BK101.out 6; have hfz13_7 := blk_frozen BK101.out 7; have hfz13_8 := blk_frozen BK101.out 8; have hfz13_9 := blk_frozen BK101.out 9) | ((with_reducible refine gate_callee (f := 94) rfl ?_); refine goesL_ (some 10) rfl rfl Tryz.func94 (by kernel_rfl) rfl #[.agg #[.int .i64 a0_2, .int .i64 a0_3]] rfl (by (try simp only [List.map_toArray, List.map_cons, List.map_nil]); first | done | rfl | (simp only [List.length_drop, List.length_take]; rfl)) ?_; (with_reducible refine (laws_toEnd.calls a0_2 a0_3 t106 t107 _ A3.out).mono ?_); rintro e w14 ⟨rfl, hb⟩; refine ⟨_, rfl, ?_⟩; have n0_ := Aside0.mk (blk_below (g := gb101) (o := .cells #[.int .i64 a0_0, .int .i64 a0_1, .int .i64 a0_2, .int .i64 a0_3, .string a0_4, .string a0_5, .int .i64 a0_6, .int .i64 a0_7, .string a0_8, .string a0_9] 57 (0, 0)) (by (with_reducible repeat (first | refine blk_drewN ?_ _ | refine blk_drew ?_ | refine blk_alloc ?_ _)); refine blk_far ?_ NB101_103.out _; (with_reducible repeat (first | refine blk_drewN ?_ _ | refine blk_drew ?_ | refine blk_alloc ?_ _)); refine blk_far ?_ NB101_103.out _; (with_reducible repeat (first | refine blk_drewN ?_ _ | refine blk_drew ?_ | refine blk_alloc ?_ _)); exact BK101.out) hb); have n1_ := Aside0.mk (blk_below (g := gb102) (o := .cells #[.int .i64 0, .int .i64 0, .int .i64 0, .int .i64 0, .string (⟨#[]⟩ : ByteArray), .string (⟨#[]⟩ : ByteArray), .int .i64 0, .int .i64 0, .string (⟨#[]⟩ : ByteArray), .string (⟨#[]⟩ : ByteArray)] 64 (0, 0)) (by (with_reducible repeat (first | refine blk_drewN ?_ _ | refine blk_drew ?_ | refine blk_alloc ?_ _)); refine blk_far ?_ NB102_103.out _; (with_reducible repeat (first | refine blk_drewN ?_ _ | refine blk_drew ?_ | refine blk_alloc ?_ _)); refine blk_far ?_ NB102_103.out _; (with_reducible repeat (first | refine blk_drewN ?_ _ | refine blk_drew ?_ | refine blk_alloc ?_ _)); exact BK102.out) hb); have n2_ := Aside0.mk (blk_below (g := gb103) (o := .cells #[.int .i64 t104, .int .i64 t105, .int .i64 0, .int .i64 0, .string (⟨#[]⟩ : ByteArray), .string (⟨#[]⟩ : ByteArray), .int .i64 0, .int .i64 0, .string (⟨#[]⟩ : ByteArray), .string (⟨#[]⟩ : ByteArray)] 64 (0, 0)) (by (with_reducible repeat (first | refine blk_drewN ?_ _ | refine blk_drew ?_ | refine blk_alloc ?_ _)); refine blk_put (cs := #[.int .i64 t104, .int .i64 0, .int .i64 0, .int .i64 0, .string (⟨#[]⟩ : ByteArray), .string (⟨#[]⟩ : ByteArray), .int .i64 0, .int .i64 0, .string (⟨#[]⟩ : ByteArray), .string (⟨#[]⟩ : ByteArray)]) ?_ 1 _ rfl; (with_reducible repeat (first | refine blk_drewN ?_ _ | refine blk_drew ?_ | refine blk_alloc ?_ _)); refine blk_put (cs := #[.int .i64 0, .int .i64 0, .int .i64 0, .int .i64 0, .string (⟨#[]⟩ : ByteArray), .string (⟨#[]⟩ : ByteArray), .int .i64 0, .int .i64 0, .string (⟨#[]⟩ : ByteArray), .string (⟨#[]⟩ : ByteArray)]) ?_ 0 _ rfl; (with_reducible repeat (first | refine blk_drewN ?_ _ | refine blk_drew ?_ | refine blk_alloc ?_ _)); exact BK103.out) hb); have n3_ := Aside0.mk (below_step (by repeat (first | (with_reducible first | exact HB.out | apply below_alloc | apply pw_below_drewN | apply below_drew1 | refine below_set ?_ GE101.out | refine below_set ?_ GE102.out | refine below_set ?_ GE103.out) | exact HB.out)) hb); clear BK101; clear BK102; clear BK103; clear HB; have BK101 := n0_; have BK102 := n1_; have BK103 := n2_; have HB := n3_; clear n0_ n1_ n2_ n3_; (try clear hb); (try clear hb2); (try clear hk); (try clear hi); have hcz15_0 : w14.cell? ⟨gb103, 0, none⟩ = some (.int .i64 t104) := (blk_cell BK103.out 0).trans rfl; have hcz15_1 : w14.cell? ⟨gb103, 1, none⟩ = some (.int .i64 t105) := (blk_cell BK103.out 1).trans rfl; have hcz15_2 : w14.cell? ⟨gb103, 2, none⟩ = some (.int .i64 0) := (blk_cell BK103.out 2).trans rfl; have hcz15_3 : w14.cell? ⟨gb103, 3, none⟩ = some (.int .i64 0) := (blk_cell BK103.out 3).trans rfl; have hcz15_4 : w14.cell? ⟨gb103, 4, none⟩ = some (.string (⟨#[]⟩ : ByteArray)) := (blk_cell BK103.out 4).trans rfl; have hcz15_5 : w14.cell? ⟨gb103, 5, none⟩ = some (.string (⟨#[]⟩ : ByteArray)) := (blk_cell BK103.out 5).trans rfl; have hcz15_6 : w14.cell? ⟨gb103, 6, none⟩ = some (.int .i64 0) := (blk_cell BK103.out 6).trans rfl; have hcz15_7 : w14.cell? ⟨gb103, 7, none⟩ = some (.int .i64 0) := (blk_cell BK103.out 7).trans rfl; have hcz15_8 : w14.cell? ⟨gb103, 8, none⟩ = some (.string (⟨#[]⟩ : ByteArray)) := (blk_cell BK103.out 8).trans rfl; have hcz15_9 : w14.cell? ⟨gb103, 9, none⟩ = some (.string (⟨#[]⟩ : ByteArray)) := (blk_cell BK103.out 9).trans rfl; have hfz15_0 := blk_frozen BK103.out 0; have hfz15_1 := blk_frozen BK103.out 1; have hfz15_2 := blk_frozen BK103.out 2; have hfz15_3 := blk_frozen BK103.out 3; have hfz15_4 := blk_frozen BK103.out 4; have hfz15_5 := blk_frozen BK103.out 5; have hfz15_6 := blk_frozen BK103.out 6; have hfz15_7 := blk_frozen BK103.out 7; have hfz15_8 := blk_frozen BK103.out 8; have hfz15_9 := blk_frozen BK103.out 9; have hcz16_0 : w14.cell? ⟨gb101, 0, none⟩ = some (.int .i64 a0_0) := (blk_cell BK101.out 0).trans rfl; have hcz16_1 : w14.cell? ⟨gb101, 1, none⟩ = some (.int .i64 a0_1) := (blk_cell BK101.out 1).trans rfl; have hcz16_2 : w14.cell? ⟨gb101, 2, none⟩ = some (.int .i64 a0_2) := (blk_cell BK101.out 2).trans rfl; have hcz16_3 : w14.cell? ⟨gb101, 3, none⟩ = some (.int .i64 a0_3) := (blk_cell BK101.out 3).trans rfl; have hcz16_4 : w14.cell? ⟨gb101, 4, none⟩ = some (.string a0_4) := (blk_cell BK101.out 4).trans rfl; have hcz16_5 : w14.cell? ⟨gb101, 5, none⟩ = some (.string a0_5) := (blk_cell BK101.out 5).trans rfl; have hcz16_6 : w14.cell? ⟨gb101, 6, none⟩ = some (.int .i64 a0_6) := (blk_cell BK101.out 6).trans rfl; have hcz16_7 : w14.cell? ⟨gb101, 7, none⟩ = some (.int .i64 a0_7) := (blk_cell BK101.out 7).trans rfl; have hcz16_8 : w14.cell? ⟨gb101, 8, none⟩ = some (.string a0_8) := (blk_cell BK101.out 8).trans rfl; have hcz16_9 : w14.cell? ⟨gb101, 9, none⟩ = some (.string a0_9) := (blk_cell BK101.out 9).trans rfl; have hfz16_0 := blk_frozen BK101.out 0; have hfz16_1 := blk_frozen BK101.out 1; have hfz16_2 := blk_frozen BK101.out 2; have hfz16_3 := blk_frozen BK101.out 3; have hfz16_4 := blk_frozen BK101.out 4; have hfz16_5 := blk_frozen BK101.out 5; have hfz16_6 := blk_frozen BK101.out 6; have hfz16_7 := blk_frozen BK101.out 7; have hfz16_8 := blk_frozen BK101.out 8; have hfz16_9 := blk_frozen BK101.out 9; have hcz17_0 : w14.cell? ⟨gb102, 0, none⟩ = some (.int .i64 0) := (blk_cell BK102.out 0).trans rfl; have hcz17_1 : w14.cell? ⟨gb102, 1, none⟩ = some (.int .i64 0) := (blk_cell BK102.out 1).trans rfl; have hcz17_2 : w14.cell? ⟨gb102, 2, none⟩ = some (.int .i64 0) := (blk_cell BK102.out 2).trans rfl; have hcz17_3 : w14.cell? ⟨gb102, 3, none⟩ = some (.int .i64 0) := (blk_cell BK102.out 3).trans rfl; have hcz17_4 : w14.cell? ⟨gb102, 4, none⟩ = some (.string (⟨#[]⟩ : ByteArray)) := (blk_cell BK102.out 4).trans rfl; have hcz17_5 : w14.cell? ⟨gb102, 5, none⟩ = some (.string (⟨#[]⟩ : ByteArray)) := (blk_cell BK102.out 5).trans rfl; have hcz17_6 : w14.cell? ⟨gb102, 6, none⟩ = some (.int .i64 0) := (blk_cell BK102.out 6).trans rfl; have hcz17_7 : w14.cell? ⟨gb102, 7, none⟩ = some (.int .i64 0) := (blk_cell BK102.out 7).trans rfl; have hcz17_8 : w14.cell? ⟨gb102, 8, none⟩ = some (.string (⟨#[]⟩ : ByteArray)) := (blk_cell BK102.out 8).trans rfl; have hcz17_9 : w14.cell? ⟨gb102, 9, none⟩ = some (.string (⟨#[]⟩ : ByteArray)) := (blk_cell BK102.out 9).trans rfl; have hfz17_0 := blk_frozen BK102.out 0; have hfz17_1 := blk_frozen BK102.out 1; have hfz17_2 := blk_frozen BK102.out 2; have hfz17_3 := blk_frozen BK102.out 3; have hfz17_4 := blk_frozen BK102.out 4; have hfz17_5 := blk_frozen BK102.out 5; have hfz17_6 := blk_frozen BK102.out 6; have hfz17_7 := blk_frozen BK102.out 7; have hfz17_8 := blk_frozen BK102.out 8; have hfz17_9 := blk_frozen BK102.out 9))
  refine bodyPost_ret (results_cell_row rfl _ _ gb102 64 #[.int .i64 t104, .int .i64 t105, .int .i64 t106, .int .i64 t107, .string a0_4, .string a0_5, .int .i64 a0_6, .int .i64 a0_7, .string a0_8, .string a0_9] (0, 0) _ rfl (by (with_reducible repeat (first | refine blk_drewN ?_ _ | refine blk_drew ?_ | refine blk_alloc ?_ _)); refine blk_put (cs := #[.int .i64 t104, .int .i64 t105, .int .i64 t106, .int .i64 t107, .string a0_4, .string a0_5, .int .i64 a0_6, .int .i64 a0_7, .string a0_8, .string (⟨#[]⟩ : ByteArray)]) ?_ 9 _ rfl; (with_reducible repeat (first | refine blk_drewN ?_ _ | refine blk_drew ?_ | refine blk_alloc ?_ _)); refine blk_put (cs := #[.int .i64 t104, .int .i64 t105, .int .i64 t106, .int .i64 t107, .string a0_4, .string a0_5, .int .i64 a0_6, .int .i64 a0_7, .string (⟨#[]⟩ : ByteArray), .string (⟨#[]⟩ : ByteArray)]) ?_ 8 _ rfl; (with_reducible repeat (first | refine blk_drewN ?_ _ | refine blk_drew ?_ | refine blk_alloc ?_ _)); refine blk_put (cs := #[.int .i64 t104, .int .i64 t105, .int .i64 t106, .int .i64 t107, .string a0_4, .string a0_5, .int .i64 a0_6, .int .i64 0, .string (⟨#[]⟩ : ByteArray), .string (⟨#[]⟩ : ByteArray)]) ?_ 7 _ rfl; (with_reducible repeat (first | refine blk_drewN ?_ _ | refine blk_drew ?_ | refine blk_alloc ?_ _)); refine blk_put (cs := #[.int .i64 t104, .int .i64 t105, .int .i64 t106, .int .i64 t107, .string a0_4, .string a0_5, .int .i64 0, .int .i64 0, .string (⟨#[]⟩ : ByteArray), .string (⟨#[]⟩ : ByteArray)]) ?_ 6 _ rfl; (with_reducible repeat (first | refine blk_drewN ?_ _ | refine blk_drew ?_ | refine blk_alloc ?_ _)); refine blk_put (cs := #[.int .i64 t104, .int .i64 t105, .int .i64 t106, .int .i64 t107, .string a0_4, .string (⟨#[]⟩ : ByteArray), .int .i64 0, .int .i64 0, .string (⟨#[]⟩ : ByteArray), .string (⟨#[]⟩ : ByteArray)]) ?_ 5 _ rfl; (with_reducible repeat (first | refine blk_drewN ?_ _ | refine blk_drew ?_ | refine blk_alloc ?_ _)); refine blk_put (cs := #[.int .i64 t104, .int .i64 t105, .int .i64 t106, .int .i64 t107, .string (⟨#[]⟩ : ByteArray), .string (⟨#[]⟩ : ByteArray), .int .i64 0, .int .i64 0, .string (⟨#[]⟩ : ByteArray), .string (⟨#[]⟩ : ByteArray)]) ?_ 4 _ rfl; (with_reducible repeat (first | refine blk_drewN ?_ _ | refine blk_drew ?_ | refine blk_alloc ?_ _)); refine blk_put (cs := #[.int .i64 t104, .int .i64 t105, .int .i64 t106, .int .i64 0, .string (⟨#[]⟩ : ByteArray), .string (⟨#[]⟩ : ByteArray), .int .i64 0, .int .i64 0, .string (⟨#[]⟩ : ByteArray), .string (⟨#[]⟩ : ByteArray)]) ?_ 3 _ rfl; (with_reducible repeat (first | refine blk_drewN ?_ _ | refine blk_drew ?_ | refine blk_alloc ?_ _)); refine blk_put (cs := #[.int .i64 t104, .int .i64 t105, .int .i64 0, .int .i64 0, .string (⟨#[]⟩ : ByteArray), .string (⟨#[]⟩ : ByteArray), .int .i64 0, .int .i64 0, .string (⟨#[]⟩ : ByteArray), .string (⟨#[]⟩ : ByteArray)]) ?_ 2 _ rfl; (with_reducible repeat (first | refine blk_drewN ?_ _ | refine blk_drew ?_ | refine blk_alloc ?_ _)); refine blk_put (cs := #[.int .i64 t104, .int .i64 0, .int .i64 0, .int .i64 0, .string (⟨#[]⟩ : ByteArray), .string (⟨#[]⟩ : ByteArray), .int .i64 0, .int .i64 0, .string (⟨#[]⟩ : ByteArray), .string (⟨#[]⟩ : ByteArray)]) ?_ 1 _ rfl; (with_reducible repeat (first | refine blk_drewN ?_ _ | refine blk_drew ?_ | refine blk_alloc ?_ _)); refine blk_put (cs := #[.int .i64 0, .int .i64 0, .int .i64 0, .int .i64 0, .string (⟨#[]⟩ : ByteArray), .string (⟨#[]⟩ : ByteArray), .int .i64 0, .int .i64 0, .string (⟨#[]⟩ : ByteArray), .string (⟨#[]⟩ : ByteArray)]) ?_ 0 _ rfl; (with_reducible repeat (first | refine blk_drewN ?_ _ | refine blk_drew ?_ | refine blk_alloc ?_ _)); refine blk_far ?_ NB102_103.out _; (with_reducible repeat (first | refine blk_drewN ?_ _ | refine blk_drew ?_ | refine blk_alloc ?_ _)); refine blk_far ?_ NB102_103.out _; (with_reducible repeat (first | refine blk_drewN ?_ _ | refine blk_drew ?_ | refine blk_alloc ?_ _)); refine blk_far ?_ NB102_103.out _; (with_reducible repeat (first | refine blk_drewN ?_ _ | refine blk_drew ?_ | refine blk_alloc ?_ _)); refine blk_far ?_ NB102_103.out _; (with_reducible repeat (first | refine blk_drewN ?_ _ | refine blk_drew ?_ | refine blk_alloc ?_ _)); refine blk_far ?_ NB102_103.out _; (with_reducible repeat (first | refine blk_drewN ?_ _ | refine blk_drew ?_ | refine blk_alloc ?_ _)); refine blk_far ?_ NB102_103.out _; (with_reducible repeat (first | refine blk_drewN ?_ _ | refine blk_drew ?_ | refine blk_alloc ?_ _)); refine blk_far ?_ NB102_103.out _; (with_reducible repeat (first | refine blk_drewN ?_ _ | refine blk_drew ?_ | refine blk_alloc ?_ _)); refine blk_far ?_ NB102_103.out _; (with_reducible repeat (first | refine blk_drewN ?_ _ | refine blk_drew ?_ | refine blk_alloc ?_ _)); exact BK102.out) Tryz.underlying64 rfl (by kernel_rfl)) rfl ?_
  exact ⟨by first | rfl | (simp [errW_none, errW_some] <;> rfl) | (simp [*, errW_none, errW_some] <;> rfl), by repeat (first | (with_reducible first | exact HB.out | apply below_alloc | apply pw_below_drewN | apply below_drew1 | refine below_set ?_ GE101.out | refine below_set ?_ GE102.out | refine below_set ?_ GE103.out) | exact HB.out)⟩
end
end Go.Proofs.YtfjbjiklohjodaaGreatDoor.Q
namespace Go.Proofs.YtfjbjiklohjodaaGreatDoor.Q
open Go.RowKit Go.Proofs.YtfjbjiklohjodaaGreatDoorW.PrintWords Go.Proofs.YtfjbjiklohjodaaGreatDoorW.PrintLast Go.Proofs.YtfjbjiklohjodaaGreatDoorW.PrintMore
attribute [local go_sem] max2_int min2_int max_two min_two max_three min_three max_four min_four
set_option linter.unusedVariables false
set_option linter.unusedSimpArgs false
noncomputable section
def laws_toPkt.f (a0_0 : Int) (a0_1 : Int) (a0_2 : Int) (a0_3 : Int) (a0_4 : Int) (a0_5 : Int) (a0_6 : ByteArray) : Option (Int × Int × Int × Int × Int × Int × ByteArray) := (laws_toEnd.f a0_1 a0_2).bind fun bt104 => ((laws_toEnd.f a0_3 a0_4).bind fun bt106 => (some (a0_0, bt104.1, bt104.2, bt106.1, bt106.2, a0_5, a0_6)))
set_option maxHeartbeats 8000000 in
set_option maxRecDepth 100000 in
theorem laws_toPkt.calls (a0_0 : Int) (a0_1 : Int) (a0_2 : Int) (a0_3 : Int) (a0_4 : Int) (a0_5 : Int) (a0_6 : ByteArray) (r1 : Int) (r2 : Int) (r3 : Int) (r4 : Int) (r5 : Int) (r6 : Int) (r7 : ByteArray) (w : World) (h : laws_toPkt.f a0_0 a0_1 a0_2 a0_3 a0_4 a0_5 a0_6 = some (r1, r2, r3, r4, r5, r6, r7)) :
    Calls Tryz.prog 44 #[.agg #[.int .i64 a0_0, .int .i64 a0_1, .int .i64 a0_2, .int .i64 a0_3, .int .i64 a0_4, .int .i64 a0_5, .string a0_6]] w fun e w' => e = .returned (.agg #[.int .i64 r1, .int .i64 r2, .int .i64 r3, .int .i64 r4, .int .i64 r5, .int .i64 r6, .string r7]) ∧ Below w.heap.size w w' := by
  have hu59 := Tryz.underlying59
  have hu66 := Tryz.underlying66
  have hu55 := Tryz.underlying55
  have hu62 := Tryz.underlying62
  have HB := Aside0.mk (Below.refl w.heap.size w)
  have H : ((laws_toEnd.f a0_1 a0_2).bind fun bt104 => ((laws_toEnd.f a0_3 a0_4).bind fun bt106 => (some (a0_0, bt104.1, bt104.2, bt106.1, bt106.2, a0_5, a0_6)))) = some (r1, r2, r3, r4, r5, r6, r7) := h
  clear h
  replace H := Option.bind_eq_some_iff.mp H
  obtain ⟨⟨t104, t105⟩, A20, H⟩ := H
  replace H : ((laws_toEnd.f a0_3 a0_4).bind fun bt106 => (some (a0_0, t104, t105, bt106.1, bt106.2, a0_5, a0_6))) = some (r1, r2, r3, r4, r5, r6, r7) := H
  have A2 := Aside0.mk A20
  clear A20
  replace H := Option.bind_eq_some_iff.mp H
  obtain ⟨⟨t106, t107⟩, A30, H⟩ := H
  replace H : (some (a0_0, t104, t105, t106, t107, a0_5, a0_6)) = some (r1, r2, r3, r4, r5, r6, r7) := H
  have A3 := Aside0.mk A30
  clear A30
  simp only [Option.some.injEq, Prod.mk.injEq] at H
  obtain ⟨rfl, rfl, rfl, rfl, rfl, rfl, rfl⟩ := H
  go_enter Tryz.func44, Tryz.ntmps44
  go_wp2_with (first | ((with_reducible refine gate_dst (N := 1) rfl ?_); refine box_event ?hg (N := 1) ?hd (cs := #[.int .i64 a0_0, .int .i64 a0_1, .int .i64 a0_2, .int .i64 a0_3, .int .i64 a0_4, .int .i64 a0_5, .string a0_6]) (t := 59) ?hr ?_; (case hd => rfl); (case hg => rfl); (case hr => first | (go_simp; done) | (go_simp; rfl)); intro gb101 hg w4 hbox hb; have n0_ := Aside0.mk (below_step (by repeat (first | (with_reducible first | exact HB.out | apply below_alloc | apply pw_below_drewN | apply below_drew1) | exact HB.out)) hb); have n1_ := Aside0.mk (hbox); have n2_ := Aside0.mk ((by rw [hg]; exact (below_size (by repeat (first | (with_reducible first | exact HB.out | apply below_alloc | apply pw_below_drewN | apply below_drew1) | exact HB.out))) : w.heap.size ≤ gb101)); have n3_ := Aside0.mk ((by rw [hg]; exact (below_size (by repeat (first | (with_reducible first | exact HB.out | apply below_alloc | apply pw_below_drewN | apply below_drew1) | exact HB.out))) : w.heap.size ≤ gb101)); clear HB; have HB := n0_; have BK101 := n1_; have GW101 := n2_; have GE101 := n3_; clear n0_ n1_ n2_ n3_; clear hb hbox hg) | ((with_reducible refine gate_dst (N := 2) rfl ?_); refine box_event ?hg (N := 2) ?hd (cs := #[.int .i64 0, .int .i64 0, .int .i64 0, .int .i64 0, .int .i64 0, .int .i64 0, .string (⟨#[]⟩ : ByteArray)]) (t := 66) ?hr ?_; (case hd => rfl); (case hg => rfl); (case hr => first | (go_simp; done) | (go_simp; rfl)); intro gb102 hg w5 hbox hb; have n0_ := Aside0.mk (blk_below (g := gb101) (o := .cells #[.int .i64 a0_0, .int .i64 a0_1, .int .i64 a0_2, .int .i64 a0_3, .int .i64 a0_4, .int .i64 a0_5, .string a0_6] 59 (0, 0)) (by (with_reducible repeat (first | refine blk_drewN ?_ _ | refine blk_drew ?_ | refine blk_alloc ?_ _)); exact BK101.out) hb); have n1_ := Aside0.mk (below_step (by repeat (first | (with_reducible first | exact HB.out | apply below_alloc | apply pw_below_drewN | apply below_drew1 | refine below_set ?_ GE101.out) | exact HB.out)) hb); have n2_ := Aside0.mk (hbox); have n3_ := Aside0.mk ((by rw [hg]; exact (below_size (by repeat (first | (with_reducible first | exact HB.out | apply below_alloc | apply pw_below_drewN | apply below_drew1 | refine below_set ?_ GE101.out) | exact HB.out))) : w.heap.size ≤ gb102)); have n4_ := Aside0.mk ((by rw [hg]; exact (below_size (by repeat (first | (with_reducible first | exact HB.out | apply below_alloc | apply pw_below_drewN | apply below_drew1 | refine below_set ?_ GE101.out) | exact HB.out))) : w.heap.size ≤ gb102)); have n5_ := Aside0.mk ((by rw [hg]; exact Nat.ne_of_lt (blk_lt (g := gb101) (o := .cells #[.int .i64 a0_0, .int .i64 a0_1, .int .i64 a0_2, .int .i64 a0_3, .int .i64 a0_4, .int .i64 a0_5, .string a0_6] 59 (0, 0)) (by (with_reducible repeat (first | refine blk_drewN ?_ _ | refine blk_drew ?_ | refine blk_alloc ?_ _)); exact BK101.out)) : gb101 ≠ gb102)); have n6_ := Aside0.mk ((by rw [hg]; exact Nat.ne_of_gt (blk_lt (g := gb101) (o := .cells #[.int .i64 a0_0, .int .i64 a0_1, .int .i64 a0_2, .int .i64 a0_3, .int .i64 a0_4, .int .i64 a0_5, .string a0_6] 59 (0, 0)) (by (with_reducible repeat (first | refine blk_drewN ?_ _ | refine blk_drew ?_ | refine blk_alloc ?_ _)); exact BK101.out)) : gb102 ≠ gb101)); clear BK101; clear HB; have BK101 := n0_; have HB := n1_; have BK102 := n2_; have GW102 := n3_; have GE102 := n4_; have NB101_102 := n5_; have NB102_101 := n6_; clear n0_ n1_ n2_ n3_ n4_ n5_ n6_; clear hb hbox hg) | ((with_reducible refine gate_dst (N := 3) rfl ?_); refine box_event ?hg (N := 3) ?hd (cs := #[.int .i64 0, .int .i64 0, .int .i64 0, .int .i64 0, .int .i64 0, .int .i64 0, .string (⟨#[]⟩ : ByteArray)]) (t := 66) ?hr ?_; (case hd => rfl); (case hg => rfl); (case hr => first | (go_simp; done) | (go_simp; rfl)); intro gb103 hg w6 hbox hb; have n0_ := Aside0.mk (blk_below (g := gb101) (o := .cells #[.int .i64 a0_0, .int .i64 a0_1, .int .i64 a0_2, .int .i64 a0_3, .int .i64 a0_4, .int .i64 a0_5, .string a0_6] 59 (0, 0)) (by (with_reducible repeat (first | refine blk_drewN ?_ _ | refine blk_drew ?_ | refine blk_alloc ?_ _)); exact BK101.out) hb); have n1_ := Aside0.mk (blk_below (g := gb102) (o := .cells #[.int .i64 0, .int .i64 0, .int .i64 0, .int .i64 0, .int .i64 0, .int .i64 0, .string (⟨#[]⟩ : ByteArray)] 66 (0, 0)) (by (with_reducible repeat (first | refine blk_drewN ?_ _ | refine blk_drew ?_ | refine blk_alloc ?_ _)); exact BK102.out) hb); have n2_ := Aside0.mk (below_step (by repeat (first | (with_reducible first | exact HB.out | apply below_alloc | apply pw_below_drewN | apply below_drew1 | refine below_set ?_ GE101.out | refine below_set ?_ GE102.out) | exact HB.out)) hb); have n3_ := Aside0.mk (hbox); have n4_ := Aside0.mk ((by rw [hg]; exact (below_size (by repeat (first | (with_reducible first | exact HB.out | apply below_alloc | apply pw_below_drewN | apply below_drew1 | refine below_set ?_ GE101.out | refine below_set ?_ GE102.out) | exact HB.out))) : w.heap.size ≤ gb103)); have n5_ := Aside0.mk ((by rw [hg]; exact (below_size (by repeat (first | (with_reducible first | exact HB.out | apply below_alloc | apply pw_below_drewN | apply below_drew1 | refine below_set ?_ GE101.out | refine below_set ?_ GE102.out) | exact HB.out))) : w.heap.size ≤ gb103)); have n6_ := Aside0.mk ((by rw [hg]; exact Nat.ne_of_lt (blk_lt (g := gb101) (o := .cells #[.int .i64 a0_0, .int .i64 a0_1, .int .i64 a0_2, .int .i64 a0_3, .int .i64 a0_4, .int .i64 a0_5, .string a0_6] 59 (0, 0)) (by (with_reducible repeat (first | refine blk_drewN ?_ _ | refine blk_drew ?_ | refine blk_alloc ?_ _)); exact BK101.out)) : gb101 ≠ gb103)); have n7_ := Aside0.mk ((by rw [hg]; exact Nat.ne_of_gt (blk_lt (g := gb101) (o := .cells #[.int .i64 a0_0, .int .i64 a0_1, .int .i64 a0_2, .int .i64 a0_3, .int .i64 a0_4, .int .i64 a0_5, .string a0_6] 59 (0, 0)) (by (with_reducible repeat (first | refine blk_drewN ?_ _ | refine blk_drew ?_ | refine blk_alloc ?_ _)); exact BK101.out)) : gb103 ≠ gb101)); have n8_ := Aside0.mk ((by rw [hg]; exact Nat.ne_of_lt (blk_lt (g := gb102) (o := .cells #[.int .i64 0, .int .i64 0, .int .i64 0, .int .i64 0, .int .i64 0, .int .i64 0, .string (⟨#[]⟩ : ByteArray)] 66 (0, 0)) (by (with_reducible repeat (first | refine blk_drewN ?_ _ | refine blk_drew ?_ | refine blk_alloc ?_ _)); exact BK102.out)) : gb102 ≠ gb103)); have n9_ := Aside0.mk ((by rw [hg]; exact Nat.ne_of_gt (blk_lt (g := gb102) (o := .cells #[.int .i64 0, .int .i64 0, .int .i64 0, .int .i64 0, .int .i64 0, .int .i64 0, .string (⟨#[]⟩ : ByteArray)] 66 (0, 0)) (by (with_reducible repeat (first | refine blk_drewN ?_ _ | refine blk_drew ?_ | refine blk_alloc ?_ _)); exact BK102.out)) : gb103 ≠ gb102)); clear BK101; clear BK102; clear HB; have BK101 := n0_; have BK102 := n1_; have HB := n2_; have BK103 := n3_; have GW103 := n4_; have GE103 := n5_; have NB101_103 := n6_; have NB103_101 := n7_; have NB102_103 := n8_; have NB103_102 := n9_; clear n0_ n1_ n2_ n3_ n4_ n5_ n6_ n7_ n8_ n9_; clear hb hbox hg; have hnb7 := NB101_102.out; have hnc7 := NB102_101.out; have hnb8 := NB101_103.out; have hnc8 := NB103_101.out; have hcz9_0 : w6.cell? ⟨gb101, 0, none⟩ = some (.int .i64 a0_0) := (blk_cell BK101.out 0).trans rfl; have hcz9_1 : w6.cell? ⟨gb101, 1, none⟩ = some (.int .i64 a0_1) := (blk_cell BK101.out 1).trans rfl; have hcz9_2 : w6.cell? ⟨gb101, 2, none⟩ = some (.int .i64 a0_2) := (blk_cell BK101.out 2).trans rfl; have hcz9_3 : w6.cell? ⟨gb101, 3, none⟩ = some (.int .i64 a0_3) := (blk_cell BK101.out 3).trans rfl; have hcz9_4 : w6.cell? ⟨gb101, 4, none⟩ = some (.int .i64 a0_4) := (blk_cell BK101.out 4).trans rfl; have hcz9_5 : w6.cell? ⟨gb101, 5, none⟩ = some (.int .i64 a0_5) := (blk_cell BK101.out 5).trans rfl; have hcz9_6 : w6.cell? ⟨gb101, 6, none⟩ = some (.string a0_6) := (blk_cell BK101.out 6).trans rfl; have hfz9_0 := blk_frozen BK101.out 0; have hfz9_1 := blk_frozen BK101.out 1; have hfz9_2 := blk_frozen BK101.out 2; have hfz9_3 := blk_frozen BK101.out 3; have hfz9_4 := blk_frozen BK101.out 4; have hfz9_5 := blk_frozen BK101.out 5; have hfz9_6 := blk_frozen BK101.out 6; have hnb10 := NB103_102.out; have hnc10 := NB102_103.out; have hcz11_0 : w6.cell? ⟨gb103, 0, none⟩ = some (.int .i64 0) := (blk_cell BK103.out 0).trans rfl; have hcz11_1 : w6.cell? ⟨gb103, 1, none⟩ = some (.int .i64 0) := (blk_cell BK103.out 1).trans rfl; have hcz11_2 : w6.cell? ⟨gb103, 2, none⟩ = some (.int .i64 0) := (blk_cell BK103.out 2).trans rfl; have hcz11_3 : w6.cell? ⟨gb103, 3, none⟩ = some (.int .i64 0) := (blk_cell BK103.out 3).trans rfl; have hcz11_4 : w6.cell? ⟨gb103, 4, none⟩ = some (.int .i64 0) := (blk_cell BK103.out 4).trans rfl; have hcz11_5 : w6.cell? ⟨gb103, 5, none⟩ = some (.int .i64 0) := (blk_cell BK103.out 5).trans rfl; have hcz11_6 : w6.cell? ⟨gb103, 6, none⟩ = some (.string (⟨#[]⟩ : ByteArray)) := (blk_cell BK103.out 6).trans rfl; have hfz11_0 := blk_frozen BK103.out 0; have hfz11_1 := blk_frozen BK103.out 1; have hfz11_2 := blk_frozen BK103.out 2; have hfz11_3 := blk_frozen BK103.out 3; have hfz11_4 := blk_frozen BK103.out 4; have hfz11_5 := blk_frozen BK103.out 5; have hfz11_6 := blk_frozen BK103.out 6) | ((with_reducible refine gate_callee (f := 94) rfl ?_); refine goesL_ (some 9) rfl rfl Tryz.func94 (by kernel_rfl) rfl #[.agg #[.int .i64 a0_1, .int .i64 a0_2]] rfl (by (try simp only [List.map_toArray, List.map_cons, List.map_nil]); first | done | rfl | (simp only [List.length_drop, List.length_take]; rfl)) ?_; (with_reducible refine (laws_toEnd.calls a0_1 a0_2 t104 t105 _ A2.out).mono ?_); rintro e w12 ⟨rfl, hb⟩; refine ⟨_, rfl, ?_⟩; have n0_ := Aside0.mk (blk_below (g := gb101) (o := .cells #[.int .i64 a0_0, .int .i64 a0_1, .int .i64 a0_2, .int .i64 a0_3, .int .i64 a0_4, .int .i64 a0_5, .string a0_6] 59 (0, 0)) (by (with_reducible repeat (first | refine blk_drewN ?_ _ | refine blk_drew ?_ | refine blk_alloc ?_ _)); refine blk_far ?_ NB101_103.out _; (with_reducible repeat (first | refine blk_drewN ?_ _ | refine blk_drew ?_ | refine blk_alloc ?_ _)); exact BK101.out) hb); have n1_ := Aside0.mk (blk_below (g := gb102) (o := .cells #[.int .i64 0, .int .i64 0, .int .i64 0, .int .i64 0, .int .i64 0, .int .i64 0, .string (⟨#[]⟩ : ByteArray)] 66 (0, 0)) (by (with_reducible repeat (first | refine blk_drewN ?_ _ | refine blk_drew ?_ | refine blk_alloc ?_ _)); refine blk_far ?_ NB102_103.out _; (with_reducible repeat (first | refine blk_drewN ?_ _ | refine blk_drew ?_ | refine blk_alloc ?_ _)); exact BK102.out) hb); have n2_ := Aside0.mk (blk_below (g := gb103) (o := .cells #[.int .i64 a0_0, .int .i64 0, .int .i64 0, .int .i64 0, .int .i64 0, .int .i64 0, .string (⟨#[]⟩ : ByteArray)] 66 (0, 0)) (by (with_reducible repeat (first | refine blk_drewN ?_ _ | refine blk_drew ?_ | refine blk_alloc ?_ _)); refine blk_put (cs := #[.int .i64 0, .int .i64 0, .int .i64 0, .int .i64 0, .int .i64 0, .int .i64 0, .string (⟨#[]⟩ : ByteArray)]) ?_ 0 _ rfl; (with_reducible repeat (first | refine blk_drewN ?_ _ | refine blk_drew ?_ | refine blk_alloc ?_ _)); exact BK103.out) hb); have n3_ := Aside0.mk (below_step (by repeat (first | (with_reducible first | exact HB.out | apply below_alloc | apply pw_below_drewN | apply below_drew1 | refine below_set ?_ GE101.out | refine below_set ?_ GE102.out | refine below_set ?_ GE103.out) | exact HB.out)) hb); clear BK101; clear BK102; clear BK103; clear HB; have BK101 := n0_; have BK102 := n1_; have BK103 := n2_; have HB := n3_; clear n0_ n1_ n2_ n3_; (try clear hb); (try clear hb2); (try clear hk); (try clear hi); have hcz13_0 : w12.cell? ⟨gb103, 0, none⟩ = some (.int .i64 a0_0) := (blk_cell BK103.out 0).trans rfl; have hcz13_1 : w12.cell? ⟨gb103, 1, none⟩ = some (.int .i64 0) := (blk_cell BK103.out 1).trans rfl; have hcz13_2 : w12.cell? ⟨gb103, 2, none⟩ = some (.int .i64 0) := (blk_cell BK103.out 2).trans rfl; have hcz13_3 : w12.cell? ⟨gb103, 3, none⟩ = some (.int .i64 0) := (blk_cell BK103.out 3).trans rfl; have hcz13_4 : w12.cell? ⟨gb103, 4, none⟩ = some (.int .i64 0) := (blk_cell BK103.out 4).trans rfl; have hcz13_5 : w12.cell? ⟨gb103, 5, none⟩ = some (.int .i64 0) := (blk_cell BK103.out 5).trans rfl; have hcz13_6 : w12.cell? ⟨gb103, 6, none⟩ = some (.string (⟨#[]⟩ : ByteArray)) := (blk_cell BK103.out 6).trans rfl; have hfz13_0 := blk_frozen BK103.out 0; have hfz13_1 := blk_frozen BK103.out 1; have hfz13_2 := blk_frozen BK103.out 2; have hfz13_3 := blk_frozen BK103.out 3; have hfz13_4 := blk_frozen BK103.out 4; have hfz13_5 := blk_frozen BK103.out 5; have hfz13_6 := blk_frozen BK103.out 6; have hcz14_0 : w12.cell? ⟨gb101, 0, none⟩ = some (.int .i64 a0_0) := (blk_cell BK101.out 0).trans rfl; have hcz14_1 : w12.cell? ⟨gb101, 1, none⟩ = some (.int .i64 a0_1) := (blk_cell BK101.out 1).trans rfl; have hcz14_2 : w12.cell? ⟨gb101, 2, none⟩ = some (.int .i64 a0_2) := (blk_cell BK101.out 2).trans rfl; have hcz14_3 : w12.cell? ⟨gb101, 3, none⟩ = some (.int .i64 a0_3) := (blk_cell BK101.out 3).trans rfl; have hcz14_4 : w12.cell? ⟨gb101, 4, none⟩ = some (.int .i64 a0_4) := (blk_cell BK101.out 4).trans rfl; have hcz14_5 : w12.cell? ⟨gb101, 5, none⟩ = some (.int .i64 a0_5) := (blk_cell BK101.out 5).trans rfl; have hcz14_6 : w12.cell? ⟨gb101, 6, none⟩ = some (.string a0_6) := (blk_cell BK101.out 6).trans rfl; have hfz14_0 := blk_frozen BK101.out 0; have hfz14_1 := blk_frozen BK101.out 1; have hfz14_2 := blk_frozen BK101.out 2; have hfz14_3 := blk_frozen BK101.out 3; have hfz14_4 := blk_frozen BK101.out 4; have hfz14_5 := blk_frozen BK101.out 5; have hfz14_6 := blk_frozen BK101.out 6) | ((with_reducible refine gate_callee (f := 94) rfl ?_); refine goesL_ (some 13) rfl rfl Tryz.func94 (by kernel_rfl) rfl #[.agg #[.int .i64 a0_3, .int .i64 a0_4]] rfl (by (try simp only [List.map_toArray, List.map_cons, List.map_nil]); first | done | rfl | (simp only [List.length_drop, List.length_take]; rfl)) ?_; (with_reducible refine (laws_toEnd.calls a0_3 a0_4 t106 t107 _ A3.out).mono ?_); rintro e w15 ⟨rfl, hb⟩; refine ⟨_, rfl, ?_⟩; have n0_ := Aside0.mk (blk_below (g := gb101) (o := .cells #[.int .i64 a0_0, .int .i64 a0_1, .int .i64 a0_2, .int .i64 a0_3, .int .i64 a0_4, .int .i64 a0_5, .string a0_6] 59 (0, 0)) (by (with_reducible repeat (first | refine blk_drewN ?_ _ | refine blk_drew ?_ | refine blk_alloc ?_ _)); refine blk_far ?_ NB101_103.out _; (with_reducible repeat (first | refine blk_drewN ?_ _ | refine blk_drew ?_ | refine blk_alloc ?_ _)); refine blk_far ?_ NB101_103.out _; (with_reducible repeat (first | refine blk_drewN ?_ _ | refine blk_drew ?_ | refine blk_alloc ?_ _)); exact BK101.out) hb); have n1_ := Aside0.mk (blk_below (g := gb102) (o := .cells #[.int .i64 0, .int .i64 0, .int .i64 0, .int .i64 0, .int .i64 0, .int .i64 0, .string (⟨#[]⟩ : ByteArray)] 66 (0, 0)) (by (with_reducible repeat (first | refine blk_drewN ?_ _ | refine blk_drew ?_ | refine blk_alloc ?_ _)); refine blk_far ?_ NB102_103.out _; (with_reducible repeat (first | refine blk_drewN ?_ _ | refine blk_drew ?_ | refine blk_alloc ?_ _)); refine blk_far ?_ NB102_103.out _; (with_reducible repeat (first | refine blk_drewN ?_ _ | refine blk_drew ?_ | refine blk_alloc ?_ _)); exact BK102.out) hb); have n2_ := Aside0.mk (blk_below (g := gb103) (o := .cells #[.int .i64 a0_0, .int .i64 t104, .int .i64 t105, .int .i64 0, .int .i64 0, .int .i64 0, .string (⟨#[]⟩ : ByteArray)] 66 (0, 0)) (by (with_reducible repeat (first | refine blk_drewN ?_ _ | refine blk_drew ?_ | refine blk_alloc ?_ _)); refine blk_put (cs := #[.int .i64 a0_0, .int .i64 t104, .int .i64 0, .int .i64 0, .int .i64 0, .int .i64 0, .string (⟨#[]⟩ : ByteArray)]) ?_ 2 _ rfl; (with_reducible repeat (first | refine blk_drewN ?_ _ | refine blk_drew ?_ | refine blk_alloc ?_ _)); refine blk_put (cs := #[.int .i64 a0_0, .int .i64 0, .int .i64 0, .int .i64 0, .int .i64 0, .int .i64 0, .string (⟨#[]⟩ : ByteArray)]) ?_ 1 _ rfl; (with_reducible repeat (first | refine blk_drewN ?_ _ | refine blk_drew ?_ | refine blk_alloc ?_ _)); exact BK103.out) hb); have n3_ := Aside0.mk (below_step (by repeat (first | (with_reducible first | exact HB.out | apply below_alloc | apply pw_below_drewN | apply below_drew1 | refine below_set ?_ GE101.out | refine below_set ?_ GE102.out | refine below_set ?_ GE103.out) | exact HB.out)) hb); clear BK101; clear BK102; clear BK103; clear HB; have BK101 := n0_; have BK102 := n1_; have BK103 := n2_; have HB := n3_; clear n0_ n1_ n2_ n3_; (try clear hb); (try clear hb2); (try clear hk); (try clear hi); have hcz16_0 : w15.cell? ⟨gb103, 0, none⟩ = some (.int .i64 a0_0) := (blk_cell BK103.out 0).trans rfl; have hcz16_1 : w15.cell? ⟨gb103, 1, none⟩ = some (.int .i64 t104) := (blk_cell BK103.out 1).trans rfl; have hcz16_2 : w15.cell? ⟨gb103, 2, none⟩ = some (.int .i64 t105) := (blk_cell BK103.out 2).trans rfl; have hcz16_3 : w15.cell? ⟨gb103, 3, none⟩ = some (.int .i64 0) := (blk_cell BK103.out 3).trans rfl; have hcz16_4 : w15.cell? ⟨gb103, 4, none⟩ = some (.int .i64 0) := (blk_cell BK103.out 4).trans rfl; have hcz16_5 : w15.cell? ⟨gb103, 5, none⟩ = some (.int .i64 0) := (blk_cell BK103.out 5).trans rfl; have hcz16_6 : w15.cell? ⟨gb103, 6, none⟩ = some (.string (⟨#[]⟩ : ByteArray)) := (blk_cell BK103.out 6).trans rfl; have hfz16_0 := blk_frozen BK103.out 0; have hfz16_1 := blk_frozen BK103.out 1; have hfz16_2 := blk_frozen BK103.out 2; have hfz16_3 := blk_frozen BK103.out 3; have hfz16_4 := blk_frozen BK103.out 4; have hfz16_5 := blk_frozen BK103.out 5; have hfz16_6 := blk_frozen BK103.out 6; have hcz17_0 : w15.cell? ⟨gb101, 0, none⟩ = some (.int .i64 a0_0) := (blk_cell BK101.out 0).trans rfl; have hcz17_1 : w15.cell? ⟨gb101, 1, none⟩ = some (.int .i64 a0_1) := (blk_cell BK101.out 1).trans rfl; have hcz17_2 : w15.cell? ⟨gb101, 2, none⟩ = some (.int .i64 a0_2) := (blk_cell BK101.out 2).trans rfl; have hcz17_3 : w15.cell? ⟨gb101, 3, none⟩ = some (.int .i64 a0_3) := (blk_cell BK101.out 3).trans rfl; have hcz17_4 : w15.cell? ⟨gb101, 4, none⟩ = some (.int .i64 a0_4) := (blk_cell BK101.out 4).trans rfl; have hcz17_5 : w15.cell? ⟨gb101, 5, none⟩ = some (.int .i64 a0_5) := (blk_cell BK101.out 5).trans rfl; have hcz17_6 : w15.cell? ⟨gb101, 6, none⟩ = some (.string a0_6) := (blk_cell BK101.out 6).trans rfl; have hfz17_0 := blk_frozen BK101.out 0; have hfz17_1 := blk_frozen BK101.out 1; have hfz17_2 := blk_frozen BK101.out 2; have hfz17_3 := blk_frozen BK101.out 3; have hfz17_4 := blk_frozen BK101.out 4; have hfz17_5 := blk_frozen BK101.out 5; have hfz17_6 := blk_frozen BK101.out 6; have hcz18_0 : w15.cell? ⟨gb102, 0, none⟩ = some (.int .i64 0) := (blk_cell BK102.out 0).trans rfl; have hcz18_1 : w15.cell? ⟨gb102, 1, none⟩ = some (.int .i64 0) := (blk_cell BK102.out 1).trans rfl; have hcz18_2 : w15.cell? ⟨gb102, 2, none⟩ = some (.int .i64 0) := (blk_cell BK102.out 2).trans rfl; have hcz18_3 : w15.cell? ⟨gb102, 3, none⟩ = some (.int .i64 0) := (blk_cell BK102.out 3).trans rfl; have hcz18_4 : w15.cell? ⟨gb102, 4, none⟩ = some (.int .i64 0) := (blk_cell BK102.out 4).trans rfl; have hcz18_5 : w15.cell? ⟨gb102, 5, none⟩ = some (.int .i64 0) := (blk_cell BK102.out 5).trans rfl; have hcz18_6 : w15.cell? ⟨gb102, 6, none⟩ = some (.string (⟨#[]⟩ : ByteArray)) := (blk_cell BK102.out 6).trans rfl; have hfz18_0 := blk_frozen BK102.out 0; have hfz18_1 := blk_frozen BK102.out 1; have hfz18_2 := blk_frozen BK102.out 2; have hfz18_3 := blk_frozen BK102.out 3; have hfz18_4 := blk_frozen BK102.out 4; have hfz18_5 := blk_frozen BK102.out 5; have hfz18_6 := blk_frozen BK102.out 6))
  refine bodyPost_ret (results_cell_row rfl _ _ gb102 66 #[.int .i64 a0_0, .int .i64 t104, .int .i64 t105, .int .i64 t106, .int .i64 t107, .int .i64 a0_5, .string a0_6] (0, 0) _ rfl (by (with_reducible repeat (first | refine blk_drewN ?_ _ | refine blk_drew ?_ | refine blk_alloc ?_ _)); refine blk_put (cs := #[.int .i64 a0_0, .int .i64 t104, .int .i64 t105, .int .i64 t106, .int .i64 t107, .int .i64 a0_5, .string (⟨#[]⟩ : ByteArray)]) ?_ 6 _ rfl; (with_reducible repeat (first | refine blk_drewN ?_ _ | refine blk_drew ?_ | refine blk_alloc ?_ _)); refine blk_put (cs := #[.int .i64 a0_0, .int .i64 t104, .int .i64 t105, .int .i64 t106, .int .i64 t107, .int .i64 0, .string (⟨#[]⟩ : ByteArray)]) ?_ 5 _ rfl; (with_reducible repeat (first | refine blk_drewN ?_ _ | refine blk_drew ?_ | refine blk_alloc ?_ _)); refine blk_put (cs := #[.int .i64 a0_0, .int .i64 t104, .int .i64 t105, .int .i64 t106, .int .i64 0, .int .i64 0, .string (⟨#[]⟩ : ByteArray)]) ?_ 4 _ rfl; (with_reducible repeat (first | refine blk_drewN ?_ _ | refine blk_drew ?_ | refine blk_alloc ?_ _)); refine blk_put (cs := #[.int .i64 a0_0, .int .i64 t104, .int .i64 t105, .int .i64 0, .int .i64 0, .int .i64 0, .string (⟨#[]⟩ : ByteArray)]) ?_ 3 _ rfl; (with_reducible repeat (first | refine blk_drewN ?_ _ | refine blk_drew ?_ | refine blk_alloc ?_ _)); refine blk_put (cs := #[.int .i64 a0_0, .int .i64 t104, .int .i64 0, .int .i64 0, .int .i64 0, .int .i64 0, .string (⟨#[]⟩ : ByteArray)]) ?_ 2 _ rfl; (with_reducible repeat (first | refine blk_drewN ?_ _ | refine blk_drew ?_ | refine blk_alloc ?_ _)); refine blk_put (cs := #[.int .i64 a0_0, .int .i64 0, .int .i64 0, .int .i64 0, .int .i64 0, .int .i64 0, .string (⟨#[]⟩ : ByteArray)]) ?_ 1 _ rfl; (with_reducible repeat (first | refine blk_drewN ?_ _ | refine blk_drew ?_ | refine blk_alloc ?_ _)); refine blk_put (cs := #[.int .i64 0, .int .i64 0, .int .i64 0, .int .i64 0, .int .i64 0, .int .i64 0, .string (⟨#[]⟩ : ByteArray)]) ?_ 0 _ rfl; (with_reducible repeat (first | refine blk_drewN ?_ _ | refine blk_drew ?_ | refine blk_alloc ?_ _)); refine blk_far ?_ NB102_103.out _; (with_reducible repeat (first | refine blk_drewN ?_ _ | refine blk_drew ?_ | refine blk_alloc ?_ _)); refine blk_far ?_ NB102_103.out _; (with_reducible repeat (first | refine blk_drewN ?_ _ | refine blk_drew ?_ | refine blk_alloc ?_ _)); refine blk_far ?_ NB102_103.out _; (with_reducible repeat (first | refine blk_drewN ?_ _ | refine blk_drew ?_ | refine blk_alloc ?_ _)); refine blk_far ?_ NB102_103.out _; (with_reducible repeat (first | refine blk_drewN ?_ _ | refine blk_drew ?_ | refine blk_alloc ?_ _)); exact BK102.out) Tryz.underlying66 rfl (by kernel_rfl)) rfl ?_
  exact ⟨by first | rfl | (simp [errW_none, errW_some] <;> rfl) | (simp [*, errW_none, errW_some] <;> rfl), by repeat (first | (with_reducible first | exact HB.out | apply below_alloc | apply pw_below_drewN | apply below_drew1 | refine below_set ?_ GE101.out | refine below_set ?_ GE102.out | refine below_set ?_ GE103.out) | exact HB.out)⟩
end
end Go.Proofs.YtfjbjiklohjodaaGreatDoor.Q
namespace Go.Proofs.YtfjbjiklohjodaaGreatDoor.Q
open Go.RowKit Go.Proofs.YtfjbjiklohjodaaGreatDoorW.PrintWords Go.Proofs.YtfjbjiklohjodaaGreatDoor.Z
set_option linter.unusedVariables false
set_option linter.unusedSimpArgs false
def spec_EndText.f (a0_0 : Int) (a0_1 : Int) : Option ByteArray := some ⟨(endText ⟨a0_0, a0_1⟩).toArray⟩
theorem spec_EndText.calls (a0_0 : Int) (a0_1 : Int) (r : ByteArray) (w : World) (h : spec_EndText.f a0_0 a0_1 = some r) :
    Calls Tryz.prog 118 #[.agg #[.int .i64 a0_0, .int .i64 a0_1]] w fun e w' => e = .returned (.string r) ∧ Below w.heap.size w w' := by
  obtain rfl := Option.some.inj h
  exact spec_EndText ⟨a0_0, a0_1⟩ w
end Go.Proofs.YtfjbjiklohjodaaGreatDoor.Q
namespace Go.Proofs.YtfjbjiklohjodaaGreatDoor.Z
open Go.RowKit Go.Proofs.YtfjbjiklohjodaaGreatDoorW.PrintWords Go.Proofs.YtfjbjiklohjodaaGreatDoorW.PrintLast
set_option linter.unusedVariables false
set_option linter.unusedSimpArgs false
attribute [local go_sem ↓] Go.wp_at_zero Go.wp_at_succ
attribute [local go_sem high] bytes_append
theorem spec_l1Digit (b : UInt8) (w : World) : Calls Tryz.prog 191 #[.int .u8 (b.toNat : Int)] w fun r w' => r = .returned (.int .i64 (digI b)) ∧ w' = w := by
  have hb := b.toNat_lt
  obtain ⟨n, hn⟩ : ∃ n, b.toNat = n := ⟨_, rfl⟩
  have e : digI b = if n < 48 ∨ 57 < n then -1 else (n : Int) - 48 := by unfold digI; rw [hn]
  rw [hn] at hb ⊢
  by_cases h : n < 48 ∨ 57 < n
  · rw [if_pos h] at e
    have E := Aside0.mk e; clear e
    rcases h with h | h
    · have t1 : decide ((n : Int) < 48) = true := decide_eq_true (by omega)
      go_enter Tryz.func191, Tryz.ntmps191
      go_wp2
      go_ret
      exact ⟨by rw [E.out]; rfl, rfl⟩
    · have t1 : decide ((n : Int) < 48) = false := decide_eq_false (by omega)
      have t2 : decide ((n : Int) > 57) = true := decide_eq_true (by omega)
      have t3 : decide ((57 : Int) < (n : Int)) = true := decide_eq_true (by omega)
      go_enter Tryz.func191, Tryz.ntmps191
      go_wp2
      go_ret
      exact ⟨by rw [E.out]; rfl, rfl⟩
  · rw [if_neg h] at e
    have E := Aside0.mk e; clear e
    have t1 : decide ((n : Int) < 48) = false := decide_eq_false (by omega)
    have t2 : decide ((n : Int) > 57) = false := decide_eq_false (by omega)
    have t3 : decide ((57 : Int) < (n : Int)) = false := decide_eq_false (by omega)
    go_enter Tryz.func191, Tryz.ntmps191
    go_wp2
    go_ret
    exact ⟨by rw [E.out]; rfl, rfl⟩
theorem digI_range (b : UInt8) : -1 ≤ digI b ∧ digI b ≤ 9 := by unfold digI; split <;> omega
theorem text_len34 : ∀ e ∈ allEnds, (endText e).length = 3 ∨ (endText e).length = 4 := by decide +kernel
theorem endRead_len {l : List UInt8} (h : ¬ (3 ≤ l.length ∧ l.length ≤ 4)) : endRead l = none := by
  refine endRead_none (fun e he ht => ?_)
  have := text_len34 e (anyB_mem he)
  rw [ht] at this
  omega
theorem endRead_yes {l : List UInt8} (hl : l ≠ []) (h : endText (readE l) = l) : endRead l = some (readE l) := by
  have ha : anyB (readE l) = true := by
    cases h2 : anyB (readE l) with
    | true => rfl
    | false =>
      have h0 : endText (readE l) = [] := by unfold endText; rw [h2]; rfl
      exact absurd (h.symm.trans h0) hl
  unfold endRead
  rw [ha, h]
  simp
theorem endRead_no {l : List UInt8} (h : endText (readE l) ≠ l) : endRead l = none := by
  unfold endRead
  rw [decide_eq_false h, Bool.and_false]
  rfl
set_option maxRecDepth 100000 in
set_option maxHeartbeats 2000000 in
theorem spec_EndRead (l : List UInt8) (hl : l.length ≤ 100000000) (w : World) :
    Calls Tryz.prog 184 #[vS l] w fun r w' => r = .returned (vOpt (endRead l)) ∧ Below w.heap.size w w' := by
  by_cases h : 3 ≤ l.length ∧ l.length ≤ 4
  · have hin : inB (l.length : Int) 3 4 = true := by unfold inB; simp; omega
    have H := Aside0.mk hin; clear hin
    obtain ⟨b0, l1, hb0⟩ : ∃ b t, l = b :: t := by
      cases l with
      | nil => simp at h
      | cons b t => exact ⟨b, t, rfl⟩
    have HB := Aside0.mk hb0; clear hb0
    obtain ⟨h3, h4⟩ := h
    go_enter Tryz.func184, Tryz.ntmps184
    go_wp2_with (go_at_call 63; refine (spec_l6In _ _ _ _).mono ?_; rintro r w1 ⟨rfl, rfl⟩; rw [H.out])
    obtain ⟨wa, hwa, hba, bk, hza⟩ := box_as w (.cells #[.int .i64 0, .int .i64 0] 62)
    rw [← hwa]
    clear hwa
    go_upto_region 5 with (go_at_call 191; refine (spec_l1Digit _ _).mono ?_; rintro r w2 ⟨rfl, rfl⟩)
    obtain ⟨d0, hd0⟩ : ∃ d, digI (⟨l.toArray⟩ : ByteArray)[0] = d := ⟨_, rfl⟩
    rw [hd0]
    obtain ⟨wb, hwb, hbb, bk2, hzb⟩ := box_as w2 (.cells #[.int .i64 d0, .int .i64 0] 62)
    rw [← hwb]
    clear hwb
    replace bk := (hbb.block _ hza).trans bk
    have hB : Below w.heap.size w wb := below_step hba hbb
    have HD := Aside0.mk hd0; clear hd0
    go_wp2
    go_loopw [6] (fun i w' => ∃ (k : Nat) (P : Int), k ≤ l.length ∧ i = .int .i64 k ∧ ((k = 2 ∧ P = 0) ∨ (k = 3 ∧ -1 ≤ P ∧ P ≤ 9) ∨ (k = 4 ∧ -11 ≤ P ∧ P ≤ 99)) ∧ Aside0 (((l.take k).drop 2).foldl (fun n b => 10 * n + digI b) 0 = P) ∧ Aside0 (w'.heap[w2.heap.size]? = some (.cells #[.int .i64 d0, .int .i64 P] 62 (0, 0))) ∧ Below w2.heap.size wb w') (fun i _ => l.length - (intOf i).toNat)
    case atStart => exact ⟨2, 0, by omega, rfl, .inl ⟨rfl, rfl⟩, ⟨by simp⟩, ⟨bk2⟩, Below.refl _ _⟩
    case round =>
      obtain ⟨k, P, hk, rfl, hP, HF, HX, hb⟩ := hrel
      have hz := blk_lt HX.out
      have c0 : wr.cell? ⟨w2.heap.size, 0, none⟩ = some (.int .i64 d0) := (blk_cell HX.out 0).trans rfl
      have c1 : wr.cell? ⟨w2.heap.size, 1, none⟩ = some (.int .i64 P) := (blk_cell HX.out 1).trans rfl
      have f0 := blk_frozen HX.out 0
      have f1 := blk_frozen HX.out 1
      by_cases hlt : k < l.length
      · have hk0 : (0 : Int) ≤ (k : Int) := by omega
        have hk1 : (k : Int) < (l.length : Int) := by omega
        have v1 : IntKind.i64.wrap (10 * P) = 10 * P := IntWalk.i64_in _ (by omega)
        go_wp2
        obtain ⟨dk, hdk⟩ : ∃ d, digI ((⟨l.toArray⟩ : ByteArray)[k]'hlt) = d := ⟨_, rfl⟩
        have hdr := digI_range ((⟨l.toArray⟩ : ByteArray)[k]'hlt)
        rw [hdk] at hdr
        have v2 : IntKind.i64.wrap (10 * P + dk) = 10 * P + dk := IntWalk.i64_in _ (by omega)
        have HS := Aside0.mk (show ((l.take (k + 1)).drop 2).foldl (fun n b => 10 * n + digI b) 0 = 10 * P + dk from by
          rw [List.take_add_one, List.getElem?_eq_getElem hlt, List.drop_append_of_le_length (by rw [List.length_take]; omega)]
          simp only [Option.toList, List.foldl_append, List.foldl_cons, List.foldl_nil, HF.out]
          rw [← hdk]; rfl)
        have HK := Aside0.mk hdk; clear hdk
        refine lin_start (fun _ => True) (true, [([], []), ([0], [0]), ([1], [1]), ([], []), ([], []), ([3, 4], [3, 4]), ([5], [5]), ([2, 6], [2, 6]), ([0, 1, 2, 3, 4, 5, 6, 7], []), ([8, 7, 6, 0, 1, 2, 3, 4, 5, 6, 7], [7, 8])]) [0, 3, 4, 5, 1, 2, 6, 7, 8, 9] (by kernel_rfl) (by kernel_rfl) (by kernel_rfl) trivial ?_
        repeat (first | (refine lin_take rfl rfl (by kernel_rfl) (fun _ _ _ h => h) (by rfl) (v := ?_) (a' := ?_) ?_ ?_ ?_; rotate_left 2; (intro w' _; go_simp; with_reducible rfl); (simp only [List.getElem_toArray, List.getElem_cons_zero, List.getElem_cons_succ, Act.put, List.setIfInBounds_toArray, List.set_cons_zero, List.set_cons_succ]; rfl)) | (refine lin_off rfl rfl (by kernel_rfl) (fun _ _ _ h => h) (by rfl) (a' := ?_) ?_ ?_; rotate_left 1; (simp only [List.getElem_toArray, List.getElem_cons_zero, List.getElem_cons_succ, Act.put, List.setIfInBounds_toArray, List.set_cons_zero, List.set_cons_succ]; rfl)))
        refine lin_two (j := 6) (rest' := [1, 2, 7, 8, 9]) rfl rfl rfl rfl (by kernel_rfl) rfl ?_ ?_
        · intro _ K hK
          refine step_value (v := .int .i64 P) (w1 := wr.drew) (by rfl) rfl ?_ ?_
          · go_simp
          refine hK.out _ _ trivial ?_
          clear hK
          refine lin_norm (a' := ?_) ?_ ?_; rotate_left 1; (simp only [List.getElem_toArray, List.getElem_cons_zero, List.getElem_cons_succ, Act.put, List.setIfInBounds_toArray, List.set_cons_zero, List.set_cons_succ]; rfl)
          repeat (first | (refine lin_take rfl rfl (by kernel_rfl) (fun _ _ _ h => h) (by rfl) (v := ?_) (a' := ?_) ?_ ?_ ?_; rotate_left 2; (intro w' _; go_simp; with_reducible rfl); (simp only [List.getElem_toArray, List.getElem_cons_zero, List.getElem_cons_succ, Act.put, List.setIfInBounds_toArray, List.set_cons_zero, List.set_cons_succ]; rfl)) | (refine lin_off rfl rfl (by kernel_rfl) (fun _ _ _ h => h) (by rfl) (a' := ?_) ?_ ?_; rotate_left 1; (simp only [List.getElem_toArray, List.getElem_cons_zero, List.getElem_cons_succ, Act.put, List.setIfInBounds_toArray, List.set_cons_zero, List.set_cons_succ]; rfl)))
          refine lin_call rfl rfl rfl Tryz.func191 (by kernel_rfl) (by kernel_rfl) rfl (by rfl) (args := #[.int .u8 (((⟨l.toArray⟩ : ByteArray)[k]'hlt).toNat : Int)]) (by (try simp only [List.map_toArray, List.map_cons, List.map_nil]); first | done | rfl) (fun hS => ?_)
          refine (spec_l1Digit _ _).mono ?_
          rintro r w4 ⟨rfl, rfl⟩
          refine ⟨_, rfl, trivial, ?_⟩
          rw [HK.out]
          refine lin_norm (a' := ?_) ?_ ?_; rotate_left 1; (simp only [List.getElem_toArray, List.getElem_cons_zero, List.getElem_cons_succ, Act.put, List.setIfInBounds_toArray, List.set_cons_zero, List.set_cons_succ]; rfl)
          repeat (first | (refine lin_take rfl rfl (by kernel_rfl) (fun _ _ _ h => h) (by rfl) (v := ?_) (a' := ?_) ?_ ?_ ?_; rotate_left 2; (intro w' _; go_simp; with_reducible rfl); (simp only [List.getElem_toArray, List.getElem_cons_zero, List.getElem_cons_succ, Act.put, List.setIfInBounds_toArray, List.set_cons_zero, List.set_cons_succ]; rfl)) | (refine lin_off rfl rfl (by kernel_rfl) (fun _ _ _ h => h) (by rfl) (a' := ?_) ?_ ?_; rotate_left 1; (simp only [List.getElem_toArray, List.getElem_cons_zero, List.getElem_cons_succ, Act.put, List.setIfInBounds_toArray, List.set_cons_zero, List.set_cons_succ]; rfl)))
          refine lin_skip (w1 := (wr.setCell ⟨w2.heap.size, 1, none⟩ (.int .i64 (10 * P + dk))).drew) rfl rfl (by kernel_rfl) (by rfl) (fun _ => ?_) (fun _ => trivial) ?_
          · go_simp
          refine lin_done (by kernel_rfl) ?_
          go_wp2
          go_roundw
          case rel => exact ⟨k + 1, 10 * P + dk, by omega, by go_num, by omega, HS, ⟨by have h1 := blk_set HX.out 1 (.int .i64 (10 * P + dk)); simp at h1; exact h1⟩, below_drew (hb.setCell (Nat.le_refl _) _)⟩
          case measure => simp [intOf]; omega
        · intro _ K hK
          refine step_call (by rfl) rfl rfl Tryz.func191 (by kernel_rfl) (by kernel_rfl) (args := #[.int .u8 (((⟨l.toArray⟩ : ByteArray)[k]'hlt).toNat : Int)]) (by (try simp only [List.map_toArray, List.map_cons, List.map_nil]); first | done | rfl) ?_
          refine (spec_l1Digit _ _).mono ?_
          rintro r w4 ⟨rfl, rfl⟩
          refine ⟨_, rfl, hK.out _ _ trivial ?_⟩
          clear hK
          rw [HK.out]
          refine lin_norm (a' := ?_) ?_ ?_; rotate_left 1; (simp only [List.getElem_toArray, List.getElem_cons_zero, List.getElem_cons_succ, Act.put, List.setIfInBounds_toArray, List.set_cons_zero, List.set_cons_succ]; rfl)
          refine lin_event (v := .int .i64 P) (w1 := wr.drew) (a' := ?_) rfl rfl (by kernel_rfl) (by rfl) (fun hS => ?_) (fun hS => trivial) ?_ ?_; rotate_left 1; (focus (go_simp)); (focus (first | (simp only [List.getElem_toArray, List.getElem_cons_zero, List.getElem_cons_succ, Act.put, List.setIfInBounds_toArray, List.set_cons_zero, List.set_cons_succ]; done) | (simp only [List.getElem_toArray, List.getElem_cons_zero, List.getElem_cons_succ, Act.put, List.setIfInBounds_toArray, List.set_cons_zero, List.set_cons_succ]; rfl)))
          repeat (first | (refine lin_take rfl rfl (by kernel_rfl) (fun _ _ _ h => h) (by rfl) (v := ?_) (a' := ?_) ?_ ?_ ?_; rotate_left 2; (intro w' _; go_simp; with_reducible rfl); (simp only [List.getElem_toArray, List.getElem_cons_zero, List.getElem_cons_succ, Act.put, List.setIfInBounds_toArray, List.set_cons_zero, List.set_cons_succ]; rfl)) | (refine lin_off rfl rfl (by kernel_rfl) (fun _ _ _ h => h) (by rfl) (a' := ?_) ?_ ?_; rotate_left 1; (simp only [List.getElem_toArray, List.getElem_cons_zero, List.getElem_cons_succ, Act.put, List.setIfInBounds_toArray, List.set_cons_zero, List.set_cons_succ]; rfl)))
          refine lin_skip (w1 := (wr.setCell ⟨w2.heap.size, 1, none⟩ (.int .i64 (10 * P + dk))).drew) rfl rfl (by kernel_rfl) (by rfl) (fun _ => ?_) (fun _ => trivial) ?_
          · go_simp
          refine lin_done (by kernel_rfl) ?_
          go_wp2
          go_roundw
          case rel => exact ⟨k + 1, 10 * P + dk, by omega, by go_num, by omega, HS, ⟨by have h1 := blk_set HX.out 1 (.int .i64 (10 * P + dk)); simp at h1; exact h1⟩, below_drew (hb.setCell (Nat.le_refl _) _)⟩
          case measure => simp [intOf]; omega
      · obtain rfl : k = l.length := by omega
        have hE : readE l = ⟨d0, P⟩ := by
          unfold readE
          have h5 := HF.out
          rw [List.take_length] at h5
          rw [h5]
          congr 1
          rw [← HD.out]
          have : l.getD 0 0 = l[0]'(by omega) := by rw [List.getD_eq_getElem?_getD, List.getElem?_eq_getElem (by omega)]; rfl
          rw [this]; rfl
        replace bk := (hb.block w.heap.size hza).trans bk
        have x0 : wr.cell? ⟨w.heap.size, 0, none⟩ = some (.int .i64 0) := (blk_cell bk 0).trans rfl
        have x1 : wr.cell? ⟨w.heap.size, 1, none⟩ = some (.int .i64 0) := (blk_cell bk 1).trans rfl
        have hBr : Below w.heap.size w wr := hB.trans (hb.mono (Nat.le_of_lt hza))
        go_wp2_with fail; refine (spec_EndText ⟨d0, P⟩ _).mono ?_; rintro r w4 ⟨rfl, hb4⟩
        have hz4 := hb4.size
        replace bk := (hb4.block _ (by omega)).trans bk
        have bx := (hb4.block _ hz).trans HX.out
        have c0 : w4.cell? ⟨w2.heap.size, 0, none⟩ = some (.int .i64 d0) := (blk_cell bx 0).trans rfl
        have c1 : w4.cell? ⟨w2.heap.size, 1, none⟩ = some (.int .i64 P) := (blk_cell bx 1).trans rfl
        have x0 : w4.cell? ⟨w.heap.size, 0, none⟩ = some (.int .i64 0) := (blk_cell bk 0).trans rfl
        have x1 : w4.cell? ⟨w.heap.size, 1, none⟩ = some (.int .i64 0) := (blk_cell bk 1).trans rfl
        have y0 := blk_frozen bk 0
        have y1 := blk_frozen bk 1
        have hB4 := below_step hBr hb4
        by_cases ht : endText ⟨d0, P⟩ = l
        · have HN := Aside0.mk (show endRead l = some ⟨d0, P⟩ from by rw [endRead_yes (by intro e; rw [e] at h3; simp at h3) (by rw [hE]; exact ht), hE])
          have he : (endText ⟨d0, P⟩ == l) = true := beq_iff_eq.2 ht
          clear bk bx ht hE
          go_wp2
          refine bodyPost_ret (v := (vOpt (some ⟨d0, P⟩))) (by simp [results, Tryz.results184, go_sem, zEn, *]) rfl ⟨by rw [HN.out], ((hB4).setCell (Nat.le_refl _) _).setCell (Nat.le_refl _) _⟩
        · have HN := Aside0.mk (show endRead l = none from endRead_no (by rw [hE]; exact ht))
          have he : (endText ⟨d0, P⟩ == l) = false := beq_eq_false_iff_ne.2 ht
          clear bk bx ht hE
          go_wp2
          refine bodyPost_ret (v := (vOpt none)) (by simp [results, Tryz.results184, go_sem, zEn, *]) rfl ⟨by rw [HN.out], ((hB4).setCell (Nat.le_refl _) _).setCell (Nat.le_refl _) _⟩
  · have HN := Aside0.mk (endRead_len h)
    have hin : inB (l.length : Int) 3 4 = false := by unfold inB; rw [Bool.and_eq_false_iff]; simp; omega
    have H := Aside0.mk hin; clear hin
    go_enter Tryz.func184, Tryz.ntmps184
    go_wp2_with (go_at_call 63; refine (spec_l6In _ _ _ _).mono ?_; rintro r w1 ⟨rfl, rfl⟩; rw [H.out])
    refine bodyPost_ret (v := (vOpt none)) (by simp [results, Tryz.results184, go_sem, zEn, *]) rfl ⟨by rw [HN.out], (by repeat (first | (with_reducible exact (Below.refl _ _)) | (with_reducible apply below_alloc) | (with_reducible apply pw_below_drewN) | (with_reducible apply below_drew1) | with_reducible refine below_set ?_ (by first | (with_reducible exact Nat.le_refl _) | (with_reducible assumption) | (simp; done) | omega | (simp; omega))))⟩
end Go.Proofs.YtfjbjiklohjodaaGreatDoor.Z
namespace Go.Proofs.YtfjbjiklohjodaaGreatDoor.Z
open Go.RowKit Go.Proofs.YtfjbjiklohjodaaGreatDoorW.PrintWords Go.Proofs.YtfjbjiklohjodaaGreatDoorW.PrintLast
set_option linter.unusedVariables false
set_option linter.unusedSimpArgs false
attribute [local go_sem ↓] Go.wp_at_zero Go.wp_at_succ
attribute [local go_sem high] bytes_append
def figB (lo : Nat) (b : UInt8) : Bool := decide (lo ≤ b.toNat) && decide (b.toNat ≤ 57)
def okByte (b : UInt8) : Bool := (decide (97 ≤ b.toNat) && decide (b.toNat ≤ 122)) || (decide (48 ≤ b.toNat) && decide (b.toNat ≤ 57)) || b.toNat == 64 || b.toNat == 58 || b.toNat == 59
theorem impl_figure (b : UInt8) (lo : Nat) (hlo : lo ≤ 255) (w : World) : Calls Tryz.prog 124 #[.int .u8 (b.toNat : Int), .int .u8 (lo : Int)] w fun r w' => r = .returned (.bool (figB lo b)) ∧ w' = w := by
  obtain ⟨n, hn⟩ : ∃ n, b.toNat = n := ⟨_, rfl⟩
  have e : figB lo b = (decide (lo ≤ n) && decide ((n : Int) ≤ 57)) := by
    unfold figB; rw [hn]; congr 1; exact decide_eq_decide.2 (by omega)
  rw [hn]
  have E := Aside0.mk e; clear e hn
  go_enter Tryz.func124, Tryz.ntmps124
  go_wp2
  all_goals
    rename_i h1
    go_ret
    refine ⟨?_, rfl⟩
    rw [E.out]
    first | (rw [decide_eq_true h1]; rfl) | (rw [decide_eq_false h1]; rfl)
theorem spec_l2Byte (b : UInt8) (w : World) : Calls Tryz.prog 74 #[.int .u8 (b.toNat : Int)] w fun r w' => r = .returned (.bool (okByte b)) ∧ w' = w := by
  obtain ⟨n, hn⟩ : ∃ n, b.toNat = n := ⟨_, rfl⟩
  have e : okByte b = ((decide (97 ≤ n) && decide (n ≤ 122)) || (decide (48 ≤ n) && decide (n ≤ 57)) || n == 64 || n == 58 || n == 59) := by unfold okByte; rw [hn]
  rw [hn]
  have E := Aside0.mk e; clear e hn
  go_enter Tryz.func74, Tryz.ntmps74
  go_wp2
  all_goals
    go_ret
    refine ⟨congrArg Ending.returned ((congrArg Value.bool ?_).trans (congrArg Value.bool E.out.symm)), rfl⟩
    rw [Bool.eq_iff_iff]
    simp
    try omega
def textOk (l : List UInt8) : Bool := l.all okByte && decide ((l.length : Int) ≤ 40)
theorem all_no {l : List UInt8} {k : Nat} (h : k < l.length) (hn : okByte (l[k]'h) = false) : l.all okByte = false := by
  rw [← Bool.not_eq_true, List.all_eq_true]
  intro h2
  have := h2 _ (List.getElem_mem h)
  rw [hn] at this
  cases this
theorem all_step {l : List UInt8} {k : Nat} (h : k < l.length) (hp : (l.take k).all okByte = true) (hn : okByte (l[k]'h) = true) : (l.take (k + 1)).all okByte = true := by
  rw [List.take_add_one, List.all_append, hp, List.getElem?_eq_getElem h]
  simp [hn]
set_option maxRecDepth 100000 in
theorem spec_TextOk (l : List UInt8) (hl : l.length ≤ 140737488355328) (w : World) :
    Calls Tryz.prog 22 #[vS l] w fun r w' => r = .returned (.bool (textOk l)) ∧ w' = w := by
  go_enter Tryz.func22, Tryz.ntmps22
  go_wp2
  go_loopw [3] (fun i w' => ∃ k : Nat, k ≤ l.length ∧ i = .int .i64 k ∧ Aside0 ((l.take k).all okByte = true) ∧ w' = w) (fun i _ => l.length - (intOf i).toNat)
  case atStart => exact ⟨0, Nat.zero_le _, rfl, ⟨by simp⟩, rfl⟩
  case round =>
    obtain ⟨k, hk, rfl, HP, rfl⟩ := hrel
    by_cases hlt : k < l.length
    · have hk0 : (0 : Int) ≤ (k : Int) := by omega
      have hk1 : (k : Int) < (l.length : Int) := by omega
      have HB := Aside0.mk (spec_l2Byte ((⟨l.toArray⟩ : ByteArray)[k]'hlt) wr)
      cases hok : okByte ((⟨l.toArray⟩ : ByteArray)[k]'hlt)
      · have HF := Aside0.mk (show textOk l = false from by unfold textOk; rw [all_no hlt hok]; rfl)
        rw [hok] at HB
        clear hok
        go_wp2_with (go_at_call 74; refine HB.out.mono ?_; rintro r w2 ⟨rfl, rfl⟩)
        go_ret
        exact ⟨ret_bool HF.out.symm, rfl⟩
      · have HS := Aside0.mk (all_step hlt HP.out hok)
        rw [hok] at HB
        clear hok
        go_wp2_with (go_at_call 74; refine HB.out.mono ?_; rintro r w2 ⟨rfl, rfl⟩)
        go_roundw
        case rel => exact ⟨k + 1, by omega, by go_num, HS, trivial⟩
        case measure => simp [intOf]; omega
    · obtain rfl : k = l.length := by omega
      have HF := Aside0.mk (show textOk l = decide ((l.length : Int) ≤ 40) from by
        have h1 := HP.out
        rw [List.take_length] at h1
        unfold textOk; rw [h1]; rfl)
      go_wp2
      go_ret
      exact ⟨ret_bool HF.out.symm, rfl⟩
theorem bytes_as (l : List UInt8) (w : World) : ∃ W C, (convert 9 22 (vS l)).run Tryz.prog w = .ok (.slice (some ⟨w.heap.size, 0, none⟩) l.length C) W ∧ Below w.heap.size w W ∧ ∀ j (h : j < l.length), W.cell? ⟨w.heap.size, j, none⟩ = some (.int .u8 ((l[j]'h).toNat : Int)) := by
  refine ⟨_, _, print_bytes (P := Tryz.prog) 9 22 5 Tryz.underlying9 Tryz.underlying22 Tryz.underlying5 ⟨l.toArray⟩ w, Go.Lib.bytesWorld_below w _ _, fun j h => ?_⟩
  have := Go.Lib.bytesWorld_cell w 5 ⟨l.toArray⟩ j h
  rw [this]
  simp [List.getD_eq_getElem?_getD, h]
set_option maxRecDepth 100000 in
set_option maxHeartbeats 2000000 in
theorem impl_TextOk (l : List UInt8) (hl : l.length ≤ 140737488355328) (w : World) :
    Calls Tryz.prog 67 #[vS l] w fun r w' => r = .returned (.bool (textOk l)) ∧ Below w.heap.size w w' := by
  obtain ⟨W, C, hcv, hb, hcell⟩ := bytes_as l w
  have HC := Aside0.mk hcell; clear hcell
  have HB := Aside0.mk hb; clear hb
  go_enter Tryz.func67, Tryz.ntmps67
  go_wp2
  go_loopw [8] (fun i w' => ∃ k : Nat, k ≤ l.length ∧ i = .int .i64 k ∧ Aside0 ((l.take k).all okByte = true) ∧ w' = W) (fun i _ => l.length - (intOf i).toNat)
  case atStart => exact ⟨0, Nat.zero_le _, rfl, ⟨by simp⟩, rfl⟩
  case round =>
    obtain ⟨k, hk, rfl, HP, rfl⟩ := hrel
    clear hcv
    by_cases hlt : k < l.length
    · have hk0 : (0 : Int) ≤ (k : Int) := by omega
      have hk1 : (k : Int) < (l.length : Int) := by omega
      have d0 := HC.out k hlt
      have HG := Aside0.mk (impl_figure (l[k]'hlt) 48 (by decide) wr)
      have hn1 := (l[k]'hlt).toNat_lt
      obtain ⟨n, hn⟩ : ∃ n, (l[k]'hlt).toNat = n := ⟨_, rfl⟩
      have e : okByte (l[k]'hlt) = ((decide (97 ≤ n) && decide (n ≤ 122)) || (decide (48 ≤ n) && decide (n ≤ 57)) || n == 64 || n == 58 || n == 59) := by unfold okByte; rw [hn]
      have e2 : figB 48 (l[k]'hlt) = (decide (48 ≤ n) && decide (n ≤ 57)) := by unfold figB; rw [hn]
      rw [hn] at d0 HG
      have HE := Aside0.mk e; clear e
      have hyes : okByte (l[k]'hlt) = true → Aside0 ((l.take (k + 1)).all okByte = true) := fun h => ⟨all_step hlt HP.out h⟩
      have hno : okByte (l[k]'hlt) = false → Aside0 (textOk l = false) := fun h => ⟨by unfold textOk; rw [all_no hlt h]; rfl⟩
      by_cases hfig : 48 ≤ n ∧ n ≤ 57
      · have HS := hyes (by rw [HE.out]; simp; omega)
        rw [e2, show (decide (48 ≤ n) && decide (n ≤ 57)) = true from by simp; omega] at HG
        clear hyes hno hn hn1 hfig e2
        go_wp2_with (go_at_call 124; refine HG.out.mono ?_; rintro r w2 ⟨rfl, rfl⟩)
        go_roundw
        case rel => exact ⟨k + 1, by omega, by go_num, HS, trivial⟩
        case measure => simp [intOf]; omega
      · rw [e2, show (decide (48 ≤ n) && decide (n ≤ 57)) = false from by rw [Bool.and_eq_false_iff]; simp; omega] at HG
        have hcl : (n = 64) ∨ (n = 58) ∨ (n = 59) ∨ (97 ≤ n ∧ n ≤ 122) ∨ (n < 97 ∧ n ≠ 64 ∧ n ≠ 58 ∧ n ≠ 59) ∨ (122 < n) := by omega
        clear e2 hn
        rcases hcl with hc | hc | hc | hc | hc | hc
        · have HS := hyes (by rw [HE.out]; simp; omega)
          have t64 : ((n : Int) == 64) = true := by rw [beq_iff_eq]; omega
          have u64 : ((n : Int) != 64) = false := by rw [bne_eq_false_iff_eq]; omega
          clear hyes hno hn1 hfig hc
          go_wp2_with (go_at_call 124; refine HG.out.mono ?_; rintro r w2 ⟨rfl, rfl⟩)
          go_roundw
          case rel => exact ⟨k + 1, by omega, by go_num, HS, trivial⟩
          case measure => simp [intOf]; omega
        · have HS := hyes (by rw [HE.out]; simp; omega)
          have t64 : ((n : Int) == 64) = false := by rw [beq_eq_false_iff_ne, ne_eq]; omega
          have u64 : ((n : Int) != 64) = true := by rw [bne_iff_ne, ne_eq]; omega
          have t58 : ((n : Int) == 58) = true := by rw [beq_iff_eq]; omega
          have u58 : ((n : Int) != 58) = false := by rw [bne_eq_false_iff_eq]; omega
          clear hyes hno hn1 hfig hc
          go_wp2_with (go_at_call 124; refine HG.out.mono ?_; rintro r w2 ⟨rfl, rfl⟩)
          go_roundw
          case rel => exact ⟨k + 1, by omega, by go_num, HS, trivial⟩
          case measure => simp [intOf]; omega
        · have HS := hyes (by rw [HE.out]; simp; omega)
          have t64 : ((n : Int) == 64) = false := by rw [beq_eq_false_iff_ne, ne_eq]; omega
          have u64 : ((n : Int) != 64) = true := by rw [bne_iff_ne, ne_eq]; omega
          have t58 : ((n : Int) == 58) = false := by rw [beq_eq_false_iff_ne, ne_eq]; omega
          have u58 : ((n : Int) != 58) = true := by rw [bne_iff_ne, ne_eq]; omega
          have t59 : ((n : Int) == 59) = true := by rw [beq_iff_eq]; omega
          have u59 : ((n : Int) != 59) = false := by rw [bne_eq_false_iff_eq]; omega
          clear hyes hno hn1 hfig hc
          go_wp2_with (go_at_call 124; refine HG.out.mono ?_; rintro r w2 ⟨rfl, rfl⟩)
          go_roundw
          case rel => exact ⟨k + 1, by omega, by go_num, HS, trivial⟩
          case measure => simp [intOf]; omega
        · have HS := hyes (by rw [HE.out]; simp; omega)
          have t64 : ((n : Int) == 64) = false := by rw [beq_eq_false_iff_ne, ne_eq]; omega
          have u64 : ((n : Int) != 64) = true := by rw [bne_iff_ne, ne_eq]; omega
          have t58 : ((n : Int) == 58) = false := by rw [beq_eq_false_iff_ne, ne_eq]; omega
          have u58 : ((n : Int) != 58) = true := by rw [bne_iff_ne, ne_eq]; omega
          have t59 : ((n : Int) == 59) = false := by rw [beq_eq_false_iff_ne, ne_eq]; omega
          have u59 : ((n : Int) != 59) = true := by rw [bne_iff_ne, ne_eq]; omega
          have t97 : decide ((n : Int) < 97) = false := decide_eq_false (by omega)
          have t122 : decide ((n : Int) > 122) = false := decide_eq_false (by omega)
          have u122 : decide ((122 : Int) < (n : Int)) = false := decide_eq_false (by omega)
          clear hyes hno hn1 hfig hc
          go_wp2_with (go_at_call 124; refine HG.out.mono ?_; rintro r w2 ⟨rfl, rfl⟩)
          go_roundw
          case rel => exact ⟨k + 1, by omega, by go_num, HS, trivial⟩
          case measure => simp [intOf]; omega
        · have HF := hno (by rw [HE.out]; simp; omega)
          have t64 : ((n : Int) == 64) = false := by rw [beq_eq_false_iff_ne, ne_eq]; omega
          have u64 : ((n : Int) != 64) = true := by rw [bne_iff_ne, ne_eq]; omega
          have t58 : ((n : Int) == 58) = false := by rw [beq_eq_false_iff_ne, ne_eq]; omega
          have u58 : ((n : Int) != 58) = true := by rw [bne_iff_ne, ne_eq]; omega
          have t59 : ((n : Int) == 59) = false := by rw [beq_eq_false_iff_ne, ne_eq]; omega
          have u59 : ((n : Int) != 59) = true := by rw [bne_iff_ne, ne_eq]; omega
          have t97 : decide ((n : Int) < 97) = true := decide_eq_true (by omega)
          clear hyes hno hn1 hfig hc
          go_wp2_with (go_at_call 124; refine HG.out.mono ?_; rintro r w2 ⟨rfl, rfl⟩)
          go_ret
          exact ⟨ret_bool HF.out.symm, HB.out⟩
        · have HF := hno (by rw [HE.out]; simp; omega)
          have t64 : ((n : Int) == 64) = false := by rw [beq_eq_false_iff_ne, ne_eq]; omega
          have u64 : ((n : Int) != 64) = true := by rw [bne_iff_ne, ne_eq]; omega
          have t58 : ((n : Int) == 58) = false := by rw [beq_eq_false_iff_ne, ne_eq]; omega
          have u58 : ((n : Int) != 58) = true := by rw [bne_iff_ne, ne_eq]; omega
          have t59 : ((n : Int) == 59) = false := by rw [beq_eq_false_iff_ne, ne_eq]; omega
          have u59 : ((n : Int) != 59) = true := by rw [bne_iff_ne, ne_eq]; omega
          have t97 : decide ((n : Int) < 97) = false := decide_eq_false (by omega)
          have t122 : decide ((n : Int) > 122) = true := decide_eq_true (by omega)
          have u122 : decide ((122 : Int) < (n : Int)) = true := decide_eq_true (by omega)
          clear hyes hno hn1 hfig hc
          go_wp2_with (go_at_call 124; refine HG.out.mono ?_; rintro r w2 ⟨rfl, rfl⟩)
          go_ret
          exact ⟨ret_bool HF.out.symm, HB.out⟩
    · obtain rfl : k = l.length := by omega
      have HF := Aside0.mk (show textOk l = decide ((l.length : Int) ≤ 40) from by
        have h1 := HP.out
        rw [List.take_length] at h1
        unfold textOk; rw [h1]; rfl)
      go_wp2
      go_ret
      exact ⟨ret_bool HF.out.symm, HB.out⟩
end Go.Proofs.YtfjbjiklohjodaaGreatDoor.Z
namespace Go.Proofs.YtfjbjiklohjodaaGreatDoor.Z
open Go.RowKit Go.Proofs.YtfjbjiklohjodaaGreatDoorW.PrintWords Go.Proofs.YtfjbjiklohjodaaGreatDoorW.PrintLast
set_option linter.unusedVariables false
set_option linter.unusedSimpArgs false
attribute [local go_sem ↓] Go.wp_at_zero Go.wp_at_succ
attribute [local go_sem high] bytes_append
def chk (i : Nat) (b : UInt8) : Bool := if i = 0 then (b.toNat : Int) == 64 else if i = 2 then (b.toNat : Int) == 58 else if i = 4 then figB 48 b else if i = 1 ∨ i = 3 then figB 49 b else false
def begB (l : List UInt8) : Bool := (List.range l.length).all (fun i => chk i (l.getD i 0))
theorem beg_no {l : List UInt8} {k : Nat} (h : k < l.length) (hn : chk k (l[k]'h) = false) : begB l = false := by
  rw [← Bool.not_eq_true]
  intro h2
  have := List.all_eq_true.1 h2 k (List.mem_range.2 h)
  rw [List.getD_eq_getElem?_getD, List.getElem?_eq_getElem h] at this
  simp only [Option.getD_some] at this
  rw [hn] at this
  cases this
theorem beg_step {l : List UInt8} {k : Nat} (h : k < l.length) (hp : (List.range k).all (fun i => chk i (l.getD i 0)) = true) (hn : chk k (l[k]'h) = true) : (List.range (k + 1)).all (fun i => chk i (l.getD i 0)) = true := by
  rw [List.range_succ, List.all_append, hp]
  simp [List.getD_eq_getElem?_getD, h, hn]
set_option maxRecDepth 100000 in
set_option maxHeartbeats 2000000 in
theorem impl_beginning (l : List UInt8) (hl : l.length ≤ 5) (w : World) :
    Calls Tryz.prog 169 #[vS l] w fun r w' => r = .returned (.bool (begB l)) ∧ Below w.heap.size w w' := by
  obtain ⟨W, C, hcv, hb, hcell⟩ := bytes_as l w
  have HC := Aside0.mk hcell; clear hcell
  have HB := Aside0.mk hb; clear hb
  go_enter Tryz.func169, Tryz.ntmps169
  go_wp2
  go_loopw [9] (fun i w' => ∃ k : Nat, k ≤ l.length ∧ i = .int .i64 k ∧ Aside0 ((List.range k).all (fun i => chk i (l.getD i 0)) = true) ∧ w' = W) (fun i _ => l.length - (intOf i).toNat)
  case atStart => exact ⟨0, Nat.zero_le _, rfl, ⟨by simp⟩, rfl⟩
  case round =>
    obtain ⟨k, hk, rfl, HP, rfl⟩ := hrel
    clear hcv
    by_cases hlt : k < l.length
    · have hk0 : (0 : Int) ≤ (k : Int) := by omega
      have hk1 : (k : Int) < (l.length : Int) := by omega
      have d0 := HC.out k hlt
      have hyes : chk k (l[k]'hlt) = true → Aside0 ((List.range (k + 1)).all (fun i => chk i (l.getD i 0)) = true) := fun h => ⟨beg_step hlt HP.out h⟩
      have hno : chk k (l[k]'hlt) = false → Aside0 (begB l = false) := fun h => ⟨beg_no hlt h⟩
      have G48 := Aside0.mk (impl_figure (l[k]'hlt) 48 (by decide) wr)
      have G49 := Aside0.mk (impl_figure (l[k]'hlt) 49 (by decide) wr)
      obtain ⟨b, hbb⟩ : ∃ b, l[k]'hlt = b := ⟨_, rfl⟩
      rw [hbb] at d0 hyes hno G48 G49
      clear hbb
      have hks : k = 0 ∨ k = 1 ∨ k = 2 ∨ k = 3 ∨ k = 4 := by omega
      rcases hks with rfl | rfl | rfl | rfl | rfl
      · have e : chk 0 b = ((b.toNat : Int) == 64) := rfl
        rw [e] at hyes hno
        clear e
        cases hc : ((b.toNat : Int) == 64)
        · have HF := hno hc
          clear hyes hno
          go_wp2
          go_ret
          exact ⟨ret_bool HF.out.symm, HB.out⟩
        · have HS := hyes hc
          clear hyes hno
          go_wp2
          go_roundw
          case rel => exact ⟨1, by omega, by go_num, HS, trivial⟩
          case measure => simp [intOf]; omega
      · have e : chk 1 b = (figB 49 b) := rfl
        rw [e] at hyes hno
        clear e
        cases hc : (figB 49 b)
        · have HF := hno hc
          rw [hc] at G49
          clear hyes hno hc
          go_wp2_with (go_at_call 124; refine G49.out.mono ?_; rintro r w2 ⟨rfl, rfl⟩)
          go_ret
          exact ⟨ret_bool HF.out.symm, HB.out⟩
        · have HS := hyes hc
          rw [hc] at G49
          clear hyes hno hc
          go_wp2_with (go_at_call 124; refine G49.out.mono ?_; rintro r w2 ⟨rfl, rfl⟩)
          go_roundw
          case rel => exact ⟨2, by omega, by go_num, HS, trivial⟩
          case measure => simp [intOf]; omega
      · have e : chk 2 b = ((b.toNat : Int) == 58) := rfl
        rw [e] at hyes hno
        clear e
        cases hc : ((b.toNat : Int) == 58)
        · have HF := hno hc
          clear hyes hno
          go_wp2
          go_ret
          exact ⟨ret_bool HF.out.symm, HB.out⟩
        · have HS := hyes hc
          clear hyes hno
          go_wp2
          go_roundw
          case rel => exact ⟨3, by omega, by go_num, HS, trivial⟩
          case measure => simp [intOf]; omega
      · have e : chk 3 b = (figB 49 b) := rfl
        rw [e] at hyes hno
        clear e
        cases hc : (figB 49 b)
        · have HF := hno hc
          rw [hc] at G49
          clear hyes hno hc
          go_wp2_with (go_at_call 124; refine G49.out.mono ?_; rintro r w2 ⟨rfl, rfl⟩)
          go_ret
          exact ⟨ret_bool HF.out.symm, HB.out⟩
        · have HS := hyes hc
          rw [hc] at G49
          clear hyes hno hc
          go_wp2_with (go_at_call 124; refine G49.out.mono ?_; rintro r w2 ⟨rfl, rfl⟩)
          go_roundw
          case rel => exact ⟨4, by omega, by go_num, HS, trivial⟩
          case measure => simp [intOf]; omega
      · have e : chk 4 b = (figB 48 b) := rfl
        rw [e] at hyes hno
        clear e
        cases hc : (figB 48 b)
        · have HF := hno hc
          rw [hc] at G48
          clear hyes hno hc
          go_wp2_with (go_at_call 124; refine G48.out.mono ?_; rintro r w2 ⟨rfl, rfl⟩)
          go_ret
          exact ⟨ret_bool HF.out.symm, HB.out⟩
        · have HS := hyes hc
          rw [hc] at G48
          clear hyes hno hc
          go_wp2_with (go_at_call 124; refine G48.out.mono ?_; rintro r w2 ⟨rfl, rfl⟩)
          go_roundw
          case rel => exact ⟨5, by omega, by go_num, HS, trivial⟩
          case measure => simp [intOf]; omega
    · obtain rfl : k = l.length := by omega
      have HF := Aside0.mk (show begB l = true from HP.out)
      go_wp2
      go_ret
      exact ⟨ret_bool HF.out.symm, HB.out⟩
end Go.Proofs.YtfjbjiklohjodaaGreatDoor.Z
namespace Go.Proofs.YtfjbjiklohjodaaGreatDoor.Z
open Go.RowKit Go.Proofs.YtfjbjiklohjodaaGreatDoorW.PrintWords Go.Proofs.YtfjbjiklohjodaaGreatDoorW.PrintLast
set_option linter.unusedVariables false
set_option linter.unusedSimpArgs false
attribute [local go_sem ↓] Go.wp_at_zero Go.wp_at_succ
attribute [local go_sem high] bytes_append
theorem bytes_get (l : List UInt8) (k : Nat) (h : k < (⟨l.toArray⟩ : ByteArray).size) : (⟨l.toArray⟩ : ByteArray)[k]'h = l[k]'h := rfl
attribute [local go_sem high] bytes_get
theorem int_beq (x y : Int) : (x == y) = decide (x = y) := by rw [Bool.eq_iff_iff]; simp
theorem fig_dig (b : UInt8) : figB 49 b = decide (1 ≤ digI b) ∧ figB 48 b = decide (0 ≤ digI b) := by
  unfold figB digI
  constructor
  · rw [Bool.eq_iff_iff]; simp; split <;> omega
  · rw [Bool.eq_iff_iff]; simp; split <;> omega
set_option maxRecDepth 100000 in
theorem spec_beg1 (a : UInt8) (w : World) : Calls Tryz.prog 183 #[vS [a]] w fun r w' => r = .returned (.bool (begB [a])) ∧ w' = w := by
  have e0 : begB [a] = (decide ((a.toNat : Int) = 64)) := by
    simp [begB, chk, List.range_succ, int_beq, Bool.and_assoc]
  have E := Aside0.mk e0; clear e0
  go_enter Tryz.func183, Tryz.ntmps183
  go_wp2_with (first | (go_at_call 63; refine (spec_l6In _ _ _ _).mono ?_; rintro r w1 ⟨rfl, rfl⟩; rw [show inB _ 1 5 = true from by decide]) | (go_at_call 191; refine (spec_l1Digit _ _).mono ?_; rintro r w2 ⟨rfl, rfl⟩))
  all_goals
    go_ret
    refine ⟨congrArg Ending.returned ((congrArg Value.bool ?_).trans (congrArg Value.bool E.out.symm)), rfl⟩
    rw [Bool.eq_iff_iff]
    simp at *
    first | done | omega
set_option maxRecDepth 100000 in
theorem spec_beg2 (a b : UInt8) (w : World) : Calls Tryz.prog 183 #[vS [a, b]] w fun r w' => r = .returned (.bool (begB [a, b])) ∧ w' = w := by
  have e0 : begB [a, b] = (decide ((a.toNat : Int) = 64) && decide (1 ≤ digI b)) := by
    simp [begB, chk, List.range_succ, int_beq, (fig_dig b).1, Bool.and_assoc]
  have E := Aside0.mk e0; clear e0
  go_enter Tryz.func183, Tryz.ntmps183
  go_wp2_with (first | (go_at_call 63; refine (spec_l6In _ _ _ _).mono ?_; rintro r w1 ⟨rfl, rfl⟩; rw [show inB _ 1 5 = true from by decide]) | (go_at_call 191; refine (spec_l1Digit _ _).mono ?_; rintro r w2 ⟨rfl, rfl⟩))
  all_goals
    go_ret
    refine ⟨congrArg Ending.returned ((congrArg Value.bool ?_).trans (congrArg Value.bool E.out.symm)), rfl⟩
    rw [Bool.eq_iff_iff]
    simp at *
    first | done | omega
set_option maxRecDepth 100000 in
theorem spec_beg3 (a b c : UInt8) (w : World) : Calls Tryz.prog 183 #[vS [a, b, c]] w fun r w' => r = .returned (.bool (begB [a, b, c])) ∧ w' = w := by
  have e0 : begB [a, b, c] = (decide ((a.toNat : Int) = 64) && decide (1 ≤ digI b) && decide ((c.toNat : Int) = 58)) := by
    simp [begB, chk, List.range_succ, int_beq, (fig_dig b).1, Bool.and_assoc]
  have E := Aside0.mk e0; clear e0
  go_enter Tryz.func183, Tryz.ntmps183
  go_wp2_with (first | (go_at_call 63; refine (spec_l6In _ _ _ _).mono ?_; rintro r w1 ⟨rfl, rfl⟩; rw [show inB _ 1 5 = true from by decide]) | (go_at_call 191; refine (spec_l1Digit _ _).mono ?_; rintro r w2 ⟨rfl, rfl⟩))
  all_goals
    go_ret
    refine ⟨congrArg Ending.returned ((congrArg Value.bool ?_).trans (congrArg Value.bool E.out.symm)), rfl⟩
    rw [Bool.eq_iff_iff]
    simp at *
    first | done | omega
set_option maxRecDepth 100000 in
theorem spec_beg4 (a b c d : UInt8) (w : World) : Calls Tryz.prog 183 #[vS [a, b, c, d]] w fun r w' => r = .returned (.bool (begB [a, b, c, d])) ∧ w' = w := by
  have e0 : begB [a, b, c, d] = (decide ((a.toNat : Int) = 64) && decide (1 ≤ digI b) && decide ((c.toNat : Int) = 58) && decide (1 ≤ digI d)) := by
    simp [begB, chk, List.range_succ, int_beq, (fig_dig b).1, (fig_dig d).1, Bool.and_assoc]
  have E := Aside0.mk e0; clear e0
  go_enter Tryz.func183, Tryz.ntmps183
  go_wp2_with (first | (go_at_call 63; refine (spec_l6In _ _ _ _).mono ?_; rintro r w1 ⟨rfl, rfl⟩; rw [show inB _ 1 5 = true from by decide]) | (go_at_call 191; refine (spec_l1Digit _ _).mono ?_; rintro r w2 ⟨rfl, rfl⟩))
  all_goals
    go_ret
    refine ⟨congrArg Ending.returned ((congrArg Value.bool ?_).trans (congrArg Value.bool E.out.symm)), rfl⟩
    rw [Bool.eq_iff_iff]
    simp at *
    first | done | omega
set_option maxRecDepth 100000 in
theorem spec_beg5 (a b c d e : UInt8) (w : World) : Calls Tryz.prog 183 #[vS [a, b, c, d, e]] w fun r w' => r = .returned (.bool (begB [a, b, c, d, e])) ∧ w' = w := by
  have e0 : begB [a, b, c, d, e] = (decide ((a.toNat : Int) = 64) && decide (1 ≤ digI b) && decide ((c.toNat : Int) = 58) && decide (1 ≤ digI d) && decide (0 ≤ digI e)) := by
    simp [begB, chk, List.range_succ, int_beq, (fig_dig b).1, (fig_dig d).1, (fig_dig e).2, Bool.and_assoc]
  have E := Aside0.mk e0; clear e0
  go_enter Tryz.func183, Tryz.ntmps183
  go_wp2_with (first | (go_at_call 63; refine (spec_l6In _ _ _ _).mono ?_; rintro r w1 ⟨rfl, rfl⟩; rw [show inB _ 1 5 = true from by decide]) | (go_at_call 191; refine (spec_l1Digit _ _).mono ?_; rintro r w2 ⟨rfl, rfl⟩))
  all_goals
    go_ret
    refine ⟨congrArg Ending.returned ((congrArg Value.bool ?_).trans (congrArg Value.bool E.out.symm)), rfl⟩
    rw [Bool.eq_iff_iff]
    simp at *
    first | done | omega
end Go.Proofs.YtfjbjiklohjodaaGreatDoor.Z
namespace Go.Proofs.YtfjbjiklohjodaaGreatDoor.Z
open Go.RowKit Go.Proofs.YtfjbjiklohjodaaGreatDoorW.PrintWords Go.Proofs.YtfjbjiklohjodaaGreatDoorW.PrintLast
set_option linter.unusedVariables false
set_option linter.unusedSimpArgs false
attribute [local go_sem ↓] Go.wp_at_zero Go.wp_at_succ
attribute [local go_sem high] bytes_append
theorem spec_l2Begins (l : List UInt8) (h1 : 1 ≤ l.length) (h5 : l.length ≤ 5) (w : World) : Calls Tryz.prog 183 #[vS l] w fun r w' => r = .returned (.bool (begB l)) ∧ w' = w := by
  match l, h1, h5 with
  | [a], _, _ => exact spec_beg1 a w
  | [a, b], _, _ => exact spec_beg2 a b w
  | [a, b, c], _, _ => exact spec_beg3 a b c w
  | [a, b, c, d], _, _ => exact spec_beg4 a b c d w
  | [a, b, c, d, e], _, _ => exact spec_beg5 a b c d e w
  | _ :: _ :: _ :: _ :: _ :: _ :: _, _, h => simp at h
def heldFrom (l : List UInt8) : Nat → Nat
  | 0 => 0
  | n + 1 => if begB (l.drop (l.length - (n + 1))) then n + 1 else heldFrom l n
def heldN (l : List UInt8) : Nat := heldFrom l (min 5 l.length)
theorem bytes_drop (l : List UInt8) (a : Nat) : (⟨l.toArray⟩ : ByteArray).extract a l.length = ⟨(l.drop a).toArray⟩ := by
  apply ByteArray.ext
  simp [ByteArray.data_extract]
  rw [List.take_of_length_le (by rw [List.length_drop]; omega)]
set_option maxHeartbeats 1000000 in
theorem impl_held (l : List UInt8) (hl : l.length ≤ 140737488355328) (w : World) :
    Calls Tryz.prog 131 #[vS l] w fun r w' => r = .returned (.int .i64 (heldN l)) ∧ Below w.heap.size w w' := by
  go_enter Tryz.func131, Tryz.ntmps131
  go_wp2
  go_loopw [3] (fun i w' => ∃ k : Nat, k ≤ 5 ∧ k ≤ l.length ∧ i = .int .i64 k ∧ Aside0 (heldFrom l k = heldN l) ∧ Below w.heap.size w w') (fun i _ => (intOf i).toNat)
  case atStart => exact ⟨min 5 l.length, by omega, by omega, by congr 1; omega, ⟨rfl⟩, Below.refl _ _⟩
  case round =>
    obtain ⟨k, hk5, hkl, rfl, HP, hb⟩ := hrel
    by_cases hk : 0 < k
    · have t1 : decide ((k : Int) > 0) = true := decide_eq_true (by omega)
      have t2 : decide ((0 : Int) < (k : Int)) = true := decide_eq_true (by omega)
      obtain ⟨n, rfl⟩ : ∃ n, k = n + 1 := ⟨k - 1, by omega⟩
      have hlen : (l.drop (l.length - (n + 1))).length = n + 1 := by rw [List.length_drop]; omega
      have hstep : heldFrom l (n + 1) = if begB (l.drop (l.length - (n + 1))) then n + 1 else heldFrom l n := rfl
      obtain ⟨x, hx⟩ : ∃ x, l.drop (l.length - (n + 1)) = x := ⟨_, rfl⟩
      have hex : (⟨l.toArray⟩ : ByteArray).extract (l.length - (n + 1)) l.length = ⟨x.toArray⟩ := by rw [bytes_drop, hx]
      rw [hx] at hlen hstep
      have HX := Aside0.mk hlen; clear hlen hx
      cases hbeg : begB x
      · have HS : Aside0 (heldFrom l n = heldN l) := ⟨by rw [← HP.out, hstep, hbeg]; rfl⟩
        have HB := Aside0.mk hbeg
        clear hbeg hstep HP
        go_wp2_with (go_at_call 169; rw [hex]; refine (impl_beginning x (by rw [HX.out]; omega) _).mono ?_; rintro r w2 ⟨rfl, hb2⟩; rw [HB.out])
        go_roundw
        case rel => exact ⟨n, by omega, by omega, by go_num, HS, below_step hb hb2⟩
        case measure => simp [intOf]
      · have HS : Aside0 (heldN l = n + 1) := ⟨by rw [← HP.out, hstep, if_pos hbeg]⟩
        have HB := Aside0.mk hbeg
        clear hbeg hstep HP
        go_wp2_with (go_at_call 169; rw [hex]; refine (impl_beginning x (by rw [HX.out]; omega) _).mono ?_; rintro r w2 ⟨rfl, hb2⟩; rw [HB.out])
        go_ret
        exact ⟨by simp [HS.out], below_step hb hb2⟩
    · obtain rfl : k = 0 := by omega
      have HS : Aside0 (heldN l = 0) := ⟨HP.out.symm⟩
      go_wp2
      go_ret
      exact ⟨by simp [HS.out], hb⟩
set_option maxHeartbeats 1000000 in
theorem spec_l2Held (l : List UInt8) (hl : l.length ≤ 140737488355328) (w : World) :
    Calls Tryz.prog 166 #[vS l] w fun r w' => r = .returned (.int .i64 (heldN l)) ∧ Below w.heap.size w w' := by
  go_enter Tryz.func166, Tryz.ntmps166
  go_wp2
  go_loopw [3] (fun i w' => ∃ k : Nat, k ≤ 5 ∧ k ≤ l.length ∧ i = .int .i64 k ∧ Aside0 (heldFrom l k = heldN l) ∧ Below w.heap.size w w') (fun i _ => (intOf i).toNat)
  case atStart => exact ⟨min 5 l.length, by omega, by omega, by congr 1; omega, ⟨rfl⟩, Below.refl _ _⟩
  case round =>
    obtain ⟨k, hk5, hkl, rfl, HP, hb⟩ := hrel
    by_cases hk : 0 < k
    · have t1 : decide ((k : Int) > 0) = true := decide_eq_true (by omega)
      have t2 : decide ((0 : Int) < (k : Int)) = true := decide_eq_true (by omega)
      obtain ⟨n, rfl⟩ : ∃ n, k = n + 1 := ⟨k - 1, by omega⟩
      have hlen : (l.drop (l.length - (n + 1))).length = n + 1 := by rw [List.length_drop]; omega
      have hstep : heldFrom l (n + 1) = if begB (l.drop (l.length - (n + 1))) then n + 1 else heldFrom l n := rfl
      obtain ⟨x, hx⟩ : ∃ x, l.drop (l.length - (n + 1)) = x := ⟨_, rfl⟩
      have hex : (⟨l.toArray⟩ : ByteArray).extract (l.length - (n + 1)) l.length = ⟨x.toArray⟩ := by rw [bytes_drop, hx]
      rw [hx] at hlen hstep
      have HX := Aside0.mk hlen; clear hlen hx
      cases hbeg : begB x
      · have HS : Aside0 (heldFrom l n = heldN l) := ⟨by rw [← HP.out, hstep, hbeg]; rfl⟩
        have HB := Aside0.mk hbeg
        clear hbeg hstep HP
        go_wp2_with (go_at_call 183; rw [hex]; refine (spec_l2Begins x (by rw [HX.out]; omega) (by rw [HX.out]; omega) _).mono ?_; rintro r w2 ⟨rfl, rfl⟩; rw [HB.out])
        go_roundw
        case rel => exact ⟨n, by omega, by omega, by go_num, HS, hb⟩
        case measure => simp [intOf]
      · have HS : Aside0 (heldN l = n + 1) := ⟨by rw [← HP.out, hstep, if_pos hbeg]⟩
        have HB := Aside0.mk hbeg
        clear hbeg hstep HP
        go_wp2_with (go_at_call 183; rw [hex]; refine (spec_l2Begins x (by rw [HX.out]; omega) (by rw [HX.out]; omega) _).mono ?_; rintro r w2 ⟨rfl, rfl⟩; rw [HB.out])
        go_ret
        exact ⟨by simp [HS.out], hb⟩
    · obtain rfl : k = 0 := by omega
      have HS : Aside0 (heldN l = 0) := ⟨HP.out.symm⟩
      go_wp2
      go_ret
      exact ⟨by simp [HS.out], hb⟩
end Go.Proofs.YtfjbjiklohjodaaGreatDoor.Z
