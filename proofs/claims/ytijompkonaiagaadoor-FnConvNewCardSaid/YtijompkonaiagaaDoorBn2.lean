/- The kinds of this program's structs (an end, a pair), read in memory, and small words that every walk of this seat uses. The maps of the program: what the small functions on ends and pairs return, program and reference alike. Ends: outside, of the door, of any kind; their texts, plainly. A statement whose order Go leaves open, walked in one order that is told beforehand: what reads is taken when it may come up, a call when nothing else may. Contracts of Go's library at this program, as the kit's tools lay-shelf.mjs and lay-plain.mjs wrote them; those that the claims' texts use. The text of an end: the reference's l6Dec and EndText, the program's EndText. The loops over pairs: the port that stands for an end, and whether pairs are a map; program and reference alike. For which end a port stands: MapIn of the program and of the reference. The variables of Go's library that the program reads; the end of a text: EndRead. A law over variables of Go's library that are laid by the program's text: the wrap that keeps the world's shape beside them; what the walks want of them. Contracts of mine in the print's own form: the text of an end. The reference's EndRead. Which bytes may be in a text: TextOk of both. Whether a text is the beginning of a name; how much of a text is held. The reference's l2Begins. How much of a text is held: both. Names in texts: plainly; the program's name. The program's readName. Pieces of a text, as a kind. The program's piece. Contracts of mine in the print's own form: texts, what is held, names and pieces (the program's). The laws' own helpers on pairs: sizes, copies of arguments, comparisons. Copies of pairs: the reference's l3Copy; slices.Clone, slices.Clip at pairs; the program's copied and out. Contracts of mine in the print's own form: slices.Clip and slices.Clone at the program's types; the next port. Contracts of mine in the print's own form: ends, maps, texts, as they were walked by hand. The reference's l2Name. Plain laws of the printed functions: words; the pieces of a text. -/
import Derived.Test.YtijompkonaiagaaDoorProg
import Derived.Test.YtijompkonaiagaaDoorRows
import Derived.Test.YtijompkonaiagaaDoorBn1
import Derived.Lib.Hide
import Derived.Deep.RegionHeld3
import Derived.Deep.DrawnRows
import Derived.Lib.AtoiAll
import Derived.Lib.ItoaNum
import Derived.Lib.IndexMore
import Derived.Shelf.Small.Wraps
import Derived.Shelf.Strconv.Atoi
import Derived.Shelf.Strconv.Itoa0
import Derived.Shelf.Strconv.Itoa1
import Derived.Shelf.LaysM
import Derived.Shelf.Strconv.Itoa2
import Derived.Shelf.Strconv.Itoa3
import Derived.Shelf.Strconv.AtoiErrFast
import Derived.Shelf.Strconv.ParseIntEmpty
import Derived.Shelf.Strconv.AtoiFail
import Derived.Shelf.Strconv.Clone
import Derived.Shelf.Strconv.SyntaxError
import Derived.Shelf.LaysC
import Derived.Shelf.Strconv.ToError
import Derived.Shelf.Strconv.Lower
import Derived.Shelf.Strconv.ParseUint10
import Derived.Shelf.Strconv.ParseUint10Empty
import Derived.Shelf.Strconv.ParseUint10Any
import Derived.Shelf.Strconv.ParseInt10
import Derived.Shelf.Strconv.AtoiLong
import Derived.Shelf.Strconv.AtoiInnerAll
import Derived.Shelf.Strconv.RangeError
import Derived.Shelf.Strconv.ToErrorRange
import Derived.Shelf.Strconv.AtoiAll
import Derived.Shelf.Strconv.ErrVarAll
import Derived.Shelf.Strconv.ParseUintEmpty
import Derived.Shelf.Strconv.ParseUint10b64
import Derived.Shelf.Strconv.ParseUint10b32
import Derived.Shelf.Strconv.ParseUint10b16
import Derived.Shelf.Strconv.ParseUint10b8
import Derived.Shelf.Strings.Search1
import Derived.Shelf.Strings.Search2
import Derived.Shelf.Strings.Cut
import Derived.Shelf.Strings.Shaped
import Derived.Shelf.Strings.Prefix
import Derived.WalkSmall
import Derived.Lib.AtoiErrMem
import Derived.Handed
import Derived.LaidMore
import Derived.Lay
import Derived.LaidOnce
import Derived.Shelf.Vars
import Derived.Stop.Joined
import Derived.ProofKit
import Derived.Below
import Derived.Deep.Draws
import Derived.Deep.AppendLies
import Derived.Maps.AppendAt
import Derived.OwnWalk
import Derived.Laws.BytesArg
import Derived.Laws.MakeOwn
import Derived.Laws.OwnMore
import Derived.Deep.OwnRows
import Derived.Tactics
import Derived.Lib.ConvBytes
import Derived.Laws.Slices
import Derived.WalkKit
import Derived.KernelRfl
import Derived.RowKit3
import Derived.Deep.LoopGhost
import Derived.Deep.QuietTactic
import Derived.BigQuiet
import Derived.WideLaws
import Derived.Deep.DeepCutAuto
import Derived.Deep.CutBlock
import Derived.Laws.Rows
import Derived.Lib.AppendStr
import Derived.ArgAppend
import Derived.Laws.IdiomCopy
import Derived.OrdersHeld
import Derived.Laws.BitsLemmas
import Derived.RowKit
import Derived.WalkSpells
namespace Go.Proofs.YtijompkonaiagaaDoor.Z
open Go.RowKit Go.Proofs.YtijompkonaiagaaDoorW.PrintWords
set_option linter.unusedVariables false
set_option linter.unusedSimpArgs false
structure En where
  addr : Int
  port : Int
  deriving DecidableEq, Inhabited
def zEn : En := ⟨0, 0⟩
abbrev vEn (e : En) : Value := .agg #[.int .i64 e.addr, .int .i64 e.port]
theorem eqEn (d : Nat) (w : World) (x0 y0 x1 y1 : Int) :
    (Op.equalIn (d + 2) 24 (.agg #[.int .i64 x0, .int .i64 x1]) (.agg #[.int .i64 y0, .int .i64 y1])).run Tryd.prog w = .ok (x0 == y0 && (x1 == y1)) w := by
  refine eqA_of Tryd.underlying24 (by kernel_rfl) ?_
  refine eqf_cons (by rfl) (by go_simp; rfl) (by go_simp; rfl) (by go_simp) ?_
  exact eqf_last (by rfl) (by go_simp; rfl) (by go_simp; rfl) (by go_simp)
def Rds {α : Type} (d : Kd α) (w : World) (v : Value) (xs : List α) : Prop := ∃ A c, v = .slice A xs.length c ∧ xs.length ≤ c ∧ d.C w A xs.length xs
theorem Rds.below {α : Type} {d : Kd α} {w w1 : World} {v : Value} {xs : List α} (h : Rds d w v xs) (hb : Below w.heap.size w w1) : Rds d w1 v xs := by
  obtain ⟨A, c, e, hl, hC⟩ := h
  exact ⟨A, c, e, hl, Kd.C_below hC hb⟩
theorem bcell {W w1 : World} (hb : Below W.heap.size W w1) : (∀ b o, b < W.heap.size → w1.cell? ⟨b, o, none⟩ = W.cell? ⟨b, o, none⟩) ∧ (∀ b o, b < W.heap.size → w1.frozen? ⟨b, o, none⟩ = W.frozen? ⟨b, o, none⟩) ∧ W.heap.size ≤ w1.heap.size :=
  ⟨fun b o h => hb.cell (p := ⟨b, o, none⟩) h, fun b o h => hb.frozen (p := ⟨b, o, none⟩) h, hb.size⟩
end Go.Proofs.YtijompkonaiagaaDoor.Z
namespace Go.Proofs.YtijompkonaiagaaDoor.Z
open Go.RowKit Go.Proofs.YtijompkonaiagaaDoorW.PrintWords
set_option linter.unusedVariables false
set_option linter.unusedSimpArgs false
attribute [local go_sem ↓] Go.wp_at_zero Go.wp_at_succ
def inB (n lo hi : Int) : Bool := decide (lo ≤ n) && decide (n ≤ hi)
theorem impl_within (n lo hi : Int) (w : World) :
    Calls Tryd.prog 23 #[.int .i64 n, .int .i64 lo, .int .i64 hi] w fun e w' => e = .returned (.bool (inB n lo hi)) ∧ w = w' := by
  cases h1 : decide (lo ≤ n)
  all_goals
    go_enter Tryd.func23, Tryd.ntmps23
    go_wp2
    go_ret
    exact ⟨by simp [inB, h1], rfl⟩
theorem spec_l6In (n lo hi : Int) (w : World) :
    Calls Tryd.prog 28 #[.int .i64 n, .int .i64 lo, .int .i64 hi] w fun e w' => e = .returned (.bool (inB n lo hi)) ∧ w = w' := by
  cases h1 : decide (lo ≤ n)
  all_goals
    go_enter Tryd.func28, Tryd.ntmps28
    go_wp2
    go_ret
    exact ⟨by simp [inB, h1], rfl⟩
def insideB (e : En) : Bool := inB e.addr 1 3 && inB e.port 1 9
theorem impl_EndInside (e : En) (w : World) :
    Calls Tryd.prog 17 #[vEn e] w fun r w' => r = .returned (.bool (insideB e)) ∧ Below w.heap.size w w' := by
  cases h : inB e.addr 1 3
  all_goals
    have H := Aside0.mk h; clear h
    go_enter Tryd.func17, Tryd.ntmps17
    go_wp2_with (go_at_call 23; refine (impl_within _ _ _ _).mono ?_; rintro e w' ⟨rfl, rfl⟩; try rw [H.out])
    go_ret
    exact ⟨by simp [insideB, H.out], (Below.refl _ _).alloc (Nat.le_refl _) _⟩
theorem spec_l1Host (e : En) (w : World) :
    Calls Tryd.prog 29 #[vEn e] w fun r w' => r = .returned (.bool (inB e.port 1 9)) ∧ Below w.heap.size w w' := by
  go_enter Tryd.func29, Tryd.ntmps29
  go_wp2_with (go_at_call 28; refine (spec_l6In _ _ _ _).mono ?_; rintro e w' ⟨rfl, rfl⟩)
  go_ret
  exact ⟨rfl, (Below.refl _ _).alloc (Nat.le_refl _) _⟩
theorem spec_EndInside (e : En) (w : World) :
    Calls Tryd.prog 13 #[vEn e] w fun r w' => r = .returned (.bool (insideB e)) ∧ Below w.heap.size w w' := by
  cases h : inB e.addr 1 3
  · have H := Aside0.mk h; clear h
    go_enter Tryd.func13, Tryd.ntmps13
    go_wp2_with (go_at_call 28; refine (spec_l6In _ _ _ _).mono ?_; rintro e w' ⟨rfl, rfl⟩; rw [H.out])
    go_ret
    exact ⟨by simp [insideB, H.out], (Below.refl _ _).alloc (Nat.le_refl _) _⟩
  · have H := Aside0.mk h; clear h
    go_enter Tryd.func13, Tryd.ntmps13
    go_wp2_with (first | (go_at_call 28; refine (spec_l6In _ _ _ _).mono ?_; rintro e w' ⟨rfl, rfl⟩; rw [H.out]) | (go_at_call 29; refine (spec_l1Host e _).mono ?_; rintro _ w' ⟨rfl, hb⟩))
    go_ret
    exact ⟨by simp [insideB, H.out], ((Below.refl _ _).alloc (Nat.le_refl _) _).trans (hb.mono (by simp))⟩
theorem impl_EndDoor (e : En) (w : World) :
    Calls Tryd.prog 22 #[vEn e] w fun r w' => r = .returned (.bool (e.addr == 9 && inB e.port 10 17)) ∧ Below w.heap.size w w' := by
  cases h : (e.addr == 9)
  all_goals
    go_enter Tryd.func22, Tryd.ntmps22
    go_wp2_with (go_at_call 23; refine (impl_within _ _ _ _).mono ?_; rintro e w' ⟨rfl, rfl⟩)
    go_ret
    exact ⟨by simp [h], (Below.refl _ _).alloc (Nat.le_refl _) _⟩
end Go.Proofs.YtijompkonaiagaaDoor.Z
namespace Go.Proofs.YtijompkonaiagaaDoor.Z
open Go.RowKit Go.Proofs.YtijompkonaiagaaDoorW.PrintWords
set_option linter.unusedVariables false
set_option linter.unusedSimpArgs false
attribute [local go_sem ↓] Go.wp_at_zero Go.wp_at_succ
def outsideB (e : En) : Bool := inB e.addr 4 6 && inB e.port 1 9
def doorB (e : En) : Bool := e.addr == 9 && inB e.port 10 17
def anyB (e : En) : Bool := insideB e || outsideB e || doorB e
theorem impl_EndOutside (e : En) (w : World) :
    Calls Tryd.prog 18 #[vEn e] w fun r w' => r = .returned (.bool (outsideB e)) ∧ Below w.heap.size w w' := by
  cases h : inB e.addr 4 6
  all_goals
    have H := Aside0.mk h; clear h
    go_enter Tryd.func18, Tryd.ntmps18
    go_wp2_with (go_at_call 23; refine (impl_within _ _ _ _).mono ?_; rintro e w' ⟨rfl, rfl⟩; try rw [H.out])
    go_ret
    exact ⟨by simp [outsideB, H.out], (Below.refl _ _).alloc (Nat.le_refl _) _⟩
theorem spec_EndOutside (e : En) (w : World) :
    Calls Tryd.prog 14 #[vEn e] w fun r w' => r = .returned (.bool (outsideB e)) ∧ Below w.heap.size w w' := by
  cases h : inB e.addr 4 6
  · have H := Aside0.mk h; clear h
    go_enter Tryd.func14, Tryd.ntmps14
    go_wp2_with (go_at_call 28; refine (spec_l6In _ _ _ _).mono ?_; rintro e w' ⟨rfl, rfl⟩; rw [H.out])
    go_ret
    exact ⟨by simp [outsideB, H.out], (Below.refl _ _).alloc (Nat.le_refl _) _⟩
  · have H := Aside0.mk h; clear h
    go_enter Tryd.func14, Tryd.ntmps14
    go_wp2_with (first | (go_at_call 28; refine (spec_l6In _ _ _ _).mono ?_; rintro e w' ⟨rfl, rfl⟩; rw [H.out]) | (go_at_call 29; refine (spec_l1Host e _).mono ?_; rintro _ w' ⟨rfl, hb⟩))
    go_ret
    exact ⟨by simp [outsideB, H.out], ((Below.refl _ _).alloc (Nat.le_refl _) _).trans (hb.mono (by simp))⟩
theorem spec_EndDoor (e : En) (w : World) :
    Calls Tryd.prog 33 #[vEn e] w fun r w' => r = .returned (.bool (doorB e)) ∧ Below w.heap.size w w' := by
  cases h : (e.addr == 9)
  all_goals
    go_enter Tryd.func33, Tryd.ntmps33
    go_wp2_with (go_at_call 28; refine (spec_l6In _ _ _ _).mono ?_; rintro e w' ⟨rfl, rfl⟩)
    go_ret
    exact ⟨by simp [doorB, h], (Below.refl _ _).alloc (Nat.le_refl _) _⟩
theorem spec_l1Any (e : En) (w : World) :
    Calls Tryd.prog 46 #[vEn e] w fun r w' => r = .returned (.bool (anyB e)) ∧ Below w.heap.size w w' := by
  cases h1 : insideB e
  · have H1 := Aside0.mk h1; clear h1
    cases h2 : outsideB e
    all_goals
      have H2 := Aside0.mk h2; clear h2
      go_enter Tryd.func46, Tryd.ntmps46
      go_wp2_with (first | (go_at_call 13; refine (spec_EndInside e _).mono ?_; rintro r w1 ⟨rfl, hb1⟩; rw [H1.out]; obtain ⟨hb1c, hb1f, hb1z⟩ := bcell hb1; (try simp at hb1z); (try have hb10 : w.heap.size < w1.heap.size := by omega); (try have hb11 : w.heap.size + 1 < w1.heap.size := by omega); (try have hb12 : w.heap.size + 2 < w1.heap.size := by omega)) | (go_at_call 14; refine (spec_EndOutside e _).mono ?_; rintro r w2 ⟨rfl, hb2⟩; rw [H2.out]; obtain ⟨hb2c, hb2f, hb2z⟩ := bcell hb2; (try simp at hb2z); (try have hb20 : w.heap.size < w2.heap.size := by omega); (try have hb21 : w.heap.size + 1 < w2.heap.size := by omega); (try have hb22 : w.heap.size + 2 < w2.heap.size := by omega)) | (go_at_call 33; refine (spec_EndDoor e _).mono ?_; rintro r w3 ⟨rfl, hb3⟩; obtain ⟨hb3c, hb3f, hb3z⟩ := bcell hb3; (try simp at hb3z); (try have hb30 : w.heap.size < w3.heap.size := by omega); (try have hb31 : w.heap.size + 1 < w3.heap.size := by omega); (try have hb32 : w.heap.size + 2 < w3.heap.size := by omega)))
      go_ret
      exact ⟨by simp [anyB, H1.out, H2.out], by first | exact below_step (below_step (below_step (by repeat (first | (with_reducible exact (Below.refl _ _)) | (with_reducible apply below_alloc) | (with_reducible apply pw_below_drewN) | (with_reducible apply below_drew1) | with_reducible refine below_set ?_ (by first | (with_reducible exact Nat.le_refl _) | (with_reducible assumption) | (simp; done) | omega | (simp; omega)))) hb1) hb2) hb3 | exact below_step (below_step (by repeat (first | (with_reducible exact (Below.refl _ _)) | (with_reducible apply below_alloc) | (with_reducible apply pw_below_drewN) | (with_reducible apply below_drew1) | with_reducible refine below_set ?_ (by first | (with_reducible exact Nat.le_refl _) | (with_reducible assumption) | (simp; done) | omega | (simp; omega)))) hb1) hb2⟩
  · have H1 := Aside0.mk h1; clear h1
    go_enter Tryd.func46, Tryd.ntmps46
    go_wp2_with (go_at_call 13; refine (spec_EndInside e _).mono ?_; rintro r w1 ⟨rfl, hb1⟩; rw [H1.out]; obtain ⟨hb1c, hb1f, hb1z⟩ := bcell hb1; (try simp at hb1z); (try have hb10 : w.heap.size < w1.heap.size := by omega); (try have hb11 : w.heap.size + 1 < w1.heap.size := by omega); (try have hb12 : w.heap.size + 2 < w1.heap.size := by omega))
    go_ret
    exact ⟨by simp [anyB, H1.out], below_step (by repeat (first | (with_reducible exact (Below.refl _ _)) | (with_reducible apply below_alloc) | (with_reducible apply pw_below_drewN) | (with_reducible apply below_drew1) | with_reducible refine below_set ?_ (by first | (with_reducible exact Nat.le_refl _) | (with_reducible assumption) | (simp; done) | omega | (simp; omega)))) hb1⟩
theorem impl_any (e : En) (w : World) :
    Calls Tryd.prog 64 #[vEn e] w fun r w' => r = .returned (.bool (anyB e)) ∧ Below w.heap.size w w' := by
  cases h1 : insideB e
  · have H1 := Aside0.mk h1; clear h1
    cases h2 : outsideB e
    all_goals
      have H2 := Aside0.mk h2; clear h2
      go_enter Tryd.func64, Tryd.ntmps64
      go_wp2_with (first | (go_at_call 17; refine (impl_EndInside e _).mono ?_; rintro r w1 ⟨rfl, hb1⟩; rw [H1.out]; obtain ⟨hb1c, hb1f, hb1z⟩ := bcell hb1; (try simp at hb1z); (try have hb10 : w.heap.size < w1.heap.size := by omega); (try have hb11 : w.heap.size + 1 < w1.heap.size := by omega); (try have hb12 : w.heap.size + 2 < w1.heap.size := by omega)) | (go_at_call 18; refine (impl_EndOutside e _).mono ?_; rintro r w2 ⟨rfl, hb2⟩; rw [H2.out]; obtain ⟨hb2c, hb2f, hb2z⟩ := bcell hb2; (try simp at hb2z); (try have hb20 : w.heap.size < w2.heap.size := by omega); (try have hb21 : w.heap.size + 1 < w2.heap.size := by omega); (try have hb22 : w.heap.size + 2 < w2.heap.size := by omega)) | (go_at_call 22; refine (impl_EndDoor e _).mono ?_; rintro r w3 ⟨rfl, hb3⟩; obtain ⟨hb3c, hb3f, hb3z⟩ := bcell hb3; (try simp at hb3z); (try have hb30 : w.heap.size < w3.heap.size := by omega); (try have hb31 : w.heap.size + 1 < w3.heap.size := by omega); (try have hb32 : w.heap.size + 2 < w3.heap.size := by omega)))
      go_ret
      exact ⟨by simp [anyB, doorB, H1.out, H2.out], by first | exact below_step (below_step (below_step (by repeat (first | (with_reducible exact (Below.refl _ _)) | (with_reducible apply below_alloc) | (with_reducible apply pw_below_drewN) | (with_reducible apply below_drew1) | with_reducible refine below_set ?_ (by first | (with_reducible exact Nat.le_refl _) | (with_reducible assumption) | (simp; done) | omega | (simp; omega)))) hb1) hb2) hb3 | exact below_step (below_step (by repeat (first | (with_reducible exact (Below.refl _ _)) | (with_reducible apply below_alloc) | (with_reducible apply pw_below_drewN) | (with_reducible apply below_drew1) | with_reducible refine below_set ?_ (by first | (with_reducible exact Nat.le_refl _) | (with_reducible assumption) | (simp; done) | omega | (simp; omega)))) hb1) hb2⟩
  · have H1 := Aside0.mk h1; clear h1
    go_enter Tryd.func64, Tryd.ntmps64
    go_wp2_with (go_at_call 17; refine (impl_EndInside e _).mono ?_; rintro r w1 ⟨rfl, hb1⟩; rw [H1.out]; obtain ⟨hb1c, hb1f, hb1z⟩ := bcell hb1; (try simp at hb1z); (try have hb10 : w.heap.size < w1.heap.size := by omega); (try have hb11 : w.heap.size + 1 < w1.heap.size := by omega); (try have hb12 : w.heap.size + 2 < w1.heap.size := by omega))
    go_ret
    exact ⟨by simp [anyB, H1.out], below_step (by repeat (first | (with_reducible exact (Below.refl _ _)) | (with_reducible apply below_alloc) | (with_reducible apply pw_below_drewN) | (with_reducible apply below_drew1) | with_reducible refine below_set ?_ (by first | (with_reducible exact Nat.le_refl _) | (with_reducible assumption) | (simp; done) | omega | (simp; omega)))) hb1⟩
abbrev vS (l : List UInt8) : Value := .string ⟨l.toArray⟩
def dec2 (n : Nat) : List UInt8 := if n < 10 then [UInt8.ofNat (48 + n)] else [UInt8.ofNat (48 + n / 10), UInt8.ofNat (48 + n % 10)]
theorem dec2_eq (n : Nat) (h : n < 100) : Go.Lib.decDigits n = dec2 n := by
  unfold dec2
  by_cases h1 : n < 10
  · rw [if_pos h1, Go.Lib.decDigits, dif_pos h1]
  · rw [if_neg h1, Go.Lib.decDigits, dif_neg h1, Go.Lib.decDigits, dif_pos (by omega)]
    rfl
def endText (e : En) : List UInt8 := if anyB e then dec2 e.addr.toNat ++ 58 :: dec2 e.port.toNat else []
def allEnds : List En := ((List.range 3).flatMap fun a => (List.range 9).map fun p => ⟨1 + (a : Int), 1 + (p : Int)⟩) ++ ((List.range 3).flatMap fun a => (List.range 9).map fun p => ⟨4 + (a : Int), 1 + (p : Int)⟩) ++ ((List.range 8).map fun p => ⟨9, 10 + (p : Int)⟩)
theorem anyB_mem {e : En} (h : anyB e = true) : e ∈ allEnds := by
  obtain ⟨a, p⟩ := e
  simp only [anyB, insideB, outsideB, doorB, inB, Bool.or_eq_true, Bool.and_eq_true, decide_eq_true_eq, beq_iff_eq] at h
  unfold allEnds
  rcases h with (⟨⟨h1, h2⟩, h3, h4⟩ | ⟨⟨h1, h2⟩, h3, h4⟩) | ⟨h1, h3, h4⟩
  · refine List.mem_append_left _ (List.mem_append_left _ (List.mem_flatMap.2 ⟨(a - 1).toNat, List.mem_range.2 (by omega), List.mem_map.2 ⟨(p - 1).toNat, List.mem_range.2 (by omega), ?_⟩⟩))
    congr 1 <;> omega
  · refine List.mem_append_left _ (List.mem_append_right _ (List.mem_flatMap.2 ⟨(a - 4).toNat, List.mem_range.2 (by omega), List.mem_map.2 ⟨(p - 1).toNat, List.mem_range.2 (by omega), ?_⟩⟩))
    congr 1 <;> omega
  · refine List.mem_append_right _ (List.mem_map.2 ⟨(p - 10).toNat, List.mem_range.2 (by omega), ?_⟩)
    congr 1 <;> omega
def digI (b : UInt8) : Int := if b.toNat < 48 ∨ 57 < b.toNat then -1 else (b.toNat : Int) - 48
def readE (l : List UInt8) : En := ⟨digI (l.getD 0 0), (l.drop 2).foldl (fun n b => 10 * n + digI b) 0⟩
def endRead (l : List UInt8) : Option En := if anyB (readE l) && decide (endText (readE l) = l) then some (readE l) else none
theorem readE_text : ∀ e ∈ allEnds, readE (endText e) = e := by decide +kernel
theorem endRead_of {e : En} (h : anyB e = true) : endRead (endText e) = some e := by
  unfold endRead
  rw [readE_text e (anyB_mem h), h]
  simp
theorem endRead_some {l : List UInt8} {e : En} (h : endRead l = some e) : anyB e = true ∧ endText e = l := by
  unfold endRead at h
  split at h
  · rename_i h2
    injection h with h3
    simp only [Bool.and_eq_true, decide_eq_true_eq] at h2
    rw [h3] at h2
    exact h2
  · cases h
theorem endRead_none {l : List UInt8} (h : ∀ e, anyB e = true → endText e ≠ l) : endRead l = none := by
  cases he : endRead l with
  | none => rfl
  | some e => exact absurd (endRead_some he).2 (h e (endRead_some he).1)
end Go.Proofs.YtijompkonaiagaaDoor.Z
namespace Go.Proofs.YtijompkonaiagaaDoor.Z
open Go.RowKit Go.Proofs.YtijompkonaiagaaDoorW.PrintWords Go.Proofs.YtijompkonaiagaaDoorW.PrintLast
set_option linter.unusedVariables false
def lst (n : Nat) (dn : List Nat) : List Bool := (List.range n).map (fun i => dn.contains i)
def Lin (P : Program) (ops : Array Oper) (Q : Exit → Act → World → Prop) (S : World → Prop) (T : Bool × List (List Nat × List Nat)) (n : Nat) (dn todo : List Nat) (a : Act) (w : World) : Prop :=
  Aside0 (rtab .any ops = T) → S w → wpAnyLast P .any ops Q S [] todo.length (lst n dn).toArray a w
section
variable {P : Program} {ops : Array Oper} {Q : Exit → Act → World → Prop} {S : World → Prop} {T : Bool × List (List Nat × List Nat)} {n : Nat} {dn rest : List Nat} {i : Nat} {oi : Oper} {N : Option Tmp} {a : Act} {w : World}
theorem lin_start {id : Nat} (S : World → Prop) (T : Bool × List (List Nat × List Nat)) (ord : List Nat) (hm : P.follows .mixedOrders = true) (hT : rtab .any ops = T) (hn : (ops.size == ord.length) = true) (hS : S w.drew)
    (h : Lin P ops Q S T ord.length [] ord a w.drew) : (Code.region id ops true).wp P Q a w := by
  have hn' : ops.size = ord.length := by simpa using hn
  refine start_ (n := ord.length) (S := S) (ds := []) ((lst ord.length []).toArray) hm hn' ?_ hS (fun hS => h ⟨hT⟩ hS)
  apply Array.ext'
  simp [lst, List.map_const']
theorem lin_take {v : Value} {a' : Act} (hi : ops[i]? = some oi) (hN : oi.dst = N) (hc : takeT T [] (lst n dn) (lst n (i :: dn)) i = true)
    (hQ : ∀ c a w, Q (.panic c) (a.put oi.dst v) w → Q (.panic c) a w) (hw : Region.wanted oi (yielded ops a.tmps) = true) (hy : ∀ w, S w → (execOp a.eval oi).run P w = .ok (.value v) w) (ha : a.put N v = a')
    (h : Lin P ops Q S T n (i :: dn) rest a' w) : Lin P ops Q S T n dn (i :: rest) a w :=
  fun hT hS => take_ (lst n (i :: dn)).toArray hi hN (take_of hT.out (by simpa using hc)) hQ (.inl ⟨hw, hy⟩) hS ha (h hT hS)
theorem lin_off {a' : Act} (hi : ops[i]? = some oi) (hN : oi.dst = N) (hc : takeT T [] (lst n dn) (lst n (i :: dn)) i = true)
    (hQ : ∀ c a w, Q (.panic c) (a.put oi.dst undef) w → Q (.panic c) a w) (hw : Region.wanted oi (yielded ops a.tmps) = false) (ha : a.put N undef = a')
    (h : Lin P ops Q S T n (i :: dn) rest a' w) : Lin P ops Q S T n dn (i :: rest) a w :=
  fun hT hS => take_ (lst n (i :: dn)).toArray hi hN (take_of hT.out (by simpa using hc)) hQ (.inr ⟨hw, rfl⟩) hS ha (h hT hS)
theorem lin_one (hi : ops[i]? = some oi) (hN : oi.dst = N) (hc : (readyT T.2 (lst n dn) == [i] && (lst n dn).set i true == lst n (i :: dn)) = true)
    (h : S w → ∀ K : Act → World → Prop, Shut (∀ a' w', S w' → Lin P ops Q S T n (i :: dn) rest a' w' → K a' w') → if Region.wanted oi (yielded ops a.tmps) = true then Oper.wp P oi a w K Q else K (a.put N undef) w) :
    Lin P ops Q S T n dn (i :: rest) a w :=
  fun hT hS => one_ (lst n (i :: dn)).toArray hi hN (one_of hT.out (by simpa using hc)) (by simp) (fun K hK => h hS K (fun a' w' h1 h2 => hK.out a' w' h1 (fun h3 => h2 hT h3)))
theorem lin_call {f : FuncId} {fn : Func} {xs : Array Operand} {ts : Array TypeId} {args : Array Value} (hi : ops[i]? = some oi) (hop : oi.op = .call { callee := .value (.func f), args := xs, argTypes := ts }) (hN : oi.dst = N) (hf : P.funcs[f]? = some fn)
    (hc : (readyT T.2 (lst n dn) == [i] && (lst n dn).set i true == lst n (i :: dn)) = true) (hname : (fn.name == "runtime.NumGoroutine") = false) (hb : fn.body.isSome = true)
    (hw : Region.wanted oi (yielded ops a.tmps) = true) (hargs : xs.map a.eval = args)
    (h : S w → Calls P f args w fun e w' => ∃ v, e = .returned v ∧ S w' ∧ Lin P ops Q S T n (i :: dn) rest (a.put N v) w') : Lin P ops Q S T n dn (i :: rest) a w :=
  lin_one hi hN hc (fun hS K hK => goes_ hf hname hb args hw hN hop hargs ((h hS).mono fun e w' ⟨v, he, h1, h2⟩ => ⟨v, he, hK.out _ _ h1 h2⟩))
theorem lin_two {j : Nat} {oj : Oper} {Nj : Option Tmp} {rest' : List Nat} (hi : ops[i]? = some oi) (hj : ops[j]? = some oj) (hN : oi.dst = N) (hNj : oj.dst = Nj)
    (hc : (readyT T.2 (lst n dn) == [i, j] && (lst n dn).set i true == lst n (i :: dn) && (lst n dn).set j true == lst n (j :: dn)) = true) (hlen : rest'.length = rest.length)
    (h1 : S w → ∀ K : Act → World → Prop, Shut (∀ a' w', S w' → Lin P ops Q S T n (i :: dn) rest a' w' → K a' w') → if Region.wanted oi (yielded ops a.tmps) = true then Oper.wp P oi a w K Q else K (a.put N undef) w)
    (h2 : S w → ∀ K : Act → World → Prop, Shut (∀ a' w', S w' → Lin P ops Q S T n (j :: dn) rest' a' w' → K a' w') → if Region.wanted oj (yielded ops a.tmps) = true then Oper.wp P oj a w K Q else K (a.put Nj undef) w) :
    Lin P ops Q S T n dn (i :: rest) a w :=
  fun hT hS => two_ (lst n (i :: dn)).toArray (lst n (j :: dn)).toArray hi hj hN hNj (two_of hT.out (by simpa using hc)) (by simp) (by simp)
    (fun K hK => h1 hS K (fun a' w' hw hl => hK.out a' w' hw (fun h3 => hl hT h3)))
    (fun K hK => h2 hS K (fun a' w' hw hl => hK.out a' w' hw (fun h3 => by have := hl hT h3; rwa [hlen] at this)))
theorem step_value {K : Act → World → Prop} {w1 : World} {v : Value} (hw : Region.wanted oi (yielded ops a.tmps) = true) (hN : oi.dst = N) (hrun : (execOp a.eval oi).run P w = .ok (.value v) w1) (h : K (a.put N v) w1) :
    if Region.wanted oi (yielded ops a.tmps) = true then Oper.wp P oi a w K Q else K (a.put N undef) w := by
  subst hN
  exact event_step hw hrun h
theorem step_call {K : Act → World → Prop} {f : FuncId} {fn : Func} {xs : Array Operand} {ts : Array TypeId} {args : Array Value} (hw : Region.wanted oi (yielded ops a.tmps) = true) (hN : oi.dst = N) (hop : oi.op = .call { callee := .value (.func f), args := xs, argTypes := ts }) (hf : P.funcs[f]? = some fn)
    (hname : (fn.name == "runtime.NumGoroutine") = false) (hb : fn.body.isSome = true) (hargs : xs.map a.eval = args) (h : Calls P f args w fun e w' => ∃ v, e = .returned v ∧ K (a.put N v) w') :
    if Region.wanted oi (yielded ops a.tmps) = true then Oper.wp P oi a w K Q else K (a.put N undef) w :=
  goes_ hf hname hb args hw hN hop hargs h
theorem lin_event {v : Value} {a' : Act} {w1 : World} (hi : ops[i]? = some oi) (hN : oi.dst = N) (hc : (readyT T.2 (lst n dn) == [i] && (lst n dn).set i true == lst n (i :: dn)) = true)
    (hw : Region.wanted oi (yielded ops a.tmps) = true) (hrun : S w → (execOp a.eval oi).run P w = .ok (.value v) w1) (hS : S w → S w1) (ha : a.put N v = a') (h : Lin P ops Q S T n (i :: dn) rest a' w1) : Lin P ops Q S T n dn (i :: rest) a w := by
  subst ha
  subst hN
  exact lin_one hi rfl hc (fun hs K hK => event_step hw (hrun hs) (hK.out _ _ (hS hs) h))
theorem lin_skip {w1 : World} (hi : ops[i]? = some oi) (hN : oi.dst = none) (hc : (readyT T.2 (lst n dn) == [i] && (lst n dn).set i true == lst n (i :: dn)) = true)
    (hw : Region.wanted oi (yielded ops a.tmps) = true) (hrun : S w → (execOp a.eval oi).run P w = .ok .skip w1) (hS : S w → S w1) (h : Lin P ops Q S T n (i :: dn) rest a w1) : Lin P ops Q S T n dn (i :: rest) a w := by
  refine lin_one hi hN hc (fun hs K hK => ?_)
  rw [if_pos hw]
  unfold Oper.wp
  rw [hrun hs]
  show K (a.put oi.dst undef) w1
  rw [hN]
  exact hK.out _ _ (hS hs) h
theorem lin_norm {a' : Act} {todo : List Nat} (ha : a = a') (h : Lin P ops Q S T n dn todo a' w) : Lin P ops Q S T n dn todo a w := by
  subst ha
  exact h
theorem lin_done (hc : (readyT T.2 (lst n dn) == []) = true) (h : Q .normal a w) : Lin P ops Q S T n dn [] a w :=
  fun hT _ => done_ (done_of hT.out (by simpa using hc)) h
end
end Go.Proofs.YtijompkonaiagaaDoor.Z
namespace Go.Proofs
open Go.Shelf
def Tryd.lays103_ren : Go.Shelf.Ren := ⟨fun | 103 => 53 | 210 => 57 | 206 => 61 | n => n, fun | 9 => 9 | 4 => 4 | 24 => 69 | 3 => 3 | n => n, fun | n => n⟩
theorem Tryd.lays103 : Go.Proofs.Lays.n103 Tryd.prog Tryd.lays103_ren := {
  mixed := by kernel_rfl
  f103 := Tryd.func53.trans (congrArg some (by kernel_rfl))
  f206 := Tryd.func61.trans (congrArg some (by kernel_rfl))
  f210 := Tryd.func57.trans (congrArg some (by kernel_rfl))
  t3 := Tryd.underlying3
  a3 := Tryd.isAgg3
  z3 := Tryd.sizeOf3
  v3 := Tryd.zeroValue3
  t4 := Tryd.underlying4
  a4 := Tryd.isAgg4
  z4 := Tryd.sizeOf4
  v4 := Tryd.zeroValue4
  t9 := Tryd.underlying9
  a9 := Tryd.isAgg9
  z9 := Tryd.sizeOf9
  v9 := Tryd.zeroValue9
  t24 := Tryd.underlying69
  a24 := Tryd.isAgg69
  z24 := Tryd.sizeOf69
  v24 := Tryd.zeroValue69 }
open Go.RowKit in
theorem Tryd.strings_CutPrefix (s p : ByteArray) (w : World) :
    Calls Tryd.prog 53 #[.string s, .string p] w fun e w' => e = .returned (.tuple #[.string ⟨(Lib.trimPrefix s.data.toList p.data.toList).toArray⟩, .bool (Lib.hasPrefix s.data.toList p.data.toList)]) ∧ w' = w := Any.strings_CutPrefix Tryd.lays103 s p w
def Tryd.lays171_ren : Go.Shelf.Ren := ⟨fun | 171 => 65 | 243 => 69 | 246 => 79 | 283 => 85 | 284 => 86 | 285 => 87 | 286 => 88 | 129 => 92 | 317 => 91 | 318 => 93 | 319 => 94 | 320 => 95 | 337 => 96 | 338 => 97 | n => n, fun | 3 => 3 | 9 => 9 | 2 => 2 | 4 => 4 | 171 => 102 | 0 => 0 | 53 => 95 | 37 => 22 | 5 => 5 | 173 => 105 | 212 => 113 | 51 => 92 | 20 => 20 | 213 => 114 | 46 => 84 | 232 => 118 | 233 => 119 | n => n, fun | 17 => 3 | 18 => 4 | 19 => 5 | n => n⟩
theorem Tryd.lays171 : Go.Proofs.Lays.n171 Tryd.prog Tryd.lays171_ren := {
  mixed := by kernel_rfl
  f129 := Tryd.func92.trans (congrArg some (by kernel_rfl))
  f171 := Tryd.func65.trans (congrArg some (by kernel_rfl))
  f243 := Tryd.func69.trans (congrArg some (by kernel_rfl))
  f246 := Tryd.func79.trans (congrArg some (by kernel_rfl))
  f283 := Tryd.func85.trans (congrArg some (by kernel_rfl))
  f284 := Tryd.func86.trans (congrArg some (by kernel_rfl))
  f285 := Tryd.func87.trans (congrArg some (by kernel_rfl))
  f286 := Tryd.func88.trans (congrArg some (by kernel_rfl))
  f317 := Tryd.func91.trans (congrArg some (by kernel_rfl))
  f318 := Tryd.func93.trans (congrArg some (by kernel_rfl))
  f319 := Tryd.func94.trans (congrArg some (by kernel_rfl))
  f320 := Tryd.func95.trans (congrArg some (by kernel_rfl))
  f337 := Tryd.func96.trans (congrArg some (by kernel_rfl))
  f338 := Tryd.func97.trans (congrArg some (by kernel_rfl))
  t0 := Tryd.underlying0
  a0 := Tryd.isAgg0
  z0 := Tryd.sizeOf0
  v0 := Tryd.zeroValue0
  t2 := Tryd.underlying2
  a2 := Tryd.isAgg2
  z2 := Tryd.sizeOf2
  v2 := Tryd.zeroValue2
  t3 := Tryd.underlying3
  a3 := Tryd.isAgg3
  z3 := Tryd.sizeOf3
  v3 := Tryd.zeroValue3
  t4 := Tryd.underlying4
  a4 := Tryd.isAgg4
  z4 := Tryd.sizeOf4
  v4 := Tryd.zeroValue4
  t5 := Tryd.underlying5
  a5 := Tryd.isAgg5
  z5 := Tryd.sizeOf5
  v5 := Tryd.zeroValue5
  t9 := Tryd.underlying9
  a9 := Tryd.isAgg9
  z9 := Tryd.sizeOf9
  v9 := Tryd.zeroValue9
  t20 := Tryd.underlying20
  a20 := Tryd.isAgg20
  z20 := Tryd.sizeOf20
  v20 := Tryd.zeroValue20
  t37 := Tryd.underlying22
  a37 := Tryd.isAgg22
  z37 := Tryd.sizeOf22
  v37 := Tryd.zeroValue22
  t46 := Tryd.underlying84
  a46 := Tryd.isAgg84
  z46 := Tryd.sizeOf84
  v46 := Tryd.zeroValue84
  t51 := Tryd.underlying92
  a51 := Tryd.isAgg92
  z51 := Tryd.sizeOf92
  v51 := Tryd.zeroValue92
  t53 := Tryd.underlying95
  a53 := Tryd.isAgg95
  z53 := Tryd.sizeOf95
  v53 := Tryd.zeroValue95
  t171 := Tryd.underlying102
  a171 := Tryd.isAgg102
  z171 := Tryd.sizeOf102
  v171 := Tryd.zeroValue102
  t173 := Tryd.underlying105
  a173 := Tryd.isAgg105
  z173 := Tryd.sizeOf105
  v173 := Tryd.zeroValue105
  t212 := Tryd.underlying113
  a212 := Tryd.isAgg113
  z212 := Tryd.sizeOf113
  v212 := Tryd.zeroValue113
  t213 := Tryd.underlying114
  a213 := Tryd.isAgg114
  z213 := Tryd.sizeOf114
  t232 := Tryd.underlying118
  a232 := Tryd.isAgg118
  z232 := Tryd.sizeOf118
  v232 := Tryd.zeroValue118
  t233 := Tryd.underlying119
  a233 := Tryd.isAgg119
  z233 := Tryd.sizeOf119
  v233 := Tryd.zeroValue119
  g17 := by kernel_rfl
  g18 := by kernel_rfl
  g19 := by kernel_rfl }
open Go.RowKit Go.Sort Go.Lib in
theorem Tryd.strconv_Itoa_small (i : Nat) (hi : i < 100) (w : World) :
    Calls Tryd.prog 65 #[.int .i64 i] w fun e w' => e = .returned (.string ⟨(Lib.decDigits i).toArray⟩) ∧ w' = w := Any.strconv_Itoa_small Tryd.lays171 i hi w
def Tryd.laysC172_ren : Go.Shelf.Ren := ⟨fun | 172 => 63 | 244 => 67 | 245 => 68 | 247 => 74 | 279 => 75 | 280 => 76 | 281 => 77 | 282 => 78 | 287 => 82 | 316 => 83 | 171 => 65 | 205 => 84 | 321 => 89 | 322 => 90 | 243 => 69 | 246 => 79 | 283 => 85 | 284 => 86 | 285 => 87 | 286 => 88 | 129 => 92 | 317 => 91 | 318 => 93 | 319 => 94 | 320 => 95 | 337 => 96 | 338 => 97 | n => n, fun | 9 => 9 | 3 => 3 | 75 => 77 | 76 => 78 | 4 => 4 | 5 => 5 | 167 => 85 | 37 => 22 | 0 => 0 | 85 => 86 | 2 => 2 | 168 => 88 | 53 => 95 | 175 => 96 | 46 => 84 | 210 => 100 | 127 => 108 | 145 => 111 | 143 => 109 | 21 => 21 | 171 => 102 | 173 => 105 | 212 => 113 | 51 => 92 | 20 => 20 | 213 => 114 | 232 => 118 | 233 => 119 | 80 => 120 | n => n, fun | 15 => 1 | 16 => 2 | 17 => 3 | 18 => 4 | 19 => 5 | n => n⟩
theorem Tryd.laysC172 : Go.Proofs.LaysC.n172 Tryd.prog Tryd.laysC172_ren := {
  mixed := by kernel_rfl
  f129 := Tryd.func92.trans (congrArg some (by kernel_rfl))
  f171 := Tryd.func65.trans (congrArg some (by kernel_rfl))
  f172 := Tryd.func63.trans (congrArg some (by kernel_rfl))
  f205 := Tryd.func84.trans (congrArg some (by kernel_rfl))
  f243 := Tryd.func69.trans (congrArg some (by kernel_rfl))
  f244 := Tryd.func67.trans (congrArg some (by kernel_rfl))
  f245 := Tryd.func68.trans (congrArg some (by kernel_rfl))
  f246 := Tryd.func79.trans (congrArg some (by kernel_rfl))
  f247 := Tryd.func74.trans (congrArg some (by kernel_rfl))
  f279 := Tryd.func75.trans (congrArg some (by kernel_rfl))
  f280 := Tryd.func76.trans (congrArg some (by kernel_rfl))
  f281 := Tryd.func77.trans (congrArg some (by kernel_rfl))
  f282 := Tryd.func78.trans (congrArg some (by kernel_rfl))
  f283 := Tryd.func85.trans (congrArg some (by kernel_rfl))
  f284 := Tryd.func86.trans (congrArg some (by kernel_rfl))
  f285 := Tryd.func87.trans (congrArg some (by kernel_rfl))
  f286 := Tryd.func88.trans (congrArg some (by kernel_rfl))
  f287 := Tryd.func82.trans (congrArg some (by kernel_rfl))
  f316 := Tryd.func83.trans (congrArg some (by kernel_rfl))
  f317 := Tryd.func91.trans (congrArg some (by kernel_rfl))
  f318 := Tryd.func93.trans (congrArg some (by kernel_rfl))
  f319 := Tryd.func94.trans (congrArg some (by kernel_rfl))
  f320 := Tryd.func95.trans (congrArg some (by kernel_rfl))
  f321 := Tryd.func89.trans (congrArg some (by kernel_rfl))
  f322 := Tryd.func90.trans (congrArg some (by kernel_rfl))
  f337 := Tryd.func96.trans (congrArg some (by kernel_rfl))
  f338 := Tryd.func97.trans (congrArg some (by kernel_rfl))
  t0 := Tryd.underlying0
  a0 := Tryd.isAgg0
  z0 := Tryd.sizeOf0
  v0 := Tryd.zeroValue0
  t2 := Tryd.underlying2
  a2 := Tryd.isAgg2
  z2 := Tryd.sizeOf2
  v2 := Tryd.zeroValue2
  t3 := Tryd.underlying3
  a3 := Tryd.isAgg3
  z3 := Tryd.sizeOf3
  v3 := Tryd.zeroValue3
  t4 := Tryd.underlying4
  a4 := Tryd.isAgg4
  z4 := Tryd.sizeOf4
  v4 := Tryd.zeroValue4
  t5 := Tryd.underlying5
  a5 := Tryd.isAgg5
  z5 := Tryd.sizeOf5
  v5 := Tryd.zeroValue5
  t9 := Tryd.underlying9
  a9 := Tryd.isAgg9
  z9 := Tryd.sizeOf9
  v9 := Tryd.zeroValue9
  t20 := Tryd.underlying20
  a20 := Tryd.isAgg20
  z20 := Tryd.sizeOf20
  v20 := Tryd.zeroValue20
  t21 := Tryd.underlying21
  a21 := Tryd.isAgg21
  z21 := Tryd.sizeOf21
  v21 := Tryd.zeroValue21
  t37 := Tryd.underlying22
  a37 := Tryd.isAgg22
  z37 := Tryd.sizeOf22
  v37 := Tryd.zeroValue22
  t46 := Tryd.underlying84
  a46 := Tryd.isAgg84
  z46 := Tryd.sizeOf84
  v46 := Tryd.zeroValue84
  t51 := Tryd.underlying92
  a51 := Tryd.isAgg92
  z51 := Tryd.sizeOf92
  v51 := Tryd.zeroValue92
  t53 := Tryd.underlying95
  a53 := Tryd.isAgg95
  z53 := Tryd.sizeOf95
  v53 := Tryd.zeroValue95
  t75 := Tryd.underlying77
  a75 := Tryd.isAgg77
  z75 := Tryd.sizeOf77
  v75 := Tryd.zeroValue77
  t76 := Tryd.underlying78
  a76 := Tryd.isAgg78
  z76 := Tryd.sizeOf78
  v76 := Tryd.zeroValue78
  t85 := Tryd.underlying86
  a85 := Tryd.isAgg86
  z85 := Tryd.sizeOf86
  v85 := Tryd.zeroValue86
  t127 := Tryd.underlying108
  a127 := Tryd.isAgg108
  z127 := Tryd.sizeOf108
  v127 := Tryd.zeroValue108
  t143 := Tryd.underlying109
  a143 := Tryd.isAgg109
  z143 := Tryd.sizeOf109
  v143 := Tryd.zeroValue109
  t145 := Tryd.underlying111
  a145 := Tryd.isAgg111
  z145 := Tryd.sizeOf111
  v145 := Tryd.zeroValue111
  t167 := Tryd.underlying85
  a167 := Tryd.isAgg85
  z167 := Tryd.sizeOf85
  v167 := Tryd.zeroValue85
  t168 := Tryd.underlying88
  a168 := Tryd.isAgg88
  z168 := Tryd.sizeOf88
  v168 := Tryd.zeroValue88
  t171 := Tryd.underlying102
  a171 := Tryd.isAgg102
  z171 := Tryd.sizeOf102
  v171 := Tryd.zeroValue102
  t173 := Tryd.underlying105
  a173 := Tryd.isAgg105
  z173 := Tryd.sizeOf105
  v173 := Tryd.zeroValue105
  t175 := Tryd.underlying96
  a175 := Tryd.isAgg96
  z175 := Tryd.sizeOf96
  v175 := Tryd.zeroValue96
  t210 := Tryd.underlying100
  a210 := Tryd.isAgg100
  z210 := Tryd.sizeOf100
  v210 := Tryd.zeroValue100
  t212 := Tryd.underlying113
  a212 := Tryd.isAgg113
  z212 := Tryd.sizeOf113
  v212 := Tryd.zeroValue113
  t213 := Tryd.underlying114
  a213 := Tryd.isAgg114
  z213 := Tryd.sizeOf114
  t232 := Tryd.underlying118
  a232 := Tryd.isAgg118
  z232 := Tryd.sizeOf118
  v232 := Tryd.zeroValue118
  t233 := Tryd.underlying119
  a233 := Tryd.isAgg119
  z233 := Tryd.sizeOf119
  v233 := Tryd.zeroValue119
  g15 := by kernel_rfl
  g16 := by kernel_rfl
  g17 := by kernel_rfl
  g18 := by kernel_rfl
  g19 := by kernel_rfl
  t80 := Tryd.underlying120
  a80 := Tryd.isAgg120
  z80 := Tryd.sizeOf120
  v80 := Tryd.zeroValue120
  i0 := by kernel_rfl
  i2 := by kernel_rfl
  i3 := by kernel_rfl
  i4 := by kernel_rfl
  i5 := by kernel_rfl
  i9 := by kernel_rfl
  i20 := by kernel_rfl
  i21 := by kernel_rfl
  i37 := by kernel_rfl
  i46 := by kernel_rfl
  i51 := by kernel_rfl
  i53 := by kernel_rfl
  i75 := by kernel_rfl
  i76 := by kernel_rfl
  i80 := by kernel_rfl
  i85 := by kernel_rfl
  i127 := by kernel_rfl
  i143 := by kernel_rfl
  i145 := by kernel_rfl
  i167 := by kernel_rfl
  i168 := by kernel_rfl
  i171 := by kernel_rfl
  i173 := by kernel_rfl
  i175 := by kernel_rfl
  i210 := by kernel_rfl
  i212 := by kernel_rfl
  i232 := by kernel_rfl
  i233 := by kernel_rfl
  m15 := by kernel_rfl
  m16 := by kernel_rfl
  m17 := by kernel_rfl
  m18 := by kernel_rfl
  m19 := by kernel_rfl
  c0 := by kernel_rfl
  c2 := by kernel_rfl
  c3 := by kernel_rfl
  c4 := by kernel_rfl
  c5 := by kernel_rfl
  c9 := by kernel_rfl
  c20 := by kernel_rfl
  c21 := by kernel_rfl
  c37 := by kernel_rfl
  c46 := by kernel_rfl
  c51 := by kernel_rfl
  c53 := by kernel_rfl
  c75 := by kernel_rfl
  c76 := by kernel_rfl
  c80 := by kernel_rfl
  c85 := by kernel_rfl
  c127 := by kernel_rfl
  c143 := by kernel_rfl
  c145 := by kernel_rfl
  c167 := by kernel_rfl
  c168 := by kernel_rfl
  c171 := by kernel_rfl
  c173 := by kernel_rfl
  c175 := by kernel_rfl
  c210 := by kernel_rfl
  c212 := by kernel_rfl
  c213 := by kernel_rfl
  c232 := by kernel_rfl
  c233 := by kernel_rfl }
open Go.RowKit in
theorem Tryd.strconv_Atoi_ok (s : ByteArray) (hmax : s.size ≤ 9223372036854775806) (v : Int) (h : Lib.atoiAll s.data.toList = .ok v) (w : World) :
    Calls Tryd.prog 63 #[.string s] w fun e w' => e = .returned (.tuple #[.int .i64 v, .nilIface]) ∧ (w' = w ∨ ∃ t, w' = Lib.bytesWorld w 5 t) := Any.strconv_Atoi_ok Tryd.laysC172 s hmax v h w
open Go.RowKit in
theorem Tryd.strconv_Atoi_syntax_var (s : ByteArray) (hlim : s.size ≤ 281474976710656) (h : Lib.atoiAll s.data.toList = Lib.atoiAll []) (tp : TypeId) (p : Value) (w : World) (hvar : w.var? Tryd.prog "strconv.ErrSyntax" = some #[.iface tp p]) :
    Calls Tryd.prog 63 #[.string s] w fun e w' => ∃ N, e = .returned (.tuple #[.int .i64 0, .iface 88 (.pointer (some ⟨N, 0, none⟩))]) ∧ w.heap.size ≤ N ∧ w'.heap[N]? = some (.cells #[.string ⟨#[65, 116, 111, 105]⟩, .string s, .iface tp p] 100 (0, 0)) ∧ Below w.heap.size w w' := Any.strconv_Atoi_syntax_var Tryd.laysC172 s hlim (h.trans rfl) tp p w hvar
open Go.RowKit in
theorem Tryd.strconv_Atoi_range_var (s : ByteArray) (hlim : s.size ≤ 281474976710656) (h : Lib.atoiAll s.data.toList = .range) (tp : TypeId) (p : Value) (w : World) (hvar : w.var? Tryd.prog "strconv.ErrRange" = some #[.iface tp p]) :
    Calls Tryd.prog 63 #[.string s] w fun e w' => ∃ N, e = .returned (.tuple #[.int .i64 (Lib.atoiSat s.data.toList), .iface 88 (.pointer (some ⟨N, 0, none⟩))]) ∧ w.heap.size ≤ N ∧ w'.heap[N]? = some (.cells #[.string ⟨#[65, 116, 111, 105]⟩, .string s, .iface tp p] 100 (0, 0)) ∧ Below w.heap.size w w' := Any.strconv_Atoi_range_var Tryd.laysC172 s hlim h tp p w hvar
def Tryd.lays145_ren : Go.Shelf.Ren := ⟨fun | 145 => 58 | 220 => 62 | 219 => 66 | 217 => 70 | 225 => 71 | 224 => 72 | 267 => 73 | 266 => 80 | 314 => 81 | n => n, fun | 9 => 9 | 4 => 4 | 59 => 73 | 3 => 3 | 5 => 5 | 46 => 84 | 146 => 93 | 51 => 92 | n => n, fun | 1 => 0 | n => n⟩
theorem Tryd.lays145 : Go.Proofs.Lays.n145 Tryd.prog Tryd.lays145_ren := {
  mixed := by kernel_rfl
  f145 := Tryd.func58.trans (congrArg some (by kernel_rfl))
  f217 := Tryd.func70.trans (congrArg some (by kernel_rfl))
  f219 := Tryd.func66.trans (congrArg some (by kernel_rfl))
  f220 := Tryd.func62.trans (congrArg some (by kernel_rfl))
  f224 := Tryd.func72.trans (congrArg some (by kernel_rfl))
  f225 := Tryd.func71.trans (congrArg some (by kernel_rfl))
  f266 := Tryd.func80.trans (congrArg some (by kernel_rfl))
  f267 := Tryd.func73.trans (congrArg some (by kernel_rfl))
  f314 := Tryd.func81.trans (congrArg some (by kernel_rfl))
  t3 := Tryd.underlying3
  a3 := Tryd.isAgg3
  z3 := Tryd.sizeOf3
  v3 := Tryd.zeroValue3
  t4 := Tryd.underlying4
  a4 := Tryd.isAgg4
  z4 := Tryd.sizeOf4
  v4 := Tryd.zeroValue4
  t5 := Tryd.underlying5
  a5 := Tryd.isAgg5
  z5 := Tryd.sizeOf5
  v5 := Tryd.zeroValue5
  t9 := Tryd.underlying9
  a9 := Tryd.isAgg9
  z9 := Tryd.sizeOf9
  v9 := Tryd.zeroValue9
  t46 := Tryd.underlying84
  a46 := Tryd.isAgg84
  z46 := Tryd.sizeOf84
  v46 := Tryd.zeroValue84
  t51 := Tryd.underlying92
  a51 := Tryd.isAgg92
  z51 := Tryd.sizeOf92
  v51 := Tryd.zeroValue92
  t59 := Tryd.underlying73
  a59 := Tryd.isAgg73
  z59 := Tryd.sizeOf73
  v59 := Tryd.zeroValue73
  t146 := Tryd.underlying93
  a146 := Tryd.isAgg93
  z146 := Tryd.sizeOf93
  v146 := Tryd.zeroValue93
  g1 := by kernel_rfl }
open Go.RowKit Go.Lib in
theorem Tryd.strings_Cut (s sep : ByteArray) (m : Int) (w : World) (hs : s.size < 4294967281) (hm : w.cell? ⟨0, 0, none⟩ = some (.int .i64 m)) :
    Calls Tryd.prog 58 #[.string s, .string sep] w fun e w' => e = .returned (.tuple #[.string ⟨(Lib.cut s.data.toList sep.data.toList).1.toArray⟩, .string ⟨(Lib.cut s.data.toList sep.data.toList).2.1.toArray⟩, .bool (Lib.cut s.data.toList sep.data.toList).2.2]) ∧ ∃ n, w' = w.drewN n := Any.strings_Cut Tryd.lays145 s sep m w hs hm
end Go.Proofs
namespace Go.Proofs.YtijompkonaiagaaDoor.Z
open Go.RowKit Go.Proofs.YtijompkonaiagaaDoorW.PrintWords Go.Proofs.YtijompkonaiagaaDoorW.PrintLast
set_option linter.unusedVariables false
set_option linter.unusedSimpArgs false
attribute [local go_sem ↓] Go.wp_at_zero Go.wp_at_succ
theorem bytes_append (a b : List UInt8) : (⟨a.toArray⟩ : ByteArray) ++ ⟨b.toArray⟩ = ⟨(a ++ b).toArray⟩ := by
  apply ByteArray.ext
  simp [ByteArray.data_append]
attribute [local go_sem high] bytes_append
theorem dec2_len (n : Nat) : (dec2 n).length ≤ 2 := by unfold dec2; split <;> simp
theorem byte_at_ {w : World} (b : Nat) (n : Nat) (h : n < 10) (hc : w.cell? ⟨b, 0, none⟩ = some (.int .u8 (48 + (n : Int)))) :
    (convert 22 9 (.slice (some ⟨b, 0, none⟩) 1 1)).run Tryd.prog w = .ok (vS [UInt8.ofNat (48 + n)]) w := by
  have h1 := run_convert_bytes_arg (P := Tryd.prog) (w := w) 22 5 Tryd.underlying22 Tryd.underlying5 b 0 1 1 [48 + (n : Int)] rfl (fun i hi => by
    obtain rfl : i = 0 := by simpa using hi
    simpa using hc) 9 Tryd.underlying9
  rw [h1]
  congr 2
theorem one_byte (w : World) (n : Nat) (h : n < 10) :
    (convert 22 9 (.slice (some ⟨w.heap.size, 0, none⟩) 1 1)).run Tryd.prog (w.alloc (.cells #[.int .u8 (48 + (n : Int))] 5)) = .ok (vS [UInt8.ofNat (48 + n)]) (w.alloc (.cells #[.int .u8 (48 + (n : Int))] 5)) := by
  have h1 := run_convert_bytes_arg (P := Tryd.prog) (w := w.alloc (.cells #[.int .u8 (48 + (n : Int))] 5)) 22 5 Tryd.underlying22 Tryd.underlying5 w.heap.size 0 1 1 [48 + (n : Int)] rfl (fun i hi => by
    obtain rfl : i = 0 := by simpa using hi
    simp) 9 Tryd.underlying9
  rw [h1]
  congr 2
set_option maxRecDepth 100000 in
theorem spec_l6Dec1 (n : Nat) (h : n < 10) (w : World) :
    Calls Tryd.prog 47 #[.int .i64 n] w fun r w' => r = .returned (vS (dec2 n)) ∧ Below w.heap.size w w' := by
  have e0 : dec2 n = [UInt8.ofNat (48 + n)] := by unfold dec2; rw [if_pos h]
  have t1 : decide ((n : Int) < -9223372036854775807) = false := decide_eq_false (by omega)
  have t2 : decide ((n : Int) < 0) = false := decide_eq_false (by omega)
  have t3 : decide ((n : Int) < 10) = true := decide_eq_true (by omega)
  have hn : (n : Int) ≤ 9 := by omega
  have hb := one_byte w n h
  obtain ⟨l, hl⟩ : ∃ l, l = [UInt8.ofNat (48 + n)] := ⟨_, rfl⟩
  rw [← hl] at hb e0
  have HE := Aside0.mk e0; clear e0 h hl
  go_enter Tryd.func47, Tryd.ntmps47
  go_wp2
  go_ret
  exact ⟨by rw [HE.out]; rfl, (by repeat (first | (with_reducible exact (Below.refl _ _)) | (with_reducible apply below_alloc) | (with_reducible apply pw_below_drewN) | (with_reducible apply below_drew1) | with_reducible refine below_set ?_ (by first | (with_reducible exact Nat.le_refl _) | (with_reducible assumption) | (simp; done) | omega | (simp; omega))))⟩
set_option maxRecDepth 100000 in
set_option maxHeartbeats 1000000 in
theorem spec_l6Dec (n : Nat) (h : n < 100) (w : World) :
    Calls Tryd.prog 47 #[.int .i64 n] w fun r w' => r = .returned (vS (dec2 n)) ∧ Below w.heap.size w w' := by
  by_cases h10 : n < 10
  · exact spec_l6Dec1 n h10 w
  have e0 : dec2 n = [UInt8.ofNat (48 + n / 10)] ++ [UInt8.ofNat (48 + n % 10)] := by unfold dec2; rw [if_neg h10]; rfl
  have e1 : dec2 (n / 10) = [UInt8.ofNat (48 + n / 10)] := by unfold dec2; rw [if_pos (by omega)]
  have t1 : decide ((n : Int) < -9223372036854775807) = false := decide_eq_false (by omega)
  have t2 : decide ((n : Int) < 0) = false := decide_eq_false (by omega)
  have t3 : decide ((n : Int) < 10) = false := decide_eq_false (by omega)
  obtain ⟨q, hq⟩ : ∃ q, n / 10 = q := ⟨_, rfl⟩
  obtain ⟨m, hm⟩ : ∃ m, n % 10 = m := ⟨_, rfl⟩
  have hq1 : q < 10 := by omega
  have hm1 : m < 10 := by omega
  have v0 : Int.tdiv (n : Int) 10 = (q : Int) := by rw [Int.tdiv_eq_ediv_of_nonneg (by omega)]; omega
  have v1 : Int.tmod (n : Int) 10 = (m : Int) := by rw [Int.tmod_eq_emod_of_nonneg (by omega)]; omega
  have v2 : IntKind.i64.wrap (q : Int) = q := IntWalk.i64_in _ (by omega)
  have v3 : IntKind.i64.wrap (48 + (m : Int)) = 48 + m := IntWalk.i64_in _ (by omega)
  have v4 : IntKind.u8.wrap (48 + (m : Int)) = 48 + m := IntWalk.u8_in _ (by omega)
  rw [hq] at e0 e1
  rw [hm] at e0
  obtain ⟨l, hl⟩ : ∃ l, l = [UInt8.ofNat (48 + m)] := ⟨_, rfl⟩
  rw [← e1, ← hl] at e0
  have HQ := Aside0.mk e0; clear e0 e1 h h10 hq hm
  have HB := Aside0.mk (fun (w : World) => one_byte w m hm1)
  rw [← hl] at HB
  have hcat : ¬ (9223372036854775807 < (dec2 q).length + l.length) := by have := dec2_len q; rw [hl]; simp; omega
  have HL := Aside0.mk hl; clear hl
  go_enter Tryd.func47, Tryd.ntmps47
  go_wp2_with fail
  refine lin_start (fun _ => True) (true, [([], []), ([0], [0]), ([1], [1]), ([], []), ([3], [3]), ([4], [4]), ([5], [5]), ([6], [6]), ([7], [7]), ([2, 8], [2, 8]), ([9, 2, 0, 1, 2, 3, 4, 5, 6, 7, 8, 9], [9])]) [0, 1, 3, 4, 5, 6, 2, 7, 8, 9, 10] (by kernel_rfl) (by kernel_rfl) (by kernel_rfl) trivial ?_
  repeat (first | (refine lin_take rfl rfl (by kernel_rfl) (fun _ _ _ h => h) (by rfl) (v := ?_) (a' := ?_) ?_ ?_ ?_; rotate_left 2; (intro w' _; go_simp; with_reducible rfl); (simp only [List.getElem_toArray, List.getElem_cons_zero, List.getElem_cons_succ, Act.put, List.setIfInBounds_toArray, List.set_cons_zero, List.set_cons_succ]; rfl)) | (refine lin_off rfl rfl (by kernel_rfl) (fun _ _ _ h => h) (by rfl) (a' := ?_) ?_ ?_; rotate_left 1; (simp only [List.getElem_toArray, List.getElem_cons_zero, List.getElem_cons_succ, Act.put, List.setIfInBounds_toArray, List.set_cons_zero, List.set_cons_succ]; rfl)))
  refine lin_two (j := 7) (rest' := [2, 8, 9, 10]) rfl rfl rfl rfl (by kernel_rfl) rfl ?_ ?_
  · intro _ K hK
    refine step_call (by rfl) rfl rfl Tryd.func47 (by kernel_rfl) (by kernel_rfl) (args := #[.int .i64 q]) (by (try simp only [List.map_toArray, List.map_cons, List.map_nil]); first | done | rfl) ?_
    refine (spec_l6Dec1 q hq1 _).mono ?_
    rintro e w1 ⟨rfl, hb1⟩
    refine ⟨_, rfl, hK.out _ _ trivial ?_⟩
    refine lin_norm (a' := ?_) ?_ ?_; rotate_left 1; (simp only [List.getElem_toArray, List.getElem_cons_zero, List.getElem_cons_succ, Act.put, List.setIfInBounds_toArray, List.set_cons_zero, List.set_cons_succ]; rfl)
    refine lin_event (v := .slice (some ⟨w1.heap.size, 0, none⟩) 1 1) (w1 := w1.alloc (.cells #[.int .u8 (48 + (m : Int))] 5)) (a' := ?_) rfl rfl (by kernel_rfl) (by rfl) (fun hS => ?_) (fun hS => trivial) ?_ ?_; rotate_left 1; (focus (first | (go_simp; done) | (go_simp; rfl))); (focus (first | (simp only [List.getElem_toArray, List.getElem_cons_zero, List.getElem_cons_succ, Act.put, List.setIfInBounds_toArray, List.set_cons_zero, List.set_cons_succ]; done) | (simp only [List.getElem_toArray, List.getElem_cons_zero, List.getElem_cons_succ, Act.put, List.setIfInBounds_toArray, List.set_cons_zero, List.set_cons_succ]; rfl)))
    refine lin_event (v := vS l) (w1 := w1.alloc (.cells #[.int .u8 (48 + (m : Int))] 5)) (a' := ?_) rfl rfl (by kernel_rfl) (by rfl) (fun hS => ?_) (fun hS => trivial) ?_ ?_; rotate_left 1; (focus (have h1 := HB.out w1; go_simp)); (focus (first | (simp only [List.getElem_toArray, List.getElem_cons_zero, List.getElem_cons_succ, Act.put, List.setIfInBounds_toArray, List.set_cons_zero, List.set_cons_succ]; done) | (simp only [List.getElem_toArray, List.getElem_cons_zero, List.getElem_cons_succ, Act.put, List.setIfInBounds_toArray, List.set_cons_zero, List.set_cons_succ]; rfl)))
    repeat (first | (refine lin_take rfl rfl (by kernel_rfl) (fun _ _ _ h => h) (by rfl) (v := ?_) (a' := ?_) ?_ ?_ ?_; rotate_left 2; (intro w' _; go_simp; with_reducible rfl); (simp only [List.getElem_toArray, List.getElem_cons_zero, List.getElem_cons_succ, Act.put, List.setIfInBounds_toArray, List.set_cons_zero, List.set_cons_succ]; rfl)) | (refine lin_off rfl rfl (by kernel_rfl) (fun _ _ _ h => h) (by rfl) (a' := ?_) ?_ ?_; rotate_left 1; (simp only [List.getElem_toArray, List.getElem_cons_zero, List.getElem_cons_succ, Act.put, List.setIfInBounds_toArray, List.set_cons_zero, List.set_cons_succ]; rfl)))
    refine lin_done (by kernel_rfl) ?_
    clear hK
    go_wp2
    go_ret
    exact ⟨by rw [HQ.out]; rfl, below_alloc (below_step ((below_drew (Below.refl _ _))) hb1) _⟩
  · intro _ K hK
    refine step_value (v := .slice (some ⟨w.heap.size, 0, none⟩) 1 1) (w1 := w.drew.alloc (.cells #[.int .u8 (48 + (m : Int))] 5)) (by rfl) rfl ?_ ?_
    · first | (go_simp; done) | (go_simp; rfl)
    refine hK.out _ _ trivial ?_
    clear hK
    refine lin_norm (a' := ?_) ?_ ?_; rotate_left 1; (simp only [List.getElem_toArray, List.getElem_cons_zero, List.getElem_cons_succ, Act.put, List.setIfInBounds_toArray, List.set_cons_zero, List.set_cons_succ]; rfl)
    refine lin_two (j := 8) (rest' := [2, 9, 10]) rfl rfl rfl rfl (by kernel_rfl) rfl ?_ ?_
    · intro _ K hK
      refine step_call (by rfl) rfl rfl Tryd.func47 (by kernel_rfl) (by kernel_rfl) (args := #[.int .i64 q]) (by (try simp only [List.map_toArray, List.map_cons, List.map_nil]); first | done | rfl) ?_
      refine (spec_l6Dec1 q hq1 _).mono ?_
      rintro e w1 ⟨rfl, hb1⟩
      refine ⟨_, rfl, hK.out _ _ trivial ?_⟩
      refine lin_norm (a' := ?_) ?_ ?_; rotate_left 1; (simp only [List.getElem_toArray, List.getElem_cons_zero, List.getElem_cons_succ, Act.put, List.setIfInBounds_toArray, List.set_cons_zero, List.set_cons_succ]; rfl)
      have hz := hb1.size
      have hcv : (convert 22 9 (.slice (some ⟨w.heap.size, 0, none⟩) 1 1)).run Tryd.prog w1 = .ok (vS l) w1 := by
        rw [HL.out]
        exact byte_at_ w.heap.size m hm1 ((hb1.cell (p := ⟨w.heap.size, 0, none⟩) (by show w.heap.size < (w.alloc _).heap.size; simp)).trans ((blk_cell (heap_alloc_new w.drew (.cells #[.int .u8 (48 + (m : Int))] 5)) 0).trans rfl))
      refine lin_event (v := vS l) (w1 := w1) (a' := ?_) rfl rfl (by kernel_rfl) (by rfl) (fun hS => ?_) (fun hS => trivial) ?_ ?_; rotate_left 1; (focus (go_simp)); (focus (first | (simp only [List.getElem_toArray, List.getElem_cons_zero, List.getElem_cons_succ, Act.put, List.setIfInBounds_toArray, List.set_cons_zero, List.set_cons_succ]; done) | (simp only [List.getElem_toArray, List.getElem_cons_zero, List.getElem_cons_succ, Act.put, List.setIfInBounds_toArray, List.set_cons_zero, List.set_cons_succ]; rfl)))
      repeat (first | (refine lin_take rfl rfl (by kernel_rfl) (fun _ _ _ h => h) (by rfl) (v := ?_) (a' := ?_) ?_ ?_ ?_; rotate_left 2; (intro w' _; go_simp; with_reducible rfl); (simp only [List.getElem_toArray, List.getElem_cons_zero, List.getElem_cons_succ, Act.put, List.setIfInBounds_toArray, List.set_cons_zero, List.set_cons_succ]; rfl)) | (refine lin_off rfl rfl (by kernel_rfl) (fun _ _ _ h => h) (by rfl) (a' := ?_) ?_ ?_; rotate_left 1; (simp only [List.getElem_toArray, List.getElem_cons_zero, List.getElem_cons_succ, Act.put, List.setIfInBounds_toArray, List.set_cons_zero, List.set_cons_succ]; rfl)))
      refine lin_done (by kernel_rfl) ?_
      clear hK
      go_wp2
      go_ret
      exact ⟨by rw [HQ.out]; rfl, below_step (below_alloc (below_drew (Below.refl _ _)) _) hb1⟩
    · intro _ K hK
      refine step_value (v := vS l) (w1 := w.drew.alloc (.cells #[.int .u8 (48 + (m : Int))] 5)) (by rfl) rfl ?_ ?_
      · have h1 := byte_at_ (w := (w.alloc (.cells #[.int .u8 (48 + (m : Int))] 5)).drew) w.heap.size m hm1 (by simp)
        rw [← HL.out] at h1
        go_simp
      refine hK.out _ _ trivial ?_
      clear hK
      refine lin_norm (a' := ?_) ?_ ?_; rotate_left 1; (simp only [List.getElem_toArray, List.getElem_cons_zero, List.getElem_cons_succ, Act.put, List.setIfInBounds_toArray, List.set_cons_zero, List.set_cons_succ]; rfl)
      refine lin_call rfl rfl rfl Tryd.func47 (by kernel_rfl) (by kernel_rfl) rfl (by rfl) (args := #[.int .i64 q]) (by (try simp only [List.map_toArray, List.map_cons, List.map_nil]); first | done | rfl) (fun hS => ?_)
      refine (spec_l6Dec1 q hq1 _).mono ?_
      rintro e w1 ⟨rfl, hb1⟩
      refine ⟨_, rfl, trivial, ?_⟩
      refine lin_norm (a' := ?_) ?_ ?_; rotate_left 1; (simp only [List.getElem_toArray, List.getElem_cons_zero, List.getElem_cons_succ, Act.put, List.setIfInBounds_toArray, List.set_cons_zero, List.set_cons_succ]; rfl)
      repeat (first | (refine lin_take rfl rfl (by kernel_rfl) (fun _ _ _ h => h) (by rfl) (v := ?_) (a' := ?_) ?_ ?_ ?_; rotate_left 2; (intro w' _; go_simp; with_reducible rfl); (simp only [List.getElem_toArray, List.getElem_cons_zero, List.getElem_cons_succ, Act.put, List.setIfInBounds_toArray, List.set_cons_zero, List.set_cons_succ]; rfl)) | (refine lin_off rfl rfl (by kernel_rfl) (fun _ _ _ h => h) (by rfl) (a' := ?_) ?_ ?_; rotate_left 1; (simp only [List.getElem_toArray, List.getElem_cons_zero, List.getElem_cons_succ, Act.put, List.setIfInBounds_toArray, List.set_cons_zero, List.set_cons_succ]; rfl)))
      refine lin_done (by kernel_rfl) ?_
      go_wp2
      go_ret
      exact ⟨by rw [HQ.out]; rfl, below_step (below_alloc (below_drew (Below.refl _ _)) _) hb1⟩
theorem endText_len (e : En) : (endText e).length ≤ 5 := by
  unfold endText
  split
  · have := dec2_len e.addr.toNat
    have := dec2_len e.port.toNat
    simp; omega
  · simp
theorem any_range {e : En} (h : anyB e = true) : 0 ≤ e.addr ∧ e.addr < 100 ∧ 0 ≤ e.port ∧ e.port < 100 := by
  simp only [anyB, insideB, outsideB, doorB, inB, Bool.or_eq_true, Bool.and_eq_true, decide_eq_true_eq, beq_iff_eq] at h
  omega
set_option maxHeartbeats 1000000 in
theorem spec_EndText (e : En) (w : World) :
    Calls Tryd.prog 40 #[vEn e] w fun r w' => r = .returned (vS (endText e)) ∧ Below w.heap.size w w' := by
  cases h : anyB e
  · have e0 : endText e = [] := by unfold endText; rw [h]; rfl
    have H := Aside0.mk h; clear h
    have E := Aside0.mk e0; clear e0
    go_enter Tryd.func40, Tryd.ntmps40
    go_wp2_with (go_at_call 46; refine (spec_l1Any e _).mono ?_; rintro r w1 ⟨rfl, hb1⟩; rw [H.out]; obtain ⟨hb1c, hb1f, hb1z⟩ := bcell hb1; (try simp at hb1z); (try have hb10 : w.heap.size < w1.heap.size := by omega); (try have hb11 : w.heap.size + 1 < w1.heap.size := by omega); (try have hb12 : w.heap.size + 2 < w1.heap.size := by omega))
    go_ret
    exact ⟨by rw [E.out]; rfl, below_step (by repeat (first | (with_reducible exact (Below.refl _ _)) | (with_reducible apply below_alloc) | (with_reducible apply pw_below_drewN) | (with_reducible apply below_drew1) | with_reducible refine below_set ?_ (by first | (with_reducible exact Nat.le_refl _) | (with_reducible assumption) | (simp; done) | omega | (simp; omega)))) hb1⟩
  · obtain ⟨a0, a1, p0, p1⟩ := any_range h
    obtain ⟨a, ha⟩ : ∃ a : Nat, e.addr = a := ⟨e.addr.toNat, by omega⟩
    obtain ⟨p, hp⟩ : ∃ p : Nat, e.port = p := ⟨e.port.toNat, by omega⟩
    have e0 : endText e = dec2 a ++ 58 :: dec2 p := by unfold endText; rw [h, ha, hp]; simp
    obtain ⟨x, y⟩ := e
    obtain rfl : x = a := ha
    obtain rfl : y = p := hp
    have H := Aside0.mk h; clear h
    have E := Aside0.mk e0; clear e0
    have l1 := dec2_len a
    have l2 := dec2_len p
    have hc1 : ¬ (9223372036854775807 < (dec2 a).length + 1) := by omega
    have hc2 : ¬ (9223372036854775807 < (dec2 a).length + 1 + (dec2 p).length) := by omega
    have hc3 : ¬ (9223372036854775807 < (dec2 a ++ [58]).length + (dec2 p).length) := by simp; omega
    have bk := heap_alloc_new w (.cells #[.int .i64 (a : Int), .int .i64 (p : Int)] 24)
    go_enter Tryd.func40, Tryd.ntmps40
    go_wp2_with (go_at_call 46; refine (spec_l1Any ⟨a, p⟩ _).mono ?_; rintro r w1 ⟨rfl, hb1⟩; rw [H.out]; obtain ⟨hb1c, hb1f, hb1z⟩ := bcell hb1; (try simp at hb1z); (try have hb10 : w.heap.size < w1.heap.size := by omega); (try have hb11 : w.heap.size + 1 < w1.heap.size := by omega); (try have hb12 : w.heap.size + 2 < w1.heap.size := by omega))
    replace bk := (hb1.block _ (by simp)).trans bk
    have c0 : w1.cell? ⟨w.heap.size, 0, none⟩ = some (.int .i64 (a : Int)) := (blk_cell bk 0).trans rfl
    have c1 : w1.cell? ⟨w.heap.size, 1, none⟩ = some (.int .i64 (p : Int)) := (blk_cell bk 1).trans rfl
    refine lin_start (fun w' => w'.cell? ⟨w.heap.size, 0, none⟩ = some (.int .i64 (a : Int)) ∧ w'.cell? ⟨w.heap.size, 1, none⟩ = some (.int .i64 (p : Int))) (true, [([], []), ([0], [0]), ([1], [1]), ([2], [2]), ([], []), ([4], [4]), ([5, 2], [5]), ([3, 6], [3, 6]), ([7, 6, 0, 1, 2, 3, 4, 5, 6, 7], [7])]) [0, 1, 4, 5, 2, 3, 6, 7, 8] (by kernel_rfl) (by kernel_rfl) (by kernel_rfl) ⟨c0, c1⟩ ?_
    repeat (first | (refine lin_take rfl rfl (by kernel_rfl) (fun _ _ _ h => h) (by rfl) (v := ?_) (a' := ?_) ?_ ?_ ?_; rotate_left 2; (rintro w' ⟨s0, s1⟩; go_simp; with_reducible rfl); (simp only [List.getElem_toArray, List.getElem_cons_zero, List.getElem_cons_succ, Act.put, List.setIfInBounds_toArray, List.set_cons_zero, List.set_cons_succ]; rfl)) | (refine lin_off rfl rfl (by kernel_rfl) (fun _ _ _ h => h) (by rfl) (a' := ?_) ?_ ?_; rotate_left 1; (simp only [List.getElem_toArray, List.getElem_cons_zero, List.getElem_cons_succ, Act.put, List.setIfInBounds_toArray, List.set_cons_zero, List.set_cons_succ]; rfl)))
    refine lin_call rfl rfl rfl Tryd.func47 (by kernel_rfl) (by kernel_rfl) rfl (by rfl) (args := #[.int .i64 a]) (by (try simp only [List.map_toArray, List.map_cons, List.map_nil]); first | done | rfl) (fun hS => ?_)
    refine (spec_l6Dec a (by omega) _).mono ?_
    rintro r w2 ⟨rfl, hb2⟩
    have hz2 := hb2.size
    refine ⟨_, rfl, ?_, ?_⟩
    · first | exact (hb2.cell (by first | exact hb10)).trans hS | (obtain ⟨s0, s1⟩ := hS; exact ⟨(hb2.cell (by first | exact hb10)).trans s0, (hb2.cell (by first | exact hb10)).trans s1⟩)
    refine lin_norm (a' := ?_) ?_ ?_; rotate_left 1; (simp only [List.getElem_toArray, List.getElem_cons_zero, List.getElem_cons_succ, Act.put, List.setIfInBounds_toArray, List.set_cons_zero, List.set_cons_succ]; rfl)
    repeat (first | (refine lin_take rfl rfl (by kernel_rfl) (fun _ _ _ h => h) (by rfl) (v := ?_) (a' := ?_) ?_ ?_ ?_; rotate_left 2; (rintro w' ⟨s0, s1⟩; go_simp; with_reducible rfl); (simp only [List.getElem_toArray, List.getElem_cons_zero, List.getElem_cons_succ, Act.put, List.setIfInBounds_toArray, List.set_cons_zero, List.set_cons_succ]; rfl)) | (refine lin_off rfl rfl (by kernel_rfl) (fun _ _ _ h => h) (by rfl) (a' := ?_) ?_ ?_; rotate_left 1; (simp only [List.getElem_toArray, List.getElem_cons_zero, List.getElem_cons_succ, Act.put, List.setIfInBounds_toArray, List.set_cons_zero, List.set_cons_succ]; rfl)))
    refine lin_call rfl rfl rfl Tryd.func47 (by kernel_rfl) (by kernel_rfl) rfl (by rfl) (args := #[.int .i64 p]) (by (try simp only [List.map_toArray, List.map_cons, List.map_nil]); first | done | rfl) (fun hS => ?_)
    refine (spec_l6Dec p (by omega) _).mono ?_
    rintro r w3 ⟨rfl, hb3⟩
    refine ⟨_, rfl, ?_, ?_⟩
    · first | exact (hb3.cell (by first | exact Nat.lt_of_lt_of_le hb10 hz2)).trans hS | (obtain ⟨s0, s1⟩ := hS; exact ⟨(hb3.cell (by first | exact Nat.lt_of_lt_of_le hb10 hz2)).trans s0, (hb3.cell (by first | exact Nat.lt_of_lt_of_le hb10 hz2)).trans s1⟩)
    refine lin_norm (a' := ?_) ?_ ?_; rotate_left 1; (simp only [List.getElem_toArray, List.getElem_cons_zero, List.getElem_cons_succ, Act.put, List.setIfInBounds_toArray, List.set_cons_zero, List.set_cons_succ]; rfl)
    repeat (first | (refine lin_take rfl rfl (by kernel_rfl) (fun _ _ _ h => h) (by rfl) (v := ?_) (a' := ?_) ?_ ?_ ?_; rotate_left 2; (rintro w' ⟨s0, s1⟩; go_simp; with_reducible rfl); (simp only [List.getElem_toArray, List.getElem_cons_zero, List.getElem_cons_succ, Act.put, List.setIfInBounds_toArray, List.set_cons_zero, List.set_cons_succ]; rfl)) | (refine lin_off rfl rfl (by kernel_rfl) (fun _ _ _ h => h) (by rfl) (a' := ?_) ?_ ?_; rotate_left 1; (simp only [List.getElem_toArray, List.getElem_cons_zero, List.getElem_cons_succ, Act.put, List.setIfInBounds_toArray, List.set_cons_zero, List.set_cons_succ]; rfl)))
    refine lin_done (by kernel_rfl) ?_
    go_wp2
    go_ret
    exact ⟨by rw [E.out]; rfl, below_step (below_step (below_drew (below_step (by repeat (first | (with_reducible exact (Below.refl _ _)) | (with_reducible apply below_alloc) | (with_reducible apply pw_below_drewN) | (with_reducible apply below_drew1) | with_reducible refine below_set ?_ (by first | (with_reducible exact Nat.le_refl _) | (with_reducible assumption) | (simp; done) | omega | (simp; omega)))) hb1)) hb2) hb3⟩
theorem itoa_small (n : Nat) (h : n < 100) (w : World) : Calls Tryd.prog 65 #[.int .i64 n] w fun r w' => r = .returned (vS (dec2 n)) ∧ Below w.heap.size w w' := by
  refine (Tryd.strconv_Itoa_small n h w).mono ?_
  rintro r w' ⟨rfl, rfl⟩
  rw [dec2_eq n h]
  exact ⟨rfl, Below.refl _ _⟩
set_option maxHeartbeats 1000000 in
theorem impl_EndText (e : En) (w : World) :
    Calls Tryd.prog 60 #[vEn e] w fun r w' => r = .returned (vS (endText e)) ∧ Below w.heap.size w w' := by
  cases h : anyB e
  · have e0 : endText e = [] := by unfold endText; rw [h]; rfl
    have H := Aside0.mk h; clear h
    have E := Aside0.mk e0; clear e0
    go_enter Tryd.func60, Tryd.ntmps60
    go_wp2_with (go_at_call 64; refine (impl_any e _).mono ?_; rintro r w1 ⟨rfl, hb1⟩; rw [H.out]; obtain ⟨hb1c, hb1f, hb1z⟩ := bcell hb1; (try simp at hb1z); (try have hb10 : w.heap.size < w1.heap.size := by omega); (try have hb11 : w.heap.size + 1 < w1.heap.size := by omega); (try have hb12 : w.heap.size + 2 < w1.heap.size := by omega))
    go_ret
    exact ⟨by rw [E.out]; rfl, below_step (by repeat (first | (with_reducible exact (Below.refl _ _)) | (with_reducible apply below_alloc) | (with_reducible apply pw_below_drewN) | (with_reducible apply below_drew1) | with_reducible refine below_set ?_ (by first | (with_reducible exact Nat.le_refl _) | (with_reducible assumption) | (simp; done) | omega | (simp; omega)))) hb1⟩
  · obtain ⟨a0, a1, p0, p1⟩ := any_range h
    obtain ⟨a, ha⟩ : ∃ a : Nat, e.addr = a := ⟨e.addr.toNat, by omega⟩
    obtain ⟨p, hp⟩ : ∃ p : Nat, e.port = p := ⟨e.port.toNat, by omega⟩
    have e0 : endText e = dec2 a ++ 58 :: dec2 p := by unfold endText; rw [h, ha, hp]; simp
    obtain ⟨x, y⟩ := e
    obtain rfl : x = a := ha
    obtain rfl : y = p := hp
    have H := Aside0.mk h; clear h
    have E := Aside0.mk e0; clear e0
    have l1 := dec2_len a
    have l2 := dec2_len p
    have hc1 : ¬ (9223372036854775807 < (dec2 a).length + 1) := by omega
    have hc2 : ¬ (9223372036854775807 < (dec2 a).length + 1 + (dec2 p).length) := by omega
    have hc3 : ¬ (9223372036854775807 < (dec2 a ++ [58]).length + (dec2 p).length) := by simp; omega
    have bk := heap_alloc_new w (.cells #[.int .i64 (a : Int), .int .i64 (p : Int)] 24)
    go_enter Tryd.func60, Tryd.ntmps60
    go_wp2_with (go_at_call 64; refine (impl_any ⟨a, p⟩ _).mono ?_; rintro r w1 ⟨rfl, hb1⟩; rw [H.out]; obtain ⟨hb1c, hb1f, hb1z⟩ := bcell hb1; (try simp at hb1z); (try have hb10 : w.heap.size < w1.heap.size := by omega); (try have hb11 : w.heap.size + 1 < w1.heap.size := by omega); (try have hb12 : w.heap.size + 2 < w1.heap.size := by omega))
    replace bk := (hb1.block _ (by simp)).trans bk
    have c0 : w1.cell? ⟨w.heap.size, 0, none⟩ = some (.int .i64 (a : Int)) := (blk_cell bk 0).trans rfl
    have c1 : w1.cell? ⟨w.heap.size, 1, none⟩ = some (.int .i64 (p : Int)) := (blk_cell bk 1).trans rfl
    refine lin_start (fun w' => w'.cell? ⟨w.heap.size, 0, none⟩ = some (.int .i64 (a : Int)) ∧ w'.cell? ⟨w.heap.size, 1, none⟩ = some (.int .i64 (p : Int))) (true, [([], []), ([0], [0]), ([1], [1]), ([2], [2]), ([], []), ([4], [4]), ([5, 2], [5]), ([3, 6], [3, 6]), ([7, 6, 0, 1, 2, 3, 4, 5, 6, 7], [7])]) [0, 1, 4, 5, 2, 3, 6, 7, 8] (by kernel_rfl) (by kernel_rfl) (by kernel_rfl) ⟨c0, c1⟩ ?_
    repeat (first | (refine lin_take rfl rfl (by kernel_rfl) (fun _ _ _ h => h) (by rfl) (v := ?_) (a' := ?_) ?_ ?_ ?_; rotate_left 2; (rintro w' ⟨s0, s1⟩; go_simp; with_reducible rfl); (simp only [List.getElem_toArray, List.getElem_cons_zero, List.getElem_cons_succ, Act.put, List.setIfInBounds_toArray, List.set_cons_zero, List.set_cons_succ]; rfl)) | (refine lin_off rfl rfl (by kernel_rfl) (fun _ _ _ h => h) (by rfl) (a' := ?_) ?_ ?_; rotate_left 1; (simp only [List.getElem_toArray, List.getElem_cons_zero, List.getElem_cons_succ, Act.put, List.setIfInBounds_toArray, List.set_cons_zero, List.set_cons_succ]; rfl)))
    refine lin_call rfl rfl rfl Tryd.func65 (by kernel_rfl) (by kernel_rfl) rfl (by rfl) (args := #[.int .i64 a]) (by (try simp only [List.map_toArray, List.map_cons, List.map_nil]); first | done | rfl) (fun hS => ?_)
    refine (itoa_small a (by omega) _).mono ?_
    rintro r w2 ⟨rfl, hb2⟩
    have hz2 := hb2.size
    refine ⟨_, rfl, ?_, ?_⟩
    · first | exact (hb2.cell (by first | exact hb10)).trans hS | (obtain ⟨s0, s1⟩ := hS; exact ⟨(hb2.cell (by first | exact hb10)).trans s0, (hb2.cell (by first | exact hb10)).trans s1⟩)
    refine lin_norm (a' := ?_) ?_ ?_; rotate_left 1; (simp only [List.getElem_toArray, List.getElem_cons_zero, List.getElem_cons_succ, Act.put, List.setIfInBounds_toArray, List.set_cons_zero, List.set_cons_succ]; rfl)
    repeat (first | (refine lin_take rfl rfl (by kernel_rfl) (fun _ _ _ h => h) (by rfl) (v := ?_) (a' := ?_) ?_ ?_ ?_; rotate_left 2; (rintro w' ⟨s0, s1⟩; go_simp; with_reducible rfl); (simp only [List.getElem_toArray, List.getElem_cons_zero, List.getElem_cons_succ, Act.put, List.setIfInBounds_toArray, List.set_cons_zero, List.set_cons_succ]; rfl)) | (refine lin_off rfl rfl (by kernel_rfl) (fun _ _ _ h => h) (by rfl) (a' := ?_) ?_ ?_; rotate_left 1; (simp only [List.getElem_toArray, List.getElem_cons_zero, List.getElem_cons_succ, Act.put, List.setIfInBounds_toArray, List.set_cons_zero, List.set_cons_succ]; rfl)))
    refine lin_call rfl rfl rfl Tryd.func65 (by kernel_rfl) (by kernel_rfl) rfl (by rfl) (args := #[.int .i64 p]) (by (try simp only [List.map_toArray, List.map_cons, List.map_nil]); first | done | rfl) (fun hS => ?_)
    refine (itoa_small p (by omega) _).mono ?_
    rintro r w3 ⟨rfl, hb3⟩
    refine ⟨_, rfl, ?_, ?_⟩
    · first | exact (hb3.cell (by first | exact Nat.lt_of_lt_of_le hb10 hz2)).trans hS | (obtain ⟨s0, s1⟩ := hS; exact ⟨(hb3.cell (by first | exact Nat.lt_of_lt_of_le hb10 hz2)).trans s0, (hb3.cell (by first | exact Nat.lt_of_lt_of_le hb10 hz2)).trans s1⟩)
    refine lin_norm (a' := ?_) ?_ ?_; rotate_left 1; (simp only [List.getElem_toArray, List.getElem_cons_zero, List.getElem_cons_succ, Act.put, List.setIfInBounds_toArray, List.set_cons_zero, List.set_cons_succ]; rfl)
    repeat (first | (refine lin_take rfl rfl (by kernel_rfl) (fun _ _ _ h => h) (by rfl) (v := ?_) (a' := ?_) ?_ ?_ ?_; rotate_left 2; (rintro w' ⟨s0, s1⟩; go_simp; with_reducible rfl); (simp only [List.getElem_toArray, List.getElem_cons_zero, List.getElem_cons_succ, Act.put, List.setIfInBounds_toArray, List.set_cons_zero, List.set_cons_succ]; rfl)) | (refine lin_off rfl rfl (by kernel_rfl) (fun _ _ _ h => h) (by rfl) (a' := ?_) ?_ ?_; rotate_left 1; (simp only [List.getElem_toArray, List.getElem_cons_zero, List.getElem_cons_succ, Act.put, List.setIfInBounds_toArray, List.set_cons_zero, List.set_cons_succ]; rfl)))
    refine lin_done (by kernel_rfl) ?_
    go_wp2
    go_ret
    exact ⟨by rw [E.out]; rfl, below_step (below_step (below_drew (below_step (by repeat (first | (with_reducible exact (Below.refl _ _)) | (with_reducible apply below_alloc) | (with_reducible apply pw_below_drewN) | (with_reducible apply below_drew1) | with_reducible refine below_set ?_ (by first | (with_reducible exact Nat.le_refl _) | (with_reducible assumption) | (simp; done) | omega | (simp; omega)))) hb1)) hb2) hb3⟩
end Go.Proofs.YtijompkonaiagaaDoor.Z
namespace Go.Proofs.YtijompkonaiagaaDoor.Z
open Go.RowKit Go.Proofs.YtijompkonaiagaaDoorW.PrintWords
set_option linter.unusedVariables false
set_option linter.unusedSimpArgs false
attribute [local go_sem ↓] Go.wp_at_zero Go.wp_at_succ
attribute [local go_sem high] eqEn
theorem ret_bool {a b : Bool} (h : a = b) : Ending.returned (.bool a) = .returned (.bool b) := by rw [h]
end Go.Proofs.YtijompkonaiagaaDoor.Z
namespace Go.Proofs.YtijompkonaiagaaDoor.Z
open Go.RowKit Go.Proofs.YtijompkonaiagaaDoorW.PrintWords
set_option linter.unusedVariables false
set_option linter.unusedSimpArgs false
attribute [local go_sem ↓] Go.wp_at_zero Go.wp_at_succ
attribute [local go_sem high] eqEn
abbrev vOpt (o : Option En) : Value := .tuple #[vEn (o.getD zEn), .bool o.isSome]
end Go.Proofs.YtijompkonaiagaaDoor.Z
namespace Go.Proofs.YtijompkonaiagaaDoor.Z
open Go.RowKit Go.Proofs.YtijompkonaiagaaDoorW.PrintWords Go.Proofs.YtijompkonaiagaaDoorW.PrintLast
set_option linter.unusedVariables false
set_option linter.unusedSimpArgs false
attribute [local go_sem ↓] Go.wp_at_zero Go.wp_at_succ
attribute [local go_sem high] bytes_append
def Vars (w : World) : Prop := (∃ m, w.cell? ⟨0, 0, none⟩ = some (.int .i64 m)) ∧ (∃ tp p, w.var? Tryd.prog "strconv.ErrSyntax" = some #[.iface tp p]) ∧ (∃ tp p, w.var? Tryd.prog "strconv.ErrRange" = some #[.iface tp p])
def gTop : Nat := max 0 (max 1 2) + 1
theorem gSyntax : Tryd.prog.globalNamed "strconv.ErrSyntax" = some 1 := by kernel_rfl
theorem gRange : Tryd.prog.globalNamed "strconv.ErrRange" = some 2 := by kernel_rfl
theorem Vars.below {w w' : World} {B : Nat} (h : Vars w) (hb : Below B w w') (hB : gTop ≤ B) : Vars w' := by
  unfold gTop at hB
  obtain ⟨⟨m, h1⟩, ⟨tp, p, h2⟩, ⟨tp2, p2, h3⟩⟩ := h
  exact ⟨⟨m, (hb.cell (p := ⟨0, 0, none⟩) (by show 0 < B; omega)).trans h1⟩, ⟨tp, p, var?_below hb gSyntax (by omega) h2⟩, ⟨tp2, p2, var?_below hb gRange (by omega) h3⟩⟩
def VarsIn (w : World) : Prop := Vars w ∧ gTop ≤ w.heap.size
theorem VarsIn.below {w w' : World} {B : Nat} (h : VarsIn w) (hb : Below B w w') (hB : gTop ≤ B) : VarsIn w' := ⟨h.1.below hb hB, Nat.le_trans h.2 hb.size⟩
theorem VarsIn.next {w w' : World} (h : VarsIn w) (hb : Below w.heap.size w w') : VarsIn w' := h.below hb h.2
theorem parse_text : ∀ e ∈ allEnds, Go.Lib.cut (endText e) [58] = (dec2 e.addr.toNat, dec2 e.port.toNat, true) ∧ Go.Lib.atoiAll (dec2 e.addr.toNat) = .ok e.addr ∧ Go.Lib.atoiAll (dec2 e.port.toNat) = .ok e.port := by decide +kernel
theorem atoi (l : List UInt8) (hl : l.length ≤ 100000000) (w : World) (hv : VarsIn w) :
    Calls Tryd.prog 63 #[vS l] w fun r w' => ∃ x ev, r = .returned (.tuple #[.int .i64 x, ev]) ∧ ((Go.Lib.atoiAll l = .ok x ∧ ev = .nilIface) ∨ ((∀ v, Go.Lib.atoiAll l ≠ .ok v) ∧ ∃ t p, ev = .iface t p)) ∧ Below w.heap.size w w' := by
  obtain ⟨⟨_, ⟨tp, p, h2⟩, ⟨tp2, p2, h3⟩⟩, _⟩ := hv
  have hs : (⟨l.toArray⟩ : ByteArray).size = l.length := rfl
  cases h : Go.Lib.atoiAll l
  case ok v =>
    refine (Tryd.strconv_Atoi_ok ⟨l.toArray⟩ (by rw [hs]; omega) v h w).mono ?_
    rintro r w' ⟨rfl, hw⟩
    refine ⟨v, .nilIface, rfl, .inl ⟨rfl, rfl⟩, ?_⟩
    rcases hw with rfl | ⟨t, rfl⟩
    · exact Below.refl _ _
    · exact Go.Lib.bytesWorld_below w _ _
  · refine (Tryd.strconv_Atoi_syntax_var ⟨l.toArray⟩ (by rw [hs]; omega) h tp p w h2).mono ?_
    rintro r w' ⟨N, rfl, _, _, hb⟩
    exact ⟨_, _, rfl, .inr ⟨fun v e => (by cases e), _, _, rfl⟩, hb⟩
  case range =>
    refine (Tryd.strconv_Atoi_range_var ⟨l.toArray⟩ (by rw [hs]; omega) h tp2 p2 w h3).mono ?_
    rintro r w' ⟨N, rfl, _, _, hb⟩
    exact ⟨_, _, rfl, .inr ⟨fun v e => (by cases e), _, _, rfl⟩, hb⟩
theorem endRead_fail {l : List UInt8} (h : ∀ a p, Go.Lib.atoiAll (Go.Lib.cut l [58]).1 = .ok a → Go.Lib.atoiAll (Go.Lib.cut l [58]).2.1 = .ok p → anyB ⟨a, p⟩ = true → endText ⟨a, p⟩ ≠ l) : endRead l = none := by
  refine endRead_none (fun e he ht => ?_)
  obtain ⟨h1, h2, h3⟩ := parse_text e (anyB_mem he)
  rw [ht] at h1
  exact h e.addr e.port (by rw [h1]; exact h2) (by rw [h1]; exact h3) he ht
theorem cut_len (l : List UInt8) : (Go.Lib.cut l [58]).1.length ≤ l.length ∧ (Go.Lib.cut l [58]).2.1.length ≤ l.length := by
  unfold Go.Lib.cut
  split
  · simp only [List.length_take, List.length_drop]; omega
  · simp
theorem box_as (w : World) (o : Obj) : ∃ wb, wb = w.alloc o ∧ Below w.heap.size w wb ∧ wb.heap[w.heap.size]? = some o ∧ w.heap.size < wb.heap.size :=
  ⟨_, rfl, below_alloc (Below.refl _ _) _, heap_alloc_new w o, blk_lt (heap_alloc_new w o)⟩
set_option maxHeartbeats 2000000 in
theorem impl_EndRead (l : List UInt8) (hl : l.length ≤ 100000000) (w : World) (hv : VarsIn w) :
    Calls Tryd.prog 59 #[vS l] w fun r w' => r = .returned (vOpt (endRead l)) ∧ Below w.heap.size w w' := by
  have hF := Aside0.mk (@endRead_fail l)
  obtain ⟨cl1, cl2⟩ := cut_len l
  have bk := heap_alloc_new w (.cells #[.int .i64 0, .int .i64 0] 24)
  obtain ⟨⟨⟨m, hm⟩, _⟩, _⟩ := hv.next (below_alloc (Below.refl _ _) (.cells #[.int .i64 0, .int .i64 0] 24))
  have hcut := Aside0.mk (Tryd.strings_Cut ⟨l.toArray⟩ ⟨#[58]⟩ m (w.alloc (.cells #[.int .i64 0, .int .i64 0] 24)) (by show l.length < _; omega) hm)
  clear hm
  obtain ⟨x1, hx1⟩ : ∃ x, (Go.Lib.cut l [58]).1 = x := ⟨_, rfl⟩
  obtain ⟨x2, hx2⟩ : ∃ x, (Go.Lib.cut l [58]).2.1 = x := ⟨_, rfl⟩
  obtain ⟨x3, hx3⟩ : ∃ x, (Go.Lib.cut l [58]).2.2 = x := ⟨_, rfl⟩
  rw [hx1] at hF cl1
  rw [hx2] at hF cl2
  simp only [List.toList_toArray] at hcut
  rw [hx1, hx2, hx3] at hcut
  clear hx1 hx2 hx3
  have hb0 : Below w.heap.size w (w.alloc (.cells #[.int .i64 0, .int .i64 0] 24)) := below_alloc (Below.refl _ _) _
  go_enter Tryd.func59, Tryd.ntmps59
  go_wp2_with (go_at_call 58; refine hcut.out.mono ?_; rintro r w1 ⟨rfl, k, rfl⟩)
  have hbd := pw_below_drewN hb0 k
  refine (atoi x1 (by omega) _ (hv.below hbd hv.2)).mono ?_
  rintro r w2 ⟨a, ev1, rfl, hc1, hb2⟩
  replace bk := (hb2.block w.heap.size (by show w.heap.size < (w.alloc _).heap.size; simp)).trans bk
  have hz0 : w.heap.size < w2.heap.size := blk_lt bk
  replace hb2 : Below w.heap.size w w2 := below_step hbd hb2
  go_wp2_with fail; refine (atoi x2 (by omega) _ (hv.below hb2 hv.2)).mono ?_; rintro r w3 ⟨p, ev2, rfl, hc2, hb3⟩
  have hz3 := hb3.size
  replace bk := (hb3.block _ hz0).trans bk
  have hB3 : Below w.heap.size w w3 := below_step hb2 hb3
  go_upto_region 5 with fail
  obtain ⟨wb, hwb, hbb, bk2, hzb⟩ := box_as w3 (.cells #[.int .i64 a, .int .i64 p] 24)
  rw [← hwb]
  clear hwb
  replace bk := (hbb.block _ (by omega)).trans bk
  have hBb : Below w.heap.size w wb := below_step hB3 hbb
  have c0 : wb.cell? ⟨w.heap.size, 0, none⟩ = some (.int .i64 0) := (blk_cell bk 0).trans rfl
  have c1 : wb.cell? ⟨w.heap.size, 1, none⟩ = some (.int .i64 0) := (blk_cell bk 1).trans rfl
  have f0 := blk_frozen bk 0
  have f1 := blk_frozen bk 1
  have e0 : wb.cell? ⟨w3.heap.size, 0, none⟩ = some (.int .i64 a) := (blk_cell bk2 0).trans rfl
  have e1 : wb.cell? ⟨w3.heap.size, 1, none⟩ = some (.int .i64 p) := (blk_cell bk2 1).trans rfl
  rcases hc1 with ⟨h1, rfl⟩ | ⟨h1, t, pv, rfl⟩
  · rcases hc2 with ⟨h2, rfl⟩ | ⟨h2, t, pv, rfl⟩
    · go_wp2_with fail; refine (impl_any ⟨a, p⟩ _).mono ?_; rintro r w4 ⟨rfl, hb4⟩
      have hz4 := hb4.size
      replace bk := (hb4.block _ (by omega)).trans bk
      replace bk2 := (hb4.block _ hzb).trans bk2
      have hB4 : Below w.heap.size w w4 := below_step hBb hb4
      have c0 : w4.cell? ⟨w.heap.size, 0, none⟩ = some (.int .i64 0) := (blk_cell bk 0).trans rfl
      have c1 : w4.cell? ⟨w.heap.size, 1, none⟩ = some (.int .i64 0) := (blk_cell bk 1).trans rfl
      have f0 := blk_frozen bk 0
      have f1 := blk_frozen bk 1
      have e0 : w4.cell? ⟨w3.heap.size, 0, none⟩ = some (.int .i64 a) := (blk_cell bk2 0).trans rfl
      have e1 : w4.cell? ⟨w3.heap.size, 1, none⟩ = some (.int .i64 p) := (blk_cell bk2 1).trans rfl
      cases hany : anyB ⟨a, p⟩
      · have HN := Aside0.mk (hF.out (fun a' p' e1 e2 e3 => by
          rw [h1] at e1; rw [h2] at e2
          cases e1; cases e2
          rw [hany] at e3; cases e3))
        clear hF h1 h2 hany
        clear bk
        go_wp2
        refine bodyPost_ret (v := (vOpt none)) (by simp [results, Tryd.results59, go_sem, zEn, *]) rfl ⟨by rw [HN.out], ((hB4).setCell (Nat.le_refl _) _).setCell (Nat.le_refl _) _⟩
      · go_wp2_with fail; refine (impl_EndText ⟨a, p⟩ _).mono ?_; rintro r w5 ⟨rfl, hb5⟩
        have hz5 := hb5.size
        replace bk := (hb5.block _ (by omega)).trans bk
        replace bk2 := (hb5.block _ (by omega)).trans bk2
        have hB5 : Below w.heap.size w w5 := below_step hB4 hb5
        have c0 : w5.cell? ⟨w.heap.size, 0, none⟩ = some (.int .i64 0) := (blk_cell bk 0).trans rfl
        have c1 : w5.cell? ⟨w.heap.size, 1, none⟩ = some (.int .i64 0) := (blk_cell bk 1).trans rfl
        have f0 := blk_frozen bk 0
        have f1 := blk_frozen bk 1
        have e0 : w5.cell? ⟨w3.heap.size, 0, none⟩ = some (.int .i64 a) := (blk_cell bk2 0).trans rfl
        have e1 : w5.cell? ⟨w3.heap.size, 1, none⟩ = some (.int .i64 p) := (blk_cell bk2 1).trans rfl
        by_cases ht : endText ⟨a, p⟩ = l
        · have HN := Aside0.mk (show endRead l = some ⟨a, p⟩ from by rw [← ht]; exact endRead_of hany)
          have he : (endText ⟨a, p⟩ == l) = true := beq_iff_eq.2 ht
          clear bk bk2 hF ht
          go_wp2
          refine bodyPost_ret (v := (vOpt (some ⟨a, p⟩))) (by simp [results, Tryd.results59, go_sem, zEn, *]) rfl ⟨by rw [HN.out], ((hB5).setCell (Nat.le_refl _) _).setCell (Nat.le_refl _) _⟩
        · have HN := Aside0.mk (hF.out (fun a' p' e1 e2 e3 => by
            rw [h1] at e1; rw [h2] at e2
            cases e1; cases e2
            exact ht))
          have he : (endText ⟨a, p⟩ == l) = false := beq_eq_false_iff_ne.2 ht
          clear bk bk2 hF ht
          go_wp2
          refine bodyPost_ret (v := (vOpt none)) (by simp [results, Tryd.results59, go_sem, zEn, *]) rfl ⟨by rw [HN.out], ((hB5).setCell (Nat.le_refl _) _).setCell (Nat.le_refl _) _⟩
    · have HN := Aside0.mk (hF.out (fun a' p' e1 e2 e3 => absurd e2 (h2 _)))
      clear hF h1 h2
      clear bk
      go_wp2
      refine bodyPost_ret (v := (vOpt none)) (by simp [results, Tryd.results59, go_sem, zEn, *]) rfl ⟨by rw [HN.out], ((hBb).setCell (Nat.le_refl _) _).setCell (Nat.le_refl _) _⟩
  · have HN := Aside0.mk (hF.out (fun a' p' e1 e2 e3 => absurd e1 (h1 _)))
    clear hF h1
    clear bk
    go_wp2
    refine bodyPost_ret (v := (vOpt none)) (by simp [results, Tryd.results59, go_sem, zEn, *]) rfl ⟨by rw [HN.out], ((hBb).setCell (Nat.le_refl _) _).setCell (Nat.le_refl _) _⟩
end Go.Proofs.YtijompkonaiagaaDoor.Z
namespace Go.Proofs.YtijompkonaiagaaDoor.Z
open Go.RowKit
set_option linter.unusedVariables false
theorem wrap_laid {H : Type} {enc : TypeId × Value → H} {a : Assume} {C : Checked} {os : Os} {f : FuncId} {fn : Func} {s : ChangeSpec} {conds : List PathCond} {apart fresh handsOn again : Bool} {X : World → Array Value → Prop}
    (hX : ∀ (w w' : World) (args : Array Value), w.heap = w'.heap → X w args → X w' args)
    (own : ownKnob C.prog.godebug = none) (started : os.Started) (noInit : C.prog.inits.idxOf? f = none) (hfn : C.prog.funcs[f]? = some fn)
    (witness : ∃ (w : World) (tape : Tape) (i : Input), w.os = os ∧ (w.forCall tape i).Shaped C.prog ∧ i.vars = [] ∧ Input.okWide C.prog (w.forCall tape i) .any w.heap.size f i ∧
      ((s.pre enc C.prog fn conds apart (w.forCall tape i).memory i.args ∧ X (w.forCall tape i).memory i.args) ∧ sizedMet enc C.prog fn (OpenSpec.ofChange s) apart (w.forCall tape i).memory i.args) ∧ a.holds C.prog (lone (Frame.enter C.prog f i.args .normal) [] (w.forCall tape i)))
    (walk : ∀ (W : World) (base : Nat) (args : Array Value) (ds gs : List (DataW H)) (before : List MemPlace),
      (∀ (j : Nat) t v, fn.params[j]? = some t → args[j]? = some v → Value.okWide C.prog W .any base t v) →
      DataW.Whole enc C.prog fn.params.toList s.vars apart W args.toList ds gs before → X W args → W.ShapedOpen C.prog →
      Calls C.prog f args W fun e W' => ∃ v, e = .returned v ∧ s.post enc C.prog fn apart fresh handsOn again W args v W') :
    ReturnsInHanded a C os f .any (fun w args => (s.pre enc C.prog fn conds apart w args ∧ X w args) ∧ sizedMet enc C.prog fn (OpenSpec.ofChange s) apart w args) (s.post enc C.prog fn apart fresh handsOn again) := by
  refine returnsInHanded_of_calls own started noInit witness (fun w tape i _ shape _ ok pre _ => ?_)
  obtain ⟨_, _, _, fn', e, _, _, _, _, val⟩ := ok
  obtain rfl : fn' = fn := Option.some.inj (e.symm.trans hfn)
  obtain ⟨⟨⟨ds, gs, before, whole, _⟩, x⟩, _⟩ := pre
  refine (walk (w.forCall tape i) w.heap.size i.args ds gs before val (DataW.Whole.of_heap (w' := w.forCall tape i) (by rfl) whole) (hX _ _ _ (by rfl) x) shape).mono ?_
  rintro e W' ⟨v, rfl, post⟩
  exact ChangeSpec.post_blind post
abbrev laidL : List (String × DataW Unit) := [("math/bits.deBruijn32tab", Rows.laid_math_bits_deBruijn32tab), ("math/bits.deBruijn64tab", Rows.laid_math_bits_deBruijn64tab), ("internal/strconv.uint64pow10", Rows.laid_internal_strconv_uint64pow10), ("strconv.ErrRange", Rows.laid_strconv_ErrRange), ("strconv.ErrSyntax", Rows.laid_strconv_ErrSyntax)]
theorem tRange : (Tryd.prog.globals[2]?).map (·.type) = some 77 := by kernel_rfl
theorem tSyntax : (Tryd.prog.globals[1]?).map (·.type) = some 77 := by kernel_rfl
theorem err_of {W : World} {n : String} {g0 g : Nat} {t : TypeId} {cs : Array Value} {fu : Nat} {name : String} {d : DataW Unit} {p : List MemPlace} {enc : TypeId × Value → Unit} (e0 : Tryd.prog.globalNamed n = some g0) (t0 : (Tryd.prog.globals[g0]?).map (·.type) = some 77)
    (hg : Tryd.prog.globalNamed n = some g) (ht : (Tryd.prog.globals[g]?).map (·.type) = some t) (hv : W.var? Tryd.prog n = some cs) {sp : Nat → Bool} (hd : DataW.trod enc Tryd.prog W 0 sp false fu t cs.toList = some (.iface name d, p)) :
    (∃ tp q, W.var? Tryd.prog n = some #[.iface tp q]) ∧ g0 < W.heap.size := by
  obtain rfl := Option.some.inj (e0.symm.trans hg)
  obtain rfl := Option.some.inj (t0.symm.trans ht)
  obtain ⟨l⟩ := cs
  obtain ⟨_, u, v, e, _, _⟩ := iface_of_trod Tryd.underlying77 hd
  have e1 : l = [.iface u v] := e
  subst e1
  refine ⟨⟨u, v, hv⟩, ?_⟩
  have h1 := World.var?_cell hg hv 0
  exact World.block_lt_of_cell? W ⟨g0, 0, none⟩ (h1.trans rfl)
theorem vars_of {W : World} (h : laidMetH Tryd.prog laidL W) (hs : W.ShapedOpen Tryd.prog) : VarsIn W := by
  rw [MakeChecks.laidMetH_plain _ _ _ (by kernel_rfl)] at h
  obtain ⟨ps, ⟨g0, t0, cs0, f0, p0, q0, hg0, ht0, hv0, hd0, ⟨g1, t1, cs1, f1, p1, q1, hg1, ht1, hv1, hd1, ⟨g2, t2, cs2, f2, p2, q2, hg2, ht2, hv2, hd2, ⟨g3, t3, cs3, f3, p3, q3, hg3, ht3, hv3, hd3, ⟨g4, t4, cs4, f4, p4, q4, hg4, ht4, hv4, hd4, _, _⟩, _⟩, _⟩, _⟩, _⟩, _, _⟩ := h
  obtain ⟨r1, r2⟩ := err_of gRange tRange hg3 ht3 hv3 hd3
  obtain ⟨s1, s2⟩ := err_of gSyntax tSyntax hg4 ht4 hv4 hd4
  obtain ⟨m, hm⟩ := cell_of_shapedOpen_int (P := Tryd.prog) (g := 0) (t := 3) (zero := #[.int .i64 0]) hs (of_decide_eq_true (by kernel_rfl)) (by kernel_rfl) rfl (by kernel_rfl) (by kernel_rfl) Tryd.underlying3
  have h3 : 0 < W.heap.size := World.block_lt_of_cell? W ⟨0, 0, none⟩ hm
  exact ⟨⟨⟨m, hm⟩, s1, r1⟩, by unfold gTop; omega⟩
theorem laid_met (os : Os) (args : Array Value) : laidMetH Tryd.prog laidL ((World.laidAll Tryd.prog os laidL).forCall (fun _ _ => 0) ⟨#[], args, []⟩).memory := by
  rw [MakeChecks.laidMetH_plain _ _ _ (by kernel_rfl)]
  exact laidMet_laidAll _ (by kernel_rfl) (by kernel_rfl)
end Go.Proofs.YtijompkonaiagaaDoor.Z
namespace Go.Proofs.YtijompkonaiagaaDoor.Q
open Go.RowKit Go.Proofs.YtijompkonaiagaaDoorW.PrintWords Go.Proofs.YtijompkonaiagaaDoorW.PrintLast Go.Proofs.YtijompkonaiagaaDoorW.PrintMore
attribute [local go_sem] max2_int min2_int max_two min_two max_three min_three max_four min_four
set_option linter.unusedVariables false
set_option linter.unusedSimpArgs false
noncomputable section
def errW : Option Int → Value
  | none => .nilIface
  | some c => .iface 0 (.int .i64 c)
theorem errW_none : errW none = .nilIface := rfl
theorem errW_some (c : Int) : errW (some c) = .iface 0 (.int .i64 c) := rfl
theorem info5 : (Tryd.prog.info? 5).map (fun i => (i.zero, i.size, i.bytes)) = some (some (.int .u8 0), 1, 1) := by kernel_rfl
theorem info24 : (Tryd.prog.info? 24).map (fun i => (i.zero, i.size, i.bytes)) = some (some (.agg #[(.int .i64 0), (.int .i64 0)]), 2, 16) := by kernel_rfl
theorem info28 : (Tryd.prog.info? 28).map (fun i => (i.zero, i.size, i.bytes)) = some (some (.agg #[(.int .i64 0), (.int .i64 0), (.int .i64 0), (.int .i64 0), (.string ⟨#[]⟩), (.string ⟨#[]⟩), (.int .i64 0), (.int .i64 0), (.string ⟨#[]⟩), (.string ⟨#[]⟩)]), 10, 112) := by kernel_rfl
theorem info56 : (Tryd.prog.info? 56).map (fun i => (i.zero, i.size, i.bytes)) = some (some (.agg #[(.int .i64 0), (.bool false), (.int .i64 0), (.int .i64 0)]), 4, 32) := by kernel_rfl
structure S24 where
  f0 : Int
  f1 : Int
def z24 : S24 := ⟨(0 : Int), (0 : Int)⟩
def k24 : Kd S24 := Kd.iso (Kd.pair (Kd.int .i64) (Kd.int .i64)) (fun x : S24 => (x.f0, x.f1))
theorem k24_open {w : World} {x : S24} {cs : List Value} (h : k24.K w x cs) : cs = [.int .i64 x.f0, .int .i64 x.f1] := by
  obtain ⟨_, _, rfl, rfl, rfl⟩ := h
  exact rfl
theorem k24_mkM (w : World) (base : Nat) (ok : Nat → Prop) (x : S24)  : k24.M w base ok x [.int .i64 x.f0, .int .i64 x.f1] := ⟨[.int .i64 x.f0], [.int .i64 x.f1], rfl, rfl, rfl⟩
def rd_T24 (xs : List S24) (i : Int) : S24 := xs.getD i.toNat z24
theorem at_T24 {w : World} {A : Option Addr} {n : Nat} {xs : List S24} (h : Kd.C k24 w A n xs) (i : Int) (h0 : 0 ≤ i) (h1 : i < n) : ∃ ad , A = some ad ∧ w.cell? (ad.add (i.toNat * 2)) = some (.int .i64 (rd_T24 xs i).f0) ∧ w.cell? ⟨(ad.add (i.toNat * 2)).block, (ad.add (i.toNat * 2)).off + 1, none⟩ = some (.int .i64 (rd_T24 xs i).f1) := by
  obtain ⟨ad, c, e, _, hK, hc0⟩ := Kd.C_get h z24 i h0 h1
  have hc : ∀ j u, c[j]? = some u → w.cell? (ad.add (i.toNat * 2 + j)) = some u := hc0
  obtain rfl := k24_open hK
  exact ⟨ad, e, hc 0 _ rfl, by rw [← add_field _ _ 1 (by omega)]; exact hc 1 _ rfl⟩
structure S28 where
  f0 : S24
  f1 : S24
  f2 : ByteArray
  f3 : ByteArray
  f4 : Int
  f5 : Int
  f6 : ByteArray
  f7 : ByteArray
def z28 : S28 := ⟨z24, z24, (⟨#[]⟩ : ByteArray), (⟨#[]⟩ : ByteArray), (0 : Int), (0 : Int), (⟨#[]⟩ : ByteArray), (⟨#[]⟩ : ByteArray)⟩
def k28 : Kd S28 := Kd.iso (Kd.pair k24 (Kd.pair k24 (Kd.pair Kd.string (Kd.pair Kd.string (Kd.pair (Kd.int .i64) (Kd.pair (Kd.int .i64) (Kd.pair Kd.string Kd.string))))))) (fun x : S28 => (x.f0, x.f1, x.f2, x.f3, x.f4, x.f5, x.f6, x.f7))
theorem k28_open {w : World} {x : S28} {cs : List Value} (h : k28.K w x cs) : cs = [.int .i64 x.f0.f0, .int .i64 x.f0.f1, .int .i64 x.f1.f0, .int .i64 x.f1.f1, .string x.f2, .string x.f3, .int .i64 x.f4, .int .i64 x.f5, .string x.f6, .string x.f7] := by
  obtain ⟨_, _, rfl, s0, ⟨_, _, rfl, s2, ⟨_, _, rfl, rfl, ⟨_, _, rfl, rfl, ⟨_, _, rfl, rfl, ⟨_, _, rfl, rfl, ⟨_, _, rfl, rfl, rfl⟩⟩⟩⟩⟩⟩⟩ := h
  obtain rfl := k24_open s0
  obtain rfl := k24_open s2
  exact rfl
theorem k28_mkM (w : World) (base : Nat) (ok : Nat → Prop) (x : S28)  : k28.M w base ok x [.int .i64 x.f0.f0, .int .i64 x.f0.f1, .int .i64 x.f1.f0, .int .i64 x.f1.f1, .string x.f2, .string x.f3, .int .i64 x.f4, .int .i64 x.f5, .string x.f6, .string x.f7] := ⟨[.int .i64 x.f0.f0, .int .i64 x.f0.f1], [.int .i64 x.f1.f0, .int .i64 x.f1.f1, .string x.f2, .string x.f3, .int .i64 x.f4, .int .i64 x.f5, .string x.f6, .string x.f7], rfl, (k24_mkM w base ok x.f0 ), ⟨[.int .i64 x.f1.f0, .int .i64 x.f1.f1], [.string x.f2, .string x.f3, .int .i64 x.f4, .int .i64 x.f5, .string x.f6, .string x.f7], rfl, (k24_mkM w base ok x.f1 ), ⟨[.string x.f2], [.string x.f3, .int .i64 x.f4, .int .i64 x.f5, .string x.f6, .string x.f7], rfl, rfl, ⟨[.string x.f3], [.int .i64 x.f4, .int .i64 x.f5, .string x.f6, .string x.f7], rfl, rfl, ⟨[.int .i64 x.f4], [.int .i64 x.f5, .string x.f6, .string x.f7], rfl, rfl, ⟨[.int .i64 x.f5], [.string x.f6, .string x.f7], rfl, rfl, ⟨[.string x.f6], [.string x.f7], rfl, rfl, rfl⟩⟩⟩⟩⟩⟩⟩
def rd_T28 (xs : List S28) (i : Int) : S28 := xs.getD i.toNat z28
theorem at_T28 {w : World} {A : Option Addr} {n : Nat} {xs : List S28} (h : Kd.C k28 w A n xs) (i : Int) (h0 : 0 ≤ i) (h1 : i < n) : ∃ ad , A = some ad ∧ w.cell? (ad.add (i.toNat * 10)) = some (.int .i64 (rd_T28 xs i).f0.f0) ∧ w.cell? ⟨(ad.add (i.toNat * 10)).block, (ad.add (i.toNat * 10)).off + 1, none⟩ = some (.int .i64 (rd_T28 xs i).f0.f1) ∧ w.cell? ⟨(ad.add (i.toNat * 10)).block, (ad.add (i.toNat * 10)).off + 2, none⟩ = some (.int .i64 (rd_T28 xs i).f1.f0) ∧ w.cell? ⟨(ad.add (i.toNat * 10)).block, (ad.add (i.toNat * 10)).off + 3, none⟩ = some (.int .i64 (rd_T28 xs i).f1.f1) ∧ w.cell? ⟨(ad.add (i.toNat * 10)).block, (ad.add (i.toNat * 10)).off + 4, none⟩ = some (.string (rd_T28 xs i).f2) ∧ w.cell? ⟨(ad.add (i.toNat * 10)).block, (ad.add (i.toNat * 10)).off + 5, none⟩ = some (.string (rd_T28 xs i).f3) ∧ w.cell? ⟨(ad.add (i.toNat * 10)).block, (ad.add (i.toNat * 10)).off + 6, none⟩ = some (.int .i64 (rd_T28 xs i).f4) ∧ w.cell? ⟨(ad.add (i.toNat * 10)).block, (ad.add (i.toNat * 10)).off + 7, none⟩ = some (.int .i64 (rd_T28 xs i).f5) ∧ w.cell? ⟨(ad.add (i.toNat * 10)).block, (ad.add (i.toNat * 10)).off + 8, none⟩ = some (.string (rd_T28 xs i).f6) ∧ w.cell? ⟨(ad.add (i.toNat * 10)).block, (ad.add (i.toNat * 10)).off + 9, none⟩ = some (.string (rd_T28 xs i).f7) := by
  obtain ⟨ad, c, e, _, hK, hc0⟩ := Kd.C_get h z28 i h0 h1
  have hc : ∀ j u, c[j]? = some u → w.cell? (ad.add (i.toNat * 10 + j)) = some u := hc0
  obtain rfl := k28_open hK
  exact ⟨ad, e, hc 0 _ rfl, by rw [← add_field _ _ 1 (by omega)]; exact hc 1 _ rfl, by rw [← add_field _ _ 2 (by omega)]; exact hc 2 _ rfl, by rw [← add_field _ _ 3 (by omega)]; exact hc 3 _ rfl, by rw [← add_field _ _ 4 (by omega)]; exact hc 4 _ rfl, by rw [← add_field _ _ 5 (by omega)]; exact hc 5 _ rfl, by rw [← add_field _ _ 6 (by omega)]; exact hc 6 _ rfl, by rw [← add_field _ _ 7 (by omega)]; exact hc 7 _ rfl, by rw [← add_field _ _ 8 (by omega)]; exact hc 8 _ rfl, by rw [← add_field _ _ 9 (by omega)]; exact hc 9 _ rfl⟩
structure S56 where
  f0 : Int
  f1 : Bool
  f2 : S24
def z56 : S56 := ⟨(0 : Int), false, z24⟩
def k56 : Kd S56 := Kd.iso (Kd.pair (Kd.int .i64) (Kd.pair Kd.bool k24)) (fun x : S56 => (x.f0, x.f1, x.f2))
theorem k56_open {w : World} {x : S56} {cs : List Value} (h : k56.K w x cs) : cs = [.int .i64 x.f0, .bool x.f1, .int .i64 x.f2.f0, .int .i64 x.f2.f1] := by
  obtain ⟨_, _, rfl, rfl, ⟨_, _, rfl, rfl, s2⟩⟩ := h
  obtain rfl := k24_open s2
  exact rfl
theorem k56_mkM (w : World) (base : Nat) (ok : Nat → Prop) (x : S56)  : k56.M w base ok x [.int .i64 x.f0, .bool x.f1, .int .i64 x.f2.f0, .int .i64 x.f2.f1] := ⟨[.int .i64 x.f0], [.bool x.f1, .int .i64 x.f2.f0, .int .i64 x.f2.f1], rfl, rfl, ⟨[.bool x.f1], [.int .i64 x.f2.f0, .int .i64 x.f2.f1], rfl, rfl, (k24_mkM w base ok x.f2 )⟩⟩
def rd_T56 (xs : List S56) (i : Int) : S56 := xs.getD i.toNat z56
theorem at_T56 {w : World} {A : Option Addr} {n : Nat} {xs : List S56} (h : Kd.C k56 w A n xs) (i : Int) (h0 : 0 ≤ i) (h1 : i < n) : ∃ ad , A = some ad ∧ w.cell? (ad.add (i.toNat * 4)) = some (.int .i64 (rd_T56 xs i).f0) ∧ w.cell? ⟨(ad.add (i.toNat * 4)).block, (ad.add (i.toNat * 4)).off + 1, none⟩ = some (.bool (rd_T56 xs i).f1) ∧ w.cell? ⟨(ad.add (i.toNat * 4)).block, (ad.add (i.toNat * 4)).off + 2, none⟩ = some (.int .i64 (rd_T56 xs i).f2.f0) ∧ w.cell? ⟨(ad.add (i.toNat * 4)).block, (ad.add (i.toNat * 4)).off + 3, none⟩ = some (.int .i64 (rd_T56 xs i).f2.f1) := by
  obtain ⟨ad, c, e, _, hK, hc0⟩ := Kd.C_get h z56 i h0 h1
  have hc : ∀ j u, c[j]? = some u → w.cell? (ad.add (i.toNat * 4 + j)) = some u := hc0
  obtain rfl := k56_open hK
  exact ⟨ad, e, hc 0 _ rfl, by rw [← add_field _ _ 1 (by omega)]; exact hc 1 _ rfl, by rw [← add_field _ _ 2 (by omega)]; exact hc 2 _ rfl, by rw [← add_field _ _ 3 (by omega)]; exact hc 3 _ rfl⟩
end
end Go.Proofs.YtijompkonaiagaaDoor.Q
namespace Go.Proofs.YtijompkonaiagaaDoor.Q
open Go.RowKit Go.Proofs.YtijompkonaiagaaDoorW.PrintWords Go.Proofs.YtijompkonaiagaaDoor.Z
set_option linter.unusedVariables false
set_option linter.unusedSimpArgs false
def spec_EndText.f (a0_0 : Int) (a0_1 : Int) : Option ByteArray := some ⟨(endText ⟨a0_0, a0_1⟩).toArray⟩
theorem spec_EndText.calls (a0_0 : Int) (a0_1 : Int) (r : ByteArray) (w : World) (h : spec_EndText.f a0_0 a0_1 = some r) :
    Calls Tryd.prog 40 #[.agg #[.int .i64 a0_0, .int .i64 a0_1]] w fun e w' => e = .returned (.string r) ∧ Below w.heap.size w w' := by
  obtain rfl := Option.some.inj h
  exact spec_EndText ⟨a0_0, a0_1⟩ w
end Go.Proofs.YtijompkonaiagaaDoor.Q
namespace Go.Proofs.YtijompkonaiagaaDoor.Z
open Go.RowKit Go.Proofs.YtijompkonaiagaaDoorW.PrintWords Go.Proofs.YtijompkonaiagaaDoorW.PrintLast
set_option linter.unusedVariables false
set_option linter.unusedSimpArgs false
attribute [local go_sem ↓] Go.wp_at_zero Go.wp_at_succ
attribute [local go_sem high] bytes_append
theorem spec_l1Digit (b : UInt8) (w : World) : Calls Tryd.prog 48 #[.int .u8 (b.toNat : Int)] w fun r w' => r = .returned (.int .i64 (digI b)) ∧ w' = w := by
  have hb := b.toNat_lt
  obtain ⟨n, hn⟩ : ∃ n, b.toNat = n := ⟨_, rfl⟩
  have e : digI b = if n < 48 ∨ 57 < n then -1 else (n : Int) - 48 := by unfold digI; rw [hn]
  rw [hn] at hb ⊢
  by_cases h : n < 48 ∨ 57 < n
  · rw [if_pos h] at e
    have E := Aside0.mk e; clear e
    rcases h with h | h
    · have t1 : decide ((n : Int) < 48) = true := decide_eq_true (by omega)
      go_enter Tryd.func48, Tryd.ntmps48
      go_wp2
      go_ret
      exact ⟨by rw [E.out]; rfl, rfl⟩
    · have t1 : decide ((n : Int) < 48) = false := decide_eq_false (by omega)
      have t2 : decide ((n : Int) > 57) = true := decide_eq_true (by omega)
      have t3 : decide ((57 : Int) < (n : Int)) = true := decide_eq_true (by omega)
      go_enter Tryd.func48, Tryd.ntmps48
      go_wp2
      go_ret
      exact ⟨by rw [E.out]; rfl, rfl⟩
  · rw [if_neg h] at e
    have E := Aside0.mk e; clear e
    have t1 : decide ((n : Int) < 48) = false := decide_eq_false (by omega)
    have t2 : decide ((n : Int) > 57) = false := decide_eq_false (by omega)
    have t3 : decide ((57 : Int) < (n : Int)) = false := decide_eq_false (by omega)
    go_enter Tryd.func48, Tryd.ntmps48
    go_wp2
    go_ret
    exact ⟨by rw [E.out]; rfl, rfl⟩
theorem digI_range (b : UInt8) : -1 ≤ digI b ∧ digI b ≤ 9 := by unfold digI; split <;> omega
theorem text_len34 : ∀ e ∈ allEnds, (endText e).length = 3 ∨ (endText e).length = 4 := by decide +kernel
theorem endRead_len {l : List UInt8} (h : ¬ (3 ≤ l.length ∧ l.length ≤ 4)) : endRead l = none := by
  refine endRead_none (fun e he ht => ?_)
  have := text_len34 e (anyB_mem he)
  rw [ht] at this
  omega
theorem endRead_yes {l : List UInt8} (hl : l ≠ []) (h : endText (readE l) = l) : endRead l = some (readE l) := by
  have ha : anyB (readE l) = true := by
    cases h2 : anyB (readE l) with
    | true => rfl
    | false =>
      have h0 : endText (readE l) = [] := by unfold endText; rw [h2]; rfl
      exact absurd (h.symm.trans h0) hl
  unfold endRead
  rw [ha, h]
  simp
theorem endRead_no {l : List UInt8} (h : endText (readE l) ≠ l) : endRead l = none := by
  unfold endRead
  rw [decide_eq_false h, Bool.and_false]
  rfl
set_option maxRecDepth 100000 in
set_option maxHeartbeats 2000000 in
theorem spec_EndRead (l : List UInt8) (hl : l.length ≤ 100000000) (w : World) :
    Calls Tryd.prog 56 #[vS l] w fun r w' => r = .returned (vOpt (endRead l)) ∧ Below w.heap.size w w' := by
  by_cases h : 3 ≤ l.length ∧ l.length ≤ 4
  · have hin : inB (l.length : Int) 3 4 = true := by unfold inB; simp; omega
    have H := Aside0.mk hin; clear hin
    obtain ⟨b0, l1, hb0⟩ : ∃ b t, l = b :: t := by
      cases l with
      | nil => simp at h
      | cons b t => exact ⟨b, t, rfl⟩
    have HB := Aside0.mk hb0; clear hb0
    obtain ⟨h3, h4⟩ := h
    go_enter Tryd.func56, Tryd.ntmps56
    go_wp2_with (go_at_call 28; refine (spec_l6In _ _ _ _).mono ?_; rintro r w1 ⟨rfl, rfl⟩; rw [H.out])
    obtain ⟨wa, hwa, hba, bk, hza⟩ := box_as w (.cells #[.int .i64 0, .int .i64 0] 24)
    rw [← hwa]
    clear hwa
    go_upto_region 5 with (go_at_call 48; refine (spec_l1Digit _ _).mono ?_; rintro r w2 ⟨rfl, rfl⟩)
    obtain ⟨d0, hd0⟩ : ∃ d, digI (⟨l.toArray⟩ : ByteArray)[0] = d := ⟨_, rfl⟩
    rw [hd0]
    obtain ⟨wb, hwb, hbb, bk2, hzb⟩ := box_as w2 (.cells #[.int .i64 d0, .int .i64 0] 24)
    rw [← hwb]
    clear hwb
    replace bk := (hbb.block _ hza).trans bk
    have hB : Below w.heap.size w wb := below_step hba hbb
    have HD := Aside0.mk hd0; clear hd0
    go_wp2
    go_loopw [6] (fun i w' => ∃ (k : Nat) (P : Int), k ≤ l.length ∧ i = .int .i64 k ∧ ((k = 2 ∧ P = 0) ∨ (k = 3 ∧ -1 ≤ P ∧ P ≤ 9) ∨ (k = 4 ∧ -11 ≤ P ∧ P ≤ 99)) ∧ Aside0 (((l.take k).drop 2).foldl (fun n b => 10 * n + digI b) 0 = P) ∧ Aside0 (w'.heap[w2.heap.size]? = some (.cells #[.int .i64 d0, .int .i64 P] 24 (0, 0))) ∧ Below w2.heap.size wb w') (fun i _ => l.length - (intOf i).toNat)
    case atStart => exact ⟨2, 0, by omega, rfl, .inl ⟨rfl, rfl⟩, ⟨by simp⟩, ⟨bk2⟩, Below.refl _ _⟩
    case round =>
      obtain ⟨k, P, hk, rfl, hP, HF, HX, hb⟩ := hrel
      have hz := blk_lt HX.out
      have c0 : wr.cell? ⟨w2.heap.size, 0, none⟩ = some (.int .i64 d0) := (blk_cell HX.out 0).trans rfl
      have c1 : wr.cell? ⟨w2.heap.size, 1, none⟩ = some (.int .i64 P) := (blk_cell HX.out 1).trans rfl
      have f0 := blk_frozen HX.out 0
      have f1 := blk_frozen HX.out 1
      by_cases hlt : k < l.length
      · have hk0 : (0 : Int) ≤ (k : Int) := by omega
        have hk1 : (k : Int) < (l.length : Int) := by omega
        have v1 : IntKind.i64.wrap (10 * P) = 10 * P := IntWalk.i64_in _ (by omega)
        go_wp2
        obtain ⟨dk, hdk⟩ : ∃ d, digI ((⟨l.toArray⟩ : ByteArray)[k]'hlt) = d := ⟨_, rfl⟩
        have hdr := digI_range ((⟨l.toArray⟩ : ByteArray)[k]'hlt)
        rw [hdk] at hdr
        have v2 : IntKind.i64.wrap (10 * P + dk) = 10 * P + dk := IntWalk.i64_in _ (by omega)
        have HS := Aside0.mk (show ((l.take (k + 1)).drop 2).foldl (fun n b => 10 * n + digI b) 0 = 10 * P + dk from by
          rw [List.take_add_one, List.getElem?_eq_getElem hlt, List.drop_append_of_le_length (by rw [List.length_take]; omega)]
          simp only [Option.toList, List.foldl_append, List.foldl_cons, List.foldl_nil, HF.out]
          rw [← hdk]; rfl)
        have HK := Aside0.mk hdk; clear hdk
        refine lin_start (fun _ => True) (true, [([], []), ([0], [0]), ([1], [1]), ([], []), ([], []), ([3, 4], [3, 4]), ([5], [5]), ([2, 6], [2, 6]), ([0, 1, 2, 3, 4, 5, 6, 7], []), ([8, 7, 6, 0, 1, 2, 3, 4, 5, 6, 7], [7, 8])]) [0, 3, 4, 5, 1, 2, 6, 7, 8, 9] (by kernel_rfl) (by kernel_rfl) (by kernel_rfl) trivial ?_
        repeat (first | (refine lin_take rfl rfl (by kernel_rfl) (fun _ _ _ h => h) (by rfl) (v := ?_) (a' := ?_) ?_ ?_ ?_; rotate_left 2; (intro w' _; go_simp; with_reducible rfl); (simp only [List.getElem_toArray, List.getElem_cons_zero, List.getElem_cons_succ, Act.put, List.setIfInBounds_toArray, List.set_cons_zero, List.set_cons_succ]; rfl)) | (refine lin_off rfl rfl (by kernel_rfl) (fun _ _ _ h => h) (by rfl) (a' := ?_) ?_ ?_; rotate_left 1; (simp only [List.getElem_toArray, List.getElem_cons_zero, List.getElem_cons_succ, Act.put, List.setIfInBounds_toArray, List.set_cons_zero, List.set_cons_succ]; rfl)))
        refine lin_two (j := 6) (rest' := [1, 2, 7, 8, 9]) rfl rfl rfl rfl (by kernel_rfl) rfl ?_ ?_
        · intro _ K hK
          refine step_value (v := .int .i64 P) (w1 := wr.drew) (by rfl) rfl ?_ ?_
          · go_simp
          refine hK.out _ _ trivial ?_
          clear hK
          refine lin_norm (a' := ?_) ?_ ?_; rotate_left 1; (simp only [List.getElem_toArray, List.getElem_cons_zero, List.getElem_cons_succ, Act.put, List.setIfInBounds_toArray, List.set_cons_zero, List.set_cons_succ]; rfl)
          repeat (first | (refine lin_take rfl rfl (by kernel_rfl) (fun _ _ _ h => h) (by rfl) (v := ?_) (a' := ?_) ?_ ?_ ?_; rotate_left 2; (intro w' _; go_simp; with_reducible rfl); (simp only [List.getElem_toArray, List.getElem_cons_zero, List.getElem_cons_succ, Act.put, List.setIfInBounds_toArray, List.set_cons_zero, List.set_cons_succ]; rfl)) | (refine lin_off rfl rfl (by kernel_rfl) (fun _ _ _ h => h) (by rfl) (a' := ?_) ?_ ?_; rotate_left 1; (simp only [List.getElem_toArray, List.getElem_cons_zero, List.getElem_cons_succ, Act.put, List.setIfInBounds_toArray, List.set_cons_zero, List.set_cons_succ]; rfl)))
          refine lin_call rfl rfl rfl Tryd.func48 (by kernel_rfl) (by kernel_rfl) rfl (by rfl) (args := #[.int .u8 (((⟨l.toArray⟩ : ByteArray)[k]'hlt).toNat : Int)]) (by (try simp only [List.map_toArray, List.map_cons, List.map_nil]); first | done | rfl) (fun hS => ?_)
          refine (spec_l1Digit _ _).mono ?_
          rintro r w4 ⟨rfl, rfl⟩
          refine ⟨_, rfl, trivial, ?_⟩
          rw [HK.out]
          refine lin_norm (a' := ?_) ?_ ?_; rotate_left 1; (simp only [List.getElem_toArray, List.getElem_cons_zero, List.getElem_cons_succ, Act.put, List.setIfInBounds_toArray, List.set_cons_zero, List.set_cons_succ]; rfl)
          repeat (first | (refine lin_take rfl rfl (by kernel_rfl) (fun _ _ _ h => h) (by rfl) (v := ?_) (a' := ?_) ?_ ?_ ?_; rotate_left 2; (intro w' _; go_simp; with_reducible rfl); (simp only [List.getElem_toArray, List.getElem_cons_zero, List.getElem_cons_succ, Act.put, List.setIfInBounds_toArray, List.set_cons_zero, List.set_cons_succ]; rfl)) | (refine lin_off rfl rfl (by kernel_rfl) (fun _ _ _ h => h) (by rfl) (a' := ?_) ?_ ?_; rotate_left 1; (simp only [List.getElem_toArray, List.getElem_cons_zero, List.getElem_cons_succ, Act.put, List.setIfInBounds_toArray, List.set_cons_zero, List.set_cons_succ]; rfl)))
          refine lin_skip (w1 := (wr.setCell ⟨w2.heap.size, 1, none⟩ (.int .i64 (10 * P + dk))).drew) rfl rfl (by kernel_rfl) (by rfl) (fun _ => ?_) (fun _ => trivial) ?_
          · go_simp
          refine lin_done (by kernel_rfl) ?_
          go_wp2
          go_roundw
          case rel => exact ⟨k + 1, 10 * P + dk, by omega, by go_num, by omega, HS, ⟨by have h1 := blk_set HX.out 1 (.int .i64 (10 * P + dk)); simp at h1; exact h1⟩, below_drew (hb.setCell (Nat.le_refl _) _)⟩
          case measure => simp [intOf]; omega
        · intro _ K hK
          refine step_call (by rfl) rfl rfl Tryd.func48 (by kernel_rfl) (by kernel_rfl) (args := #[.int .u8 (((⟨l.toArray⟩ : ByteArray)[k]'hlt).toNat : Int)]) (by (try simp only [List.map_toArray, List.map_cons, List.map_nil]); first | done | rfl) ?_
          refine (spec_l1Digit _ _).mono ?_
          rintro r w4 ⟨rfl, rfl⟩
          refine ⟨_, rfl, hK.out _ _ trivial ?_⟩
          clear hK
          rw [HK.out]
          refine lin_norm (a' := ?_) ?_ ?_; rotate_left 1; (simp only [List.getElem_toArray, List.getElem_cons_zero, List.getElem_cons_succ, Act.put, List.setIfInBounds_toArray, List.set_cons_zero, List.set_cons_succ]; rfl)
          refine lin_event (v := .int .i64 P) (w1 := wr.drew) (a' := ?_) rfl rfl (by kernel_rfl) (by rfl) (fun hS => ?_) (fun hS => trivial) ?_ ?_; rotate_left 1; (focus (go_simp)); (focus (first | (simp only [List.getElem_toArray, List.getElem_cons_zero, List.getElem_cons_succ, Act.put, List.setIfInBounds_toArray, List.set_cons_zero, List.set_cons_succ]; done) | (simp only [List.getElem_toArray, List.getElem_cons_zero, List.getElem_cons_succ, Act.put, List.setIfInBounds_toArray, List.set_cons_zero, List.set_cons_succ]; rfl)))
          repeat (first | (refine lin_take rfl rfl (by kernel_rfl) (fun _ _ _ h => h) (by rfl) (v := ?_) (a' := ?_) ?_ ?_ ?_; rotate_left 2; (intro w' _; go_simp; with_reducible rfl); (simp only [List.getElem_toArray, List.getElem_cons_zero, List.getElem_cons_succ, Act.put, List.setIfInBounds_toArray, List.set_cons_zero, List.set_cons_succ]; rfl)) | (refine lin_off rfl rfl (by kernel_rfl) (fun _ _ _ h => h) (by rfl) (a' := ?_) ?_ ?_; rotate_left 1; (simp only [List.getElem_toArray, List.getElem_cons_zero, List.getElem_cons_succ, Act.put, List.setIfInBounds_toArray, List.set_cons_zero, List.set_cons_succ]; rfl)))
          refine lin_skip (w1 := (wr.setCell ⟨w2.heap.size, 1, none⟩ (.int .i64 (10 * P + dk))).drew) rfl rfl (by kernel_rfl) (by rfl) (fun _ => ?_) (fun _ => trivial) ?_
          · go_simp
          refine lin_done (by kernel_rfl) ?_
          go_wp2
          go_roundw
          case rel => exact ⟨k + 1, 10 * P + dk, by omega, by go_num, by omega, HS, ⟨by have h1 := blk_set HX.out 1 (.int .i64 (10 * P + dk)); simp at h1; exact h1⟩, below_drew (hb.setCell (Nat.le_refl _) _)⟩
          case measure => simp [intOf]; omega
      · obtain rfl : k = l.length := by omega
        have hE : readE l = ⟨d0, P⟩ := by
          unfold readE
          have h5 := HF.out
          rw [List.take_length] at h5
          rw [h5]
          congr 1
          rw [← HD.out]
          have : l.getD 0 0 = l[0]'(by omega) := by rw [List.getD_eq_getElem?_getD, List.getElem?_eq_getElem (by omega)]; rfl
          rw [this]; rfl
        replace bk := (hb.block w.heap.size hza).trans bk
        have x0 : wr.cell? ⟨w.heap.size, 0, none⟩ = some (.int .i64 0) := (blk_cell bk 0).trans rfl
        have x1 : wr.cell? ⟨w.heap.size, 1, none⟩ = some (.int .i64 0) := (blk_cell bk 1).trans rfl
        have hBr : Below w.heap.size w wr := hB.trans (hb.mono (Nat.le_of_lt hza))
        go_wp2_with fail; refine (spec_EndText ⟨d0, P⟩ _).mono ?_; rintro r w4 ⟨rfl, hb4⟩
        have hz4 := hb4.size
        replace bk := (hb4.block _ (by omega)).trans bk
        have bx := (hb4.block _ hz).trans HX.out
        have c0 : w4.cell? ⟨w2.heap.size, 0, none⟩ = some (.int .i64 d0) := (blk_cell bx 0).trans rfl
        have c1 : w4.cell? ⟨w2.heap.size, 1, none⟩ = some (.int .i64 P) := (blk_cell bx 1).trans rfl
        have x0 : w4.cell? ⟨w.heap.size, 0, none⟩ = some (.int .i64 0) := (blk_cell bk 0).trans rfl
        have x1 : w4.cell? ⟨w.heap.size, 1, none⟩ = some (.int .i64 0) := (blk_cell bk 1).trans rfl
        have y0 := blk_frozen bk 0
        have y1 := blk_frozen bk 1
        have hB4 := below_step hBr hb4
        by_cases ht : endText ⟨d0, P⟩ = l
        · have HN := Aside0.mk (show endRead l = some ⟨d0, P⟩ from by rw [endRead_yes (by intro e; rw [e] at h3; simp at h3) (by rw [hE]; exact ht), hE])
          have he : (endText ⟨d0, P⟩ == l) = true := beq_iff_eq.2 ht
          clear bk bx ht hE
          go_wp2
          refine bodyPost_ret (v := (vOpt (some ⟨d0, P⟩))) (by simp [results, Tryd.results56, go_sem, zEn, *]) rfl ⟨by rw [HN.out], ((hB4).setCell (Nat.le_refl _) _).setCell (Nat.le_refl _) _⟩
        · have HN := Aside0.mk (show endRead l = none from endRead_no (by rw [hE]; exact ht))
          have he : (endText ⟨d0, P⟩ == l) = false := beq_eq_false_iff_ne.2 ht
          clear bk bx ht hE
          go_wp2
          refine bodyPost_ret (v := (vOpt none)) (by simp [results, Tryd.results56, go_sem, zEn, *]) rfl ⟨by rw [HN.out], ((hB4).setCell (Nat.le_refl _) _).setCell (Nat.le_refl _) _⟩
  · have HN := Aside0.mk (endRead_len h)
    have hin : inB (l.length : Int) 3 4 = false := by unfold inB; rw [Bool.and_eq_false_iff]; simp; omega
    have H := Aside0.mk hin; clear hin
    go_enter Tryd.func56, Tryd.ntmps56
    go_wp2_with (go_at_call 28; refine (spec_l6In _ _ _ _).mono ?_; rintro r w1 ⟨rfl, rfl⟩; rw [H.out])
    refine bodyPost_ret (v := (vOpt none)) (by simp [results, Tryd.results56, go_sem, zEn, *]) rfl ⟨by rw [HN.out], (by repeat (first | (with_reducible exact (Below.refl _ _)) | (with_reducible apply below_alloc) | (with_reducible apply pw_below_drewN) | (with_reducible apply below_drew1) | with_reducible refine below_set ?_ (by first | (with_reducible exact Nat.le_refl _) | (with_reducible assumption) | (simp; done) | omega | (simp; omega))))⟩
end Go.Proofs.YtijompkonaiagaaDoor.Z
namespace Go.Proofs.YtijompkonaiagaaDoor.Z
open Go.RowKit Go.Proofs.YtijompkonaiagaaDoorW.PrintWords Go.Proofs.YtijompkonaiagaaDoorW.PrintLast
set_option linter.unusedVariables false
set_option linter.unusedSimpArgs false
attribute [local go_sem ↓] Go.wp_at_zero Go.wp_at_succ
attribute [local go_sem high] bytes_append
def figB (lo : Nat) (b : UInt8) : Bool := decide (lo ≤ b.toNat) && decide (b.toNat ≤ 57)
def okByte (b : UInt8) : Bool := (decide (97 ≤ b.toNat) && decide (b.toNat ≤ 122)) || (decide (48 ≤ b.toNat) && decide (b.toNat ≤ 57)) || b.toNat == 64 || b.toNat == 58 || b.toNat == 59
theorem impl_figure (b : UInt8) (lo : Nat) (hlo : lo ≤ 255) (w : World) : Calls Tryd.prog 38 #[.int .u8 (b.toNat : Int), .int .u8 (lo : Int)] w fun r w' => r = .returned (.bool (figB lo b)) ∧ w' = w := by
  obtain ⟨n, hn⟩ : ∃ n, b.toNat = n := ⟨_, rfl⟩
  have e : figB lo b = (decide (lo ≤ n) && decide ((n : Int) ≤ 57)) := by
    unfold figB; rw [hn]; congr 1; exact decide_eq_decide.2 (by omega)
  rw [hn]
  have E := Aside0.mk e; clear e hn
  go_enter Tryd.func38, Tryd.ntmps38
  go_wp2
  all_goals
    rename_i h1
    go_ret
    refine ⟨?_, rfl⟩
    rw [E.out]
    first | (rw [decide_eq_true h1]; rfl) | (rw [decide_eq_false h1]; rfl)
theorem spec_l2Byte (b : UInt8) (w : World) : Calls Tryd.prog 41 #[.int .u8 (b.toNat : Int)] w fun r w' => r = .returned (.bool (okByte b)) ∧ w' = w := by
  obtain ⟨n, hn⟩ : ∃ n, b.toNat = n := ⟨_, rfl⟩
  have e : okByte b = ((decide (97 ≤ n) && decide (n ≤ 122)) || (decide (48 ≤ n) && decide (n ≤ 57)) || n == 64 || n == 58 || n == 59) := by unfold okByte; rw [hn]
  rw [hn]
  have E := Aside0.mk e; clear e hn
  go_enter Tryd.func41, Tryd.ntmps41
  go_wp2
  all_goals
    go_ret
    refine ⟨congrArg Ending.returned ((congrArg Value.bool ?_).trans (congrArg Value.bool E.out.symm)), rfl⟩
    rw [Bool.eq_iff_iff]
    simp
    try omega
def textOk (l : List UInt8) : Bool := l.all okByte && decide ((l.length : Int) ≤ 40)
theorem all_no {l : List UInt8} {k : Nat} (h : k < l.length) (hn : okByte (l[k]'h) = false) : l.all okByte = false := by
  rw [← Bool.not_eq_true, List.all_eq_true]
  intro h2
  have := h2 _ (List.getElem_mem h)
  rw [hn] at this
  cases this
theorem all_step {l : List UInt8} {k : Nat} (h : k < l.length) (hp : (l.take k).all okByte = true) (hn : okByte (l[k]'h) = true) : (l.take (k + 1)).all okByte = true := by
  rw [List.take_add_one, List.all_append, hp, List.getElem?_eq_getElem h]
  simp [hn]
set_option maxRecDepth 100000 in
theorem spec_TextOk (l : List UInt8) (hl : l.length ≤ 140737488355328) (w : World) :
    Calls Tryd.prog 30 #[vS l] w fun r w' => r = .returned (.bool (textOk l)) ∧ w' = w := by
  go_enter Tryd.func30, Tryd.ntmps30
  go_wp2
  go_loopw [3] (fun i w' => ∃ k : Nat, k ≤ l.length ∧ i = .int .i64 k ∧ Aside0 ((l.take k).all okByte = true) ∧ w' = w) (fun i _ => l.length - (intOf i).toNat)
  case atStart => exact ⟨0, Nat.zero_le _, rfl, ⟨by simp⟩, rfl⟩
  case round =>
    obtain ⟨k, hk, rfl, HP, rfl⟩ := hrel
    by_cases hlt : k < l.length
    · have hk0 : (0 : Int) ≤ (k : Int) := by omega
      have hk1 : (k : Int) < (l.length : Int) := by omega
      have HB := Aside0.mk (spec_l2Byte ((⟨l.toArray⟩ : ByteArray)[k]'hlt) wr)
      cases hok : okByte ((⟨l.toArray⟩ : ByteArray)[k]'hlt)
      · have HF := Aside0.mk (show textOk l = false from by unfold textOk; rw [all_no hlt hok]; rfl)
        rw [hok] at HB
        clear hok
        go_wp2_with (go_at_call 41; refine HB.out.mono ?_; rintro r w2 ⟨rfl, rfl⟩)
        go_ret
        exact ⟨ret_bool HF.out.symm, rfl⟩
      · have HS := Aside0.mk (all_step hlt HP.out hok)
        rw [hok] at HB
        clear hok
        go_wp2_with (go_at_call 41; refine HB.out.mono ?_; rintro r w2 ⟨rfl, rfl⟩)
        go_roundw
        case rel => exact ⟨k + 1, by omega, by go_num, HS, trivial⟩
        case measure => simp [intOf]; omega
    · obtain rfl : k = l.length := by omega
      have HF := Aside0.mk (show textOk l = decide ((l.length : Int) ≤ 40) from by
        have h1 := HP.out
        rw [List.take_length] at h1
        unfold textOk; rw [h1]; rfl)
      go_wp2
      go_ret
      exact ⟨ret_bool HF.out.symm, rfl⟩
theorem bytes_as (l : List UInt8) (w : World) : ∃ W C, (convert 9 22 (vS l)).run Tryd.prog w = .ok (.slice (some ⟨w.heap.size, 0, none⟩) l.length C) W ∧ Below w.heap.size w W ∧ ∀ j (h : j < l.length), W.cell? ⟨w.heap.size, j, none⟩ = some (.int .u8 ((l[j]'h).toNat : Int)) := by
  refine ⟨_, _, print_bytes (P := Tryd.prog) 9 22 5 Tryd.underlying9 Tryd.underlying22 Tryd.underlying5 ⟨l.toArray⟩ w, Go.Lib.bytesWorld_below w _ _, fun j h => ?_⟩
  have := Go.Lib.bytesWorld_cell w 5 ⟨l.toArray⟩ j h
  rw [this]
  simp [List.getD_eq_getElem?_getD, h]
set_option maxRecDepth 100000 in
set_option maxHeartbeats 2000000 in
theorem impl_TextOk (l : List UInt8) (hl : l.length ≤ 140737488355328) (w : World) :
    Calls Tryd.prog 24 #[vS l] w fun r w' => r = .returned (.bool (textOk l)) ∧ Below w.heap.size w w' := by
  obtain ⟨W, C, hcv, hb, hcell⟩ := bytes_as l w
  have HC := Aside0.mk hcell; clear hcell
  have HB := Aside0.mk hb; clear hb
  go_enter Tryd.func24, Tryd.ntmps24
  go_wp2
  go_loopw [8] (fun i w' => ∃ k : Nat, k ≤ l.length ∧ i = .int .i64 k ∧ Aside0 ((l.take k).all okByte = true) ∧ w' = W) (fun i _ => l.length - (intOf i).toNat)
  case atStart => exact ⟨0, Nat.zero_le _, rfl, ⟨by simp⟩, rfl⟩
  case round =>
    obtain ⟨k, hk, rfl, HP, rfl⟩ := hrel
    clear hcv
    by_cases hlt : k < l.length
    · have hk0 : (0 : Int) ≤ (k : Int) := by omega
      have hk1 : (k : Int) < (l.length : Int) := by omega
      have d0 := HC.out k hlt
      have HG := Aside0.mk (impl_figure (l[k]'hlt) 48 (by decide) wr)
      have hn1 := (l[k]'hlt).toNat_lt
      obtain ⟨n, hn⟩ : ∃ n, (l[k]'hlt).toNat = n := ⟨_, rfl⟩
      have e : okByte (l[k]'hlt) = ((decide (97 ≤ n) && decide (n ≤ 122)) || (decide (48 ≤ n) && decide (n ≤ 57)) || n == 64 || n == 58 || n == 59) := by unfold okByte; rw [hn]
      have e2 : figB 48 (l[k]'hlt) = (decide (48 ≤ n) && decide (n ≤ 57)) := by unfold figB; rw [hn]
      rw [hn] at d0 HG
      have HE := Aside0.mk e; clear e
      have hyes : okByte (l[k]'hlt) = true → Aside0 ((l.take (k + 1)).all okByte = true) := fun h => ⟨all_step hlt HP.out h⟩
      have hno : okByte (l[k]'hlt) = false → Aside0 (textOk l = false) := fun h => ⟨by unfold textOk; rw [all_no hlt h]; rfl⟩
      by_cases hfig : 48 ≤ n ∧ n ≤ 57
      · have HS := hyes (by rw [HE.out]; simp; omega)
        rw [e2, show (decide (48 ≤ n) && decide (n ≤ 57)) = true from by simp; omega] at HG
        clear hyes hno hn hn1 hfig e2
        go_wp2_with (go_at_call 38; refine HG.out.mono ?_; rintro r w2 ⟨rfl, rfl⟩)
        go_roundw
        case rel => exact ⟨k + 1, by omega, by go_num, HS, trivial⟩
        case measure => simp [intOf]; omega
      · rw [e2, show (decide (48 ≤ n) && decide (n ≤ 57)) = false from by rw [Bool.and_eq_false_iff]; simp; omega] at HG
        have hcl : (n = 64) ∨ (n = 58) ∨ (n = 59) ∨ (97 ≤ n ∧ n ≤ 122) ∨ (n < 97 ∧ n ≠ 64 ∧ n ≠ 58 ∧ n ≠ 59) ∨ (122 < n) := by omega
        clear e2 hn
        rcases hcl with hc | hc | hc | hc | hc | hc
        · have HS := hyes (by rw [HE.out]; simp; omega)
          have t64 : ((n : Int) == 64) = true := by rw [beq_iff_eq]; omega
          have u64 : ((n : Int) != 64) = false := by rw [bne_eq_false_iff_eq]; omega
          clear hyes hno hn1 hfig hc
          go_wp2_with (go_at_call 38; refine HG.out.mono ?_; rintro r w2 ⟨rfl, rfl⟩)
          go_roundw
          case rel => exact ⟨k + 1, by omega, by go_num, HS, trivial⟩
          case measure => simp [intOf]; omega
        · have HS := hyes (by rw [HE.out]; simp; omega)
          have t64 : ((n : Int) == 64) = false := by rw [beq_eq_false_iff_ne, ne_eq]; omega
          have u64 : ((n : Int) != 64) = true := by rw [bne_iff_ne, ne_eq]; omega
          have t58 : ((n : Int) == 58) = true := by rw [beq_iff_eq]; omega
          have u58 : ((n : Int) != 58) = false := by rw [bne_eq_false_iff_eq]; omega
          clear hyes hno hn1 hfig hc
          go_wp2_with (go_at_call 38; refine HG.out.mono ?_; rintro r w2 ⟨rfl, rfl⟩)
          go_roundw
          case rel => exact ⟨k + 1, by omega, by go_num, HS, trivial⟩
          case measure => simp [intOf]; omega
        · have HS := hyes (by rw [HE.out]; simp; omega)
          have t64 : ((n : Int) == 64) = false := by rw [beq_eq_false_iff_ne, ne_eq]; omega
          have u64 : ((n : Int) != 64) = true := by rw [bne_iff_ne, ne_eq]; omega
          have t58 : ((n : Int) == 58) = false := by rw [beq_eq_false_iff_ne, ne_eq]; omega
          have u58 : ((n : Int) != 58) = true := by rw [bne_iff_ne, ne_eq]; omega
          have t59 : ((n : Int) == 59) = true := by rw [beq_iff_eq]; omega
          have u59 : ((n : Int) != 59) = false := by rw [bne_eq_false_iff_eq]; omega
          clear hyes hno hn1 hfig hc
          go_wp2_with (go_at_call 38; refine HG.out.mono ?_; rintro r w2 ⟨rfl, rfl⟩)
          go_roundw
          case rel => exact ⟨k + 1, by omega, by go_num, HS, trivial⟩
          case measure => simp [intOf]; omega
        · have HS := hyes (by rw [HE.out]; simp; omega)
          have t64 : ((n : Int) == 64) = false := by rw [beq_eq_false_iff_ne, ne_eq]; omega
          have u64 : ((n : Int) != 64) = true := by rw [bne_iff_ne, ne_eq]; omega
          have t58 : ((n : Int) == 58) = false := by rw [beq_eq_false_iff_ne, ne_eq]; omega
          have u58 : ((n : Int) != 58) = true := by rw [bne_iff_ne, ne_eq]; omega
          have t59 : ((n : Int) == 59) = false := by rw [beq_eq_false_iff_ne, ne_eq]; omega
          have u59 : ((n : Int) != 59) = true := by rw [bne_iff_ne, ne_eq]; omega
          have t97 : decide ((n : Int) < 97) = false := decide_eq_false (by omega)
          have t122 : decide ((n : Int) > 122) = false := decide_eq_false (by omega)
          have u122 : decide ((122 : Int) < (n : Int)) = false := decide_eq_false (by omega)
          clear hyes hno hn1 hfig hc
          go_wp2_with (go_at_call 38; refine HG.out.mono ?_; rintro r w2 ⟨rfl, rfl⟩)
          go_roundw
          case rel => exact ⟨k + 1, by omega, by go_num, HS, trivial⟩
          case measure => simp [intOf]; omega
        · have HF := hno (by rw [HE.out]; simp; omega)
          have t64 : ((n : Int) == 64) = false := by rw [beq_eq_false_iff_ne, ne_eq]; omega
          have u64 : ((n : Int) != 64) = true := by rw [bne_iff_ne, ne_eq]; omega
          have t58 : ((n : Int) == 58) = false := by rw [beq_eq_false_iff_ne, ne_eq]; omega
          have u58 : ((n : Int) != 58) = true := by rw [bne_iff_ne, ne_eq]; omega
          have t59 : ((n : Int) == 59) = false := by rw [beq_eq_false_iff_ne, ne_eq]; omega
          have u59 : ((n : Int) != 59) = true := by rw [bne_iff_ne, ne_eq]; omega
          have t97 : decide ((n : Int) < 97) = true := decide_eq_true (by omega)
          clear hyes hno hn1 hfig hc
          go_wp2_with (go_at_call 38; refine HG.out.mono ?_; rintro r w2 ⟨rfl, rfl⟩)
          go_ret
          exact ⟨ret_bool HF.out.symm, HB.out⟩
        · have HF := hno (by rw [HE.out]; simp; omega)
          have t64 : ((n : Int) == 64) = false := by rw [beq_eq_false_iff_ne, ne_eq]; omega
          have u64 : ((n : Int) != 64) = true := by rw [bne_iff_ne, ne_eq]; omega
          have t58 : ((n : Int) == 58) = false := by rw [beq_eq_false_iff_ne, ne_eq]; omega
          have u58 : ((n : Int) != 58) = true := by rw [bne_iff_ne, ne_eq]; omega
          have t59 : ((n : Int) == 59) = false := by rw [beq_eq_false_iff_ne, ne_eq]; omega
          have u59 : ((n : Int) != 59) = true := by rw [bne_iff_ne, ne_eq]; omega
          have t97 : decide ((n : Int) < 97) = false := decide_eq_false (by omega)
          have t122 : decide ((n : Int) > 122) = true := decide_eq_true (by omega)
          have u122 : decide ((122 : Int) < (n : Int)) = true := decide_eq_true (by omega)
          clear hyes hno hn1 hfig hc
          go_wp2_with (go_at_call 38; refine HG.out.mono ?_; rintro r w2 ⟨rfl, rfl⟩)
          go_ret
          exact ⟨ret_bool HF.out.symm, HB.out⟩
    · obtain rfl : k = l.length := by omega
      have HF := Aside0.mk (show textOk l = decide ((l.length : Int) ≤ 40) from by
        have h1 := HP.out
        rw [List.take_length] at h1
        unfold textOk; rw [h1]; rfl)
      go_wp2
      go_ret
      exact ⟨ret_bool HF.out.symm, HB.out⟩
end Go.Proofs.YtijompkonaiagaaDoor.Z
namespace Go.Proofs.YtijompkonaiagaaDoor.Z
open Go.RowKit Go.Proofs.YtijompkonaiagaaDoorW.PrintWords Go.Proofs.YtijompkonaiagaaDoorW.PrintLast
set_option linter.unusedVariables false
set_option linter.unusedSimpArgs false
attribute [local go_sem ↓] Go.wp_at_zero Go.wp_at_succ
attribute [local go_sem high] bytes_append
def chk (i : Nat) (b : UInt8) : Bool := if i = 0 then (b.toNat : Int) == 64 else if i = 2 then (b.toNat : Int) == 58 else if i = 4 then figB 48 b else if i = 1 ∨ i = 3 then figB 49 b else false
def begB (l : List UInt8) : Bool := (List.range l.length).all (fun i => chk i (l.getD i 0))
theorem beg_no {l : List UInt8} {k : Nat} (h : k < l.length) (hn : chk k (l[k]'h) = false) : begB l = false := by
  rw [← Bool.not_eq_true]
  intro h2
  have := List.all_eq_true.1 h2 k (List.mem_range.2 h)
  rw [List.getD_eq_getElem?_getD, List.getElem?_eq_getElem h] at this
  simp only [Option.getD_some] at this
  rw [hn] at this
  cases this
theorem beg_step {l : List UInt8} {k : Nat} (h : k < l.length) (hp : (List.range k).all (fun i => chk i (l.getD i 0)) = true) (hn : chk k (l[k]'h) = true) : (List.range (k + 1)).all (fun i => chk i (l.getD i 0)) = true := by
  rw [List.range_succ, List.all_append, hp]
  simp [List.getD_eq_getElem?_getD, h, hn]
set_option maxRecDepth 100000 in
set_option maxHeartbeats 2000000 in
theorem impl_beginning (l : List UInt8) (hl : l.length ≤ 5) (w : World) :
    Calls Tryd.prog 44 #[vS l] w fun r w' => r = .returned (.bool (begB l)) ∧ Below w.heap.size w w' := by
  obtain ⟨W, C, hcv, hb, hcell⟩ := bytes_as l w
  have HC := Aside0.mk hcell; clear hcell
  have HB := Aside0.mk hb; clear hb
  go_enter Tryd.func44, Tryd.ntmps44
  go_wp2
  go_loopw [9] (fun i w' => ∃ k : Nat, k ≤ l.length ∧ i = .int .i64 k ∧ Aside0 ((List.range k).all (fun i => chk i (l.getD i 0)) = true) ∧ w' = W) (fun i _ => l.length - (intOf i).toNat)
  case atStart => exact ⟨0, Nat.zero_le _, rfl, ⟨by simp⟩, rfl⟩
  case round =>
    obtain ⟨k, hk, rfl, HP, rfl⟩ := hrel
    clear hcv
    by_cases hlt : k < l.length
    · have hk0 : (0 : Int) ≤ (k : Int) := by omega
      have hk1 : (k : Int) < (l.length : Int) := by omega
      have d0 := HC.out k hlt
      have hyes : chk k (l[k]'hlt) = true → Aside0 ((List.range (k + 1)).all (fun i => chk i (l.getD i 0)) = true) := fun h => ⟨beg_step hlt HP.out h⟩
      have hno : chk k (l[k]'hlt) = false → Aside0 (begB l = false) := fun h => ⟨beg_no hlt h⟩
      have G48 := Aside0.mk (impl_figure (l[k]'hlt) 48 (by decide) wr)
      have G49 := Aside0.mk (impl_figure (l[k]'hlt) 49 (by decide) wr)
      obtain ⟨b, hbb⟩ : ∃ b, l[k]'hlt = b := ⟨_, rfl⟩
      rw [hbb] at d0 hyes hno G48 G49
      clear hbb
      have hks : k = 0 ∨ k = 1 ∨ k = 2 ∨ k = 3 ∨ k = 4 := by omega
      rcases hks with rfl | rfl | rfl | rfl | rfl
      · have e : chk 0 b = ((b.toNat : Int) == 64) := rfl
        rw [e] at hyes hno
        clear e
        cases hc : ((b.toNat : Int) == 64)
        · have HF := hno hc
          clear hyes hno
          go_wp2
          go_ret
          exact ⟨ret_bool HF.out.symm, HB.out⟩
        · have HS := hyes hc
          clear hyes hno
          go_wp2
          go_roundw
          case rel => exact ⟨1, by omega, by go_num, HS, trivial⟩
          case measure => simp [intOf]; omega
      · have e : chk 1 b = (figB 49 b) := rfl
        rw [e] at hyes hno
        clear e
        cases hc : (figB 49 b)
        · have HF := hno hc
          rw [hc] at G49
          clear hyes hno hc
          go_wp2_with (go_at_call 38; refine G49.out.mono ?_; rintro r w2 ⟨rfl, rfl⟩)
          go_ret
          exact ⟨ret_bool HF.out.symm, HB.out⟩
        · have HS := hyes hc
          rw [hc] at G49
          clear hyes hno hc
          go_wp2_with (go_at_call 38; refine G49.out.mono ?_; rintro r w2 ⟨rfl, rfl⟩)
          go_roundw
          case rel => exact ⟨2, by omega, by go_num, HS, trivial⟩
          case measure => simp [intOf]; omega
      · have e : chk 2 b = ((b.toNat : Int) == 58) := rfl
        rw [e] at hyes hno
        clear e
        cases hc : ((b.toNat : Int) == 58)
        · have HF := hno hc
          clear hyes hno
          go_wp2
          go_ret
          exact ⟨ret_bool HF.out.symm, HB.out⟩
        · have HS := hyes hc
          clear hyes hno
          go_wp2
          go_roundw
          case rel => exact ⟨3, by omega, by go_num, HS, trivial⟩
          case measure => simp [intOf]; omega
      · have e : chk 3 b = (figB 49 b) := rfl
        rw [e] at hyes hno
        clear e
        cases hc : (figB 49 b)
        · have HF := hno hc
          rw [hc] at G49
          clear hyes hno hc
          go_wp2_with (go_at_call 38; refine G49.out.mono ?_; rintro r w2 ⟨rfl, rfl⟩)
          go_ret
          exact ⟨ret_bool HF.out.symm, HB.out⟩
        · have HS := hyes hc
          rw [hc] at G49
          clear hyes hno hc
          go_wp2_with (go_at_call 38; refine G49.out.mono ?_; rintro r w2 ⟨rfl, rfl⟩)
          go_roundw
          case rel => exact ⟨4, by omega, by go_num, HS, trivial⟩
          case measure => simp [intOf]; omega
      · have e : chk 4 b = (figB 48 b) := rfl
        rw [e] at hyes hno
        clear e
        cases hc : (figB 48 b)
        · have HF := hno hc
          rw [hc] at G48
          clear hyes hno hc
          go_wp2_with (go_at_call 38; refine G48.out.mono ?_; rintro r w2 ⟨rfl, rfl⟩)
          go_ret
          exact ⟨ret_bool HF.out.symm, HB.out⟩
        · have HS := hyes hc
          rw [hc] at G48
          clear hyes hno hc
          go_wp2_with (go_at_call 38; refine G48.out.mono ?_; rintro r w2 ⟨rfl, rfl⟩)
          go_roundw
          case rel => exact ⟨5, by omega, by go_num, HS, trivial⟩
          case measure => simp [intOf]; omega
    · obtain rfl : k = l.length := by omega
      have HF := Aside0.mk (show begB l = true from HP.out)
      go_wp2
      go_ret
      exact ⟨ret_bool HF.out.symm, HB.out⟩
end Go.Proofs.YtijompkonaiagaaDoor.Z
namespace Go.Proofs.YtijompkonaiagaaDoor.Z
open Go.RowKit Go.Proofs.YtijompkonaiagaaDoorW.PrintWords Go.Proofs.YtijompkonaiagaaDoorW.PrintLast
set_option linter.unusedVariables false
set_option linter.unusedSimpArgs false
attribute [local go_sem ↓] Go.wp_at_zero Go.wp_at_succ
attribute [local go_sem high] bytes_append
theorem bytes_get (l : List UInt8) (k : Nat) (h : k < (⟨l.toArray⟩ : ByteArray).size) : (⟨l.toArray⟩ : ByteArray)[k]'h = l[k]'h := rfl
attribute [local go_sem high] bytes_get
theorem int_beq (x y : Int) : (x == y) = decide (x = y) := by rw [Bool.eq_iff_iff]; simp
theorem fig_dig (b : UInt8) : figB 49 b = decide (1 ≤ digI b) ∧ figB 48 b = decide (0 ≤ digI b) := by
  unfold figB digI
  constructor
  · rw [Bool.eq_iff_iff]; simp; split <;> omega
  · rw [Bool.eq_iff_iff]; simp; split <;> omega
set_option maxRecDepth 100000 in
theorem spec_beg1 (a : UInt8) (w : World) : Calls Tryd.prog 42 #[vS [a]] w fun r w' => r = .returned (.bool (begB [a])) ∧ w' = w := by
  have e0 : begB [a] = (decide ((a.toNat : Int) = 64)) := by
    simp [begB, chk, List.range_succ, int_beq, Bool.and_assoc]
  have E := Aside0.mk e0; clear e0
  go_enter Tryd.func42, Tryd.ntmps42
  go_wp2_with (first | (go_at_call 28; refine (spec_l6In _ _ _ _).mono ?_; rintro r w1 ⟨rfl, rfl⟩; rw [show inB _ 1 5 = true from by decide]) | (go_at_call 48; refine (spec_l1Digit _ _).mono ?_; rintro r w2 ⟨rfl, rfl⟩))
  all_goals
    go_ret
    refine ⟨congrArg Ending.returned ((congrArg Value.bool ?_).trans (congrArg Value.bool E.out.symm)), rfl⟩
    rw [Bool.eq_iff_iff]
    simp at *
    first | done | omega
set_option maxRecDepth 100000 in
theorem spec_beg2 (a b : UInt8) (w : World) : Calls Tryd.prog 42 #[vS [a, b]] w fun r w' => r = .returned (.bool (begB [a, b])) ∧ w' = w := by
  have e0 : begB [a, b] = (decide ((a.toNat : Int) = 64) && decide (1 ≤ digI b)) := by
    simp [begB, chk, List.range_succ, int_beq, (fig_dig b).1, Bool.and_assoc]
  have E := Aside0.mk e0; clear e0
  go_enter Tryd.func42, Tryd.ntmps42
  go_wp2_with (first | (go_at_call 28; refine (spec_l6In _ _ _ _).mono ?_; rintro r w1 ⟨rfl, rfl⟩; rw [show inB _ 1 5 = true from by decide]) | (go_at_call 48; refine (spec_l1Digit _ _).mono ?_; rintro r w2 ⟨rfl, rfl⟩))
  all_goals
    go_ret
    refine ⟨congrArg Ending.returned ((congrArg Value.bool ?_).trans (congrArg Value.bool E.out.symm)), rfl⟩
    rw [Bool.eq_iff_iff]
    simp at *
    first | done | omega
set_option maxRecDepth 100000 in
theorem spec_beg3 (a b c : UInt8) (w : World) : Calls Tryd.prog 42 #[vS [a, b, c]] w fun r w' => r = .returned (.bool (begB [a, b, c])) ∧ w' = w := by
  have e0 : begB [a, b, c] = (decide ((a.toNat : Int) = 64) && decide (1 ≤ digI b) && decide ((c.toNat : Int) = 58)) := by
    simp [begB, chk, List.range_succ, int_beq, (fig_dig b).1, Bool.and_assoc]
  have E := Aside0.mk e0; clear e0
  go_enter Tryd.func42, Tryd.ntmps42
  go_wp2_with (first | (go_at_call 28; refine (spec_l6In _ _ _ _).mono ?_; rintro r w1 ⟨rfl, rfl⟩; rw [show inB _ 1 5 = true from by decide]) | (go_at_call 48; refine (spec_l1Digit _ _).mono ?_; rintro r w2 ⟨rfl, rfl⟩))
  all_goals
    go_ret
    refine ⟨congrArg Ending.returned ((congrArg Value.bool ?_).trans (congrArg Value.bool E.out.symm)), rfl⟩
    rw [Bool.eq_iff_iff]
    simp at *
    first | done | omega
set_option maxRecDepth 100000 in
theorem spec_beg4 (a b c d : UInt8) (w : World) : Calls Tryd.prog 42 #[vS [a, b, c, d]] w fun r w' => r = .returned (.bool (begB [a, b, c, d])) ∧ w' = w := by
  have e0 : begB [a, b, c, d] = (decide ((a.toNat : Int) = 64) && decide (1 ≤ digI b) && decide ((c.toNat : Int) = 58) && decide (1 ≤ digI d)) := by
    simp [begB, chk, List.range_succ, int_beq, (fig_dig b).1, (fig_dig d).1, Bool.and_assoc]
  have E := Aside0.mk e0; clear e0
  go_enter Tryd.func42, Tryd.ntmps42
  go_wp2_with (first | (go_at_call 28; refine (spec_l6In _ _ _ _).mono ?_; rintro r w1 ⟨rfl, rfl⟩; rw [show inB _ 1 5 = true from by decide]) | (go_at_call 48; refine (spec_l1Digit _ _).mono ?_; rintro r w2 ⟨rfl, rfl⟩))
  all_goals
    go_ret
    refine ⟨congrArg Ending.returned ((congrArg Value.bool ?_).trans (congrArg Value.bool E.out.symm)), rfl⟩
    rw [Bool.eq_iff_iff]
    simp at *
    first | done | omega
set_option maxRecDepth 100000 in
theorem spec_beg5 (a b c d e : UInt8) (w : World) : Calls Tryd.prog 42 #[vS [a, b, c, d, e]] w fun r w' => r = .returned (.bool (begB [a, b, c, d, e])) ∧ w' = w := by
  have e0 : begB [a, b, c, d, e] = (decide ((a.toNat : Int) = 64) && decide (1 ≤ digI b) && decide ((c.toNat : Int) = 58) && decide (1 ≤ digI d) && decide (0 ≤ digI e)) := by
    simp [begB, chk, List.range_succ, int_beq, (fig_dig b).1, (fig_dig d).1, (fig_dig e).2, Bool.and_assoc]
  have E := Aside0.mk e0; clear e0
  go_enter Tryd.func42, Tryd.ntmps42
  go_wp2_with (first | (go_at_call 28; refine (spec_l6In _ _ _ _).mono ?_; rintro r w1 ⟨rfl, rfl⟩; rw [show inB _ 1 5 = true from by decide]) | (go_at_call 48; refine (spec_l1Digit _ _).mono ?_; rintro r w2 ⟨rfl, rfl⟩))
  all_goals
    go_ret
    refine ⟨congrArg Ending.returned ((congrArg Value.bool ?_).trans (congrArg Value.bool E.out.symm)), rfl⟩
    rw [Bool.eq_iff_iff]
    simp at *
    first | done | omega
end Go.Proofs.YtijompkonaiagaaDoor.Z
namespace Go.Proofs.YtijompkonaiagaaDoor.Z
open Go.RowKit Go.Proofs.YtijompkonaiagaaDoorW.PrintWords Go.Proofs.YtijompkonaiagaaDoorW.PrintLast
set_option linter.unusedVariables false
set_option linter.unusedSimpArgs false
attribute [local go_sem ↓] Go.wp_at_zero Go.wp_at_succ
attribute [local go_sem high] bytes_append
theorem spec_l2Begins (l : List UInt8) (h1 : 1 ≤ l.length) (h5 : l.length ≤ 5) (w : World) : Calls Tryd.prog 42 #[vS l] w fun r w' => r = .returned (.bool (begB l)) ∧ w' = w := by
  match l, h1, h5 with
  | [a], _, _ => exact spec_beg1 a w
  | [a, b], _, _ => exact spec_beg2 a b w
  | [a, b, c], _, _ => exact spec_beg3 a b c w
  | [a, b, c, d], _, _ => exact spec_beg4 a b c d w
  | [a, b, c, d, e], _, _ => exact spec_beg5 a b c d e w
  | _ :: _ :: _ :: _ :: _ :: _ :: _, _, h => simp at h
def heldFrom (l : List UInt8) : Nat → Nat
  | 0 => 0
  | n + 1 => if begB (l.drop (l.length - (n + 1))) then n + 1 else heldFrom l n
def heldN (l : List UInt8) : Nat := heldFrom l (min 5 l.length)
theorem bytes_drop (l : List UInt8) (a : Nat) : (⟨l.toArray⟩ : ByteArray).extract a l.length = ⟨(l.drop a).toArray⟩ := by
  apply ByteArray.ext
  simp [ByteArray.data_extract]
  rw [List.take_of_length_le (by rw [List.length_drop]; omega)]
set_option maxHeartbeats 1000000 in
theorem impl_held (l : List UInt8) (hl : l.length ≤ 140737488355328) (w : World) :
    Calls Tryd.prog 34 #[vS l] w fun r w' => r = .returned (.int .i64 (heldN l)) ∧ Below w.heap.size w w' := by
  go_enter Tryd.func34, Tryd.ntmps34
  go_wp2
  go_loopw [3] (fun i w' => ∃ k : Nat, k ≤ 5 ∧ k ≤ l.length ∧ i = .int .i64 k ∧ Aside0 (heldFrom l k = heldN l) ∧ Below w.heap.size w w') (fun i _ => (intOf i).toNat)
  case atStart => exact ⟨min 5 l.length, by omega, by omega, by congr 1; omega, ⟨rfl⟩, Below.refl _ _⟩
  case round =>
    obtain ⟨k, hk5, hkl, rfl, HP, hb⟩ := hrel
    by_cases hk : 0 < k
    · have t1 : decide ((k : Int) > 0) = true := decide_eq_true (by omega)
      have t2 : decide ((0 : Int) < (k : Int)) = true := decide_eq_true (by omega)
      obtain ⟨n, rfl⟩ : ∃ n, k = n + 1 := ⟨k - 1, by omega⟩
      have hlen : (l.drop (l.length - (n + 1))).length = n + 1 := by rw [List.length_drop]; omega
      have hstep : heldFrom l (n + 1) = if begB (l.drop (l.length - (n + 1))) then n + 1 else heldFrom l n := rfl
      obtain ⟨x, hx⟩ : ∃ x, l.drop (l.length - (n + 1)) = x := ⟨_, rfl⟩
      have hex : (⟨l.toArray⟩ : ByteArray).extract (l.length - (n + 1)) l.length = ⟨x.toArray⟩ := by rw [bytes_drop, hx]
      rw [hx] at hlen hstep
      have HX := Aside0.mk hlen; clear hlen hx
      cases hbeg : begB x
      · have HS : Aside0 (heldFrom l n = heldN l) := ⟨by rw [← HP.out, hstep, hbeg]; rfl⟩
        have HB := Aside0.mk hbeg
        clear hbeg hstep HP
        go_wp2_with (go_at_call 44; rw [hex]; refine (impl_beginning x (by rw [HX.out]; omega) _).mono ?_; rintro r w2 ⟨rfl, hb2⟩; rw [HB.out])
        go_roundw
        case rel => exact ⟨n, by omega, by omega, by go_num, HS, below_step hb hb2⟩
        case measure => simp [intOf]
      · have HS : Aside0 (heldN l = n + 1) := ⟨by rw [← HP.out, hstep, if_pos hbeg]⟩
        have HB := Aside0.mk hbeg
        clear hbeg hstep HP
        go_wp2_with (go_at_call 44; rw [hex]; refine (impl_beginning x (by rw [HX.out]; omega) _).mono ?_; rintro r w2 ⟨rfl, hb2⟩; rw [HB.out])
        go_ret
        exact ⟨by simp [HS.out], below_step hb hb2⟩
    · obtain rfl : k = 0 := by omega
      have HS : Aside0 (heldN l = 0) := ⟨HP.out.symm⟩
      go_wp2
      go_ret
      exact ⟨by simp [HS.out], hb⟩
set_option maxHeartbeats 1000000 in
theorem spec_l2Held (l : List UInt8) (hl : l.length ≤ 140737488355328) (w : World) :
    Calls Tryd.prog 31 #[vS l] w fun r w' => r = .returned (.int .i64 (heldN l)) ∧ Below w.heap.size w w' := by
  go_enter Tryd.func31, Tryd.ntmps31
  go_wp2
  go_loopw [3] (fun i w' => ∃ k : Nat, k ≤ 5 ∧ k ≤ l.length ∧ i = .int .i64 k ∧ Aside0 (heldFrom l k = heldN l) ∧ Below w.heap.size w w') (fun i _ => (intOf i).toNat)
  case atStart => exact ⟨min 5 l.length, by omega, by omega, by congr 1; omega, ⟨rfl⟩, Below.refl _ _⟩
  case round =>
    obtain ⟨k, hk5, hkl, rfl, HP, hb⟩ := hrel
    by_cases hk : 0 < k
    · have t1 : decide ((k : Int) > 0) = true := decide_eq_true (by omega)
      have t2 : decide ((0 : Int) < (k : Int)) = true := decide_eq_true (by omega)
      obtain ⟨n, rfl⟩ : ∃ n, k = n + 1 := ⟨k - 1, by omega⟩
      have hlen : (l.drop (l.length - (n + 1))).length = n + 1 := by rw [List.length_drop]; omega
      have hstep : heldFrom l (n + 1) = if begB (l.drop (l.length - (n + 1))) then n + 1 else heldFrom l n := rfl
      obtain ⟨x, hx⟩ : ∃ x, l.drop (l.length - (n + 1)) = x := ⟨_, rfl⟩
      have hex : (⟨l.toArray⟩ : ByteArray).extract (l.length - (n + 1)) l.length = ⟨x.toArray⟩ := by rw [bytes_drop, hx]
      rw [hx] at hlen hstep
      have HX := Aside0.mk hlen; clear hlen hx
      cases hbeg : begB x
      · have HS : Aside0 (heldFrom l n = heldN l) := ⟨by rw [← HP.out, hstep, hbeg]; rfl⟩
        have HB := Aside0.mk hbeg
        clear hbeg hstep HP
        go_wp2_with (go_at_call 42; rw [hex]; refine (spec_l2Begins x (by rw [HX.out]; omega) (by rw [HX.out]; omega) _).mono ?_; rintro r w2 ⟨rfl, rfl⟩; rw [HB.out])
        go_roundw
        case rel => exact ⟨n, by omega, by omega, by go_num, HS, hb⟩
        case measure => simp [intOf]
      · have HS : Aside0 (heldN l = n + 1) := ⟨by rw [← HP.out, hstep, if_pos hbeg]⟩
        have HB := Aside0.mk hbeg
        clear hbeg hstep HP
        go_wp2_with (go_at_call 42; rw [hex]; refine (spec_l2Begins x (by rw [HX.out]; omega) (by rw [HX.out]; omega) _).mono ?_; rintro r w2 ⟨rfl, rfl⟩; rw [HB.out])
        go_ret
        exact ⟨by simp [HS.out], hb⟩
    · obtain rfl : k = 0 := by omega
      have HS : Aside0 (heldN l = 0) := ⟨HP.out.symm⟩
      go_wp2
      go_ret
      exact ⟨by simp [HS.out], hb⟩
end Go.Proofs.YtijompkonaiagaaDoor.Z
namespace Go.Proofs.YtijompkonaiagaaDoor.Z
open Go.RowKit Go.Proofs.YtijompkonaiagaaDoorW.PrintWords Go.Proofs.YtijompkonaiagaaDoorW.PrintLast
set_option linter.unusedVariables false
set_option linter.unusedSimpArgs false
attribute [local go_sem ↓] Go.wp_at_zero Go.wp_at_succ
attribute [local go_sem high] bytes_append
def nameOf (e : En) : List UInt8 := 64 :: (endText e ++ [59])
theorem impl_name (e : En) (w : World) : Calls Tryd.prog 55 #[vEn e] w fun r w' => r = .returned (vS (nameOf e)) ∧ Below w.heap.size w w' := by
  have hl := endText_len e
  have h1 : ¬ (9223372036854775807 < 1 + (endText e).length) := by omega
  have h2 : ¬ (9223372036854775807 < (endText e).length + 1) := by omega
  have h3 : ¬ (9223372036854775807 < 1 + (endText e).length + 1) := by omega
  have h4 : ¬ (9223372036854775807 < (endText e).length + 1 + 1) := by omega
  obtain ⟨l, hx⟩ : ∃ l, endText e = l := ⟨_, rfl⟩
  have HX := Aside0.mk hx
  rw [hx] at h1 h2 h3 h4
  clear hx hl
  go_enter Tryd.func55, Tryd.ntmps55
  go_wp2_with (go_at_call 60; refine (impl_EndText e _).mono ?_; rintro r w1 ⟨rfl, hb1⟩; rw [HX.out])
  go_ret
  exact ⟨by unfold nameOf; rw [HX.out]; rfl, below_step (by repeat (first | (with_reducible exact (Below.refl _ _)) | (with_reducible apply below_alloc) | (with_reducible apply pw_below_drewN) | (with_reducible apply below_drew1) | with_reducible refine below_set ?_ (by first | (with_reducible exact Nat.le_refl _) | (with_reducible assumption) | (simp; done) | omega | (simp; omega)))) hb1⟩
def upto59 (l : List UInt8) : List UInt8 := l.takeWhile (fun b => b != 59)
def nm (l : List UInt8) : Option En := match l with
  | [] => none
  | c :: t => if c == 64 && t.contains 59 then endRead (upto59 t) else none
theorem text_no59 : ∀ e ∈ allEnds, (endText e).all (fun b => b != 59) = true := by decide +kernel
theorem nm_name {e : En} (h : anyB e = true) (r : List UInt8) : nm (nameOf e ++ r) = some e := by
  have h1 := text_no59 e (anyB_mem h)
  have h2 : upto59 (endText e ++ [59] ++ r) = endText e := by
    unfold upto59
    rw [List.append_assoc, List.takeWhile_append_of_pos (by simpa using h1)]
    simp
  show (if (64 : UInt8) == 64 && (endText e ++ [59] ++ r).contains 59 then endRead (upto59 (endText e ++ [59] ++ r)) else none) = some e
  rw [h2, endRead_of h]
  simp
theorem nm_some {l : List UInt8} {e : En} (h : nm l = some e) : anyB e = true ∧ ∃ r, l = nameOf e ++ r := by
  cases l with
  | nil => cases h
  | cons c t =>
    unfold nm at h
    simp only at h
    split at h
    · rename_i hc
      rw [Bool.and_eq_true, beq_iff_eq] at hc
      obtain ⟨ha, ht⟩ := endRead_some h
      refine ⟨ha, (t.dropWhile (fun b => b != 59)).tail, ?_⟩
      have h1 : t = upto59 t ++ t.dropWhile (fun b => b != 59) := (List.takeWhile_append_dropWhile).symm
      have h2 : ∃ r, t.dropWhile (fun b => b != 59) = 59 :: r := by
        cases hd : t.dropWhile (fun b => b != 59) with
        | nil =>
          exfalso
          have h3 : (59 : UInt8) ∈ t := by simpa using hc.2
          rw [h1, hd, List.append_nil] at h3
          have := List.all_eq_true.1 (List.all_takeWhile (l := t) (p := fun b => b != 59)) 59 h3
          simp at this
        | cons b r =>
          have := List.head?_dropWhile_not (fun b => b != (59 : UInt8)) t
          rw [hd] at this
          simp at this
          exact ⟨r, by rw [this]⟩
      obtain ⟨r, hr⟩ := h2
      rw [hr, List.tail_cons]
      unfold nameOf
      rw [ht, hc.1, List.cons_append, List.append_assoc, List.singleton_append, ← hr, ← h1]
    · cases h
theorem idx59 : ∀ t : List UInt8, Go.Lib.index t [59] = if t.contains 59 then ((upto59 t).length : Int) else -1
  | [] => by simp [Go.Lib.index]
  | b :: l => by
    have ih := idx59 l
    unfold Go.Lib.index
    by_cases h : b = 59
    · subst h
      simp [upto59]
    · have h1 : ([59] : List UInt8).isPrefixOf (b :: l) = false := by rw [List.isPrefixOf_cons_cons, show ((59 : UInt8) == b) = false from beq_eq_false_iff_ne.2 (fun e => h e.symm), Bool.false_and]
      have h2 : (b != 59) = true := by simpa using h
      have h3 : upto59 (b :: l) = b :: upto59 l := by unfold upto59; rw [List.takeWhile_cons, h2]; rfl
      have h4 : (b :: l).contains 59 = l.contains 59 := by rw [List.contains_cons, show ((59 : UInt8) == b) = false from beq_eq_false_iff_ne.2 (fun e => h e.symm), Bool.false_or]
      rw [h1, ih, h3, h4]
      by_cases hc : l.contains 59 = true
      · simp only [hc, if_true]
        rw [if_neg (by simp), if_neg (by rw [beq_iff_eq]; omega)]
        simp
      · rw [Bool.not_eq_true] at hc
        simp only [hc]
        rfl
theorem cut59 (t : List UInt8) : (Go.Lib.cut t [59]).2.2 = t.contains 59 ∧ (t.contains 59 = true → (Go.Lib.cut t [59]).1 = upto59 t) ∧ (Go.Lib.cut t [59]).1.length ≤ t.length := by
  unfold Go.Lib.cut
  rw [idx59]
  by_cases hc : t.contains 59 = true
  · rw [if_pos hc, if_pos (by omega)]
    refine ⟨hc.symm, fun _ => ?_, by simp; omega⟩
    have h1 : t = upto59 t ++ t.dropWhile (fun b => b != 59) := (List.takeWhile_append_dropWhile).symm
    simp only [Int.toNat_natCast]
    have h2 : (upto59 t ++ t.dropWhile (fun b => b != 59)).take (upto59 t).length = upto59 t := by rw [List.take_append_of_le_length (Nat.le_refl _), List.take_length]
    rw [← h1] at h2
    exact h2
  · rw [if_neg hc, if_neg (by omega)]
    exact ⟨by simpa using hc, fun h => absurd h hc, Nat.le_refl _⟩
end Go.Proofs.YtijompkonaiagaaDoor.Z
namespace Go.Proofs.YtijompkonaiagaaDoor.Z
open Go.RowKit Go.Proofs.YtijompkonaiagaaDoorW.PrintWords Go.Proofs.YtijompkonaiagaaDoorW.PrintLast
set_option linter.unusedVariables false
set_option linter.unusedSimpArgs false
attribute [local go_sem ↓] Go.wp_at_zero Go.wp_at_succ
attribute [local go_sem high] bytes_append
set_option maxHeartbeats 2000000 in
theorem impl_readName (t : List UInt8) (hl : t.length ≤ 100000000) (w : World) (hv : VarsIn w) :
    Calls Tryd.prog 54 #[vS t] w fun r w' => ∃ e, r = .returned (.tuple #[vEn e, .bool (nm (64 :: t)).isSome]) ∧ Aside0 (∀ e', nm (64 :: t) = some e' → e = e') ∧ Below w.heap.size w w' := by
  obtain ⟨cc1, cc2, cc3⟩ := cut59 t
  have bk := heap_alloc_new w (.cells #[.int .i64 0, .int .i64 0] 24)
  have hb0 : Below w.heap.size w (w.alloc (.cells #[.int .i64 0, .int .i64 0] 24)) := below_alloc (Below.refl _ _) _
  obtain ⟨⟨⟨m, hm⟩, _⟩, _⟩ := hv.next hb0
  have hcut := Aside0.mk (Tryd.strings_Cut ⟨t.toArray⟩ ⟨#[59]⟩ m (w.alloc (.cells #[.int .i64 0, .int .i64 0] 24)) (by show t.length < _; omega) hm)
  clear hm
  obtain ⟨x1, hx1⟩ : ∃ x, (Go.Lib.cut t [59]).1 = x := ⟨_, rfl⟩
  obtain ⟨x2, hx2⟩ : ∃ x, (Go.Lib.cut t [59]).2.1 = x := ⟨_, rfl⟩
  obtain ⟨x3, hx3⟩ : ∃ x, (Go.Lib.cut t [59]).2.2 = x := ⟨_, rfl⟩
  simp only [List.toList_toArray] at hcut
  rw [hx1, hx2, hx3] at hcut
  rw [hx1] at cc2 cc3
  rw [hx3] at cc1
  have hN : nm (64 :: t) = if x3 = true then endRead x1 else none := by
    have h0 : nm (64 :: t) = if t.contains 59 = true then endRead (upto59 t) else none := by
      show (if ((64 : UInt8) == 64 && t.contains 59) = true then endRead (upto59 t) else none) = _
      rw [beq_self_eq_true, Bool.true_and]
    rw [h0, cc1]
    by_cases hc : t.contains 59 = true
    · rw [if_pos hc, if_pos hc, cc2 hc]
    · rw [if_neg hc, if_neg hc]
  obtain ⟨o, ho⟩ : ∃ o, endRead x1 = o := ⟨_, rfl⟩
  rw [ho] at hN
  have HN := Aside0.mk hN
  have HO := Aside0.mk ho
  clear hN ho hx1 hx2 hx3 cc1 cc2
  go_enter Tryd.func54, Tryd.ntmps54
  go_wp2_with (go_at_call 58; refine hcut.out.mono ?_; rintro r w1 ⟨rfl, k, rfl⟩)
  have hbd := pw_below_drewN hb0 k
  refine (impl_EndRead x1 (by omega) _ (hv.below hbd hv.2)).mono ?_
  rintro r w2 ⟨rfl, hb2⟩
  rw [HO.out]
  replace bk := (hb2.block w.heap.size (by show w.heap.size < (w.alloc _).heap.size; simp)).trans bk
  have hz0 : w.heap.size < w2.heap.size := blk_lt bk
  replace hb2 : Below w.heap.size w w2 := below_step hbd hb2
  go_upto_region 3 with fail
  obtain ⟨e, he⟩ : ∃ e, e = o.getD zEn := ⟨_, rfl⟩
  rw [← he]
  obtain ⟨wb, hwb, hbb, bk2, hzb⟩ := box_as w2 (.cells #[.int .i64 e.addr, .int .i64 e.port] 24)
  rw [← hwb]
  clear hwb
  replace bk := (hbb.block _ hz0).trans bk
  have hB : Below w.heap.size w wb := below_step hb2 hbb
  have c0 : wb.cell? ⟨w.heap.size, 0, none⟩ = some (.int .i64 0) := (blk_cell bk 0).trans rfl
  have c1 : wb.cell? ⟨w.heap.size, 1, none⟩ = some (.int .i64 0) := (blk_cell bk 1).trans rfl
  have f0 := blk_frozen bk 0
  have f1 := blk_frozen bk 1
  have e0 : wb.cell? ⟨w2.heap.size, 0, none⟩ = some (.int .i64 e.addr) := (blk_cell bk2 0).trans rfl
  have e1 : wb.cell? ⟨w2.heap.size, 1, none⟩ = some (.int .i64 e.port) := (blk_cell bk2 1).trans rfl
  have HE := Aside0.mk he
  clear bk bk2 he
  cases x3
  · go_wp2
    refine bodyPost_ret (v := (.tuple #[vEn e, .bool false])) (by simp [results, Tryd.results54, go_sem, zEn, *]) rfl ⟨e, by rw [HN.out]; rfl, ⟨fun e' h => by rw [HN.out] at h; cases h⟩, (hB.setCell (Nat.le_refl _) _).setCell (Nat.le_refl _) _⟩
  · go_wp2
    refine bodyPost_ret (v := (.tuple #[vEn e, .bool o.isSome])) (by simp [results, Tryd.results54, go_sem, zEn, *]) rfl ⟨e, by rw [HN.out]; rfl, ⟨fun e' h => by rw [HN.out] at h; simp only [if_true] at h; rw [HE.out, h]; rfl⟩, (hB.setCell (Nat.le_refl _) _).setCell (Nat.le_refl _) _⟩
end Go.Proofs.YtijompkonaiagaaDoor.Z
namespace Go.Proofs.YtijompkonaiagaaDoor.Z
open Go.RowKit Go.Proofs.YtijompkonaiagaaDoorW.PrintWords
set_option linter.unusedVariables false
set_option linter.unusedSimpArgs false
structure Pc where
  size : Int
  named : Bool
  fin : En
  deriving DecidableEq, Inhabited
abbrev vPc (p : Pc) : Value := .agg #[.int .i64 p.size, .bool p.named, .int .i64 p.fin.addr, .int .i64 p.fin.port]
def pieceAt (l : List UInt8) : Pc := match nm l with
  | some e => ⟨(nameOf e).length, true, e⟩
  | none => ⟨1, false, zEn⟩
def pcs : Nat → List UInt8 → List Pc
  | 0, _ => []
  | n + 1, l => if l = [] then [] else pieceAt l :: pcs n (l.drop (pieceAt l).size.toNat)
theorem pieceAt_size {l : List UInt8} (h : l ≠ []) : 1 ≤ (pieceAt l).size ∧ (pieceAt l).size.toNat ≤ l.length := by
  unfold pieceAt
  cases hn : nm l with
  | none =>
    refine ⟨by simp, ?_⟩
    have : 0 < l.length := List.length_pos_iff.2 h
    simp; omega
  | some e =>
    obtain ⟨_, r, hr⟩ := nm_some hn
    refine ⟨by simp [nameOf]; omega, ?_⟩
    rw [hr]
    simp
end Go.Proofs.YtijompkonaiagaaDoor.Z
namespace Go.Proofs.YtijompkonaiagaaDoor.Z
open Go.RowKit Go.Proofs.YtijompkonaiagaaDoorW.PrintWords Go.Proofs.YtijompkonaiagaaDoorW.PrintLast
set_option linter.unusedVariables false
set_option linter.unusedSimpArgs false
attribute [local go_sem ↓] Go.wp_at_zero Go.wp_at_succ
attribute [local go_sem high] bytes_append
set_option maxHeartbeats 2000000 in
theorem impl_piece (l : List UInt8) (hl : l.length ≤ 100000000) (w : World) (hv : VarsIn w) :
    Calls Tryd.prog 50 #[vS l] w fun r w' => r = .returned (vPc (pieceAt l)) ∧ Below w.heap.size w w' := by
  have bk := heap_alloc_new w (.cells #[.int .i64 0, .bool false, .int .i64 0, .int .i64 0] 56)
  have hb0 : Below w.heap.size w (w.alloc (.cells #[.int .i64 0, .bool false, .int .i64 0, .int .i64 0] 56)) := below_alloc (Below.refl _ _) _
  have hcp := Aside0.mk (Tryd.strings_CutPrefix ⟨l.toArray⟩ ⟨#[64]⟩ (w.alloc (.cells #[.int .i64 0, .bool false, .int .i64 0, .int .i64 0] 56)))
  by_cases h64 : ∃ t, l = 64 :: t
  · obtain ⟨t, ht⟩ := h64
    have e1 : Go.Lib.trimPrefix l [64] = t := by rw [ht]; simp [Go.Lib.trimPrefix, Go.Lib.hasPrefix]
    have e2 : Go.Lib.hasPrefix l [64] = true := by rw [ht]; simp [Go.Lib.hasPrefix]
    simp only [List.toList_toArray] at hcp
    rw [e1, e2] at hcp
    have hlt : t.length ≤ 100000000 := by rw [ht] at hl; simp at hl; omega
    have HL := Aside0.mk ht
    clear ht e1 e2
    go_enter Tryd.func50, Tryd.ntmps50
    go_wp2_with (go_at_call 53; refine hcp.out.mono ?_; rintro r w1 ⟨rfl, rfl⟩)
    refine (impl_readName t hlt _ (hv.next hb0)).mono ?_
    rintro r w2 ⟨e, rfl, HE, hb2⟩
    replace bk := (hb2.block w.heap.size (by simp)).trans bk
    have hz0 : w.heap.size < w2.heap.size := blk_lt bk
    replace hb2 : Below w.heap.size w w2 := below_step hb0 hb2
    rw [← HL.out] at HE ⊢
    cases hn : nm l with
    | none =>
      have HP := Aside0.mk (show pieceAt l = ⟨1, false, zEn⟩ from by unfold pieceAt; rw [hn])
      clear hn
      have c0 : w2.cell? ⟨w.heap.size, 0, none⟩ = some (.int .i64 0) := (blk_cell bk 0).trans rfl
      have c1 : w2.cell? ⟨w.heap.size, 1, none⟩ = some (.bool false) := (blk_cell bk 1).trans rfl
      have c2 : w2.cell? ⟨w.heap.size, 2, none⟩ = some (.int .i64 0) := (blk_cell bk 2).trans rfl
      have c3 : w2.cell? ⟨w.heap.size, 3, none⟩ = some (.int .i64 0) := (blk_cell bk 3).trans rfl
      have f0 := blk_frozen bk 0
      have f1 := blk_frozen bk 1
      have f2 := blk_frozen bk 2
      have f3 := blk_frozen bk 3
      clear bk
      go_wp2
      refine bodyPost_ret (v := (vPc ⟨1, false, zEn⟩)) (by simp [results, Tryd.results50, go_sem, zEn, *]) rfl ⟨by rw [HP.out], ((((hb2.setCell (Nat.le_refl _) _).setCell (Nat.le_refl _) _).setCell (Nat.le_refl _) _).setCell (Nat.le_refl _) _).alloc (by simp; omega) _⟩
    | some e' =>
      obtain rfl := HE.out e' hn
      have HP := Aside0.mk (show pieceAt l = ⟨(nameOf e).length, true, e⟩ from by unfold pieceAt; rw [hn])
      clear hn HE
      go_upto_region 5 with fail
      obtain ⟨wb, hwb, hbb, bk2, hzb⟩ := box_as w2 (.cells #[.int .i64 e.addr, .int .i64 e.port] 24)
      rw [← hwb]
      clear hwb
      replace bk := (hbb.block _ hz0).trans bk
      have hB : Below w.heap.size w wb := below_step hb2 hbb
      have e0 : wb.cell? ⟨w2.heap.size, 0, none⟩ = some (.int .i64 e.addr) := (blk_cell bk2 0).trans rfl
      have e1 : wb.cell? ⟨w2.heap.size, 1, none⟩ = some (.int .i64 e.port) := (blk_cell bk2 1).trans rfl
      refine lin_start (fun w' => w'.cell? ⟨w2.heap.size, 0, none⟩ = some (.int .i64 e.addr) ∧ w'.cell? ⟨w2.heap.size, 1, none⟩ = some (.int .i64 e.port)) (true, [([], []), ([0], [0]), ([1], [1]), ([], []), ([2, 3], [2, 3]), ([4, 1, 0, 1, 2, 3, 4], [4])]) [0, 3, 1, 2, 4, 5] (by kernel_rfl) (by kernel_rfl) (by kernel_rfl) ⟨e0, e1⟩ ?_
      repeat (first | (refine lin_take rfl rfl (by kernel_rfl) (fun _ _ _ h => h) (by rfl) (v := ?_) (a' := ?_) ?_ ?_ ?_; rotate_left 2; (rintro w' ⟨s0, s1⟩; go_simp; with_reducible rfl); (simp only [List.getElem_toArray, List.getElem_cons_zero, List.getElem_cons_succ, Act.put, List.setIfInBounds_toArray, List.set_cons_zero, List.set_cons_succ]; rfl)) | (refine lin_off rfl rfl (by kernel_rfl) (fun _ _ _ h => h) (by rfl) (a' := ?_) ?_ ?_; rotate_left 1; (simp only [List.getElem_toArray, List.getElem_cons_zero, List.getElem_cons_succ, Act.put, List.setIfInBounds_toArray, List.set_cons_zero, List.set_cons_succ]; rfl)))
      refine lin_call rfl rfl rfl Tryd.func55 (by kernel_rfl) (by kernel_rfl) rfl (by rfl) (args := #[vEn e]) (by (try simp only [List.map_toArray, List.map_cons, List.map_nil]); first | done | rfl) (fun hS => ?_)
      refine (impl_name e _).mono ?_
      rintro r w4 ⟨rfl, hb4⟩
      refine ⟨_, rfl, ?_, ?_⟩
      · first | exact (hb4.cell (by first | exact hzb)).trans hS | (obtain ⟨s0, s1⟩ := hS; exact ⟨(hb4.cell (by first | exact hzb)).trans s0, (hb4.cell (by first | exact hzb)).trans s1⟩)
      refine lin_norm (a' := ?_) ?_ ?_; rotate_left 1; (simp only [List.getElem_toArray, List.getElem_cons_zero, List.getElem_cons_succ, Act.put, List.setIfInBounds_toArray, List.set_cons_zero, List.set_cons_succ]; rfl)
      repeat (first | (refine lin_take rfl rfl (by kernel_rfl) (fun _ _ _ h => h) (by rfl) (v := ?_) (a' := ?_) ?_ ?_ ?_; rotate_left 2; (rintro w' ⟨s0, s1⟩; go_simp; with_reducible rfl); (simp only [List.getElem_toArray, List.getElem_cons_zero, List.getElem_cons_succ, Act.put, List.setIfInBounds_toArray, List.set_cons_zero, List.set_cons_succ]; rfl)) | (refine lin_off rfl rfl (by kernel_rfl) (fun _ _ _ h => h) (by rfl) (a' := ?_) ?_ ?_; rotate_left 1; (simp only [List.getElem_toArray, List.getElem_cons_zero, List.getElem_cons_succ, Act.put, List.setIfInBounds_toArray, List.set_cons_zero, List.set_cons_succ]; rfl)))
      replace bk := (hb4.block w.heap.size (by show w.heap.size < wb.heap.size; omega)).trans bk
      have c0 : w4.cell? ⟨w.heap.size, 0, none⟩ = some (.int .i64 0) := (blk_cell bk 0).trans rfl
      have c1 : w4.cell? ⟨w.heap.size, 1, none⟩ = some (.bool false) := (blk_cell bk 1).trans rfl
      have c2 : w4.cell? ⟨w.heap.size, 2, none⟩ = some (.int .i64 0) := (blk_cell bk 2).trans rfl
      have c3 : w4.cell? ⟨w.heap.size, 3, none⟩ = some (.int .i64 0) := (blk_cell bk 3).trans rfl
      have f0 := blk_frozen bk 0
      have f1 := blk_frozen bk 1
      have f2 := blk_frozen bk 2
      have f3 := blk_frozen bk 3
      have hB4 := below_step (below_drew hB) hb4
      refine lin_skip (w1 := (((w4.setCell ⟨w.heap.size, 0, none⟩ (.int .i64 ((nameOf e).length : Int))).setCell ⟨w.heap.size, 1, none⟩ (.bool true)).setCell ⟨w.heap.size, 2, none⟩ (.int .i64 e.addr)).setCell ⟨w.heap.size, 3, none⟩ (.int .i64 e.port)) rfl rfl (by kernel_rfl) (by rfl) (fun _ => ?_) (fun hS => ?_) ?_
      · go_simp
      · obtain ⟨s0, s1⟩ := hS
        have hne : w2.heap.size ≠ w.heap.size := by omega
        constructor <;> simp [World.cell?_setCell_other, hne, hne.symm, s0, s1]
      refine lin_done (by kernel_rfl) ?_
      clear bk
      go_wp2
      refine bodyPost_ret (v := (vPc ⟨(nameOf e).length, true, e⟩)) (by simp [results, Tryd.results50, go_sem, zEn, *]) rfl ⟨by rw [HP.out], (((hB4.setCell (Nat.le_refl _) _).setCell (Nat.le_refl _) _).setCell (Nat.le_refl _) _).setCell (Nat.le_refl _) _⟩
  · have e2 : Go.Lib.hasPrefix l [64] = false := by
      cases l with
      | nil => rfl
      | cons c t =>
        have hne : ((64 : UInt8) == c) = false := beq_eq_false_iff_ne.2 (fun e => h64 ⟨t, by rw [e]⟩)
        show ((64 : UInt8) == c && _) = false
        rw [hne, Bool.false_and]
    have hn : nm l = none := by
      cases l with
      | nil => rfl
      | cons c t =>
        have hne : (c == (64 : UInt8)) = false := beq_eq_false_iff_ne.2 (fun e => h64 ⟨t, by rw [e]⟩)
        show (if (c == 64 && t.contains 59) = true then _ else none) = none
        rw [hne, Bool.false_and]
        rfl
    have HP := Aside0.mk (show pieceAt l = ⟨1, false, zEn⟩ from by unfold pieceAt; rw [hn])
    simp only [List.toList_toArray] at hcp
    rw [e2] at hcp
    clear hn e2 bk
    go_enter Tryd.func50, Tryd.ntmps50
    go_wp2_with (go_at_call 53; refine hcp.out.mono ?_; rintro r w1 ⟨rfl, rfl⟩)
    refine bodyPost_ret (v := (vPc ⟨1, false, zEn⟩)) (by simp [results, Tryd.results50, go_sem, zEn, *]) rfl ⟨by rw [HP.out], (by repeat (first | (with_reducible exact (Below.refl _ _)) | (with_reducible apply below_alloc) | (with_reducible apply pw_below_drewN) | (with_reducible apply below_drew1) | with_reducible refine below_set ?_ (by first | (with_reducible exact Nat.le_refl _) | (with_reducible assumption) | (simp; done) | omega | (simp; omega))))⟩
end Go.Proofs.YtijompkonaiagaaDoor.Z
namespace Go.Proofs.YtijompkonaiagaaDoor.Q
open Go.RowKit Go.Proofs.YtijompkonaiagaaDoorW.PrintWords Go.Proofs.YtijompkonaiagaaDoor.Z
set_option linter.unusedVariables false
set_option linter.unusedSimpArgs false
abbrev bl (a : ByteArray) : List UInt8 := a.data.toList
theorem bl_mk (a : ByteArray) : (⟨(bl a).toArray⟩ : ByteArray) = a := by cases a; simp
theorem bl_len (a : ByteArray) : (bl a).length = a.size := rfl
theorem bl_of (l : List UInt8) : bl (⟨l.toArray⟩ : ByteArray) = l := rfl
theorem vS_bl (a : ByteArray) : vS (bl a) = .string a := by show Value.string _ = _; rw [bl_mk]
def impl_TextOk.f (a0 : ByteArray) : Option Bool := if a0.size ≤ 140737488355328 then some (textOk (bl a0)) else none
theorem impl_TextOk.calls (a0 : ByteArray) (r : Bool) (w : World) (h : impl_TextOk.f a0 = some r) :
    Calls Tryd.prog 24 #[.string a0] w fun e w' => e = .returned (.bool r) ∧ Below w.heap.size w w' := by
  unfold impl_TextOk.f at h
  split at h
  · rename_i hs
    obtain rfl := Option.some.inj h
    rw [← vS_bl]
    exact impl_TextOk (bl a0) (by rw [bl_len]; exact hs) w
  · cases h
def impl_held.f (a0 : ByteArray) : Option Int := if a0.size ≤ 140737488355328 then some (heldN (bl a0)) else none
theorem impl_held.calls (a0 : ByteArray) (r : Int) (w : World) (h : impl_held.f a0 = some r) :
    Calls Tryd.prog 34 #[.string a0] w fun e w' => e = .returned (.int .i64 r) ∧ Below w.heap.size w w' := by
  unfold impl_held.f at h
  split at h
  · rename_i hs
    obtain rfl := Option.some.inj h
    rw [← vS_bl]
    exact impl_held (bl a0) (by rw [bl_len]; exact hs) w
  · cases h
def impl_name.f (a0_0 : Int) (a0_1 : Int) : Option ByteArray := some ⟨(nameOf ⟨a0_0, a0_1⟩).toArray⟩
theorem impl_name.calls (a0_0 : Int) (a0_1 : Int) (r : ByteArray) (w : World) (h : impl_name.f a0_0 a0_1 = some r) :
    Calls Tryd.prog 55 #[.agg #[.int .i64 a0_0, .int .i64 a0_1]] w fun e w' => e = .returned (.string r) ∧ Below w.heap.size w w' := by
  obtain rfl := Option.some.inj h
  exact impl_name ⟨a0_0, a0_1⟩ w
def impl_piece.f (a0 : ByteArray) : Option (Int × Bool × Int × Int) := if a0.size ≤ 100000000 then some ((pieceAt (bl a0)).size, (pieceAt (bl a0)).named, (pieceAt (bl a0)).fin.addr, (pieceAt (bl a0)).fin.port) else none
theorem impl_piece.calls (a0 : ByteArray) (r1 : Int) (r2 : Bool) (r3 : Int) (r4 : Int) (w : World) (hV : VarsIn w) (h : impl_piece.f a0 = some (r1, r2, r3, r4)) :
    Calls Tryd.prog 50 #[.string a0] w fun e w' => e = .returned (.agg #[.int .i64 r1, .bool r2, .int .i64 r3, .int .i64 r4]) ∧ Below w.heap.size w w' := by
  unfold impl_piece.f at h
  split at h
  · rename_i hs
    have h2 := Option.some.inj h
    simp only [Prod.mk.injEq] at h2
    obtain ⟨rfl, rfl, rfl, rfl⟩ := h2
    rw [← vS_bl]
    exact impl_piece (bl a0) (by rw [bl_len]; exact hs) w hV
  · cases h
end Go.Proofs.YtijompkonaiagaaDoor.Q
namespace Go.Proofs.YtijompkonaiagaaDoor.Z
open Go.RowKit Go.Proofs.YtijompkonaiagaaDoorW.PrintWords
set_option linter.unusedVariables false
set_option linter.unusedSimpArgs false
attribute [local go_sem ↓] Go.wp_at_zero Go.wp_at_succ
attribute [local go_sem high] eqEn
def filled {α : Type} (l : List α) (z : α) (k : Nat) : List α := l.take k ++ List.replicate (l.length - k) z
end Go.Proofs.YtijompkonaiagaaDoor.Z
namespace Go.Proofs.YtijompkonaiagaaDoor.Z
open Go.RowKit Go.Proofs.YtijompkonaiagaaDoorW.PrintWords
set_option linter.unusedVariables false
set_option linter.unusedSimpArgs false
attribute [local go_sem ↓] Go.wp_at_zero Go.wp_at_succ
attribute [local go_sem high] eqEn
def Cl {α : Type} (d : Kd α) (e : Nat) (w : World) (base : Nat) (v : Value) (xs : List α) : Prop := ∃ A c, v = .slice A xs.length xs.length ∧ d.R e w base (fun _ => True) (.slice A xs.length c) xs
theorem Cl.below {α : Type} {d : Kd α} {e : Nat} {w w1 : World} {base : Nat} {v : Value} {xs : List α} (h : Cl d e w base v xs) (hb : Below w.heap.size w w1) : Cl d e w1 base v xs := by
  obtain ⟨A, c, e, hR⟩ := h
  exact ⟨A, c, e, Kd.R_below hR hb⟩
theorem Cl.reads {α : Type} {d : Kd α} {e : Nat} {w : World} {base : Nat} {v : Value} {xs : List α} (h : Cl d e w base v xs) : ∃ A, v = .slice A xs.length xs.length ∧ d.C w A xs.length xs := by
  obtain ⟨A, c, e, hR⟩ := h
  exact ⟨A, e, (Kd.R_reads' hR).2.2⟩
end Go.Proofs.YtijompkonaiagaaDoor.Z
namespace Go.Proofs.YtijompkonaiagaaDoor.Q
open Go.RowKit Go.Proofs.YtijompkonaiagaaDoorW.PrintWords Go.Proofs.YtijompkonaiagaaDoorW.PrintMore Go.Proofs.YtijompkonaiagaaDoor.Z
set_option linter.unusedVariables false
set_option linter.unusedSimpArgs false
attribute [local go_sem ↓] Go.wp_at_zero Go.wp_at_succ
theorem clip_Piece (A : Option Addr) (n c : Nat) (w : World) (hc : n ≤ c) :
    Calls Tryd.prog 51 #[.slice A n c] w fun r w' => r = .returned (.slice A n n) ∧ w = w' := by
  have h0 : (0 : Int) ≤ (n : Int) := Int.natCast_nonneg _
  have h1 : (n : Int) ≤ (c : Int) := by omega
  go_enter Tryd.func51, Tryd.ntmps51
  go_wp2
  go_ret
  exact ⟨by cases A <;> simp [Addr.add], rfl⟩
def slices_Clip_Piece.f (l0 : List S56) : Option (List S56) := some l0
theorem slices_Clip_Piece.calls (P0_ : Nat → Prop) (A0 : Option Addr) (c0 : Nat) (l0 : List (S56)) (r : List (S56)) (w : World) (hs0 : Kd.V k56 56 w w.heap.size (fun k_ => P0_ k_) (.slice A0 l0.length c0) l0) (h : slices_Clip_Piece.f l0 = some r) :
    Calls Tryd.prog 51 #[.slice A0 l0.length c0] w fun e w' => ∃ v0_ : Value, e = .returned (v0_) ∧ Kd.V k56 56 w' w.heap.size (fun k_ => (P0_ k_ ∨ w.heap.size ≤ k_)) v0_ r ∧ Below w.heap.size w w' := by
  obtain rfl := Option.some.inj h
  obtain ⟨A, c, e, hl, hf⟩ := hs0
  injection e with e1 e2 e3
  subst e1 e3
  refine (clip_Piece A0 l0.length c0 w hl).mono ?_
  rintro e w' ⟨rfl, rfl⟩
  exact ⟨_, rfl, ⟨A0, l0.length, rfl, Nat.le_refl _, fun W' hW => hf W' (fun k hk => hW k (.inl hk))⟩, Below.refl _ _⟩
theorem clip_End (A : Option Addr) (n c : Nat) (w : World) (hc : n ≤ c) :
    Calls Tryd.prog 37 #[.slice A n c] w fun r w' => r = .returned (.slice A n n) ∧ w = w' := by
  have h0 : (0 : Int) ≤ (n : Int) := Int.natCast_nonneg _
  have h1 : (n : Int) ≤ (c : Int) := by omega
  go_enter Tryd.func37, Tryd.ntmps37
  go_wp2
  go_ret
  exact ⟨by cases A <;> simp [Addr.add], rfl⟩
def slices_Clip_End.f (l0 : List S24) : Option (List S24) := some l0
theorem slices_Clip_End.calls (P0_ : Nat → Prop) (A0 : Option Addr) (c0 : Nat) (l0 : List (S24)) (r : List (S24)) (w : World) (hs0 : Kd.V k24 24 w w.heap.size (fun k_ => P0_ k_) (.slice A0 l0.length c0) l0) (h : slices_Clip_End.f l0 = some r) :
    Calls Tryd.prog 37 #[.slice A0 l0.length c0] w fun e w' => ∃ v0_ : Value, e = .returned (v0_) ∧ Kd.V k24 24 w' w.heap.size (fun k_ => (P0_ k_ ∨ w.heap.size ≤ k_)) v0_ r ∧ Below w.heap.size w w' := by
  obtain rfl := Option.some.inj h
  obtain ⟨A, c, e, hl, hf⟩ := hs0
  injection e with e1 e2 e3
  subst e1 e3
  refine (clip_End A0 l0.length c0 w hl).mono ?_
  rintro e w' ⟨rfl, rfl⟩
  exact ⟨_, rfl, ⟨A0, l0.length, rfl, Nat.le_refl _, fun W' hW => hf W' (fun k hk => hW k (.inl hk))⟩, Below.refl _ _⟩
end Go.Proofs.YtijompkonaiagaaDoor.Q
namespace Go.Proofs.YtijompkonaiagaaDoor.Q
open Go.RowKit Go.Proofs.YtijompkonaiagaaDoorW.PrintWords Go.Proofs.YtijompkonaiagaaDoorW.PrintMore Go.Proofs.YtijompkonaiagaaDoor.Z
set_option linter.unusedVariables false
set_option linter.unusedSimpArgs false
def impl_EndInside.f (a0_0 : Int) (a0_1 : Int) : Option Bool := some (insideB ⟨a0_0, a0_1⟩)
theorem impl_EndInside.calls (a0_0 : Int) (a0_1 : Int) (r : Bool) (w : World) (h : impl_EndInside.f a0_0 a0_1 = some r) :
    Calls Tryd.prog 17 #[.agg #[.int .i64 a0_0, .int .i64 a0_1]] w fun e w' => e = .returned (.bool r) ∧ Below w.heap.size w w' := by
  obtain rfl := Option.some.inj h
  exact impl_EndInside ⟨a0_0, a0_1⟩ w
def impl_EndOutside.f (a0_0 : Int) (a0_1 : Int) : Option Bool := some (outsideB ⟨a0_0, a0_1⟩)
theorem impl_EndOutside.calls (a0_0 : Int) (a0_1 : Int) (r : Bool) (w : World) (h : impl_EndOutside.f a0_0 a0_1 = some r) :
    Calls Tryd.prog 18 #[.agg #[.int .i64 a0_0, .int .i64 a0_1]] w fun e w' => e = .returned (.bool r) ∧ Below w.heap.size w w' := by
  obtain rfl := Option.some.inj h
  exact impl_EndOutside ⟨a0_0, a0_1⟩ w
def impl_EndDoor.f (a0_0 : Int) (a0_1 : Int) : Option Bool := some (doorB ⟨a0_0, a0_1⟩)
theorem impl_EndDoor.calls (a0_0 : Int) (a0_1 : Int) (r : Bool) (w : World) (h : impl_EndDoor.f a0_0 a0_1 = some r) :
    Calls Tryd.prog 22 #[.agg #[.int .i64 a0_0, .int .i64 a0_1]] w fun e w' => e = .returned (.bool r) ∧ Below w.heap.size w w' := by
  obtain rfl := Option.some.inj h
  exact impl_EndDoor ⟨a0_0, a0_1⟩ w
def impl_End_any.f (a0_0 : Int) (a0_1 : Int) : Option Bool := some (anyB ⟨a0_0, a0_1⟩)
theorem impl_End_any.calls (a0_0 : Int) (a0_1 : Int) (r : Bool) (w : World) (h : impl_End_any.f a0_0 a0_1 = some r) :
    Calls Tryd.prog 64 #[.agg #[.int .i64 a0_0, .int .i64 a0_1]] w fun e w' => e = .returned (.bool r) ∧ Below w.heap.size w w' := by
  obtain rfl := Option.some.inj h
  exact impl_any ⟨a0_0, a0_1⟩ w
def spec_EndInside.f (a0_0 : Int) (a0_1 : Int) : Option Bool := some (insideB ⟨a0_0, a0_1⟩)
theorem spec_EndInside.calls (a0_0 : Int) (a0_1 : Int) (r : Bool) (w : World) (h : spec_EndInside.f a0_0 a0_1 = some r) :
    Calls Tryd.prog 13 #[.agg #[.int .i64 a0_0, .int .i64 a0_1]] w fun e w' => e = .returned (.bool r) ∧ Below w.heap.size w w' := by
  obtain rfl := Option.some.inj h
  exact spec_EndInside ⟨a0_0, a0_1⟩ w
def spec_EndOutside.f (a0_0 : Int) (a0_1 : Int) : Option Bool := some (outsideB ⟨a0_0, a0_1⟩)
theorem spec_EndOutside.calls (a0_0 : Int) (a0_1 : Int) (r : Bool) (w : World) (h : spec_EndOutside.f a0_0 a0_1 = some r) :
    Calls Tryd.prog 14 #[.agg #[.int .i64 a0_0, .int .i64 a0_1]] w fun e w' => e = .returned (.bool r) ∧ Below w.heap.size w w' := by
  obtain rfl := Option.some.inj h
  exact spec_EndOutside ⟨a0_0, a0_1⟩ w
def spec_EndDoor.f (a0_0 : Int) (a0_1 : Int) : Option Bool := some (doorB ⟨a0_0, a0_1⟩)
theorem spec_EndDoor.calls (a0_0 : Int) (a0_1 : Int) (r : Bool) (w : World) (h : spec_EndDoor.f a0_0 a0_1 = some r) :
    Calls Tryd.prog 33 #[.agg #[.int .i64 a0_0, .int .i64 a0_1]] w fun e w' => e = .returned (.bool r) ∧ Below w.heap.size w w' := by
  obtain rfl := Option.some.inj h
  exact spec_EndDoor ⟨a0_0, a0_1⟩ w
def spec_l1Any.f (a0_0 : Int) (a0_1 : Int) : Option Bool := some (anyB ⟨a0_0, a0_1⟩)
theorem spec_l1Any.calls (a0_0 : Int) (a0_1 : Int) (r : Bool) (w : World) (h : spec_l1Any.f a0_0 a0_1 = some r) :
    Calls Tryd.prog 46 #[.agg #[.int .i64 a0_0, .int .i64 a0_1]] w fun e w' => e = .returned (.bool r) ∧ Below w.heap.size w w' := by
  obtain rfl := Option.some.inj h
  exact spec_l1Any ⟨a0_0, a0_1⟩ w
def spec_TextOk.f (a0 : ByteArray) : Option Bool := if a0.size ≤ 140737488355328 then some (textOk (bl a0)) else none
theorem spec_TextOk.calls (a0 : ByteArray) (r : Bool) (w : World) (h : spec_TextOk.f a0 = some r) :
    Calls Tryd.prog 30 #[.string a0] w fun e w' => e = .returned (.bool r) ∧ Below w.heap.size w w' := by
  unfold spec_TextOk.f at h
  split at h
  · rename_i hs
    obtain rfl := Option.some.inj h
    rw [← vS_bl]
    refine (spec_TextOk (bl a0) (by rw [bl_len]; exact hs) w).mono ?_
    rintro e w' ⟨rfl, rfl⟩
    exact ⟨rfl, Below.refl _ _⟩
  · cases h
def spec_l2Held.f (a0 : ByteArray) : Option Int := if a0.size ≤ 140737488355328 then some (heldN (bl a0)) else none
theorem spec_l2Held.calls (a0 : ByteArray) (r : Int) (w : World) (h : spec_l2Held.f a0 = some r) :
    Calls Tryd.prog 31 #[.string a0] w fun e w' => e = .returned (.int .i64 r) ∧ Below w.heap.size w w' := by
  unfold spec_l2Held.f at h
  split at h
  · rename_i hs
    obtain rfl := Option.some.inj h
    rw [← vS_bl]
    exact spec_l2Held (bl a0) (by rw [bl_len]; exact hs) w
  · cases h
def optE (o : Option En) : Int × Int × Bool := ((o.getD zEn).addr, (o.getD zEn).port, o.isSome)
def spec_EndRead.f (a0 : ByteArray) : Option (Int × Int × Bool) := if a0.size ≤ 100000000 then some (optE (endRead (bl a0))) else none
theorem spec_EndRead.calls (a0 : ByteArray) (r1 : Int) (r2 : Int) (r3 : Bool) (w : World) (h : spec_EndRead.f a0 = some (r1, r2, r3)) :
    Calls Tryd.prog 56 #[.string a0] w fun e w' => e = .returned (.tuple #[.agg #[.int .i64 r1, .int .i64 r2], .bool r3]) ∧ Below w.heap.size w w' := by
  unfold spec_EndRead.f at h
  split at h
  · rename_i hs
    have h2 := Option.some.inj h
    simp only [optE, Prod.mk.injEq] at h2
    obtain ⟨rfl, rfl, rfl⟩ := h2
    rw [← vS_bl]
    exact spec_EndRead (bl a0) (by rw [bl_len]; exact hs) w
  · cases h
end Go.Proofs.YtijompkonaiagaaDoor.Q
namespace Go.Proofs.YtijompkonaiagaaDoor.Z
open Go.RowKit Go.Proofs.YtijompkonaiagaaDoorW.PrintWords Go.Proofs.YtijompkonaiagaaDoorW.PrintLast
set_option linter.unusedVariables false
set_option linter.unusedSimpArgs false
attribute [local go_sem ↓] Go.wp_at_zero Go.wp_at_succ
attribute [local go_sem high] bytes_append
def l2At (l : List UInt8) (n : Nat) : Option En := if n ≤ l.length ∧ l.getD 0 0 = 64 ∧ l.getD (n - 1) 0 = 59 then endRead ((l.drop 1).take (n - 2)) else none
theorem name_len (e : En) (h : anyB e = true) : (nameOf e).length = 5 ∨ (nameOf e).length = 6 := by
  have := text_len34 e (anyB_mem h)
  unfold nameOf
  simp
  omega
theorem l2At_some {l : List UInt8} {n : Nat} {e : En} (hn : 2 ≤ n) (h : l2At l n = some e) : nm l = some e ∧ (nameOf e).length = n := by
  unfold l2At at h
  split at h
  · rename_i hc
    obtain ⟨h1, h2, h3⟩ := hc
    obtain ⟨ha, ht⟩ := endRead_some h
    obtain ⟨m, rfl⟩ : ∃ m, n = m + 2 := ⟨n - 2, by omega⟩
    have e1 : l = nameOf e ++ l.drop (m + 2) := by
      unfold nameOf
      rw [ht]
      match l, h1, h2, h3 with
      | c :: t, h1, h2, h3 =>
        simp only [List.getD_cons_zero] at h2
        subst h2
        simp only [List.length_cons] at h1
        have h4 : t.getD m 0 = 59 := h3
        have h5 : m < t.length := by omega
        simp only [Nat.add_sub_cancel, List.drop_succ_cons, List.drop_zero, List.cons_append, List.append_assoc, List.singleton_append]
        congr 1
        rw [List.getD_eq_getElem?_getD, List.getElem?_eq_getElem h5] at h4
        simp only [Option.getD_some] at h4
        conv => lhs; rw [← List.take_append_drop m t, List.drop_eq_getElem_cons h5, h4]
        rfl
    have hlen : (nameOf e).length = m + 2 := by
      unfold nameOf
      rw [ht]
      simp
      omega
    refine ⟨?_, hlen⟩
    rw [e1]
    exact nm_name ha _
  · cases h
theorem nm_l2At {l : List UInt8} {e : En} (h : nm l = some e) : l2At l (nameOf e).length = some e := by
  obtain ⟨ha, r, hr⟩ := nm_some h
  unfold l2At
  have h1 : l.getD 0 0 = 64 := by rw [hr]; rfl
  have h2 : (nameOf e).length ≤ l.length := by rw [hr]; simp
  have h3 : l.getD ((nameOf e).length - 1) 0 = 59 := by
    rw [hr]; unfold nameOf; simp [List.getD_eq_getElem?_getD]
  have h4 : (l.drop 1).take ((nameOf e).length - 2) = endText e := by
    rw [hr]; unfold nameOf; simp
  rw [if_pos ⟨h2, h1, h3⟩, h4, endRead_of ha]
theorem nm_of_l2At {l : List UInt8} (h5 : l2At l 5 = none) (h6 : l2At l 6 = none) : nm l = none := by
  cases h : nm l with
  | none => rfl
  | some e =>
    have h1 := nm_l2At h
    rcases name_len e (nm_some h).1 with h2 | h2
    · rw [h2, h5] at h1; cases h1
    · rw [h2, h6] at h1; cases h1
end Go.Proofs.YtijompkonaiagaaDoor.Z
namespace Go.Proofs.YtijompkonaiagaaDoor.Q
open Go.RowKit Go.Proofs.YtijompkonaiagaaDoorW.PrintWords Go.Proofs.YtijompkonaiagaaDoorW.PrintLast Go.Proofs.YtijompkonaiagaaDoorW.PrintMore
attribute [local go_sem] max2_int min2_int max_two min_two max_three min_three max_four min_four
set_option linter.unusedVariables false
set_option linter.unusedSimpArgs false
noncomputable section
mutual
def spec_l2Name.l0 : Nat → ByteArray → Int → Option (Int × Int × Int)
  | 0, _, _ => none
  | k + 1, x0, x4 => if x4 ≤ 6 then (spec_l2Name.j1 k x0 x4 (decide (x4 ≤ (x0.size : Int)))) else (spec_l2Name.j1 k x0 x4 false)
def spec_l2Name.j1 : Nat → ByteArray → Int → Bool → Option (Int × Int × Int)
  | 0, _, _, _ => none
  | k + 1, x0, x4, x14 => if x14 = true then (if 0 < (x0.size : Int) then (if (bt x0 0) = 64 then (if 0 ≤ (wrap64 (x4 - 1)) then (if (wrap64 (x4 - 1)) < (x0.size : Int) then (spec_l2Name.j2 k x0 x4 ((bt x0 (wrap64 (x4 - 1))) == 59)) else (none)) else (none)) else (spec_l2Name.j2 k x0 x4 false)) else (none)) else (some (0, 0, 0))
def spec_l2Name.j2 : Nat → ByteArray → Int → Bool → Option (Int × Int × Int)
  | 0, _, _, _ => none
  | k + 1, x0, x4, x26 => if x26 = true then (if 1 ≤ (wrap64 (x4 - 1)) then (if (wrap64 (x4 - 1)) ≤ (x0.size : Int) then ((spec_EndRead.f (x0.extract 1 ((wrap64 (x4 - 1)) : Int).toNat)).bind fun bt102 => (if bt102.2.2 = true then (some (bt102.1, bt102.2.1, x4)) else (spec_l2Name.l0 k x0 (wrap64 (x4 + 1))))) else (none)) else (none)) else (spec_l2Name.l0 k x0 (wrap64 (x4 + 1)))
end
def spec_l2Name.f (k : Nat) (a0 : ByteArray) : Option (Int × Int × Int) := spec_l2Name.l0 k a0 5
set_option maxHeartbeats 8000000 in
set_option maxRecDepth 100000 in
theorem spec_l2Name.calls (k : Nat) (a0 : ByteArray) (r1 : Int) (r2 : Int) (r3 : Int) (w : World) (h : spec_l2Name.f k a0 = some (r1, r2, r3)) :
    Calls Tryd.prog 52 #[.string a0] w fun e w' => e = .returned (.tuple #[.agg #[.int .i64 r1, .int .i64 r2], .int .i64 r3]) ∧ Below w.heap.size w w' := by
  have hu24 := Tryd.underlying24
  have HB := Aside0.mk (Below.refl w.heap.size w)
  have H : (spec_l2Name.l0 k a0 5) = some (r1, r2, r3) := h
  clear h
  have H' := Aside0.mk H
  clear H
  go_enter Tryd.func52, Tryd.ntmps52
  go_wp2_with (first | ((with_reducible refine gate_dst (N := 2) rfl ?_); (try (refine gate_guard (by rfl) ?_; dsimp only)); refine box_event ?hg (N := 2) ?hd (cs := #[.int .i64 0, .int .i64 0]) (t := 24) ?hr ?_; (case hd => rfl); (case hg => rfl); (case hr => first | (go_simp; done) | (go_simp; rfl)); intro gb101 hg w2 hbox hb; have n0_ := Aside0.mk (below_step (by repeat (first | (with_reducible first | exact HB.out | apply below_alloc | apply pw_below_drewN | apply below_drew1) | exact HB.out)) hb); have n1_ := Aside0.mk (hbox); have n2_ := Aside0.mk ((by rw [hg]; exact (below_size (by repeat (first | (with_reducible first | exact HB.out | apply below_alloc | apply pw_below_drewN | apply below_drew1) | exact HB.out))) : w.heap.size ≤ gb101)); have n3_ := Aside0.mk ((by rw [hg]; exact (below_size (by repeat (first | (with_reducible first | exact HB.out | apply below_alloc | apply pw_below_drewN | apply below_drew1) | exact HB.out))) : w.heap.size ≤ gb101)); clear HB; have HB := n0_; have BK101 := n1_; have GW101 := n2_; have GE101 := n3_; clear n0_ n1_ n2_ n3_; clear hb hbox hg))
  go_loopg [4] k (fun kq v4 w' => ∃ (x4_1 : Int) (x102000_1 : Int) (x102001_1 : Int), v4 = .int .i64 x4_1 ∧ Aside0 (spec_l2Name.l0 kq a0 x4_1 = some (r1, r2, r3)) ∧ Aside0 (kq ≤ k) ∧ Aside0 (w'.heap[gb101]? = some (.cells #[.int .i64 x102000_1, .int .i64 x102001_1] 24 (0, 0))) ∧ Aside0 (Below w.heap.size w w'))
  case atStart => exact ⟨(5), (0), (0), (by first | rfl | (simp; done) | (simp [*]; done)), H', ⟨Nat.le_refl _⟩, ⟨by (with_reducible repeat (first | refine blk_drewN ?_ _ | refine blk_drew ?_ | refine blk_alloc ?_ _)); exact BK101.out⟩, ⟨by repeat (first | (with_reducible first | exact HB.out | apply below_alloc | apply pw_below_drewN | apply below_drew1 | refine below_set ?_ GE101.out) | exact HB.out)⟩⟩
  case round =>
    clear H'
    try clear p2
    obtain ⟨x4_1, x102000_1, x102001_1, rfl, HA, HK1, BK101, HB⟩ := hrel
    cases gk with
    | zero => exact absurd HA.out (by simp [spec_l2Name.l0])
    | succ k1 =>
      have H := HA.out
      clear HA
      simp only [spec_l2Name.l0] at H
      have HC3 := Aside0.mk H
      clear H
      go_upto_region 2 with (fail)
      go_cut [14] (fun v14 wc => ∃ (kq : Nat) (x14_2 : Bool), v14 = .bool x14_2 ∧ Aside0 (spec_l2Name.j1 kq a0 x4_1 x14_2 = some (r1, r2, r3)) ∧ Aside0 (kq ≤ k1) ∧ Aside0 (wc.heap[gb101]? = some (.cells #[.int .i64 x102000_1, .int .i64 x102001_1] 24 (0, 0))) ∧ Aside0 (Below w.heap.size w wc))
      case first =>
        have H := HC3.out
        clear HC3
        by_cases c4 : x4_1 ≤ 6
        · rw [if_pos c4] at H
          have c4b0 : decide (x4_1 ≤ 6) = true := decide_eq_true c4
          clear c4
          (first | rw [c4b0] | (simp only [i64_w, i32_w]; rw [c4b0]) | skip)
          have H' := Aside0.mk H
          clear H
          go_wp2
          go_meet
          case rel => exact ⟨_, (decide (x4_1 ≤ (a0.size : Int))), (by first | rfl | (simp; done) | (simp [*]; done)), H', ⟨by have := HK1.out; first | omega | exact Nat.le_refl _⟩, ⟨by (with_reducible repeat (first | refine blk_drewN ?_ _ | refine blk_drew ?_ | refine blk_alloc ?_ _)); exact BK101.out⟩, ⟨by repeat (first | (with_reducible first | exact HB.out | apply below_alloc | apply pw_below_drewN | apply below_drew1 | refine below_set ?_ GE101.out) | exact HB.out)⟩⟩
        · rw [if_neg c4] at H
          have c4b0 : decide (x4_1 ≤ 6) = false := decide_eq_false c4
          clear c4
          (first | rw [c4b0] | (simp only [i64_w, i32_w]; rw [c4b0]) | skip)
          have H' := Aside0.mk H
          clear H
          go_wp2
          go_meet
          case rel => exact ⟨_, (false), (by first | rfl | (simp; done) | (simp [*]; done)), H', ⟨by have := HK1.out; first | omega | exact Nat.le_refl _⟩, ⟨by (with_reducible repeat (first | refine blk_drewN ?_ _ | refine blk_drew ?_ | refine blk_alloc ?_ _)); exact BK101.out⟩, ⟨by repeat (first | (with_reducible first | exact HB.out | apply below_alloc | apply pw_below_drewN | apply below_drew1 | refine below_set ?_ GE101.out) | exact HB.out)⟩⟩
      case rest =>
        clear HC3
        try clear p2
        try clear c4
        try clear c4b0
        try clear p2
        obtain ⟨kq, x14_2, rfl, HA, HJ2, BK101, HB⟩ := hcut
        cases kq with
        | zero => exact absurd HA.out (by simp [spec_l2Name.j1])
        | succ kj2 =>
          have H := HA.out
          clear HA
          simp only [spec_l2Name.j1] at H
          by_cases c5 : x14_2 = true
          · subst c5
            have H1 : (if 0 < (a0.size : Int) then (if (bt a0 0) = 64 then (if 0 ≤ (wrap64 (x4_1 - 1)) then (if (wrap64 (x4_1 - 1)) < (a0.size : Int) then (spec_l2Name.j2 kj2 a0 x4_1 ((bt a0 (wrap64 (x4_1 - 1))) == 59)) else (none)) else (none)) else (spec_l2Name.j2 kj2 a0 x4_1 false)) else (none)) = some (r1, r2, r3) := by rw [if_pos rfl] at H; exact H
            clear H
            have H := H1
            clear H1
            have HC6 := Aside0.mk H
            clear H
            go_upto_region 4 with (fail)
            go_cut [26] (fun v26 wc => ∃ (kq : Nat) (x26_5 : Bool), v26 = .bool x26_5 ∧ Aside0 (spec_l2Name.j2 kq a0 x4_1 x26_5 = some (r1, r2, r3)) ∧ Aside0 (kq ≤ kj2) ∧ Aside0 (wc.heap[gb101]? = some (.cells #[.int .i64 x102000_1, .int .i64 x102001_1] 24 (0, 0))) ∧ Aside0 (Below w.heap.size w wc))
            case first =>
              have H := HC6.out
              clear HC6
              by_cases c7 : 0 < (a0.size : Int)
              · rw [if_pos c7] at H
                have c7b0 : decide (0 < (a0.size : Int)) = true := decide_eq_true c7
                have c7b1 : decide (0 < a0.size) = true := decide_eq_true (by omega)
                clear c7
                (first | rw [c7b0] | (simp only [i64_w, i32_w]; rw [c7b0]) | skip)
                by_cases c9 : (bt a0 0) = 64
                · rw [if_pos c9] at H
                  have c9b0 : ((bt a0 0) == 64) = true := beq_iff_eq.mpr c9
                  have c9b1 : ((bt a0 0) != 64) = false := bne_eq_false_iff_eq.mpr c9
                  clear c9
                  obtain ⟨ji10, hji10⟩ : ∃ j_ : Int, (wrap64 (x4_1 - 1)) = j_ := ⟨_, rfl⟩
                  replace H : (if 0 ≤ (ji10) then (if (ji10) < (a0.size : Int) then (spec_l2Name.j2 kj2 a0 x4_1 ((bt a0 (ji10)) == 59)) else (none)) else (none)) = some (r1, r2, r3) := by first | (rw [hji10] at H; exact H) | (simp only [hji10] at H ⊢; exact H)
                  have hji10w : (IntKind.i64.wrap (x4_1 - 1)) = ji10 := (i64_w _).trans hji10
                  by_cases c11 : 0 ≤ (ji10)
                  · rw [if_pos c11] at H
                    have c11b0 : decide (0 ≤ (ji10)) = true := decide_eq_true c11
                    clear c11
                    by_cases c12 : (ji10) < (a0.size : Int)
                    · rw [if_pos c12] at H
                      have c12b0 : decide ((ji10) < (a0.size : Int)) = true := decide_eq_true c12
                      clear c12
                      have H' := Aside0.mk H
                      clear H
                      have p8 : 0 ≤ (0 : Int) := (by omega)
                      have q8 : 0 < a0.size := (by have : (0 : Int) < (a0.size : Int) := of_decide_eq_true (by first | (with_reducible assumption) | assumption); omega)
                      have hx8 : ∀ h : 0 < a0.size, ((a0[0]'h).toNat : Int) = bt a0 0 := bt_at a0 0
                      clear p8
                      have qi8 : (0 < (a0.size : Int)) = True := eq_true (of_decide_eq_true (by first | (with_reducible assumption) | assumption))
                      replace q8 := eq_true q8
                      have p13 : 0 ≤ ((ji10) : Int) := of_decide_eq_true (by first | (with_reducible assumption) | assumption)
                      have q13 : (ji10) < (a0.size : Int) := of_decide_eq_true (by first | (with_reducible assumption) | assumption)
                      have hx13 := bt_at a0 (ji10)
                      replace p13 := eq_true p13
                      replace q13 := eq_true q13
                      go_wp2
                      go_meet
                      case rel => exact ⟨_, (((bt a0 (ji10)) == 59)), (by first | rfl | (simp; done) | (simp only [← hji10] <;> (first | rfl | simp)) | (simp [*]; done)), H', ⟨by have := HK1.out; have := HJ2.out; first | omega | exact Nat.le_refl _⟩, ⟨by (with_reducible repeat (first | refine blk_drewN ?_ _ | refine blk_drew ?_ | refine blk_alloc ?_ _)); exact BK101.out⟩, ⟨by repeat (first | (with_reducible first | exact HB.out | apply below_alloc | apply pw_below_drewN | apply below_drew1 | refine below_set ?_ GE101.out) | exact HB.out)⟩⟩
                    · rw [if_neg c12] at H
                      exact absurd H (by simp)
                  · rw [if_neg c11] at H
                    exact absurd H (by simp)
                · rw [if_neg c9] at H
                  have c9b0 : ((bt a0 0) == 64) = false := beq_eq_false_iff_ne.mpr c9
                  have c9b1 : ((bt a0 0) != 64) = true := bne_iff_ne.mpr c9
                  have H' := Aside0.mk H
                  clear H
                  have p8 : 0 ≤ (0 : Int) := (by omega)
                  have q8 : 0 < a0.size := (by have : (0 : Int) < (a0.size : Int) := of_decide_eq_true (by first | (with_reducible assumption) | assumption); omega)
                  have hx8 : ∀ h : 0 < a0.size, ((a0[0]'h).toNat : Int) = bt a0 0 := bt_at a0 0
                  clear p8
                  have qi8 : (0 < (a0.size : Int)) = True := eq_true (of_decide_eq_true (by first | (with_reducible assumption) | assumption))
                  replace q8 := eq_true q8
                  go_wp2
                  go_meet
                  case rel => exact ⟨_, (false), (by first | rfl | (simp; done) | (simp [*]; done)), H', ⟨by have := HK1.out; have := HJ2.out; first | omega | exact Nat.le_refl _⟩, ⟨by (with_reducible repeat (first | refine blk_drewN ?_ _ | refine blk_drew ?_ | refine blk_alloc ?_ _)); exact BK101.out⟩, ⟨by repeat (first | (with_reducible first | exact HB.out | apply below_alloc | apply pw_below_drewN | apply below_drew1 | refine below_set ?_ GE101.out) | exact HB.out)⟩⟩
              · rw [if_neg c7] at H
                exact absurd H (by simp)
            case rest =>
              clear HC6
              try clear c1
              try clear p1
              try clear q1
              try clear hx1
              try clear p2
              try clear c4
              try clear c4b0
              try clear c5
              try clear p6
              try clear c7
              try clear c7b0
              try clear c7b1
              try clear p8
              try clear q8
              try clear hx8
              try clear qi8
              try clear c9
              try clear c9b0
              try clear c9b1
              try clear c11
              try clear c11b0
              try clear c12
              try clear c12b0
              try clear p13
              try clear q13
              try clear hx13
              try clear p13
              try clear p2
              try clear p8
              try clear q13
              try clear q8
              obtain ⟨kq, x26_5, rfl, HA, HJ5, BK101, HB⟩ := hcut
              cases kq with
              | zero => exact absurd HA.out (by simp [spec_l2Name.j2])
              | succ kj5 =>
                have H := HA.out
                clear HA
                simp only [spec_l2Name.j2] at H
                by_cases c14 : x26_5 = true
                · subst c14
                  have H1 : (if 1 ≤ (wrap64 (x4_1 - 1)) then (if (wrap64 (x4_1 - 1)) ≤ (a0.size : Int) then ((spec_EndRead.f (a0.extract 1 ((wrap64 (x4_1 - 1)) : Int).toNat)).bind fun bt102 => (if bt102.2.2 = true then (some (bt102.1, bt102.2.1, x4_1)) else (spec_l2Name.l0 kj5 a0 (wrap64 (x4_1 + 1))))) else (none)) else (none)) = some (r1, r2, r3) := by rw [if_pos rfl] at H; exact H
                  clear H
                  have H := H1
                  clear H1
                  by_cases c15 : 1 ≤ (wrap64 (x4_1 - 1))
                  · rw [if_pos c15] at H
                    have c15b0 := eq_true c15
                    have c15b1 : decide (1 ≤ (wrap64 (x4_1 - 1))) = true := decide_eq_true c15
                    clear c15
                    by_cases c16 : (wrap64 (x4_1 - 1)) ≤ (a0.size : Int)
                    · rw [if_pos c16] at H
                      have c16b0 := eq_true c16
                      have c16b1 : decide ((wrap64 (x4_1 - 1)) ≤ (a0.size : Int)) = true := decide_eq_true c16
                      clear c16
                      replace H := Option.bind_eq_some_iff.mp H
                      obtain ⟨⟨t102, t103, t104⟩, A170, H⟩ := H
                      replace H : (if t104 = true then (some (t102, t103, x4_1)) else (spec_l2Name.l0 kj5 a0 (wrap64 (x4_1 + 1)))) = some (r1, r2, r3) := H
                      have A17 := Aside0.mk A170
                      clear A170
                      by_cases c18 : t104 = true
                      · subst c18
                        have H1 : (some (t102, t103, x4_1)) = some (r1, r2, r3) := by rw [if_pos rfl] at H; exact H
                        clear H
                        have H := H1
                        clear H1
                        simp only [Option.some.injEq, Prod.mk.injEq] at H
                        obtain ⟨rfl, rfl, rfl⟩ := H
                        go_wp2_with (first | ((with_reducible refine gate_callee (f := 56) rfl ?_); refine goesL_ (some 32) rfl rfl Tryd.func56 (by kernel_rfl) rfl #[.string (a0.extract 1 ((wrap64 (x4_1 - 1)) : Int).toNat)] rfl (by (try simp only [List.map_toArray, List.map_cons, List.map_nil]); first | done | rfl | (simp only [List.length_drop, List.length_take]; rfl)) ?_; (with_reducible refine (spec_EndRead.calls (a0.extract 1 ((wrap64 (x4_1 - 1)) : Int).toNat) t102 t103 true _ A17.out).mono ?_); rintro e w19 ⟨rfl, hb⟩; refine ⟨_, rfl, ?_⟩; have n0_ := Aside0.mk (blk_below (g := gb101) (o := .cells #[.int .i64 x102000_1, .int .i64 x102001_1] 24 (0, 0)) (by (with_reducible repeat (first | refine blk_drewN ?_ _ | refine blk_drew ?_ | refine blk_alloc ?_ _)); exact BK101.out) hb); have n1_ := Aside0.mk (below_step (by repeat (first | (with_reducible first | exact HB.out | apply below_alloc | apply pw_below_drewN | apply below_drew1 | refine below_set ?_ GE101.out) | exact HB.out)) hb); clear BK101; clear HB; have BK101 := n0_; have HB := n1_; clear n0_ n1_; (try clear hb); (try clear hb2); (try clear hk); (try clear hi)) | ((with_reducible refine gate_dst (N := 5) rfl ?_); (try (refine gate_guard (by rfl) ?_; dsimp only)); refine box_event ?hg (N := 5) ?hd (cs := #[.int .i64 0, .int .i64 0]) (t := 24) ?hr ?_; (case hd => rfl); (case hg => rfl); (case hr => first | (go_simp; done) | (go_simp; rfl)); intro gb105 hg w20 hbox hb; have n0_ := Aside0.mk (blk_below (g := gb101) (o := .cells #[.int .i64 x102000_1, .int .i64 x102001_1] 24 (0, 0)) (by (with_reducible repeat (first | refine blk_drewN ?_ _ | refine blk_drew ?_ | refine blk_alloc ?_ _)); exact BK101.out) hb); have n1_ := Aside0.mk (below_step (by repeat (first | (with_reducible first | exact HB.out | apply below_alloc | apply pw_below_drewN | apply below_drew1 | refine below_set ?_ GE101.out) | exact HB.out)) hb); have n2_ := Aside0.mk (hbox); have n3_ := Aside0.mk ((by rw [hg]; exact (below_size (by repeat (first | (with_reducible first | exact HB.out | apply below_alloc | apply pw_below_drewN | apply below_drew1 | refine below_set ?_ GE101.out) | exact HB.out))) : w.heap.size ≤ gb105)); have n4_ := Aside0.mk ((by rw [hg]; exact (below_size (by repeat (first | (with_reducible first | exact HB.out | apply below_alloc | apply pw_below_drewN | apply below_drew1 | refine below_set ?_ GE101.out) | exact HB.out))) : w.heap.size ≤ gb105)); have n5_ := Aside0.mk ((by rw [hg]; exact Nat.ne_of_lt (blk_lt (g := gb101) (o := .cells #[.int .i64 x102000_1, .int .i64 x102001_1] 24 (0, 0)) (by (with_reducible repeat (first | refine blk_drewN ?_ _ | refine blk_drew ?_ | refine blk_alloc ?_ _)); exact BK101.out)) : gb101 ≠ gb105)); have n6_ := Aside0.mk ((by rw [hg]; exact Nat.ne_of_gt (blk_lt (g := gb101) (o := .cells #[.int .i64 x102000_1, .int .i64 x102001_1] 24 (0, 0)) (by (with_reducible repeat (first | refine blk_drewN ?_ _ | refine blk_drew ?_ | refine blk_alloc ?_ _)); exact BK101.out)) : gb105 ≠ gb101)); clear BK101; clear HB; have BK101 := n0_; have HB := n1_; have BK105 := n2_; have GW105 := n3_; have GE105 := n4_; have NB101_105 := n5_; have NB105_101 := n6_; clear n0_ n1_ n2_ n3_ n4_ n5_ n6_; clear hb hbox hg; have hnb21 := NB105_101.out; have hnc21 := NB101_105.out; have hcz22_0 : w20.cell? ⟨gb105, 0, none⟩ = some (.int .i64 0) := (blk_cell BK105.out 0).trans rfl; have hcz22_1 : w20.cell? ⟨gb105, 1, none⟩ = some (.int .i64 0) := (blk_cell BK105.out 1).trans rfl; have hfz22_0 := blk_frozen BK105.out 0; have hfz22_1 := blk_frozen BK105.out 1; have hcz23_0 : w20.cell? ⟨gb101, 0, none⟩ = some (.int .i64 x102000_1) := (blk_cell BK101.out 0).trans rfl; have hcz23_1 : w20.cell? ⟨gb101, 1, none⟩ = some (.int .i64 x102001_1) := (blk_cell BK101.out 1).trans rfl; have hfz23_0 := blk_frozen BK101.out 0; have hfz23_1 := blk_frozen BK101.out 1))
                        refine bodyPost_ret (results_ct rfl _ _ gb101 24 #[.int .i64 t102, .int .i64 t103] (0, 0) _ rfl (by (with_reducible repeat (first | refine blk_drewN ?_ _ | refine blk_drew ?_ | refine blk_alloc ?_ _)); refine blk_put (cs := #[.int .i64 t102, .int .i64 x102001_1]) ?_ 1 _ rfl; (with_reducible repeat (first | refine blk_drewN ?_ _ | refine blk_drew ?_ | refine blk_alloc ?_ _)); refine blk_put (cs := #[.int .i64 x102000_1, .int .i64 x102001_1]) ?_ 0 _ rfl; (with_reducible repeat (first | refine blk_drewN ?_ _ | refine blk_drew ?_ | refine blk_alloc ?_ _)); refine blk_far ?_ NB101_105.out _; (with_reducible repeat (first | refine blk_drewN ?_ _ | refine blk_drew ?_ | refine blk_alloc ?_ _)); refine blk_far ?_ NB101_105.out _; (with_reducible repeat (first | refine blk_drewN ?_ _ | refine blk_drew ?_ | refine blk_alloc ?_ _)); exact BK101.out) Tryd.underlying24 rfl (by kernel_rfl)) rfl ?_
                        exact ⟨by first | rfl | (simp [errW_none, errW_some] <;> rfl) | (simp [*, errW_none, errW_some] <;> rfl), by repeat (first | (with_reducible first | exact HB.out | apply below_alloc | apply pw_below_drewN | apply below_drew1 | refine below_set ?_ GE101.out | refine below_set ?_ GE105.out) | exact HB.out)⟩
                      · replace c18 := Bool.eq_false_iff.mpr c18
                        subst c18
                        have H1 : (spec_l2Name.l0 kj5 a0 (wrap64 (x4_1 + 1))) = some (r1, r2, r3) := by rw [if_neg (show ¬ (false = true) by decide)] at H; exact H
                        clear H
                        have H := H1
                        clear H1
                        have H' := Aside0.mk H
                        clear H
                        go_wp2_with (first | ((with_reducible refine gate_callee (f := 56) rfl ?_); refine goesL_ (some 32) rfl rfl Tryd.func56 (by kernel_rfl) rfl #[.string (a0.extract 1 ((wrap64 (x4_1 - 1)) : Int).toNat)] rfl (by (try simp only [List.map_toArray, List.map_cons, List.map_nil]); first | done | rfl | (simp only [List.length_drop, List.length_take]; rfl)) ?_; (with_reducible refine (spec_EndRead.calls (a0.extract 1 ((wrap64 (x4_1 - 1)) : Int).toNat) t102 t103 false _ A17.out).mono ?_); rintro e w24 ⟨rfl, hb⟩; refine ⟨_, rfl, ?_⟩; have n0_ := Aside0.mk (blk_below (g := gb101) (o := .cells #[.int .i64 x102000_1, .int .i64 x102001_1] 24 (0, 0)) (by (with_reducible repeat (first | refine blk_drewN ?_ _ | refine blk_drew ?_ | refine blk_alloc ?_ _)); exact BK101.out) hb); have n1_ := Aside0.mk (below_step (by repeat (first | (with_reducible first | exact HB.out | apply below_alloc | apply pw_below_drewN | apply below_drew1 | refine below_set ?_ GE101.out) | exact HB.out)) hb); clear BK101; clear HB; have BK101 := n0_; have HB := n1_; clear n0_ n1_; (try clear hb); (try clear hb2); (try clear hk); (try clear hi)) | ((with_reducible refine gate_dst (N := 5) rfl ?_); (try (refine gate_guard (by rfl) ?_; dsimp only)); refine box_event ?hg (N := 5) ?hd (cs := #[.int .i64 0, .int .i64 0]) (t := 24) ?hr ?_; (case hd => rfl); (case hg => rfl); (case hr => first | (go_simp; done) | (go_simp; rfl)); intro gb105 hg w25 hbox hb; have n0_ := Aside0.mk (blk_below (g := gb101) (o := .cells #[.int .i64 x102000_1, .int .i64 x102001_1] 24 (0, 0)) (by (with_reducible repeat (first | refine blk_drewN ?_ _ | refine blk_drew ?_ | refine blk_alloc ?_ _)); exact BK101.out) hb); have n1_ := Aside0.mk (below_step (by repeat (first | (with_reducible first | exact HB.out | apply below_alloc | apply pw_below_drewN | apply below_drew1 | refine below_set ?_ GE101.out) | exact HB.out)) hb); have n2_ := Aside0.mk (hbox); have n3_ := Aside0.mk ((by rw [hg]; exact (below_size (by repeat (first | (with_reducible first | exact HB.out | apply below_alloc | apply pw_below_drewN | apply below_drew1 | refine below_set ?_ GE101.out) | exact HB.out))) : w.heap.size ≤ gb105)); have n4_ := Aside0.mk ((by rw [hg]; exact (below_size (by repeat (first | (with_reducible first | exact HB.out | apply below_alloc | apply pw_below_drewN | apply below_drew1 | refine below_set ?_ GE101.out) | exact HB.out))) : w.heap.size ≤ gb105)); have n5_ := Aside0.mk ((by rw [hg]; exact Nat.ne_of_lt (blk_lt (g := gb101) (o := .cells #[.int .i64 x102000_1, .int .i64 x102001_1] 24 (0, 0)) (by (with_reducible repeat (first | refine blk_drewN ?_ _ | refine blk_drew ?_ | refine blk_alloc ?_ _)); exact BK101.out)) : gb101 ≠ gb105)); have n6_ := Aside0.mk ((by rw [hg]; exact Nat.ne_of_gt (blk_lt (g := gb101) (o := .cells #[.int .i64 x102000_1, .int .i64 x102001_1] 24 (0, 0)) (by (with_reducible repeat (first | refine blk_drewN ?_ _ | refine blk_drew ?_ | refine blk_alloc ?_ _)); exact BK101.out)) : gb105 ≠ gb101)); clear BK101; clear HB; have BK101 := n0_; have HB := n1_; have BK105 := n2_; have GW105 := n3_; have GE105 := n4_; have NB101_105 := n5_; have NB105_101 := n6_; clear n0_ n1_ n2_ n3_ n4_ n5_ n6_; clear hb hbox hg; have hnb26 := NB105_101.out; have hnc26 := NB101_105.out; have hcz27_0 : w25.cell? ⟨gb105, 0, none⟩ = some (.int .i64 0) := (blk_cell BK105.out 0).trans rfl; have hcz27_1 : w25.cell? ⟨gb105, 1, none⟩ = some (.int .i64 0) := (blk_cell BK105.out 1).trans rfl; have hfz27_0 := blk_frozen BK105.out 0; have hfz27_1 := blk_frozen BK105.out 1))
                        go_roundg kj5
                        case measure => have := HK1.out; have := HJ2.out; have := HJ5.out; omega
                        case rel => exact ⟨(wrap64 (x4_1 + 1)), (x102000_1), (x102001_1), (by first | rfl | (simp; done) | (simp [*]; done)), H', ⟨by have := HK1.out; have := HJ2.out; have := HJ5.out; omega⟩, ⟨by (with_reducible repeat (first | refine blk_drewN ?_ _ | refine blk_drew ?_ | refine blk_alloc ?_ _)); refine blk_far ?_ NB101_105.out _; (with_reducible repeat (first | refine blk_drewN ?_ _ | refine blk_drew ?_ | refine blk_alloc ?_ _)); refine blk_far ?_ NB101_105.out _; (with_reducible repeat (first | refine blk_drewN ?_ _ | refine blk_drew ?_ | refine blk_alloc ?_ _)); exact BK101.out⟩, ⟨by repeat (first | (with_reducible first | exact HB.out | apply below_alloc | apply pw_below_drewN | apply below_drew1 | refine below_set ?_ GE101.out | refine below_set ?_ GE105.out) | exact HB.out)⟩⟩
                    · rw [if_neg c16] at H
                      exact absurd H (by simp)
                  · rw [if_neg c15] at H
                    exact absurd H (by simp)
                · replace c14 := Bool.eq_false_iff.mpr c14
                  subst c14
                  have H1 : (spec_l2Name.l0 kj5 a0 (wrap64 (x4_1 + 1))) = some (r1, r2, r3) := by rw [if_neg (show ¬ (false = true) by decide)] at H; exact H
                  clear H
                  have H := H1
                  clear H1
                  have H' := Aside0.mk H
                  clear H
                  go_wp2
                  go_roundg kj5
                  case measure => have := HK1.out; have := HJ2.out; have := HJ5.out; omega
                  case rel => exact ⟨(wrap64 (x4_1 + 1)), (x102000_1), (x102001_1), (by first | rfl | (simp; done) | (simp [*]; done)), H', ⟨by have := HK1.out; have := HJ2.out; have := HJ5.out; omega⟩, ⟨by (with_reducible repeat (first | refine blk_drewN ?_ _ | refine blk_drew ?_ | refine blk_alloc ?_ _)); exact BK101.out⟩, ⟨by repeat (first | (with_reducible first | exact HB.out | apply below_alloc | apply pw_below_drewN | apply below_drew1 | refine below_set ?_ GE101.out) | exact HB.out)⟩⟩
          · replace c5 := Bool.eq_false_iff.mpr c5
            subst c5
            have H1 : (some (0, 0, 0)) = some (r1, r2, r3) := by rw [if_neg (show ¬ (false = true) by decide)] at H; exact H
            clear H
            have H := H1
            clear H1
            simp only [Option.some.injEq, Prod.mk.injEq] at H
            obtain ⟨rfl, rfl, rfl⟩ := H
            have hcz28_0 : wc.cell? ⟨gb101, 0, none⟩ = some (.int .i64 x102000_1) := (blk_cell BK101.out 0).trans rfl
            have hcz28_1 : wc.cell? ⟨gb101, 1, none⟩ = some (.int .i64 x102001_1) := (blk_cell BK101.out 1).trans rfl
            have hfz28_0 := blk_frozen BK101.out 0
            have hfz28_1 := blk_frozen BK101.out 1
            go_wp2
            refine bodyPost_ret (results_ct rfl _ _ gb101 24 #[.int .i64 0, .int .i64 0] (0, 0) _ rfl (by (with_reducible repeat (first | refine blk_drewN ?_ _ | refine blk_drew ?_ | refine blk_alloc ?_ _)); refine blk_put (cs := #[.int .i64 0, .int .i64 x102001_1]) ?_ 1 _ rfl; (with_reducible repeat (first | refine blk_drewN ?_ _ | refine blk_drew ?_ | refine blk_alloc ?_ _)); refine blk_put (cs := #[.int .i64 x102000_1, .int .i64 x102001_1]) ?_ 0 _ rfl; (with_reducible repeat (first | refine blk_drewN ?_ _ | refine blk_drew ?_ | refine blk_alloc ?_ _)); exact BK101.out) Tryd.underlying24 rfl (by kernel_rfl)) rfl ?_
            exact ⟨by first | rfl | (simp [errW_none, errW_some] <;> rfl) | (simp [*, errW_none, errW_some] <;> rfl), by repeat (first | (with_reducible first | exact HB.out | apply below_alloc | apply pw_below_drewN | apply below_drew1 | refine below_set ?_ GE101.out) | exact HB.out)⟩
end
end Go.Proofs.YtijompkonaiagaaDoor.Q
namespace Go.Proofs.YtijompkonaiagaaDoor.Q
open Go.RowKit Go.Proofs.YtijompkonaiagaaDoorW.PrintWords Go.Proofs.YtijompkonaiagaaDoorW.PrintLast Go.Proofs.YtijompkonaiagaaDoorW.PrintMore
attribute [local go_sem] max2_int min2_int max_two min_two max_three min_three max_four min_four
set_option linter.unusedVariables false
set_option linter.unusedSimpArgs false
noncomputable section
def spec_l2Pieces.l0 : Nat → ByteArray → List (S56) → Int → Int → Option ((List (S56)))
  | 0, _, _, _, _ => none
  | k + 1, x0, x3, x4, x5 => if x5 < x4 then (if 0 ≤ x5 then (if x5 ≤ x4 then (if x4 ≤ (x0.size : Int) then ((spec_l2Name.f k (x0.extract (x5 : Int).toNat (x4 : Int).toNat)).bind fun bt105 => (if bt105.2.2 > 0 then (if x3.length < 4398046511104 then (spec_l2Pieces.l0 k x0 (x3 ++ [(⟨bt105.2.2, true, (⟨bt105.1, bt105.2.1⟩ : S24)⟩ : S56)]) x4 (wrap64 (x5 + bt105.2.2))) else (none)) else (if x3.length < 4398046511104 then (spec_l2Pieces.l0 k x0 (x3 ++ [(⟨1, false, (⟨0, 0⟩ : S24)⟩ : S56)]) x4 (wrap64 (x5 + 1))) else (none)))) else (none)) else (none)) else (none)) else (some x3)
def spec_l2Pieces.f (k : Nat) (a0 : ByteArray) : Option ((List (S56))) := (spec_l2Held.f a0).bind fun t104 => (spec_l2Pieces.l0 k a0 (([] : List (S56))) (wrap64 ((a0.size : Int) - t104)) 0)
set_option maxHeartbeats 8000000 in
set_option maxRecDepth 100000 in
theorem spec_l2Pieces.calls (k : Nat) (a0 : ByteArray) (r : List (S56)) (w : World) (h : spec_l2Pieces.f k a0 = some r) :
    Calls Tryd.prog 49 #[.string a0] w fun e w' => ∃ v0_ : Value, e = .returned (v0_) ∧ Kd.R k56 56 w' w.heap.size (fun _ => True) v0_ r ∧ Below w.heap.size w w' := by
  have hu24 := Tryd.underlying24
  have hu56 := Tryd.underlying56
  have HB := Aside0.mk (Below.refl w.heap.size w)
  have H : ((spec_l2Held.f a0).bind fun t104 => (spec_l2Pieces.l0 k a0 (([] : List (S56))) (wrap64 ((a0.size : Int) - t104)) 0)) = some r := h
  clear h
  obtain ⟨y101, hy101⟩ : ∃ y_ : List (S56), y_ = (([] : List (S56))) := ⟨_, rfl⟩
  replace H : ((spec_l2Held.f a0).bind fun t104 => (spec_l2Pieces.l0 k a0 y101 (wrap64 ((a0.size : Int) - t104)) 0)) = some r := by first | (rw [hy101]; with_reducible exact H) | (have H2_ := (Option.bind_some _ _).symm.trans H; rw [hy101]; with_reducible exact H2_) | (have H2_ := (Option.bind_some _ _).symm.trans H; with_reducible exact H2_) | with_reducible exact H | (rw [hy101]; exact H) | exact H
  have Ny101 := Aside0.mk hy101
  clear hy101
  replace H := Option.bind_eq_some_iff.mp H
  obtain ⟨t104, A20, H⟩ := H
  replace H : (spec_l2Pieces.l0 k a0 y101 (wrap64 ((a0.size : Int) - t104)) 0) = some r := H
  have A2 := Aside0.mk A20
  clear A20
  have H' := Aside0.mk H
  clear H
  go_enter Tryd.func49, Tryd.ntmps49
  go_wp2_with (first | ((with_reducible refine gate_dst (N := 8) rfl ?_); refine Kd.R_lit k56 _ 56 ?hg (N := 8) ?hd (xs := ([] : List (S56))) (inner := []) (ok := fun _ => True) (okp := fun _ => True) ?hr ?hp (fun _ hk => hk) trivial (Below.refl _ _) (Nat.le_refl _) (by simp) ?_; (case hd => rfl); (case hg => rfl); (case hr => first | (go_simp; done) | (go_simp; rfl)); (case hp => exact (Reps.none _ _)); intro v102 w3 ho4 hb hg_ hnew_; clear hg_ hnew_; (first | rw [← Ny101.out] at ho4 | (simp only [Int.reduceToNat] at ho4; rw [← Ny101.out] at ho4)); have n0_ := Aside0.mk (Kd.R_lower ho4 (below_size (by repeat (first | (with_reducible first | exact HB.out | apply below_alloc | apply pw_below_drewN | apply below_drew1) | exact HB.out)))); have n1_ := Aside0.mk (below_step (by repeat (first | (with_reducible first | exact HB.out | apply below_alloc | apply pw_below_drewN | apply below_drew1) | exact HB.out)) hb); clear HB; have HO103 := n0_; have HB := n1_; clear n0_ n1_; clear hb ho4) | ((with_reducible refine gate_callee (f := 31) rfl ?_); refine goesL_ (some 12) rfl rfl Tryd.func31 (by kernel_rfl) rfl #[.string a0] rfl (by (try simp only [List.map_toArray, List.map_cons, List.map_nil]); first | done | rfl | (simp only [List.length_drop, List.length_take]; rfl)) ?_; (with_reducible refine (spec_l2Held.calls a0 t104 _ A2.out).mono ?_); rintro e w5 ⟨rfl, hb⟩; refine ⟨_, rfl, ?_⟩; have n0_ := Aside0.mk (Kd.R_below (by (with_reducible repeat (first | apply Kd.R_alloc | apply Kd.R_drewN | apply Kd.R_drew)); exact HO103.out) hb); have n1_ := Aside0.mk (below_step (by repeat (first | (with_reducible first | exact HB.out | apply below_alloc | apply pw_below_drewN | apply below_drew1) | exact HB.out)) hb); clear HO103; clear HB; have HO103 := n0_; have HB := n1_; clear n0_ n1_; (try clear hb); (try clear hb2); (try clear hk); (try clear hi)))
  go_loopg [3, 5] k (fun kq v3 v5 w' => ∃ (x3_1 : List (S56)) (x5_1 : Int), v5 = .int .i64 x5_1 ∧ Aside0 (spec_l2Pieces.l0 kq a0 x3_1 (wrap64 ((a0.size : Int) - t104)) x5_1 = some r) ∧ Aside0 (kq ≤ k) ∧ Aside0 (Kd.R k56 56 w' w.heap.size (fun _ => True) v3 x3_1) ∧ Aside0 (Below w.heap.size w w'))
  case atStart => exact ⟨(y101), (0), (by first | rfl | (simp; done) | (simp [*]; done)), H', ⟨Nat.le_refl _⟩, ⟨by (with_reducible repeat (first | apply Kd.R_alloc | apply Kd.R_drewN | apply Kd.R_drew)); exact HO103.out⟩, ⟨by repeat (first | (with_reducible first | exact HB.out | apply below_alloc | apply pw_below_drewN | apply below_drew1) | exact HB.out)⟩⟩
  case round =>
    clear H'
    try clear p2
    try clear c3
    try clear c4
    obtain ⟨x3_1, x5_1, rfl, HA, HK1, HO_3, HB⟩ := hrel
    cases gk with
    | zero => exact absurd HA.out (by simp [spec_l2Pieces.l0])
    | succ k1 =>
      have H := HA.out
      clear HA
      simp only [spec_l2Pieces.l0] at H
      by_cases c6 : x5_1 < (wrap64 ((a0.size : Int) - t104))
      · rw [if_pos c6] at H
        have c6b0 : decide (x5_1 < (wrap64 ((a0.size : Int) - t104))) = true := decide_eq_true c6
        clear c6
        by_cases c7 : 0 ≤ x5_1
        · rw [if_pos c7] at H
          have c7b0 := eq_true c7
          have c7b1 : decide (0 ≤ x5_1) = true := decide_eq_true c7
          clear c7
          by_cases c8 : x5_1 ≤ (wrap64 ((a0.size : Int) - t104))
          · rw [if_pos c8] at H
            have c8b0 := eq_true c8
            have c8b1 : decide (x5_1 ≤ (wrap64 ((a0.size : Int) - t104))) = true := decide_eq_true c8
            clear c8
            by_cases c9 : (wrap64 ((a0.size : Int) - t104)) ≤ (a0.size : Int)
            · rw [if_pos c9] at H
              have c9b0 := eq_true c9
              have c9b1 : decide ((wrap64 ((a0.size : Int) - t104)) ≤ (a0.size : Int)) = true := decide_eq_true c9
              clear c9
              replace H := Option.bind_eq_some_iff.mp H
              obtain ⟨⟨t105, t106, t107⟩, A100, H⟩ := H
              replace H : (if t107 > 0 then (if x3_1.length < 4398046511104 then (spec_l2Pieces.l0 k1 a0 (x3_1 ++ [(⟨t107, true, (⟨t105, t106⟩ : S24)⟩ : S56)]) (wrap64 ((a0.size : Int) - t104)) (wrap64 (x5_1 + t107))) else (none)) else (if x3_1.length < 4398046511104 then (spec_l2Pieces.l0 k1 a0 (x3_1 ++ [(⟨1, false, (⟨0, 0⟩ : S24)⟩ : S56)]) (wrap64 ((a0.size : Int) - t104)) (wrap64 (x5_1 + 1))) else (none))) = some r := H
              have A10 := Aside0.mk A100
              clear A100
              by_cases c11 : t107 > 0
              · rw [if_pos c11] at H
                have c11b0 : decide (0 < t107) = true := decide_eq_true c11
                clear c11
                by_cases c12 : x3_1.length < 4398046511104
                · rw [if_pos c12] at H
                  have LMc12 := Aside0.mk c12
                  clear c12
                  obtain ⟨y109, hy109⟩ : ∃ y_ : List (S56), y_ = (x3_1 ++ [(⟨t107, true, (⟨t105, t106⟩ : S24)⟩ : S56)]) := ⟨_, rfl⟩
                  replace H : (spec_l2Pieces.l0 k1 a0 y109 (wrap64 ((a0.size : Int) - t104)) (wrap64 (x5_1 + t107))) = some r := by first | (rw [hy109]; with_reducible exact H) | (have H2_ := (Option.bind_some _ _).symm.trans H; rw [hy109]; with_reducible exact H2_) | (have H2_ := (Option.bind_some _ _).symm.trans H; with_reducible exact H2_) | with_reducible exact H | (rw [hy109]; exact H) | exact H
                  have Ny109 := Aside0.mk hy109
                  clear hy109
                  have H' := Aside0.mk H
                  clear H
                  go_wp2_with (first | ((with_reducible refine gate_callee (f := 52) rfl ?_); refine goesL_ (some 22) rfl rfl Tryd.func52 (by kernel_rfl) rfl #[.string (a0.extract (x5_1 : Int).toNat ((wrap64 ((a0.size : Int) - t104)) : Int).toNat)] rfl (by (try simp only [List.map_toArray, List.map_cons, List.map_nil]); first | done | rfl | (simp only [List.length_drop, List.length_take]; rfl)) ?_; (with_reducible refine (spec_l2Name.calls k1 (a0.extract (x5_1 : Int).toNat ((wrap64 ((a0.size : Int) - t104)) : Int).toNat) t105 t106 t107 _ A10.out).mono ?_); rintro e w13 ⟨rfl, hb⟩; refine ⟨_, rfl, ?_⟩; have n0_ := Aside0.mk (Kd.R_below (by (with_reducible repeat (first | apply Kd.R_alloc | apply Kd.R_drewN | apply Kd.R_drew)); exact HO_3.out) hb); have n1_ := Aside0.mk (below_step (by repeat (first | (with_reducible first | exact HB.out | apply below_alloc | apply pw_below_drewN | apply below_drew1) | exact HB.out)) hb); clear HO_3; clear HB; have HO_3 := n0_; have HB := n1_; clear n0_ n1_; (try clear hb); (try clear hb2); (try clear hk); (try clear hi)) | ((with_reducible refine gate_dst (N := 6) rfl ?_); refine box_event ?hg (N := 6) ?hd (cs := #[.int .i64 0, .int .i64 0]) (t := 24) ?hr ?_; (case hd => rfl); (case hg => rfl); (case hr => first | (go_simp; done) | (go_simp; rfl)); intro gb108 hg w14 hbox hb; have n0_ := Aside0.mk (Kd.R_below (by (with_reducible repeat (first | apply Kd.R_alloc | apply Kd.R_drewN | apply Kd.R_drew)); exact HO_3.out) hb); have n1_ := Aside0.mk (below_step (by repeat (first | (with_reducible first | exact HB.out | apply below_alloc | apply pw_below_drewN | apply below_drew1) | exact HB.out)) hb); have n2_ := Aside0.mk (hbox); have n3_ := Aside0.mk ((by rw [hg]; exact (below_size (by repeat (first | (with_reducible first | exact HB.out | apply below_alloc | apply pw_below_drewN | apply below_drew1) | exact HB.out))) : w.heap.size ≤ gb108)); have n4_ := Aside0.mk ((by rw [hg]; exact (below_size (by repeat (first | (with_reducible first | exact HB.out | apply below_alloc | apply pw_below_drewN | apply below_drew1) | exact HB.out))) : w.heap.size ≤ gb108)); clear HO_3; clear HB; have HO_3 := n0_; have HB := n1_; have BK108 := n2_; have GW108 := n3_; have GE108 := n4_; clear n0_ n1_ n2_ n3_ n4_; clear hb hbox hg; have hcz15_0 : w14.cell? ⟨gb108, 0, none⟩ = some (.int .i64 0) := (blk_cell BK108.out 0).trans rfl; have hcz15_1 : w14.cell? ⟨gb108, 1, none⟩ = some (.int .i64 0) := (blk_cell BK108.out 1).trans rfl; have hfz15_0 := blk_frozen BK108.out 0; have hfz15_1 := blk_frozen BK108.out 1) | ((with_reducible refine gate_builtin (b := .append) (xs := #[.tmp 27, .tmp 31]) rfl ?_); at_builtin; refine Kd.R_append k56 (w0 := w) w.heap.size rfl (.tmp 27) (.tmp 31) 53 56 (.agg #[(.int .i64 0), (.bool false), (.int .i64 0), (.int .i64 0)]) 32 rfl Tryd.underlying53 info56 rfl (by decide) (by omega) u3 x3_1 (⟨t107, true, (⟨t105, t106⟩ : S24)⟩ : S56) [.int .i64 t107, .bool true, .int .i64 t105, .int .i64 t106] (fun _ => True) (fun _ => False) rfl (by first | (go_simp; done) | (go_simp; rfl)) ?aP (fun _ hk => hk.elim) ?aF ?aO ?aB ?aS ?aL ?_; (case aP => exact k56_mkM _ _ _ (⟨t107, true, (⟨t105, t106⟩ : S24)⟩ : S56)); (case aB => exact (by repeat (first | (with_reducible first | exact HB.out | apply below_alloc | apply pw_below_drewN | apply below_drew1 | refine below_set ?_ GE108.out) | exact HB.out))); (case aF => exact (fun _ _ => trivial)); (case aO => exact (by (with_reducible repeat (first | apply Kd.R_alloc | apply Kd.R_drewN | apply Kd.R_drew)); exact Kd.R_mono (Kd.R_far (p := ⟨gb108, 1, none⟩) (Kd.R_far (p := ⟨gb108, 0, none⟩) (Kd.R_types HO_3.out BK108.out (by decide)) (fun _ hk => hk.2) (.int .i64 t105)) (fun _ hk => hk.2) (.int .i64 t106)) (fun _ hk => trivial))); (case aS => exact (below_size (by repeat (first | (with_reducible first | exact HB.out | apply below_alloc | apply pw_below_drewN | apply below_drew1 | refine below_set ?_ GE108.out) | exact HB.out)))); (case aL => have := LMc12.out; omega); intro v110 w16 ho hb hg hat; rw [← Ny109.out] at ho; have n0_ := Aside0.mk (blk_grown (g := gb108) (o := .cells #[.int .i64 t105, .int .i64 t106] 24 (0, 0)) (by (with_reducible repeat (first | refine blk_drewN ?_ _ | refine blk_drew ?_ | refine blk_alloc ?_ _)); refine blk_put (cs := #[.int .i64 t105, .int .i64 0]) ?_ 1 _ rfl; (with_reducible repeat (first | refine blk_drewN ?_ _ | refine blk_drew ?_ | refine blk_alloc ?_ _)); refine blk_put (cs := #[.int .i64 0, .int .i64 0]) ?_ 0 _ rfl; (with_reducible repeat (first | refine blk_drewN ?_ _ | refine blk_drew ?_ | refine blk_alloc ?_ _)); exact BK108.out) hg (Kd.R_ne HO_3.out BK108.out (by decide))); have n1_ := Aside0.mk (hb); have n2_ := Aside0.mk (ho); clear BK108; clear HB; clear HO_3; have BK108 := n0_; have HB := n1_; have HO111 := n2_; clear n0_ n1_ n2_; clear ho hb hg hat))
                  go_roundg k1
                  case measure => have := HK1.out; omega
                  case rel => exact ⟨(y109), (wrap64 (x5_1 + t107)), (by first | rfl | (simp; done) | (simp [*]; done)), H', ⟨by have := HK1.out; omega⟩, ⟨by (with_reducible repeat (first | apply Kd.R_alloc | apply Kd.R_drewN | apply Kd.R_drew)); exact HO111.out⟩, ⟨by repeat (first | (with_reducible first | exact HB.out | apply below_alloc | apply pw_below_drewN | apply below_drew1 | refine below_set ?_ GE108.out) | exact HB.out)⟩⟩
                · rw [if_neg c12] at H
                  exact absurd H (by simp)
              · rw [if_neg c11] at H
                have c11b0 : decide (0 < t107) = false := decide_eq_false c11
                clear c11
                by_cases c17 : x3_1.length < 4398046511104
                · rw [if_pos c17] at H
                  have LMc17 := Aside0.mk c17
                  clear c17
                  obtain ⟨y112, hy112⟩ : ∃ y_ : List (S56), y_ = (x3_1 ++ [(⟨1, false, (⟨0, 0⟩ : S24)⟩ : S56)]) := ⟨_, rfl⟩
                  replace H : (spec_l2Pieces.l0 k1 a0 y112 (wrap64 ((a0.size : Int) - t104)) (wrap64 (x5_1 + 1))) = some r := by first | (rw [hy112]; with_reducible exact H) | (have H2_ := (Option.bind_some _ _).symm.trans H; rw [hy112]; with_reducible exact H2_) | (have H2_ := (Option.bind_some _ _).symm.trans H; with_reducible exact H2_) | with_reducible exact H | (rw [hy112]; exact H) | exact H
                  have Ny112 := Aside0.mk hy112
                  clear hy112
                  have H' := Aside0.mk H
                  clear H
                  go_wp2_with (first | ((with_reducible refine gate_callee (f := 52) rfl ?_); refine goesL_ (some 22) rfl rfl Tryd.func52 (by kernel_rfl) rfl #[.string (a0.extract (x5_1 : Int).toNat ((wrap64 ((a0.size : Int) - t104)) : Int).toNat)] rfl (by (try simp only [List.map_toArray, List.map_cons, List.map_nil]); first | done | rfl | (simp only [List.length_drop, List.length_take]; rfl)) ?_; (with_reducible refine (spec_l2Name.calls k1 (a0.extract (x5_1 : Int).toNat ((wrap64 ((a0.size : Int) - t104)) : Int).toNat) t105 t106 t107 _ A10.out).mono ?_); rintro e w18 ⟨rfl, hb⟩; refine ⟨_, rfl, ?_⟩; have n0_ := Aside0.mk (Kd.R_below (by (with_reducible repeat (first | apply Kd.R_alloc | apply Kd.R_drewN | apply Kd.R_drew)); exact HO_3.out) hb); have n1_ := Aside0.mk (below_step (by repeat (first | (with_reducible first | exact HB.out | apply below_alloc | apply pw_below_drewN | apply below_drew1) | exact HB.out)) hb); clear HO_3; clear HB; have HO_3 := n0_; have HB := n1_; clear n0_ n1_; (try clear hb); (try clear hb2); (try clear hk); (try clear hi)) | ((with_reducible refine gate_dst (N := 6) rfl ?_); refine box_event ?hg (N := 6) ?hd (cs := #[.int .i64 0, .int .i64 0]) (t := 24) ?hr ?_; (case hd => rfl); (case hg => rfl); (case hr => first | (go_simp; done) | (go_simp; rfl)); intro gb108 hg w19 hbox hb; have n0_ := Aside0.mk (Kd.R_below (by (with_reducible repeat (first | apply Kd.R_alloc | apply Kd.R_drewN | apply Kd.R_drew)); exact HO_3.out) hb); have n1_ := Aside0.mk (below_step (by repeat (first | (with_reducible first | exact HB.out | apply below_alloc | apply pw_below_drewN | apply below_drew1) | exact HB.out)) hb); have n2_ := Aside0.mk (hbox); have n3_ := Aside0.mk ((by rw [hg]; exact (below_size (by repeat (first | (with_reducible first | exact HB.out | apply below_alloc | apply pw_below_drewN | apply below_drew1) | exact HB.out))) : w.heap.size ≤ gb108)); have n4_ := Aside0.mk ((by rw [hg]; exact (below_size (by repeat (first | (with_reducible first | exact HB.out | apply below_alloc | apply pw_below_drewN | apply below_drew1) | exact HB.out))) : w.heap.size ≤ gb108)); clear HO_3; clear HB; have HO_3 := n0_; have HB := n1_; have BK108 := n2_; have GW108 := n3_; have GE108 := n4_; clear n0_ n1_ n2_ n3_ n4_; clear hb hbox hg; have hcz20_0 : w19.cell? ⟨gb108, 0, none⟩ = some (.int .i64 0) := (blk_cell BK108.out 0).trans rfl; have hcz20_1 : w19.cell? ⟨gb108, 1, none⟩ = some (.int .i64 0) := (blk_cell BK108.out 1).trans rfl; have hfz20_0 := blk_frozen BK108.out 0; have hfz20_1 := blk_frozen BK108.out 1) | ((with_reducible refine gate_builtin (b := .append) (xs := #[.tmp 33, .tmp 35]) rfl ?_); at_builtin; refine Kd.R_append k56 (w0 := w) w.heap.size rfl (.tmp 33) (.tmp 35) 53 56 (.agg #[(.int .i64 0), (.bool false), (.int .i64 0), (.int .i64 0)]) 32 rfl Tryd.underlying53 info56 rfl (by decide) (by omega) u3 x3_1 (⟨1, false, (⟨0, 0⟩ : S24)⟩ : S56) [.int .i64 1, .bool false, .int .i64 0, .int .i64 0] (fun _ => True) (fun _ => False) rfl (by first | (go_simp; done) | (go_simp; rfl)) ?aP (fun _ hk => hk.elim) ?aF ?aO ?aB ?aS ?aL ?_; (case aP => exact k56_mkM _ _ _ (⟨1, false, (⟨0, 0⟩ : S24)⟩ : S56)); (case aB => exact (by repeat (first | (with_reducible first | exact HB.out | apply below_alloc | apply pw_below_drewN | apply below_drew1 | refine below_set ?_ GE108.out) | exact HB.out))); (case aF => exact (fun _ _ => trivial)); (case aO => exact (by (with_reducible repeat (first | apply Kd.R_alloc | apply Kd.R_drewN | apply Kd.R_drew)); exact Kd.R_mono (Kd.R_far (p := ⟨gb108, 1, none⟩) (Kd.R_far (p := ⟨gb108, 0, none⟩) (Kd.R_types HO_3.out BK108.out (by decide)) (fun _ hk => hk.2) (.int .i64 t105)) (fun _ hk => hk.2) (.int .i64 t106)) (fun _ hk => trivial))); (case aS => exact (below_size (by repeat (first | (with_reducible first | exact HB.out | apply below_alloc | apply pw_below_drewN | apply below_drew1 | refine below_set ?_ GE108.out) | exact HB.out)))); (case aL => have := LMc17.out; omega); intro v113 w21 ho hb hg hat; rw [← Ny112.out] at ho; have n0_ := Aside0.mk (blk_grown (g := gb108) (o := .cells #[.int .i64 t105, .int .i64 t106] 24 (0, 0)) (by (with_reducible repeat (first | refine blk_drewN ?_ _ | refine blk_drew ?_ | refine blk_alloc ?_ _)); refine blk_put (cs := #[.int .i64 t105, .int .i64 0]) ?_ 1 _ rfl; (with_reducible repeat (first | refine blk_drewN ?_ _ | refine blk_drew ?_ | refine blk_alloc ?_ _)); refine blk_put (cs := #[.int .i64 0, .int .i64 0]) ?_ 0 _ rfl; (with_reducible repeat (first | refine blk_drewN ?_ _ | refine blk_drew ?_ | refine blk_alloc ?_ _)); exact BK108.out) hg (Kd.R_ne HO_3.out BK108.out (by decide))); have n1_ := Aside0.mk (hb); have n2_ := Aside0.mk (ho); clear BK108; clear HB; clear HO_3; have BK108 := n0_; have HB := n1_; have HO114 := n2_; clear n0_ n1_ n2_; clear ho hb hg hat))
                  go_roundg k1
                  case measure => have := HK1.out; omega
                  case rel => exact ⟨(y112), (wrap64 (x5_1 + 1)), (by first | rfl | (simp; done) | (simp [*]; done)), H', ⟨by have := HK1.out; omega⟩, ⟨by (with_reducible repeat (first | apply Kd.R_alloc | apply Kd.R_drewN | apply Kd.R_drew)); exact HO114.out⟩, ⟨by repeat (first | (with_reducible first | exact HB.out | apply below_alloc | apply pw_below_drewN | apply below_drew1 | refine below_set ?_ GE108.out) | exact HB.out)⟩⟩
                · rw [if_neg c17] at H
                  exact absurd H (by simp)
            · rw [if_neg c9] at H
              exact absurd H (by simp)
          · rw [if_neg c8] at H
            exact absurd H (by simp)
        · rw [if_neg c7] at H
          exact absurd H (by simp)
      · rw [if_neg c6] at H
        have c6b0 : decide (x5_1 < (wrap64 ((a0.size : Int) - t104))) = false := decide_eq_false c6
        clear c6
        obtain rfl := Option.some.inj H
        go_wp2
        go_ret
        exact ⟨_, by first | rfl | (simp [errW_none, errW_some] <;> rfl) | (simp [*, errW_none, errW_some] <;> rfl), by (with_reducible repeat (first | apply Kd.R_alloc | apply Kd.R_drewN | apply Kd.R_drew)); exact HO_3.out, by repeat (first | (with_reducible first | exact HB.out | apply below_alloc | apply pw_below_drewN | apply below_drew1) | exact HB.out)⟩
end
end Go.Proofs.YtijompkonaiagaaDoor.Q
namespace Go.Proofs.YtijompkonaiagaaDoor.Q
open Go.RowKit Go.Proofs.YtijompkonaiagaaDoorW.PrintWords Go.Proofs.YtijompkonaiagaaDoorW.PrintLast Go.Proofs.YtijompkonaiagaaDoorW.PrintMore Go.Proofs.YtijompkonaiagaaDoor.Z
attribute [local go_sem] max2_int min2_int max_two min_two max_three min_three max_four min_four
set_option linter.unusedVariables false
set_option linter.unusedSimpArgs false
noncomputable section
def impl_pieces.l0 : Nat → List (S56) → ByteArray → Option ((List (S56)))
  | 0, _, _ => none
  | k + 1, x3, x4 => if x4.toList = ([] : List UInt8) then ((slices_Clip_Piece.f x3).bind fun t105 => (some t105)) else ((impl_piece.f x4).bind fun bt108 => (if x3.length < 4398046511104 then (if 0 ≤ bt108.1 then (if bt108.1 ≤ (x4.size : Int) then (impl_pieces.l0 k (x3 ++ [(⟨bt108.1, bt108.2.1, (⟨bt108.2.2.1, bt108.2.2.2⟩ : S24)⟩ : S56)]) (x4.extract (bt108.1 : Int).toNat x4.size)) else (none)) else (none)) else (none)))
def impl_pieces.f (k : Nat) (a0 : ByteArray) : Option ((List (S56))) := (impl_held.f a0).bind fun t104 => (if 0 ≤ (wrap64 ((a0.size : Int) - t104)) then (if (wrap64 ((a0.size : Int) - t104)) ≤ (a0.size : Int) then (impl_pieces.l0 k (([] : List (S56))) (a0.extract 0 ((wrap64 ((a0.size : Int) - t104)) : Int).toNat)) else (none)) else (none))
set_option maxHeartbeats 8000000 in
set_option maxRecDepth 100000 in
theorem impl_pieces.calls (k : Nat) (a0 : ByteArray) (r : List (S56)) (w : World) (hV : VarsIn w) (h : impl_pieces.f k a0 = some r) :
    Calls Tryd.prog 45 #[.string a0] w fun e w' => ∃ v0_ : Value, e = .returned (v0_) ∧ Kd.V k56 56 w' w.heap.size (fun k_ => (w.heap.size ≤ k_)) v0_ r ∧ Below w.heap.size w w' := by
  have hu56 := Tryd.underlying56
  have HB := Aside0.mk (Below.refl w.heap.size w)
  have H : ((impl_held.f a0).bind fun t104 => (if 0 ≤ (wrap64 ((a0.size : Int) - t104)) then (if (wrap64 ((a0.size : Int) - t104)) ≤ (a0.size : Int) then (impl_pieces.l0 k (([] : List (S56))) (a0.extract 0 ((wrap64 ((a0.size : Int) - t104)) : Int).toNat)) else (none)) else (none))) = some r := h
  clear h
  obtain ⟨y101, hy101⟩ : ∃ y_ : List (S56), y_ = (([] : List (S56))) := ⟨_, rfl⟩
  replace H : ((impl_held.f a0).bind fun t104 => (if 0 ≤ (wrap64 ((a0.size : Int) - t104)) then (if (wrap64 ((a0.size : Int) - t104)) ≤ (a0.size : Int) then (impl_pieces.l0 k y101 (a0.extract 0 ((wrap64 ((a0.size : Int) - t104)) : Int).toNat)) else (none)) else (none))) = some r := by first | (rw [hy101]; with_reducible exact H) | (have H2_ := (Option.bind_some _ _).symm.trans H; rw [hy101]; with_reducible exact H2_) | (have H2_ := (Option.bind_some _ _).symm.trans H; with_reducible exact H2_) | with_reducible exact H | (rw [hy101]; exact H) | exact H
  have Ny101 := Aside0.mk hy101
  clear hy101
  replace H := Option.bind_eq_some_iff.mp H
  obtain ⟨t104, A20, H⟩ := H
  replace H : (if 0 ≤ (wrap64 ((a0.size : Int) - t104)) then (if (wrap64 ((a0.size : Int) - t104)) ≤ (a0.size : Int) then (impl_pieces.l0 k y101 (a0.extract 0 ((wrap64 ((a0.size : Int) - t104)) : Int).toNat)) else (none)) else (none)) = some r := H
  have A2 := Aside0.mk A20
  clear A20
  obtain ⟨ji3, hji3⟩ : ∃ j_ : Int, (wrap64 ((a0.size : Int) - t104)) = j_ := ⟨_, rfl⟩
  replace H : (if 0 ≤ (ji3) then (if (ji3) ≤ (a0.size : Int) then (impl_pieces.l0 k y101 (a0.extract 0 ((ji3) : Int).toNat)) else (none)) else (none)) = some r := by first | (rw [hji3] at H; exact H) | (simp only [hji3] at H ⊢; exact H)
  (try rw [hji3] at A2)
  have hji3w : (IntKind.i64.wrap ((a0.size : Int) - t104)) = ji3 := (i64_w _).trans hji3
  by_cases c4 : 0 ≤ (ji3)
  · rw [if_pos c4] at H
    have c4b0 := eq_true c4
    have c4b1 : decide (0 ≤ (ji3)) = true := decide_eq_true c4
    clear c4
    by_cases c5 : (ji3) ≤ (a0.size : Int)
    · rw [if_pos c5] at H
      have c5b0 := eq_true c5
      have c5b1 : decide ((ji3) ≤ (a0.size : Int)) = true := decide_eq_true c5
      clear c5
      have H' := Aside0.mk H
      clear H
      go_enter Tryd.func45, Tryd.ntmps45
      go_wp2_with (first | ((with_reducible refine gate_dst (N := 6) rfl ?_); refine Kd.R_lit k56 _ 56 ?hg (N := 6) ?hd (xs := ([] : List (S56))) (inner := []) (ok := fun _ => True) (okp := fun _ => True) ?hr ?hp (fun _ hk => hk) trivial (Below.refl _ _) (Nat.le_refl _) (by simp) ?_; (case hd => rfl); (case hg => rfl); (case hr => first | (go_simp; done) | (go_simp; rfl)); (case hp => exact (Reps.none _ _)); intro v102 w6 ho7 hb hg_ hnew_; clear hg_ hnew_; (first | rw [← Ny101.out] at ho7 | (simp only [Int.reduceToNat] at ho7; rw [← Ny101.out] at ho7)); have n0_ := Aside0.mk (Kd.R_lower (Kd.R_newM (M := fun k_ => (w.heap.size ≤ k_)) ho7 (below_size (by repeat (first | (with_reducible first | exact HB.out | apply below_alloc | apply pw_below_drewN | apply below_drew1) | exact HB.out))) (fun k_ h_ => h_)) (below_size (by repeat (first | (with_reducible first | exact HB.out | apply below_alloc | apply pw_below_drewN | apply below_drew1) | exact HB.out)))); have n1_ := Aside0.mk (below_step (by repeat (first | (with_reducible first | exact HB.out | apply below_alloc | apply pw_below_drewN | apply below_drew1) | exact HB.out)) hb); clear HB; have HO103 := n0_; have HB := n1_; clear n0_ n1_; clear hb ho7) | ((with_reducible refine gate_callee (f := 34) rfl ?_); refine goesL_ (some 11) rfl rfl Tryd.func34 (by kernel_rfl) rfl #[.string a0] rfl (by (try simp only [List.map_toArray, List.map_cons, List.map_nil]); first | done | rfl | (simp only [List.length_drop, List.length_take]; rfl)) ?_; (with_reducible refine (impl_held.calls a0 t104 _ A2.out).mono ?_); rintro e w8 ⟨rfl, hb⟩; refine ⟨_, rfl, ?_⟩; have n0_ := Aside0.mk (Kd.R_below (by (with_reducible repeat (first | apply Kd.R_alloc | apply Kd.R_drewN | apply Kd.R_drew)); exact HO103.out) hb); have n1_ := Aside0.mk (below_step (by repeat (first | (with_reducible first | exact HB.out | apply below_alloc | apply pw_below_drewN | apply below_drew1) | exact HB.out)) hb); clear HO103; clear HB; have HO103 := n0_; have HB := n1_; clear n0_ n1_; (try clear hb); (try clear hb2); (try clear hk); (try clear hi)))
      go_loopg [3, 4] k (fun kq v3 v4 w' => ∃ (x3_1 : List (S56)) (x4_1 : ByteArray), v4 = .string x4_1 ∧ Aside0 (impl_pieces.l0 kq x3_1 x4_1 = some r) ∧ Aside0 (kq ≤ k) ∧ Aside0 (Kd.R k56 56 w' w.heap.size (fun k_ => (w.heap.size ≤ k_)) v3 x3_1) ∧ Aside0 (Below w.heap.size w w'))
      case atStart => exact ⟨(y101), (a0.extract 0 ((ji3) : Int).toNat), (by first | rfl | (simp; done) | (simp only [← hji3] <;> (first | rfl | simp)) | (simp [*]; done)), H', ⟨Nat.le_refl _⟩, ⟨by (with_reducible repeat (first | apply Kd.R_alloc | apply Kd.R_drewN | apply Kd.R_drew)); exact Kd.R_mono HO103.out (fun _ hk => hk.1)⟩, ⟨by repeat (first | (with_reducible first | exact HB.out | apply below_alloc | apply pw_below_drewN | apply below_drew1) | exact HB.out)⟩⟩
      case round =>
        clear H'
        try clear p2
        try clear c3
        try clear c4
        try clear c4b0
        try clear c4b1
        try clear c5
        try clear c5b0
        try clear c5b1
        try clear p6
        obtain ⟨x3_1, x4_1, rfl, HA, HK1, HO_3, HB⟩ := hrel
        cases gk with
        | zero => exact absurd HA.out (by simp [impl_pieces.l0])
        | succ k1 =>
          have H := HA.out
          clear HA
          simp only [impl_pieces.l0] at H
          by_cases c9 : x4_1.toList = ([] : List UInt8)
          · rw [if_pos c9] at H
            have c9b0 : (x4_1.toList == ([] : List UInt8)) = true := beq_iff_eq.mpr c9
            have c9b1 : (x4_1.toList != ([] : List UInt8)) = false := bne_eq_false_iff_eq.mpr c9
            clear c9
            replace H := Option.bind_eq_some_iff.mp H
            obtain ⟨t105, A100, H⟩ := H
            replace H : (some t105) = some r := H
            have A10 := Aside0.mk A100
            clear A100
            obtain rfl := Option.some.inj H
            obtain ⟨Ao11, co11, eo11⟩ := Kd.R_slice HO_3.out
            subst eo11
            go_wp2_with (first | ((with_reducible refine gate_callee (f := 51) rfl ?_); refine goesL_ (some 27) rfl rfl Tryd.func51 (by kernel_rfl) rfl #[.slice Ao11 x3_1.length co11] rfl (by (try simp only [List.map_toArray, List.map_cons, List.map_nil]); first | done | rfl | (simp only [List.length_drop, List.length_take]; rfl)) ?_; (with_reducible refine (slices_Clip_Piece.calls (fun k_ => some k_ = (.slice Ao11 x3_1.length co11 : Value).ownBlock) _ _ x3_1 t105 _ ?side1 A10.out).mono ?_); (case side1 => exact Kd.R_V (Kd.R_tight rfl (HO_3.out))); rintro e w12 ⟨v106, rfl, ho0, hb⟩; refine ⟨_, rfl, ?_⟩; have n0_ := Aside0.mk (Kd.R_below (by (with_reducible repeat (first | apply Kd.R_alloc | apply Kd.R_drewN | apply Kd.R_drew)); exact HO_3.out) hb); have n1_ := Aside0.mk (Kd.V_lower (Kd.V_mono (ok' := fun k_ => (w.heap.size ≤ k_)) ho0 (fun k_ hk_ => Or.elim hk_ (fun hs_ => ((HO_3.out).1 k_ hs_.symm)) (fun hn_ => (Nat.le_trans (below_size (by repeat (first | (with_reducible first | exact HB.out | apply below_alloc | apply pw_below_drewN | apply below_drew1) | exact HB.out))) hn_)))) (below_size (by repeat (first | (with_reducible first | exact HB.out | apply below_alloc | apply pw_below_drewN | apply below_drew1) | exact HB.out)))); have n2_ := Aside0.mk (below_step (by repeat (first | (with_reducible first | exact HB.out | apply below_alloc | apply pw_below_drewN | apply below_drew1) | exact HB.out)) hb); clear HO_3; clear HB; have HO_3 := n0_; have HO107 := n1_; have HB := n2_; clear n0_ n1_ n2_; (try clear hb); (try clear hb2); (try clear hk); (try clear hi); (try clear ho0)))
            go_ret
            exact ⟨_, by first | rfl | (simp [errW_none, errW_some] <;> rfl) | (simp only [← hji3]; first | rfl | (simp [errW_none, errW_some] <;> rfl)) | (simp [*, errW_none, errW_some] <;> rfl), by (with_reducible repeat (first | apply Kd.V_alloc | apply Kd.V_drewN | apply Kd.V_drew)); exact HO107.out, by repeat (first | (with_reducible first | exact HB.out | apply below_alloc | apply pw_below_drewN | apply below_drew1) | exact HB.out)⟩
          · rw [if_neg c9] at H
            have c9b0 : (x4_1.toList == ([] : List UInt8)) = false := beq_eq_false_iff_ne.mpr c9
            have c9b1 : (x4_1.toList != ([] : List UInt8)) = true := bne_iff_ne.mpr c9
            replace H := Option.bind_eq_some_iff.mp H
            obtain ⟨⟨t108, t109, t110, t111⟩, A130, H⟩ := H
            replace H : (if x3_1.length < 4398046511104 then (if 0 ≤ t108 then (if t108 ≤ (x4_1.size : Int) then (impl_pieces.l0 k1 (x3_1 ++ [(⟨t108, t109, (⟨t110, t111⟩ : S24)⟩ : S56)]) (x4_1.extract (t108 : Int).toNat x4_1.size)) else (none)) else (none)) else (none)) = some r := H
            have A13 := Aside0.mk A130
            clear A130
            by_cases c14 : x3_1.length < 4398046511104
            · rw [if_pos c14] at H
              have LMc14 := Aside0.mk c14
              clear c14
              obtain ⟨y113, hy113⟩ : ∃ y_ : List (S56), y_ = (x3_1 ++ [(⟨t108, t109, (⟨t110, t111⟩ : S24)⟩ : S56)]) := ⟨_, rfl⟩
              replace H : (if 0 ≤ t108 then (if t108 ≤ (x4_1.size : Int) then (impl_pieces.l0 k1 y113 (x4_1.extract (t108 : Int).toNat x4_1.size)) else (none)) else (none)) = some r := by first | (rw [hy113]; with_reducible exact H) | (have H2_ := (Option.bind_some _ _).symm.trans H; rw [hy113]; with_reducible exact H2_) | (have H2_ := (Option.bind_some _ _).symm.trans H; with_reducible exact H2_) | with_reducible exact H | (rw [hy113]; exact H) | exact H
              have Ny113 := Aside0.mk hy113
              clear hy113
              by_cases c15 : 0 ≤ t108
              · rw [if_pos c15] at H
                have c15b0 := eq_true c15
                have c15b1 : decide (0 ≤ t108) = true := decide_eq_true c15
                clear c15
                by_cases c16 : t108 ≤ (x4_1.size : Int)
                · rw [if_pos c16] at H
                  have c16b0 := eq_true c16
                  have c16b1 : decide (t108 ≤ (x4_1.size : Int)) = true := decide_eq_true c16
                  clear c16
                  have H' := Aside0.mk H
                  clear H
                  go_wp2_with (first | ((with_reducible refine gate_callee (f := 50) rfl ?_); refine goesL_ (some 17) rfl rfl Tryd.func50 (by kernel_rfl) rfl #[.string x4_1] rfl (by (try simp only [List.map_toArray, List.map_cons, List.map_nil]); first | done | rfl | (simp only [List.length_drop, List.length_take]; rfl)) ?_; (with_reducible refine (impl_piece.calls x4_1 t108 t109 t110 t111 _ ?side1 A13.out).mono ?_); (case side1 => exact hV.next (by repeat (first | (with_reducible first | exact HB.out | apply below_alloc | apply pw_below_drewN | apply below_drew1) | exact HB.out))); rintro e w17 ⟨rfl, hb⟩; refine ⟨_, rfl, ?_⟩; have n0_ := Aside0.mk (Kd.R_below (by (with_reducible repeat (first | apply Kd.R_alloc | apply Kd.R_drewN | apply Kd.R_drew)); exact HO_3.out) hb); have n1_ := Aside0.mk (below_step (by repeat (first | (with_reducible first | exact HB.out | apply below_alloc | apply pw_below_drewN | apply below_drew1) | exact HB.out)) hb); clear HO_3; clear HB; have HO_3 := n0_; have HB := n1_; clear n0_ n1_; (try clear hb); (try clear hb2); (try clear hk); (try clear hi)) | ((with_reducible refine gate_dst (N := 5) rfl ?_); refine box_event ?hg (N := 5) ?hd (cs := #[.int .i64 0, .bool false, .int .i64 0, .int .i64 0]) (t := 56) ?hr ?_; (case hd => rfl); (case hg => rfl); (case hr => first | (go_simp; done) | (go_simp; rfl)); intro gb112 hg w18 hbox hb; have n0_ := Aside0.mk (Kd.R_below (Kd.R_elderB (by (with_reducible repeat (first | apply Kd.R_alloc | apply Kd.R_drewN | apply Kd.R_drew)); exact HO_3.out) gb112 (Nat.le_of_eq hg.symm)) hb); have n1_ := Aside0.mk (below_step (by repeat (first | (with_reducible first | exact HB.out | apply below_alloc | apply pw_below_drewN | apply below_drew1) | exact HB.out)) hb); have n2_ := Aside0.mk (hbox); have n3_ := Aside0.mk ((by rw [hg]; exact (below_size (by repeat (first | (with_reducible first | exact HB.out | apply below_alloc | apply pw_below_drewN | apply below_drew1) | exact HB.out))) : w.heap.size ≤ gb112)); have n4_ := Aside0.mk ((by rw [hg]; exact (below_size (by repeat (first | (with_reducible first | exact HB.out | apply below_alloc | apply pw_below_drewN | apply below_drew1) | exact HB.out))) : w.heap.size ≤ gb112)); clear HO_3; clear HB; have HO_3 := n0_; have HB := n1_; have BK112 := n2_; have GW112 := n3_; have GE112 := n4_; clear n0_ n1_ n2_ n3_ n4_; clear hb hbox hg; have hcz19_0 : w18.cell? ⟨gb112, 0, none⟩ = some (.int .i64 0) := (blk_cell BK112.out 0).trans rfl; have hcz19_1 : w18.cell? ⟨gb112, 1, none⟩ = some (.bool false) := (blk_cell BK112.out 1).trans rfl; have hcz19_2 : w18.cell? ⟨gb112, 2, none⟩ = some (.int .i64 0) := (blk_cell BK112.out 2).trans rfl; have hcz19_3 : w18.cell? ⟨gb112, 3, none⟩ = some (.int .i64 0) := (blk_cell BK112.out 3).trans rfl; have hfz19_0 := blk_frozen BK112.out 0; have hfz19_1 := blk_frozen BK112.out 1; have hfz19_2 := blk_frozen BK112.out 2; have hfz19_3 := blk_frozen BK112.out 3) | ((with_reducible refine gate_builtin (b := .append) (xs := #[.tmp 18, .tmp 20]) rfl ?_); at_builtin; refine Kd.R_append k56 (w0 := w) w.heap.size rfl (.tmp 18) (.tmp 20) 53 56 (.agg #[(.int .i64 0), (.bool false), (.int .i64 0), (.int .i64 0)]) 32 rfl Tryd.underlying53 info56 rfl (by decide) (by omega) u3 x3_1 (⟨t108, t109, (⟨t110, t111⟩ : S24)⟩ : S56) [.int .i64 t108, .bool t109, .int .i64 t110, .int .i64 t111] (fun k_ => (w.heap.size ≤ k_) ∧ k_ ≠ gb112) (fun _ => False) rfl (by first | (go_simp; done) | (go_simp; rfl)) ?aP (fun _ hk => hk.elim) ?aF ?aO ?aB ?aS ?aL ?_; (case aP => exact k56_mkM _ _ _ (⟨t108, t109, (⟨t110, t111⟩ : S24)⟩ : S56)); (case aB => exact (by repeat (first | (with_reducible first | exact HB.out | apply below_alloc | apply pw_below_drewN | apply below_drew1 | refine below_set ?_ GE112.out) | exact HB.out))); (case aF => exact (fun k_ hk => ⟨(Nat.le_trans (below_size (by repeat (first | (with_reducible first | exact HB.out | apply below_alloc | apply pw_below_drewN | apply below_drew1 | refine below_set ?_ GE112.out) | exact HB.out))) hk), Kd.freshB (g := gb112) (o := .cells #[.int .i64 t108, .bool t109, .int .i64 t110, .int .i64 t111] 56 (0, 0)) (by (with_reducible repeat (first | refine blk_drewN ?_ _ | refine blk_drew ?_ | refine blk_alloc ?_ _)); refine blk_put (cs := #[.int .i64 t108, .bool t109, .int .i64 t110, .int .i64 0]) ?_ 3 _ rfl; (with_reducible repeat (first | refine blk_drewN ?_ _ | refine blk_drew ?_ | refine blk_alloc ?_ _)); refine blk_put (cs := #[.int .i64 t108, .bool t109, .int .i64 0, .int .i64 0]) ?_ 2 _ rfl; (with_reducible repeat (first | refine blk_drewN ?_ _ | refine blk_drew ?_ | refine blk_alloc ?_ _)); refine blk_put (cs := #[.int .i64 t108, .bool false, .int .i64 0, .int .i64 0]) ?_ 1 _ rfl; (with_reducible repeat (first | refine blk_drewN ?_ _ | refine blk_drew ?_ | refine blk_alloc ?_ _)); refine blk_put (cs := #[.int .i64 0, .bool false, .int .i64 0, .int .i64 0]) ?_ 0 _ rfl; (with_reducible repeat (first | refine blk_drewN ?_ _ | refine blk_drew ?_ | refine blk_alloc ?_ _)); exact BK112.out) k_ hk⟩)); (case aO => exact (by (with_reducible repeat (first | apply Kd.R_alloc | apply Kd.R_drewN | apply Kd.R_drew)); exact Kd.R_mono (Kd.R_far (p := ⟨gb112, 3, none⟩) (Kd.R_far (p := ⟨gb112, 2, none⟩) (Kd.R_far (p := ⟨gb112, 1, none⟩) (Kd.R_far (p := ⟨gb112, 0, none⟩) (Kd.R_mono HO_3.out (fun k_ hk => (⟨hk, hk.2⟩ : _ ∧ k_ ≠ gb112))) (fun _ hk => hk.2) (.int .i64 t108)) (fun _ hk => hk.2) (.bool t109)) (fun _ hk => hk.2) (.int .i64 t110)) (fun _ hk => hk.2) (.int .i64 t111)) (fun _ hk => ⟨hk.1.1, hk.1.2⟩))); (case aS => exact (below_size (by repeat (first | (with_reducible first | exact HB.out | apply below_alloc | apply pw_below_drewN | apply below_drew1 | refine below_set ?_ GE112.out) | exact HB.out)))); (case aL => have := LMc14.out; omega); intro v114 w20 ho hb hg hat; rw [← Ny113.out] at ho; have n0_ := Aside0.mk (blk_grown (g := gb112) (o := .cells #[.int .i64 t108, .bool t109, .int .i64 t110, .int .i64 t111] 56 (0, 0)) (by (with_reducible repeat (first | refine blk_drewN ?_ _ | refine blk_drew ?_ | refine blk_alloc ?_ _)); refine blk_put (cs := #[.int .i64 t108, .bool t109, .int .i64 t110, .int .i64 0]) ?_ 3 _ rfl; (with_reducible repeat (first | refine blk_drewN ?_ _ | refine blk_drew ?_ | refine blk_alloc ?_ _)); refine blk_put (cs := #[.int .i64 t108, .bool t109, .int .i64 0, .int .i64 0]) ?_ 2 _ rfl; (with_reducible repeat (first | refine blk_drewN ?_ _ | refine blk_drew ?_ | refine blk_alloc ?_ _)); refine blk_put (cs := #[.int .i64 t108, .bool false, .int .i64 0, .int .i64 0]) ?_ 1 _ rfl; (with_reducible repeat (first | refine blk_drewN ?_ _ | refine blk_drew ?_ | refine blk_alloc ?_ _)); refine blk_put (cs := #[.int .i64 0, .bool false, .int .i64 0, .int .i64 0]) ?_ 0 _ rfl; (with_reducible repeat (first | refine blk_drewN ?_ _ | refine blk_drew ?_ | refine blk_alloc ?_ _)); exact BK112.out) hg (Kd.R_away HO_3.out (fun _ hk => hk.2))); have n1_ := Aside0.mk (hb); have n2_ := Aside0.mk (ho); clear BK112; clear HB; clear HO_3; have BK112 := n0_; have HB := n1_; have HO115 := n2_; clear n0_ n1_ n2_; clear ho hb hg hat; have hcz21_0 : w20.cell? ⟨gb112, 0, none⟩ = some (.int .i64 t108) := (blk_cell BK112.out 0).trans rfl; have hcz21_1 : w20.cell? ⟨gb112, 1, none⟩ = some (.bool t109) := (blk_cell BK112.out 1).trans rfl; have hcz21_2 : w20.cell? ⟨gb112, 2, none⟩ = some (.int .i64 t110) := (blk_cell BK112.out 2).trans rfl; have hcz21_3 : w20.cell? ⟨gb112, 3, none⟩ = some (.int .i64 t111) := (blk_cell BK112.out 3).trans rfl; have hfz21_0 := blk_frozen BK112.out 0; have hfz21_1 := blk_frozen BK112.out 1; have hfz21_2 := blk_frozen BK112.out 2; have hfz21_3 := blk_frozen BK112.out 3))
                  go_roundg k1
                  case measure => have := HK1.out; omega
                  case rel => exact ⟨(y113), (x4_1.extract (t108 : Int).toNat x4_1.size), (by first | rfl | (simp; done) | (simp [*]; done)), H', ⟨by have := HK1.out; omega⟩, ⟨by (with_reducible repeat (first | apply Kd.R_alloc | apply Kd.R_drewN | apply Kd.R_drew)); exact Kd.R_mono HO115.out (fun _ hk => hk.1)⟩, ⟨by repeat (first | (with_reducible first | exact HB.out | apply below_alloc | apply pw_below_drewN | apply below_drew1 | refine below_set ?_ GE112.out) | exact HB.out)⟩⟩
                · rw [if_neg c16] at H
                  exact absurd H (by simp)
              · rw [if_neg c15] at H
                exact absurd H (by simp)
            · rw [if_neg c14] at H
              exact absurd H (by simp)
    · rw [if_neg c5] at H
      exact absurd H (by simp)
  · rw [if_neg c4] at H
    exact absurd H (by simp)
end
end Go.Proofs.YtijompkonaiagaaDoor.Q
namespace Go.Proofs.YtijompkonaiagaaDoor.Q
open Go.RowKit Go.Proofs.YtijompkonaiagaaDoorW.PrintWords Go.Proofs.YtijompkonaiagaaDoorW.PrintMore Go.Proofs.YtijompkonaiagaaDoor.Z
set_option linter.unusedVariables false
set_option linter.unusedSimpArgs false
def To {α : Type} (g : Nat → Option α) (r : α) : Prop := ∃ K, ∀ k, K ≤ k → g k = some r
theorem To.of {α : Type} {g : Nat → Option α} {r : α} (h : ∀ k, g k = some r) : To g r := ⟨0, fun k _ => h k⟩
theorem To.step {α : Type} {g h : Nat → Option α} {r : α} (hg : ∀ k, g (k + 1) = h k) (hh : To h r) : To g r := by
  obtain ⟨K, hK⟩ := hh
  refine ⟨K + 1, fun k hk => ?_⟩
  obtain ⟨k, rfl⟩ : ∃ m, k = m + 1 := ⟨k - 1, by omega⟩
  rw [hg]
  exact hK k (by omega)
theorem To.bind {α β : Type} {g : Nat → Option α} {h : Nat → α → Option β} {a : α} {r : β} (hg : To g a) (hh : To (fun k => h k a) r) : To (fun k => (g k).bind (h k)) r := by
  obtain ⟨K, hK⟩ := hg
  obtain ⟨L, hL⟩ := hh
  exact ⟨K + L, fun k hk => by show (g k).bind (h k) = _; rw [hK k (by omega)]; exact hL k (by omega)⟩
theorem To.congr {α : Type} {g h : Nat → Option α} {r : α} (hh : To h r) (e : ∀ k, g k = h k) : To g r := by
  obtain ⟨K, hK⟩ := hh
  exact ⟨K, fun k hk => by rw [e]; exact hK k hk⟩
theorem w64 {x : Int} (h : -9223372036854775808 ≤ x ∧ x ≤ 9223372036854775807) : wrap64 x = x := by unfold wrap64; omega
abbrev mkB (l : List UInt8) : ByteArray := ⟨l.toArray⟩
theorem mkB_bl (a : ByteArray) : mkB (bl a) = a := bl_mk a
theorem size_mkB (l : List UInt8) : (mkB l).size = l.length := rfl
theorem ext_bl {a b : ByteArray} (h : bl a = bl b) : a = b := by rw [← bl_mk a, ← bl_mk b, h]
theorem toList_bl (a : ByteArray) : a.toList = bl a := by
  exact ByteArray.toList_eq a
theorem bt_bl (a : ByteArray) (i : Nat) : bt a (i : Int) = (((bl a).getD i 0).toNat : Int) := by
  unfold bt
  simp only [Int.toNat_natCast]
  by_cases h : i < a.size
  · rw [dif_pos h, List.getD_eq_getElem?_getD, List.getElem?_eq_getElem (by rw [bl_len]; exact h)]
    rfl
  · rw [dif_neg h, List.getD_eq_getElem?_getD, List.getElem?_eq_none (by rw [bl_len]; omega)]
    rfl
theorem bl_extract (a : ByteArray) (i j : Nat) : bl (a.extract i j) = ((bl a).drop i).take (j - i) := by
  unfold bl
  rw [ByteArray.data_extract]
  simp
theorem u8_eq {b : UInt8} {n : Nat} (hn : n < 256) : ((b.toNat : Int) = (n : Int)) ↔ b = UInt8.ofNat n := by
  constructor
  · intro h
    apply UInt8.toNat_inj.1
    rw [UInt8.toNat_ofNat']
    omega
  · rintro rfl
    rw [UInt8.toNat_ofNat']
    omega
theorem bt64 (a : ByteArray) : (bt a 0 = 64) ↔ (bl a).getD 0 0 = 64 := by
  have h := bt_bl a 0
  rw [show ((0 : Nat) : Int) = 0 from rfl] at h
  rw [h]
  exact u8_eq (n := 64) (by decide)
theorem bt59 (a : ByteArray) (i : Nat) : (bt a (i : Int) == 59) = decide ((bl a).getD i 0 = 59) := by
  rw [bt_bl, Bool.eq_iff_iff, beq_iff_eq, decide_eq_true_iff]
  exact u8_eq (n := 59) (by decide)
theorem l2_one (k : Nat) (a : ByteArray) (n : Nat) (hn : n = 5 ∨ n = 6) (h0 : 0 < a.size) (h1 : a.size ≤ 100000000) :
    spec_l2Name.l0 (k + 3) a n = if n ≤ a.size then (match l2At (bl a) n with | some e => some (e.addr, e.port, (n : Int)) | none => spec_l2Name.l0 k a ((n + 1 : Nat) : Int)) else some (0, 0, 0) := by
  have hw : wrap64 ((n : Int) - 1) = ((n - 1 : Nat) : Int) := by rw [w64 (by omega)]; omega
  have hw2 : wrap64 ((n : Int) + 1) = ((n + 1 : Nat) : Int) := by rw [w64 (by omega)]; omega
  simp only [spec_l2Name.l0, spec_l2Name.j1, spec_l2Name.j2, hw, hw2]
  rw [if_pos (by omega)]
  by_cases hle : n ≤ a.size
  · rw [if_pos hle, if_pos (by simpa using hle), if_pos (by omega)]
    unfold l2At
    rw [bl_len]
    by_cases h64 : (bl a).getD 0 0 = 64
    · rw [if_pos ((bt64 a).2 h64), bt59, if_pos (by omega), if_pos (by omega)]
      by_cases h59 : (bl a).getD (n - 1) 0 = 59
      · rw [if_pos (show decide ((bl a).getD (n - 1) 0 = 59) = true from decide_eq_true h59), if_pos (show (1 : Int) ≤ ((n - 1 : Nat) : Int) by omega), if_pos (show ((n - 1 : Nat) : Int) ≤ (a.size : Int) by omega), if_pos (show n ≤ a.size ∧ (bl a).getD 0 0 = 64 ∧ (bl a).getD (n - 1) 0 = 59 from ⟨hle, h64, h59⟩)]
        unfold spec_EndRead.f
        have hx : bl (a.extract 1 ((n - 1 : Nat) : Int).toNat) = ((bl a).drop 1).take (n - 2) := by rw [bl_extract, Int.toNat_natCast]; congr 1
        rw [hx, if_pos (by rw [← bl_len, hx, List.length_take]; omega), Option.bind_some]
        unfold optE
        cases endRead (((bl a).drop 1).take (n - 2)) with
        | none => simp
        | some e => simp
      · rw [if_neg (show ¬ decide ((bl a).getD (n - 1) 0 = 59) = true by simpa using h59), if_neg (show ¬ (n ≤ a.size ∧ (bl a).getD 0 0 = 64 ∧ (bl a).getD (n - 1) 0 = 59) from fun h => h59 h.2.2)]
    · rw [if_neg (fun h => h64 ((bt64 a).1 h)), if_neg (show ¬ (n ≤ a.size ∧ (bl a).getD 0 0 = 64 ∧ (bl a).getD (n - 1) 0 = 59) from fun h => h64 h.2.1), if_neg (show ¬ false = true by simp)]
  · rw [if_neg hle, if_neg (by simpa using hle)]
def l2N (l : List UInt8) : Int × Int × Int := match nm l with
  | some e => (e.addr, e.port, ((nameOf e).length : Int))
  | none => (0, 0, 0)
theorem l2N_none {l : List UInt8} (h : nm l = none) : l2N l = (0, 0, 0) := by unfold l2N; rw [h]
theorem l2N_some {l : List UInt8} {e : En} (h : nm l = some e) : l2N l = (e.addr, e.port, ((nameOf e).length : Int)) := by unfold l2N; rw [h]
theorem nm_len {l : List UInt8} {e : En} (h : nm l = some e) : (nameOf e).length ≤ l.length := by
  obtain ⟨_, r, hr⟩ := nm_some h
  rw [hr]; simp
theorem l2Name_to (k : Nat) (a : ByteArray) (h0 : 0 < a.size) (h1 : a.size ≤ 100000000) : spec_l2Name.f (k + 8) a = some (l2N (bl a)) := by
  have hs := bl_len a
  show spec_l2Name.l0 (k + 5 + 3) a ((5 : Nat) : Int) = _
  rw [l2_one (k + 5) a 5 (.inl rfl) h0 h1]
  by_cases h5 : 5 ≤ a.size
  · rw [if_pos h5]
    cases e5 : l2At (bl a) 5 with
    | some e =>
      obtain ⟨hn, hl⟩ := l2At_some (by decide) e5
      rw [l2N_some hn, hl]
    | none =>
      show spec_l2Name.l0 (k + 2 + 3) a ((6 : Nat) : Int) = _
      rw [l2_one (k + 2) a 6 (.inr rfl) h0 h1]
      by_cases h6 : 6 ≤ a.size
      · rw [if_pos h6]
        cases e6 : l2At (bl a) 6 with
        | some e =>
          obtain ⟨hn, hl⟩ := l2At_some (by decide) e6
          rw [l2N_some hn, hl]
        | none =>
          rw [l2N_none (nm_of_l2At e5 e6)]
          rfl
      · rw [if_neg h6, l2N_none (nm_of_l2At e5 (by unfold l2At; rw [if_neg (fun h => h6 (by rw [← hs]; exact h.1))]))]
  · rw [if_neg h5, l2N_none (nm_of_l2At (by unfold l2At; rw [if_neg (fun h => h5 (by rw [← hs]; exact h.1))]) (by unfold l2At; rw [if_neg (fun h => h5 (by rw [← hs]; have := h.1; omega))]))]
def pcTo (p : Pc) : S56 := ⟨p.size, p.named, ⟨p.fin.addr, p.fin.port⟩⟩
def pcL (l : List UInt8) : List Pc := pcs l.length l
theorem pcs_nil (n : Nat) : pcs n [] = [] := by cases n <;> simp [pcs]
theorem pcs_enough : ∀ (n m : Nat) (l : List UInt8), l.length ≤ n → l.length ≤ m → pcs n l = pcs m l := by
  intro n
  induction n with
  | zero => intro m l h1 h2; obtain rfl := List.length_eq_zero_iff.1 (Nat.le_zero.1 h1); rw [pcs_nil, pcs_nil]
  | succ n ih =>
    intro m l h1 h2
    by_cases hl : l = []
    · subst hl; rw [pcs_nil, pcs_nil]
    · cases m with
      | zero => exact absurd (List.length_eq_zero_iff.1 (Nat.le_zero.1 h2)) hl
      | succ m =>
        have hp := pieceAt_size hl
        show (if l = [] then [] else pieceAt l :: pcs n (l.drop (pieceAt l).size.toNat)) = (if l = [] then [] else pieceAt l :: pcs m (l.drop (pieceAt l).size.toNat))
        rw [if_neg hl, if_neg hl, ih m _ (by rw [List.length_drop]; omega) (by rw [List.length_drop]; omega)]
theorem pcL_nil : pcL [] = [] := rfl
theorem pcL_cons {l : List UInt8} (hl : l ≠ []) : pcL l = pieceAt l :: pcL (l.drop (pieceAt l).size.toNat) := by
  have hp := pieceAt_size hl
  have h0 : 0 < l.length := List.length_pos_iff.2 hl
  unfold pcL
  obtain ⟨n, hn⟩ : ∃ n, l.length = n + 1 := ⟨l.length - 1, by omega⟩
  rw [hn]
  show (if l = [] then [] else pieceAt l :: pcs n (l.drop (pieceAt l).size.toNat)) = _
  rw [if_neg hl, pcs_enough n (l.drop (pieceAt l).size.toNat).length _ (by rw [List.length_drop]; omega) (Nat.le_refl _)]
theorem pcL_len : ∀ (n : Nat) (l : List UInt8), l.length ≤ n → (pcL l).length ≤ l.length := by
  intro n
  induction n with
  | zero => intro l h; obtain rfl := List.length_eq_zero_iff.1 (Nat.le_zero.1 h); exact Nat.le_refl _
  | succ n ih =>
    intro l h
    by_cases hl : l = []
    · subst hl; exact Nat.le_refl _
    · have hp := pieceAt_size hl
      have := ih (l.drop (pieceAt l).size.toNat) (by rw [List.length_drop]; omega)
      rw [pcL_cons hl, List.length_cons]
      rw [List.length_drop] at this
      omega
theorem impl_pieces_l0 (n : Nat) : ∀ (k : Nat) (x3 : List S56) (l : List UInt8), l.length ≤ n → n < k → x3.length + l.length ≤ 1000 → impl_pieces.l0 k x3 (mkB l) = some (x3 ++ (pcL l).map pcTo) := by
  induction n with
  | zero =>
    intro k x3 l hl hk hx
    obtain rfl := List.length_eq_zero_iff.1 (Nat.le_zero.1 hl)
    obtain ⟨k, rfl⟩ : ∃ m, k = m + 1 := ⟨k - 1, by omega⟩
    simp only [impl_pieces.l0]
    rw [if_pos (by rw [toList_bl]), pcL_nil]
    simp [slices_Clip_Piece.f]
  | succ n ih =>
    intro k x3 l hl hk hx
    obtain ⟨k, rfl⟩ : ∃ m, k = m + 1 := ⟨k - 1, by omega⟩
    simp only [impl_pieces.l0]
    by_cases hne : l = []
    · subst hne
      rw [if_pos (by rw [toList_bl]), pcL_nil]
      simp [slices_Clip_Piece.f]
    · have hp := pieceAt_size hne
      have hsz : (mkB l).size = l.length := rfl
      have hb : bl (mkB l) = l := rfl
      rw [if_neg (by rw [toList_bl]; exact hne)]
      unfold impl_piece.f
      rw [if_pos (by rw [hsz]; omega), Option.bind_some]
      simp only [hb, hsz]
      rw [if_pos (by omega), if_pos (by omega), if_pos (by omega)]
      have he : (mkB l).extract (pieceAt l).size.toNat l.length = mkB (l.drop (pieceAt l).size.toNat) := by
        apply ext_bl
        rw [bl_extract]
        show (l.drop _).take _ = l.drop _
        rw [List.take_of_length_le (by rw [List.length_drop]; exact Nat.le_refl _)]
      rw [he, ih k _ _ (by rw [List.length_drop]; omega) (by omega) (by rw [List.length_append, List.length_singleton, List.length_drop]; omega)]
      rw [pcL_cons hne, List.map_cons, List.append_assoc]
      rfl
def body (l : List UInt8) : List UInt8 := l.take (l.length - heldN l)
theorem heldFrom_le (l : List UInt8) : ∀ n, heldFrom l n ≤ n := by
  intro n
  induction n with
  | zero => exact Nat.le_refl _
  | succ n ih => unfold heldFrom; split <;> omega
theorem heldN_le (l : List UInt8) : heldN l ≤ l.length := by unfold heldN; have := heldFrom_le l (min 5 l.length); omega
theorem impl_pieces_to (k : Nat) (l : List UInt8) (hl : l.length ≤ 1000) (hk : 1000 < k) : impl_pieces.f k (mkB l) = some ((pcL (body l)).map pcTo) := by
  have hh := heldN_le l
  unfold impl_pieces.f impl_held.f
  have hsz : (mkB l).size = l.length := rfl
  have hb : bl (mkB l) = l := rfl
  rw [if_pos (by rw [hsz]; omega), Option.bind_some, hsz, hb]
  have hw : wrap64 ((l.length : Int) - (heldN l : Int)) = ((l.length - heldN l : Nat) : Int) := by rw [w64 (by omega)]; omega
  rw [hw, if_pos (by omega), if_pos (by omega)]
  have he : (mkB l).extract 0 ((l.length - heldN l : Nat) : Int).toNat = mkB (body l) := by
    apply ext_bl
    rw [bl_extract, Int.toNat_natCast]
    rfl
  rw [he, impl_pieces_l0 1000 k [] (body l) (by unfold body; rw [List.length_take]; omega) hk (by unfold body; rw [List.length_take]; simp; omega)]
  rfl
theorem spec_pieces_l0 (l : List UInt8) (hl : l.length ≤ 1000) (M : Nat) (hM : M ≤ l.length) (n : Nat) : ∀ (k : Nat) (x3 : List S56) (p : Nat), p ≤ M → M - p ≤ n → n + 8 < k → x3.length + (M - p) ≤ 1000 →
    spec_l2Pieces.l0 k (mkB l) x3 M p = some (x3 ++ (pcL ((l.take M).drop p)).map pcTo) := by
  induction n with
  | zero =>
    intro k x3 p hp hn hk hx
    obtain ⟨k, rfl⟩ : ∃ m, k = m + 1 := ⟨k - 1, by omega⟩
    simp only [spec_l2Pieces.l0]
    rw [if_neg (by omega), List.drop_of_length_le (by rw [List.length_take]; omega), pcL_nil]
    simp
  | succ n ih =>
    intro k x3 p hp hn hk hx
    obtain ⟨k, rfl⟩ : ∃ m, k = m + 1 := ⟨k - 1, by omega⟩
    simp only [spec_l2Pieces.l0]
    by_cases hlt : p < M
    · have hsz : (mkB l).size = l.length := rfl
      have hb : bl (mkB l) = l := rfl
      obtain ⟨t, ht⟩ : ∃ t, t = (l.take M).drop p := ⟨_, rfl⟩
      have htl : t.length = M - p := by rw [ht, List.length_drop, List.length_take]; omega
      have hne : t ≠ [] := by intro h; rw [h] at htl; simp at htl; omega
      have he : (mkB l).extract (p : Int).toNat (M : Int).toNat = mkB t := by
        apply ext_bl
        rw [bl_extract, Int.toNat_natCast, Int.toNat_natCast, ht, List.drop_take]
      obtain ⟨k2, hk2⟩ : ∃ m, k = m + 8 := ⟨k - 8, by omega⟩
      rw [if_pos (by omega), if_pos (by omega), if_pos (by omega), if_pos (by rw [hsz]; omega), he]
      have h2 : spec_l2Name.f k (mkB t) = some (l2N t) := by rw [hk2]; exact l2Name_to k2 (mkB t) (by show 0 < t.length; omega) (by show t.length ≤ _; omega)
      rw [h2, Option.bind_some]
      have hps := pieceAt_size hne
      have hdrop : ∀ j, t.drop j = (l.take M).drop (p + j) := fun j => by rw [ht, List.drop_drop]
      rw [← ht, pcL_cons hne]
      cases hn2 : nm t with
      | some e =>
        have hpc : pieceAt t = ⟨(nameOf e).length, true, e⟩ := by unfold pieceAt; rw [hn2]
        have hln := nm_len hn2
        rw [hpc] at hps ⊢
        simp only at hps
        rw [l2N_some hn2]
        simp only
        rw [if_pos (by omega), if_pos (by omega), w64 (by omega)]
        have := ih k (x3 ++ [(⟨((nameOf e).length : Int), true, ⟨e.addr, e.port⟩⟩ : S56)]) (p + (nameOf e).length) (by omega) (by omega) (by omega) (by rw [List.length_append, List.length_singleton]; omega)
        rw [Int.natCast_add] at this
        rw [this, ← hdrop, List.append_assoc, Int.toNat_natCast]
        rfl
      | none =>
        have hpc : pieceAt t = ⟨1, false, zEn⟩ := by unfold pieceAt; rw [hn2]
        rw [hpc] at hps ⊢
        rw [l2N_none hn2]
        simp only
        rw [if_neg (by omega), if_pos (by omega), w64 (by omega)]
        have := ih k (x3 ++ [(⟨1, false, ⟨0, 0⟩⟩ : S56)]) (p + 1) (by omega) (by omega) (by omega) (by rw [List.length_append, List.length_singleton]; omega)
        rw [Int.natCast_add] at this
        rw [show ((p : Int) + 1) = (p : Int) + ((1 : Nat) : Int) from rfl, this, ← hdrop, List.append_assoc]
        rfl
    · rw [if_neg (by omega), List.drop_of_length_le (by rw [List.length_take]; omega), pcL_nil]
      simp
theorem spec_pieces_to (k : Nat) (l : List UInt8) (hl : l.length ≤ 1000) (hk : 1008 < k) : spec_l2Pieces.f k (mkB l) = some ((pcL (body l)).map pcTo) := by
  have hh := heldN_le l
  unfold spec_l2Pieces.f spec_l2Held.f
  have hsz : (mkB l).size = l.length := rfl
  have hb : bl (mkB l) = l := rfl
  rw [if_pos (by rw [hsz]; omega), Option.bind_some, hsz, hb]
  have hw : wrap64 ((l.length : Int) - (heldN l : Int)) = ((l.length - heldN l : Nat) : Int) := by rw [w64 (by omega)]; omega
  rw [hw]
  have := spec_pieces_l0 l hl (l.length - heldN l) (by omega) 1000 k [] 0 (by omega) (by omega) hk (by simp; omega)
  rw [show ((0 : Nat) : Int) = 0 from rfl] at this
  rw [this]
  rfl
end Go.Proofs.YtijompkonaiagaaDoor.Q
namespace Go.Proofs.YtijompkonaiagaaDoor.Q
open Go.RowKit Go.Proofs.YtijompkonaiagaaDoorW.PrintWords Go.Proofs.YtijompkonaiagaaDoorW.PrintLast Go.Proofs.YtijompkonaiagaaDoorW.PrintMore
attribute [local go_sem] max2_int min2_int max_two min_two max_three min_three max_four min_four
set_option linter.unusedVariables false
set_option linter.unusedSimpArgs false
noncomputable section
def IsS47 (w0 W : World) (g : Nat) (f0 : List Int) (f1 : Int) : Prop := ∃ A0 c0, W.heap[g]? = some (.cells #[.slice A0 f0.length c0, .int .i64 f1] 47 (0, 0)) ∧ w0.heap.size ≤ g ∧ Kd.C (Kd.int .u8) w0 A0 f0.length f0
theorem IsS47.grown {w0 W : World} {g : Nat} {f0 : List Int} {f1 : Int} {W1 : World} {row : Option Nat} (h : IsS47 w0 W g f0 f1) (hw : W.grownBy W1 row) (hne : some g ≠ row) : IsS47 w0 W1 g f0 f1 := by
  obtain ⟨A0, c0, hb, hg, hr0⟩ := h
  exact ⟨A0, c0, blk_grown hb hw hne, hg, hr0⟩
theorem IsS47.fresh {w0 W : World} {g : Nat} {f0 : List Int} {f1 : Int} (h : IsS47 w0 W g f0 f1) : ∀ k, W.heap.size ≤ k → k ≠ g := by
  obtain ⟨A0, c0, hb, hg, hr0⟩ := h
  exact Kd.freshB hb
theorem IsS47.kept {w0 W : World} {g : Nat} {f0 : List Int} {f1 : Int} {W1 : World} {S : Nat → Prop} (h : IsS47 w0 W g f0 f1) (hk : Kept W W1 S) (hne : ¬ S g) : IsS47 w0 W1 g f0 f1 := by
  obtain ⟨A0, c0, hb, hg, hr0⟩ := h
  exact ⟨A0, c0, blk_kept hb hk hne, hg, hr0⟩
theorem IsS47.below {w0 W : World} {g : Nat} {f0 : List Int} {f1 : Int} {W1 : World} (h : IsS47 w0 W g f0 f1) (hw : Below W.heap.size W W1) : IsS47 w0 W1 g f0 f1 := h.grown (grown_of_below hw none) (by simp)
theorem IsS47.alloc {w0 W : World} {g : Nat} {f0 : List Int} {f1 : Int} (h : IsS47 w0 W g f0 f1) (o : Obj) : IsS47 w0 (W.alloc o) g f0 f1 := h.below (below_alloc (Below.refl _ _) o)
theorem IsS47.drewN {w0 W : World} {g : Nat} {f0 : List Int} {f1 : Int} (h : IsS47 w0 W g f0 f1) (m : Nat) : IsS47 w0 (W.drewN m) g f0 f1 := h
theorem IsS47.drew {w0 W : World} {g : Nat} {f0 : List Int} {f1 : Int} (h : IsS47 w0 W g f0 f1) : IsS47 w0 W.drew g f0 f1 := h
theorem IsS47.at_ {w0 W : World} {g : Nat} {f0 : List Int} {f1 : Int} {w' : World} {m : Nat} (hq : W.drewN m = w') (h : IsS47 w0 W g f0 f1) : IsS47 w0 w' g f0 f1 := by subst hq; exact IsS47.drewN h m
theorem IsS47.apart {w0 W : World} {g : Nat} {f0 : List Int} {f1 : Int} {α : Type} {d : Kd α} {e : Nat} {base : Nat} {ok : Nat → Prop} {v : Value} {xs : List α} (h : IsS47 w0 W g f0 f1) (ho : d.R e W base ok v xs) (ht : ∀ q, q ∈ e :: d.E → q ≠ 47) : d.R e W base (fun k => ok k ∧ k ≠ g) v xs := by
  obtain ⟨A0, c0, hb, hg, hr0⟩ := h
  exact Kd.R_types ho hb ht
theorem IsS47.own_ne {w0 W : World} {g : Nat} {f0 : List Int} {f1 : Int} {α : Type} {d : Kd α} {e : Nat} {base : Nat} {ok : Nat → Prop} {v : Value} {xs : List α} (h : IsS47 w0 W g f0 f1) (ho : d.R e W base ok v xs) (ht : e ≠ 47) : some g ≠ v.ownBlock := by
  obtain ⟨A0, c0, hb, hg, hr0⟩ := h
  exact Kd.R_ne ho hb ht
theorem IsS47.lt {w0 W : World} {g : Nat} {f0 : List Int} {f1 : Int} (h : IsS47 w0 W g f0 f1) : g < W.heap.size := by
  obtain ⟨A0, c0, hb, hg, hr0⟩ := h
  exact blk_lt hb
theorem IsS47.ge {w0 W : World} {g : Nat} {f0 : List Int} {f1 : Int} (h : IsS47 w0 W g f0 f1) : w0.heap.size ≤ g := by
  obtain ⟨A0, c0, hb, hg, hr0⟩ := h
  exact hg
theorem IsS47.ne_blk {w0 W : World} {g : Nat} {f0 : List Int} {f1 : Int} {a : Nat} {cs : Array Value} {t : TypeId} {fr : Nat × Nat} (h : IsS47 w0 W g f0 f1) (hb2 : W.heap[a]? = some (.cells cs t fr)) (ht : t ≠ 47) : g ≠ a := by
  obtain ⟨A0, c0, hb, hg, hr0⟩ := h
  rintro rfl
  rw [hb] at hb2
  injection hb2 with hb2
  injection hb2 with _ ht2
  exact ht ht2.symm
theorem IsS47.far {w0 W : World} {g : Nat} {f0 : List Int} {f1 : Int} {p : Addr} (h : IsS47 w0 W g f0 f1) (hne : g ≠ p.block) (u : Value) : IsS47 w0 (W.setCell p u) g f0 f1 := by
  obtain ⟨A0, c0, hb, hg, hr0⟩ := h
  exact ⟨A0, c0, blk_far hb hne u, hg, hr0⟩
theorem cellS47_0 {W : World} {g : Nat} {A0 : Option Addr} {c0 : Nat} {f0 : List Int} {f1 : Int} (h : W.heap[g]? = some (.cells #[.slice A0 f0.length c0, .int .i64 f1] 47 (0, 0))) : W.cell? ⟨g, 0, none⟩ = some (.slice A0 f0.length c0) := (blk_cell h 0).trans rfl
theorem cellS47_1 {W : World} {g : Nat} {A0 : Option Addr} {c0 : Nat} {f0 : List Int} {f1 : Int} (h : W.heap[g]? = some (.cells #[.slice A0 f0.length c0, .int .i64 f1] 47 (0, 0))) : W.cell? ⟨g, 1, none⟩ = some (.int .i64 f1) := (blk_cell h 1).trans rfl
theorem IsS47.set_1 {w0 W : World} {g : Nat} {f0 : List Int} {f1 : Int} (h : IsS47 w0 W g f0 f1) (x : Int) : IsS47 w0 (W.setCell ⟨g, 1, none⟩ (.int .i64 x)) g f0 x := by
  obtain ⟨A0, c0, hb, hg, hr0⟩ := h
  exact ⟨A0, c0, by simpa using blk_set hb 1 (.int .i64 x), hg, hr0⟩
theorem IsS47.new (w0 W : World) (A0 : Option Addr) (c0 : Nat) (f0 : List Int) (f1 : Int) (hB : Below w0.heap.size w0 W) (hr0 : Kd.C (Kd.int .u8) w0 A0 f0.length f0) : IsS47 w0 (W.alloc (.cells #[.slice A0 f0.length c0, .int .i64 f1] 47)) W.heap.size f0 f1 := ⟨A0, c0, by simpa using heap_alloc_new W _, hB.size, hr0⟩
def spec_l6Open.f (l0 : List Int) : Option (List Int × Int) := if (l0.length : Int) > 2000 then (if 2000 ≤ (l0.length : Int) then (some (l0.take 2000, 0)) else (none)) else (some (l0, 0))
set_option maxHeartbeats 8000000 in
set_option maxRecDepth 100000 in
theorem spec_l6Open.calls (A0 : Option Addr) (c0 : Nat) (l0 : List Int) (r1 : List Int) (r2 : Int) (w0 w : World) (hB : Below w0.heap.size w0 w) (hr0 : Kd.C (Kd.int .u8) w0 A0 l0.length l0) (hc0 : l0.length ≤ c0) (h : spec_l6Open.f l0 = some (r1, r2)) :
    Calls Tryd.prog 8 #[.slice A0 l0.length c0] w fun e w' => ∃ g_ : Nat, e = .returned (.pointer (some ⟨g_, 0, none⟩)) ∧ IsS47 w0 w' g_ r1 r2 ∧ Below w0.heap.size w0 w' ∧ Below w.heap.size w w' := by
  have hu47 := Tryd.underlying47
  have HR0 := Aside0.mk hr0
  have HC0 := Aside0.mk hc0
  clear hr0 hc0
  have HBW := Aside0.mk (Below.refl w.heap.size w)
  have HW0 := Aside0.mk hB.size
  have HB := Aside0.mk hB
  clear hB
  have H : (if (l0.length : Int) > 2000 then (if 2000 ≤ (l0.length : Int) then (some (l0.take 2000, 0)) else (none)) else (some (l0, 0))) = some (r1, r2) := h
  clear h
  by_cases c2 : (l0.length : Int) > 2000
  · rw [if_pos c2] at H
    have c2b0 : decide (2000 < (l0.length : Int)) = true := decide_eq_true c2
    have c2b1 : decide (2000 < l0.length) = true := decide_eq_true (by omega)
    clear c2
    by_cases c3 : 2000 ≤ (l0.length : Int)
    · rw [if_pos c3] at H
      have c3b0 := eq_true c3
      have c3b1 : decide (2000 ≤ (l0.length : Int)) = true := decide_eq_true c3
      clear c3
      simp only [Option.some.injEq, Prod.mk.injEq] at H
      obtain ⟨rfl, rfl⟩ := H
      obtain ⟨i04, hi04, _, hsz4, _⟩ := info_parts info5
      obtain ⟨hcut4, hA4, hC4⟩ := print_take_of (P := Tryd.prog) (Value.int .u8) 0 22 5 .i64 Tryd.underlying22 hi04 hsz4 A0 c0 l0 2000 (by omega) (of_decide_eq_true (by first | (with_reducible assumption) | assumption)) HC0.out
      have HR101 := Aside0.mk (Kd.C_of_reads (h1 := fun _ => rfl) (hA4 _ (Kd.reads_of_C HR0.out)))
      have HC101 := Aside0.mk hC4
      clear hA4 hC4 hi04 hsz4
      go_enter Tryd.func8, Tryd.ntmps8
      go_wp2_with (first | ((with_reducible refine gate_dst (N := 10) rfl ?_); refine box_event ?hg (N := 10) ?hd (cs := #[.slice A0 (l0.take 2000).length c0, .int .i64 0]) (t := 47) ?hr ?_; (case hd => rfl); (case hg => rfl); (case hr => first | (go_simp; done) | (go_simp; rfl)); intro gb102 hg w5 hbox hb; have n0_ := Aside0.mk (below_step HBW.out hb); have n1_ := Aside0.mk (below_step (by repeat (first | (with_reducible first | exact HB.out | apply below_alloc | apply pw_below_drewN | apply below_drew1) | exact HB.out)) hb); have n2_ := Aside0.mk (hbox); have n3_ := Aside0.mk ((by rw [hg]; exact (below_size (by repeat (first | (with_reducible first | exact HBW.out | apply below_alloc | apply pw_below_drewN | apply below_drew1) | exact HBW.out))) : w.heap.size ≤ gb102)); have n4_ := Aside0.mk ((Nat.le_trans HW0.out (by rw [hg]; exact (below_size (by repeat (first | (with_reducible first | exact HBW.out | apply below_alloc | apply pw_below_drewN | apply below_drew1) | exact HBW.out))) : w.heap.size ≤ gb102) : w0.heap.size ≤ gb102)); clear HBW; clear HB; have HBW := n0_; have HB := n1_; have BK102 := n2_; have GW102 := n3_; have GE102 := n4_; clear n0_ n1_ n2_ n3_ n4_; clear hb hbox hg))
      go_ret
      exact ⟨_, rfl, (show IsS47 w0 _ gb102 (l0.take 2000) 0 from ⟨_, _, by (with_reducible repeat (first | refine blk_drewN ?_ _ | refine blk_drew ?_ | refine blk_alloc ?_ _)); exact BK102.out, GE102.out, HR101.out⟩), by repeat (first | (with_reducible first | exact HB.out | apply below_alloc | apply pw_below_drewN | apply below_drew1 | refine below_set ?_ GE102.out) | exact HB.out), by repeat (first | (with_reducible first | exact HBW.out | apply below_alloc | apply pw_below_drewN | apply below_drew1 | refine below_set ?_ GW102.out) | exact HBW.out)⟩
    · rw [if_neg c3] at H
      exact absurd H (by simp)
  · rw [if_neg c2] at H
    have c2b0 : decide (2000 < (l0.length : Int)) = false := decide_eq_false c2
    have c2b1 : decide (2000 < l0.length) = false := decide_eq_false (by omega)
    clear c2
    simp only [Option.some.injEq, Prod.mk.injEq] at H
    obtain ⟨rfl, rfl⟩ := H
    go_enter Tryd.func8, Tryd.ntmps8
    go_wp2_with (first | ((with_reducible refine gate_dst (N := 10) rfl ?_); refine box_event ?hg (N := 10) ?hd (cs := #[.slice A0 l0.length c0, .int .i64 0]) (t := 47) ?hr ?_; (case hd => rfl); (case hg => rfl); (case hr => first | (go_simp; done) | (go_simp; rfl)); intro gb103 hg w6 hbox hb; have n0_ := Aside0.mk (below_step HBW.out hb); have n1_ := Aside0.mk (below_step (by repeat (first | (with_reducible first | exact HB.out | apply below_alloc | apply pw_below_drewN | apply below_drew1) | exact HB.out)) hb); have n2_ := Aside0.mk (hbox); have n3_ := Aside0.mk ((by rw [hg]; exact (below_size (by repeat (first | (with_reducible first | exact HBW.out | apply below_alloc | apply pw_below_drewN | apply below_drew1) | exact HBW.out))) : w.heap.size ≤ gb103)); have n4_ := Aside0.mk ((Nat.le_trans HW0.out (by rw [hg]; exact (below_size (by repeat (first | (with_reducible first | exact HBW.out | apply below_alloc | apply pw_below_drewN | apply below_drew1) | exact HBW.out))) : w.heap.size ≤ gb103) : w0.heap.size ≤ gb103)); clear HBW; clear HB; have HBW := n0_; have HB := n1_; have BK103 := n2_; have GW103 := n3_; have GE103 := n4_; clear n0_ n1_ n2_ n3_ n4_; clear hb hbox hg))
    go_ret
    exact ⟨_, rfl, (show IsS47 w0 _ gb103 l0 0 from ⟨_, _, by (with_reducible repeat (first | refine blk_drewN ?_ _ | refine blk_drew ?_ | refine blk_alloc ?_ _)); exact BK103.out, GE103.out, HR0.out⟩), by repeat (first | (with_reducible first | exact HB.out | apply below_alloc | apply pw_below_drewN | apply below_drew1 | refine below_set ?_ GE103.out) | exact HB.out), by repeat (first | (with_reducible first | exact HBW.out | apply below_alloc | apply pw_below_drewN | apply below_drew1 | refine below_set ?_ GW103.out) | exact HBW.out)⟩
end
end Go.Proofs.YtijompkonaiagaaDoor.Q
