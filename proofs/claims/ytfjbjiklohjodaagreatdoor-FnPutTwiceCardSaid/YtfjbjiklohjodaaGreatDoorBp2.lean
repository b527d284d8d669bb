/- The kinds of this program's structs (an end, a pair), read in memory, and small words that every walk of this seat uses. The maps of the program: what the small functions on ends and pairs return, program and reference alike. Draws out of a code: the reader's block, and that a pick answers a number below its bound. Draws: a reader opened; an end drawn. The loops over pairs: the port that stands for an end, and whether pairs are a map; program and reference alike. A statement whose order Go leaves open, walked in one order that is told beforehand: what reads is taken when it may come up, a call when nothing else may. Whether pairs are a map: the program's MapOk, and the reference's. Whether pairs are a map: the reference's MapOk; for which end a port stands: MapIn, program and reference. For which end a port stands: MapIn of the program and of the reference. The laws' own helpers on pairs: sizes, copies of arguments, comparisons. Copies of pairs: the reference's l3Copy; slices.Clone, slices.Clip at pairs; the program's copied and out. append to a clipped row (it grows always); the next port: the program's out, the reference's l3Out. MapOut of the program and of the reference. Ends: outside, of the door, of any kind; their texts, plainly. Contracts of Go's library at this program, as the kit's tools lay-shelf.mjs and lay-plain.mjs wrote them; those that the claims' texts use. The text of an end: the reference's l6Dec and EndText, the program's EndText. Contracts of mine in the print's own form: the text of an end. The variables of Go's library that the program reads; the end of a text: EndRead. The reference's EndRead. Which bytes may be in a text: TextOk of both. Whether a text is the beginning of a name; how much of a text is held. The reference's l2Begins. How much of a text is held: both. Names in texts: plainly; the program's name. The program's readName. Pieces of a text, as a kind. The program's piece. Contracts of mine in the print's own form: texts, what is held, names and pieces (the program's). Contracts of mine in the print's own form: slices.Clip and slices.Clone at the program's types; the next port. -/
import Derived.Test.YtfjbjiklohjodaaGreatDoorProg
import Derived.Test.YtfjbjiklohjodaaGreatDoorBp1
import Derived.Lib.Hide
import Derived.Deep.RegionHeld3
import Derived.Deep.DrawnRows
import Derived.OpenShut
import Derived.IntWalk
import Derived.WalkSpells
import Derived.ArgAppend
import Derived.Below
import Derived.Deep.Draws
import Derived.Deep.AppendLies
import Derived.Maps.AppendAt
import Derived.OwnWalk
import Derived.Laws.BytesArg
import Derived.Laws.MakeOwn
import Derived.Laws.OwnMore
import Derived.Deep.OwnRows
import Derived.Tactics
import Derived.Lib.ConvBytes
import Derived.Laws.Slices
import Derived.WalkKit
import Derived.KernelRfl
import Derived.RowKit3
import Derived.Deep.LoopGhost
import Derived.Deep.QuietTactic
import Derived.BigQuiet
import Derived.WideLaws
import Derived.Deep.DeepCutAuto
import Derived.Deep.CutBlock
import Derived.Laws.Rows
import Derived.Lib.AppendStr
import Derived.Laws.IdiomCopy
import Derived.OrdersHeld
import Derived.Laws.BitsLemmas
import Derived.RowKit
import Derived.Lib.AtoiAll
import Derived.Lib.ItoaNum
import Derived.Lib.IndexMore
import Derived.Shelf.Strings.Builder1
import Derived.Shelf.Strings.Builder2
import Derived.Shelf.Strings.OnBuilder
import Derived.Shelf.Small.Wraps
import Derived.Shelf.Strings.BuilderF
import Derived.Shelf.Strings.BuilderK
import Derived.Shelf.Strings.Builder2Cap
import Derived.Shelf.Strconv.Atoi
import Derived.Shelf.Strconv.Itoa0
import Derived.Shelf.Strconv.Itoa1
import Derived.Shelf.LaysM
import Derived.Shelf.Strconv.Itoa2
import Derived.Shelf.Strconv.Itoa3
import Derived.Shelf.Strconv.AtoiErrFast
import Derived.Shelf.Strconv.ParseIntEmpty
import Derived.Shelf.Strconv.AtoiFail
import Derived.Shelf.Strconv.Clone
import Derived.Shelf.Strconv.SyntaxError
import Derived.Shelf.LaysC
import Derived.Shelf.Strconv.ToError
import Derived.Shelf.Strconv.Lower
import Derived.Shelf.Strconv.ParseUint10
import Derived.Shelf.Strconv.ParseUint10Empty
import Derived.Shelf.Strconv.ParseUint10Any
import Derived.Shelf.Strconv.ParseInt10
import Derived.Shelf.Strconv.AtoiLong
import Derived.Shelf.Strconv.AtoiInnerAll
import Derived.Shelf.Strconv.RangeError
import Derived.Shelf.Strconv.ToErrorRange
import Derived.Shelf.Strconv.AtoiAll
import Derived.Shelf.Strconv.ErrVarAll
import Derived.Shelf.Strings.Search1
import Derived.Shelf.Strings.Search2
import Derived.Shelf.Strings.Cut
import Derived.Shelf.Strings.Shaped
import Derived.Shelf.Strings.Prefix
import Derived.Shelf.Strings.BuilderCap
import Derived.WalkSmall
import Derived.Lib.AtoiErrMem
namespace Go.Proofs.YtfjbjiklohjodaaGreatDoor.Z
open Go.RowKit Go.Proofs.YtfjbjiklohjodaaGreatDoorW.PrintWords
set_option linter.unusedVariables false
set_option linter.unusedSimpArgs false
structure En where
  addr : Int
  port : Int
  deriving DecidableEq, Inhabited
structure Pr where
  port : Int
  inside : En
  deriving DecidableEq, Inhabited
def zEn : En := ⟨0, 0⟩
def zPr : Pr := ⟨0, zEn⟩
def kEn : Kd En := Kd.iso (Kd.pair (Kd.int .i64) (Kd.int .i64)) (fun x : En => (x.addr, x.port))
def kPr : Kd Pr := Kd.iso (Kd.pair (Kd.int .i64) kEn) (fun x : Pr => (x.port, x.inside))
abbrev vEn (e : En) : Value := .agg #[.int .i64 e.addr, .int .i64 e.port]
theorem kEn_open {w : World} {x : En} {cs : List Value} (h : kEn.K w x cs) : cs = [.int .i64 x.addr, .int .i64 x.port] := by
  obtain ⟨_, _, rfl, rfl, rfl⟩ := h
  exact rfl
theorem kPr_open {w : World} {x : Pr} {cs : List Value} (h : kPr.K w x cs) : cs = [.int .i64 x.port, .int .i64 x.inside.addr, .int .i64 x.inside.port] := by
  obtain ⟨_, _, rfl, rfl, s1⟩ := h
  obtain rfl := kEn_open s1
  exact rfl
theorem kEn_mk (w : World) (x : En) : kEn.K w x [.int .i64 x.addr, .int .i64 x.port] := ⟨[.int .i64 x.addr], [.int .i64 x.port], rfl, rfl, rfl⟩
theorem kPr_mk (w : World) (x : Pr) : kPr.K w x [.int .i64 x.port, .int .i64 x.inside.addr, .int .i64 x.inside.port] := ⟨[.int .i64 x.port], _, rfl, rfl, kEn_mk w x.inside⟩
theorem kEn_mkM (w : World) (base : Nat) (ok : Nat → Prop) (x : En) : kEn.M w base ok x [.int .i64 x.addr, .int .i64 x.port] := ⟨[.int .i64 x.addr], [.int .i64 x.port], rfl, rfl, rfl⟩
theorem kPr_mkM (w : World) (base : Nat) (ok : Nat → Prop) (x : Pr) : kPr.M w base ok x [.int .i64 x.port, .int .i64 x.inside.addr, .int .i64 x.inside.port] := ⟨[.int .i64 x.port], _, rfl, rfl, kEn_mkM w base ok x.inside⟩
theorem at_Pr {w : World} {A : Option Addr} {n : Nat} {xs : List Pr} (h : Kd.C kPr w A n xs) (k : Nat) (h1 : k < n) :
    ∃ ad p, A = some ad ∧ Aside0 (xs.getD k zPr = p) ∧ (ad.add (k * 3)).block < w.heap.size ∧ w.cell? (ad.add (k * 3)) = some (.int .i64 p.port) ∧ w.cell? ⟨(ad.add (k * 3)).block, (ad.add (k * 3)).off + 1, none⟩ = some (.int .i64 p.inside.addr) ∧ w.cell? ⟨(ad.add (k * 3)).block, (ad.add (k * 3)).off + 2, none⟩ = some (.int .i64 p.inside.port) := by
  obtain ⟨ad, c, e, _, hK, hc0⟩ := Kd.C_get h zPr (k : Int) (by omega) (by omega)
  have hc : ∀ j u, c[j]? = some u → w.cell? (ad.add (k * 3 + j)) = some u := hc0
  obtain rfl := kPr_open hK
  exact ⟨ad, _, e, ⟨rfl⟩, World.block_lt_of_cell? w _ (hc 0 _ rfl), hc 0 _ rfl, by rw [← add_field _ _ 1 (by omega)]; exact hc 1 _ rfl, by rw [← add_field _ _ 2 (by omega)]; exact hc 2 _ rfl⟩
theorem kPr_openM {w : World} {base : Nat} {ok : Nat → Prop} {x : Pr} {cs : List Value} (h : kPr.M w base ok x cs) : cs = [.int .i64 x.port, .int .i64 x.inside.addr, .int .i64 x.inside.port] := by
  obtain ⟨_, _, rfl, rfl, s1⟩ := h
  obtain ⟨_, _, rfl, rfl, rfl⟩ := s1
  exact rfl
theorem eqEn (d : Nat) (w : World) (x0 y0 x1 y1 : Int) :
    (Op.equalIn (d + 2) 62 (.agg #[.int .i64 x0, .int .i64 x1]) (.agg #[.int .i64 y0, .int .i64 y1])).run Tryz.prog w = .ok (x0 == y0 && (x1 == y1)) w := by
  refine eqA_of Tryz.underlying62 (by kernel_rfl) ?_
  refine eqf_cons (by rfl) (by go_simp; rfl) (by go_simp; rfl) (by go_simp) ?_
  exact eqf_last (by rfl) (by go_simp; rfl) (by go_simp; rfl) (by go_simp)
theorem eqPr (d : Nat) (w : World) (x0 y0 x1 y1 x2 y2 : Int) :
    (Op.equalIn (d + 3) 111 (.agg #[.int .i64 x0, .int .i64 x1, .int .i64 x2]) (.agg #[.int .i64 y0, .int .i64 y1, .int .i64 y2])).run Tryz.prog w = .ok (x0 == y0 && (x1 == y1 && (x2 == y2))) w := by
  refine eqA_of Tryz.underlying111 (by kernel_rfl) ?_
  refine eqf_cons (by rfl) (by go_simp; rfl) (by go_simp; rfl) (by go_simp) ?_
  exact eqf_last (by rfl) (by first | (go_simp; done) | (go_simp; rfl)) (by first | (go_simp; done) | (go_simp; rfl)) (eqEn d w _ _ _ _)
def Rds {α : Type} (d : Kd α) (w : World) (v : Value) (xs : List α) : Prop := ∃ A c, v = .slice A xs.length c ∧ xs.length ≤ c ∧ d.C w A xs.length xs
theorem Rds.below {α : Type} {d : Kd α} {w w1 : World} {v : Value} {xs : List α} (h : Rds d w v xs) (hb : Below w.heap.size w w1) : Rds d w1 v xs := by
  obtain ⟨A, c, e, hl, hC⟩ := h
  exact ⟨A, c, e, hl, Kd.C_below hC hb⟩
theorem C_take' {α : Type} {d : Kd α} {w : World} {A : Option Addr} {n m : Nat} {xs : List α} (h : Kd.C d w A n xs) (hm : m ≤ n) : Kd.C d w A m (xs.take m) := by
  obtain rfl : xs.length = n := h.1
  have := Kd.C_take h hm
  rwa [List.length_take, Nat.min_eq_left hm] at this
theorem bcell {W w1 : World} (hb : Below W.heap.size W w1) : (∀ b o, b < W.heap.size → w1.cell? ⟨b, o, none⟩ = W.cell? ⟨b, o, none⟩) ∧ (∀ b o, b < W.heap.size → w1.frozen? ⟨b, o, none⟩ = W.frozen? ⟨b, o, none⟩) ∧ W.heap.size ≤ w1.heap.size :=
  ⟨fun b o h => hb.cell (p := ⟨b, o, none⟩) h, fun b o h => hb.frozen (p := ⟨b, o, none⟩) h, hb.size⟩
theorem max_len {α : Type} {d : Kd α} {w : World} {A : Option Addr} {n : Nat} {xs : List α} (h : Kd.C d w A n xs) : n ≤ 9223372036854775807 := h.2.1
end Go.Proofs.YtfjbjiklohjodaaGreatDoor.Z
namespace Go.Proofs.YtfjbjiklohjodaaGreatDoor.Z
open Go.RowKit Go.Proofs.YtfjbjiklohjodaaGreatDoorW.PrintWords
set_option linter.unusedVariables false
set_option linter.unusedSimpArgs false
attribute [local go_sem ↓] Go.wp_at_zero Go.wp_at_succ
def inB (n lo hi : Int) : Bool := decide (lo ≤ n) && decide (n ≤ hi)
theorem impl_within (n lo hi : Int) (w : World) :
    Calls Tryz.prog 68 #[.int .i64 n, .int .i64 lo, .int .i64 hi] w fun e w' => e = .returned (.bool (inB n lo hi)) ∧ w = w' := by
  cases h1 : decide (lo ≤ n)
  all_goals
    go_enter Tryz.func68, Tryz.ntmps68
    go_wp2
    go_ret
    exact ⟨by simp [inB, h1], rfl⟩
theorem spec_l6In (n lo hi : Int) (w : World) :
    Calls Tryz.prog 63 #[.int .i64 n, .int .i64 lo, .int .i64 hi] w fun e w' => e = .returned (.bool (inB n lo hi)) ∧ w = w' := by
  cases h1 : decide (lo ≤ n)
  all_goals
    go_enter Tryz.func63, Tryz.ntmps63
    go_wp2
    go_ret
    exact ⟨by simp [inB, h1], rfl⟩
def insideB (e : En) : Bool := inB e.addr 1 3 && inB e.port 1 9
theorem impl_EndInside (e : En) (w : World) :
    Calls Tryz.prog 75 #[vEn e] w fun r w' => r = .returned (.bool (insideB e)) ∧ Below w.heap.size w w' := by
  cases h : inB e.addr 1 3
  all_goals
    have H := Aside0.mk h; clear h
    go_enter Tryz.func75, Tryz.ntmps75
    go_wp2_with (go_at_call 68; refine (impl_within _ _ _ _).mono ?_; rintro e w' ⟨rfl, rfl⟩; try rw [H.out])
    go_ret
    exact ⟨by simp [insideB, H.out], (Below.refl _ _).alloc (Nat.le_refl _) _⟩
theorem spec_l1Host (e : En) (w : World) :
    Calls Tryz.prog 130 #[vEn e] w fun r w' => r = .returned (.bool (inB e.port 1 9)) ∧ Below w.heap.size w w' := by
  go_enter Tryz.func130, Tryz.ntmps130
  go_wp2_with (go_at_call 63; refine (spec_l6In _ _ _ _).mono ?_; rintro e w' ⟨rfl, rfl⟩)
  go_ret
  exact ⟨rfl, (Below.refl _ _).alloc (Nat.le_refl _) _⟩
theorem spec_EndInside (e : En) (w : World) :
    Calls Tryz.prog 72 #[vEn e] w fun r w' => r = .returned (.bool (insideB e)) ∧ Below w.heap.size w w' := by
  cases h : inB e.addr 1 3
  · have H := Aside0.mk h; clear h
    go_enter Tryz.func72, Tryz.ntmps72
    go_wp2_with (go_at_call 63; refine (spec_l6In _ _ _ _).mono ?_; rintro e w' ⟨rfl, rfl⟩; rw [H.out])
    go_ret
    exact ⟨by simp [insideB, H.out], (Below.refl _ _).alloc (Nat.le_refl _) _⟩
  · have H := Aside0.mk h; clear h
    go_enter Tryz.func72, Tryz.ntmps72
    go_wp2_with (first | (go_at_call 63; refine (spec_l6In _ _ _ _).mono ?_; rintro e w' ⟨rfl, rfl⟩; rw [H.out]) | (go_at_call 130; refine (spec_l1Host e _).mono ?_; rintro _ w' ⟨rfl, hb⟩))
    go_ret
    exact ⟨by simp [insideB, H.out], ((Below.refl _ _).alloc (Nat.le_refl _) _).trans (hb.mono (by simp))⟩
theorem impl_EndDoor (e : En) (w : World) :
    Calls Tryz.prog 147 #[vEn e] w fun r w' => r = .returned (.bool (e.addr == 9 && inB e.port 10 17)) ∧ Below w.heap.size w w' := by
  cases h : (e.addr == 9)
  all_goals
    go_enter Tryz.func147, Tryz.ntmps147
    go_wp2_with (go_at_call 68; refine (impl_within _ _ _ _).mono ?_; rintro e w' ⟨rfl, rfl⟩)
    go_ret
    exact ⟨by simp [h], (Below.refl _ _).alloc (Nat.le_refl _) _⟩
end Go.Proofs.YtfjbjiklohjodaaGreatDoor.Z
namespace Go.Proofs.YtfjbjiklohjodaaGreatDoor.Z
open Go.RowKit Go.Proofs.YtfjbjiklohjodaaGreatDoorW.PrintWords
set_option linter.unusedVariables false
set_option linter.unusedSimpArgs false
attribute [local go_sem ↓] Go.wp_at_zero Go.wp_at_succ
def Rd (w : World) (r : Nat) (B : Int) : Prop := ∃ A n c bs p, w.heap[r]? = some (.cells #[.slice A n c, .int .i64 p] 156 (0, 0)) ∧ Kd.C (Kd.int .u8) w A n bs ∧ (∀ b ∈ bs, (0 : Int) ≤ b ∧ b ≤ 255) ∧ n ≤ 2000 ∧ n ≤ c ∧ (∀ ad, A = some ad → 0 < n → ad.block < r) ∧ 0 ≤ p ∧ p ≤ B
def Dr (r : Nat) (w w' : World) : Prop := KeepBut w w' r none ∧ Below r w w'
theorem Dr.refl (r : Nat) (w : World) : Dr r w w := ⟨KeepBut.refl _ _ _, Below.refl _ _⟩
theorem Dr.trans {r : Nat} {a b c : World} (h : Dr r a b) (k : Dr r b c) : Dr r a c := ⟨h.1.trans k.1 (.inl rfl), h.2.trans k.2⟩
theorem Dr.drew {r : Nat} {a b : World} (h : Dr r a b) : Dr r a b.drew := ⟨h.1, below_drew h.2⟩
theorem Dr.drewN {r : Nat} {a b : World} (h : Dr r a b) (m : Nat) : Dr r a (b.drewN m) := ⟨h.1, pw_below_drewN h.2 m⟩
theorem Dr.set {r : Nat} {a b : World} (h : Dr r a b) (j : Nat) (u : Value) : Dr r a (b.setCell ⟨r, j, none⟩ u) := ⟨h.1.set_ j u, h.2.setCell (Nat.le_refl _) _⟩
theorem Dr.alloc {r : Nat} {a b : World} (h : Dr r a b) (hr : r ≤ b.heap.size) (o : Obj) : Dr r a (b.alloc o) := ⟨keep_alloc h.1 o, h.2.alloc hr o⟩
theorem Dr.of_below {r : Nat} {a b : World} (h : Below a.heap.size a b) (hr : r ≤ a.heap.size) : Dr r a b := ⟨KeepBut.of_below h r none, h.mono hr⟩
theorem Dr.size {r : Nat} {a b : World} (h : Dr r a b) : a.heap.size ≤ b.heap.size := h.2.size
theorem Dr.R {α : Type} {d : Kd α} {e : Nat} {w w1 : World} {base r : Nat} {v : Value} {xs : List α} (h : Kd.R d e w base (fun _ => True) v xs) (hd : Dr r w w1) (hr : r < base) : Kd.R d e w1 base (fun _ => True) v xs :=
  Kd.R_mono (Kd.R_step (Kd.R_bound h) (fun k hk hlt => hd.1.2 k hlt (by have := hk.2.1; omega) (by simp))) (fun _ _ => trivial)
theorem Dr.C {α : Type} {d : Kd α} {w w1 : World} {r : Nat} {A : Option Addr} {n : Nat} {xs : List α} (hd : Dr r w w1) {w0 : World} (h : Kd.C d w0 A n xs) (h0 : Below w0.heap.size w0 w) (hr : w0.heap.size ≤ r) : Kd.C d w1 A n xs := Kd.C_below h (h0.trans (hd.2.mono hr))
theorem Rd.lt {w : World} {r : Nat} {B : Int} (h : Rd w r B) : r < w.heap.size := by
  obtain ⟨_, _, _, _, _, h, _⟩ := h
  exact blk_lt h
theorem Rd.mono {w : World} {r : Nat} {B B' : Int} (h : Rd w r B) (hB : B ≤ B') : Rd w r B' := by
  obtain ⟨A, n, c, bs, p, h1, h2, h3, h4, h5, h6, h7, h8⟩ := h
  exact ⟨A, n, c, bs, p, h1, h2, h3, h4, h5, h6, h7, by omega⟩
theorem Rd.keeps {w w1 : World} {r : Nat} {B : Int} (h : Rd w r B) (hb : Below (r + 1) w w1) : Rd w1 r B := by
  obtain ⟨A, n, c, bs, p, h1, h2, h3, h4, h5, h6, h7, h8⟩ := h
  refine ⟨A, n, c, bs, p, (hb.block r (by omega)).trans h1, ?_, h3, h4, h5, h6, h7, h8⟩
  refine ⟨h2.1, h2.2.1, fun hn => ?_⟩
  obtain ⟨ad, e, hc⟩ := h2.2.2 hn
  have hlt := h6 ad e hn
  refine ⟨ad, e, fun j p hj => ?_⟩
  obtain ⟨cs, k1, k2, k3⟩ := hc j p hj
  refine ⟨cs, k1, k2, fun i u hu => ?_⟩
  rw [← k3 i u hu]
  exact hb.cell (by rw [show (ad.add (j * (Kd.int IntKind.u8).sz + i)).block = ad.block from by unfold Addr.add; split <;> rfl]; omega)
theorem Rd.set {w : World} {r : Nat} {A : Option Addr} {n c : Nat} {bs : List Int} {p : Int} (h1 : w.heap[r]? = some (.cells #[.slice A n c, .int .i64 p] 156 (0, 0))) (h2 : Kd.C (Kd.int .u8) w A n bs) (h3 : ∀ b ∈ bs, (0 : Int) ≤ b ∧ b ≤ 255) (h4 : n ≤ 2000) (h5 : n ≤ c) (h6 : ∀ ad, A = some ad → 0 < n → ad.block < r) (q B : Int) (hq : 0 ≤ q ∧ q ≤ B) :
    Rd (w.setCell ⟨r, 1, none⟩ (.int .i64 q)) r B :=
  ⟨A, n, c, bs, q, by simpa using blk_set h1 1 (.int .i64 q), Kd.C_keep 0 h2 ((KeepBut.refl w r none).set_ 1 _) (fun ad hA hn => by have := h6 ad hA hn; omega), h3, h4, h5, h6, hq.1, hq.2⟩
theorem xor_nonneg (x y : Int) (hx : 0 ≤ x ∧ x < 9223372036854775808) (hy : 0 ≤ y ∧ y < 9223372036854775808) : 0 ≤ Go.bits .xor .i64 x y := by
  obtain ⟨a, rfl⟩ : ∃ a : Nat, x = a := ⟨x.toNat, by omega⟩
  obtain ⟨b, rfl⟩ : ∃ b : Nat, y = b := ⟨y.toNat, by omega⟩
  unfold Go.bits
  simp only [BitVec.toNat_xor, BitVec.toNat_ofInt]
  have e1 : ((a : Int) % ((2 ^ IntKind.i64.bits : Nat) : Int)).toNat = a := by
    have : ((2 ^ IntKind.i64.bits : Nat) : Int) = 18446744073709551616 := by decide
    rw [this]; omega
  have e2 : ((b : Int) % ((2 ^ IntKind.i64.bits : Nat) : Int)).toNat = b := by
    have : ((2 ^ IntKind.i64.bits : Nat) : Int) = 18446744073709551616 := by decide
    rw [this]; omega
  rw [e1, e2]
  have h := Nat.xor_lt_two_pow (n := 63) (x := a) (y := b) (by have : (2 : Nat) ^ 63 = 9223372036854775808 := by decide
                                                               omega) (by have : (2 : Nat) ^ 63 = 9223372036854775808 := by decide
                                                                          omega)
  have h63 : (2 : Nat) ^ 63 = 9223372036854775808 := by decide
  rw [IntWalk.i64_in _ (by omega)]
  omega
theorem byte_at {bs : List Int} (h : ∀ b ∈ bs, (0 : Int) ≤ b ∧ b ≤ 255) (i : Int) (h0 : 0 ≤ i) (h1 : i < bs.length) : 0 ≤ rd bs i ∧ rd bs i ≤ 255 := by
  have : rd bs i ∈ bs := by
    unfold rd
    rw [List.getD_eq_getElem?_getD, List.getElem?_eq_getElem (by omega)]
    exact List.getElem_mem _
  exact h _ this
set_option maxHeartbeats 4000000 in
theorem spec_pick (r : Nat) (k : Int) (B : Int) (w : World) (h : Rd w r B) (hB : B ≤ 1000000000) :
    Calls Tryz.prog 62 #[.pointer (some ⟨r, 0, none⟩), .int .i64 k] w fun e w' => ∃ x, e = .returned (.int .i64 x) ∧ (1 ≤ k → 0 ≤ x ∧ x < k) ∧ (k < 1 → x = 0) ∧ Rd w' r (B + 1) ∧ Dr r w w' := by
  obtain ⟨A, n, c, bs, p, h1, h2, h3, h4, h5, h6, h7, h8⟩ := h
  have HS := Aside0.mk (Rd.set h1 h2 h3 h4 h5 h6 (p + 1) (B + 1) (by omega))
  have c0 : w.cell? ⟨r, 0, none⟩ = some (.slice A n c) := (blk_cell h1 0).trans rfl
  have c1 : w.cell? ⟨r, 1, none⟩ = some (.int .i64 p) := (blk_cell h1 1).trans rfl
  have f1 := blk_frozen h1 1
  have hw1 : IntKind.i64.wrap (p + 1) = p + 1 := IntWalk.i64_in _ (by omega)
  by_cases hk : k < 1
  · have t1 : decide (k < 1) = true := decide_eq_true hk
    have HK := Aside0.mk hk
    clear hk h1 h2
    go_enter Tryz.func62, Tryz.ntmps62
    go_wp2
    go_ret
    exact ⟨0, rfl, fun hh => absurd HK.out (by omega), fun _ => rfl, HS.out, (Dr.refl r w).set _ _⟩
  · have t1 : decide (k < 1) = false := decide_eq_false hk
    by_cases hn : n = 0
    · have t2 : ((n : Int) == 0) = true := by rw [beq_iff_eq]; omega
      have HK := Aside0.mk hk
      clear hk h1 h2
      go_enter Tryz.func62, Tryz.ntmps62
      go_wp2
      go_ret
      exact ⟨0, rfl, fun hh => ⟨by omega, by omega⟩, fun _ => rfl, HS.out, (Dr.refl r w).set _ _⟩
    · have t2 : ((n : Int) == 0) = false := beq_eq_false_iff_ne.2 (by omega)
      have hw2 : IntKind.i64.wrap (p + 1 - 1) = p := by rw [IntWalk.i64_in _ (by omega)]; omega
      have e1 : p + 1 - 1 = p := by omega
      have hk0 : (k == 0) = false := beq_eq_false_iff_ne.2 (by omega)
      obtain rfl : bs.length = n := h2.1
      have hdr : Dr r w (w.setCell ⟨r, 1, none⟩ (.int .i64 (p + 1))) := (Dr.refl r w).set _ _
      have HD := Aside0.mk hdr
      have hx1 := blk_set h1 1 (.int .i64 (p + 1))
      have x0 : (w.setCell ⟨r, 1, none⟩ (.int .i64 (p + 1))).cell? ⟨r, 0, none⟩ = some (.slice A bs.length c) := (blk_cell hx1 0).trans (by simp)
      have x1 : (w.setCell ⟨r, 1, none⟩ (.int .i64 (p + 1))).cell? ⟨r, 1, none⟩ = some (.int .i64 (p + 1)) := (blk_cell hx1 1).trans (by simp)
      have hcell : ∀ i : Int, 0 ≤ i → i < bs.length → ∃ ad, A = some ad ∧ (w.setCell ⟨r, 1, none⟩ (.int .i64 (p + 1))).cell? (ad.add i.toNat) = some (.int .u8 (rd bs i)) := by
        intro i h0 hi
        obtain ⟨ad, hA, hc⟩ := Kd.at_int h2 i h0 hi
        refine ⟨ad, hA, ?_⟩
        rw [← hc]
        exact hdr.2.cell (by rw [show (ad.add i.toNat).block = ad.block from by unfold Addr.add; split <;> rfl]; exact h6 ad hA (by omega))
      have H3 := Aside0.mk h3
      by_cases hp : p < bs.length
      · obtain ⟨ad, hA, d0⟩ := hcell p h7 hp
        subst hA
        have hb := byte_at h3 p h7 hp
        obtain ⟨b, hbb⟩ : ∃ b, rd bs p = b := ⟨_, rfl⟩
        rw [hbb] at d0 hb
        have t3 : decide (p < (bs.length : Int)) = true := decide_eq_true hp
        have hwb : IntKind.i64.wrap b = b := IntWalk.i64_in _ (by omega)
        have HF := Aside0.mk (show 0 ≤ b % k ∧ b % k < k from ⟨Int.emod_nonneg _ (by omega), Int.emod_lt_of_pos _ (by omega)⟩)
        obtain ⟨w1, hw⟩ : ∃ w1, w1 = w.setCell ⟨r, 1, none⟩ (.int .i64 (p + 1)) := ⟨_, rfl⟩
        rw [← hw] at x0 x1 d0 HS HD
        have HW := Aside0.mk hw; clear hw
        have HX := Aside0.mk (And.intro x0 (And.intro x1 d0))
        clear hcell h1 h2 hx1 hdr h6 h3 x0 x1 d0
        go_enter Tryz.func62, Tryz.ntmps62
        go_upto_region 2 with (fail)
        rw [← HW.out]
        clear HW c0 c1 f1
        obtain ⟨x0, x1, d0⟩ := HX.out
        clear HX
        go_wp2
        go_ret
        refine ⟨_, rfl, ?_, ?_, HS.out, HD.out⟩
        · first | exact HF.out | exact fun _ => HF.out
        · first | (intro h; omega) | trivial
      · have hi1 : 0 ≤ Int.tmod p bs.length ∧ Int.tmod p bs.length < bs.length := ⟨Int.tmod_nonneg _ h7, Int.tmod_lt_of_pos _ (by omega)⟩
        have hi2 : 0 ≤ Int.tmod (p * 7 + 3) bs.length ∧ Int.tmod (p * 7 + 3) bs.length < bs.length := ⟨Int.tmod_nonneg _ (by omega), Int.tmod_lt_of_pos _ (by omega)⟩
        have hq : 0 ≤ Int.tdiv p bs.length ∧ Int.tdiv p bs.length ≤ p := ⟨Int.tdiv_nonneg h7 (by omega), Int.tdiv_le_self _ h7⟩
        obtain ⟨ad, hA, d0⟩ := hcell _ hi1.1 hi1.2
        obtain ⟨ad2, hA2, d1⟩ := hcell _ hi2.1 hi2.2
        subst hA
        cases hA2
        have hb1 := byte_at h3 _ hi1.1 hi1.2
        have hb2 := byte_at h3 _ hi2.1 hi2.2
        obtain ⟨i1, e2⟩ : ∃ i1, Int.tmod p bs.length = i1 := ⟨_, rfl⟩
        obtain ⟨i2, e3⟩ : ∃ i2, Int.tmod (p * 7 + 3) bs.length = i2 := ⟨_, rfl⟩
        obtain ⟨q, e4⟩ : ∃ q, Int.tdiv p bs.length = q := ⟨_, rfl⟩
        rw [e2] at hi1 d0 hb1
        rw [e3] at hi2 d1 hb2
        rw [e4] at hq
        obtain ⟨b1, hbb1⟩ : ∃ b, rd bs i1 = b := ⟨_, rfl⟩
        rw [hbb1] at d0 hb1
        obtain ⟨b2, hbb2⟩ : ∃ b, rd bs i2 = b := ⟨_, rfl⟩
        rw [hbb2] at d1 hb2
        clear hbb1 hbb2
        have t3 : decide (p < (bs.length : Int)) = false := decide_eq_false hp
        have v0 : IntKind.i64.wrap b1 = b1 := IntWalk.i64_in _ (by omega)
        have v1 : IntKind.i64.wrap (b1 * 131) = b1 * 131 := IntWalk.i64_in _ (by omega)
        have v2 : IntKind.i64.wrap (p * 7) = p * 7 := IntWalk.i64_in _ (by omega)
        have v3 : IntKind.i64.wrap (p * 7 + 3) = p * 7 + 3 := IntWalk.i64_in _ (by omega)
        have v4 : IntKind.i64.wrap b2 = b2 := IntWalk.i64_in _ (by omega)
        have v5 : IntKind.i64.wrap (b2 * 1117) = b2 * 1117 := IntWalk.i64_in _ (by omega)
        have v6 : IntKind.i64.wrap (b1 * 131 + b2 * 1117) = b1 * 131 + b2 * 1117 := IntWalk.i64_in _ (by omega)
        have v7 : IntKind.i64.wrap (p * 29) = p * 29 := IntWalk.i64_in _ (by omega)
        have v8 : IntKind.i64.wrap (b1 * 131 + b2 * 1117 + p * 29) = b1 * 131 + b2 * 1117 + p * 29 := IntWalk.i64_in _ (by omega)
        have v9 : IntKind.i64.wrap q = q := IntWalk.i64_in _ (by omega)
        have v10 : IntKind.i64.wrap (q * 53) = q * 53 := IntWalk.i64_in _ (by omega)
        have v11 : IntKind.i64.wrap (b1 * 131 + b2 * 1117 + p * 29 + q * 53) = b1 * 131 + b2 * 1117 + p * 29 + q * 53 := IntWalk.i64_in _ (by omega)
        obtain ⟨w1, hw⟩ : ∃ w1, w1 = w.setCell ⟨r, 1, none⟩ (.int .i64 (p + 1)) := ⟨_, rfl⟩
        rw [← hw] at x0 x1 d0 d1 HS HD
        have HW := Aside0.mk hw; clear hw
        have HX := Aside0.mk (And.intro x0 (And.intro x1 (And.intro d0 d1)))
        clear hcell h1 h2 hx1 hdr h6 h3 x0 x1 d0 d1
        go_enter Tryz.func62, Tryz.ntmps62
        go_upto_region 2 with (fail)
        rw [← HW.out]
        clear HW c0 c1 f1
        obtain ⟨x0, x1, d0, d1⟩ := HX.out
        clear HX
        go_upto_region 7 with (fail)
        obtain ⟨i1p, i1q⟩ := hi1
        obtain ⟨i2p, i2q⟩ := hi2
        go_quiet (fail)
        obtain ⟨X, hX, hX0, hX1⟩ : ∃ X, X = b1 * 131 + b2 * 1117 + p * 29 + q * 53 ∧ 0 ≤ X ∧ X < 1000000000000 := ⟨_, rfl, by omega, by omega⟩
        rw [← hX]
        have HY := xor_nonneg X (X / 64) (by omega) (by omega)
        obtain ⟨Y, hY⟩ : ∃ Y, Go.bits .xor .i64 X (X / 64) = Y := ⟨_, rfl⟩
        rw [hY] at HY
        have HF := Aside0.mk (show 0 ≤ Y % k ∧ Y % k < k from ⟨Int.emod_nonneg _ (by omega), Int.emod_lt_of_pos _ (by omega)⟩)
        clear hX v0 v1 v2 v3 v4 v5 v6 v7 v8 v9 v10 v11 e2 e3 e4 hw1 hw2
        go_wp2
        go_ret
        refine ⟨_, rfl, ?_, ?_, HS.out, HD.out.drewN _⟩
        · first | exact HF.out | exact fun _ => HF.out
        · first | (intro h; omega) | trivial
end Go.Proofs.YtfjbjiklohjodaaGreatDoor.Z
namespace Go.Proofs.YtfjbjiklohjodaaGreatDoor.Z
open Go.RowKit Go.Proofs.YtfjbjiklohjodaaGreatDoorW.PrintWords
set_option linter.unusedVariables false
set_option linter.unusedSimpArgs false
attribute [local go_sem ↓] Go.wp_at_zero Go.wp_at_succ
theorem Dr.blk {r : Nat} {a b : World} (h : Dr r a b) {q : Nat} {o : Obj} (hb : a.heap[q]? = some o) (hq : q ≠ r) : b.heap[q]? = some o := h.1.blk hb hq (by simp)
theorem Dr.far {r : Nat} {a b : World} (h : Dr r a b) {q : Nat} (h1 : a.heap.size ≤ q) (h2 : r ≤ q) (j : Nat) (u : Value) : Dr r a (b.setCell ⟨q, j, none⟩ u) := ⟨keep_far h.1 h1 u, h.2.setCell h2 _⟩
theorem Rd.far {w : World} {r : Nat} {B : Int} (h : Rd w r B) {q : Nat} (hq : r < q) (j : Nat) (u : Value) : Rd (w.setCell ⟨q, j, none⟩ u) r B := h.keeps ((Below.refl _ _).setCell hq _)
theorem Rd.alloc {w : World} {r : Nat} {B : Int} (h : Rd w r B) (o : Obj) : Rd (w.alloc o) r B := h.keeps ((Below.refl _ _).alloc h.lt o)
theorem spec_l6Open (A : Option Addr) (n c : Nat) (bs : List Int) (w : World) (hC : Kd.C (Kd.int .u8) w A n bs) (hb : ∀ b ∈ bs, (0 : Int) ≤ b ∧ b ≤ 255) (hc : n ≤ c) (hlt : ∀ ad, A = some ad → 0 < n → ad.block < w.heap.size) :
    Calls Tryz.prog 59 #[.slice A n c] w fun e w' => ∃ r, e = .returned (.pointer (some ⟨r, 0, none⟩)) ∧ w.heap.size ≤ r ∧ Rd w' r 0 ∧ Below w.heap.size w w' := by
  have hm := max_len hC
  have HC := Aside0.mk hC; clear hC
  by_cases h2 : n > 2000
  · have t1 : decide ((n : Int) > 2000) = true := decide_eq_true (by omega)
    have t2 : decide ((2000 : Int) < (n : Int)) = true := decide_eq_true (by omega)
    have t3 : (2000 : Int) ≤ (c : Int) := by omega
    have HR : Aside0 (Kd.C (Kd.int .u8) w A 2000 (bs.take 2000)) := ⟨C_take' HC.out (by omega)⟩
    cases A with
    | none =>
      obtain ⟨ad, h, _⟩ := HC.out.2.2 (by omega)
      cases h
    | some ad =>
      go_enter Tryz.func59, Tryz.ntmps59
      go_wp2
      go_ret
      refine ⟨w.heap.size, by simp, Nat.le_refl _, ⟨some ad, 2000, c, bs.take 2000, 0, by simpa using heap_alloc_new w _, Kd.C_below HR.out (by repeat (first | (with_reducible exact (Below.refl _ _)) | (with_reducible apply below_alloc) | (with_reducible apply pw_below_drewN) | (with_reducible apply below_drew1) | with_reducible refine below_set ?_ (by first | (with_reducible exact Nat.le_refl _) | (with_reducible assumption) | (simp; done) | omega | (simp; omega)))), fun b hb2 => hb b (List.mem_of_mem_take hb2), by omega, by omega, fun ad h _ => hlt ad h (by omega), by omega, by omega⟩, (by repeat (first | (with_reducible exact (Below.refl _ _)) | (with_reducible apply below_alloc) | (with_reducible apply pw_below_drewN) | (with_reducible apply below_drew1) | with_reducible refine below_set ?_ (by first | (with_reducible exact Nat.le_refl _) | (with_reducible assumption) | (simp; done) | omega | (simp; omega))))⟩
  · have t1 : decide ((n : Int) > 2000) = false := decide_eq_false (by omega)
    have t2 : decide ((2000 : Int) < (n : Int)) = false := decide_eq_false (by omega)
    go_enter Tryz.func59, Tryz.ntmps59
    go_wp2
    go_ret
    refine ⟨w.heap.size, by simp, Nat.le_refl _, ⟨A, n, c, bs, 0, by simpa using heap_alloc_new w _, Kd.C_below HC.out (by repeat (first | (with_reducible exact (Below.refl _ _)) | (with_reducible apply below_alloc) | (with_reducible apply pw_below_drewN) | (with_reducible apply below_drew1) | with_reducible refine below_set ?_ (by first | (with_reducible exact Nat.le_refl _) | (with_reducible assumption) | (simp; done) | omega | (simp; omega)))), hb, by omega, hc, fun ad h h0 => hlt ad h h0, by omega, by omega⟩, (by repeat (first | (with_reducible exact (Below.refl _ _)) | (with_reducible apply below_alloc) | (with_reducible apply pw_below_drewN) | (with_reducible apply below_drew1) | with_reducible refine below_set ?_ (by first | (with_reducible exact Nat.le_refl _) | (with_reducible assumption) | (simp; done) | omega | (simp; omega))))⟩
def smallEn (e : En) : Prop := 0 ≤ e.addr ∧ e.addr ≤ 100 ∧ 0 ≤ e.port ∧ e.port ≤ 100
set_option maxHeartbeats 4000000 in
theorem spec_l71End (r : Nat) (B : Int) (w : World) (h : Rd w r B) (hB : B ≤ 100000000) :
    Calls Tryz.prog 119 #[.pointer (some ⟨r, 0, none⟩)] w fun e w' => ∃ x : En, e = .returned (vEn x) ∧ smallEn x ∧ Rd w' r (B + 3) ∧ Dr r w w' := by
  have hr := h.lt
  have bk := heap_alloc_new w (.cells #[.int .i64 0, .int .i64 0] 62)
  have HD := Aside0.mk ((Dr.refl r w).alloc (Nat.le_of_lt hr) (.cells #[.int .i64 0, .int .i64 0] 62))
  have hRd := h.alloc (.cells #[.int .i64 0, .int .i64 0] 62)
  go_enter Tryz.func119, Tryz.ntmps119
  go_wp2_with fail; refine (spec_pick r 12 B _ hRd (by omega)).mono ?_; rintro e w1 ⟨x1, rfl, hx1, _, hR1, hD1⟩
  replace HD := HD.out.trans hD1
  replace bk := hD1.blk bk (by omega)
  have z1 := hD1.size
  obtain ⟨hx0, hx2⟩ := hx1 (by omega)
  have hx : x1 = 0 ∨ x1 = 1 ∨ x1 = 2 ∨ x1 = 3 ∨ x1 = 4 ∨ x1 = 5 ∨ x1 = 6 ∨ x1 = 7 ∨ x1 = 8 ∨ x1 = 9 ∨ x1 = 10 ∨ x1 = 11 := by omega
  clear hx0 hx2 hx1 hD1
  rcases hx with rfl | rfl | rfl | rfl | rfl | rfl | rfl | rfl | rfl | rfl | rfl | rfl
  · go_wp2_with fail; refine (spec_pick r 3 (B + 1) _ hR1 (by omega)).mono ?_; rintro e w2 ⟨x2, rfl, hx2, _, hR2, hD2⟩
    go_wp2_with fail; refine (spec_pick r 9 (B + 1 + 1) _ hR2 (by omega)).mono ?_; rintro e w3 ⟨x3, rfl, hx3, _, hR3, hD3⟩
    obtain ⟨hx2a, hx2b⟩ := hx2 (by omega)
    obtain ⟨hx3a, hx3b⟩ := hx3 (by omega)
    replace bk := hD3.blk (hD2.blk bk (by omega)) (by omega)
    have HD := (HD.trans hD2).trans hD3
    have c0 := (blk_cell bk 0).trans rfl
    have c1 := (blk_cell bk 1).trans rfl
    have f0 := blk_frozen bk 0
    have f1 := blk_frozen bk 1
    clear bk hx2 hx3 hD2 hD3 hR1 hR2
    go_wp2
    refine bodyPost_ret (v := (vEn ⟨1 + x2, 1 + x3⟩)) (by simp [results, Tryz.results119, go_sem, zEn, *]) rfl ⟨⟨1 + x2, 1 + x3⟩, rfl, ⟨by simp; omega, by simp; omega, by simp; omega, by simp; omega⟩, ((hR3.far hr _ _).far hr _ _).mono (by omega), (HD.far (Nat.le_refl _) (Nat.le_of_lt hr) _ _).far (Nat.le_refl _) (Nat.le_of_lt hr) _ _⟩
  · go_wp2_with fail; refine (spec_pick r 3 (B + 1) _ hR1 (by omega)).mono ?_; rintro e w2 ⟨x2, rfl, hx2, _, hR2, hD2⟩
    go_wp2_with fail; refine (spec_pick r 9 (B + 1 + 1) _ hR2 (by omega)).mono ?_; rintro e w3 ⟨x3, rfl, hx3, _, hR3, hD3⟩
    obtain ⟨hx2a, hx2b⟩ := hx2 (by omega)
    obtain ⟨hx3a, hx3b⟩ := hx3 (by omega)
    replace bk := hD3.blk (hD2.blk bk (by omega)) (by omega)
    have HD := (HD.trans hD2).trans hD3
    have c0 := (blk_cell bk 0).trans rfl
    have c1 := (blk_cell bk 1).trans rfl
    have f0 := blk_frozen bk 0
    have f1 := blk_frozen bk 1
    clear bk hx2 hx3 hD2 hD3 hR1 hR2
    go_wp2
    refine bodyPost_ret (v := (vEn ⟨1 + x2, 1 + x3⟩)) (by simp [results, Tryz.results119, go_sem, zEn, *]) rfl ⟨⟨1 + x2, 1 + x3⟩, rfl, ⟨by simp; omega, by simp; omega, by simp; omega, by simp; omega⟩, ((hR3.far hr _ _).far hr _ _).mono (by omega), (HD.far (Nat.le_refl _) (Nat.le_of_lt hr) _ _).far (Nat.le_refl _) (Nat.le_of_lt hr) _ _⟩
  · go_wp2_with fail; refine (spec_pick r 3 (B + 1) _ hR1 (by omega)).mono ?_; rintro e w2 ⟨x2, rfl, hx2, _, hR2, hD2⟩
    go_wp2_with fail; refine (spec_pick r 9 (B + 1 + 1) _ hR2 (by omega)).mono ?_; rintro e w3 ⟨x3, rfl, hx3, _, hR3, hD3⟩
    obtain ⟨hx2a, hx2b⟩ := hx2 (by omega)
    obtain ⟨hx3a, hx3b⟩ := hx3 (by omega)
    replace bk := hD3.blk (hD2.blk bk (by omega)) (by omega)
    have HD := (HD.trans hD2).trans hD3
    have c0 := (blk_cell bk 0).trans rfl
    have c1 := (blk_cell bk 1).trans rfl
    have f0 := blk_frozen bk 0
    have f1 := blk_frozen bk 1
    clear bk hx2 hx3 hD2 hD3 hR1 hR2
    go_wp2
    refine bodyPost_ret (v := (vEn ⟨1 + x2, 1 + x3⟩)) (by simp [results, Tryz.results119, go_sem, zEn, *]) rfl ⟨⟨1 + x2, 1 + x3⟩, rfl, ⟨by simp; omega, by simp; omega, by simp; omega, by simp; omega⟩, ((hR3.far hr _ _).far hr _ _).mono (by omega), (HD.far (Nat.le_refl _) (Nat.le_of_lt hr) _ _).far (Nat.le_refl _) (Nat.le_of_lt hr) _ _⟩
  · go_wp2_with fail; refine (spec_pick r 3 (B + 1) _ hR1 (by omega)).mono ?_; rintro e w2 ⟨x2, rfl, hx2, _, hR2, hD2⟩
    go_wp2_with fail; refine (spec_pick r 9 (B + 1 + 1) _ hR2 (by omega)).mono ?_; rintro e w3 ⟨x3, rfl, hx3, _, hR3, hD3⟩
    obtain ⟨hx2a, hx2b⟩ := hx2 (by omega)
    obtain ⟨hx3a, hx3b⟩ := hx3 (by omega)
    replace bk := hD3.blk (hD2.blk bk (by omega)) (by omega)
    have HD := (HD.trans hD2).trans hD3
    have c0 := (blk_cell bk 0).trans rfl
    have c1 := (blk_cell bk 1).trans rfl
    have f0 := blk_frozen bk 0
    have f1 := blk_frozen bk 1
    clear bk hx2 hx3 hD2 hD3 hR1 hR2
    go_wp2
    refine bodyPost_ret (v := (vEn ⟨1 + x2, 1 + x3⟩)) (by simp [results, Tryz.results119, go_sem, zEn, *]) rfl ⟨⟨1 + x2, 1 + x3⟩, rfl, ⟨by simp; omega, by simp; omega, by simp; omega, by simp; omega⟩, ((hR3.far hr _ _).far hr _ _).mono (by omega), (HD.far (Nat.le_refl _) (Nat.le_of_lt hr) _ _).far (Nat.le_refl _) (Nat.le_of_lt hr) _ _⟩
  · go_wp2_with fail; refine (spec_pick r 3 (B + 1) _ hR1 (by omega)).mono ?_; rintro e w2 ⟨x2, rfl, hx2, _, hR2, hD2⟩
    go_wp2_with fail; refine (spec_pick r 9 (B + 1 + 1) _ hR2 (by omega)).mono ?_; rintro e w3 ⟨x3, rfl, hx3, _, hR3, hD3⟩
    obtain ⟨hx2a, hx2b⟩ := hx2 (by omega)
    obtain ⟨hx3a, hx3b⟩ := hx3 (by omega)
    replace bk := hD3.blk (hD2.blk bk (by omega)) (by omega)
    have HD := (HD.trans hD2).trans hD3
    have c0 := (blk_cell bk 0).trans rfl
    have c1 := (blk_cell bk 1).trans rfl
    have f0 := blk_frozen bk 0
    have f1 := blk_frozen bk 1
    clear bk hx2 hx3 hD2 hD3 hR1 hR2
    go_wp2
    refine bodyPost_ret (v := (vEn ⟨4 + x2, 1 + x3⟩)) (by simp [results, Tryz.results119, go_sem, zEn, *]) rfl ⟨⟨4 + x2, 1 + x3⟩, rfl, ⟨by simp; omega, by simp; omega, by simp; omega, by simp; omega⟩, ((hR3.far hr _ _).far hr _ _).mono (by omega), (HD.far (Nat.le_refl _) (Nat.le_of_lt hr) _ _).far (Nat.le_refl _) (Nat.le_of_lt hr) _ _⟩
  · go_wp2_with fail; refine (spec_pick r 3 (B + 1) _ hR1 (by omega)).mono ?_; rintro e w2 ⟨x2, rfl, hx2, _, hR2, hD2⟩
    go_wp2_with fail; refine (spec_pick r 9 (B + 1 + 1) _ hR2 (by omega)).mono ?_; rintro e w3 ⟨x3, rfl, hx3, _, hR3, hD3⟩
    obtain ⟨hx2a, hx2b⟩ := hx2 (by omega)
    obtain ⟨hx3a, hx3b⟩ := hx3 (by omega)
    replace bk := hD3.blk (hD2.blk bk (by omega)) (by omega)
    have HD := (HD.trans hD2).trans hD3
    have c0 := (blk_cell bk 0).trans rfl
    have c1 := (blk_cell bk 1).trans rfl
    have f0 := blk_frozen bk 0
    have f1 := blk_frozen bk 1
    clear bk hx2 hx3 hD2 hD3 hR1 hR2
    go_wp2
    refine bodyPost_ret (v := (vEn ⟨4 + x2, 1 + x3⟩)) (by simp [results, Tryz.results119, go_sem, zEn, *]) rfl ⟨⟨4 + x2, 1 + x3⟩, rfl, ⟨by simp; omega, by simp; omega, by simp; omega, by simp; omega⟩, ((hR3.far hr _ _).far hr _ _).mono (by omega), (HD.far (Nat.le_refl _) (Nat.le_of_lt hr) _ _).far (Nat.le_refl _) (Nat.le_of_lt hr) _ _⟩
  · go_wp2_with fail; refine (spec_pick r 3 (B + 1) _ hR1 (by omega)).mono ?_; rintro e w2 ⟨x2, rfl, hx2, _, hR2, hD2⟩
    go_wp2_with fail; refine (spec_pick r 9 (B + 1 + 1) _ hR2 (by omega)).mono ?_; rintro e w3 ⟨x3, rfl, hx3, _, hR3, hD3⟩
    obtain ⟨hx2a, hx2b⟩ := hx2 (by omega)
    obtain ⟨hx3a, hx3b⟩ := hx3 (by omega)
    replace bk := hD3.blk (hD2.blk bk (by omega)) (by omega)
    have HD := (HD.trans hD2).trans hD3
    have c0 := (blk_cell bk 0).trans rfl
    have c1 := (blk_cell bk 1).trans rfl
    have f0 := blk_frozen bk 0
    have f1 := blk_frozen bk 1
    clear bk hx2 hx3 hD2 hD3 hR1 hR2
    go_wp2
    refine bodyPost_ret (v := (vEn ⟨4 + x2, 1 + x3⟩)) (by simp [results, Tryz.results119, go_sem, zEn, *]) rfl ⟨⟨4 + x2, 1 + x3⟩, rfl, ⟨by simp; omega, by simp; omega, by simp; omega, by simp; omega⟩, ((hR3.far hr _ _).far hr _ _).mono (by omega), (HD.far (Nat.le_refl _) (Nat.le_of_lt hr) _ _).far (Nat.le_refl _) (Nat.le_of_lt hr) _ _⟩
  · go_wp2_with fail; refine (spec_pick r 8 (B + 1) _ hR1 (by omega)).mono ?_; rintro e w3 ⟨x3, rfl, hx3, _, hR3, hD3⟩
    obtain ⟨hx3a, hx3b⟩ := hx3 (by omega)
    replace bk := hD3.blk bk (by omega)
    have HD := HD.trans hD3
    have c0 := (blk_cell bk 0).trans rfl
    have c1 := (blk_cell bk 1).trans rfl
    have f0 := blk_frozen bk 0
    have f1 := blk_frozen bk 1
    clear bk hx3 hD3 hR1
    go_wp2
    refine bodyPost_ret (v := (vEn ⟨9, 10 + x3⟩)) (by simp [results, Tryz.results119, go_sem, zEn, *]) rfl ⟨⟨9, 10 + x3⟩, rfl, ⟨by simp, by simp, by simp; omega, by simp; omega⟩, ((hR3.far hr _ _).far hr _ _).mono (by omega), (HD.far (Nat.le_refl _) (Nat.le_of_lt hr) _ _).far (Nat.le_refl _) (Nat.le_of_lt hr) _ _⟩
  · go_wp2_with fail; refine (spec_pick r 8 (B + 1) _ hR1 (by omega)).mono ?_; rintro e w3 ⟨x3, rfl, hx3, _, hR3, hD3⟩
    obtain ⟨hx3a, hx3b⟩ := hx3 (by omega)
    replace bk := hD3.blk bk (by omega)
    have HD := HD.trans hD3
    have c0 := (blk_cell bk 0).trans rfl
    have c1 := (blk_cell bk 1).trans rfl
    have f0 := blk_frozen bk 0
    have f1 := blk_frozen bk 1
    clear bk hx3 hD3 hR1
    go_wp2
    refine bodyPost_ret (v := (vEn ⟨9, 10 + x3⟩)) (by simp [results, Tryz.results119, go_sem, zEn, *]) rfl ⟨⟨9, 10 + x3⟩, rfl, ⟨by simp, by simp, by simp; omega, by simp; omega⟩, ((hR3.far hr _ _).far hr _ _).mono (by omega), (HD.far (Nat.le_refl _) (Nat.le_of_lt hr) _ _).far (Nat.le_refl _) (Nat.le_of_lt hr) _ _⟩
  · go_wp2_with fail; refine (spec_pick r 8 (B + 1) _ hR1 (by omega)).mono ?_; rintro e w3 ⟨x3, rfl, hx3, _, hR3, hD3⟩
    obtain ⟨hx3a, hx3b⟩ := hx3 (by omega)
    replace bk := hD3.blk bk (by omega)
    have HD := HD.trans hD3
    have c0 := (blk_cell bk 0).trans rfl
    have c1 := (blk_cell bk 1).trans rfl
    have f0 := blk_frozen bk 0
    have f1 := blk_frozen bk 1
    clear bk hx3 hD3 hR1
    go_wp2
    refine bodyPost_ret (v := (vEn ⟨9, 10 + x3⟩)) (by simp [results, Tryz.results119, go_sem, zEn, *]) rfl ⟨⟨9, 10 + x3⟩, rfl, ⟨by simp, by simp, by simp; omega, by simp; omega⟩, ((hR3.far hr _ _).far hr _ _).mono (by omega), (HD.far (Nat.le_refl _) (Nat.le_of_lt hr) _ _).far (Nat.le_refl _) (Nat.le_of_lt hr) _ _⟩
  · go_wp2_with fail; refine (spec_pick r 8 (B + 1) _ hR1 (by omega)).mono ?_; rintro e w3 ⟨x3, rfl, hx3, _, hR3, hD3⟩
    obtain ⟨hx3a, hx3b⟩ := hx3 (by omega)
    replace bk := hD3.blk bk (by omega)
    have HD := HD.trans hD3
    have c0 := (blk_cell bk 0).trans rfl
    have c1 := (blk_cell bk 1).trans rfl
    have f0 := blk_frozen bk 0
    have f1 := blk_frozen bk 1
    clear bk hx3 hD3 hR1
    go_wp2
    refine bodyPost_ret (v := (vEn ⟨9, 10 + x3⟩)) (by simp [results, Tryz.results119, go_sem, zEn, *]) rfl ⟨⟨9, 10 + x3⟩, rfl, ⟨by simp, by simp, by simp; omega, by simp; omega⟩, ((hR3.far hr _ _).far hr _ _).mono (by omega), (HD.far (Nat.le_refl _) (Nat.le_of_lt hr) _ _).far (Nat.le_refl _) (Nat.le_of_lt hr) _ _⟩
  · go_wp2_with fail; refine (spec_pick r 12 (B + 1) _ hR1 (by omega)).mono ?_; rintro e w2 ⟨x2, rfl, hx2, _, hR2, hD2⟩
    go_wp2_with fail; refine (spec_pick r 20 (B + 1 + 1) _ hR2 (by omega)).mono ?_; rintro e w3 ⟨x3, rfl, hx3, _, hR3, hD3⟩
    obtain ⟨hx2a, hx2b⟩ := hx2 (by omega)
    obtain ⟨hx3a, hx3b⟩ := hx3 (by omega)
    replace bk := hD3.blk (hD2.blk bk (by omega)) (by omega)
    have HD := (HD.trans hD2).trans hD3
    have c0 := (blk_cell bk 0).trans rfl
    have c1 := (blk_cell bk 1).trans rfl
    have f0 := blk_frozen bk 0
    have f1 := blk_frozen bk 1
    clear bk hx2 hx3 hD2 hD3 hR1 hR2
    go_wp2
    refine bodyPost_ret (v := (vEn ⟨x2, x3⟩)) (by simp [results, Tryz.results119, go_sem, zEn, *]) rfl ⟨⟨x2, x3⟩, rfl, ⟨by simp; omega, by simp; omega, by simp; omega, by simp; omega⟩, ((hR3.far hr _ _).far hr _ _).mono (by omega), (HD.far (Nat.le_refl _) (Nat.le_of_lt hr) _ _).far (Nat.le_refl _) (Nat.le_of_lt hr) _ _⟩
end Go.Proofs.YtfjbjiklohjodaaGreatDoor.Z
namespace Go.Proofs.YtfjbjiklohjodaaGreatDoor.Z
open Go.RowKit Go.Proofs.YtfjbjiklohjodaaGreatDoorW.PrintWords
set_option linter.unusedVariables false
set_option linter.unusedSimpArgs false
attribute [local go_sem ↓] Go.wp_at_zero Go.wp_at_succ
attribute [local go_sem high] eqEn eqPr
def portFrom (m : List Pr) (e : En) (k : Nat) : Int := ((m.drop k).find? (fun p => decide (p.inside = e))).elim 0 (·.port)
theorem portFrom_end (m : List Pr) (e : En) (k : Nat) (h : m.length ≤ k) : portFrom m e k = 0 := by
  unfold portFrom; rw [List.drop_of_length_le h]; rfl
theorem drop_getD {α : Type} (m : List α) (z : α) (k : Nat) (h : k < m.length) : m.drop k = m.getD k z :: m.drop (k + 1) := by
  rw [List.drop_eq_getElem_cons h, List.getD_eq_getElem?_getD, List.getElem?_eq_getElem h]; rfl
theorem portFrom_hit {m : List Pr} {e : En} {k : Nat} {p : Pr} (h : k < m.length) (hp : Aside0 (m.getD k zPr = p)) (he : p.inside = e) : portFrom m e k = p.port := by
  obtain rfl := hp.out
  unfold portFrom; rw [drop_getD m zPr k h, List.find?_cons]; simp only [he, decide_true]; rfl
theorem portFrom_miss {m : List Pr} {e : En} {k : Nat} {p : Pr} (h : k < m.length) (hp : Aside0 (m.getD k zPr = p)) (he : p.inside ≠ e) : portFrom m e k = portFrom m e (k + 1) := by
  obtain rfl := hp.out
  unfold portFrom; rw [drop_getD m zPr k h, List.find?_cons]; simp only [he, decide_false]
theorem En_ext {a b : En} (h1 : a.addr = b.addr) (h2 : a.port = b.port) : a = b := by cases a; cases b; simp_all
theorem En_beq {a b : En} (h : a = b) : (a.addr == b.addr && (a.port == b.port)) = true := by subst h; simp
theorem En_bne {a b : En} (h : a ≠ b) : (a.addr == b.addr && (a.port == b.port)) = false := by
  rw [Bool.eq_false_iff]; intro h2; simp at h2; exact h (En_ext h2.1 h2.2)
theorem ret_int {k : IntKind} {a b : Int} (h : a = b) : Ending.returned (.int k a) = .returned (.int k b) := by rw [h]
theorem ret_bool {a b : Bool} (h : a = b) : Ending.returned (.bool a) = .returned (.bool b) := by rw [h]
set_option maxHeartbeats 1000000 in
theorem impl_port (A : Option Addr) (n c : Nat) (m : List Pr) (e : En) (w : World) (hC : Kd.C kPr w A n m) :
    Calls Tryz.prog 76 #[.slice A n c, vEn e] w fun r w' => r = .returned (.int .i64 (portFrom m e 0)) ∧ Below w.heap.size w w' := by
  obtain rfl : m.length = n := hC.1
  have hm := max_len hC
  have HC := Aside0.mk hC; clear hC
  go_enter Tryz.func76, Tryz.ntmps76
  go_wp2
  go_loopw [9] (fun i w' => ∃ k : Nat, k ≤ m.length ∧ i = .int .i64 k ∧ Aside0 (portFrom m e k = portFrom m e 0) ∧ Aside0 (w'.heap[w.heap.size]? = some (.cells #[.int .i64 e.addr, .int .i64 e.port] 62 (0, 0))) ∧ Below w.heap.size w w') (fun i _ => m.length - (intOf i).toNat)
  case atStart => exact ⟨0, Nat.zero_le _, rfl, ⟨rfl⟩, ⟨heap_alloc_new w _⟩, (Below.refl _ _).alloc (Nat.le_refl _) _⟩
  case round =>
    obtain ⟨k, hk, rfl, HP, HX, hb⟩ := hrel
    by_cases hlt : k < m.length
    · have c0 : wr.cell? ⟨w.heap.size, 0, none⟩ = some (.int .i64 e.addr) := (blk_cell HX.out 0).trans rfl
      have c1 : wr.cell? ⟨w.heap.size, 1, none⟩ = some (.int .i64 e.port) := (blk_cell HX.out 1).trans rfl
      have hz := blk_lt HX.out
      obtain ⟨ad, p, hA, hp, dL, d0, d1, d2⟩ := at_Pr (Kd.C_below HC.out hb) k hlt
      cases hA
      by_cases he : p.inside = e
      · have ht := En_beq he
        have HF := Aside0.mk ((portFrom_hit hlt hp he).symm.trans HP.out)
        clear he
        go_wp2
        go_ret
        exact ⟨ret_int HF.out, hb.alloc hb.size _⟩
      · have ht := En_bne he
        have HF := Aside0.mk ((portFrom_miss hlt hp he).symm.trans HP.out)
        clear he
        go_wp2
        go_roundw
        case rel => exact ⟨k + 1, by omega, by go_num, HF, ⟨blk_alloc HX.out _⟩, hb.alloc hb.size _⟩
        case measure => simp [intOf]; omega
    · have HF := Aside0.mk ((portFrom_end m e k (by omega)).symm.trans HP.out)
      go_wp2
      go_ret
      exact ⟨ret_int HF.out, hb⟩
def goodAt (m : List Pr) (i : Nat) : Prop := (m.getD i zPr).port = 10 + i ∧ insideB (m.getD i zPr).inside = true ∧ ∀ j, j < i → (m.getD j zPr).inside ≠ (m.getD i zPr).inside
def okUpto (m : List Pr) (k : Nat) : Prop := ∀ i, i < k → goodAt m i
def mapOk (m : List Pr) : Prop := okUpto m m.length ∧ m.length ≤ 8
open Classical in
noncomputable def mapOkB (m : List Pr) : Bool := decide (mapOk m)
theorem mapOkB_no {m : List Pr} {k : Nat} (h : k < m.length) (hn : ¬ goodAt m k) : mapOkB m = false := by
  unfold mapOkB; rw [decide_eq_false_iff_not]; intro h2; exact hn (h2.1 k h)
theorem mapOkB_iff {m : List Pr} : mapOkB m = true ↔ mapOk m := by unfold mapOkB; simp
theorem mapOkB_end {m : List Pr} {k : Nat} (hk : ¬ k < m.length) (h : okUpto m k) (hk2 : k ≤ m.length) : mapOkB m = decide ((m.length : Int) ≤ 8) := by
  obtain rfl : k = m.length := by omega
  rw [Bool.eq_iff_iff, mapOkB_iff, decide_eq_true_iff]
  exact ⟨fun h2 => by have := h2.2; omega, fun h2 => ⟨h, by omega⟩⟩
theorem okUpto_succ {m : List Pr} {k : Nat} (h : okUpto m k) (hg : goodAt m k) : okUpto m (k + 1) := by
  intro i hi
  rcases Nat.lt_succ_iff_lt_or_eq.1 hi with h1 | h1
  · exact h i h1
  · exact h1 ▸ hg
theorem find_none_take {m : List Pr} {e : En} {k : Nat} (hk : k ≤ m.length) : (m.take k).find? (fun p => decide (p.inside = e)) = none ↔ ∀ j, j < k → (m.getD j zPr).inside ≠ e := by
  rw [List.find?_eq_none]
  constructor
  · intro h j hj he
    have hj2 : j < m.length := by omega
    refine h (m.getD j zPr) ?_ (by rw [decide_eq_true_iff]; exact he)
    rw [List.getD_eq_getElem?_getD, List.getElem?_eq_getElem hj2]
    exact List.mem_take_iff_getElem.2 ⟨j, by omega, rfl⟩
  · intro h x hx
    obtain ⟨j, hj, rfl⟩ := List.mem_take_iff_getElem.1 hx
    have := h j (by omega)
    rw [List.getD_eq_getElem?_getD, List.getElem?_eq_getElem (by omega)] at this
    simpa using this
theorem port_take_zero {m : List Pr} {e : En} {k : Nat} (hk : k ≤ m.length) (h : okUpto m k) : portFrom (m.take k) e 0 = 0 ↔ ∀ j, j < k → (m.getD j zPr).inside ≠ e := by
  rw [← find_none_take hk]
  unfold portFrom
  rw [List.drop_zero]
  cases hf : (m.take k).find? (fun p => decide (p.inside = e)) with
  | none => simp
  | some p =>
    obtain ⟨j, hj, rfl⟩ := List.mem_take_iff_getElem.1 (List.mem_of_find?_eq_some hf)
    have := (h j (by omega)).1
    rw [List.getD_eq_getElem?_getD, List.getElem?_eq_getElem (by omega)] at this
    simp only [Option.getD_some] at this
    simp [Option.elim, this]
    omega
end Go.Proofs.YtfjbjiklohjodaaGreatDoor.Z
namespace Go.Proofs.YtfjbjiklohjodaaGreatDoor.Z
open Go.RowKit Go.Proofs.YtfjbjiklohjodaaGreatDoorW.PrintWords Go.Proofs.YtfjbjiklohjodaaGreatDoorW.PrintLast
set_option linter.unusedVariables false
def lst (n : Nat) (dn : List Nat) : List Bool := (List.range n).map (fun i => dn.contains i)
def Lin (P : Program) (ops : Array Oper) (Q : Exit → Act → World → Prop) (S : World → Prop) (T : Bool × List (List Nat × List Nat)) (n : Nat) (dn todo : List Nat) (a : Act) (w : World) : Prop :=
  Aside0 (rtab .any ops = T) → S w → wpAnyLast P .any ops Q S [] todo.length (lst n dn).toArray a w
section
variable {P : Program} {ops : Array Oper} {Q : Exit → Act → World → Prop} {S : World → Prop} {T : Bool × List (List Nat × List Nat)} {n : Nat} {dn rest : List Nat} {i : Nat} {oi : Oper} {N : Option Tmp} {a : Act} {w : World}
theorem lin_start {id : Nat} (S : World → Prop) (T : Bool × List (List Nat × List Nat)) (ord : List Nat) (hm : P.follows .mixedOrders = true) (hT : rtab .any ops = T) (hn : (ops.size == ord.length) = true) (hS : S w.drew)
    (h : Lin P ops Q S T ord.length [] ord a w.drew) : (Code.region id ops true).wp P Q a w := by
  have hn' : ops.size = ord.length := by simpa using hn
  refine start_ (n := ord.length) (S := S) (ds := []) ((lst ord.length []).toArray) hm hn' ?_ hS (fun hS => h ⟨hT⟩ hS)
  apply Array.ext'
  simp [lst, List.map_const']
theorem lin_take {v : Value} {a' : Act} (hi : ops[i]? = some oi) (hN : oi.dst = N) (hc : takeT T [] (lst n dn) (lst n (i :: dn)) i = true)
    (hQ : ∀ c a w, Q (.panic c) (a.put oi.dst v) w → Q (.panic c) a w) (hw : Region.wanted oi (yielded ops a.tmps) = true) (hy : ∀ w, S w → (execOp a.eval oi).run P w = .ok (.value v) w) (ha : a.put N v = a')
    (h : Lin P ops Q S T n (i :: dn) rest a' w) : Lin P ops Q S T n dn (i :: rest) a w :=
  fun hT hS => take_ (lst n (i :: dn)).toArray hi hN (take_of hT.out (by simpa using hc)) hQ (.inl ⟨hw, hy⟩) hS ha (h hT hS)
theorem lin_off {a' : Act} (hi : ops[i]? = some oi) (hN : oi.dst = N) (hc : takeT T [] (lst n dn) (lst n (i :: dn)) i = true)
    (hQ : ∀ c a w, Q (.panic c) (a.put oi.dst undef) w → Q (.panic c) a w) (hw : Region.wanted oi (yielded ops a.tmps) = false) (ha : a.put N undef = a')
    (h : Lin P ops Q S T n (i :: dn) rest a' w) : Lin P ops Q S T n dn (i :: rest) a w :=
  fun hT hS => take_ (lst n (i :: dn)).toArray hi hN (take_of hT.out (by simpa using hc)) hQ (.inr ⟨hw, rfl⟩) hS ha (h hT hS)
theorem lin_one (hi : ops[i]? = some oi) (hN : oi.dst = N) (hc : (readyT T.2 (lst n dn) == [i] && (lst n dn).set i true == lst n (i :: dn)) = true)
    (h : S w → ∀ K : Act → World → Prop, Shut (∀ a' w', S w' → Lin P ops Q S T n (i :: dn) rest a' w' → K a' w') → if Region.wanted oi (yielded ops a.tmps) = true then Oper.wp P oi a w K Q else K (a.put N undef) w) :
    Lin P ops Q S T n dn (i :: rest) a w :=
  fun hT hS => one_ (lst n (i :: dn)).toArray hi hN (one_of hT.out (by simpa using hc)) (by simp) (fun K hK => h hS K (fun a' w' h1 h2 => hK.out a' w' h1 (fun h3 => h2 hT h3)))
theorem lin_call {f : FuncId} {fn : Func} {xs : Array Operand} {ts : Array TypeId} {args : Array Value} (hi : ops[i]? = some oi) (hop : oi.op = .call { callee := .value (.func f), args := xs, argTypes := ts }) (hN : oi.dst = N) (hf : P.funcs[f]? = some fn)
    (hc : (readyT T.2 (lst n dn) == [i] && (lst n dn).set i true == lst n (i :: dn)) = true) (hname : (fn.name == "runtime.NumGoroutine") = false) (hb : fn.body.isSome = true)
    (hw : Region.wanted oi (yielded ops a.tmps) = true) (hargs : xs.map a.eval = args)
    (h : S w → Calls P f args w fun e w' => ∃ v, e = .returned v ∧ S w' ∧ Lin P ops Q S T n (i :: dn) rest (a.put N v) w') : Lin P ops Q S T n dn (i :: rest) a w :=
  lin_one hi hN hc (fun hS K hK => goes_ hf hname hb args hw hN hop hargs ((h hS).mono fun e w' ⟨v, he, h1, h2⟩ => ⟨v, he, hK.out _ _ h1 h2⟩))
theorem lin_two {j : Nat} {oj : Oper} {Nj : Option Tmp} {rest' : List Nat} (hi : ops[i]? = some oi) (hj : ops[j]? = some oj) (hN : oi.dst = N) (hNj : oj.dst = Nj)
    (hc : (readyT T.2 (lst n dn) == [i, j] && (lst n dn).set i true == lst n (i :: dn) && (lst n dn).set j true == lst n (j :: dn)) = true) (hlen : rest'.length = rest.length)
    (h1 : S w → ∀ K : Act → World → Prop, Shut (∀ a' w', S w' → Lin P ops Q S T n (i :: dn) rest a' w' → K a' w') → if Region.wanted oi (yielded ops a.tmps) = true then Oper.wp P oi a w K Q else K (a.put N undef) w)
    (h2 : S w → ∀ K : Act → World → Prop, Shut (∀ a' w', S w' → Lin P ops Q S T n (j :: dn) rest' a' w' → K a' w') → if Region.wanted oj (yielded ops a.tmps) = true then Oper.wp P oj a w K Q else K (a.put Nj undef) w) :
    Lin P ops Q S T n dn (i :: rest) a w :=
  fun hT hS => two_ (lst n (i :: dn)).toArray (lst n (j :: dn)).toArray hi hj hN hNj (two_of hT.out (by simpa using hc)) (by simp) (by simp)
    (fun K hK => h1 hS K (fun a' w' hw hl => hK.out a' w' hw (fun h3 => hl hT h3)))
    (fun K hK => h2 hS K (fun a' w' hw hl => hK.out a' w' hw (fun h3 => by have := hl hT h3; rwa [hlen] at this)))
theorem step_value {K : Act → World → Prop} {w1 : World} {v : Value} (hw : Region.wanted oi (yielded ops a.tmps) = true) (hN : oi.dst = N) (hrun : (execOp a.eval oi).run P w = .ok (.value v) w1) (h : K (a.put N v) w1) :
    if Region.wanted oi (yielded ops a.tmps) = true then Oper.wp P oi a w K Q else K (a.put N undef) w := by
  subst hN
  exact event_step hw hrun h
theorem step_call {K : Act → World → Prop} {f : FuncId} {fn : Func} {xs : Array Operand} {ts : Array TypeId} {args : Array Value} (hw : Region.wanted oi (yielded ops a.tmps) = true) (hN : oi.dst = N) (hop : oi.op = .call { callee := .value (.func f), args := xs, argTypes := ts }) (hf : P.funcs[f]? = some fn)
    (hname : (fn.name == "runtime.NumGoroutine") = false) (hb : fn.body.isSome = true) (hargs : xs.map a.eval = args) (h : Calls P f args w fun e w' => ∃ v, e = .returned v ∧ K (a.put N v) w') :
    if Region.wanted oi (yielded ops a.tmps) = true then Oper.wp P oi a w K Q else K (a.put N undef) w :=
  goes_ hf hname hb args hw hN hop hargs h
theorem lin_event {v : Value} {a' : Act} {w1 : World} (hi : ops[i]? = some oi) (hN : oi.dst = N) (hc : (readyT T.2 (lst n dn) == [i] && (lst n dn).set i true == lst n (i :: dn)) = true)
    (hw : Region.wanted oi (yielded ops a.tmps) = true) (hrun : S w → (execOp a.eval oi).run P w = .ok (.value v) w1) (hS : S w → S w1) (ha : a.put N v = a') (h : Lin P ops Q S T n (i :: dn) rest a' w1) : Lin P ops Q S T n dn (i :: rest) a w := by
  subst ha
  subst hN
  exact lin_one hi rfl hc (fun hs K hK => event_step hw (hrun hs) (hK.out _ _ (hS hs) h))
theorem lin_skip {w1 : World} (hi : ops[i]? = some oi) (hN : oi.dst = none) (hc : (readyT T.2 (lst n dn) == [i] && (lst n dn).set i true == lst n (i :: dn)) = true)
    (hw : Region.wanted oi (yielded ops a.tmps) = true) (hrun : S w → (execOp a.eval oi).run P w = .ok .skip w1) (hS : S w → S w1) (h : Lin P ops Q S T n (i :: dn) rest a w1) : Lin P ops Q S T n dn (i :: rest) a w := by
  refine lin_one hi hN hc (fun hs K hK => ?_)
  rw [if_pos hw]
  unfold Oper.wp
  rw [hrun hs]
  show K (a.put oi.dst undef) w1
  rw [hN]
  exact hK.out _ _ (hS hs) h
theorem lin_norm {a' : Act} {todo : List Nat} (ha : a = a') (h : Lin P ops Q S T n dn todo a' w) : Lin P ops Q S T n dn todo a w := by
  subst ha
  exact h
theorem lin_done (hc : (readyT T.2 (lst n dn) == []) = true) (h : Q .normal a w) : Lin P ops Q S T n dn [] a w :=
  fun hT _ => done_ (done_of hT.out (by simpa using hc)) h
end
end Go.Proofs.YtfjbjiklohjodaaGreatDoor.Z
namespace Go.Proofs.YtfjbjiklohjodaaGreatDoor.Z
open Go.RowKit Go.Proofs.YtfjbjiklohjodaaGreatDoorW.PrintWords
set_option linter.unusedVariables false
set_option linter.unusedSimpArgs false
attribute [local go_sem ↓] Go.wp_at_zero Go.wp_at_succ
attribute [local go_sem high] eqEn eqPr
set_option maxHeartbeats 2000000 in
theorem impl_MapOk (A : Option Addr) (n c : Nat) (m : List Pr) (w : World) (hC : Kd.C kPr w A n m) (hn : n ≤ 1099511627776) (hc : n ≤ c) :
    Calls Tryz.prog 23 #[.slice A n c] w fun r w' => r = .returned (.bool (mapOkB m)) ∧ Below w.heap.size w w' := by
  obtain rfl : m.length = n := hC.1
  have hcI : (m.length : Int) ≤ (c : Int) := by omega
  have HC := Aside0.mk hC; clear hC
  go_enter Tryz.func23, Tryz.ntmps23
  go_wp2
  go_loopw [7] (fun i w' => ∃ k : Nat, k ≤ m.length ∧ i = .int .i64 k ∧ Aside0 (okUpto m k) ∧ Below w.heap.size w w') (fun i _ => m.length - (intOf i).toNat)
  case atStart => exact ⟨0, Nat.zero_le _, rfl, ⟨fun i hi => absurd hi (Nat.not_lt_zero _)⟩, Below.refl _ _⟩
  case round =>
    obtain ⟨k, hk, rfl, HP, hb⟩ := hrel
    by_cases hlt : k < m.length
    · obtain ⟨ad, p, hA, hp, dL, d0, d1, d2⟩ := at_Pr (Kd.C_below HC.out hb) k hlt
      cases hA
      have hk0 : (0 : Int) ≤ (k : Int) := Int.natCast_nonneg _
      have hk1 : (k : Int) ≤ (m.length : Int) := by omega
      have hkc : (k : Int) ≤ (c : Int) := by omega
      by_cases h1 : p.port = 10 + k
      · have t1 : (p.port == 10 + (k : Int)) = true := beq_iff_eq.2 h1
        have t2 : (p.port != 10 + (k : Int)) = false := by rw [bne_eq_false_iff_eq]; exact h1
        cases h2 : insideB p.inside
        · have HF := Aside0.mk (mapOkB_no hlt (fun hg => by have := hg.2.1; rw [hp.out, h2] at this; cases this))
          have H2 := Aside0.mk h2
          clear h1 h2
          go_wp2
          have hw : IntKind.i64.wrap (10 + (k : Int)) = 10 + k := IntWalk.i64_in _ (by omega)
          refine lin_start (fun w' => w'.cell? ⟨wr.heap.size, 0, none⟩ = some (.int .i64 p.port) ∧ w'.cell? ⟨wr.heap.size, 1, none⟩ = some (.int .i64 p.inside.addr) ∧ w'.cell? ⟨wr.heap.size, 2, none⟩ = some (.int .i64 p.inside.port)) (true, [([], []), ([0], [0]), ([], []), ([2], [2]), ([1, 3], [1, 3]), ([4], [4]), ([5], [5]), ([6, 5], [5, 6]), ([7, 5, 5], [5, 7]), ([8, 5], [5, 8]), ([5, 9], [5, 9]), ([10, 8], [10]), ([11], [11]), ([11], [11]), ([12, 13, 11], [11, 12, 13]), ([11], [11]), ([15, 11], [11, 15]), ([14, 16, 11, 11], [11, 14, 16]), ([17, 11], [11, 17]), ([11, 18], [11, 18])]) [0, 1, 2, 3, 4, 5, 6, 7, 8, 9, 10, 11, 12, 13, 14, 15, 16, 17, 18, 19] (by kernel_rfl) (by kernel_rfl) (by kernel_rfl) (by simp) ?_
          repeat (first | (refine lin_take rfl rfl (by kernel_rfl) (fun _ _ _ h => h) (by rfl) (v := ?_) (a' := ?_) ?_ ?_ ?_; rotate_left 2; (rintro w' ⟨s0, s1, s2⟩; go_simp; with_reducible rfl); (simp only [List.getElem_toArray, List.getElem_cons_zero, List.getElem_cons_succ, Act.put, List.setIfInBounds_toArray, List.set_cons_zero, List.set_cons_succ]; rfl)) | (refine lin_off rfl rfl (by kernel_rfl) (fun _ _ _ h => h) (by rfl) (a' := ?_) ?_ ?_; rotate_left 1; (simp only [List.getElem_toArray, List.getElem_cons_zero, List.getElem_cons_succ, Act.put, List.setIfInBounds_toArray, List.set_cons_zero, List.set_cons_succ]; rfl)))
          refine lin_call rfl rfl rfl Tryz.func75 (by kernel_rfl) (by kernel_rfl) rfl (by rfl) (args := #[vEn p.inside]) (by (try simp only [List.map_toArray, List.map_cons, List.map_nil]); first | done | rfl) (fun hS => ?_)
          refine (impl_EndInside p.inside _).mono ?_
          rintro e w3 ⟨rfl, hb3⟩
          refine ⟨_, rfl, ?_, ?_⟩
          · first | exact (hb3.cell (by first | exact blk_lt (heap_alloc_new wr _))).trans hS | (obtain ⟨s0, s1, s2⟩ := hS; exact ⟨(hb3.cell (by first | exact blk_lt (heap_alloc_new wr _))).trans s0, (hb3.cell (by first | exact blk_lt (heap_alloc_new wr _))).trans s1, (hb3.cell (by first | exact blk_lt (heap_alloc_new wr _))).trans s2⟩)
          refine lin_norm (a' := ?_) ?_ ?_; rotate_left 1; (simp only [List.getElem_toArray, List.getElem_cons_zero, List.getElem_cons_succ, Act.put, List.setIfInBounds_toArray, List.set_cons_zero, List.set_cons_succ, H2.out]; rfl)
          repeat (first | (refine lin_take rfl rfl (by kernel_rfl) (fun _ _ _ h => h) (by rfl) (v := ?_) (a' := ?_) ?_ ?_ ?_; rotate_left 2; (rintro w' ⟨s0, s1, s2⟩; go_simp; with_reducible rfl); (simp only [List.getElem_toArray, List.getElem_cons_zero, List.getElem_cons_succ, Act.put, List.setIfInBounds_toArray, List.set_cons_zero, List.set_cons_succ]; rfl)) | (refine lin_off rfl rfl (by kernel_rfl) (fun _ _ _ h => h) (by rfl) (a' := ?_) ?_ ?_; rotate_left 1; (simp only [List.getElem_toArray, List.getElem_cons_zero, List.getElem_cons_succ, Act.put, List.setIfInBounds_toArray, List.set_cons_zero, List.set_cons_succ]; rfl)))
          refine lin_done (by kernel_rfl) ?_
          clear hw
          go_wp2
          go_ret
          exact ⟨ret_bool HF.out.symm, below_step ((by repeat (first | (with_reducible exact hb) | (with_reducible apply below_alloc) | (with_reducible apply pw_below_drewN) | (with_reducible apply below_drew1) | with_reducible refine below_set ?_ (by first | (with_reducible exact Nat.le_refl _) | (with_reducible assumption) | (simp; done) | omega | (simp; omega))))) hb3⟩
        · have H2 := Aside0.mk h2
          have hz : (portFrom (m.take k) p.inside 0 = 0) ↔ _ := port_take_zero (Nat.le_of_lt hlt) HP.out
          by_cases h3 : portFrom (m.take k) p.inside 0 = 0
          · have hg : goodAt m k := ⟨by rw [hp.out]; exact h1, by rw [hp.out]; exact h2, by rw [hp.out]; exact hz.1 h3⟩
            have HF := Aside0.mk (okUpto_succ HP.out hg)
            have H3 := Aside0.mk h3
            clear h1 h2 h3 hz hg
            go_wp2
            have hw : IntKind.i64.wrap (10 + (k : Int)) = 10 + k := IntWalk.i64_in _ (by omega)
            refine lin_start (fun w' => w'.cell? ⟨wr.heap.size, 0, none⟩ = some (.int .i64 p.port) ∧ w'.cell? ⟨wr.heap.size, 1, none⟩ = some (.int .i64 p.inside.addr) ∧ w'.cell? ⟨wr.heap.size, 2, none⟩ = some (.int .i64 p.inside.port)) (true, [([], []), ([0], [0]), ([], []), ([2], [2]), ([1, 3], [1, 3]), ([4], [4]), ([5], [5]), ([6, 5], [5, 6]), ([7, 5, 5], [5, 7]), ([8, 5], [5, 8]), ([5, 9], [5, 9]), ([10, 8], [10]), ([11], [11]), ([11], [11]), ([12, 13, 11], [11, 12, 13]), ([11], [11]), ([15, 11], [11, 15]), ([14, 16, 11, 11], [11, 14, 16]), ([17, 11], [11, 17]), ([11, 18], [11, 18])]) [0, 1, 2, 3, 4, 5, 6, 7, 8, 9, 10, 11, 12, 13, 14, 15, 16, 17, 18, 19] (by kernel_rfl) (by kernel_rfl) (by kernel_rfl) (by simp) ?_
            repeat (first | (refine lin_take rfl rfl (by kernel_rfl) (fun _ _ _ h => h) (by rfl) (v := ?_) (a' := ?_) ?_ ?_ ?_; rotate_left 2; (rintro w' ⟨s0, s1, s2⟩; go_simp; with_reducible rfl); (simp only [List.getElem_toArray, List.getElem_cons_zero, List.getElem_cons_succ, Act.put, List.setIfInBounds_toArray, List.set_cons_zero, List.set_cons_succ]; rfl)) | (refine lin_off rfl rfl (by kernel_rfl) (fun _ _ _ h => h) (by rfl) (a' := ?_) ?_ ?_; rotate_left 1; (simp only [List.getElem_toArray, List.getElem_cons_zero, List.getElem_cons_succ, Act.put, List.setIfInBounds_toArray, List.set_cons_zero, List.set_cons_succ]; rfl)))
            refine lin_call rfl rfl rfl Tryz.func75 (by kernel_rfl) (by kernel_rfl) rfl (by rfl) (args := #[vEn p.inside]) (by (try simp only [List.map_toArray, List.map_cons, List.map_nil]); first | done | rfl) (fun hS => ?_)
            refine (impl_EndInside p.inside _).mono ?_
            rintro e w3 ⟨rfl, hb3⟩
            refine ⟨_, rfl, ?_, ?_⟩
            · first | exact (hb3.cell (by first | exact blk_lt (heap_alloc_new wr _))).trans hS | (obtain ⟨s0, s1, s2⟩ := hS; exact ⟨(hb3.cell (by first | exact blk_lt (heap_alloc_new wr _))).trans s0, (hb3.cell (by first | exact blk_lt (heap_alloc_new wr _))).trans s1, (hb3.cell (by first | exact blk_lt (heap_alloc_new wr _))).trans s2⟩)
            refine lin_norm (a' := ?_) ?_ ?_; rotate_left 1; (simp only [List.getElem_toArray, List.getElem_cons_zero, List.getElem_cons_succ, Act.put, List.setIfInBounds_toArray, List.set_cons_zero, List.set_cons_succ, H2.out]; rfl)
            repeat (first | (refine lin_take rfl rfl (by kernel_rfl) (fun _ _ _ h => h) (by rfl) (v := ?_) (a' := ?_) ?_ ?_ ?_; rotate_left 2; (rintro w' ⟨s0, s1, s2⟩; go_simp; with_reducible rfl); (simp only [List.getElem_toArray, List.getElem_cons_zero, List.getElem_cons_succ, Act.put, List.setIfInBounds_toArray, List.set_cons_zero, List.set_cons_succ]; rfl)) | (refine lin_off rfl rfl (by kernel_rfl) (fun _ _ _ h => h) (by rfl) (a' := ?_) ?_ ?_; rotate_left 1; (simp only [List.getElem_toArray, List.getElem_cons_zero, List.getElem_cons_succ, Act.put, List.setIfInBounds_toArray, List.set_cons_zero, List.set_cons_succ]; rfl)))
            refine lin_call rfl rfl rfl Tryz.func76 (by kernel_rfl) (by kernel_rfl) rfl (by rfl) (args := #[.slice (some ad) k c, vEn p.inside]) (by (try simp only [List.map_toArray, List.map_cons, List.map_nil]); first | done | rfl) (fun hS => ?_)
            refine (impl_port (some ad) k c (m.take k) p.inside _ (C_take' (Kd.C_below (w := w) HC.out (below_step ((by repeat (first | (with_reducible exact hb) | (with_reducible apply below_alloc) | (with_reducible apply pw_below_drewN) | (with_reducible apply below_drew1) | with_reducible refine below_set ?_ (by first | (with_reducible exact Nat.le_refl _) | (with_reducible assumption) | (simp; done) | omega | (simp; omega))))) hb3)) (Nat.le_of_lt hlt))).mono ?_
            rintro e w4 ⟨rfl, hb4⟩
            refine ⟨_, rfl, ?_, ?_⟩
            · first | exact (hb4.cell (by first | exact Nat.lt_of_lt_of_le (blk_lt (heap_alloc_new wr _)) hb3.size)).trans hS | (obtain ⟨s0, s1, s2⟩ := hS; exact ⟨(hb4.cell (by first | exact Nat.lt_of_lt_of_le (blk_lt (heap_alloc_new wr _)) hb3.size)).trans s0, (hb4.cell (by first | exact Nat.lt_of_lt_of_le (blk_lt (heap_alloc_new wr _)) hb3.size)).trans s1, (hb4.cell (by first | exact Nat.lt_of_lt_of_le (blk_lt (heap_alloc_new wr _)) hb3.size)).trans s2⟩)
            refine lin_norm (a' := ?_) ?_ ?_; rotate_left 1; (simp only [List.getElem_toArray, List.getElem_cons_zero, List.getElem_cons_succ, Act.put, List.setIfInBounds_toArray, List.set_cons_zero, List.set_cons_succ, H3.out]; rfl)
            repeat (first | (refine lin_take rfl rfl (by kernel_rfl) (fun _ _ _ h => h) (by rfl) (v := ?_) (a' := ?_) ?_ ?_ ?_; rotate_left 2; (rintro w' ⟨s0, s1, s2⟩; go_simp; with_reducible rfl); (simp only [List.getElem_toArray, List.getElem_cons_zero, List.getElem_cons_succ, Act.put, List.setIfInBounds_toArray, List.set_cons_zero, List.set_cons_succ]; rfl)) | (refine lin_off rfl rfl (by kernel_rfl) (fun _ _ _ h => h) (by rfl) (a' := ?_) ?_ ?_; rotate_left 1; (simp only [List.getElem_toArray, List.getElem_cons_zero, List.getElem_cons_succ, Act.put, List.setIfInBounds_toArray, List.set_cons_zero, List.set_cons_succ]; rfl)))
            refine lin_done (by kernel_rfl) ?_
            clear hw
            go_wp2
            go_roundw
            case rel => exact ⟨k + 1, by omega, by go_num, HF, below_step (below_step ((by repeat (first | (with_reducible exact hb) | (with_reducible apply below_alloc) | (with_reducible apply pw_below_drewN) | (with_reducible apply below_drew1) | with_reducible refine below_set ?_ (by first | (with_reducible exact Nat.le_refl _) | (with_reducible assumption) | (simp; done) | omega | (simp; omega))))) hb3) hb4⟩
            case measure => simp [intOf]; omega
          · have HF := Aside0.mk (mapOkB_no hlt (fun hg => h3 (hz.2 (by have := hg.2.2; rw [hp.out] at this; exact this))))
            have t5 : (portFrom (m.take k) p.inside 0 == 0) = false := beq_eq_false_iff_ne.2 h3
            have t6 : (portFrom (m.take k) p.inside 0 != 0) = true := bne_iff_ne.2 h3
            clear h1 h2 h3 hz
            go_wp2
            have hw : IntKind.i64.wrap (10 + (k : Int)) = 10 + k := IntWalk.i64_in _ (by omega)
            refine lin_start (fun w' => w'.cell? ⟨wr.heap.size, 0, none⟩ = some (.int .i64 p.port) ∧ w'.cell? ⟨wr.heap.size, 1, none⟩ = some (.int .i64 p.inside.addr) ∧ w'.cell? ⟨wr.heap.size, 2, none⟩ = some (.int .i64 p.inside.port)) (true, [([], []), ([0], [0]), ([], []), ([2], [2]), ([1, 3], [1, 3]), ([4], [4]), ([5], [5]), ([6, 5], [5, 6]), ([7, 5, 5], [5, 7]), ([8, 5], [5, 8]), ([5, 9], [5, 9]), ([10, 8], [10]), ([11], [11]), ([11], [11]), ([12, 13, 11], [11, 12, 13]), ([11], [11]), ([15, 11], [11, 15]), ([14, 16, 11, 11], [11, 14, 16]), ([17, 11], [11, 17]), ([11, 18], [11, 18])]) [0, 1, 2, 3, 4, 5, 6, 7, 8, 9, 10, 11, 12, 13, 14, 15, 16, 17, 18, 19] (by kernel_rfl) (by kernel_rfl) (by kernel_rfl) (by simp) ?_
            repeat (first | (refine lin_take rfl rfl (by kernel_rfl) (fun _ _ _ h => h) (by rfl) (v := ?_) (a' := ?_) ?_ ?_ ?_; rotate_left 2; (rintro w' ⟨s0, s1, s2⟩; go_simp; with_reducible rfl); (simp only [List.getElem_toArray, List.getElem_cons_zero, List.getElem_cons_succ, Act.put, List.setIfInBounds_toArray, List.set_cons_zero, List.set_cons_succ]; rfl)) | (refine lin_off rfl rfl (by kernel_rfl) (fun _ _ _ h => h) (by rfl) (a' := ?_) ?_ ?_; rotate_left 1; (simp only [List.getElem_toArray, List.getElem_cons_zero, List.getElem_cons_succ, Act.put, List.setIfInBounds_toArray, List.set_cons_zero, List.set_cons_succ]; rfl)))
            refine lin_call rfl rfl rfl Tryz.func75 (by kernel_rfl) (by kernel_rfl) rfl (by rfl) (args := #[vEn p.inside]) (by (try simp only [List.map_toArray, List.map_cons, List.map_nil]); first | done | rfl) (fun hS => ?_)
            refine (impl_EndInside p.inside _).mono ?_
            rintro e w3 ⟨rfl, hb3⟩
            refine ⟨_, rfl, ?_, ?_⟩
            · first | exact (hb3.cell (by first | exact blk_lt (heap_alloc_new wr _))).trans hS | (obtain ⟨s0, s1, s2⟩ := hS; exact ⟨(hb3.cell (by first | exact blk_lt (heap_alloc_new wr _))).trans s0, (hb3.cell (by first | exact blk_lt (heap_alloc_new wr _))).trans s1, (hb3.cell (by first | exact blk_lt (heap_alloc_new wr _))).trans s2⟩)
            refine lin_norm (a' := ?_) ?_ ?_; rotate_left 1; (simp only [List.getElem_toArray, List.getElem_cons_zero, List.getElem_cons_succ, Act.put, List.setIfInBounds_toArray, List.set_cons_zero, List.set_cons_succ, H2.out]; rfl)
            repeat (first | (refine lin_take rfl rfl (by kernel_rfl) (fun _ _ _ h => h) (by rfl) (v := ?_) (a' := ?_) ?_ ?_ ?_; rotate_left 2; (rintro w' ⟨s0, s1, s2⟩; go_simp; with_reducible rfl); (simp only [List.getElem_toArray, List.getElem_cons_zero, List.getElem_cons_succ, Act.put, List.setIfInBounds_toArray, List.set_cons_zero, List.set_cons_succ]; rfl)) | (refine lin_off rfl rfl (by kernel_rfl) (fun _ _ _ h => h) (by rfl) (a' := ?_) ?_ ?_; rotate_left 1; (simp only [List.getElem_toArray, List.getElem_cons_zero, List.getElem_cons_succ, Act.put, List.setIfInBounds_toArray, List.set_cons_zero, List.set_cons_succ]; rfl)))
            refine lin_call rfl rfl rfl Tryz.func76 (by kernel_rfl) (by kernel_rfl) rfl (by rfl) (args := #[.slice (some ad) k c, vEn p.inside]) (by (try simp only [List.map_toArray, List.map_cons, List.map_nil]); first | done | rfl) (fun hS => ?_)
            refine (impl_port (some ad) k c (m.take k) p.inside _ (C_take' (Kd.C_below (w := w) HC.out (below_step ((by repeat (first | (with_reducible exact hb) | (with_reducible apply below_alloc) | (with_reducible apply pw_below_drewN) | (with_reducible apply below_drew1) | with_reducible refine below_set ?_ (by first | (with_reducible exact Nat.le_refl _) | (with_reducible assumption) | (simp; done) | omega | (simp; omega))))) hb3)) (Nat.le_of_lt hlt))).mono ?_
            rintro e w4 ⟨rfl, hb4⟩
            refine ⟨_, rfl, ?_, ?_⟩
            · first | exact (hb4.cell (by first | exact Nat.lt_of_lt_of_le (blk_lt (heap_alloc_new wr _)) hb3.size)).trans hS | (obtain ⟨s0, s1, s2⟩ := hS; exact ⟨(hb4.cell (by first | exact Nat.lt_of_lt_of_le (blk_lt (heap_alloc_new wr _)) hb3.size)).trans s0, (hb4.cell (by first | exact Nat.lt_of_lt_of_le (blk_lt (heap_alloc_new wr _)) hb3.size)).trans s1, (hb4.cell (by first | exact Nat.lt_of_lt_of_le (blk_lt (heap_alloc_new wr _)) hb3.size)).trans s2⟩)
            refine lin_norm (a' := ?_) ?_ ?_; rotate_left 1; (simp only [List.getElem_toArray, List.getElem_cons_zero, List.getElem_cons_succ, Act.put, List.setIfInBounds_toArray, List.set_cons_zero, List.set_cons_succ]; rfl)
            repeat (first | (refine lin_take rfl rfl (by kernel_rfl) (fun _ _ _ h => h) (by rfl) (v := ?_) (a' := ?_) ?_ ?_ ?_; rotate_left 2; (rintro w' ⟨s0, s1, s2⟩; go_simp; with_reducible rfl); (simp only [List.getElem_toArray, List.getElem_cons_zero, List.getElem_cons_succ, Act.put, List.setIfInBounds_toArray, List.set_cons_zero, List.set_cons_succ]; rfl)) | (refine lin_off rfl rfl (by kernel_rfl) (fun _ _ _ h => h) (by rfl) (a' := ?_) ?_ ?_; rotate_left 1; (simp only [List.getElem_toArray, List.getElem_cons_zero, List.getElem_cons_succ, Act.put, List.setIfInBounds_toArray, List.set_cons_zero, List.set_cons_succ]; rfl)))
            refine lin_done (by kernel_rfl) ?_
            clear hw
            go_wp2
            go_ret
            exact ⟨ret_bool HF.out.symm, below_step (below_step ((by repeat (first | (with_reducible exact hb) | (with_reducible apply below_alloc) | (with_reducible apply pw_below_drewN) | (with_reducible apply below_drew1) | with_reducible refine below_set ?_ (by first | (with_reducible exact Nat.le_refl _) | (with_reducible assumption) | (simp; done) | omega | (simp; omega))))) hb3) hb4⟩
      · have t1 : (p.port == 10 + (k : Int)) = false := beq_eq_false_iff_ne.2 h1
        have t2 : (p.port != 10 + (k : Int)) = true := bne_iff_ne.2 h1
        have HF := Aside0.mk (mapOkB_no hlt (fun hg => h1 (by have := hg.1; rw [hp.out] at this; exact this)))
        clear h1
        go_wp2
        go_quiet (fail)
        go_wp2
        go_ret
        exact ⟨ret_bool HF.out.symm, by repeat (first | exact hb | apply below_alloc | apply pw_below_drewN | apply below_drew1)⟩
    · have HF := Aside0.mk (mapOkB_end hlt HP.out hk)
      go_wp2
      go_ret
      exact ⟨ret_bool HF.out.symm, hb⟩
end Go.Proofs.YtfjbjiklohjodaaGreatDoor.Z
namespace Go.Proofs.YtfjbjiklohjodaaGreatDoor.Z
open Go.RowKit Go.Proofs.YtfjbjiklohjodaaGreatDoorW.PrintWords
set_option linter.unusedVariables false
set_option linter.unusedSimpArgs false
attribute [local go_sem ↓] Go.wp_at_zero Go.wp_at_succ
attribute [local go_sem high] eqEn eqPr
set_option maxHeartbeats 2000000 in
theorem spec_MapOk (A : Option Addr) (n c : Nat) (m : List Pr) (w : World) (hC : Kd.C kPr w A n m) (hn : n ≤ 1099511627776) :
    Calls Tryz.prog 20 #[.slice A n c] w fun r w' => r = .returned (.bool (mapOkB m)) ∧ Below w.heap.size w w' := by
  obtain rfl : m.length = n := hC.1
  have HC := Aside0.mk hC; clear hC
  go_enter Tryz.func20, Tryz.ntmps20
  go_wp2
  go_loopw [3] (fun i w' => ∃ k : Nat, k ≤ m.length ∧ i = .int .i64 k ∧ Aside0 (okUpto m k) ∧ Below w.heap.size w w') (fun i _ => m.length - (intOf i).toNat)
  case atStart => exact ⟨0, Nat.zero_le _, rfl, ⟨fun i hi => absurd hi (Nat.not_lt_zero _)⟩, Below.refl _ _⟩
  case round =>
    obtain ⟨k, hk, rfl, HP, hb⟩ := hrel
    by_cases hlt : k < m.length
    · obtain ⟨ad, p, hA, hp, dL, d0, d1, d2⟩ := at_Pr (Kd.C_below HC.out hb) k hlt
      cases hA
      by_cases h1 : p.port = 10 + k
      · have t1 : (p.port == 10 + (k : Int)) = true := beq_iff_eq.2 h1
        have t2 : (p.port != 10 + (k : Int)) = false := by rw [bne_eq_false_iff_eq]; exact h1
        cases h2 : insideB p.inside
        · have HF := Aside0.mk (mapOkB_no hlt (fun hg => by have := hg.2.1; rw [hp.out, h2] at this; cases this))
          have H2 := Aside0.mk h2
          clear h1 h2
          go_wp2_with (go_at_call 72; refine (spec_EndInside p.inside _).mono ?_; rintro e w3 ⟨rfl, hb3⟩; rw [H2.out])
          go_ret
          exact ⟨ret_bool HF.out.symm, below_step hb hb3⟩
        · have H2 := Aside0.mk h2
          have HH := Aside0.mk (show p.port = 10 + (k : Int) ∧ insideB p.inside = true from ⟨h1, h2⟩)
          clear h1 h2
          go_wp2_with (go_at_call 72; refine (spec_EndInside p.inside _).mono ?_; rintro e w3 ⟨rfl, hb3⟩; rw [H2.out])
          replace hb := below_step hb hb3
          have D0 := (hb3.cell (World.block_lt_of_cell? _ _ d0)).trans d0
          have D1 := (hb3.cell (World.block_lt_of_cell? _ _ d1)).trans d1
          have D2 := (hb3.cell (World.block_lt_of_cell? _ _ d2)).trans d2
          clear d0 d1 d2 hb3 t1 t2
          obtain ⟨wo, rfl⟩ : ∃ wo : World, wo = w3 := ⟨_, rfl⟩
          go_loopw [4] (fun i w' => ∃ j : Nat, j ≤ k ∧ i = .int .i64 j ∧ Aside0 (∀ i, i < j → (m.getD i zPr).inside ≠ p.inside) ∧ Below wo.heap.size wo w') (fun i _ => k - (intOf i).toNat)
          case atStart => exact ⟨0, Nat.zero_le _, rfl, ⟨fun i hi => absurd hi (Nat.not_lt_zero _)⟩, Below.refl _ _⟩
          case round =>
            obtain ⟨j, hj, rfl, HJ, hb2⟩ := hrel
            have E0 := (hb2.cell (World.block_lt_of_cell? _ _ D0)).trans D0
            have E1 := (hb2.cell (World.block_lt_of_cell? _ _ D1)).trans D1
            have E2 := (hb2.cell (World.block_lt_of_cell? _ _ D2)).trans D2
            by_cases hjk : j < k
            · obtain ⟨ad2, q, hA2, hq, fL, f0, f1, f2⟩ := at_Pr (Kd.C_below HC.out (below_step hb hb2)) j (by omega)
              cases hA2
              have hj0 : (0 : Int) ≤ (j : Int) := Int.natCast_nonneg _
              have hj1 : (j : Int) < (m.length : Int) := by omega
              have hk0 : (0 : Int) ≤ (k : Int) := Int.natCast_nonneg _
              have hk1 : (k : Int) < (m.length : Int) := by omega
              by_cases he : q.inside = p.inside
              · have ht := En_beq he
                have HF := Aside0.mk (mapOkB_no hlt (fun hg => by have := hg.2.2 j hjk; rw [hp.out, hq.out] at this; exact this he))
                clear he
                go_wp2
                go_quiet (fail)
                go_wp2
                go_ret
                exact ⟨ret_bool HF.out.symm, below_step hb ((by repeat (first | (with_reducible exact hb2) | (with_reducible apply below_alloc) | (with_reducible apply pw_below_drewN) | (with_reducible apply below_drew1) | with_reducible refine below_set ?_ (by first | (with_reducible exact Nat.le_refl _) | (with_reducible assumption) | (simp; done) | omega | (simp; omega)))))⟩
              · have ht := En_bne he
                have HF := Aside0.mk (show ∀ i, i < j + 1 → (m.getD i zPr).inside ≠ p.inside from fun i hi => by
                  rcases Nat.lt_succ_iff_lt_or_eq.1 hi with h | h
                  · exact HJ.out i h
                  · subst h; rw [hq.out]; exact he)
                clear he
                go_wp2
                go_quiet (fail)
                go_wp2
                go_roundw
                case rel => exact ⟨j + 1, by omega, by go_num, HF, ((by repeat (first | (with_reducible exact hb2) | (with_reducible apply below_alloc) | (with_reducible apply pw_below_drewN) | (with_reducible apply below_drew1) | with_reducible refine below_set ?_ (by first | (with_reducible exact Nat.le_refl _) | (with_reducible assumption) | (simp; done) | omega | (simp; omega)))))⟩
                case measure => simp [intOf]; omega
            · have HF := Aside0.mk (okUpto_succ HP.out (show goodAt m k from ⟨by rw [hp.out]; exact HH.out.1, by rw [hp.out]; exact HH.out.2, fun i hi => by rw [hp.out]; exact HJ.out i (by omega)⟩))
              clear E0 E1 E2 D0 D1 D2
              go_wp2
              go_roundw
              case rel => exact ⟨k + 1, by omega, by go_num, HF, below_step hb hb2⟩
              case measure => simp [intOf]; omega
      · have t1 : (p.port == 10 + (k : Int)) = false := beq_eq_false_iff_ne.2 h1
        have t2 : (p.port != 10 + (k : Int)) = true := bne_iff_ne.2 h1
        have HF := Aside0.mk (mapOkB_no hlt (fun hg => h1 (by have := hg.1; rw [hp.out] at this; exact this)))
        clear h1
        go_wp2
        go_ret
        exact ⟨ret_bool HF.out.symm, hb⟩
    · have HF := Aside0.mk (mapOkB_end hlt HP.out hk)
      go_wp2
      go_ret
      exact ⟨ret_bool HF.out.symm, hb⟩
end Go.Proofs.YtfjbjiklohjodaaGreatDoor.Z
namespace Go.Proofs.YtfjbjiklohjodaaGreatDoor.Z
open Go.RowKit Go.Proofs.YtfjbjiklohjodaaGreatDoorW.PrintWords
set_option linter.unusedVariables false
set_option linter.unusedSimpArgs false
attribute [local go_sem ↓] Go.wp_at_zero Go.wp_at_succ
attribute [local go_sem high] eqEn eqPr
def insideFrom (m : List Pr) (port : Int) (k : Nat) : Option En := ((m.drop k).find? (fun p => decide (p.port = port))).map (·.inside)
theorem insideFrom_end (m : List Pr) (port : Int) (k : Nat) (h : m.length ≤ k) : insideFrom m port k = none := by
  unfold insideFrom; rw [List.drop_of_length_le h]; rfl
theorem insideFrom_hit {m : List Pr} {port : Int} {k : Nat} {p : Pr} (h : k < m.length) (hp : Aside0 (m.getD k zPr = p)) (he : p.port = port) : insideFrom m port k = some p.inside := by
  obtain rfl := hp.out
  unfold insideFrom; rw [drop_getD m zPr k h, List.find?_cons]; simp only [he, decide_true]; rfl
theorem insideFrom_miss {m : List Pr} {port : Int} {k : Nat} {p : Pr} (h : k < m.length) (hp : Aside0 (m.getD k zPr = p)) (he : p.port ≠ port) : insideFrom m port k = insideFrom m port (k + 1) := by
  obtain rfl := hp.out
  unfold insideFrom; rw [drop_getD m zPr k h, List.find?_cons]; simp only [he, decide_false]
abbrev vOpt (o : Option En) : Value := .tuple #[vEn (o.getD zEn), .bool o.isSome]
set_option maxHeartbeats 1000000 in
theorem impl_inside (A : Option Addr) (n c : Nat) (m : List Pr) (port : Int) (w : World) (hC : Kd.C kPr w A n m) :
    Calls Tryz.prog 175 #[.slice A n c, .int .i64 port] w fun r w' => r = .returned (vOpt (insideFrom m port 0)) ∧ Below w.heap.size w w' := by
  obtain rfl : m.length = n := hC.1
  have hm := max_len hC
  have HC := Aside0.mk hC; clear hC
  go_enter Tryz.func175, Tryz.ntmps175
  go_wp2
  go_loopw [10] (fun i w' => ∃ k : Nat, k ≤ m.length ∧ i = .int .i64 k ∧ Aside0 (insideFrom m port k = insideFrom m port 0) ∧ Aside0 (w'.heap[w.heap.size]? = some (.cells #[.int .i64 0, .int .i64 0] 62 (0, 0))) ∧ Below w.heap.size w w') (fun i _ => m.length - (intOf i).toNat)
  case atStart => exact ⟨0, Nat.zero_le _, rfl, ⟨rfl⟩, ⟨heap_alloc_new w _⟩, (Below.refl _ _).alloc (Nat.le_refl _) _⟩
  case round =>
    obtain ⟨k, hk, rfl, HP, HX, hb⟩ := hrel
    have c0 : wr.cell? ⟨w.heap.size, 0, none⟩ = some (.int .i64 0) := (blk_cell HX.out 0).trans rfl
    have c1 : wr.cell? ⟨w.heap.size, 1, none⟩ = some (.int .i64 0) := (blk_cell HX.out 1).trans rfl
    have z0 := blk_frozen HX.out 0
    have z1 := blk_frozen HX.out 1
    have hz := blk_lt HX.out
    by_cases hlt : k < m.length
    · obtain ⟨ad, p, hA, hp, dL, d0, d1, d2⟩ := at_Pr (Kd.C_below HC.out hb) k hlt
      cases hA
      by_cases he : p.port = port
      · have ht : (p.port == port) = true := beq_iff_eq.2 he
        have HF := Aside0.mk ((insideFrom_hit hlt hp he).symm.trans HP.out)
        clear he
        go_wp2
        refine bodyPost_ret (v := vOpt (some p.inside)) (by simp [results, Tryz.results175, go_sem, zEn, *]) rfl ⟨by rw [HF.out], (by repeat (first | (with_reducible exact hb) | (with_reducible apply below_alloc) | (with_reducible apply pw_below_drewN) | (with_reducible apply below_drew1) | with_reducible refine below_set ?_ (by first | (with_reducible exact Nat.le_refl _) | (with_reducible assumption) | (simp; done) | omega | (simp; omega))))⟩
      · have ht : (p.port == port) = false := beq_eq_false_iff_ne.2 he
        have HF := Aside0.mk ((insideFrom_miss hlt hp he).symm.trans HP.out)
        clear he
        go_wp2
        go_roundw
        case rel => exact ⟨k + 1, by omega, by go_num, HF, ⟨blk_alloc HX.out _⟩, hb.alloc hb.size _⟩
        case measure => simp [intOf]; omega
    · have HF := Aside0.mk ((insideFrom_end m port k (by omega)).symm.trans HP.out)
      go_wp2
      refine bodyPost_ret (v := vOpt none) (by simp [results, Tryz.results175, go_sem, zEn, *]) rfl ⟨by rw [HF.out], (by repeat (first | (with_reducible exact hb) | (with_reducible apply below_alloc) | (with_reducible apply pw_below_drewN) | (with_reducible apply below_drew1) | with_reducible refine below_set ?_ (by first | (with_reducible exact Nat.le_refl _) | (with_reducible assumption) | (simp; done) | omega | (simp; omega))))⟩
def l3InO (m : List Pr) (port : Int) : Option En := if 10 ≤ port ∧ port - 10 < m.length then some (m.getD (port - 10).toNat zPr).inside else none
theorem spec_l3In (A : Option Addr) (n c : Nat) (m : List Pr) (port : Int) (w : World) (hC : Kd.C kPr w A n m) (hn : n ≤ 1099511627776) (hp : -9223372036854775808 ≤ port ∧ port ≤ 9223372036854775807) :
    Calls Tryz.prog 168 #[.slice A n c, .int .i64 port] w fun r w' => r = .returned (vOpt (l3InO m port)) ∧ Below w.heap.size w w' := by
  obtain rfl : m.length = n := hC.1
  obtain ⟨i, hi⟩ : ∃ i, i = wrap64 (port - 10) := ⟨_, rfl⟩
  have hi2 : (10 ≤ port ∧ i = port - 10) ∨ (port < 10 ∧ (i < 0 ∨ 1099511627776 < i)) := by unfold wrap64 at hi; omega
  by_cases h1 : 10 ≤ port ∧ port - 10 < m.length
  · have hin : inB (port - 10) 0 ((m.length : Int) - 1) = true := by unfold inB; simp; omega
    have HV := Aside0.mk (show l3InO m port = some (m.getD (port - 10).toNat zPr).inside by unfold l3InO; rw [if_pos h1])
    obtain ⟨k, hk⟩ : ∃ k : Nat, port - 10 = k := ⟨(port - 10).toNat, by omega⟩
    obtain rfl : port = (k : Int) + 10 := by omega
    have e1 : ((k : Int) + 10 - 10) = k := by omega
    rw [e1] at HV hin
    obtain ⟨ad, p, hA, hp2, dL, d0, d1, d2⟩ := at_Pr hC k (by omega)
    cases hA
    have hk0 : (0 : Int) ≤ (k : Int) := by omega
    have hk1 : (k : Int) < (m.length : Int) := by omega
    have HI := Aside0.mk hin
    clear hin hi hi2 hk h1
    go_enter Tryz.func168, Tryz.ntmps168
    go_wp2_with (go_at_call 63; (try rw [e1]); refine (spec_l6In _ _ _ _).mono ?_; rintro e w1 ⟨rfl, rfl⟩; rw [HI.out])
    refine bodyPost_ret (v := vOpt (some p.inside)) (by simp [results, Tryz.results168, go_sem, zEn, *]) rfl ⟨by rw [HV.out, Int.toNat_natCast, hp2.out], (by repeat (first | (with_reducible exact (Below.refl _ _)) | (with_reducible apply below_alloc) | (with_reducible apply pw_below_drewN) | (with_reducible apply below_drew1) | with_reducible refine below_set ?_ (by first | (with_reducible exact Nat.le_refl _) | (with_reducible assumption) | (simp; done) | omega | (simp; omega))))⟩
  · have hin : inB i 0 ((m.length : Int) - 1) = false := by
      unfold inB; rw [Bool.and_eq_false_iff]; rcases hi2 with ⟨a, b⟩ | ⟨a, b | b⟩
      · right; simp; omega
      · left; simp; omega
      · right; simp; omega
    have HV := Aside0.mk (show l3InO m port = none by unfold l3InO; rw [if_neg h1])
    subst hi
    have HI := Aside0.mk hin
    clear hin hi2 h1
    by_cases hp3 : -9223372036854775808 ≤ port - 10
    · have e1 : wrap64 (port - 10) = port - 10 := by unfold wrap64; omega
      rw [e1] at HI
      clear e1
      go_enter Tryz.func168, Tryz.ntmps168
      go_wp2_with (go_at_call 63; refine (spec_l6In _ _ _ _).mono ?_; rintro e w1 ⟨rfl, rfl⟩; rw [HI.out])
      refine bodyPost_ret (v := vOpt none) (by simp [results, Tryz.results168, go_sem, zEn, *]) rfl ⟨by rw [HV.out], (by repeat (first | (with_reducible exact (Below.refl _ _)) | (with_reducible apply below_alloc) | (with_reducible apply pw_below_drewN) | (with_reducible apply below_drew1) | with_reducible refine below_set ?_ (by first | (with_reducible exact Nat.le_refl _) | (with_reducible assumption) | (simp; done) | omega | (simp; omega))))⟩
    · go_enter Tryz.func168, Tryz.ntmps168
      go_wp2_with (go_at_call 63; refine (spec_l6In _ _ _ _).mono ?_; rintro e w1 ⟨rfl, rfl⟩; rw [HI.out])
      refine bodyPost_ret (v := vOpt none) (by simp [results, Tryz.results168, go_sem, zEn, *]) rfl ⟨by rw [HV.out], (by repeat (first | (with_reducible exact (Below.refl _ _)) | (with_reducible apply below_alloc) | (with_reducible apply pw_below_drewN) | (with_reducible apply below_drew1) | with_reducible refine below_set ?_ (by first | (with_reducible exact Nat.le_refl _) | (with_reducible assumption) | (simp; done) | omega | (simp; omega))))⟩
end Go.Proofs.YtfjbjiklohjodaaGreatDoor.Z
namespace Go.Proofs.YtfjbjiklohjodaaGreatDoor.Z
open Go.RowKit Go.Proofs.YtfjbjiklohjodaaGreatDoorW.PrintWords
set_option linter.unusedVariables false
set_option linter.unusedSimpArgs false
attribute [local go_sem ↓] Go.wp_at_zero Go.wp_at_succ
attribute [local go_sem high] eqEn eqPr
theorem infoPr : (Tryz.prog.info? 111).map (fun i => (i.zero, i.size, i.bytes)) = some (some (.agg #[(.int .i64 0), (.int .i64 0), (.int .i64 0)]), 3, 24) := by kernel_rfl
def filled {α : Type} (l : List α) (z : α) (k : Nat) : List α := l.take k ++ List.replicate (l.length - k) z
end Go.Proofs.YtfjbjiklohjodaaGreatDoor.Z
namespace Go.Proofs.YtfjbjiklohjodaaGreatDoor.Z
open Go.RowKit Go.Proofs.YtfjbjiklohjodaaGreatDoorW.PrintWords
set_option linter.unusedVariables false
set_option linter.unusedSimpArgs false
attribute [local go_sem ↓] Go.wp_at_zero Go.wp_at_succ
attribute [local go_sem high] eqEn eqPr
def Cl {α : Type} (d : Kd α) (e : Nat) (w : World) (base : Nat) (v : Value) (xs : List α) : Prop := ∃ A c, v = .slice A xs.length xs.length ∧ d.R e w base (fun _ => True) (.slice A xs.length c) xs
theorem Cl.below {α : Type} {d : Kd α} {e : Nat} {w w1 : World} {base : Nat} {v : Value} {xs : List α} (h : Cl d e w base v xs) (hb : Below w.heap.size w w1) : Cl d e w1 base v xs := by
  obtain ⟨A, c, e, hR⟩ := h
  exact ⟨A, c, e, Kd.R_below hR hb⟩
theorem Cl.lower {α : Type} {d : Kd α} {e : Nat} {w : World} {base base' : Nat} {v : Value} {xs : List α} (h : Cl d e w base v xs) (hb : base' ≤ base) : Cl d e w base' v xs := by
  obtain ⟨A, c, e, hR⟩ := h
  exact ⟨A, c, e, Kd.R_lower hR hb⟩
theorem Cl.reads {α : Type} {d : Kd α} {e : Nat} {w : World} {base : Nat} {v : Value} {xs : List α} (h : Cl d e w base v xs) : ∃ A, v = .slice A xs.length xs.length ∧ d.C w A xs.length xs := by
  obtain ⟨A, c, e, hR⟩ := h
  exact ⟨A, e, (Kd.R_reads' hR).2.2⟩
theorem spec_l3Copy (A : Option Addr) (n c : Nat) (m : List Pr) (w : World) (hC : Kd.C kPr w A n m) (hn : n ≤ 1099511627776) :
    Calls Tryz.prog 65 #[.slice A n c] w fun r w' => ∃ v, r = .returned v ∧ Kd.R kPr 111 w' w.heap.size (fun _ => True) v m ∧ Below w.heap.size w w' := by
  go_enter Tryz.func65, Tryz.ntmps65
  go_wp2_with (first | ((with_reducible refine gate_dst (N := 3) rfl ?_); refine Kd.R_lit kPr _ 111 ?hg (N := 3) ?hd (xs := ([] : List Pr)) (inner := []) (ok := fun _ => True) (okp := fun _ => True) ?hr ?hp (fun _ hk => hk) trivial (Below.refl _ _) (by first | exact Nat.le_refl _ | omega) (by simp) ?_; (case hd => rfl); (case hg => rfl); (case hr => first | (go_simp; done) | (go_simp; rfl)); (case hp => exact (Reps.none _ _)); intro v1 w1 ho1 hb1 _ _) | (at_builtin; refine Kd.R_append_rows kPr (w0 := _) _ rfl (.tmp 3) (.tmp 4) 23 111 (.agg #[(.int .i64 0), (.int .i64 0), (.int .i64 0)]) 24 rfl Tryz.underlying23 infoPr rfl (by decide) (by omega) v1 [] m A n c (fun _ => True) (fun _ => False) rfl rfl ho1 (Kd.C_below hC hb1) (fun _ _ h => h) (fun _ h => h.elim) (fun _ _ => trivial) hb1 (by first | exact Nat.le_refl _ | exact Below.size hb1 | omega) (by simp; omega) ?_; intro v2 w2 ho2 hb2 _ _))
  go_ret
  exact ⟨_, rfl, by simpa using ho2, hb2⟩
theorem Clone_Pair (A : Option Addr) (n c : Nat) (m : List Pr) (w : World) (hC : Kd.C kPr w A n m) (hn : n ≤ 1099511627776) :
    Calls Tryz.prog 128 #[.slice A n c] w fun r w' => ∃ v, r = .returned v ∧ Kd.R kPr 111 w' w.heap.size (fun _ => True) v m ∧ Below w.heap.size w w' := by
  have heq := fun (w : World) => Lib.run_eql_slice_nil (P := Tryz.prog) w 23 111 A n c 0 0 Tryz.underlying23
  cases A with
  | none =>
    have h0 : m = [] := by
      have h1 := hC.1
      by_cases hp : 0 < n
      · obtain ⟨ad, h2, _⟩ := hC.2.2 hp
        cases h2
      · exact List.length_eq_zero_iff.1 (by omega)
    subst h0
    go_enter Tryz.func128, Tryz.ntmps128
    go_wp2
    go_ret
    exact ⟨_, rfl, Kd.R_nil _ _ _ _ _, Below.refl _ _⟩
  | some ad =>
    go_enter Tryz.func128, Tryz.ntmps128
    go_wp2_with (first | ((with_reducible refine gate_dst (N := 5) rfl ?_); refine Kd.R_lit kPr _ 111 ?hg (N := 5) ?hd (xs := ([] : List Pr)) (inner := []) (ok := fun _ => True) (okp := fun _ => True) ?hr ?hp (fun _ hk => hk) trivial (Below.refl _ _) (by first | exact Nat.le_refl _ | omega) (by simp) ?_; (case hd => rfl); (case hg => rfl); (case hr => first | (go_simp; done) | (go_simp; rfl)); (case hp => exact (Reps.none _ _)); intro v1 w1 ho1 hb1 _ _) | (at_builtin; refine Kd.R_append_rows kPr (w0 := _) _ rfl (.tmp 5) (.tmp 6) 23 111 (.agg #[(.int .i64 0), (.int .i64 0), (.int .i64 0)]) 24 rfl Tryz.underlying23 infoPr rfl (by decide) (by omega) v1 [] m (some ad) n c (fun _ => True) (fun _ => False) rfl rfl ho1 (Kd.C_below hC hb1) (fun _ _ h => h) (fun _ h => h.elim) (fun _ _ => trivial) hb1 (by first | exact Nat.le_refl _ | exact Below.size hb1 | omega) (by simp; omega) ?_; intro v2 w2 ho2 hb2 _ _))
    go_ret
    exact ⟨_, rfl, by simpa using ho2, hb2⟩
theorem Clip_Pair (A : Option Addr) (n c : Nat) (w : World) (hc : n ≤ c) :
    Calls Tryz.prog 127 #[.slice A n c] w fun r w' => r = .returned (.slice A n n) ∧ w = w' := by
  have h0 : (0 : Int) ≤ (n : Int) := Int.natCast_nonneg _
  have h1 : (n : Int) ≤ (c : Int) := by omega
  go_enter Tryz.func127, Tryz.ntmps127
  go_wp2
  go_ret
  exact ⟨by cases A <;> simp [Addr.add], rfl⟩
theorem impl_copied (A : Option Addr) (n c : Nat) (m : List Pr) (w : World) (hC : Kd.C kPr w A n m) (hn : n ≤ 1099511627776) :
    Calls Tryz.prog 70 #[.slice A n c] w fun r w' => ∃ v, r = .returned v ∧ Cl kPr 111 w' w.heap.size v m ∧ Below w.heap.size w w' := by
  go_enter Tryz.func70, Tryz.ntmps70
  go_wp2_with fail; refine (Clone_Pair A n c m w hC hn).mono ?_; rintro e w1 ⟨v1, rfl, hR, hb⟩
  obtain ⟨A1, c1, rfl, hl1, _⟩ := Kd.R_reads hR
  go_wp2_with fail; refine (Clip_Pair A1 m.length c1 _ hl1).mono ?_; rintro e w2 ⟨rfl, rfl⟩
  go_wp2
  go_ret
  exact ⟨_, rfl, ⟨A1, c1, rfl, hR⟩, hb⟩
end Go.Proofs.YtfjbjiklohjodaaGreatDoor.Z
namespace Go.Proofs.YtfjbjiklohjodaaGreatDoor.Z
open Go.RowKit Go.Proofs.YtfjbjiklohjodaaGreatDoorW.PrintWords
set_option linter.unusedVariables false
set_option linter.unusedSimpArgs false
attribute [local go_sem ↓] Go.wp_at_zero Go.wp_at_succ
attribute [local go_sem high] eqEn eqPr
section
variable {P : Program} {ops : Array Oper} {rest : List Oper} {o : Oper} {a : Act} {Q : Exit → Act → World → Prop} {α : Type}
theorem C_append_full (d : Kd α) {w0 W : World} (base : Nat) (hgd : o.guard = none) (s x : Operand) (t e : TypeId) (z : Value) (bytes : Nat)
    (ho : o.op = .call { callee := .builtin .append, args := #[s, x], argTypes := #[t, t] })
    (ht : P.underlying t = some (.slice e)) (hinfo : (P.info? e).map (fun i => (i.zero, i.size, i.bytes)) = some (some z, d.sz, bytes)) (hz : z.cells.size = d.sz) (hs0 : 0 < d.sz) (hb0 : 0 < bytes)
    (A : Option Addr) (n : Nat) (xs : List α) (p : α) (cs : List Value) (hs : a.eval s = .slice A n n) (hx : a.eval x = .slice (some ⟨W.heap.size, 0, none⟩) 1 1)
    (hKM : ∀ w w' b ok x cs, d.K w x cs → d.M w' b ok x cs) (hp : d.K W p cs) (hC : d.C W A n xs) (HB : Below base w0 W) (hbase : base ≤ W.heap.size) (hl : (n + 1) * bytes ≤ 140737488355328)
    (h : ∀ v1 w1, d.R e w1 base (fun _ => True) v1 (xs ++ [p]) → Below base w0 w1 → W.grownBy w1 none → wpList P ops Q rest (a.put o.dst v1) w1) :
    wpList P ops Q (o :: rest) a (W.alloc (.cells cs.toArray e)) := by
  obtain ⟨i0, hi, hzz⟩ := Option.map_eq_some_iff.1 hinfo
  simp only [Prod.mk.injEq] at hzz
  obtain ⟨hz0, hz1, hz2⟩ := hzz
  have hm : xs.length = n := hC.1
  have hlen : n + 1 ≤ 140737488355328 := Nat.le_trans (Nat.le_mul_of_pos_right _ hb0) hl
  have hin : ∃ inner, Reps (d.K W) d.sz xs inner ∧ ∀ b, A = some b → ∀ j u, inner[j]? = some u → W.cell? (b.add j) = some u := by
    cases A with
    | none =>
      have h0 : xs = [] := by
        rcases Nat.eq_zero_or_pos n with h0 | h0
        · exact List.length_eq_zero_iff.1 (by omega)
        · obtain ⟨ad, h, _⟩ := hC.2.2 h0
          cases h
      subst h0
      exact ⟨[], Reps.none _ _, fun b h => by cases h⟩
    | some ad =>
      obtain ⟨inner, h1, h2⟩ := ReadsRow.inner_ hC
      exact ⟨inner, h1, fun b hb => by cases hb; exact h2⟩
  obtain ⟨inner, hr, hcells⟩ := hin
  have hone : ∀ u ∈ cs, u.oneCell' = true := d.K_one hp
  have hcl : cs.length = d.sz := d.K_len hp
  have hblk : ∀ j u, cs[j]? = some u → (W.alloc (.cells cs.toArray e)).cell? (Addr.add ⟨W.heap.size, 0, none⟩ j) = some u := by
    intro j u hu
    have h1 := blk_cell (heap_alloc_new W (.cells cs.toArray e)) j
    have e1 : Addr.add ⟨W.heap.size, 0, none⟩ j = ⟨W.heap.size, j, none⟩ := by unfold Addr.add; split <;> simp_all
    rw [e1, h1]
    simpa using hu
  refine wpList_append_grows (W.alloc (.cells cs.toArray e)) hgd s x t ho e i0 z d.sz bytes ht hi hz0 hz1 hz2 hz hs0 A n n inner hs (fun hA => ?_) (by rw [hr.1, hm]) (fun b hb j u hu => ?_) ⟨W.heap.size, 0, none⟩ 1 1 cs hx (by rw [hcl, Nat.one_mul]) hblk hone (by omega) (by simp only [maxLen]; omega) hl ?_
  · subst hA
    rcases Nat.eq_zero_or_pos n with h0 | h0
    · exact ⟨h0, h0⟩
    · obtain ⟨ad, h, _⟩ := hC.2.2 h0
      cases h
  · have h1 := hcells b hb j u hu
    rw [← h1]
    exact (below_alloc (Below.refl W.heap.size W) _).cell (World.block_lt_of_cell? W _ h1)
  · intro v' w' hown hg
    have hg2 : W.grownBy w' none := (World.grownBy_alloc W (.cells cs.toArray e) none).trans hg
    refine h v' w' (Kd.R_lower (base := (W.alloc (.cells cs.toArray e)).heap.size) ⟨fun _ _ => trivial, inner ++ cs, by rw [List.length_append, List.length_singleton, hm]; exact hown, ?_⟩ ?_) ?_ hg2
    · exact (hr.imp_ (fun _ _ hq => hKM _ _ _ _ _ _ hq)).snoc (hKM _ _ _ _ _ _ hp) hcl
    · exact Nat.le_trans hbase (below_alloc (Below.refl W.heap.size W) _).size
    · exact HB.grown hg2 hbase (fun k hk => by cases hk)
end
theorem kPr_KM (w w' : World) (b : Nat) (ok : Nat → Prop) (x : Pr) (cs : List Value) (h : kPr.K w x cs) : kPr.M w' b ok x cs := by
  obtain rfl := kPr_open h
  exact kPr_mkM _ _ _ x
def outS (m : List Pr) (e : En) : List Pr × Int × Bool :=
  match m.find? (fun p => decide (p.inside = e)) with
  | some p => (m, p.port, true)
  | none => if 7 < m.length then (m, 0, false) else (m ++ [⟨10 + m.length, e⟩], 10 + m.length, true)
def outAt (m : List Pr) (e : En) (k : Nat) : Option Pr := (m.drop k).find? (fun p => decide (p.inside = e))
theorem outAt_end (m : List Pr) (e : En) (k : Nat) (h : m.length ≤ k) : outAt m e k = none := by unfold outAt; rw [List.drop_of_length_le h]; rfl
theorem outAt_hit {m : List Pr} {e : En} {k : Nat} {p : Pr} (h : k < m.length) (hp : Aside0 (m.getD k zPr = p)) (he : p.inside = e) : outAt m e k = some p := by
  obtain rfl := hp.out
  unfold outAt; rw [drop_getD m zPr k h, List.find?_cons]; simp only [he, decide_true]
theorem outAt_miss {m : List Pr} {e : En} {k : Nat} {p : Pr} (h : k < m.length) (hp : Aside0 (m.getD k zPr = p)) (he : p.inside ≠ e) : outAt m e k = outAt m e (k + 1) := by
  obtain rfl := hp.out
  unfold outAt; rw [drop_getD m zPr k h, List.find?_cons]; simp only [he, decide_false]
theorem outS_of (m : List Pr) (e : En) : outS m e = match outAt m e 0 with
  | some p => (m, p.port, true)
  | none => if 7 < m.length then (m, 0, false) else (m ++ [⟨10 + m.length, e⟩], 10 + m.length, true) := rfl
theorem outS_len (m : List Pr) (e : En) : (outS m e).1.length ≤ m.length + 1 := by
  rw [outS_of]; cases outAt m e 0 with
  | some p => simp
  | none => simp only; split <;> simp
end Go.Proofs.YtfjbjiklohjodaaGreatDoor.Z
namespace Go.Proofs.YtfjbjiklohjodaaGreatDoor.Z
open Go.RowKit Go.Proofs.YtfjbjiklohjodaaGreatDoorW.PrintWords
set_option linter.unusedVariables false
set_option linter.unusedSimpArgs false
attribute [local go_sem ↓] Go.wp_at_zero Go.wp_at_succ
attribute [local go_sem high] eqEn eqPr
def outI (m : List Pr) (e : En) : List Pr × Int × Bool :=
  if portFrom m e 0 ≠ 0 then (m, portFrom m e 0, true) else if 7 < m.length then (m, 0, false) else (m ++ [⟨10 + m.length, e⟩], 10 + m.length, true)
set_option maxHeartbeats 1000000 in
theorem impl_out (A : Option Addr) (n c : Nat) (m : List Pr) (e : En) (w : World) (hC : Kd.C kPr w A n m) (hn : n ≤ 1099511627776) :
    Calls Tryz.prog 174 #[.slice A n c, vEn e] w fun r w' => ∃ v, r = .returned (.tuple #[v, .int .i64 (outI m e).2.1, .bool (outI m e).2.2]) ∧ Cl kPr 111 w' w.heap.size v (outI m e).1 ∧ Below w.heap.size w w' := by
  obtain rfl : m.length = n := hC.1
  have HC := Aside0.mk hC; clear hC
  by_cases h0 : portFrom m e 0 ≠ 0
  · have HV : Aside0 (outI m e = (m, portFrom m e 0, true)) := ⟨by unfold outI; rw [if_pos h0]⟩
    obtain ⟨p, hp⟩ : ∃ p, p = portFrom m e 0 := ⟨_, rfl⟩
    rw [← hp] at h0 HV
    have t0 : (p != 0) = true := bne_iff_ne.2 h0
    have HP := Aside0.mk hp; clear hp h0
    go_enter Tryz.func174, Tryz.ntmps174
    go_wp2_with (first | (go_at_call 70; refine (impl_copied A m.length c m _ (Kd.C_below HC.out (by repeat (first | (with_reducible exact (Below.refl _ _)) | (with_reducible apply below_alloc) | (with_reducible apply pw_below_drewN) | (with_reducible apply below_drew1) | with_reducible refine below_set ?_ (by first | (with_reducible exact Nat.le_refl _) | (with_reducible assumption) | (simp; done) | omega | (simp; omega))))) hn).mono ?_; rintro r w1 ⟨v1, rfl, hL1, hb1⟩; obtain ⟨hb1c, hb1f, hb1z⟩ := bcell hb1; (try simp at hb1z); (try have hb10 : w.heap.size < w1.heap.size := by omega); (try have hb11 : w.heap.size + 1 < w1.heap.size := by omega); (try have hb12 : w.heap.size + 2 < w1.heap.size := by omega)) | (go_at_call 76; refine (impl_port A m.length c m e _ (Kd.C_below HC.out (below_step (by repeat (first | (with_reducible exact (Below.refl _ _)) | (with_reducible apply below_alloc) | (with_reducible apply pw_below_drewN) | (with_reducible apply below_drew1) | with_reducible refine below_set ?_ (by first | (with_reducible exact Nat.le_refl _) | (with_reducible assumption) | (simp; done) | omega | (simp; omega)))) hb1))).mono ?_; rintro r w2 ⟨rfl, hb2⟩; obtain ⟨hb2c, hb2f, hb2z⟩ := bcell hb2; (try simp at hb2z); (try have hb20 : w.heap.size < w2.heap.size := by omega); (try have hb21 : w.heap.size + 1 < w2.heap.size := by omega); (try have hb22 : w.heap.size + 2 < w2.heap.size := by omega); rw [← HP.out]))
    go_ret3
    exact ⟨v1, by rw [HV.out]; rfl, by rw [HV.out]; exact (hL1.below hb2).lower (by simp), below_step (below_step (by repeat (first | (with_reducible exact (Below.refl _ _)) | (with_reducible apply below_alloc) | (with_reducible apply pw_below_drewN) | (with_reducible apply below_drew1) | with_reducible refine below_set ?_ (by first | (with_reducible exact Nat.le_refl _) | (with_reducible assumption) | (simp; done) | omega | (simp; omega)))) hb1) hb2⟩
  · have h1 : portFrom m e 0 = 0 := by omega
    by_cases h7 : 7 < m.length
    · have HV : Aside0 (outI m e = (m, 0, false)) := ⟨by unfold outI; rw [if_neg h0, if_pos h7]⟩
      have HP := Aside0.mk h1; clear h1 h0
      have hs : (10 : Int) + (m.length : Int) ≤ 9223372036854775807 := by omega
      have t1 : decide ((10 : Int) + (m.length : Int) > 17) = true := decide_eq_true (by omega)
      have t2 : decide ((17 : Int) < 10 + (m.length : Int)) = true := decide_eq_true (by omega)
      go_enter Tryz.func174, Tryz.ntmps174
      go_wp2_with (first | (go_at_call 70; refine (impl_copied A m.length c m _ (Kd.C_below HC.out (by repeat (first | (with_reducible exact (Below.refl _ _)) | (with_reducible apply below_alloc) | (with_reducible apply pw_below_drewN) | (with_reducible apply below_drew1) | with_reducible refine below_set ?_ (by first | (with_reducible exact Nat.le_refl _) | (with_reducible assumption) | (simp; done) | omega | (simp; omega))))) hn).mono ?_; rintro r w1 ⟨v1, rfl, hL1, hb1⟩; obtain ⟨hb1c, hb1f, hb1z⟩ := bcell hb1; (try simp at hb1z); (try have hb10 : w.heap.size < w1.heap.size := by omega); (try have hb11 : w.heap.size + 1 < w1.heap.size := by omega); (try have hb12 : w.heap.size + 2 < w1.heap.size := by omega)) | (go_at_call 76; refine (impl_port A m.length c m e _ (Kd.C_below HC.out (below_step (by repeat (first | (with_reducible exact (Below.refl _ _)) | (with_reducible apply below_alloc) | (with_reducible apply pw_below_drewN) | (with_reducible apply below_drew1) | with_reducible refine below_set ?_ (by first | (with_reducible exact Nat.le_refl _) | (with_reducible assumption) | (simp; done) | omega | (simp; omega)))) hb1))).mono ?_; rintro r w2 ⟨rfl, hb2⟩; obtain ⟨hb2c, hb2f, hb2z⟩ := bcell hb2; (try simp at hb2z); (try have hb20 : w.heap.size < w2.heap.size := by omega); (try have hb21 : w.heap.size + 1 < w2.heap.size := by omega); (try have hb22 : w.heap.size + 2 < w2.heap.size := by omega); rw [HP.out]))
      go_ret3
      exact ⟨v1, by rw [HV.out]; rfl, by rw [HV.out]; exact (hL1.below hb2).lower (by simp), below_step (below_step (by repeat (first | (with_reducible exact (Below.refl _ _)) | (with_reducible apply below_alloc) | (with_reducible apply pw_below_drewN) | (with_reducible apply below_drew1) | with_reducible refine below_set ?_ (by first | (with_reducible exact Nat.le_refl _) | (with_reducible assumption) | (simp; done) | omega | (simp; omega)))) hb1) hb2⟩
    · have HV : Aside0 (outI m e = (m ++ [⟨10 + m.length, e⟩], 10 + (m.length : Int), true)) := ⟨by unfold outI; rw [if_neg h0, if_neg h7]⟩
      obtain ⟨m3, hm3⟩ : ∃ m3, m3 = m ++ [⟨10 + m.length, e⟩] := ⟨_, rfl⟩
      rw [← hm3] at HV
      have HM := Aside0.mk hm3; clear hm3
      have HP := Aside0.mk h1; clear h1 h0
      have hs : (10 : Int) + (m.length : Int) ≤ 9223372036854775807 := by omega
      have t1 : decide ((10 : Int) + (m.length : Int) > 17) = false := decide_eq_false (by omega)
      have t2 : decide ((17 : Int) < 10 + (m.length : Int)) = false := decide_eq_false (by omega)
      go_enter Tryz.func174, Tryz.ntmps174
      go_wp2_with (first | (go_at_call 70; refine (impl_copied A m.length c m _ (Kd.C_below HC.out (by repeat (first | (with_reducible exact (Below.refl _ _)) | (with_reducible apply below_alloc) | (with_reducible apply pw_below_drewN) | (with_reducible apply below_drew1) | with_reducible refine below_set ?_ (by first | (with_reducible exact Nat.le_refl _) | (with_reducible assumption) | (simp; done) | omega | (simp; omega))))) hn).mono ?_; rintro r w1 ⟨v1, rfl, hL1, hb1⟩; obtain ⟨hb1c, hb1f, hb1z⟩ := bcell hb1; (try simp at hb1z); (try have hb10 : w.heap.size < w1.heap.size := by omega); (try have hb11 : w.heap.size + 1 < w1.heap.size := by omega); (try have hb12 : w.heap.size + 2 < w1.heap.size := by omega)) | (go_at_call 76; refine (impl_port A m.length c m e _ (Kd.C_below HC.out (below_step (by repeat (first | (with_reducible exact (Below.refl _ _)) | (with_reducible apply below_alloc) | (with_reducible apply pw_below_drewN) | (with_reducible apply below_drew1) | with_reducible refine below_set ?_ (by first | (with_reducible exact Nat.le_refl _) | (with_reducible assumption) | (simp; done) | omega | (simp; omega)))) hb1))).mono ?_; rintro r w2 ⟨rfl, hb2⟩; obtain ⟨hb2c, hb2f, hb2z⟩ := bcell hb2; (try simp at hb2z); (try have hb20 : w.heap.size < w2.heap.size := by omega); (try have hb21 : w.heap.size + 1 < w2.heap.size := by omega); (try have hb22 : w.heap.size + 2 < w2.heap.size := by omega); rw [HP.out]; obtain ⟨A1, rfl, hC1⟩ := (hL1.below hb2).reads) | (at_builtin; refine C_append_full kPr (w0 := w) w.heap.size rfl (.tmp 25) (.tmp 29) 23 111 (.agg #[(.int .i64 0), (.int .i64 0), (.int .i64 0)]) 24 rfl Tryz.underlying23 infoPr rfl (by decide) (by omega) A1 m.length m ⟨10 + m.length, e⟩ [.int .i64 (10 + m.length), .int .i64 e.addr, .int .i64 e.port] rfl rfl kPr_KM (kPr_mk _ _) hC1 (below_step (below_step (by repeat (first | (with_reducible exact (Below.refl _ _)) | (with_reducible apply below_alloc) | (with_reducible apply pw_below_drewN) | (with_reducible apply below_drew1) | with_reducible refine below_set ?_ (by first | (with_reducible exact Nat.le_refl _) | (with_reducible assumption) | (simp; done) | omega | (simp; omega)))) hb1) hb2) (by omega) (by omega) ?_; intro v3 w3 hR3 hb3 hg3; rw [← HM.out] at hR3; obtain ⟨A3, c3, rfl, hl3, _⟩ := Kd.R_reads hR3) | (go_at_call 127; refine (Clip_Pair A3 _ c3 _ hl3).mono ?_; rintro r w4 ⟨rfl, rfl⟩))
      go_ret3
      exact ⟨_, by rw [HV.out]; rfl, by rw [HV.out]; exact ⟨A3, c3, rfl, hR3⟩, hb3⟩
set_option maxHeartbeats 1000000 in
theorem spec_l3Out (A : Option Addr) (c : Nat) (m : List Pr) (e : En) (base : Nat) (w : World) (hR : Kd.R kPr 111 w base (fun _ => True) (.slice A m.length c) m) (hbase : base ≤ w.heap.size) (hn : m.length ≤ 1099511627776) :
    Calls Tryz.prog 164 #[.slice A m.length c, vEn e] w fun r w' => ∃ v, r = .returned (.tuple #[v, .int .i64 (outS m e).2.1, .bool (outS m e).2.2]) ∧ Kd.R kPr 111 w' base (fun _ => True) v (outS m e).1 ∧ Below base w w' := by
  have HR := Aside0.mk hR; clear hR
  have HC := Aside0.mk (Kd.R_reads' HR.out).2.2
  go_enter Tryz.func164, Tryz.ntmps164
  go_wp2
  go_loopw [7] (fun i w' => ∃ k : Nat, k ≤ m.length ∧ i = .int .i64 k ∧ Aside0 (outAt m e k = outAt m e 0) ∧ Aside0 (w'.heap[w.heap.size]? = some (.cells #[.int .i64 e.addr, .int .i64 e.port] 62 (0, 0))) ∧ Below w.heap.size w w') (fun i _ => m.length - (intOf i).toNat)
  case atStart => exact ⟨0, Nat.zero_le _, rfl, ⟨rfl⟩, ⟨heap_alloc_new w _⟩, (Below.refl _ _).alloc (Nat.le_refl _) _⟩
  case round =>
    obtain ⟨k, hk, rfl, HP, HX, hb⟩ := hrel
    have c0 : wr.cell? ⟨w.heap.size, 0, none⟩ = some (.int .i64 e.addr) := (blk_cell HX.out 0).trans rfl
    have c1 : wr.cell? ⟨w.heap.size, 1, none⟩ = some (.int .i64 e.port) := (blk_cell HX.out 1).trans rfl
    have z0 := blk_frozen HX.out 0
    have z1 := blk_frozen HX.out 1
    have hz := blk_lt HX.out
    by_cases hlt : k < m.length
    · obtain ⟨ad, p, hA, hp, dL, d0, d1, d2⟩ := at_Pr (Kd.C_below HC.out hb) k hlt
      cases hA
      have hk0 : (0 : Int) ≤ (k : Int) := Int.natCast_nonneg _
      have hk1 : (k : Int) < (m.length : Int) := by omega
      by_cases he : p.inside = e
      · have ht := En_beq he
        have HF := Aside0.mk ((outAt_hit hlt hp he).symm.trans HP.out)
        have HV : Aside0 (outS m e = (m, p.port, true)) := ⟨by rw [outS_of, ← HF.out]⟩
        clear he
        go_wp2
        go_quiet (fail)
        go_wp2
        go_quiet (fail)
        go_wp2
        go_ret3
        exact ⟨_, by rw [HV.out]; rfl, by rw [HV.out]; exact Kd.R_below HR.out (by repeat (first | (with_reducible exact hb) | (with_reducible apply below_alloc) | (with_reducible apply pw_below_drewN) | (with_reducible apply below_drew1) | with_reducible refine below_set ?_ (by first | (with_reducible exact Nat.le_refl _) | (with_reducible assumption) | (simp; done) | omega | (simp; omega)))), (by repeat (first | (with_reducible exact (hb.mono hbase)) | (with_reducible apply below_alloc) | (with_reducible apply pw_below_drewN) | (with_reducible apply below_drew1) | with_reducible refine below_set ?_ (by first | (with_reducible exact Nat.le_refl _) | (with_reducible assumption) | (simp; done) | omega | (simp; omega))))⟩
      · have ht := En_bne he
        have HF := Aside0.mk ((outAt_miss hlt hp he).symm.trans HP.out)
        clear he
        go_wp2
        go_quiet (fail)
        go_wp2
        go_roundw
        case rel => exact ⟨k + 1, by omega, by go_num, HF, ⟨by simpa using HX.out⟩, (by repeat (first | (with_reducible exact hb) | (with_reducible apply below_alloc) | (with_reducible apply pw_below_drewN) | (with_reducible apply below_drew1) | with_reducible refine below_set ?_ (by first | (with_reducible exact Nat.le_refl _) | (with_reducible assumption) | (simp; done) | omega | (simp; omega))))⟩
        case measure => simp [intOf]; omega
    · have HF := Aside0.mk ((outAt_end m e k (by omega)).symm.trans HP.out)
      by_cases h7 : 7 < m.length
      · have HV : Aside0 (outS m e = (m, 0, false)) := ⟨by rw [outS_of, ← HF.out]; simp only; rw [if_pos h7]⟩
        have t1 : decide ((m.length : Int) > 7) = true := decide_eq_true (by omega)
        have t2 : decide ((7 : Int) < (m.length : Int)) = true := decide_eq_true (by omega)
        go_wp2
        go_ret3
        exact ⟨_, by rw [HV.out]; rfl, by rw [HV.out]; exact Kd.R_below HR.out (by repeat (first | (with_reducible exact hb) | (with_reducible apply below_alloc) | (with_reducible apply pw_below_drewN) | (with_reducible apply below_drew1) | with_reducible refine below_set ?_ (by first | (with_reducible exact Nat.le_refl _) | (with_reducible assumption) | (simp; done) | omega | (simp; omega)))), (by repeat (first | (with_reducible exact (hb.mono hbase)) | (with_reducible apply below_alloc) | (with_reducible apply pw_below_drewN) | (with_reducible apply below_drew1) | with_reducible refine below_set ?_ (by first | (with_reducible exact Nat.le_refl _) | (with_reducible assumption) | (simp; done) | omega | (simp; omega))))⟩
      · have HV : Aside0 (outS m e = (m ++ [⟨10 + m.length, e⟩], 10 + (m.length : Int), true)) := ⟨by rw [outS_of, ← HF.out]; simp only; rw [if_neg h7]⟩
        have t1 : decide ((m.length : Int) > 7) = false := decide_eq_false (by omega)
        have t2 : decide ((7 : Int) < (m.length : Int)) = false := decide_eq_false (by omega)
        have hs : (10 : Int) + (m.length : Int) ≤ 9223372036854775807 := by omega
        go_wp2_with (at_builtin; (refine Kd.R_append kPr (w0 := w) base rfl (.tmp 35) (.tmp 39) 23 111 (.agg #[(.int .i64 0), (.int .i64 0), (.int .i64 0)]) 24 rfl Tryz.underlying23 infoPr rfl (by decide) (by omega) (.slice A m.length c) m ⟨10 + m.length, e⟩ [.int .i64 (10 + m.length), .int .i64 e.addr, .int .i64 e.port] (fun _ => True) (fun _ => False) rfl rfl (kPr_mkM _ _ _ _) (fun _ hk => hk.elim) (fun _ _ => trivial) (Kd.R_below HR.out (by repeat (first | (with_reducible exact hb) | (with_reducible apply below_alloc) | (with_reducible apply pw_below_drewN) | (with_reducible apply below_drew1) | with_reducible refine below_set ?_ (by first | (with_reducible exact Nat.le_refl _) | (with_reducible assumption) | (simp; done) | omega | (simp; omega))))) (by repeat (first | (with_reducible exact (hb.mono hbase)) | (with_reducible apply below_alloc) | (with_reducible apply pw_below_drewN) | (with_reducible apply below_drew1) | with_reducible refine below_set ?_ (by first | (with_reducible exact Nat.le_refl _) | (with_reducible assumption) | (simp; done) | omega | (simp; omega)))) (Nat.le_trans hbase hb.size) (by omega) ?_; intro v3 w3 hR3 hb3 hg3 hx3))
        go_ret3
        exact ⟨_, by rw [HV.out]; rfl, by rw [HV.out]; exact hR3, hb3⟩
end Go.Proofs.YtfjbjiklohjodaaGreatDoor.Z
namespace Go.Proofs.YtfjbjiklohjodaaGreatDoor.Q
open Go.RowKit Go.Proofs.YtfjbjiklohjodaaGreatDoorW.PrintWords Go.Proofs.YtfjbjiklohjodaaGreatDoorW.PrintLast Go.Proofs.YtfjbjiklohjodaaGreatDoorW.PrintMore
attribute [local go_sem] max2_int min2_int max_two min_two max_three min_three max_four min_four
set_option linter.unusedVariables false
set_option linter.unusedSimpArgs false
noncomputable section
def errW : Option Int → Value
  | none => .nilIface
  | some c => .iface 0 (.int .i64 c)
theorem errW_none : errW none = .nilIface := rfl
theorem errW_some (c : Int) : errW (some c) = .iface 0 (.int .i64 c) := rfl
theorem info9 : (Tryz.prog.info? 9).map (fun i => (i.zero, i.size, i.bytes)) = some (some (.string ⟨#[]⟩), 1, 16) := by kernel_rfl
theorem info109 : (Tryz.prog.info? 109).map (fun i => (i.zero, i.size, i.bytes)) = some (some (.agg #[(.int .i64 0), (.string ⟨#[]⟩)]), 2, 24) := by kernel_rfl
theorem info111 : (Tryz.prog.info? 111).map (fun i => (i.zero, i.size, i.bytes)) = some (some (.agg #[(.int .i64 0), (.int .i64 0), (.int .i64 0)]), 3, 24) := by kernel_rfl
theorem info116 : (Tryz.prog.info? 116).map (fun i => (i.zero, i.size, i.bytes)) = some (some (.agg #[(.int .i64 0), (.bool false), (.int .i64 0), (.int .i64 0)]), 4, 32) := by kernel_rfl
structure S62 where
  f0 : Int
  f1 : Int
def z62 : S62 := ⟨(0 : Int), (0 : Int)⟩
def k62 : Kd S62 := Kd.iso (Kd.pair (Kd.int .i64) (Kd.int .i64)) (fun x : S62 => (x.f0, x.f1))
theorem k62_heap : Kd.Heap k62 := Kd.heap_iso _ (Kd.heap_pair (Kd.heap_int .i64) (Kd.heap_int .i64))
theorem k62_open {w : World} {x : S62} {cs : List Value} (h : k62.K w x cs) : cs = [.int .i64 x.f0, .int .i64 x.f1] := by
  obtain ⟨_, _, rfl, rfl, rfl⟩ := h
  exact rfl
theorem k62_mkM (w : World) (base : Nat) (ok : Nat → Prop) (x : S62)  : k62.M w base ok x [.int .i64 x.f0, .int .i64 x.f1] := ⟨[.int .i64 x.f0], [.int .i64 x.f1], rfl, rfl, rfl⟩
def rd_T62 (xs : List S62) (i : Int) : S62 := xs.getD i.toNat z62
theorem at_T62 {w : World} {A : Option Addr} {n : Nat} {xs : List S62} (h : Kd.C k62 w A n xs) (i : Int) (h0 : 0 ≤ i) (h1 : i < n) : ∃ ad , A = some ad ∧ w.cell? (ad.add (i.toNat * 2)) = some (.int .i64 (rd_T62 xs i).f0) ∧ w.cell? ⟨(ad.add (i.toNat * 2)).block, (ad.add (i.toNat * 2)).off + 1, none⟩ = some (.int .i64 (rd_T62 xs i).f1) := by
  obtain ⟨ad, c, e, _, hK, hc0⟩ := Kd.C_get h z62 i h0 h1
  have hc : ∀ j u, c[j]? = some u → w.cell? (ad.add (i.toNat * 2 + j)) = some u := hc0
  obtain rfl := k62_open hK
  exact ⟨ad, e, hc 0 _ rfl, by rw [← add_field _ _ 1 (by omega)]; exact hc 1 _ rfl⟩
structure S111 where
  f0 : Int
  f1 : S62
def z111 : S111 := ⟨(0 : Int), z62⟩
def k111 : Kd S111 := Kd.iso (Kd.pair (Kd.int .i64) k62) (fun x : S111 => (x.f0, x.f1))
theorem k111_heap : Kd.Heap k111 := Kd.heap_iso _ (Kd.heap_pair (Kd.heap_int .i64) k62_heap)
theorem k111_open {w : World} {x : S111} {cs : List Value} (h : k111.K w x cs) : cs = [.int .i64 x.f0, .int .i64 x.f1.f0, .int .i64 x.f1.f1] := by
  obtain ⟨_, _, rfl, rfl, s1⟩ := h
  obtain rfl := k62_open s1
  exact rfl
theorem k111_mkM (w : World) (base : Nat) (ok : Nat → Prop) (x : S111)  : k111.M w base ok x [.int .i64 x.f0, .int .i64 x.f1.f0, .int .i64 x.f1.f1] := ⟨[.int .i64 x.f0], [.int .i64 x.f1.f0, .int .i64 x.f1.f1], rfl, rfl, (k62_mkM w base ok x.f1 )⟩
def rd_T111 (xs : List S111) (i : Int) : S111 := xs.getD i.toNat z111
theorem at_T111 {w : World} {A : Option Addr} {n : Nat} {xs : List S111} (h : Kd.C k111 w A n xs) (i : Int) (h0 : 0 ≤ i) (h1 : i < n) : ∃ ad , A = some ad ∧ w.cell? (ad.add (i.toNat * 3)) = some (.int .i64 (rd_T111 xs i).f0) ∧ w.cell? ⟨(ad.add (i.toNat * 3)).block, (ad.add (i.toNat * 3)).off + 1, none⟩ = some (.int .i64 (rd_T111 xs i).f1.f0) ∧ w.cell? ⟨(ad.add (i.toNat * 3)).block, (ad.add (i.toNat * 3)).off + 2, none⟩ = some (.int .i64 (rd_T111 xs i).f1.f1) := by
  obtain ⟨ad, c, e, _, hK, hc0⟩ := Kd.C_get h z111 i h0 h1
  have hc : ∀ j u, c[j]? = some u → w.cell? (ad.add (i.toNat * 3 + j)) = some u := hc0
  obtain rfl := k111_open hK
  exact ⟨ad, e, hc 0 _ rfl, by rw [← add_field _ _ 1 (by omega)]; exact hc 1 _ rfl, by rw [← add_field _ _ 2 (by omega)]; exact hc 2 _ rfl⟩
structure S109 where
  f0 : Int
  f1 : ByteArray
def z109 : S109 := ⟨(0 : Int), (⟨#[]⟩ : ByteArray)⟩
def k109 : Kd S109 := Kd.iso (Kd.pair (Kd.int .i64) Kd.string) (fun x : S109 => (x.f0, x.f1))
theorem k109_open {w : World} {x : S109} {cs : List Value} (h : k109.K w x cs) : cs = [.int .i64 x.f0, .string x.f1] := by
  obtain ⟨_, _, rfl, rfl, rfl⟩ := h
  exact rfl
theorem k109_openM {w : World} {base : Nat} {ok : Nat → Prop} {x : S109} {cs : List Value} (h : k109.M w base ok x cs) : cs = [.int .i64 x.f0, .string x.f1] := by
  obtain ⟨_, _, rfl, rfl, rfl⟩ := h
  exact rfl
theorem k109_mkM (w : World) (base : Nat) (ok : Nat → Prop) (x : S109)  : k109.M w base ok x [.int .i64 x.f0, .string x.f1] := ⟨[.int .i64 x.f0], [.string x.f1], rfl, rfl, rfl⟩
def rd_T109 (xs : List S109) (i : Int) : S109 := xs.getD i.toNat z109
theorem at_T109 {w : World} {A : Option Addr} {n : Nat} {xs : List S109} (h : Kd.C k109 w A n xs) (i : Int) (h0 : 0 ≤ i) (h1 : i < n) : ∃ ad , A = some ad ∧ w.cell? (ad.add (i.toNat * 2)) = some (.int .i64 (rd_T109 xs i).f0) ∧ w.cell? ⟨(ad.add (i.toNat * 2)).block, (ad.add (i.toNat * 2)).off + 1, none⟩ = some (.string (rd_T109 xs i).f1) := by
  obtain ⟨ad, c, e, _, hK, hc0⟩ := Kd.C_get h z109 i h0 h1
  have hc : ∀ j u, c[j]? = some u → w.cell? (ad.add (i.toNat * 2 + j)) = some u := hc0
  obtain rfl := k109_open hK
  exact ⟨ad, e, hc 0 _ rfl, by rw [← add_field _ _ 1 (by omega)]; exact hc 1 _ rfl⟩
structure S116 where
  f0 : Int
  f1 : Bool
  f2 : S62
def z116 : S116 := ⟨(0 : Int), false, z62⟩
def k116 : Kd S116 := Kd.iso (Kd.pair (Kd.int .i64) (Kd.pair Kd.bool k62)) (fun x : S116 => (x.f0, x.f1, x.f2))
theorem k116_open {w : World} {x : S116} {cs : List Value} (h : k116.K w x cs) : cs = [.int .i64 x.f0, .bool x.f1, .int .i64 x.f2.f0, .int .i64 x.f2.f1] := by
  obtain ⟨_, _, rfl, rfl, ⟨_, _, rfl, rfl, s2⟩⟩ := h
  obtain rfl := k62_open s2
  exact rfl
theorem k116_mkM (w : World) (base : Nat) (ok : Nat → Prop) (x : S116)  : k116.M w base ok x [.int .i64 x.f0, .bool x.f1, .int .i64 x.f2.f0, .int .i64 x.f2.f1] := ⟨[.int .i64 x.f0], [.bool x.f1, .int .i64 x.f2.f0, .int .i64 x.f2.f1], rfl, rfl, ⟨[.bool x.f1], [.int .i64 x.f2.f0, .int .i64 x.f2.f1], rfl, rfl, (k62_mkM w base ok x.f2 )⟩⟩
def rd_T116 (xs : List S116) (i : Int) : S116 := xs.getD i.toNat z116
theorem at_T116 {w : World} {A : Option Addr} {n : Nat} {xs : List S116} (h : Kd.C k116 w A n xs) (i : Int) (h0 : 0 ≤ i) (h1 : i < n) : ∃ ad , A = some ad ∧ w.cell? (ad.add (i.toNat * 4)) = some (.int .i64 (rd_T116 xs i).f0) ∧ w.cell? ⟨(ad.add (i.toNat * 4)).block, (ad.add (i.toNat * 4)).off + 1, none⟩ = some (.bool (rd_T116 xs i).f1) ∧ w.cell? ⟨(ad.add (i.toNat * 4)).block, (ad.add (i.toNat * 4)).off + 2, none⟩ = some (.int .i64 (rd_T116 xs i).f2.f0) ∧ w.cell? ⟨(ad.add (i.toNat * 4)).block, (ad.add (i.toNat * 4)).off + 3, none⟩ = some (.int .i64 (rd_T116 xs i).f2.f1) := by
  obtain ⟨ad, c, e, _, hK, hc0⟩ := Kd.C_get h z116 i h0 h1
  have hc : ∀ j u, c[j]? = some u → w.cell? (ad.add (i.toNat * 4 + j)) = some u := hc0
  obtain rfl := k116_open hK
  exact ⟨ad, e, hc 0 _ rfl, by rw [← add_field _ _ 1 (by omega)]; exact hc 1 _ rfl, by rw [← add_field _ _ 2 (by omega)]; exact hc 2 _ rfl, by rw [← add_field _ _ 3 (by omega)]; exact hc 3 _ rfl⟩
structure S64 where
  f0 : S62
  f1 : S62
  f2 : ByteArray
  f3 : ByteArray
  f4 : Int
  f5 : Int
  f6 : ByteArray
  f7 : ByteArray
def z64 : S64 := ⟨z62, z62, (⟨#[]⟩ : ByteArray), (⟨#[]⟩ : ByteArray), (0 : Int), (0 : Int), (⟨#[]⟩ : ByteArray), (⟨#[]⟩ : ByteArray)⟩
end
end Go.Proofs.YtfjbjiklohjodaaGreatDoor.Q
namespace Go.Proofs.YtfjbjiklohjodaaGreatDoor.Z
open Go.RowKit Go.Proofs.YtfjbjiklohjodaaGreatDoorW.PrintWords
set_option linter.unusedVariables false
set_option linter.unusedSimpArgs false
attribute [local go_sem ↓] Go.wp_at_zero Go.wp_at_succ
def outsideB (e : En) : Bool := inB e.addr 4 6 && inB e.port 1 9
def doorB (e : En) : Bool := e.addr == 9 && inB e.port 10 17
def anyB (e : En) : Bool := insideB e || outsideB e || doorB e
theorem impl_EndOutside (e : En) (w : World) :
    Calls Tryz.prog 103 #[vEn e] w fun r w' => r = .returned (.bool (outsideB e)) ∧ Below w.heap.size w w' := by
  cases h : inB e.addr 4 6
  all_goals
    have H := Aside0.mk h; clear h
    go_enter Tryz.func103, Tryz.ntmps103
    go_wp2_with (go_at_call 68; refine (impl_within _ _ _ _).mono ?_; rintro e w' ⟨rfl, rfl⟩; try rw [H.out])
    go_ret
    exact ⟨by simp [outsideB, H.out], (Below.refl _ _).alloc (Nat.le_refl _) _⟩
theorem spec_EndOutside (e : En) (w : World) :
    Calls Tryz.prog 100 #[vEn e] w fun r w' => r = .returned (.bool (outsideB e)) ∧ Below w.heap.size w w' := by
  cases h : inB e.addr 4 6
  · have H := Aside0.mk h; clear h
    go_enter Tryz.func100, Tryz.ntmps100
    go_wp2_with (go_at_call 63; refine (spec_l6In _ _ _ _).mono ?_; rintro e w' ⟨rfl, rfl⟩; rw [H.out])
    go_ret
    exact ⟨by simp [outsideB, H.out], (Below.refl _ _).alloc (Nat.le_refl _) _⟩
  · have H := Aside0.mk h; clear h
    go_enter Tryz.func100, Tryz.ntmps100
    go_wp2_with (first | (go_at_call 63; refine (spec_l6In _ _ _ _).mono ?_; rintro e w' ⟨rfl, rfl⟩; rw [H.out]) | (go_at_call 130; refine (spec_l1Host e _).mono ?_; rintro _ w' ⟨rfl, hb⟩))
    go_ret
    exact ⟨by simp [outsideB, H.out], ((Below.refl _ _).alloc (Nat.le_refl _) _).trans (hb.mono (by simp))⟩
theorem spec_EndDoor (e : En) (w : World) :
    Calls Tryz.prog 144 #[vEn e] w fun r w' => r = .returned (.bool (doorB e)) ∧ Below w.heap.size w w' := by
  cases h : (e.addr == 9)
  all_goals
    go_enter Tryz.func144, Tryz.ntmps144
    go_wp2_with (go_at_call 63; refine (spec_l6In _ _ _ _).mono ?_; rintro e w' ⟨rfl, rfl⟩)
    go_ret
    exact ⟨by simp [doorB, h], (Below.refl _ _).alloc (Nat.le_refl _) _⟩
theorem spec_l1Any (e : En) (w : World) :
    Calls Tryz.prog 143 #[vEn e] w fun r w' => r = .returned (.bool (anyB e)) ∧ Below w.heap.size w w' := by
  cases h1 : insideB e
  · have H1 := Aside0.mk h1; clear h1
    cases h2 : outsideB e
    all_goals
      have H2 := Aside0.mk h2; clear h2
      go_enter Tryz.func143, Tryz.ntmps143
      go_wp2_with (first | (go_at_call 72; refine (spec_EndInside e _).mono ?_; rintro r w1 ⟨rfl, hb1⟩; rw [H1.out]; obtain ⟨hb1c, hb1f, hb1z⟩ := bcell hb1; (try simp at hb1z); (try have hb10 : w.heap.size < w1.heap.size := by omega); (try have hb11 : w.heap.size + 1 < w1.heap.size := by omega); (try have hb12 : w.heap.size + 2 < w1.heap.size := by omega)) | (go_at_call 100; refine (spec_EndOutside e _).mono ?_; rintro r w2 ⟨rfl, hb2⟩; rw [H2.out]; obtain ⟨hb2c, hb2f, hb2z⟩ := bcell hb2; (try simp at hb2z); (try have hb20 : w.heap.size < w2.heap.size := by omega); (try have hb21 : w.heap.size + 1 < w2.heap.size := by omega); (try have hb22 : w.heap.size + 2 < w2.heap.size := by omega)) | (go_at_call 144; refine (spec_EndDoor e _).mono ?_; rintro r w3 ⟨rfl, hb3⟩; obtain ⟨hb3c, hb3f, hb3z⟩ := bcell hb3; (try simp at hb3z); (try have hb30 : w.heap.size < w3.heap.size := by omega); (try have hb31 : w.heap.size + 1 < w3.heap.size := by omega); (try have hb32 : w.heap.size + 2 < w3.heap.size := by omega)))
      go_ret
      exact ⟨by simp [anyB, H1.out, H2.out], by first | exact below_step (below_step (below_step (by repeat (first | (with_reducible exact (Below.refl _ _)) | (with_reducible apply below_alloc) | (with_reducible apply pw_below_drewN) | (with_reducible apply below_drew1) | with_reducible refine below_set ?_ (by first | (with_reducible exact Nat.le_refl _) | (with_reducible assumption) | (simp; done) | omega | (simp; omega)))) hb1) hb2) hb3 | exact below_step (below_step (by repeat (first | (with_reducible exact (Below.refl _ _)) | (with_reducible apply below_alloc) | (with_reducible apply pw_below_drewN) | (with_reducible apply below_drew1) | with_reducible refine below_set ?_ (by first | (with_reducible exact Nat.le_refl _) | (with_reducible assumption) | (simp; done) | omega | (simp; omega)))) hb1) hb2⟩
  · have H1 := Aside0.mk h1; clear h1
    go_enter Tryz.func143, Tryz.ntmps143
    go_wp2_with (go_at_call 72; refine (spec_EndInside e _).mono ?_; rintro r w1 ⟨rfl, hb1⟩; rw [H1.out]; obtain ⟨hb1c, hb1f, hb1z⟩ := bcell hb1; (try simp at hb1z); (try have hb10 : w.heap.size < w1.heap.size := by omega); (try have hb11 : w.heap.size + 1 < w1.heap.size := by omega); (try have hb12 : w.heap.size + 2 < w1.heap.size := by omega))
    go_ret
    exact ⟨by simp [anyB, H1.out], below_step (by repeat (first | (with_reducible exact (Below.refl _ _)) | (with_reducible apply below_alloc) | (with_reducible apply pw_below_drewN) | (with_reducible apply below_drew1) | with_reducible refine below_set ?_ (by first | (with_reducible exact Nat.le_refl _) | (with_reducible assumption) | (simp; done) | omega | (simp; omega)))) hb1⟩
theorem impl_any (e : En) (w : World) :
    Calls Tryz.prog 146 #[vEn e] w fun r w' => r = .returned (.bool (anyB e)) ∧ Below w.heap.size w w' := by
  cases h1 : insideB e
  · have H1 := Aside0.mk h1; clear h1
    cases h2 : outsideB e
    all_goals
      have H2 := Aside0.mk h2; clear h2
      go_enter Tryz.func146, Tryz.ntmps146
      go_wp2_with (first | (go_at_call 75; refine (impl_EndInside e _).mono ?_; rintro r w1 ⟨rfl, hb1⟩; rw [H1.out]; obtain ⟨hb1c, hb1f, hb1z⟩ := bcell hb1; (try simp at hb1z); (try have hb10 : w.heap.size < w1.heap.size := by omega); (try have hb11 : w.heap.size + 1 < w1.heap.size := by omega); (try have hb12 : w.heap.size + 2 < w1.heap.size := by omega)) | (go_at_call 103; refine (impl_EndOutside e _).mono ?_; rintro r w2 ⟨rfl, hb2⟩; rw [H2.out]; obtain ⟨hb2c, hb2f, hb2z⟩ := bcell hb2; (try simp at hb2z); (try have hb20 : w.heap.size < w2.heap.size := by omega); (try have hb21 : w.heap.size + 1 < w2.heap.size := by omega); (try have hb22 : w.heap.size + 2 < w2.heap.size := by omega)) | (go_at_call 147; refine (impl_EndDoor e _).mono ?_; rintro r w3 ⟨rfl, hb3⟩; obtain ⟨hb3c, hb3f, hb3z⟩ := bcell hb3; (try simp at hb3z); (try have hb30 : w.heap.size < w3.heap.size := by omega); (try have hb31 : w.heap.size + 1 < w3.heap.size := by omega); (try have hb32 : w.heap.size + 2 < w3.heap.size := by omega)))
      go_ret
      exact ⟨by simp [anyB, doorB, H1.out, H2.out], by first | exact below_step (below_step (below_step (by repeat (first | (with_reducible exact (Below.refl _ _)) | (with_reducible apply below_alloc) | (with_reducible apply pw_below_drewN) | (with_reducible apply below_drew1) | with_reducible refine below_set ?_ (by first | (with_reducible exact Nat.le_refl _) | (with_reducible assumption) | (simp; done) | omega | (simp; omega)))) hb1) hb2) hb3 | exact below_step (below_step (by repeat (first | (with_reducible exact (Below.refl _ _)) | (with_reducible apply below_alloc) | (with_reducible apply pw_below_drewN) | (with_reducible apply below_drew1) | with_reducible refine below_set ?_ (by first | (with_reducible exact Nat.le_refl _) | (with_reducible assumption) | (simp; done) | omega | (simp; omega)))) hb1) hb2⟩
  · have H1 := Aside0.mk h1; clear h1
    go_enter Tryz.func146, Tryz.ntmps146
    go_wp2_with (go_at_call 75; refine (impl_EndInside e _).mono ?_; rintro r w1 ⟨rfl, hb1⟩; rw [H1.out]; obtain ⟨hb1c, hb1f, hb1z⟩ := bcell hb1; (try simp at hb1z); (try have hb10 : w.heap.size < w1.heap.size := by omega); (try have hb11 : w.heap.size + 1 < w1.heap.size := by omega); (try have hb12 : w.heap.size + 2 < w1.heap.size := by omega))
    go_ret
    exact ⟨by simp [anyB, H1.out], below_step (by repeat (first | (with_reducible exact (Below.refl _ _)) | (with_reducible apply below_alloc) | (with_reducible apply pw_below_drewN) | (with_reducible apply below_drew1) | with_reducible refine below_set ?_ (by first | (with_reducible exact Nat.le_refl _) | (with_reducible assumption) | (simp; done) | omega | (simp; omega)))) hb1⟩
abbrev vS (l : List UInt8) : Value := .string ⟨l.toArray⟩
def dec2 (n : Nat) : List UInt8 := if n < 10 then [UInt8.ofNat (48 + n)] else [UInt8.ofNat (48 + n / 10), UInt8.ofNat (48 + n % 10)]
theorem dec2_eq (n : Nat) (h : n < 100) : Go.Lib.decDigits n = dec2 n := by
  unfold dec2
  by_cases h1 : n < 10
  · rw [if_pos h1, Go.Lib.decDigits, dif_pos h1]
  · rw [if_neg h1, Go.Lib.decDigits, dif_neg h1, Go.Lib.decDigits, dif_pos (by omega)]
    rfl
def endText (e : En) : List UInt8 := if anyB e then dec2 e.addr.toNat ++ 58 :: dec2 e.port.toNat else []
def allEnds : List En := ((List.range 3).flatMap fun a => (List.range 9).map fun p => ⟨1 + (a : Int), 1 + (p : Int)⟩) ++ ((List.range 3).flatMap fun a => (List.range 9).map fun p => ⟨4 + (a : Int), 1 + (p : Int)⟩) ++ ((List.range 8).map fun p => ⟨9, 10 + (p : Int)⟩)
theorem anyB_mem {e : En} (h : anyB e = true) : e ∈ allEnds := by
  obtain ⟨a, p⟩ := e
  simp only [anyB, insideB, outsideB, doorB, inB, Bool.or_eq_true, Bool.and_eq_true, decide_eq_true_eq, beq_iff_eq] at h
  unfold allEnds
  rcases h with (⟨⟨h1, h2⟩, h3, h4⟩ | ⟨⟨h1, h2⟩, h3, h4⟩) | ⟨h1, h3, h4⟩
  · refine List.mem_append_left _ (List.mem_append_left _ (List.mem_flatMap.2 ⟨(a - 1).toNat, List.mem_range.2 (by omega), List.mem_map.2 ⟨(p - 1).toNat, List.mem_range.2 (by omega), ?_⟩⟩))
    congr 1 <;> omega
  · refine List.mem_append_left _ (List.mem_append_right _ (List.mem_flatMap.2 ⟨(a - 4).toNat, List.mem_range.2 (by omega), List.mem_map.2 ⟨(p - 1).toNat, List.mem_range.2 (by omega), ?_⟩⟩))
    congr 1 <;> omega
  · refine List.mem_append_right _ (List.mem_map.2 ⟨(p - 10).toNat, List.mem_range.2 (by omega), ?_⟩)
    congr 1 <;> omega
def digI (b : UInt8) : Int := if b.toNat < 48 ∨ 57 < b.toNat then -1 else (b.toNat : Int) - 48
def readE (l : List UInt8) : En := ⟨digI (l.getD 0 0), (l.drop 2).foldl (fun n b => 10 * n + digI b) 0⟩
def endRead (l : List UInt8) : Option En := if anyB (readE l) && decide (endText (readE l) = l) then some (readE l) else none
theorem readE_text : ∀ e ∈ allEnds, readE (endText e) = e := by decide +kernel
theorem endRead_of {e : En} (h : anyB e = true) : endRead (endText e) = some e := by
  unfold endRead
  rw [readE_text e (anyB_mem h), h]
  simp
theorem endRead_some {l : List UInt8} {e : En} (h : endRead l = some e) : anyB e = true ∧ endText e = l := by
  unfold endRead at h
  split at h
  · rename_i h2
    injection h with h3
    simp only [Bool.and_eq_true, decide_eq_true_eq] at h2
    rw [h3] at h2
    exact h2
  · cases h
theorem endRead_none {l : List UInt8} (h : ∀ e, anyB e = true → endText e ≠ l) : endRead l = none := by
  cases he : endRead l with
  | none => rfl
  | some e => exact absurd (endRead_some he).2 (h e (endRead_some he).1)
end Go.Proofs.YtfjbjiklohjodaaGreatDoor.Z
namespace Go.Proofs
open Go.Shelf
def Tryz.lays156_ren : Go.Shelf.Ren := ⟨fun | 156 => 83 | 165 => 138 | 166 => 134 | 169 => 135 | 240 => 173 | 241 => 177 | 276 => 189 | 277 => 190 | n => n, fun | 31 => 122 | 9 => 9 | 3 => 3 | 4 => 4 | 0 => 0 | 20 => 20 | 72 => 173 | 76 => 176 | 70 => 171 | 37 => 22 | 75 => 175 | 127 => 213 | 164 => 221 | 5 => 5 | 80 => 121 | n => n, fun | n => n⟩
theorem Tryz.lays156 : Go.Proofs.Lays.n156 Tryz.prog Tryz.lays156_ren := {
  mixed := by kernel_rfl
  f156 := Tryz.func83.trans (congrArg some (by kernel_rfl))
  f165 := Tryz.func138.trans (congrArg some (by kernel_rfl))
  f166 := Tryz.func134.trans (congrArg some (by kernel_rfl))
  f169 := Tryz.func135.trans (congrArg some (by kernel_rfl))
  f240 := Tryz.func173.trans (congrArg some (by kernel_rfl))
  f241 := Tryz.func177.trans (congrArg some (by kernel_rfl))
  f276 := Tryz.func189.trans (congrArg some (by kernel_rfl))
  f277 := Tryz.func190.trans (congrArg some (by kernel_rfl))
  t0 := Tryz.underlying0
  a0 := Tryz.isAgg0
  z0 := Tryz.sizeOf0
  v0 := Tryz.zeroValue0
  t3 := Tryz.underlying3
  a3 := Tryz.isAgg3
  z3 := Tryz.sizeOf3
  v3 := Tryz.zeroValue3
  t4 := Tryz.underlying4
  a4 := Tryz.isAgg4
  z4 := Tryz.sizeOf4
  v4 := Tryz.zeroValue4
  t9 := Tryz.underlying9
  a9 := Tryz.isAgg9
  z9 := Tryz.sizeOf9
  v9 := Tryz.zeroValue9
  t20 := Tryz.underlying20
  a20 := Tryz.isAgg20
  z20 := Tryz.sizeOf20
  v20 := Tryz.zeroValue20
  t31 := Tryz.underlying122
  a31 := Tryz.isAgg122
  z31 := Tryz.sizeOf122
  v31 := Tryz.zeroValue122
  t37 := Tryz.underlying22
  a37 := Tryz.isAgg22
  z37 := Tryz.sizeOf22
  v37 := Tryz.zeroValue22
  t70 := Tryz.underlying171
  a70 := Tryz.isAgg171
  z70 := Tryz.sizeOf171
  v70 := Tryz.zeroValue171
  t72 := Tryz.underlying173
  a72 := Tryz.isAgg173
  z72 := Tryz.sizeOf173
  v72 := Tryz.zeroValue173
  t75 := Tryz.underlying175
  a75 := Tryz.isAgg175
  z75 := Tryz.sizeOf175
  v75 := Tryz.zeroValue175
  t76 := Tryz.underlying176
  a76 := Tryz.isAgg176
  z76 := Tryz.sizeOf176
  v76 := Tryz.zeroValue176
  t127 := Tryz.underlying213
  a127 := Tryz.isAgg213
  z127 := Tryz.sizeOf213
  v127 := Tryz.zeroValue213
  t164 := Tryz.underlying221
  a164 := Tryz.isAgg221
  z164 := Tryz.sizeOf221
  v164 := Tryz.zeroValue221 }
theorem Tryz.Builder_Extra_156 : Builder.Extra Tryz.prog Tryz.lays156_ren := {
  sizeBuilder := by kernel_rfl
  liesBuilder := by kernel_rfl
  t5 := Tryz.underlying5
  a5 := Tryz.isAgg5
  z5 := Tryz.sizeOf5
  v5 := Tryz.zeroValue5
  infoByte := by kernel_rfl
  cellsByte := by kernel_rfl
  sizeByte := by kernel_rfl
  neB5 := by decide }
open Go.RowKit in
theorem Tryz.strings_Join_none (a : Option Addr) (c : Nat) (sep : ByteArray) (w : World) :
    Calls Tryz.prog 83 #[.slice a 0 c, .string sep] w fun e w' => e = .returned (.string ⟨#[]⟩) ∧ w' = w := Any.strings_Join_none Tryz.lays156 Tryz.Builder_Extra_156 a c sep w
open Go.RowKit in
theorem Tryz.strings_Join (bk o c : Nat) (xs : List ByteArray) (sep : ByteArray) (w : World) (hcells : ∀ (j : Nat) x, xs[j]? = some x → w.cell? ⟨bk, o + j, none⟩ = some (.string x)) (hbk : bk < w.heap.size) (hN : xs.length ≤ 140737488355328) (hcap : xs.length ≤ c) (hlen : (Lib.join (xs.map (·.data.toList)) sep.data.toList).length ≤ 140737488355328) :
    Calls Tryz.prog 83 #[.slice (some ⟨bk, o, none⟩) xs.length c, .string sep] w fun e w' => e = .returned (.string ⟨(Lib.join (xs.map (·.data.toList)) sep.data.toList).toArray⟩) ∧ Below w.heap.size w w' := Any.strings_Join Tryz.lays156 Tryz.Builder_Extra_156 bk o c xs sep w hcells hbk hN hcap hlen
def Tryz.lays103_ren : Go.Shelf.Ren := ⟨fun | 103 => 170 | 210 => 185 | 206 => 192 | n => n, fun | 9 => 9 | 4 => 4 | 24 => 165 | 3 => 3 | n => n, fun | n => n⟩
theorem Tryz.lays103 : Go.Proofs.Lays.n103 Tryz.prog Tryz.lays103_ren := {
  mixed := by kernel_rfl
  f103 := Tryz.func170.trans (congrArg some (by kernel_rfl))
  f206 := Tryz.func192.trans (congrArg some (by kernel_rfl))
  f210 := Tryz.func185.trans (congrArg some (by kernel_rfl))
  t3 := Tryz.underlying3
  a3 := Tryz.isAgg3
  z3 := Tryz.sizeOf3
  v3 := Tryz.zeroValue3
  t4 := Tryz.underlying4
  a4 := Tryz.isAgg4
  z4 := Tryz.sizeOf4
  v4 := Tryz.zeroValue4
  t9 := Tryz.underlying9
  a9 := Tryz.isAgg9
  z9 := Tryz.sizeOf9
  v9 := Tryz.zeroValue9
  t24 := Tryz.underlying165
  a24 := Tryz.isAgg165
  z24 := Tryz.sizeOf165
  v24 := Tryz.zeroValue165 }
open Go.RowKit in
theorem Tryz.strings_CutPrefix (s p : ByteArray) (w : World) :
    Calls Tryz.prog 170 #[.string s, .string p] w fun e w' => e = .returned (.tuple #[.string ⟨(Lib.trimPrefix s.data.toList p.data.toList).toArray⟩, .bool (Lib.hasPrefix s.data.toList p.data.toList)]) ∧ w' = w := Any.strings_CutPrefix Tryz.lays103 s p w
def Tryz.lays171_ren : Go.Shelf.Ren := ⟨fun | 171 => 195 | 243 => 199 | 246 => 209 | 283 => 214 | 284 => 215 | 285 => 216 | 286 => 217 | 129 => 221 | 317 => 220 | 318 => 222 | 319 => 223 | 320 => 224 | 337 => 225 | 338 => 226 | n => n, fun | 3 => 3 | 9 => 9 | 2 => 2 | 4 => 4 | 171 => 245 | 0 => 0 | 53 => 239 | 37 => 22 | 5 => 5 | 173 => 248 | 212 => 255 | 51 => 236 | 20 => 20 | 213 => 256 | 46 => 228 | 232 => 260 | 233 => 261 | n => n, fun | 17 => 3 | 18 => 4 | 19 => 5 | n => n⟩
theorem Tryz.lays171 : Go.Proofs.Lays.n171 Tryz.prog Tryz.lays171_ren := {
  mixed := by kernel_rfl
  f129 := Tryz.func221.trans (congrArg some (by kernel_rfl))
  f171 := Tryz.func195.trans (congrArg some (by kernel_rfl))
  f243 := Tryz.func199.trans (congrArg some (by kernel_rfl))
  f246 := Tryz.func209.trans (congrArg some (by kernel_rfl))
  f283 := Tryz.func214.trans (congrArg some (by kernel_rfl))
  f284 := Tryz.func215.trans (congrArg some (by kernel_rfl))
  f285 := Tryz.func216.trans (congrArg some (by kernel_rfl))
  f286 := Tryz.func217.trans (congrArg some (by kernel_rfl))
  f317 := Tryz.func220.trans (congrArg some (by kernel_rfl))
  f318 := Tryz.func222.trans (congrArg some (by kernel_rfl))
  f319 := Tryz.func223.trans (congrArg some (by kernel_rfl))
  f320 := Tryz.func224.trans (congrArg some (by kernel_rfl))
  f337 := Tryz.func225.trans (congrArg some (by kernel_rfl))
  f338 := Tryz.func226.trans (congrArg some (by kernel_rfl))
  t0 := Tryz.underlying0
  a0 := Tryz.isAgg0
  z0 := Tryz.sizeOf0
  v0 := Tryz.zeroValue0
  t2 := Tryz.underlying2
  a2 := Tryz.isAgg2
  z2 := Tryz.sizeOf2
  v2 := Tryz.zeroValue2
  t3 := Tryz.underlying3
  a3 := Tryz.isAgg3
  z3 := Tryz.sizeOf3
  v3 := Tryz.zeroValue3
  t4 := Tryz.underlying4
  a4 := Tryz.isAgg4
  z4 := Tryz.sizeOf4
  v4 := Tryz.zeroValue4
  t5 := Tryz.underlying5
  a5 := Tryz.isAgg5
  z5 := Tryz.sizeOf5
  v5 := Tryz.zeroValue5
  t9 := Tryz.underlying9
  a9 := Tryz.isAgg9
  z9 := Tryz.sizeOf9
  v9 := Tryz.zeroValue9
  t20 := Tryz.underlying20
  a20 := Tryz.isAgg20
  z20 := Tryz.sizeOf20
  v20 := Tryz.zeroValue20
  t37 := Tryz.underlying22
  a37 := Tryz.isAgg22
  z37 := Tryz.sizeOf22
  v37 := Tryz.zeroValue22
  t46 := Tryz.underlying228
  a46 := Tryz.isAgg228
  z46 := Tryz.sizeOf228
  v46 := Tryz.zeroValue228
  t51 := Tryz.underlying236
  a51 := Tryz.isAgg236
  z51 := Tryz.sizeOf236
  v51 := Tryz.zeroValue236
  t53 := Tryz.underlying239
  a53 := Tryz.isAgg239
  z53 := Tryz.sizeOf239
  v53 := Tryz.zeroValue239
  t171 := Tryz.underlying245
  a171 := Tryz.isAgg245
  z171 := Tryz.sizeOf245
  v171 := Tryz.zeroValue245
  t173 := Tryz.underlying248
  a173 := Tryz.isAgg248
  z173 := Tryz.sizeOf248
  v173 := Tryz.zeroValue248
  t212 := Tryz.underlying255
  a212 := Tryz.isAgg255
  z212 := Tryz.sizeOf255
  v212 := Tryz.zeroValue255
  t213 := Tryz.underlying256
  a213 := Tryz.isAgg256
  z213 := Tryz.sizeOf256
  t232 := Tryz.underlying260
  a232 := Tryz.isAgg260
  z232 := Tryz.sizeOf260
  v232 := Tryz.zeroValue260
  t233 := Tryz.underlying261
  a233 := Tryz.isAgg261
  z233 := Tryz.sizeOf261
  v233 := Tryz.zeroValue261
  g17 := by kernel_rfl
  g18 := by kernel_rfl
  g19 := by kernel_rfl }
open Go.RowKit Go.Sort Go.Lib in
theorem Tryz.strconv_Itoa_small (i : Nat) (hi : i < 100) (w : World) :
    Calls Tryz.prog 195 #[.int .i64 i] w fun e w' => e = .returned (.string ⟨(Lib.decDigits i).toArray⟩) ∧ w' = w := Any.strconv_Itoa_small Tryz.lays171 i hi w
def Tryz.laysM316_ren : Go.Shelf.Ren := ⟨fun | 316 => 176 | n => n, fun | 9 => 9 | 3 => 3 | 4 => 4 | 37 => 22 | 0 => 0 | 127 => 213 | 5 => 5 | n => n, fun | n => n⟩
theorem Tryz.laysM316 : Go.Proofs.LaysM.n316 Tryz.prog Tryz.laysM316_ren := {
  mixed := by kernel_rfl
  f316 := Tryz.func176.trans (congrArg some (by kernel_rfl))
  t0 := Tryz.underlying0
  a0 := Tryz.isAgg0
  z0 := Tryz.sizeOf0
  v0 := Tryz.zeroValue0
  t3 := Tryz.underlying3
  a3 := Tryz.isAgg3
  z3 := Tryz.sizeOf3
  v3 := Tryz.zeroValue3
  t4 := Tryz.underlying4
  a4 := Tryz.isAgg4
  z4 := Tryz.sizeOf4
  v4 := Tryz.zeroValue4
  t9 := Tryz.underlying9
  a9 := Tryz.isAgg9
  z9 := Tryz.sizeOf9
  v9 := Tryz.zeroValue9
  t37 := Tryz.underlying22
  a37 := Tryz.isAgg22
  z37 := Tryz.sizeOf22
  v37 := Tryz.zeroValue22
  t127 := Tryz.underlying213
  a127 := Tryz.isAgg213
  z127 := Tryz.sizeOf213
  v127 := Tryz.zeroValue213
  t5 := Tryz.underlying5
  a5 := Tryz.isAgg5
  z5 := Tryz.sizeOf5
  v5 := Tryz.zeroValue5
  i0 := by kernel_rfl
  i3 := by kernel_rfl
  i4 := by kernel_rfl
  i5 := by kernel_rfl
  i9 := by kernel_rfl
  i37 := by kernel_rfl
  i127 := by kernel_rfl }
open Go.RowKit in
theorem Tryz.stringslite_Clone (s : ByteArray) (w : World) (hlim : s.size ≤ 281474976710656) :
    Calls Tryz.prog 176 #[.string s] w fun e w' => e = .returned (.string s) ∧ Below w.heap.size w w' := Any.stringslite_Clone Tryz.laysM316 s w hlim
def Tryz.laysC172_ren : Go.Shelf.Ren := ⟨fun | 172 => 194 | 244 => 197 | 245 => 198 | 247 => 204 | 279 => 205 | 280 => 206 | 281 => 207 | 282 => 208 | 287 => 212 | 316 => 176 | 171 => 195 | 205 => 213 | 321 => 218 | 322 => 219 | 243 => 199 | 246 => 209 | 283 => 214 | 284 => 215 | 285 => 216 | 286 => 217 | 129 => 221 | 317 => 220 | 318 => 222 | 319 => 223 | 320 => 224 | 337 => 225 | 338 => 226 | n => n, fun | 9 => 9 | 3 => 3 | 75 => 175 | 76 => 176 | 4 => 4 | 5 => 5 | 167 => 229 | 37 => 22 | 0 => 0 | 85 => 230 | 2 => 2 | 168 => 232 | 53 => 239 | 175 => 240 | 46 => 228 | 210 => 243 | 127 => 213 | 145 => 253 | 143 => 251 | 21 => 21 | 171 => 245 | 173 => 248 | 212 => 255 | 51 => 236 | 20 => 20 | 213 => 256 | 232 => 260 | 233 => 261 | 80 => 121 | n => n, fun | 15 => 1 | 16 => 2 | 17 => 3 | 18 => 4 | 19 => 5 | n => n⟩
theorem Tryz.laysC172 : Go.Proofs.LaysC.n172 Tryz.prog Tryz.laysC172_ren := {
  mixed := by kernel_rfl
  f129 := Tryz.func221.trans (congrArg some (by kernel_rfl))
  f171 := Tryz.func195.trans (congrArg some (by kernel_rfl))
  f172 := Tryz.func194.trans (congrArg some (by kernel_rfl))
  f205 := Tryz.func213.trans (congrArg some (by kernel_rfl))
  f243 := Tryz.func199.trans (congrArg some (by kernel_rfl))
  f244 := Tryz.func197.trans (congrArg some (by kernel_rfl))
  f245 := Tryz.func198.trans (congrArg some (by kernel_rfl))
  f246 := Tryz.func209.trans (congrArg some (by kernel_rfl))
  f247 := Tryz.func204.trans (congrArg some (by kernel_rfl))
  f279 := Tryz.func205.trans (congrArg some (by kernel_rfl))
  f280 := Tryz.func206.trans (congrArg some (by kernel_rfl))
  f281 := Tryz.func207.trans (congrArg some (by kernel_rfl))
  f282 := Tryz.func208.trans (congrArg some (by kernel_rfl))
  f283 := Tryz.func214.trans (congrArg some (by kernel_rfl))
  f284 := Tryz.func215.trans (congrArg some (by kernel_rfl))
  f285 := Tryz.func216.trans (congrArg some (by kernel_rfl))
  f286 := Tryz.func217.trans (congrArg some (by kernel_rfl))
  f287 := Tryz.func212.trans (congrArg some (by kernel_rfl))
  f316 := Tryz.func176.trans (congrArg some (by kernel_rfl))
  f317 := Tryz.func220.trans (congrArg some (by kernel_rfl))
  f318 := Tryz.func222.trans (congrArg some (by kernel_rfl))
  f319 := Tryz.func223.trans (congrArg some (by kernel_rfl))
  f320 := Tryz.func224.trans (congrArg some (by kernel_rfl))
  f321 := Tryz.func218.trans (congrArg some (by kernel_rfl))
  f322 := Tryz.func219.trans (congrArg some (by kernel_rfl))
  f337 := Tryz.func225.trans (congrArg some (by kernel_rfl))
  f338 := Tryz.func226.trans (congrArg some (by kernel_rfl))
  t0 := Tryz.underlying0
  a0 := Tryz.isAgg0
  z0 := Tryz.sizeOf0
  v0 := Tryz.zeroValue0
  t2 := Tryz.underlying2
  a2 := Tryz.isAgg2
  z2 := Tryz.sizeOf2
  v2 := Tryz.zeroValue2
  t3 := Tryz.underlying3
  a3 := Tryz.isAgg3
  z3 := Tryz.sizeOf3
  v3 := Tryz.zeroValue3
  t4 := Tryz.underlying4
  a4 := Tryz.isAgg4
  z4 := Tryz.sizeOf4
  v4 := Tryz.zeroValue4
  t5 := Tryz.underlying5
  a5 := Tryz.isAgg5
  z5 := Tryz.sizeOf5
  v5 := Tryz.zeroValue5
  t9 := Tryz.underlying9
  a9 := Tryz.isAgg9
  z9 := Tryz.sizeOf9
  v9 := Tryz.zeroValue9
  t20 := Tryz.underlying20
  a20 := Tryz.isAgg20
  z20 := Tryz.sizeOf20
  v20 := Tryz.zeroValue20
  t21 := Tryz.underlying21
  a21 := Tryz.isAgg21
  z21 := Tryz.sizeOf21
  v21 := Tryz.zeroValue21
  t37 := Tryz.underlying22
  a37 := Tryz.isAgg22
  z37 := Tryz.sizeOf22
  v37 := Tryz.zeroValue22
  t46 := Tryz.underlying228
  a46 := Tryz.isAgg228
  z46 := Tryz.sizeOf228
  v46 := Tryz.zeroValue228
  t51 := Tryz.underlying236
  a51 := Tryz.isAgg236
  z51 := Tryz.sizeOf236
  v51 := Tryz.zeroValue236
  t53 := Tryz.underlying239
  a53 := Tryz.isAgg239
  z53 := Tryz.sizeOf239
  v53 := Tryz.zeroValue239
  t75 := Tryz.underlying175
  a75 := Tryz.isAgg175
  z75 := Tryz.sizeOf175
  v75 := Tryz.zeroValue175
  t76 := Tryz.underlying176
  a76 := Tryz.isAgg176
  z76 := Tryz.sizeOf176
  v76 := Tryz.zeroValue176
  t85 := Tryz.underlying230
  a85 := Tryz.isAgg230
  z85 := Tryz.sizeOf230
  v85 := Tryz.zeroValue230
  t127 := Tryz.underlying213
  a127 := Tryz.isAgg213
  z127 := Tryz.sizeOf213
  v127 := Tryz.zeroValue213
  t143 := Tryz.underlying251
  a143 := Tryz.isAgg251
  z143 := Tryz.sizeOf251
  v143 := Tryz.zeroValue251
  t145 := Tryz.underlying253
  a145 := Tryz.isAgg253
  z145 := Tryz.sizeOf253
  v145 := Tryz.zeroValue253
  t167 := Tryz.underlying229
  a167 := Tryz.isAgg229
  z167 := Tryz.sizeOf229
  v167 := Tryz.zeroValue229
  t168 := Tryz.underlying232
  a168 := Tryz.isAgg232
  z168 := Tryz.sizeOf232
  v168 := Tryz.zeroValue232
  t171 := Tryz.underlying245
  a171 := Tryz.isAgg245
  z171 := Tryz.sizeOf245
  v171 := Tryz.zeroValue245
  t173 := Tryz.underlying248
  a173 := Tryz.isAgg248
  z173 := Tryz.sizeOf248
  v173 := Tryz.zeroValue248
  t175 := Tryz.underlying240
  a175 := Tryz.isAgg240
  z175 := Tryz.sizeOf240
  v175 := Tryz.zeroValue240
  t210 := Tryz.underlying243
  a210 := Tryz.isAgg243
  z210 := Tryz.sizeOf243
  v210 := Tryz.zeroValue243
  t212 := Tryz.underlying255
  a212 := Tryz.isAgg255
  z212 := Tryz.sizeOf255
  v212 := Tryz.zeroValue255
  t213 := Tryz.underlying256
  a213 := Tryz.isAgg256
  z213 := Tryz.sizeOf256
  t232 := Tryz.underlying260
  a232 := Tryz.isAgg260
  z232 := Tryz.sizeOf260
  v232 := Tryz.zeroValue260
  t233 := Tryz.underlying261
  a233 := Tryz.isAgg261
  z233 := Tryz.sizeOf261
  v233 := Tryz.zeroValue261
  g15 := by kernel_rfl
  g16 := by kernel_rfl
  g17 := by kernel_rfl
  g18 := by kernel_rfl
  g19 := by kernel_rfl
  t80 := Tryz.underlying121
  a80 := Tryz.isAgg121
  z80 := Tryz.sizeOf121
  v80 := Tryz.zeroValue121
  i0 := by kernel_rfl
  i2 := by kernel_rfl
  i3 := by kernel_rfl
  i4 := by kernel_rfl
  i5 := by kernel_rfl
  i9 := by kernel_rfl
  i20 := by kernel_rfl
  i21 := by kernel_rfl
  i37 := by kernel_rfl
  i46 := by kernel_rfl
  i51 := by kernel_rfl
  i53 := by kernel_rfl
  i75 := by kernel_rfl
  i76 := by kernel_rfl
  i80 := by kernel_rfl
  i85 := by kernel_rfl
  i127 := by kernel_rfl
  i143 := by kernel_rfl
  i145 := by kernel_rfl
  i167 := by kernel_rfl
  i168 := by kernel_rfl
  i171 := by kernel_rfl
  i173 := by kernel_rfl
  i175 := by kernel_rfl
  i210 := by kernel_rfl
  i212 := by kernel_rfl
  i232 := by kernel_rfl
  i233 := by kernel_rfl
  m15 := by kernel_rfl
  m16 := by kernel_rfl
  m17 := by kernel_rfl
  m18 := by kernel_rfl
  m19 := by kernel_rfl
  c0 := by kernel_rfl
  c2 := by kernel_rfl
  c3 := by kernel_rfl
  c4 := by kernel_rfl
  c5 := by kernel_rfl
  c9 := by kernel_rfl
  c20 := by kernel_rfl
  c21 := by kernel_rfl
  c37 := by kernel_rfl
  c46 := by kernel_rfl
  c51 := by kernel_rfl
  c53 := by kernel_rfl
  c75 := by kernel_rfl
  c76 := by kernel_rfl
  c80 := by kernel_rfl
  c85 := by kernel_rfl
  c127 := by kernel_rfl
  c143 := by kernel_rfl
  c145 := by kernel_rfl
  c167 := by kernel_rfl
  c168 := by kernel_rfl
  c171 := by kernel_rfl
  c173 := by kernel_rfl
  c175 := by kernel_rfl
  c210 := by kernel_rfl
  c212 := by kernel_rfl
  c213 := by kernel_rfl
  c232 := by kernel_rfl
  c233 := by kernel_rfl }
open Go.RowKit in
theorem Tryz.strconv_Atoi_ok (s : ByteArray) (hmax : s.size ≤ 9223372036854775806) (v : Int) (h : Lib.atoiAll s.data.toList = .ok v) (w : World) :
    Calls Tryz.prog 194 #[.string s] w fun e w' => e = .returned (.tuple #[.int .i64 v, .nilIface]) ∧ (w' = w ∨ ∃ t, w' = Lib.bytesWorld w 5 t) := Any.strconv_Atoi_ok Tryz.laysC172 s hmax v h w
open Go.RowKit in
theorem Tryz.strconv_Atoi_syntax_var (s : ByteArray) (hlim : s.size ≤ 281474976710656) (h : Lib.atoiAll s.data.toList = Lib.atoiAll []) (tp : TypeId) (p : Value) (w : World) (hvar : w.var? Tryz.prog "strconv.ErrSyntax" = some #[.iface tp p]) :
    Calls Tryz.prog 194 #[.string s] w fun e w' => ∃ N, e = .returned (.tuple #[.int .i64 0, .iface 232 (.pointer (some ⟨N, 0, none⟩))]) ∧ w.heap.size ≤ N ∧ w'.heap[N]? = some (.cells #[.string ⟨#[65, 116, 111, 105]⟩, .string s, .iface tp p] 243 (0, 0)) ∧ Below w.heap.size w w' := Any.strconv_Atoi_syntax_var Tryz.laysC172 s hlim (h.trans rfl) tp p w hvar
open Go.RowKit in
theorem Tryz.strconv_Atoi_range_var (s : ByteArray) (hlim : s.size ≤ 281474976710656) (h : Lib.atoiAll s.data.toList = .range) (tp : TypeId) (p : Value) (w : World) (hvar : w.var? Tryz.prog "strconv.ErrRange" = some #[.iface tp p]) :
    Calls Tryz.prog 194 #[.string s] w fun e w' => ∃ N, e = .returned (.tuple #[.int .i64 (Lib.atoiSat s.data.toList), .iface 232 (.pointer (some ⟨N, 0, none⟩))]) ∧ w.heap.size ≤ N ∧ w'.heap[N]? = some (.cells #[.string ⟨#[65, 116, 111, 105]⟩, .string s, .iface tp p] 243 (0, 0)) ∧ Below w.heap.size w w' := Any.strconv_Atoi_range_var Tryz.laysC172 s hlim h tp p w hvar
def Tryz.lays145_ren : Go.Shelf.Ren := ⟨fun | 145 => 186 | 220 => 193 | 219 => 196 | 217 => 200 | 225 => 201 | 224 => 202 | 267 => 203 | 266 => 210 | 314 => 211 | n => n, fun | 9 => 9 | 4 => 4 | 59 => 219 | 3 => 3 | 5 => 5 | 46 => 228 | 146 => 237 | 51 => 236 | n => n, fun | 1 => 0 | n => n⟩
theorem Tryz.lays145 : Go.Proofs.Lays.n145 Tryz.prog Tryz.lays145_ren := {
  mixed := by kernel_rfl
  f145 := Tryz.func186.trans (congrArg some (by kernel_rfl))
  f217 := Tryz.func200.trans (congrArg some (by kernel_rfl))
  f219 := Tryz.func196.trans (congrArg some (by kernel_rfl))
  f220 := Tryz.func193.trans (congrArg some (by kernel_rfl))
  f224 := Tryz.func202.trans (congrArg some (by kernel_rfl))
  f225 := Tryz.func201.trans (congrArg some (by kernel_rfl))
  f266 := Tryz.func210.trans (congrArg some (by kernel_rfl))
  f267 := Tryz.func203.trans (congrArg some (by kernel_rfl))
  f314 := Tryz.func211.trans (congrArg some (by kernel_rfl))
  t3 := Tryz.underlying3
  a3 := Tryz.isAgg3
  z3 := Tryz.sizeOf3
  v3 := Tryz.zeroValue3
  t4 := Tryz.underlying4
  a4 := Tryz.isAgg4
  z4 := Tryz.sizeOf4
  v4 := Tryz.zeroValue4
  t5 := Tryz.underlying5
  a5 := Tryz.isAgg5
  z5 := Tryz.sizeOf5
  v5 := Tryz.zeroValue5
  t9 := Tryz.underlying9
  a9 := Tryz.isAgg9
  z9 := Tryz.sizeOf9
  v9 := Tryz.zeroValue9
  t46 := Tryz.underlying228
  a46 := Tryz.isAgg228
  z46 := Tryz.sizeOf228
  v46 := Tryz.zeroValue228
  t51 := Tryz.underlying236
  a51 := Tryz.isAgg236
  z51 := Tryz.sizeOf236
  v51 := Tryz.zeroValue236
  t59 := Tryz.underlying219
  a59 := Tryz.isAgg219
  z59 := Tryz.sizeOf219
  v59 := Tryz.zeroValue219
  t146 := Tryz.underlying237
  a146 := Tryz.isAgg237
  z146 := Tryz.sizeOf237
  v146 := Tryz.zeroValue237
  g1 := by kernel_rfl }
open Go.RowKit Go.Lib in
theorem Tryz.strings_Cut (s sep : ByteArray) (m : Int) (w : World) (hs : s.size < 4294967281) (hm : w.cell? ⟨0, 0, none⟩ = some (.int .i64 m)) :
    Calls Tryz.prog 186 #[.string s, .string sep] w fun e w' => e = .returned (.tuple #[.string ⟨(Lib.cut s.data.toList sep.data.toList).1.toArray⟩, .string ⟨(Lib.cut s.data.toList sep.data.toList).2.1.toArray⟩, .bool (Lib.cut s.data.toList sep.data.toList).2.2]) ∧ ∃ n, w' = w.drewN n := Any.strings_Cut Tryz.lays145 s sep m w hs hm
end Go.Proofs
namespace Go.Proofs.YtfjbjiklohjodaaGreatDoor.Z
open Go.RowKit Go.Proofs.YtfjbjiklohjodaaGreatDoorW.PrintWords Go.Proofs.YtfjbjiklohjodaaGreatDoorW.PrintLast
set_option linter.unusedVariables false
set_option linter.unusedSimpArgs false
attribute [local go_sem ↓] Go.wp_at_zero Go.wp_at_succ
theorem bytes_append (a b : List UInt8) : (⟨a.toArray⟩ : ByteArray) ++ ⟨b.toArray⟩ = ⟨(a ++ b).toArray⟩ := by
  apply ByteArray.ext
  simp [ByteArray.data_append]
attribute [local go_sem high] bytes_append
theorem dec2_len (n : Nat) : (dec2 n).length ≤ 2 := by unfold dec2; split <;> simp
theorem byte_at_ {w : World} (b : Nat) (n : Nat) (h : n < 10) (hc : w.cell? ⟨b, 0, none⟩ = some (.int .u8 (48 + (n : Int)))) :
    (convert 22 9 (.slice (some ⟨b, 0, none⟩) 1 1)).run Tryz.prog w = .ok (vS [UInt8.ofNat (48 + n)]) w := by
  have h1 := run_convert_bytes_arg (P := Tryz.prog) (w := w) 22 5 Tryz.underlying22 Tryz.underlying5 b 0 1 1 [48 + (n : Int)] rfl (fun i hi => by
    obtain rfl : i = 0 := by simpa using hi
    simpa using hc) 9 Tryz.underlying9
  rw [h1]
  congr 2
theorem one_byte (w : World) (n : Nat) (h : n < 10) :
    (convert 22 9 (.slice (some ⟨w.heap.size, 0, none⟩) 1 1)).run Tryz.prog (w.alloc (.cells #[.int .u8 (48 + (n : Int))] 5)) = .ok (vS [UInt8.ofNat (48 + n)]) (w.alloc (.cells #[.int .u8 (48 + (n : Int))] 5)) := by
  have h1 := run_convert_bytes_arg (P := Tryz.prog) (w := w.alloc (.cells #[.int .u8 (48 + (n : Int))] 5)) 22 5 Tryz.underlying22 Tryz.underlying5 w.heap.size 0 1 1 [48 + (n : Int)] rfl (fun i hi => by
    obtain rfl : i = 0 := by simpa using hi
    simp) 9 Tryz.underlying9
  rw [h1]
  congr 2
set_option maxRecDepth 100000 in
theorem spec_l6Dec1 (n : Nat) (h : n < 10) (w : World) :
    Calls Tryz.prog 165 #[.int .i64 n] w fun r w' => r = .returned (vS (dec2 n)) ∧ Below w.heap.size w w' := by
  have e0 : dec2 n = [UInt8.ofNat (48 + n)] := by unfold dec2; rw [if_pos h]
  have t1 : decide ((n : Int) < -9223372036854775807) = false := decide_eq_false (by omega)
  have t2 : decide ((n : Int) < 0) = false := decide_eq_false (by omega)
  have t3 : decide ((n : Int) < 10) = true := decide_eq_true (by omega)
  have hn : (n : Int) ≤ 9 := by omega
  have hb := one_byte w n h
  obtain ⟨l, hl⟩ : ∃ l, l = [UInt8.ofNat (48 + n)] := ⟨_, rfl⟩
  rw [← hl] at hb e0
  have HE := Aside0.mk e0; clear e0 h hl
  go_enter Tryz.func165, Tryz.ntmps165
  go_wp2
  go_ret
  exact ⟨by rw [HE.out]; rfl, (by repeat (first | (with_reducible exact (Below.refl _ _)) | (with_reducible apply below_alloc) | (with_reducible apply pw_below_drewN) | (with_reducible apply below_drew1) | with_reducible refine below_set ?_ (by first | (with_reducible exact Nat.le_refl _) | (with_reducible assumption) | (simp; done) | omega | (simp; omega))))⟩
set_option maxRecDepth 100000 in
set_option maxHeartbeats 1000000 in
theorem spec_l6Dec (n : Nat) (h : n < 100) (w : World) :
    Calls Tryz.prog 165 #[.int .i64 n] w fun r w' => r = .returned (vS (dec2 n)) ∧ Below w.heap.size w w' := by
  by_cases h10 : n < 10
  · exact spec_l6Dec1 n h10 w
  have e0 : dec2 n = [UInt8.ofNat (48 + n / 10)] ++ [UInt8.ofNat (48 + n % 10)] := by unfold dec2; rw [if_neg h10]; rfl
  have e1 : dec2 (n / 10) = [UInt8.ofNat (48 + n / 10)] := by unfold dec2; rw [if_pos (by omega)]
  have t1 : decide ((n : Int) < -9223372036854775807) = false := decide_eq_false (by omega)
  have t2 : decide ((n : Int) < 0) = false := decide_eq_false (by omega)
  have t3 : decide ((n : Int) < 10) = false := decide_eq_false (by omega)
  obtain ⟨q, hq⟩ : ∃ q, n / 10 = q := ⟨_, rfl⟩
  obtain ⟨m, hm⟩ : ∃ m, n % 10 = m := ⟨_, rfl⟩
  have hq1 : q < 10 := by omega
  have hm1 : m < 10 := by omega
  have v0 : Int.tdiv (n : Int) 10 = (q : Int) := by rw [Int.tdiv_eq_ediv_of_nonneg (by omega)]; omega
  have v1 : Int.tmod (n : Int) 10 = (m : Int) := by rw [Int.tmod_eq_emod_of_nonneg (by omega)]; omega
  have v2 : IntKind.i64.wrap (q : Int) = q := IntWalk.i64_in _ (by omega)
  have v3 : IntKind.i64.wrap (48 + (m : Int)) = 48 + m := IntWalk.i64_in _ (by omega)
  have v4 : IntKind.u8.wrap (48 + (m : Int)) = 48 + m := IntWalk.u8_in _ (by omega)
  rw [hq] at e0 e1
  rw [hm] at e0
  obtain ⟨l, hl⟩ : ∃ l, l = [UInt8.ofNat (48 + m)] := ⟨_, rfl⟩
  rw [← e1, ← hl] at e0
  have HQ := Aside0.mk e0; clear e0 e1 h h10 hq hm
  have HB := Aside0.mk (fun (w : World) => one_byte w m hm1)
  rw [← hl] at HB
  have hcat : ¬ (9223372036854775807 < (dec2 q).length + l.length) := by have := dec2_len q; rw [hl]; simp; omega
  have HL := Aside0.mk hl; clear hl
  go_enter Tryz.func165, Tryz.ntmps165
  go_wp2_with fail
  refine lin_start (fun _ => True) (true, [([], []), ([0], [0]), ([1], [1]), ([], []), ([3], [3]), ([4], [4]), ([5], [5]), ([6], [6]), ([7], [7]), ([2, 8], [2, 8]), ([9, 2, 0, 1, 2, 3, 4, 5, 6, 7, 8, 9], [9])]) [0, 1, 3, 4, 5, 6, 2, 7, 8, 9, 10] (by kernel_rfl) (by kernel_rfl) (by kernel_rfl) trivial ?_
  repeat (first | (refine lin_take rfl rfl (by kernel_rfl) (fun _ _ _ h => h) (by rfl) (v := ?_) (a' := ?_) ?_ ?_ ?_; rotate_left 2; (intro w' _; go_simp; with_reducible rfl); (simp only [List.getElem_toArray, List.getElem_cons_zero, List.getElem_cons_succ, Act.put, List.setIfInBounds_toArray, List.set_cons_zero, List.set_cons_succ]; rfl)) | (refine lin_off rfl rfl (by kernel_rfl) (fun _ _ _ h => h) (by rfl) (a' := ?_) ?_ ?_; rotate_left 1; (simp only [List.getElem_toArray, List.getElem_cons_zero, List.getElem_cons_succ, Act.put, List.setIfInBounds_toArray, List.set_cons_zero, List.set_cons_succ]; rfl)))
  refine lin_two (j := 7) (rest' := [2, 8, 9, 10]) rfl rfl rfl rfl (by kernel_rfl) rfl ?_ ?_
  · intro _ K hK
    refine step_call (by rfl) rfl rfl Tryz.func165 (by kernel_rfl) (by kernel_rfl) (args := #[.int .i64 q]) (by (try simp only [List.map_toArray, List.map_cons, List.map_nil]); first | done | rfl) ?_
    refine (spec_l6Dec1 q hq1 _).mono ?_
    rintro e w1 ⟨rfl, hb1⟩
    refine ⟨_, rfl, hK.out _ _ trivial ?_⟩
    refine lin_norm (a' := ?_) ?_ ?_; rotate_left 1; (simp only [List.getElem_toArray, List.getElem_cons_zero, List.getElem_cons_succ, Act.put, List.setIfInBounds_toArray, List.set_cons_zero, List.set_cons_succ]; rfl)
    refine lin_event (v := .slice (some ⟨w1.heap.size, 0, none⟩) 1 1) (w1 := w1.alloc (.cells #[.int .u8 (48 + (m : Int))] 5)) (a' := ?_) rfl rfl (by kernel_rfl) (by rfl) (fun hS => ?_) (fun hS => trivial) ?_ ?_; rotate_left 1; (focus (first | (go_simp; done) | (go_simp; rfl))); (focus (first | (simp only [List.getElem_toArray, List.getElem_cons_zero, List.getElem_cons_succ, Act.put, List.setIfInBounds_toArray, List.set_cons_zero, List.set_cons_succ]; done) | (simp only [List.getElem_toArray, List.getElem_cons_zero, List.getElem_cons_succ, Act.put, List.setIfInBounds_toArray, List.set_cons_zero, List.set_cons_succ]; rfl)))
    refine lin_event (v := vS l) (w1 := w1.alloc (.cells #[.int .u8 (48 + (m : Int))] 5)) (a' := ?_) rfl rfl (by kernel_rfl) (by rfl) (fun hS => ?_) (fun hS => trivial) ?_ ?_; rotate_left 1; (focus (have h1 := HB.out w1; go_simp)); (focus (first | (simp only [List.getElem_toArray, List.getElem_cons_zero, List.getElem_cons_succ, Act.put, List.setIfInBounds_toArray, List.set_cons_zero, List.set_cons_succ]; done) | (simp only [List.getElem_toArray, List.getElem_cons_zero, List.getElem_cons_succ, Act.put, List.setIfInBounds_toArray, List.set_cons_zero, List.set_cons_succ]; rfl)))
    repeat (first | (refine lin_take rfl rfl (by kernel_rfl) (fun _ _ _ h => h) (by rfl) (v := ?_) (a' := ?_) ?_ ?_ ?_; rotate_left 2; (intro w' _; go_simp; with_reducible rfl); (simp only [List.getElem_toArray, List.getElem_cons_zero, List.getElem_cons_succ, Act.put, List.setIfInBounds_toArray, List.set_cons_zero, List.set_cons_succ]; rfl)) | (refine lin_off rfl rfl (by kernel_rfl) (fun _ _ _ h => h) (by rfl) (a' := ?_) ?_ ?_; rotate_left 1; (simp only [List.getElem_toArray, List.getElem_cons_zero, List.getElem_cons_succ, Act.put, List.setIfInBounds_toArray, List.set_cons_zero, List.set_cons_succ]; rfl)))
    refine lin_done (by kernel_rfl) ?_
    clear hK
    go_wp2
    go_ret
    exact ⟨by rw [HQ.out]; rfl, below_alloc (below_step ((below_drew (Below.refl _ _))) hb1) _⟩
  · intro _ K hK
    refine step_value (v := .slice (some ⟨w.heap.size, 0, none⟩) 1 1) (w1 := w.drew.alloc (.cells #[.int .u8 (48 + (m : Int))] 5)) (by rfl) rfl ?_ ?_
    · first | (go_simp; done) | (go_simp; rfl)
    refine hK.out _ _ trivial ?_
    clear hK
    refine lin_norm (a' := ?_) ?_ ?_; rotate_left 1; (simp only [List.getElem_toArray, List.getElem_cons_zero, List.getElem_cons_succ, Act.put, List.setIfInBounds_toArray, List.set_cons_zero, List.set_cons_succ]; rfl)
    refine lin_two (j := 8) (rest' := [2, 9, 10]) rfl rfl rfl rfl (by kernel_rfl) rfl ?_ ?_
    · intro _ K hK
      refine step_call (by rfl) rfl rfl Tryz.func165 (by kernel_rfl) (by kernel_rfl) (args := #[.int .i64 q]) (by (try simp only [List.map_toArray, List.map_cons, List.map_nil]); first | done | rfl) ?_
      refine (spec_l6Dec1 q hq1 _).mono ?_
      rintro e w1 ⟨rfl, hb1⟩
      refine ⟨_, rfl, hK.out _ _ trivial ?_⟩
      refine lin_norm (a' := ?_) ?_ ?_; rotate_left 1; (simp only [List.getElem_toArray, List.getElem_cons_zero, List.getElem_cons_succ, Act.put, List.setIfInBounds_toArray, List.set_cons_zero, List.set_cons_succ]; rfl)
      have hz := hb1.size
      have hcv : (convert 22 9 (.slice (some ⟨w.heap.size, 0, none⟩) 1 1)).run Tryz.prog w1 = .ok (vS l) w1 := by
        rw [HL.out]
        exact byte_at_ w.heap.size m hm1 ((hb1.cell (p := ⟨w.heap.size, 0, none⟩) (by show w.heap.size < (w.alloc _).heap.size; simp)).trans ((blk_cell (heap_alloc_new w.drew (.cells #[.int .u8 (48 + (m : Int))] 5)) 0).trans rfl))
      refine lin_event (v := vS l) (w1 := w1) (a' := ?_) rfl rfl (by kernel_rfl) (by rfl) (fun hS => ?_) (fun hS => trivial) ?_ ?_; rotate_left 1; (focus (go_simp)); (focus (first | (simp only [List.getElem_toArray, List.getElem_cons_zero, List.getElem_cons_succ, Act.put, List.setIfInBounds_toArray, List.set_cons_zero, List.set_cons_succ]; done) | (simp only [List.getElem_toArray, List.getElem_cons_zero, List.getElem_cons_succ, Act.put, List.setIfInBounds_toArray, List.set_cons_zero, List.set_cons_succ]; rfl)))
      repeat (first | (refine lin_take rfl rfl (by kernel_rfl) (fun _ _ _ h => h) (by rfl) (v := ?_) (a' := ?_) ?_ ?_ ?_; rotate_left 2; (intro w' _; go_simp; with_reducible rfl); (simp only [List.getElem_toArray, List.getElem_cons_zero, List.getElem_cons_succ, Act.put, List.setIfInBounds_toArray, List.set_cons_zero, List.set_cons_succ]; rfl)) | (refine lin_off rfl rfl (by kernel_rfl) (fun _ _ _ h => h) (by rfl) (a' := ?_) ?_ ?_; rotate_left 1; (simp only [List.getElem_toArray, List.getElem_cons_zero, List.getElem_cons_succ, Act.put, List.setIfInBounds_toArray, List.set_cons_zero, List.set_cons_succ]; rfl)))
      refine lin_done (by kernel_rfl) ?_
      clear hK
      go_wp2
      go_ret
      exact ⟨by rw [HQ.out]; rfl, below_step (below_alloc (below_drew (Below.refl _ _)) _) hb1⟩
    · intro _ K hK
      refine step_value (v := vS l) (w1 := w.drew.alloc (.cells #[.int .u8 (48 + (m : Int))] 5)) (by rfl) rfl ?_ ?_
      · have h1 := byte_at_ (w := (w.alloc (.cells #[.int .u8 (48 + (m : Int))] 5)).drew) w.heap.size m hm1 (by simp)
        rw [← HL.out] at h1
        go_simp
      refine hK.out _ _ trivial ?_
      clear hK
      refine lin_norm (a' := ?_) ?_ ?_; rotate_left 1; (simp only [List.getElem_toArray, List.getElem_cons_zero, List.getElem_cons_succ, Act.put, List.setIfInBounds_toArray, List.set_cons_zero, List.set_cons_succ]; rfl)
      refine lin_call rfl rfl rfl Tryz.func165 (by kernel_rfl) (by kernel_rfl) rfl (by rfl) (args := #[.int .i64 q]) (by (try simp only [List.map_toArray, List.map_cons, List.map_nil]); first | done | rfl) (fun hS => ?_)
      refine (spec_l6Dec1 q hq1 _).mono ?_
      rintro e w1 ⟨rfl, hb1⟩
      refine ⟨_, rfl, trivial, ?_⟩
      refine lin_norm (a' := ?_) ?_ ?_; rotate_left 1; (simp only [List.getElem_toArray, List.getElem_cons_zero, List.getElem_cons_succ, Act.put, List.setIfInBounds_toArray, List.set_cons_zero, List.set_cons_succ]; rfl)
      repeat (first | (refine lin_take rfl rfl (by kernel_rfl) (fun _ _ _ h => h) (by rfl) (v := ?_) (a' := ?_) ?_ ?_ ?_; rotate_left 2; (intro w' _; go_simp; with_reducible rfl); (simp only [List.getElem_toArray, List.getElem_cons_zero, List.getElem_cons_succ, Act.put, List.setIfInBounds_toArray, List.set_cons_zero, List.set_cons_succ]; rfl)) | (refine lin_off rfl rfl (by kernel_rfl) (fun _ _ _ h => h) (by rfl) (a' := ?_) ?_ ?_; rotate_left 1; (simp only [List.getElem_toArray, List.getElem_cons_zero, List.getElem_cons_succ, Act.put, List.setIfInBounds_toArray, List.set_cons_zero, List.set_cons_succ]; rfl)))
      refine lin_done (by kernel_rfl) ?_
      go_wp2
      go_ret
      exact ⟨by rw [HQ.out]; rfl, below_step (below_alloc (below_drew (Below.refl _ _)) _) hb1⟩
theorem endText_len (e : En) : (endText e).length ≤ 5 := by
  unfold endText
  split
  · have := dec2_len e.addr.toNat
    have := dec2_len e.port.toNat
    simp; omega
  · simp
theorem any_range {e : En} (h : anyB e = true) : 0 ≤ e.addr ∧ e.addr < 100 ∧ 0 ≤ e.port ∧ e.port < 100 := by
  simp only [anyB, insideB, outsideB, doorB, inB, Bool.or_eq_true, Bool.and_eq_true, decide_eq_true_eq, beq_iff_eq] at h
  omega
set_option maxHeartbeats 1000000 in
theorem spec_EndText (e : En) (w : World) :
    Calls Tryz.prog 118 #[vEn e] w fun r w' => r = .returned (vS (endText e)) ∧ Below w.heap.size w w' := by
  cases h : anyB e
  · have e0 : endText e = [] := by unfold endText; rw [h]; rfl
    have H := Aside0.mk h; clear h
    have E := Aside0.mk e0; clear e0
    go_enter Tryz.func118, Tryz.ntmps118
    go_wp2_with (go_at_call 143; refine (spec_l1Any e _).mono ?_; rintro r w1 ⟨rfl, hb1⟩; rw [H.out]; obtain ⟨hb1c, hb1f, hb1z⟩ := bcell hb1; (try simp at hb1z); (try have hb10 : w.heap.size < w1.heap.size := by omega); (try have hb11 : w.heap.size + 1 < w1.heap.size := by omega); (try have hb12 : w.heap.size + 2 < w1.heap.size := by omega))
    go_ret
    exact ⟨by rw [E.out]; rfl, below_step (by repeat (first | (with_reducible exact (Below.refl _ _)) | (with_reducible apply below_alloc) | (with_reducible apply pw_below_drewN) | (with_reducible apply below_drew1) | with_reducible refine below_set ?_ (by first | (with_reducible exact Nat.le_refl _) | (with_reducible assumption) | (simp; done) | omega | (simp; omega)))) hb1⟩
  · obtain ⟨a0, a1, p0, p1⟩ := any_range h
    obtain ⟨a, ha⟩ : ∃ a : Nat, e.addr = a := ⟨e.addr.toNat, by omega⟩
    obtain ⟨p, hp⟩ : ∃ p : Nat, e.port = p := ⟨e.port.toNat, by omega⟩
    have e0 : endText e = dec2 a ++ 58 :: dec2 p := by unfold endText; rw [h, ha, hp]; simp
    obtain ⟨x, y⟩ := e
    obtain rfl : x = a := ha
    obtain rfl : y = p := hp
    have H := Aside0.mk h; clear h
    have E := Aside0.mk e0; clear e0
    have l1 := dec2_len a
    have l2 := dec2_len p
    have hc1 : ¬ (9223372036854775807 < (dec2 a).length + 1) := by omega
    have hc2 : ¬ (9223372036854775807 < (dec2 a).length + 1 + (dec2 p).length) := by omega
    have hc3 : ¬ (9223372036854775807 < (dec2 a ++ [58]).length + (dec2 p).length) := by simp; omega
    have bk := heap_alloc_new w (.cells #[.int .i64 (a : Int), .int .i64 (p : Int)] 62)
    go_enter Tryz.func118, Tryz.ntmps118
    go_wp2_with (go_at_call 143; refine (spec_l1Any ⟨a, p⟩ _).mono ?_; rintro r w1 ⟨rfl, hb1⟩; rw [H.out]; obtain ⟨hb1c, hb1f, hb1z⟩ := bcell hb1; (try simp at hb1z); (try have hb10 : w.heap.size < w1.heap.size := by omega); (try have hb11 : w.heap.size + 1 < w1.heap.size := by omega); (try have hb12 : w.heap.size + 2 < w1.heap.size := by omega))
    replace bk := (hb1.block _ (by simp)).trans bk
    have c0 : w1.cell? ⟨w.heap.size, 0, none⟩ = some (.int .i64 (a : Int)) := (blk_cell bk 0).trans rfl
    have c1 : w1.cell? ⟨w.heap.size, 1, none⟩ = some (.int .i64 (p : Int)) := (blk_cell bk 1).trans rfl
    refine lin_start (fun w' => w'.cell? ⟨w.heap.size, 0, none⟩ = some (.int .i64 (a : Int)) ∧ w'.cell? ⟨w.heap.size, 1, none⟩ = some (.int .i64 (p : Int))) (true, [([], []), ([0], [0]), ([1], [1]), ([2], [2]), ([], []), ([4], [4]), ([5, 2], [5]), ([3, 6], [3, 6]), ([7, 6, 0, 1, 2, 3, 4, 5, 6, 7], [7])]) [0, 1, 4, 5, 2, 3, 6, 7, 8] (by kernel_rfl) (by kernel_rfl) (by kernel_rfl) ⟨c0, c1⟩ ?_
    repeat (first | (refine lin_take rfl rfl (by kernel_rfl) (fun _ _ _ h => h) (by rfl) (v := ?_) (a' := ?_) ?_ ?_ ?_; rotate_left 2; (rintro w' ⟨s0, s1⟩; go_simp; with_reducible rfl); (simp only [List.getElem_toArray, List.getElem_cons_zero, List.getElem_cons_succ, Act.put, List.setIfInBounds_toArray, List.set_cons_zero, List.set_cons_succ]; rfl)) | (refine lin_off rfl rfl (by kernel_rfl) (fun _ _ _ h => h) (by rfl) (a' := ?_) ?_ ?_; rotate_left 1; (simp only [List.getElem_toArray, List.getElem_cons_zero, List.getElem_cons_succ, Act.put, List.setIfInBounds_toArray, List.set_cons_zero, List.set_cons_succ]; rfl)))
    refine lin_call rfl rfl rfl Tryz.func165 (by kernel_rfl) (by kernel_rfl) rfl (by rfl) (args := #[.int .i64 a]) (by (try simp only [List.map_toArray, List.map_cons, List.map_nil]); first | done | rfl) (fun hS => ?_)
    refine (spec_l6Dec a (by omega) _).mono ?_
    rintro r w2 ⟨rfl, hb2⟩
    have hz2 := hb2.size
    refine ⟨_, rfl, ?_, ?_⟩
    · first | exact (hb2.cell (by first | exact hb10)).trans hS | (obtain ⟨s0, s1⟩ := hS; exact ⟨(hb2.cell (by first | exact hb10)).trans s0, (hb2.cell (by first | exact hb10)).trans s1⟩)
    refine lin_norm (a' := ?_) ?_ ?_; rotate_left 1; (simp only [List.getElem_toArray, List.getElem_cons_zero, List.getElem_cons_succ, Act.put, List.setIfInBounds_toArray, List.set_cons_zero, List.set_cons_succ]; rfl)
    repeat (first | (refine lin_take rfl rfl (by kernel_rfl) (fun _ _ _ h => h) (by rfl) (v := ?_) (a' := ?_) ?_ ?_ ?_; rotate_left 2; (rintro w' ⟨s0, s1⟩; go_simp; with_reducible rfl); (simp only [List.getElem_toArray, List.getElem_cons_zero, List.getElem_cons_succ, Act.put, List.setIfInBounds_toArray, List.set_cons_zero, List.set_cons_succ]; rfl)) | (refine lin_off rfl rfl (by kernel_rfl) (fun _ _ _ h => h) (by rfl) (a' := ?_) ?_ ?_; rotate_left 1; (simp only [List.getElem_toArray, List.getElem_cons_zero, List.getElem_cons_succ, Act.put, List.setIfInBounds_toArray, List.set_cons_zero, List.set_cons_succ]; rfl)))
    refine lin_call rfl rfl rfl Tryz.func165 (by kernel_rfl) (by kernel_rfl) rfl (by rfl) (args := #[.int .i64 p]) (by (try simp only [List.map_toArray, List.map_cons, List.map_nil]); first | done | rfl) (fun hS => ?_)
    refine (spec_l6Dec p (by omega) _).mono ?_
    rintro r w3 ⟨rfl, hb3⟩
    refine ⟨_, rfl, ?_, ?_⟩
    · first | exact (hb3.cell (by first | exact Nat.lt_of_lt_of_le hb10 hz2)).trans hS | (obtain ⟨s0, s1⟩ := hS; exact ⟨(hb3.cell (by first | exact Nat.lt_of_lt_of_le hb10 hz2)).trans s0, (hb3.cell (by first | exact Nat.lt_of_lt_of_le hb10 hz2)).trans s1⟩)
    refine lin_norm (a' := ?_) ?_ ?_; rotate_left 1; (simp only [List.getElem_toArray, List.getElem_cons_zero, List.getElem_cons_succ, Act.put, List.setIfInBounds_toArray, List.set_cons_zero, List.set_cons_succ]; rfl)
    repeat (first | (refine lin_take rfl rfl (by kernel_rfl) (fun _ _ _ h => h) (by rfl) (v := ?_) (a' := ?_) ?_ ?_ ?_; rotate_left 2; (rintro w' ⟨s0, s1⟩; go_simp; with_reducible rfl); (simp only [List.getElem_toArray, List.getElem_cons_zero, List.getElem_cons_succ, Act.put, List.setIfInBounds_toArray, List.set_cons_zero, List.set_cons_succ]; rfl)) | (refine lin_off rfl rfl (by kernel_rfl) (fun _ _ _ h => h) (by rfl) (a' := ?_) ?_ ?_; rotate_left 1; (simp only [List.getElem_toArray, List.getElem_cons_zero, List.getElem_cons_succ, Act.put, List.setIfInBounds_toArray, List.set_cons_zero, List.set_cons_succ]; rfl)))
    refine lin_done (by kernel_rfl) ?_
    go_wp2
    go_ret
    exact ⟨by rw [E.out]; rfl, below_step (below_step (below_drew (below_step (by repeat (first | (with_reducible exact (Below.refl _ _)) | (with_reducible apply below_alloc) | (with_reducible apply pw_below_drewN) | (with_reducible apply below_drew1) | with_reducible refine below_set ?_ (by first | (with_reducible exact Nat.le_refl _) | (with_reducible assumption) | (simp; done) | omega | (simp; omega)))) hb1)) hb2) hb3⟩
theorem itoa_small (n : Nat) (h : n < 100) (w : World) : Calls Tryz.prog 195 #[.int .i64 n] w fun r w' => r = .returned (vS (dec2 n)) ∧ Below w.heap.size w w' := by
  refine (Tryz.strconv_Itoa_small n h w).mono ?_
  rintro r w' ⟨rfl, rfl⟩
  rw [dec2_eq n h]
  exact ⟨rfl, Below.refl _ _⟩
set_option maxHeartbeats 1000000 in
theorem impl_EndText (e : En) (w : World) :
    Calls Tryz.prog 188 #[vEn e] w fun r w' => r = .returned (vS (endText e)) ∧ Below w.heap.size w w' := by
  cases h : anyB e
  · have e0 : endText e = [] := by unfold endText; rw [h]; rfl
    have H := Aside0.mk h; clear h
    have E := Aside0.mk e0; clear e0
    go_enter Tryz.func188, Tryz.ntmps188
    go_wp2_with (go_at_call 146; refine (impl_any e _).mono ?_; rintro r w1 ⟨rfl, hb1⟩; rw [H.out]; obtain ⟨hb1c, hb1f, hb1z⟩ := bcell hb1; (try simp at hb1z); (try have hb10 : w.heap.size < w1.heap.size := by omega); (try have hb11 : w.heap.size + 1 < w1.heap.size := by omega); (try have hb12 : w.heap.size + 2 < w1.heap.size := by omega))
    go_ret
    exact ⟨by rw [E.out]; rfl, below_step (by repeat (first | (with_reducible exact (Below.refl _ _)) | (with_reducible apply below_alloc) | (with_reducible apply pw_below_drewN) | (with_reducible apply below_drew1) | with_reducible refine below_set ?_ (by first | (with_reducible exact Nat.le_refl _) | (with_reducible assumption) | (simp; done) | omega | (simp; omega)))) hb1⟩
  · obtain ⟨a0, a1, p0, p1⟩ := any_range h
    obtain ⟨a, ha⟩ : ∃ a : Nat, e.addr = a := ⟨e.addr.toNat, by omega⟩
    obtain ⟨p, hp⟩ : ∃ p : Nat, e.port = p := ⟨e.port.toNat, by omega⟩
    have e0 : endText e = dec2 a ++ 58 :: dec2 p := by unfold endText; rw [h, ha, hp]; simp
    obtain ⟨x, y⟩ := e
    obtain rfl : x = a := ha
    obtain rfl : y = p := hp
    have H := Aside0.mk h; clear h
    have E := Aside0.mk e0; clear e0
    have l1 := dec2_len a
    have l2 := dec2_len p
    have hc1 : ¬ (9223372036854775807 < (dec2 a).length + 1) := by omega
    have hc2 : ¬ (9223372036854775807 < (dec2 a).length + 1 + (dec2 p).length) := by omega
    have hc3 : ¬ (9223372036854775807 < (dec2 a ++ [58]).length + (dec2 p).length) := by simp; omega
    have bk := heap_alloc_new w (.cells #[.int .i64 (a : Int), .int .i64 (p : Int)] 62)
    go_enter Tryz.func188, Tryz.ntmps188
    go_wp2_with (go_at_call 146; refine (impl_any ⟨a, p⟩ _).mono ?_; rintro r w1 ⟨rfl, hb1⟩; rw [H.out]; obtain ⟨hb1c, hb1f, hb1z⟩ := bcell hb1; (try simp at hb1z); (try have hb10 : w.heap.size < w1.heap.size := by omega); (try have hb11 : w.heap.size + 1 < w1.heap.size := by omega); (try have hb12 : w.heap.size + 2 < w1.heap.size := by omega))
    replace bk := (hb1.block _ (by simp)).trans bk
    have c0 : w1.cell? ⟨w.heap.size, 0, none⟩ = some (.int .i64 (a : Int)) := (blk_cell bk 0).trans rfl
    have c1 : w1.cell? ⟨w.heap.size, 1, none⟩ = some (.int .i64 (p : Int)) := (blk_cell bk 1).trans rfl
    refine lin_start (fun w' => w'.cell? ⟨w.heap.size, 0, none⟩ = some (.int .i64 (a : Int)) ∧ w'.cell? ⟨w.heap.size, 1, none⟩ = some (.int .i64 (p : Int))) (true, [([], []), ([0], [0]), ([1], [1]), ([2], [2]), ([], []), ([4], [4]), ([5, 2], [5]), ([3, 6], [3, 6]), ([7, 6, 0, 1, 2, 3, 4, 5, 6, 7], [7])]) [0, 1, 4, 5, 2, 3, 6, 7, 8] (by kernel_rfl) (by kernel_rfl) (by kernel_rfl) ⟨c0, c1⟩ ?_
    repeat (first | (refine lin_take rfl rfl (by kernel_rfl) (fun _ _ _ h => h) (by rfl) (v := ?_) (a' := ?_) ?_ ?_ ?_; rotate_left 2; (rintro w' ⟨s0, s1⟩; go_simp; with_reducible rfl); (simp only [List.getElem_toArray, List.getElem_cons_zero, List.getElem_cons_succ, Act.put, List.setIfInBounds_toArray, List.set_cons_zero, List.set_cons_succ]; rfl)) | (refine lin_off rfl rfl (by kernel_rfl) (fun _ _ _ h => h) (by rfl) (a' := ?_) ?_ ?_; rotate_left 1; (simp only [List.getElem_toArray, List.getElem_cons_zero, List.getElem_cons_succ, Act.put, List.setIfInBounds_toArray, List.set_cons_zero, List.set_cons_succ]; rfl)))
    refine lin_call rfl rfl rfl Tryz.func195 (by kernel_rfl) (by kernel_rfl) rfl (by rfl) (args := #[.int .i64 a]) (by (try simp only [List.map_toArray, List.map_cons, List.map_nil]); first | done | rfl) (fun hS => ?_)
    refine (itoa_small a (by omega) _).mono ?_
    rintro r w2 ⟨rfl, hb2⟩
    have hz2 := hb2.size
    refine ⟨_, rfl, ?_, ?_⟩
    · first | exact (hb2.cell (by first | exact hb10)).trans hS | (obtain ⟨s0, s1⟩ := hS; exact ⟨(hb2.cell (by first | exact hb10)).trans s0, (hb2.cell (by first | exact hb10)).trans s1⟩)
    refine lin_norm (a' := ?_) ?_ ?_; rotate_left 1; (simp only [List.getElem_toArray, List.getElem_cons_zero, List.getElem_cons_succ, Act.put, List.setIfInBounds_toArray, List.set_cons_zero, List.set_cons_succ]; rfl)
    repeat (first | (refine lin_take rfl rfl (by kernel_rfl) (fun _ _ _ h => h) (by rfl) (v := ?_) (a' := ?_) ?_ ?_ ?_; rotate_left 2; (rintro w' ⟨s0, s1⟩; go_simp; with_reducible rfl); (simp only [List.getElem_toArray, List.getElem_cons_zero, List.getElem_cons_succ, Act.put, List.setIfInBounds_toArray, List.set_cons_zero, List.set_cons_succ]; rfl)) | (refine lin_off rfl rfl (by kernel_rfl) (fun _ _ _ h => h) (by rfl) (a' := ?_) ?_ ?_; rotate_left 1; (simp only [List.getElem_toArray, List.getElem_cons_zero, List.getElem_cons_succ, Act.put, List.setIfInBounds_toArray, List.set_cons_zero, List.set_cons_succ]; rfl)))
    refine lin_call rfl rfl rfl Tryz.func195 (by kernel_rfl) (by kernel_rfl) rfl (by rfl) (args := #[.int .i64 p]) (by (try simp only [List.map_toArray, List.map_cons, List.map_nil]); first | done | rfl) (fun hS => ?_)
    refine (itoa_small p (by omega) _).mono ?_
    rintro r w3 ⟨rfl, hb3⟩
    refine ⟨_, rfl, ?_, ?_⟩
    · first | exact (hb3.cell (by first | exact Nat.lt_of_lt_of_le hb10 hz2)).trans hS | (obtain ⟨s0, s1⟩ := hS; exact ⟨(hb3.cell (by first | exact Nat.lt_of_lt_of_le hb10 hz2)).trans s0, (hb3.cell (by first | exact Nat.lt_of_lt_of_le hb10 hz2)).trans s1⟩)
    refine lin_norm (a' := ?_) ?_ ?_; rotate_left 1; (simp only [List.getElem_toArray, List.getElem_cons_zero, List.getElem_cons_succ, Act.put, List.setIfInBounds_toArray, List.set_cons_zero, List.set_cons_succ]; rfl)
    repeat (first | (refine lin_take rfl rfl (by kernel_rfl) (fun _ _ _ h => h) (by rfl) (v := ?_) (a' := ?_) ?_ ?_ ?_; rotate_left 2; (rintro w' ⟨s0, s1⟩; go_simp; with_reducible rfl); (simp only [List.getElem_toArray, List.getElem_cons_zero, List.getElem_cons_succ, Act.put, List.setIfInBounds_toArray, List.set_cons_zero, List.set_cons_succ]; rfl)) | (refine lin_off rfl rfl (by kernel_rfl) (fun _ _ _ h => h) (by rfl) (a' := ?_) ?_ ?_; rotate_left 1; (simp only [List.getElem_toArray, List.getElem_cons_zero, List.getElem_cons_succ, Act.put, List.setIfInBounds_toArray, List.set_cons_zero, List.set_cons_succ]; rfl)))
    refine lin_done (by kernel_rfl) ?_
    go_wp2
    go_ret
    exact ⟨by rw [E.out]; rfl, below_step (below_step (below_drew (below_step (by repeat (first | (with_reducible exact (Below.refl _ _)) | (with_reducible apply below_alloc) | (with_reducible apply pw_below_drewN) | (with_reducible apply below_drew1) | with_reducible refine below_set ?_ (by first | (with_reducible exact Nat.le_refl _) | (with_reducible assumption) | (simp; done) | omega | (simp; omega)))) hb1)) hb2) hb3⟩
end Go.Proofs.YtfjbjiklohjodaaGreatDoor.Z
namespace Go.Proofs.YtfjbjiklohjodaaGreatDoor.Q
open Go.RowKit Go.Proofs.YtfjbjiklohjodaaGreatDoorW.PrintWords Go.Proofs.YtfjbjiklohjodaaGreatDoor.Z
set_option linter.unusedVariables false
set_option linter.unusedSimpArgs false
def spec_EndText.f (a0_0 : Int) (a0_1 : Int) : Option ByteArray := some ⟨(endText ⟨a0_0, a0_1⟩).toArray⟩
theorem spec_EndText.calls (a0_0 : Int) (a0_1 : Int) (r : ByteArray) (w : World) (h : spec_EndText.f a0_0 a0_1 = some r) :
    Calls Tryz.prog 118 #[.agg #[.int .i64 a0_0, .int .i64 a0_1]] w fun e w' => e = .returned (.string r) ∧ Below w.heap.size w w' := by
  obtain rfl := Option.some.inj h
  exact spec_EndText ⟨a0_0, a0_1⟩ w
end Go.Proofs.YtfjbjiklohjodaaGreatDoor.Q
namespace Go.Proofs.YtfjbjiklohjodaaGreatDoor.Z
open Go.RowKit Go.Proofs.YtfjbjiklohjodaaGreatDoorW.PrintWords Go.Proofs.YtfjbjiklohjodaaGreatDoorW.PrintLast
set_option linter.unusedVariables false
set_option linter.unusedSimpArgs false
attribute [local go_sem ↓] Go.wp_at_zero Go.wp_at_succ
attribute [local go_sem high] bytes_append
def Vars (w : World) : Prop := (∃ m, w.cell? ⟨0, 0, none⟩ = some (.int .i64 m)) ∧ (∃ tp p, w.var? Tryz.prog "strconv.ErrSyntax" = some #[.iface tp p]) ∧ (∃ tp p, w.var? Tryz.prog "strconv.ErrRange" = some #[.iface tp p])
def gTop : Nat := max 0 (max 1 2) + 1
theorem gSyntax : Tryz.prog.globalNamed "strconv.ErrSyntax" = some 1 := by kernel_rfl
theorem gRange : Tryz.prog.globalNamed "strconv.ErrRange" = some 2 := by kernel_rfl
theorem Vars.below {w w' : World} {B : Nat} (h : Vars w) (hb : Below B w w') (hB : gTop ≤ B) : Vars w' := by
  unfold gTop at hB
  obtain ⟨⟨m, h1⟩, ⟨tp, p, h2⟩, ⟨tp2, p2, h3⟩⟩ := h
  exact ⟨⟨m, (hb.cell (p := ⟨0, 0, none⟩) (by show 0 < B; omega)).trans h1⟩, ⟨tp, p, var?_below hb gSyntax (by omega) h2⟩, ⟨tp2, p2, var?_below hb gRange (by omega) h3⟩⟩
def VarsIn (w : World) : Prop := Vars w ∧ gTop ≤ w.heap.size
theorem VarsIn.below {w w' : World} {B : Nat} (h : VarsIn w) (hb : Below B w w') (hB : gTop ≤ B) : VarsIn w' := ⟨h.1.below hb hB, Nat.le_trans h.2 hb.size⟩
theorem VarsIn.next {w w' : World} (h : VarsIn w) (hb : Below w.heap.size w w') : VarsIn w' := h.below hb h.2
theorem parse_text : ∀ e ∈ allEnds, Go.Lib.cut (endText e) [58] = (dec2 e.addr.toNat, dec2 e.port.toNat, true) ∧ Go.Lib.atoiAll (dec2 e.addr.toNat) = .ok e.addr ∧ Go.Lib.atoiAll (dec2 e.port.toNat) = .ok e.port := by decide +kernel
theorem atoi (l : List UInt8) (hl : l.length ≤ 100000000) (w : World) (hv : VarsIn w) :
    Calls Tryz.prog 194 #[vS l] w fun r w' => ∃ x ev, r = .returned (.tuple #[.int .i64 x, ev]) ∧ ((Go.Lib.atoiAll l = .ok x ∧ ev = .nilIface) ∨ ((∀ v, Go.Lib.atoiAll l ≠ .ok v) ∧ ∃ t p, ev = .iface t p)) ∧ Below w.heap.size w w' := by
  obtain ⟨⟨_, ⟨tp, p, h2⟩, ⟨tp2, p2, h3⟩⟩, _⟩ := hv
  have hs : (⟨l.toArray⟩ : ByteArray).size = l.length := rfl
  cases h : Go.Lib.atoiAll l
  case ok v =>
    refine (Tryz.strconv_Atoi_ok ⟨l.toArray⟩ (by rw [hs]; omega) v h w).mono ?_
    rintro r w' ⟨rfl, hw⟩
    refine ⟨v, .nilIface, rfl, .inl ⟨rfl, rfl⟩, ?_⟩
    rcases hw with rfl | ⟨t, rfl⟩
    · exact Below.refl _ _
    · exact Go.Lib.bytesWorld_below w _ _
  · refine (Tryz.strconv_Atoi_syntax_var ⟨l.toArray⟩ (by rw [hs]; omega) h tp p w h2).mono ?_
    rintro r w' ⟨N, rfl, _, _, hb⟩
    exact ⟨_, _, rfl, .inr ⟨fun v e => (by cases e), _, _, rfl⟩, hb⟩
  case range =>
    refine (Tryz.strconv_Atoi_range_var ⟨l.toArray⟩ (by rw [hs]; omega) h tp2 p2 w h3).mono ?_
    rintro r w' ⟨N, rfl, _, _, hb⟩
    exact ⟨_, _, rfl, .inr ⟨fun v e => (by cases e), _, _, rfl⟩, hb⟩
theorem endRead_fail {l : List UInt8} (h : ∀ a p, Go.Lib.atoiAll (Go.Lib.cut l [58]).1 = .ok a → Go.Lib.atoiAll (Go.Lib.cut l [58]).2.1 = .ok p → anyB ⟨a, p⟩ = true → endText ⟨a, p⟩ ≠ l) : endRead l = none := by
  refine endRead_none (fun e he ht => ?_)
  obtain ⟨h1, h2, h3⟩ := parse_text e (anyB_mem he)
  rw [ht] at h1
  exact h e.addr e.port (by rw [h1]; exact h2) (by rw [h1]; exact h3) he ht
theorem cut_len (l : List UInt8) : (Go.Lib.cut l [58]).1.length ≤ l.length ∧ (Go.Lib.cut l [58]).2.1.length ≤ l.length := by
  unfold Go.Lib.cut
  split
  · simp only [List.length_take, List.length_drop]; omega
  · simp
theorem box_as (w : World) (o : Obj) : ∃ wb, wb = w.alloc o ∧ Below w.heap.size w wb ∧ wb.heap[w.heap.size]? = some o ∧ w.heap.size < wb.heap.size :=
  ⟨_, rfl, below_alloc (Below.refl _ _) _, heap_alloc_new w o, blk_lt (heap_alloc_new w o)⟩
set_option maxHeartbeats 2000000 in
theorem impl_EndRead (l : List UInt8) (hl : l.length ≤ 100000000) (w : World) (hv : VarsIn w) :
    Calls Tryz.prog 187 #[vS l] w fun r w' => r = .returned (vOpt (endRead l)) ∧ Below w.heap.size w w' := by
  have hF := Aside0.mk (@endRead_fail l)
  obtain ⟨cl1, cl2⟩ := cut_len l
  have bk := heap_alloc_new w (.cells #[.int .i64 0, .int .i64 0] 62)
  obtain ⟨⟨⟨m, hm⟩, _⟩, _⟩ := hv.next (below_alloc (Below.refl _ _) (.cells #[.int .i64 0, .int .i64 0] 62))
  have hcut := Aside0.mk (Tryz.strings_Cut ⟨l.toArray⟩ ⟨#[58]⟩ m (w.alloc (.cells #[.int .i64 0, .int .i64 0] 62)) (by show l.length < _; omega) hm)
  clear hm
  obtain ⟨x1, hx1⟩ : ∃ x, (Go.Lib.cut l [58]).1 = x := ⟨_, rfl⟩
  obtain ⟨x2, hx2⟩ : ∃ x, (Go.Lib.cut l [58]).2.1 = x := ⟨_, rfl⟩
  obtain ⟨x3, hx3⟩ : ∃ x, (Go.Lib.cut l [58]).2.2 = x := ⟨_, rfl⟩
  rw [hx1] at hF cl1
  rw [hx2] at hF cl2
  simp only [List.toList_toArray] at hcut
  rw [hx1, hx2, hx3] at hcut
  clear hx1 hx2 hx3
  have hb0 : Below w.heap.size w (w.alloc (.cells #[.int .i64 0, .int .i64 0] 62)) := below_alloc (Below.refl _ _) _
  go_enter Tryz.func187, Tryz.ntmps187
  go_wp2_with (go_at_call 186; refine hcut.out.mono ?_; rintro r w1 ⟨rfl, k, rfl⟩)
  have hbd := pw_below_drewN hb0 k
  refine (atoi x1 (by omega) _ (hv.below hbd hv.2)).mono ?_
  rintro r w2 ⟨a, ev1, rfl, hc1, hb2⟩
  replace bk := (hb2.block w.heap.size (by show w.heap.size < (w.alloc _).heap.size; simp)).trans bk
  have hz0 : w.heap.size < w2.heap.size := blk_lt bk
  replace hb2 : Below w.heap.size w w2 := below_step hbd hb2
  go_wp2_with fail; refine (atoi x2 (by omega) _ (hv.below hb2 hv.2)).mono ?_; rintro r w3 ⟨p, ev2, rfl, hc2, hb3⟩
  have hz3 := hb3.size
  replace bk := (hb3.block _ hz0).trans bk
  have hB3 : Below w.heap.size w w3 := below_step hb2 hb3
  go_upto_region 5 with fail
  obtain ⟨wb, hwb, hbb, bk2, hzb⟩ := box_as w3 (.cells #[.int .i64 a, .int .i64 p] 62)
  rw [← hwb]
  clear hwb
  replace bk := (hbb.block _ (by omega)).trans bk
  have hBb : Below w.heap.size w wb := below_step hB3 hbb
  have c0 : wb.cell? ⟨w.heap.size, 0, none⟩ = some (.int .i64 0) := (blk_cell bk 0).trans rfl
  have c1 : wb.cell? ⟨w.heap.size, 1, none⟩ = some (.int .i64 0) := (blk_cell bk 1).trans rfl
  have f0 := blk_frozen bk 0
  have f1 := blk_frozen bk 1
  have e0 : wb.cell? ⟨w3.heap.size, 0, none⟩ = some (.int .i64 a) := (blk_cell bk2 0).trans rfl
  have e1 : wb.cell? ⟨w3.heap.size, 1, none⟩ = some (.int .i64 p) := (blk_cell bk2 1).trans rfl
  rcases hc1 with ⟨h1, rfl⟩ | ⟨h1, t, pv, rfl⟩
  · rcases hc2 with ⟨h2, rfl⟩ | ⟨h2, t, pv, rfl⟩
    · go_wp2_with fail; refine (impl_any ⟨a, p⟩ _).mono ?_; rintro r w4 ⟨rfl, hb4⟩
      have hz4 := hb4.size
      replace bk := (hb4.block _ (by omega)).trans bk
      replace bk2 := (hb4.block _ hzb).trans bk2
      have hB4 : Below w.heap.size w w4 := below_step hBb hb4
      have c0 : w4.cell? ⟨w.heap.size, 0, none⟩ = some (.int .i64 0) := (blk_cell bk 0).trans rfl
      have c1 : w4.cell? ⟨w.heap.size, 1, none⟩ = some (.int .i64 0) := (blk_cell bk 1).trans rfl
      have f0 := blk_frozen bk 0
      have f1 := blk_frozen bk 1
      have e0 : w4.cell? ⟨w3.heap.size, 0, none⟩ = some (.int .i64 a) := (blk_cell bk2 0).trans rfl
      have e1 : w4.cell? ⟨w3.heap.size, 1, none⟩ = some (.int .i64 p) := (blk_cell bk2 1).trans rfl
      cases hany : anyB ⟨a, p⟩
      · have HN := Aside0.mk (hF.out (fun a' p' e1 e2 e3 => by
          rw [h1] at e1; rw [h2] at e2
          cases e1; cases e2
          rw [hany] at e3; cases e3))
        clear hF h1 h2 hany
        clear bk
        go_wp2
        refine bodyPost_ret (v := (vOpt none)) (by simp [results, Tryz.results187, go_sem, zEn, *]) rfl ⟨by rw [HN.out], ((hB4).setCell (Nat.le_refl _) _).setCell (Nat.le_refl _) _⟩
      · go_wp2_with fail; refine (impl_EndText ⟨a, p⟩ _).mono ?_; rintro r w5 ⟨rfl, hb5⟩
        have hz5 := hb5.size
        replace bk := (hb5.block _ (by omega)).trans bk
        replace bk2 := (hb5.block _ (by omega)).trans bk2
        have hB5 : Below w.heap.size w w5 := below_step hB4 hb5
        have c0 : w5.cell? ⟨w.heap.size, 0, none⟩ = some (.int .i64 0) := (blk_cell bk 0).trans rfl
        have c1 : w5.cell? ⟨w.heap.size, 1, none⟩ = some (.int .i64 0) := (blk_cell bk 1).trans rfl
        have f0 := blk_frozen bk 0
        have f1 := blk_frozen bk 1
        have e0 : w5.cell? ⟨w3.heap.size, 0, none⟩ = some (.int .i64 a) := (blk_cell bk2 0).trans rfl
        have e1 : w5.cell? ⟨w3.heap.size, 1, none⟩ = some (.int .i64 p) := (blk_cell bk2 1).trans rfl
        by_cases ht : endText ⟨a, p⟩ = l
        · have HN := Aside0.mk (show endRead l = some ⟨a, p⟩ from by rw [← ht]; exact endRead_of hany)
          have he : (endText ⟨a, p⟩ == l) = true := beq_iff_eq.2 ht
          clear bk bk2 hF ht
          go_wp2
          refine bodyPost_ret (v := (vOpt (some ⟨a, p⟩))) (by simp [results, Tryz.results187, go_sem, zEn, *]) rfl ⟨by rw [HN.out], ((hB5).setCell (Nat.le_refl _) _).setCell (Nat.le_refl _) _⟩
        · have HN := Aside0.mk (hF.out (fun a' p' e1 e2 e3 => by
            rw [h1] at e1; rw [h2] at e2
            cases e1; cases e2
            exact ht))
          have he : (endText ⟨a, p⟩ == l) = false := beq_eq_false_iff_ne.2 ht
          clear bk bk2 hF ht
          go_wp2
          refine bodyPost_ret (v := (vOpt none)) (by simp [results, Tryz.results187, go_sem, zEn, *]) rfl ⟨by rw [HN.out], ((hB5).setCell (Nat.le_refl _) _).setCell (Nat.le_refl _) _⟩
    · have HN := Aside0.mk (hF.out (fun a' p' e1 e2 e3 => absurd e2 (h2 _)))
      clear hF h1 h2
      clear bk
      go_wp2
      refine bodyPost_ret (v := (vOpt none)) (by simp [results, Tryz.results187, go_sem, zEn, *]) rfl ⟨by rw [HN.out], ((hBb).setCell (Nat.le_refl _) _).setCell (Nat.le_refl _) _⟩
  · have HN := Aside0.mk (hF.out (fun a' p' e1 e2 e3 => absurd e1 (h1 _)))
    clear hF h1
    clear bk
    go_wp2
    refine bodyPost_ret (v := (vOpt none)) (by simp [results, Tryz.results187, go_sem, zEn, *]) rfl ⟨by rw [HN.out], ((hBb).setCell (Nat.le_refl _) _).setCell (Nat.le_refl _) _⟩
end Go.Proofs.YtfjbjiklohjodaaGreatDoor.Z
namespace Go.Proofs.YtfjbjiklohjodaaGreatDoor.Z
open Go.RowKit Go.Proofs.YtfjbjiklohjodaaGreatDoorW.PrintWords Go.Proofs.YtfjbjiklohjodaaGreatDoorW.PrintLast
set_option linter.unusedVariables false
set_option linter.unusedSimpArgs false
attribute [local go_sem ↓] Go.wp_at_zero Go.wp_at_succ
attribute [local go_sem high] bytes_append
theorem spec_l1Digit (b : UInt8) (w : World) : Calls Tryz.prog 191 #[.int .u8 (b.toNat : Int)] w fun r w' => r = .returned (.int .i64 (digI b)) ∧ w' = w := by
  have hb := b.toNat_lt
  obtain ⟨n, hn⟩ : ∃ n, b.toNat = n := ⟨_, rfl⟩
  have e : digI b = if n < 48 ∨ 57 < n then -1 else (n : Int) - 48 := by unfold digI; rw [hn]
  rw [hn] at hb ⊢
  by_cases h : n < 48 ∨ 57 < n
  · rw [if_pos h] at e
    have E := Aside0.mk e; clear e
    rcases h with h | h
    · have t1 : decide ((n : Int) < 48) = true := decide_eq_true (by omega)
      go_enter Tryz.func191, Tryz.ntmps191
      go_wp2
      go_ret
      exact ⟨by rw [E.out]; rfl, rfl⟩
    · have t1 : decide ((n : Int) < 48) = false := decide_eq_false (by omega)
      have t2 : decide ((n : Int) > 57) = true := decide_eq_true (by omega)
      have t3 : decide ((57 : Int) < (n : Int)) = true := decide_eq_true (by omega)
      go_enter Tryz.func191, Tryz.ntmps191
      go_wp2
      go_ret
      exact ⟨by rw [E.out]; rfl, rfl⟩
  · rw [if_neg h] at e
    have E := Aside0.mk e; clear e
    have t1 : decide ((n : Int) < 48) = false := decide_eq_false (by omega)
    have t2 : decide ((n : Int) > 57) = false := decide_eq_false (by omega)
    have t3 : decide ((57 : Int) < (n : Int)) = false := decide_eq_false (by omega)
    go_enter Tryz.func191, Tryz.ntmps191
    go_wp2
    go_ret
    exact ⟨by rw [E.out]; rfl, rfl⟩
theorem digI_range (b : UInt8) : -1 ≤ digI b ∧ digI b ≤ 9 := by unfold digI; split <;> omega
theorem text_len34 : ∀ e ∈ allEnds, (endText e).length = 3 ∨ (endText e).length = 4 := by decide +kernel
theorem endRead_len {l : List UInt8} (h : ¬ (3 ≤ l.length ∧ l.length ≤ 4)) : endRead l = none := by
  refine endRead_none (fun e he ht => ?_)
  have := text_len34 e (anyB_mem he)
  rw [ht] at this
  omega
theorem endRead_yes {l : List UInt8} (hl : l ≠ []) (h : endText (readE l) = l) : endRead l = some (readE l) := by
  have ha : anyB (readE l) = true := by
    cases h2 : anyB (readE l) with
    | true => rfl
    | false =>
      have h0 : endText (readE l) = [] := by unfold endText; rw [h2]; rfl
      exact absurd (h.symm.trans h0) hl
  unfold endRead
  rw [ha, h]
  simp
theorem endRead_no {l : List UInt8} (h : endText (readE l) ≠ l) : endRead l = none := by
  unfold endRead
  rw [decide_eq_false h, Bool.and_false]
  rfl
set_option maxRecDepth 100000 in
set_option maxHeartbeats 2000000 in
theorem spec_EndRead (l : List UInt8) (hl : l.length ≤ 100000000) (w : World) :
    Calls Tryz.prog 184 #[vS l] w fun r w' => r = .returned (vOpt (endRead l)) ∧ Below w.heap.size w w' := by
  by_cases h : 3 ≤ l.length ∧ l.length ≤ 4
  · have hin : inB (l.length : Int) 3 4 = true := by unfold inB; simp; omega
    have H := Aside0.mk hin; clear hin
    obtain ⟨b0, l1, hb0⟩ : ∃ b t, l = b :: t := by
      cases l with
      | nil => simp at h
      | cons b t => exact ⟨b, t, rfl⟩
    have HB := Aside0.mk hb0; clear hb0
    obtain ⟨h3, h4⟩ := h
    go_enter Tryz.func184, Tryz.ntmps184
    go_wp2_with (go_at_call 63; refine (spec_l6In _ _ _ _).mono ?_; rintro r w1 ⟨rfl, rfl⟩; rw [H.out])
    obtain ⟨wa, hwa, hba, bk, hza⟩ := box_as w (.cells #[.int .i64 0, .int .i64 0] 62)
    rw [← hwa]
    clear hwa
    go_upto_region 5 with (go_at_call 191; refine (spec_l1Digit _ _).mono ?_; rintro r w2 ⟨rfl, rfl⟩)
    obtain ⟨d0, hd0⟩ : ∃ d, digI (⟨l.toArray⟩ : ByteArray)[0] = d := ⟨_, rfl⟩
    rw [hd0]
    obtain ⟨wb, hwb, hbb, bk2, hzb⟩ := box_as w2 (.cells #[.int .i64 d0, .int .i64 0] 62)
    rw [← hwb]
    clear hwb
    replace bk := (hbb.block _ hza).trans bk
    have hB : Below w.heap.size w wb := below_step hba hbb
    have HD := Aside0.mk hd0; clear hd0
    go_wp2
    go_loopw [6] (fun i w' => ∃ (k : Nat) (P : Int), k ≤ l.length ∧ i = .int .i64 k ∧ ((k = 2 ∧ P = 0) ∨ (k = 3 ∧ -1 ≤ P ∧ P ≤ 9) ∨ (k = 4 ∧ -11 ≤ P ∧ P ≤ 99)) ∧ Aside0 (((l.take k).drop 2).foldl (fun n b => 10 * n + digI b) 0 = P) ∧ Aside0 (w'.heap[w2.heap.size]? = some (.cells #[.int .i64 d0, .int .i64 P] 62 (0, 0))) ∧ Below w2.heap.size wb w') (fun i _ => l.length - (intOf i).toNat)
    case atStart => exact ⟨2, 0, by omega, rfl, .inl ⟨rfl, rfl⟩, ⟨by simp⟩, ⟨bk2⟩, Below.refl _ _⟩
    case round =>
      obtain ⟨k, P, hk, rfl, hP, HF, HX, hb⟩ := hrel
      have hz := blk_lt HX.out
      have c0 : wr.cell? ⟨w2.heap.size, 0, none⟩ = some (.int .i64 d0) := (blk_cell HX.out 0).trans rfl
      have c1 : wr.cell? ⟨w2.heap.size, 1, none⟩ = some (.int .i64 P) := (blk_cell HX.out 1).trans rfl
      have f0 := blk_frozen HX.out 0
      have f1 := blk_frozen HX.out 1
      by_cases hlt : k < l.length
      · have hk0 : (0 : Int) ≤ (k : Int) := by omega
        have hk1 : (k : Int) < (l.length : Int) := by omega
        have v1 : IntKind.i64.wrap (10 * P) = 10 * P := IntWalk.i64_in _ (by omega)
        go_wp2
        obtain ⟨dk, hdk⟩ : ∃ d, digI ((⟨l.toArray⟩ : ByteArray)[k]'hlt) = d := ⟨_, rfl⟩
        have hdr := digI_range ((⟨l.toArray⟩ : ByteArray)[k]'hlt)
        rw [hdk] at hdr
        have v2 : IntKind.i64.wrap (10 * P + dk) = 10 * P + dk := IntWalk.i64_in _ (by omega)
        have HS := Aside0.mk (show ((l.take (k + 1)).drop 2).foldl (fun n b => 10 * n + digI b) 0 = 10 * P + dk from by
          rw [List.take_add_one, List.getElem?_eq_getElem hlt, List.drop_append_of_le_length (by rw [List.length_take]; omega)]
          simp only [Option.toList, List.foldl_append, List.foldl_cons, List.foldl_nil, HF.out]
          rw [← hdk]; rfl)
        have HK := Aside0.mk hdk; clear hdk
        refine lin_start (fun _ => True) (true, [([], []), ([0], [0]), ([1], [1]), ([], []), ([], []), ([3, 4], [3, 4]), ([5], [5]), ([2, 6], [2, 6]), ([0, 1, 2, 3, 4, 5, 6, 7], []), ([8, 7, 6, 0, 1, 2, 3, 4, 5, 6, 7], [7, 8])]) [0, 3, 4, 5, 1, 2, 6, 7, 8, 9] (by kernel_rfl) (by kernel_rfl) (by kernel_rfl) trivial ?_
        repeat (first | (refine lin_take rfl rfl (by kernel_rfl) (fun _ _ _ h => h) (by rfl) (v := ?_) (a' := ?_) ?_ ?_ ?_; rotate_left 2; (intro w' _; go_simp; with_reducible rfl); (simp only [List.getElem_toArray, List.getElem_cons_zero, List.getElem_cons_succ, Act.put, List.setIfInBounds_toArray, List.set_cons_zero, List.set_cons_succ]; rfl)) | (refine lin_off rfl rfl (by kernel_rfl) (fun _ _ _ h => h) (by rfl) (a' := ?_) ?_ ?_; rotate_left 1; (simp only [List.getElem_toArray, List.getElem_cons_zero, List.getElem_cons_succ, Act.put, List.setIfInBounds_toArray, List.set_cons_zero, List.set_cons_succ]; rfl)))
        refine lin_two (j := 6) (rest' := [1, 2, 7, 8, 9]) rfl rfl rfl rfl (by kernel_rfl) rfl ?_ ?_
        · intro _ K hK
          refine step_value (v := .int .i64 P) (w1 := wr.drew) (by rfl) rfl ?_ ?_
          · go_simp
          refine hK.out _ _ trivial ?_
          clear hK
          refine lin_norm (a' := ?_) ?_ ?_; rotate_left 1; (simp only [List.getElem_toArray, List.getElem_cons_zero, List.getElem_cons_succ, Act.put, List.setIfInBounds_toArray, List.set_cons_zero, List.set_cons_succ]; rfl)
          repeat (first | (refine lin_take rfl rfl (by kernel_rfl) (fun _ _ _ h => h) (by rfl) (v := ?_) (a' := ?_) ?_ ?_ ?_; rotate_left 2; (intro w' _; go_simp; with_reducible rfl); (simp only [List.getElem_toArray, List.getElem_cons_zero, List.getElem_cons_succ, Act.put, List.setIfInBounds_toArray, List.set_cons_zero, List.set_cons_succ]; rfl)) | (refine lin_off rfl rfl (by kernel_rfl) (fun _ _ _ h => h) (by rfl) (a' := ?_) ?_ ?_; rotate_left 1; (simp only [List.getElem_toArray, List.getElem_cons_zero, List.getElem_cons_succ, Act.put, List.setIfInBounds_toArray, List.set_cons_zero, List.set_cons_succ]; rfl)))
          refine lin_call rfl rfl rfl Tryz.func191 (by kernel_rfl) (by kernel_rfl) rfl (by rfl) (args := #[.int .u8 (((⟨l.toArray⟩ : ByteArray)[k]'hlt).toNat : Int)]) (by (try simp only [List.map_toArray, List.map_cons, List.map_nil]); first | done | rfl) (fun hS => ?_)
          refine (spec_l1Digit _ _).mono ?_
          rintro r w4 ⟨rfl, rfl⟩
          refine ⟨_, rfl, trivial, ?_⟩
          rw [HK.out]
          refine lin_norm (a' := ?_) ?_ ?_; rotate_left 1; (simp only [List.getElem_toArray, List.getElem_cons_zero, List.getElem_cons_succ, Act.put, List.setIfInBounds_toArray, List.set_cons_zero, List.set_cons_succ]; rfl)
          repeat (first | (refine lin_take rfl rfl (by kernel_rfl) (fun _ _ _ h => h) (by rfl) (v := ?_) (a' := ?_) ?_ ?_ ?_; rotate_left 2; (intro w' _; go_simp; with_reducible rfl); (simp only [List.getElem_toArray, List.getElem_cons_zero, List.getElem_cons_succ, Act.put, List.setIfInBounds_toArray, List.set_cons_zero, List.set_cons_succ]; rfl)) | (refine lin_off rfl rfl (by kernel_rfl) (fun _ _ _ h => h) (by rfl) (a' := ?_) ?_ ?_; rotate_left 1; (simp only [List.getElem_toArray, List.getElem_cons_zero, List.getElem_cons_succ, Act.put, List.setIfInBounds_toArray, List.set_cons_zero, List.set_cons_succ]; rfl)))
          refine lin_skip (w1 := (wr.setCell ⟨w2.heap.size, 1, none⟩ (.int .i64 (10 * P + dk))).drew) rfl rfl (by kernel_rfl) (by rfl) (fun _ => ?_) (fun _ => trivial) ?_
          · go_simp
          refine lin_done (by kernel_rfl) ?_
          go_wp2
          go_roundw
          case rel => exact ⟨k + 1, 10 * P + dk, by omega, by go_num, by omega, HS, ⟨by have h1 := blk_set HX.out 1 (.int .i64 (10 * P + dk)); simp at h1; exact h1⟩, below_drew (hb.setCell (Nat.le_refl _) _)⟩
          case measure => simp [intOf]; omega
        · intro _ K hK
          refine step_call (by rfl) rfl rfl Tryz.func191 (by kernel_rfl) (by kernel_rfl) (args := #[.int .u8 (((⟨l.toArray⟩ : ByteArray)[k]'hlt).toNat : Int)]) (by (try simp only [List.map_toArray, List.map_cons, List.map_nil]); first | done | rfl) ?_
          refine (spec_l1Digit _ _).mono ?_
          rintro r w4 ⟨rfl, rfl⟩
          refine ⟨_, rfl, hK.out _ _ trivial ?_⟩
          clear hK
          rw [HK.out]
          refine lin_norm (a' := ?_) ?_ ?_; rotate_left 1; (simp only [List.getElem_toArray, List.getElem_cons_zero, List.getElem_cons_succ, Act.put, List.setIfInBounds_toArray, List.set_cons_zero, List.set_cons_succ]; rfl)
          refine lin_event (v := .int .i64 P) (w1 := wr.drew) (a' := ?_) rfl rfl (by kernel_rfl) (by rfl) (fun hS => ?_) (fun hS => trivial) ?_ ?_; rotate_left 1; (focus (go_simp)); (focus (first | (simp only [List.getElem_toArray, List.getElem_cons_zero, List.getElem_cons_succ, Act.put, List.setIfInBounds_toArray, List.set_cons_zero, List.set_cons_succ]; done) | (simp only [List.getElem_toArray, List.getElem_cons_zero, List.getElem_cons_succ, Act.put, List.setIfInBounds_toArray, List.set_cons_zero, List.set_cons_succ]; rfl)))
          repeat (first | (refine lin_take rfl rfl (by kernel_rfl) (fun _ _ _ h => h) (by rfl) (v := ?_) (a' := ?_) ?_ ?_ ?_; rotate_left 2; (intro w' _; go_simp; with_reducible rfl); (simp only [List.getElem_toArray, List.getElem_cons_zero, List.getElem_cons_succ, Act.put, List.setIfInBounds_toArray, List.set_cons_zero, List.set_cons_succ]; rfl)) | (refine lin_off rfl rfl (by kernel_rfl) (fun _ _ _ h => h) (by rfl) (a' := ?_) ?_ ?_; rotate_left 1; (simp only [List.getElem_toArray, List.getElem_cons_zero, List.getElem_cons_succ, Act.put, List.setIfInBounds_toArray, List.set_cons_zero, List.set_cons_succ]; rfl)))
          refine lin_skip (w1 := (wr.setCell ⟨w2.heap.size, 1, none⟩ (.int .i64 (10 * P + dk))).drew) rfl rfl (by kernel_rfl) (by rfl) (fun _ => ?_) (fun _ => trivial) ?_
          · go_simp
          refine lin_done (by kernel_rfl) ?_
          go_wp2
          go_roundw
          case rel => exact ⟨k + 1, 10 * P + dk, by omega, by go_num, by omega, HS, ⟨by have h1 := blk_set HX.out 1 (.int .i64 (10 * P + dk)); simp at h1; exact h1⟩, below_drew (hb.setCell (Nat.le_refl _) _)⟩
          case measure => simp [intOf]; omega
      · obtain rfl : k = l.length := by omega
        have hE : readE l = ⟨d0, P⟩ := by
          unfold readE
          have h5 := HF.out
          rw [List.take_length] at h5
          rw [h5]
          congr 1
          rw [← HD.out]
          have : l.getD 0 0 = l[0]'(by omega) := by rw [List.getD_eq_getElem?_getD, List.getElem?_eq_getElem (by omega)]; rfl
          rw [this]; rfl
        replace bk := (hb.block w.heap.size hza).trans bk
        have x0 : wr.cell? ⟨w.heap.size, 0, none⟩ = some (.int .i64 0) := (blk_cell bk 0).trans rfl
        have x1 : wr.cell? ⟨w.heap.size, 1, none⟩ = some (.int .i64 0) := (blk_cell bk 1).trans rfl
        have hBr : Below w.heap.size w wr := hB.trans (hb.mono (Nat.le_of_lt hza))
        go_wp2_with fail; refine (spec_EndText ⟨d0, P⟩ _).mono ?_; rintro r w4 ⟨rfl, hb4⟩
        have hz4 := hb4.size
        replace bk := (hb4.block _ (by omega)).trans bk
        have bx := (hb4.block _ hz).trans HX.out
        have c0 : w4.cell? ⟨w2.heap.size, 0, none⟩ = some (.int .i64 d0) := (blk_cell bx 0).trans rfl
        have c1 : w4.cell? ⟨w2.heap.size, 1, none⟩ = some (.int .i64 P) := (blk_cell bx 1).trans rfl
        have x0 : w4.cell? ⟨w.heap.size, 0, none⟩ = some (.int .i64 0) := (blk_cell bk 0).trans rfl
        have x1 : w4.cell? ⟨w.heap.size, 1, none⟩ = some (.int .i64 0) := (blk_cell bk 1).trans rfl
        have y0 := blk_frozen bk 0
        have y1 := blk_frozen bk 1
        have hB4 := below_step hBr hb4
        by_cases ht : endText ⟨d0, P⟩ = l
        · have HN := Aside0.mk (show endRead l = some ⟨d0, P⟩ from by rw [endRead_yes (by intro e; rw [e] at h3; simp at h3) (by rw [hE]; exact ht), hE])
          have he : (endText ⟨d0, P⟩ == l) = true := beq_iff_eq.2 ht
          clear bk bx ht hE
          go_wp2
          refine bodyPost_ret (v := (vOpt (some ⟨d0, P⟩))) (by simp [results, Tryz.results184, go_sem, zEn, *]) rfl ⟨by rw [HN.out], ((hB4).setCell (Nat.le_refl _) _).setCell (Nat.le_refl _) _⟩
        · have HN := Aside0.mk (show endRead l = none from endRead_no (by rw [hE]; exact ht))
          have he : (endText ⟨d0, P⟩ == l) = false := beq_eq_false_iff_ne.2 ht
          clear bk bx ht hE
          go_wp2
          refine bodyPost_ret (v := (vOpt none)) (by simp [results, Tryz.results184, go_sem, zEn, *]) rfl ⟨by rw [HN.out], ((hB4).setCell (Nat.le_refl _) _).setCell (Nat.le_refl _) _⟩
  · have HN := Aside0.mk (endRead_len h)
    have hin : inB (l.length : Int) 3 4 = false := by unfold inB; rw [Bool.and_eq_false_iff]; simp; omega
    have H := Aside0.mk hin; clear hin
    go_enter Tryz.func184, Tryz.ntmps184
    go_wp2_with (go_at_call 63; refine (spec_l6In _ _ _ _).mono ?_; rintro r w1 ⟨rfl, rfl⟩; rw [H.out])
    refine bodyPost_ret (v := (vOpt none)) (by simp [results, Tryz.results184, go_sem, zEn, *]) rfl ⟨by rw [HN.out], (by repeat (first | (with_reducible exact (Below.refl _ _)) | (with_reducible apply below_alloc) | (with_reducible apply pw_below_drewN) | (with_reducible apply below_drew1) | with_reducible refine below_set ?_ (by first | (with_reducible exact Nat.le_refl _) | (with_reducible assumption) | (simp; done) | omega | (simp; omega))))⟩
end Go.Proofs.YtfjbjiklohjodaaGreatDoor.Z
namespace Go.Proofs.YtfjbjiklohjodaaGreatDoor.Z
open Go.RowKit Go.Proofs.YtfjbjiklohjodaaGreatDoorW.PrintWords Go.Proofs.YtfjbjiklohjodaaGreatDoorW.PrintLast
set_option linter.unusedVariables false
set_option linter.unusedSimpArgs false
attribute [local go_sem ↓] Go.wp_at_zero Go.wp_at_succ
attribute [local go_sem high] bytes_append
def figB (lo : Nat) (b : UInt8) : Bool := decide (lo ≤ b.toNat) && decide (b.toNat ≤ 57)
def okByte (b : UInt8) : Bool := (decide (97 ≤ b.toNat) && decide (b.toNat ≤ 122)) || (decide (48 ≤ b.toNat) && decide (b.toNat ≤ 57)) || b.toNat == 64 || b.toNat == 58 || b.toNat == 59
theorem impl_figure (b : UInt8) (lo : Nat) (hlo : lo ≤ 255) (w : World) : Calls Tryz.prog 124 #[.int .u8 (b.toNat : Int), .int .u8 (lo : Int)] w fun r w' => r = .returned (.bool (figB lo b)) ∧ w' = w := by
  obtain ⟨n, hn⟩ : ∃ n, b.toNat = n := ⟨_, rfl⟩
  have e : figB lo b = (decide (lo ≤ n) && decide ((n : Int) ≤ 57)) := by
    unfold figB; rw [hn]; congr 1; exact decide_eq_decide.2 (by omega)
  rw [hn]
  have E := Aside0.mk e; clear e hn
  go_enter Tryz.func124, Tryz.ntmps124
  go_wp2
  all_goals
    rename_i h1
    go_ret
    refine ⟨?_, rfl⟩
    rw [E.out]
    first | (rw [decide_eq_true h1]; rfl) | (rw [decide_eq_false h1]; rfl)
theorem spec_l2Byte (b : UInt8) (w : World) : Calls Tryz.prog 74 #[.int .u8 (b.toNat : Int)] w fun r w' => r = .returned (.bool (okByte b)) ∧ w' = w := by
  obtain ⟨n, hn⟩ : ∃ n, b.toNat = n := ⟨_, rfl⟩
  have e : okByte b = ((decide (97 ≤ n) && decide (n ≤ 122)) || (decide (48 ≤ n) && decide (n ≤ 57)) || n == 64 || n == 58 || n == 59) := by unfold okByte; rw [hn]
  rw [hn]
  have E := Aside0.mk e; clear e hn
  go_enter Tryz.func74, Tryz.ntmps74
  go_wp2
  all_goals
    go_ret
    refine ⟨congrArg Ending.returned ((congrArg Value.bool ?_).trans (congrArg Value.bool E.out.symm)), rfl⟩
    rw [Bool.eq_iff_iff]
    simp
    try omega
def textOk (l : List UInt8) : Bool := l.all okByte && decide ((l.length : Int) ≤ 40)
theorem all_no {l : List UInt8} {k : Nat} (h : k < l.length) (hn : okByte (l[k]'h) = false) : l.all okByte = false := by
  rw [← Bool.not_eq_true, List.all_eq_true]
  intro h2
  have := h2 _ (List.getElem_mem h)
  rw [hn] at this
  cases this
theorem all_step {l : List UInt8} {k : Nat} (h : k < l.length) (hp : (l.take k).all okByte = true) (hn : okByte (l[k]'h) = true) : (l.take (k + 1)).all okByte = true := by
  rw [List.take_add_one, List.all_append, hp, List.getElem?_eq_getElem h]
  simp [hn]
set_option maxRecDepth 100000 in
theorem spec_TextOk (l : List UInt8) (hl : l.length ≤ 140737488355328) (w : World) :
    Calls Tryz.prog 22 #[vS l] w fun r w' => r = .returned (.bool (textOk l)) ∧ w' = w := by
  go_enter Tryz.func22, Tryz.ntmps22
  go_wp2
  go_loopw [3] (fun i w' => ∃ k : Nat, k ≤ l.length ∧ i = .int .i64 k ∧ Aside0 ((l.take k).all okByte = true) ∧ w' = w) (fun i _ => l.length - (intOf i).toNat)
  case atStart => exact ⟨0, Nat.zero_le _, rfl, ⟨by simp⟩, rfl⟩
  case round =>
    obtain ⟨k, hk, rfl, HP, rfl⟩ := hrel
    by_cases hlt : k < l.length
    · have hk0 : (0 : Int) ≤ (k : Int) := by omega
      have hk1 : (k : Int) < (l.length : Int) := by omega
      have HB := Aside0.mk (spec_l2Byte ((⟨l.toArray⟩ : ByteArray)[k]'hlt) wr)
      cases hok : okByte ((⟨l.toArray⟩ : ByteArray)[k]'hlt)
      · have HF := Aside0.mk (show textOk l = false from by unfold textOk; rw [all_no hlt hok]; rfl)
        rw [hok] at HB
        clear hok
        go_wp2_with (go_at_call 74; refine HB.out.mono ?_; rintro r w2 ⟨rfl, rfl⟩)
        go_ret
        exact ⟨ret_bool HF.out.symm, rfl⟩
      · have HS := Aside0.mk (all_step hlt HP.out hok)
        rw [hok] at HB
        clear hok
        go_wp2_with (go_at_call 74; refine HB.out.mono ?_; rintro r w2 ⟨rfl, rfl⟩)
        go_roundw
        case rel => exact ⟨k + 1, by omega, by go_num, HS, trivial⟩
        case measure => simp [intOf]; omega
    · obtain rfl : k = l.length := by omega
      have HF := Aside0.mk (show textOk l = decide ((l.length : Int) ≤ 40) from by
        have h1 := HP.out
        rw [List.take_length] at h1
        unfold textOk; rw [h1]; rfl)
      go_wp2
      go_ret
      exact ⟨ret_bool HF.out.symm, rfl⟩
theorem bytes_as (l : List UInt8) (w : World) : ∃ W C, (convert 9 22 (vS l)).run Tryz.prog w = .ok (.slice (some ⟨w.heap.size, 0, none⟩) l.length C) W ∧ Below w.heap.size w W ∧ ∀ j (h : j < l.length), W.cell? ⟨w.heap.size, j, none⟩ = some (.int .u8 ((l[j]'h).toNat : Int)) := by
  refine ⟨_, _, print_bytes (P := Tryz.prog) 9 22 5 Tryz.underlying9 Tryz.underlying22 Tryz.underlying5 ⟨l.toArray⟩ w, Go.Lib.bytesWorld_below w _ _, fun j h => ?_⟩
  have := Go.Lib.bytesWorld_cell w 5 ⟨l.toArray⟩ j h
  rw [this]
  simp [List.getD_eq_getElem?_getD, h]
set_option maxRecDepth 100000 in
set_option maxHeartbeats 2000000 in
theorem impl_TextOk (l : List UInt8) (hl : l.length ≤ 140737488355328) (w : World) :
    Calls Tryz.prog 67 #[vS l] w fun r w' => r = .returned (.bool (textOk l)) ∧ Below w.heap.size w w' := by
  obtain ⟨W, C, hcv, hb, hcell⟩ := bytes_as l w
  have HC := Aside0.mk hcell; clear hcell
  have HB := Aside0.mk hb; clear hb
  go_enter Tryz.func67, Tryz.ntmps67
  go_wp2
  go_loopw [8] (fun i w' => ∃ k : Nat, k ≤ l.length ∧ i = .int .i64 k ∧ Aside0 ((l.take k).all okByte = true) ∧ w' = W) (fun i _ => l.length - (intOf i).toNat)
  case atStart => exact ⟨0, Nat.zero_le _, rfl, ⟨by simp⟩, rfl⟩
  case round =>
    obtain ⟨k, hk, rfl, HP, rfl⟩ := hrel
    clear hcv
    by_cases hlt : k < l.length
    · have hk0 : (0 : Int) ≤ (k : Int) := by omega
      have hk1 : (k : Int) < (l.length : Int) := by omega
      have d0 := HC.out k hlt
      have HG := Aside0.mk (impl_figure (l[k]'hlt) 48 (by decide) wr)
      have hn1 := (l[k]'hlt).toNat_lt
      obtain ⟨n, hn⟩ : ∃ n, (l[k]'hlt).toNat = n := ⟨_, rfl⟩
      have e : okByte (l[k]'hlt) = ((decide (97 ≤ n) && decide (n ≤ 122)) || (decide (48 ≤ n) && decide (n ≤ 57)) || n == 64 || n == 58 || n == 59) := by unfold okByte; rw [hn]
      have e2 : figB 48 (l[k]'hlt) = (decide (48 ≤ n) && decide (n ≤ 57)) := by unfold figB; rw [hn]
      rw [hn] at d0 HG
      have HE := Aside0.mk e; clear e
      have hyes : okByte (l[k]'hlt) = true → Aside0 ((l.take (k + 1)).all okByte = true) := fun h => ⟨all_step hlt HP.out h⟩
      have hno : okByte (l[k]'hlt) = false → Aside0 (textOk l = false) := fun h => ⟨by unfold textOk; rw [all_no hlt h]; rfl⟩
      by_cases hfig : 48 ≤ n ∧ n ≤ 57
      · have HS := hyes (by rw [HE.out]; simp; omega)
        rw [e2, show (decide (48 ≤ n) && decide (n ≤ 57)) = true from by simp; omega] at HG
        clear hyes hno hn hn1 hfig e2
        go_wp2_with (go_at_call 124; refine HG.out.mono ?_; rintro r w2 ⟨rfl, rfl⟩)
        go_roundw
        case rel => exact ⟨k + 1, by omega, by go_num, HS, trivial⟩
        case measure => simp [intOf]; omega
      · rw [e2, show (decide (48 ≤ n) && decide (n ≤ 57)) = false from by rw [Bool.and_eq_false_iff]; simp; omega] at HG
        have hcl : (n = 64) ∨ (n = 58) ∨ (n = 59) ∨ (97 ≤ n ∧ n ≤ 122) ∨ (n < 97 ∧ n ≠ 64 ∧ n ≠ 58 ∧ n ≠ 59) ∨ (122 < n) := by omega
        clear e2 hn
        rcases hcl with hc | hc | hc | hc | hc | hc
        · have HS := hyes (by rw [HE.out]; simp; omega)
          have t64 : ((n : Int) == 64) = true := by rw [beq_iff_eq]; omega
          have u64 : ((n : Int) != 64) = false := by rw [bne_eq_false_iff_eq]; omega
          clear hyes hno hn1 hfig hc
          go_wp2_with (go_at_call 124; refine HG.out.mono ?_; rintro r w2 ⟨rfl, rfl⟩)
          go_roundw
          case rel => exact ⟨k + 1, by omega, by go_num, HS, trivial⟩
          case measure => simp [intOf]; omega
        · have HS := hyes (by rw [HE.out]; simp; omega)
          have t64 : ((n : Int) == 64) = false := by rw [beq_eq_false_iff_ne, ne_eq]; omega
          have u64 : ((n : Int) != 64) = true := by rw [bne_iff_ne, ne_eq]; omega
          have t58 : ((n : Int) == 58) = true := by rw [beq_iff_eq]; omega
          have u58 : ((n : Int) != 58) = false := by rw [bne_eq_false_iff_eq]; omega
          clear hyes hno hn1 hfig hc
          go_wp2_with (go_at_call 124; refine HG.out.mono ?_; rintro r w2 ⟨rfl, rfl⟩)
          go_roundw
          case rel => exact ⟨k + 1, by omega, by go_num, HS, trivial⟩
          case measure => simp [intOf]; omega
        · have HS := hyes (by rw [HE.out]; simp; omega)
          have t64 : ((n : Int) == 64) = false := by rw [beq_eq_false_iff_ne, ne_eq]; omega
          have u64 : ((n : Int) != 64) = true := by rw [bne_iff_ne, ne_eq]; omega
          have t58 : ((n : Int) == 58) = false := by rw [beq_eq_false_iff_ne, ne_eq]; omega
          have u58 : ((n : Int) != 58) = true := by rw [bne_iff_ne, ne_eq]; omega
          have t59 : ((n : Int) == 59) = true := by rw [beq_iff_eq]; omega
          have u59 : ((n : Int) != 59) = false := by rw [bne_eq_false_iff_eq]; omega
          clear hyes hno hn1 hfig hc
          go_wp2_with (go_at_call 124; refine HG.out.mono ?_; rintro r w2 ⟨rfl, rfl⟩)
          go_roundw
          case rel => exact ⟨k + 1, by omega, by go_num, HS, trivial⟩
          case measure => simp [intOf]; omega
        · have HS := hyes (by rw [HE.out]; simp; omega)
          have t64 : ((n : Int) == 64) = false := by rw [beq_eq_false_iff_ne, ne_eq]; omega
          have u64 : ((n : Int) != 64) = true := by rw [bne_iff_ne, ne_eq]; omega
          have t58 : ((n : Int) == 58) = false := by rw [beq_eq_false_iff_ne, ne_eq]; omega
          have u58 : ((n : Int) != 58) = true := by rw [bne_iff_ne, ne_eq]; omega
          have t59 : ((n : Int) == 59) = false := by rw [beq_eq_false_iff_ne, ne_eq]; omega
          have u59 : ((n : Int) != 59) = true := by rw [bne_iff_ne, ne_eq]; omega
          have t97 : decide ((n : Int) < 97) = false := decide_eq_false (by omega)
          have t122 : decide ((n : Int) > 122) = false := decide_eq_false (by omega)
          have u122 : decide ((122 : Int) < (n : Int)) = false := decide_eq_false (by omega)
          clear hyes hno hn1 hfig hc
          go_wp2_with (go_at_call 124; refine HG.out.mono ?_; rintro r w2 ⟨rfl, rfl⟩)
          go_roundw
          case rel => exact ⟨k + 1, by omega, by go_num, HS, trivial⟩
          case measure => simp [intOf]; omega
        · have HF := hno (by rw [HE.out]; simp; omega)
          have t64 : ((n : Int) == 64) = false := by rw [beq_eq_false_iff_ne, ne_eq]; omega
          have u64 : ((n : Int) != 64) = true := by rw [bne_iff_ne, ne_eq]; omega
          have t58 : ((n : Int) == 58) = false := by rw [beq_eq_false_iff_ne, ne_eq]; omega
          have u58 : ((n : Int) != 58) = true := by rw [bne_iff_ne, ne_eq]; omega
          have t59 : ((n : Int) == 59) = false := by rw [beq_eq_false_iff_ne, ne_eq]; omega
          have u59 : ((n : Int) != 59) = true := by rw [bne_iff_ne, ne_eq]; omega
          have t97 : decide ((n : Int) < 97) = true := decide_eq_true (by omega)
          clear hyes hno hn1 hfig hc
          go_wp2_with (go_at_call 124; refine HG.out.mono ?_; rintro r w2 ⟨rfl, rfl⟩)
          go_ret
          exact ⟨ret_bool HF.out.symm, HB.out⟩
        · have HF := hno (by rw [HE.out]; simp; omega)
          have t64 : ((n : Int) == 64) = false := by rw [beq_eq_false_iff_ne, ne_eq]; omega
          have u64 : ((n : Int) != 64) = true := by rw [bne_iff_ne, ne_eq]; omega
          have t58 : ((n : Int) == 58) = false := by rw [beq_eq_false_iff_ne, ne_eq]; omega
          have u58 : ((n : Int) != 58) = true := by rw [bne_iff_ne, ne_eq]; omega
          have t59 : ((n : Int) == 59) = false := by rw [beq_eq_false_iff_ne, ne_eq]; omega
          have u59 : ((n : Int) != 59) = true := by rw [bne_iff_ne, ne_eq]; omega
          have t97 : decide ((n : Int) < 97) = false := decide_eq_false (by omega)
          have t122 : decide ((n : Int) > 122) = true := decide_eq_true (by omega)
          have u122 : decide ((122 : Int) < (n : Int)) = true := decide_eq_true (by omega)
          clear hyes hno hn1 hfig hc
          go_wp2_with (go_at_call 124; refine HG.out.mono ?_; rintro r w2 ⟨rfl, rfl⟩)
          go_ret
          exact ⟨ret_bool HF.out.symm, HB.out⟩
    · obtain rfl : k = l.length := by omega
      have HF := Aside0.mk (show textOk l = decide ((l.length : Int) ≤ 40) from by
        have h1 := HP.out
        rw [List.take_length] at h1
        unfold textOk; rw [h1]; rfl)
      go_wp2
      go_ret
      exact ⟨ret_bool HF.out.symm, HB.out⟩
end Go.Proofs.YtfjbjiklohjodaaGreatDoor.Z
namespace Go.Proofs.YtfjbjiklohjodaaGreatDoor.Z
open Go.RowKit Go.Proofs.YtfjbjiklohjodaaGreatDoorW.PrintWords Go.Proofs.YtfjbjiklohjodaaGreatDoorW.PrintLast
set_option linter.unusedVariables false
set_option linter.unusedSimpArgs false
attribute [local go_sem ↓] Go.wp_at_zero Go.wp_at_succ
attribute [local go_sem high] bytes_append
def chk (i : Nat) (b : UInt8) : Bool := if i = 0 then (b.toNat : Int) == 64 else if i = 2 then (b.toNat : Int) == 58 else if i = 4 then figB 48 b else if i = 1 ∨ i = 3 then figB 49 b else false
def begB (l : List UInt8) : Bool := (List.range l.length).all (fun i => chk i (l.getD i 0))
theorem beg_no {l : List UInt8} {k : Nat} (h : k < l.length) (hn : chk k (l[k]'h) = false) : begB l = false := by
  rw [← Bool.not_eq_true]
  intro h2
  have := List.all_eq_true.1 h2 k (List.mem_range.2 h)
  rw [List.getD_eq_getElem?_getD, List.getElem?_eq_getElem h] at this
  simp only [Option.getD_some] at this
  rw [hn] at this
  cases this
theorem beg_step {l : List UInt8} {k : Nat} (h : k < l.length) (hp : (List.range k).all (fun i => chk i (l.getD i 0)) = true) (hn : chk k (l[k]'h) = true) : (List.range (k + 1)).all (fun i => chk i (l.getD i 0)) = true := by
  rw [List.range_succ, List.all_append, hp]
  simp [List.getD_eq_getElem?_getD, h, hn]
set_option maxRecDepth 100000 in
set_option maxHeartbeats 2000000 in
theorem impl_beginning (l : List UInt8) (hl : l.length ≤ 5) (w : World) :
    Calls Tryz.prog 169 #[vS l] w fun r w' => r = .returned (.bool (begB l)) ∧ Below w.heap.size w w' := by
  obtain ⟨W, C, hcv, hb, hcell⟩ := bytes_as l w
  have HC := Aside0.mk hcell; clear hcell
  have HB := Aside0.mk hb; clear hb
  go_enter Tryz.func169, Tryz.ntmps169
  go_wp2
  go_loopw [9] (fun i w' => ∃ k : Nat, k ≤ l.length ∧ i = .int .i64 k ∧ Aside0 ((List.range k).all (fun i => chk i (l.getD i 0)) = true) ∧ w' = W) (fun i _ => l.length - (intOf i).toNat)
  case atStart => exact ⟨0, Nat.zero_le _, rfl, ⟨by simp⟩, rfl⟩
  case round =>
    obtain ⟨k, hk, rfl, HP, rfl⟩ := hrel
    clear hcv
    by_cases hlt : k < l.length
    · have hk0 : (0 : Int) ≤ (k : Int) := by omega
      have hk1 : (k : Int) < (l.length : Int) := by omega
      have d0 := HC.out k hlt
      have hyes : chk k (l[k]'hlt) = true → Aside0 ((List.range (k + 1)).all (fun i => chk i (l.getD i 0)) = true) := fun h => ⟨beg_step hlt HP.out h⟩
      have hno : chk k (l[k]'hlt) = false → Aside0 (begB l = false) := fun h => ⟨beg_no hlt h⟩
      have G48 := Aside0.mk (impl_figure (l[k]'hlt) 48 (by decide) wr)
      have G49 := Aside0.mk (impl_figure (l[k]'hlt) 49 (by decide) wr)
      obtain ⟨b, hbb⟩ : ∃ b, l[k]'hlt = b := ⟨_, rfl⟩
      rw [hbb] at d0 hyes hno G48 G49
      clear hbb
      have hks : k = 0 ∨ k = 1 ∨ k = 2 ∨ k = 3 ∨ k = 4 := by omega
      rcases hks with rfl | rfl | rfl | rfl | rfl
      · have e : chk 0 b = ((b.toNat : Int) == 64) := rfl
        rw [e] at hyes hno
        clear e
        cases hc : ((b.toNat : Int) == 64)
        · have HF := hno hc
          clear hyes hno
          go_wp2
          go_ret
          exact ⟨ret_bool HF.out.symm, HB.out⟩
        · have HS := hyes hc
          clear hyes hno
          go_wp2
          go_roundw
          case rel => exact ⟨1, by omega, by go_num, HS, trivial⟩
          case measure => simp [intOf]; omega
      · have e : chk 1 b = (figB 49 b) := rfl
        rw [e] at hyes hno
        clear e
        cases hc : (figB 49 b)
        · have HF := hno hc
          rw [hc] at G49
          clear hyes hno hc
          go_wp2_with (go_at_call 124; refine G49.out.mono ?_; rintro r w2 ⟨rfl, rfl⟩)
          go_ret
          exact ⟨ret_bool HF.out.symm, HB.out⟩
        · have HS := hyes hc
          rw [hc] at G49
          clear hyes hno hc
          go_wp2_with (go_at_call 124; refine G49.out.mono ?_; rintro r w2 ⟨rfl, rfl⟩)
          go_roundw
          case rel => exact ⟨2, by omega, by go_num, HS, trivial⟩
          case measure => simp [intOf]; omega
      · have e : chk 2 b = ((b.toNat : Int) == 58) := rfl
        rw [e] at hyes hno
        clear e
        cases hc : ((b.toNat : Int) == 58)
        · have HF := hno hc
          clear hyes hno
          go_wp2
          go_ret
          exact ⟨ret_bool HF.out.symm, HB.out⟩
        · have HS := hyes hc
          clear hyes hno
          go_wp2
          go_roundw
          case rel => exact ⟨3, by omega, by go_num, HS, trivial⟩
          case measure => simp [intOf]; omega
      · have e : chk 3 b = (figB 49 b) := rfl
        rw [e] at hyes hno
        clear e
        cases hc : (figB 49 b)
        · have HF := hno hc
          rw [hc] at G49
          clear hyes hno hc
          go_wp2_with (go_at_call 124; refine G49.out.mono ?_; rintro r w2 ⟨rfl, rfl⟩)
          go_ret
          exact ⟨ret_bool HF.out.symm, HB.out⟩
        · have HS := hyes hc
          rw [hc] at G49
          clear hyes hno hc
          go_wp2_with (go_at_call 124; refine G49.out.mono ?_; rintro r w2 ⟨rfl, rfl⟩)
          go_roundw
          case rel => exact ⟨4, by omega, by go_num, HS, trivial⟩
          case measure => simp [intOf]; omega
      · have e : chk 4 b = (figB 48 b) := rfl
        rw [e] at hyes hno
        clear e
        cases hc : (figB 48 b)
        · have HF := hno hc
          rw [hc] at G48
          clear hyes hno hc
          go_wp2_with (go_at_call 124; refine G48.out.mono ?_; rintro r w2 ⟨rfl, rfl⟩)
          go_ret
          exact ⟨ret_bool HF.out.symm, HB.out⟩
        · have HS := hyes hc
          rw [hc] at G48
          clear hyes hno hc
          go_wp2_with (go_at_call 124; refine G48.out.mono ?_; rintro r w2 ⟨rfl, rfl⟩)
          go_roundw
          case rel => exact ⟨5, by omega, by go_num, HS, trivial⟩
          case measure => simp [intOf]; omega
    · obtain rfl : k = l.length := by omega
      have HF := Aside0.mk (show begB l = true from HP.out)
      go_wp2
      go_ret
      exact ⟨ret_bool HF.out.symm, HB.out⟩
end Go.Proofs.YtfjbjiklohjodaaGreatDoor.Z
namespace Go.Proofs.YtfjbjiklohjodaaGreatDoor.Z
open Go.RowKit Go.Proofs.YtfjbjiklohjodaaGreatDoorW.PrintWords Go.Proofs.YtfjbjiklohjodaaGreatDoorW.PrintLast
set_option linter.unusedVariables false
set_option linter.unusedSimpArgs false
attribute [local go_sem ↓] Go.wp_at_zero Go.wp_at_succ
attribute [local go_sem high] bytes_append
theorem bytes_get (l : List UInt8) (k : Nat) (h : k < (⟨l.toArray⟩ : ByteArray).size) : (⟨l.toArray⟩ : ByteArray)[k]'h = l[k]'h := rfl
attribute [local go_sem high] bytes_get
theorem int_beq (x y : Int) : (x == y) = decide (x = y) := by rw [Bool.eq_iff_iff]; simp
theorem fig_dig (b : UInt8) : figB 49 b = decide (1 ≤ digI b) ∧ figB 48 b = decide (0 ≤ digI b) := by
  unfold figB digI
  constructor
  · rw [Bool.eq_iff_iff]; simp; split <;> omega
  · rw [Bool.eq_iff_iff]; simp; split <;> omega
set_option maxRecDepth 100000 in
theorem spec_beg1 (a : UInt8) (w : World) : Calls Tryz.prog 183 #[vS [a]] w fun r w' => r = .returned (.bool (begB [a])) ∧ w' = w := by
  have e0 : begB [a] = (decide ((a.toNat : Int) = 64)) := by
    simp [begB, chk, List.range_succ, int_beq, Bool.and_assoc]
  have E := Aside0.mk e0; clear e0
  go_enter Tryz.func183, Tryz.ntmps183
  go_wp2_with (first | (go_at_call 63; refine (spec_l6In _ _ _ _).mono ?_; rintro r w1 ⟨rfl, rfl⟩; rw [show inB _ 1 5 = true from by decide]) | (go_at_call 191; refine (spec_l1Digit _ _).mono ?_; rintro r w2 ⟨rfl, rfl⟩))
  all_goals
    go_ret
    refine ⟨congrArg Ending.returned ((congrArg Value.bool ?_).trans (congrArg Value.bool E.out.symm)), rfl⟩
    rw [Bool.eq_iff_iff]
    simp at *
    first | done | omega
set_option maxRecDepth 100000 in
theorem spec_beg2 (a b : UInt8) (w : World) : Calls Tryz.prog 183 #[vS [a, b]] w fun r w' => r = .returned (.bool (begB [a, b])) ∧ w' = w := by
  have e0 : begB [a, b] = (decide ((a.toNat : Int) = 64) && decide (1 ≤ digI b)) := by
    simp [begB, chk, List.range_succ, int_beq, (fig_dig b).1, Bool.and_assoc]
  have E := Aside0.mk e0; clear e0
  go_enter Tryz.func183, Tryz.ntmps183
  go_wp2_with (first | (go_at_call 63; refine (spec_l6In _ _ _ _).mono ?_; rintro r w1 ⟨rfl, rfl⟩; rw [show inB _ 1 5 = true from by decide]) | (go_at_call 191; refine (spec_l1Digit _ _).mono ?_; rintro r w2 ⟨rfl, rfl⟩))
  all_goals
    go_ret
    refine ⟨congrArg Ending.returned ((congrArg Value.bool ?_).trans (congrArg Value.bool E.out.symm)), rfl⟩
    rw [Bool.eq_iff_iff]
    simp at *
    first | done | omega
set_option maxRecDepth 100000 in
theorem spec_beg3 (a b c : UInt8) (w : World) : Calls Tryz.prog 183 #[vS [a, b, c]] w fun r w' => r = .returned (.bool (begB [a, b, c])) ∧ w' = w := by
  have e0 : begB [a, b, c] = (decide ((a.toNat : Int) = 64) && decide (1 ≤ digI b) && decide ((c.toNat : Int) = 58)) := by
    simp [begB, chk, List.range_succ, int_beq, (fig_dig b).1, Bool.and_assoc]
  have E := Aside0.mk e0; clear e0
  go_enter Tryz.func183, Tryz.ntmps183
  go_wp2_with (first | (go_at_call 63; refine (spec_l6In _ _ _ _).mono ?_; rintro r w1 ⟨rfl, rfl⟩; rw [show inB _ 1 5 = true from by decide]) | (go_at_call 191; refine (spec_l1Digit _ _).mono ?_; rintro r w2 ⟨rfl, rfl⟩))
  all_goals
    go_ret
    refine ⟨congrArg Ending.returned ((congrArg Value.bool ?_).trans (congrArg Value.bool E.out.symm)), rfl⟩
    rw [Bool.eq_iff_iff]
    simp at *
    first | done | omega
set_option maxRecDepth 100000 in
theorem spec_beg4 (a b c d : UInt8) (w : World) : Calls Tryz.prog 183 #[vS [a, b, c, d]] w fun r w' => r = .returned (.bool (begB [a, b, c, d])) ∧ w' = w := by
  have e0 : begB [a, b, c, d] = (decide ((a.toNat : Int) = 64) && decide (1 ≤ digI b) && decide ((c.toNat : Int) = 58) && decide (1 ≤ digI d)) := by
    simp [begB, chk, List.range_succ, int_beq, (fig_dig b).1, (fig_dig d).1, Bool.and_assoc]
  have E := Aside0.mk e0; clear e0
  go_enter Tryz.func183, Tryz.ntmps183
  go_wp2_with (first | (go_at_call 63; refine (spec_l6In _ _ _ _).mono ?_; rintro r w1 ⟨rfl, rfl⟩; rw [show inB _ 1 5 = true from by decide]) | (go_at_call 191; refine (spec_l1Digit _ _).mono ?_; rintro r w2 ⟨rfl, rfl⟩))
  all_goals
    go_ret
    refine ⟨congrArg Ending.returned ((congrArg Value.bool ?_).trans (congrArg Value.bool E.out.symm)), rfl⟩
    rw [Bool.eq_iff_iff]
    simp at *
    first | done | omega
set_option maxRecDepth 100000 in
theorem spec_beg5 (a b c d e : UInt8) (w : World) : Calls Tryz.prog 183 #[vS [a, b, c, d, e]] w fun r w' => r = .returned (.bool (begB [a, b, c, d, e])) ∧ w' = w := by
  have e0 : begB [a, b, c, d, e] = (decide ((a.toNat : Int) = 64) && decide (1 ≤ digI b) && decide ((c.toNat : Int) = 58) && decide (1 ≤ digI d) && decide (0 ≤ digI e)) := by
    simp [begB, chk, List.range_succ, int_beq, (fig_dig b).1, (fig_dig d).1, (fig_dig e).2, Bool.and_assoc]
  have E := Aside0.mk e0; clear e0
  go_enter Tryz.func183, Tryz.ntmps183
  go_wp2_with (first | (go_at_call 63; refine (spec_l6In _ _ _ _).mono ?_; rintro r w1 ⟨rfl, rfl⟩; rw [show inB _ 1 5 = true from by decide]) | (go_at_call 191; refine (spec_l1Digit _ _).mono ?_; rintro r w2 ⟨rfl, rfl⟩))
  all_goals
    go_ret
    refine ⟨congrArg Ending.returned ((congrArg Value.bool ?_).trans (congrArg Value.bool E.out.symm)), rfl⟩
    rw [Bool.eq_iff_iff]
    simp at *
    first | done | omega
end Go.Proofs.YtfjbjiklohjodaaGreatDoor.Z
namespace Go.Proofs.YtfjbjiklohjodaaGreatDoor.Z
open Go.RowKit Go.Proofs.YtfjbjiklohjodaaGreatDoorW.PrintWords Go.Proofs.YtfjbjiklohjodaaGreatDoorW.PrintLast
set_option linter.unusedVariables false
set_option linter.unusedSimpArgs false
attribute [local go_sem ↓] Go.wp_at_zero Go.wp_at_succ
attribute [local go_sem high] bytes_append
theorem spec_l2Begins (l : List UInt8) (h1 : 1 ≤ l.length) (h5 : l.length ≤ 5) (w : World) : Calls Tryz.prog 183 #[vS l] w fun r w' => r = .returned (.bool (begB l)) ∧ w' = w := by
  match l, h1, h5 with
  | [a], _, _ => exact spec_beg1 a w
  | [a, b], _, _ => exact spec_beg2 a b w
  | [a, b, c], _, _ => exact spec_beg3 a b c w
  | [a, b, c, d], _, _ => exact spec_beg4 a b c d w
  | [a, b, c, d, e], _, _ => exact spec_beg5 a b c d e w
  | _ :: _ :: _ :: _ :: _ :: _ :: _, _, h => simp at h
def heldFrom (l : List UInt8) : Nat → Nat
  | 0 => 0
  | n + 1 => if begB (l.drop (l.length - (n + 1))) then n + 1 else heldFrom l n
def heldN (l : List UInt8) : Nat := heldFrom l (min 5 l.length)
theorem bytes_drop (l : List UInt8) (a : Nat) : (⟨l.toArray⟩ : ByteArray).extract a l.length = ⟨(l.drop a).toArray⟩ := by
  apply ByteArray.ext
  simp [ByteArray.data_extract]
  rw [List.take_of_length_le (by rw [List.length_drop]; omega)]
set_option maxHeartbeats 1000000 in
theorem impl_held (l : List UInt8) (hl : l.length ≤ 140737488355328) (w : World) :
    Calls Tryz.prog 131 #[vS l] w fun r w' => r = .returned (.int .i64 (heldN l)) ∧ Below w.heap.size w w' := by
  go_enter Tryz.func131, Tryz.ntmps131
  go_wp2
  go_loopw [3] (fun i w' => ∃ k : Nat, k ≤ 5 ∧ k ≤ l.length ∧ i = .int .i64 k ∧ Aside0 (heldFrom l k = heldN l) ∧ Below w.heap.size w w') (fun i _ => (intOf i).toNat)
  case atStart => exact ⟨min 5 l.length, by omega, by omega, by congr 1; omega, ⟨rfl⟩, Below.refl _ _⟩
  case round =>
    obtain ⟨k, hk5, hkl, rfl, HP, hb⟩ := hrel
    by_cases hk : 0 < k
    · have t1 : decide ((k : Int) > 0) = true := decide_eq_true (by omega)
      have t2 : decide ((0 : Int) < (k : Int)) = true := decide_eq_true (by omega)
      obtain ⟨n, rfl⟩ : ∃ n, k = n + 1 := ⟨k - 1, by omega⟩
      have hlen : (l.drop (l.length - (n + 1))).length = n + 1 := by rw [List.length_drop]; omega
      have hstep : heldFrom l (n + 1) = if begB (l.drop (l.length - (n + 1))) then n + 1 else heldFrom l n := rfl
      obtain ⟨x, hx⟩ : ∃ x, l.drop (l.length - (n + 1)) = x := ⟨_, rfl⟩
      have hex : (⟨l.toArray⟩ : ByteArray).extract (l.length - (n + 1)) l.length = ⟨x.toArray⟩ := by rw [bytes_drop, hx]
      rw [hx] at hlen hstep
      have HX := Aside0.mk hlen; clear hlen hx
      cases hbeg : begB x
      · have HS : Aside0 (heldFrom l n = heldN l) := ⟨by rw [← HP.out, hstep, hbeg]; rfl⟩
        have HB := Aside0.mk hbeg
        clear hbeg hstep HP
        go_wp2_with (go_at_call 169; rw [hex]; refine (impl_beginning x (by rw [HX.out]; omega) _).mono ?_; rintro r w2 ⟨rfl, hb2⟩; rw [HB.out])
        go_roundw
        case rel => exact ⟨n, by omega, by omega, by go_num, HS, below_step hb hb2⟩
        case measure => simp [intOf]
      · have HS : Aside0 (heldN l = n + 1) := ⟨by rw [← HP.out, hstep, if_pos hbeg]⟩
        have HB := Aside0.mk hbeg
        clear hbeg hstep HP
        go_wp2_with (go_at_call 169; rw [hex]; refine (impl_beginning x (by rw [HX.out]; omega) _).mono ?_; rintro r w2 ⟨rfl, hb2⟩; rw [HB.out])
        go_ret
        exact ⟨by simp [HS.out], below_step hb hb2⟩
    · obtain rfl : k = 0 := by omega
      have HS : Aside0 (heldN l = 0) := ⟨HP.out.symm⟩
      go_wp2
      go_ret
      exact ⟨by simp [HS.out], hb⟩
set_option maxHeartbeats 1000000 in
theorem spec_l2Held (l : List UInt8) (hl : l.length ≤ 140737488355328) (w : World) :
    Calls Tryz.prog 166 #[vS l] w fun r w' => r = .returned (.int .i64 (heldN l)) ∧ Below w.heap.size w w' := by
  go_enter Tryz.func166, Tryz.ntmps166
  go_wp2
  go_loopw [3] (fun i w' => ∃ k : Nat, k ≤ 5 ∧ k ≤ l.length ∧ i = .int .i64 k ∧ Aside0 (heldFrom l k = heldN l) ∧ Below w.heap.size w w') (fun i _ => (intOf i).toNat)
  case atStart => exact ⟨min 5 l.length, by omega, by omega, by congr 1; omega, ⟨rfl⟩, Below.refl _ _⟩
  case round =>
    obtain ⟨k, hk5, hkl, rfl, HP, hb⟩ := hrel
    by_cases hk : 0 < k
    · have t1 : decide ((k : Int) > 0) = true := decide_eq_true (by omega)
      have t2 : decide ((0 : Int) < (k : Int)) = true := decide_eq_true (by omega)
      obtain ⟨n, rfl⟩ : ∃ n, k = n + 1 := ⟨k - 1, by omega⟩
      have hlen : (l.drop (l.length - (n + 1))).length = n + 1 := by rw [List.length_drop]; omega
      have hstep : heldFrom l (n + 1) = if begB (l.drop (l.length - (n + 1))) then n + 1 else heldFrom l n := rfl
      obtain ⟨x, hx⟩ : ∃ x, l.drop (l.length - (n + 1)) = x := ⟨_, rfl⟩
      have hex : (⟨l.toArray⟩ : ByteArray).extract (l.length - (n + 1)) l.length = ⟨x.toArray⟩ := by rw [bytes_drop, hx]
      rw [hx] at hlen hstep
      have HX := Aside0.mk hlen; clear hlen hx
      cases hbeg : begB x
      · have HS : Aside0 (heldFrom l n = heldN l) := ⟨by rw [← HP.out, hstep, hbeg]; rfl⟩
        have HB := Aside0.mk hbeg
        clear hbeg hstep HP
        go_wp2_with (go_at_call 183; rw [hex]; refine (spec_l2Begins x (by rw [HX.out]; omega) (by rw [HX.out]; omega) _).mono ?_; rintro r w2 ⟨rfl, rfl⟩; rw [HB.out])
        go_roundw
        case rel => exact ⟨n, by omega, by omega, by go_num, HS, hb⟩
        case measure => simp [intOf]
      · have HS : Aside0 (heldN l = n + 1) := ⟨by rw [← HP.out, hstep, if_pos hbeg]⟩
        have HB := Aside0.mk hbeg
        clear hbeg hstep HP
        go_wp2_with (go_at_call 183; rw [hex]; refine (spec_l2Begins x (by rw [HX.out]; omega) (by rw [HX.out]; omega) _).mono ?_; rintro r w2 ⟨rfl, rfl⟩; rw [HB.out])
        go_ret
        exact ⟨by simp [HS.out], hb⟩
    · obtain rfl : k = 0 := by omega
      have HS : Aside0 (heldN l = 0) := ⟨HP.out.symm⟩
      go_wp2
      go_ret
      exact ⟨by simp [HS.out], hb⟩
end Go.Proofs.YtfjbjiklohjodaaGreatDoor.Z
namespace Go.Proofs.YtfjbjiklohjodaaGreatDoor.Z
open Go.RowKit Go.Proofs.YtfjbjiklohjodaaGreatDoorW.PrintWords Go.Proofs.YtfjbjiklohjodaaGreatDoorW.PrintLast
set_option linter.unusedVariables false
set_option linter.unusedSimpArgs false
attribute [local go_sem ↓] Go.wp_at_zero Go.wp_at_succ
attribute [local go_sem high] bytes_append
def nameOf (e : En) : List UInt8 := 64 :: (endText e ++ [59])
theorem impl_name (e : En) (w : World) : Calls Tryz.prog 172 #[vEn e] w fun r w' => r = .returned (vS (nameOf e)) ∧ Below w.heap.size w w' := by
  have hl := endText_len e
  have h1 : ¬ (9223372036854775807 < 1 + (endText e).length) := by omega
  have h2 : ¬ (9223372036854775807 < (endText e).length + 1) := by omega
  have h3 : ¬ (9223372036854775807 < 1 + (endText e).length + 1) := by omega
  have h4 : ¬ (9223372036854775807 < (endText e).length + 1 + 1) := by omega
  obtain ⟨l, hx⟩ : ∃ l, endText e = l := ⟨_, rfl⟩
  have HX := Aside0.mk hx
  rw [hx] at h1 h2 h3 h4
  clear hx hl
  go_enter Tryz.func172, Tryz.ntmps172
  go_wp2_with (go_at_call 188; refine (impl_EndText e _).mono ?_; rintro r w1 ⟨rfl, hb1⟩; rw [HX.out])
  go_ret
  exact ⟨by unfold nameOf; rw [HX.out]; rfl, below_step (by repeat (first | (with_reducible exact (Below.refl _ _)) | (with_reducible apply below_alloc) | (with_reducible apply pw_below_drewN) | (with_reducible apply below_drew1) | with_reducible refine below_set ?_ (by first | (with_reducible exact Nat.le_refl _) | (with_reducible assumption) | (simp; done) | omega | (simp; omega)))) hb1⟩
def upto59 (l : List UInt8) : List UInt8 := l.takeWhile (fun b => b != 59)
def nm (l : List UInt8) : Option En := match l with
  | [] => none
  | c :: t => if c == 64 && t.contains 59 then endRead (upto59 t) else none
theorem text_no59 : ∀ e ∈ allEnds, (endText e).all (fun b => b != 59) = true := by decide +kernel
theorem nm_name {e : En} (h : anyB e = true) (r : List UInt8) : nm (nameOf e ++ r) = some e := by
  have h1 := text_no59 e (anyB_mem h)
  have h2 : upto59 (endText e ++ [59] ++ r) = endText e := by
    unfold upto59
    rw [List.append_assoc, List.takeWhile_append_of_pos (by simpa using h1)]
    simp
  show (if (64 : UInt8) == 64 && (endText e ++ [59] ++ r).contains 59 then endRead (upto59 (endText e ++ [59] ++ r)) else none) = some e
  rw [h2, endRead_of h]
  simp
theorem nm_some {l : List UInt8} {e : En} (h : nm l = some e) : anyB e = true ∧ ∃ r, l = nameOf e ++ r := by
  cases l with
  | nil => cases h
  | cons c t =>
    unfold nm at h
    simp only at h
    split at h
    · rename_i hc
      rw [Bool.and_eq_true, beq_iff_eq] at hc
      obtain ⟨ha, ht⟩ := endRead_some h
      refine ⟨ha, (t.dropWhile (fun b => b != 59)).tail, ?_⟩
      have h1 : t = upto59 t ++ t.dropWhile (fun b => b != 59) := (List.takeWhile_append_dropWhile).symm
      have h2 : ∃ r, t.dropWhile (fun b => b != 59) = 59 :: r := by
        cases hd : t.dropWhile (fun b => b != 59) with
        | nil =>
          exfalso
          have h3 : (59 : UInt8) ∈ t := by simpa using hc.2
          rw [h1, hd, List.append_nil] at h3
          have := List.all_eq_true.1 (List.all_takeWhile (l := t) (p := fun b => b != 59)) 59 h3
          simp at this
        | cons b r =>
          have := List.head?_dropWhile_not (fun b => b != (59 : UInt8)) t
          rw [hd] at this
          simp at this
          exact ⟨r, by rw [this]⟩
      obtain ⟨r, hr⟩ := h2
      rw [hr, List.tail_cons]
      unfold nameOf
      rw [ht, hc.1, List.cons_append, List.append_assoc, List.singleton_append, ← hr, ← h1]
    · cases h
theorem idx59 : ∀ t : List UInt8, Go.Lib.index t [59] = if t.contains 59 then ((upto59 t).length : Int) else -1
  | [] => by simp [Go.Lib.index]
  | b :: l => by
    have ih := idx59 l
    unfold Go.Lib.index
    by_cases h : b = 59
    · subst h
      simp [upto59]
    · have h1 : ([59] : List UInt8).isPrefixOf (b :: l) = false := by rw [List.isPrefixOf_cons_cons, show ((59 : UInt8) == b) = false from beq_eq_false_iff_ne.2 (fun e => h e.symm), Bool.false_and]
      have h2 : (b != 59) = true := by simpa using h
      have h3 : upto59 (b :: l) = b :: upto59 l := by unfold upto59; rw [List.takeWhile_cons, h2]; rfl
      have h4 : (b :: l).contains 59 = l.contains 59 := by rw [List.contains_cons, show ((59 : UInt8) == b) = false from beq_eq_false_iff_ne.2 (fun e => h e.symm), Bool.false_or]
      rw [h1, ih, h3, h4]
      by_cases hc : l.contains 59 = true
      · simp only [hc, if_true]
        rw [if_neg (by simp), if_neg (by rw [beq_iff_eq]; omega)]
        simp
      · rw [Bool.not_eq_true] at hc
        simp only [hc]
        rfl
theorem cut59 (t : List UInt8) : (Go.Lib.cut t [59]).2.2 = t.contains 59 ∧ (t.contains 59 = true → (Go.Lib.cut t [59]).1 = upto59 t) ∧ (Go.Lib.cut t [59]).1.length ≤ t.length := by
  unfold Go.Lib.cut
  rw [idx59]
  by_cases hc : t.contains 59 = true
  · rw [if_pos hc, if_pos (by omega)]
    refine ⟨hc.symm, fun _ => ?_, by simp; omega⟩
    have h1 : t = upto59 t ++ t.dropWhile (fun b => b != 59) := (List.takeWhile_append_dropWhile).symm
    simp only [Int.toNat_natCast]
    have h2 : (upto59 t ++ t.dropWhile (fun b => b != 59)).take (upto59 t).length = upto59 t := by rw [List.take_append_of_le_length (Nat.le_refl _), List.take_length]
    rw [← h1] at h2
    exact h2
  · rw [if_neg hc, if_neg (by omega)]
    exact ⟨by simpa using hc, fun h => absurd h hc, Nat.le_refl _⟩
end Go.Proofs.YtfjbjiklohjodaaGreatDoor.Z
namespace Go.Proofs.YtfjbjiklohjodaaGreatDoor.Z
open Go.RowKit Go.Proofs.YtfjbjiklohjodaaGreatDoorW.PrintWords Go.Proofs.YtfjbjiklohjodaaGreatDoorW.PrintLast
set_option linter.unusedVariables false
set_option linter.unusedSimpArgs false
attribute [local go_sem ↓] Go.wp_at_zero Go.wp_at_succ
attribute [local go_sem high] bytes_append
set_option maxHeartbeats 2000000 in
theorem impl_readName (t : List UInt8) (hl : t.length ≤ 100000000) (w : World) (hv : VarsIn w) :
    Calls Tryz.prog 171 #[vS t] w fun r w' => ∃ e, r = .returned (.tuple #[vEn e, .bool (nm (64 :: t)).isSome]) ∧ Aside0 (∀ e', nm (64 :: t) = some e' → e = e') ∧ Below w.heap.size w w' := by
  obtain ⟨cc1, cc2, cc3⟩ := cut59 t
  have bk := heap_alloc_new w (.cells #[.int .i64 0, .int .i64 0] 62)
  have hb0 : Below w.heap.size w (w.alloc (.cells #[.int .i64 0, .int .i64 0] 62)) := below_alloc (Below.refl _ _) _
  obtain ⟨⟨⟨m, hm⟩, _⟩, _⟩ := hv.next hb0
  have hcut := Aside0.mk (Tryz.strings_Cut ⟨t.toArray⟩ ⟨#[59]⟩ m (w.alloc (.cells #[.int .i64 0, .int .i64 0] 62)) (by show t.length < _; omega) hm)
  clear hm
  obtain ⟨x1, hx1⟩ : ∃ x, (Go.Lib.cut t [59]).1 = x := ⟨_, rfl⟩
  obtain ⟨x2, hx2⟩ : ∃ x, (Go.Lib.cut t [59]).2.1 = x := ⟨_, rfl⟩
  obtain ⟨x3, hx3⟩ : ∃ x, (Go.Lib.cut t [59]).2.2 = x := ⟨_, rfl⟩
  simp only [List.toList_toArray] at hcut
  rw [hx1, hx2, hx3] at hcut
  rw [hx1] at cc2 cc3
  rw [hx3] at cc1
  have hN : nm (64 :: t) = if x3 = true then endRead x1 else none := by
    have h0 : nm (64 :: t) = if t.contains 59 = true then endRead (upto59 t) else none := by
      show (if ((64 : UInt8) == 64 && t.contains 59) = true then endRead (upto59 t) else none) = _
      rw [beq_self_eq_true, Bool.true_and]
    rw [h0, cc1]
    by_cases hc : t.contains 59 = true
    · rw [if_pos hc, if_pos hc, cc2 hc]
    · rw [if_neg hc, if_neg hc]
  obtain ⟨o, ho⟩ : ∃ o, endRead x1 = o := ⟨_, rfl⟩
  rw [ho] at hN
  have HN := Aside0.mk hN
  have HO := Aside0.mk ho
  clear hN ho hx1 hx2 hx3 cc1 cc2
  go_enter Tryz.func171, Tryz.ntmps171
  go_wp2_with (go_at_call 186; refine hcut.out.mono ?_; rintro r w1 ⟨rfl, k, rfl⟩)
  have hbd := pw_below_drewN hb0 k
  refine (impl_EndRead x1 (by omega) _ (hv.below hbd hv.2)).mono ?_
  rintro r w2 ⟨rfl, hb2⟩
  rw [HO.out]
  replace bk := (hb2.block w.heap.size (by show w.heap.size < (w.alloc _).heap.size; simp)).trans bk
  have hz0 : w.heap.size < w2.heap.size := blk_lt bk
  replace hb2 : Below w.heap.size w w2 := below_step hbd hb2
  go_upto_region 3 with fail
  obtain ⟨e, he⟩ : ∃ e, e = o.getD zEn := ⟨_, rfl⟩
  rw [← he]
  obtain ⟨wb, hwb, hbb, bk2, hzb⟩ := box_as w2 (.cells #[.int .i64 e.addr, .int .i64 e.port] 62)
  rw [← hwb]
  clear hwb
  replace bk := (hbb.block _ hz0).trans bk
  have hB : Below w.heap.size w wb := below_step hb2 hbb
  have c0 : wb.cell? ⟨w.heap.size, 0, none⟩ = some (.int .i64 0) := (blk_cell bk 0).trans rfl
  have c1 : wb.cell? ⟨w.heap.size, 1, none⟩ = some (.int .i64 0) := (blk_cell bk 1).trans rfl
  have f0 := blk_frozen bk 0
  have f1 := blk_frozen bk 1
  have e0 : wb.cell? ⟨w2.heap.size, 0, none⟩ = some (.int .i64 e.addr) := (blk_cell bk2 0).trans rfl
  have e1 : wb.cell? ⟨w2.heap.size, 1, none⟩ = some (.int .i64 e.port) := (blk_cell bk2 1).trans rfl
  have HE := Aside0.mk he
  clear bk bk2 he
  cases x3
  · go_wp2
    refine bodyPost_ret (v := (.tuple #[vEn e, .bool false])) (by simp [results, Tryz.results171, go_sem, zEn, *]) rfl ⟨e, by rw [HN.out]; rfl, ⟨fun e' h => by rw [HN.out] at h; cases h⟩, (hB.setCell (Nat.le_refl _) _).setCell (Nat.le_refl _) _⟩
  · go_wp2
    refine bodyPost_ret (v := (.tuple #[vEn e, .bool o.isSome])) (by simp [results, Tryz.results171, go_sem, zEn, *]) rfl ⟨e, by rw [HN.out]; rfl, ⟨fun e' h => by rw [HN.out] at h; simp only [if_true] at h; rw [HE.out, h]; rfl⟩, (hB.setCell (Nat.le_refl _) _).setCell (Nat.le_refl _) _⟩
end Go.Proofs.YtfjbjiklohjodaaGreatDoor.Z
namespace Go.Proofs.YtfjbjiklohjodaaGreatDoor.Z
open Go.RowKit Go.Proofs.YtfjbjiklohjodaaGreatDoorW.PrintWords
set_option linter.unusedVariables false
set_option linter.unusedSimpArgs false
structure Pc where
  size : Int
  named : Bool
  fin : En
  deriving DecidableEq, Inhabited
abbrev vPc (p : Pc) : Value := .agg #[.int .i64 p.size, .bool p.named, .int .i64 p.fin.addr, .int .i64 p.fin.port]
def pieceAt (l : List UInt8) : Pc := match nm l with
  | some e => ⟨(nameOf e).length, true, e⟩
  | none => ⟨1, false, zEn⟩
def pcs : Nat → List UInt8 → List Pc
  | 0, _ => []
  | n + 1, l => if l = [] then [] else pieceAt l :: pcs n (l.drop (pieceAt l).size.toNat)
theorem pieceAt_size {l : List UInt8} (h : l ≠ []) : 1 ≤ (pieceAt l).size ∧ (pieceAt l).size.toNat ≤ l.length := by
  unfold pieceAt
  cases hn : nm l with
  | none =>
    refine ⟨by simp, ?_⟩
    have : 0 < l.length := List.length_pos_iff.2 h
    simp; omega
  | some e =>
    obtain ⟨_, r, hr⟩ := nm_some hn
    refine ⟨by simp [nameOf]; omega, ?_⟩
    rw [hr]
    simp
end Go.Proofs.YtfjbjiklohjodaaGreatDoor.Z
namespace Go.Proofs.YtfjbjiklohjodaaGreatDoor.Z
open Go.RowKit Go.Proofs.YtfjbjiklohjodaaGreatDoorW.PrintWords Go.Proofs.YtfjbjiklohjodaaGreatDoorW.PrintLast
set_option linter.unusedVariables false
set_option linter.unusedSimpArgs false
attribute [local go_sem ↓] Go.wp_at_zero Go.wp_at_succ
attribute [local go_sem high] bytes_append
set_option maxHeartbeats 2000000 in
theorem impl_piece (l : List UInt8) (hl : l.length ≤ 100000000) (w : World) (hv : VarsIn w) :
    Calls Tryz.prog 132 #[vS l] w fun r w' => r = .returned (vPc (pieceAt l)) ∧ Below w.heap.size w w' := by
  have bk := heap_alloc_new w (.cells #[.int .i64 0, .bool false, .int .i64 0, .int .i64 0] 116)
  have hb0 : Below w.heap.size w (w.alloc (.cells #[.int .i64 0, .bool false, .int .i64 0, .int .i64 0] 116)) := below_alloc (Below.refl _ _) _
  have hcp := Aside0.mk (Tryz.strings_CutPrefix ⟨l.toArray⟩ ⟨#[64]⟩ (w.alloc (.cells #[.int .i64 0, .bool false, .int .i64 0, .int .i64 0] 116)))
  by_cases h64 : ∃ t, l = 64 :: t
  · obtain ⟨t, ht⟩ := h64
    have e1 : Go.Lib.trimPrefix l [64] = t := by rw [ht]; simp [Go.Lib.trimPrefix, Go.Lib.hasPrefix]
    have e2 : Go.Lib.hasPrefix l [64] = true := by rw [ht]; simp [Go.Lib.hasPrefix]
    simp only [List.toList_toArray] at hcp
    rw [e1, e2] at hcp
    have hlt : t.length ≤ 100000000 := by rw [ht] at hl; simp at hl; omega
    have HL := Aside0.mk ht
    clear ht e1 e2
    go_enter Tryz.func132, Tryz.ntmps132
    go_wp2_with (go_at_call 170; refine hcp.out.mono ?_; rintro r w1 ⟨rfl, rfl⟩)
    refine (impl_readName t hlt _ (hv.next hb0)).mono ?_
    rintro r w2 ⟨e, rfl, HE, hb2⟩
    replace bk := (hb2.block w.heap.size (by simp)).trans bk
    have hz0 : w.heap.size < w2.heap.size := blk_lt bk
    replace hb2 : Below w.heap.size w w2 := below_step hb0 hb2
    rw [← HL.out] at HE ⊢
    cases hn : nm l with
    | none =>
      have HP := Aside0.mk (show pieceAt l = ⟨1, false, zEn⟩ from by unfold pieceAt; rw [hn])
      clear hn
      have c0 : w2.cell? ⟨w.heap.size, 0, none⟩ = some (.int .i64 0) := (blk_cell bk 0).trans rfl
      have c1 : w2.cell? ⟨w.heap.size, 1, none⟩ = some (.bool false) := (blk_cell bk 1).trans rfl
      have c2 : w2.cell? ⟨w.heap.size, 2, none⟩ = some (.int .i64 0) := (blk_cell bk 2).trans rfl
      have c3 : w2.cell? ⟨w.heap.size, 3, none⟩ = some (.int .i64 0) := (blk_cell bk 3).trans rfl
      have f0 := blk_frozen bk 0
      have f1 := blk_frozen bk 1
      have f2 := blk_frozen bk 2
      have f3 := blk_frozen bk 3
      clear bk
      go_wp2
      refine bodyPost_ret (v := (vPc ⟨1, false, zEn⟩)) (by simp [results, Tryz.results132, go_sem, zEn, *]) rfl ⟨by rw [HP.out], ((((hb2.setCell (Nat.le_refl _) _).setCell (Nat.le_refl _) _).setCell (Nat.le_refl _) _).setCell (Nat.le_refl _) _).alloc (by simp; omega) _⟩
    | some e' =>
      obtain rfl := HE.out e' hn
      have HP := Aside0.mk (show pieceAt l = ⟨(nameOf e).length, true, e⟩ from by unfold pieceAt; rw [hn])
      clear hn HE
      go_upto_region 5 with fail
      obtain ⟨wb, hwb, hbb, bk2, hzb⟩ := box_as w2 (.cells #[.int .i64 e.addr, .int .i64 e.port] 62)
      rw [← hwb]
      clear hwb
      replace bk := (hbb.block _ hz0).trans bk
      have hB : Below w.heap.size w wb := below_step hb2 hbb
      have e0 : wb.cell? ⟨w2.heap.size, 0, none⟩ = some (.int .i64 e.addr) := (blk_cell bk2 0).trans rfl
      have e1 : wb.cell? ⟨w2.heap.size, 1, none⟩ = some (.int .i64 e.port) := (blk_cell bk2 1).trans rfl
      refine lin_start (fun w' => w'.cell? ⟨w2.heap.size, 0, none⟩ = some (.int .i64 e.addr) ∧ w'.cell? ⟨w2.heap.size, 1, none⟩ = some (.int .i64 e.port)) (true, [([], []), ([0], [0]), ([1], [1]), ([], []), ([2, 3], [2, 3]), ([4, 1, 0, 1, 2, 3, 4], [4])]) [0, 3, 1, 2, 4, 5] (by kernel_rfl) (by kernel_rfl) (by kernel_rfl) ⟨e0, e1⟩ ?_
      repeat (first | (refine lin_take rfl rfl (by kernel_rfl) (fun _ _ _ h => h) (by rfl) (v := ?_) (a' := ?_) ?_ ?_ ?_; rotate_left 2; (rintro w' ⟨s0, s1⟩; go_simp; with_reducible rfl); (simp only [List.getElem_toArray, List.getElem_cons_zero, List.getElem_cons_succ, Act.put, List.setIfInBounds_toArray, List.set_cons_zero, List.set_cons_succ]; rfl)) | (refine lin_off rfl rfl (by kernel_rfl) (fun _ _ _ h => h) (by rfl) (a' := ?_) ?_ ?_; rotate_left 1; (simp only [List.getElem_toArray, List.getElem_cons_zero, List.getElem_cons_succ, Act.put, List.setIfInBounds_toArray, List.set_cons_zero, List.set_cons_succ]; rfl)))
      refine lin_call rfl rfl rfl Tryz.func172 (by kernel_rfl) (by kernel_rfl) rfl (by rfl) (args := #[vEn e]) (by (try simp only [List.map_toArray, List.map_cons, List.map_nil]); first | done | rfl) (fun hS => ?_)
      refine (impl_name e _).mono ?_
      rintro r w4 ⟨rfl, hb4⟩
      refine ⟨_, rfl, ?_, ?_⟩
      · first | exact (hb4.cell (by first | exact hzb)).trans hS | (obtain ⟨s0, s1⟩ := hS; exact ⟨(hb4.cell (by first | exact hzb)).trans s0, (hb4.cell (by first | exact hzb)).trans s1⟩)
      refine lin_norm (a' := ?_) ?_ ?_; rotate_left 1; (simp only [List.getElem_toArray, List.getElem_cons_zero, List.getElem_cons_succ, Act.put, List.setIfInBounds_toArray, List.set_cons_zero, List.set_cons_succ]; rfl)
      repeat (first | (refine lin_take rfl rfl (by kernel_rfl) (fun _ _ _ h => h) (by rfl) (v := ?_) (a' := ?_) ?_ ?_ ?_; rotate_left 2; (rintro w' ⟨s0, s1⟩; go_simp; with_reducible rfl); (simp only [List.getElem_toArray, List.getElem_cons_zero, List.getElem_cons_succ, Act.put, List.setIfInBounds_toArray, List.set_cons_zero, List.set_cons_succ]; rfl)) | (refine lin_off rfl rfl (by kernel_rfl) (fun _ _ _ h => h) (by rfl) (a' := ?_) ?_ ?_; rotate_left 1; (simp only [List.getElem_toArray, List.getElem_cons_zero, List.getElem_cons_succ, Act.put, List.setIfInBounds_toArray, List.set_cons_zero, List.set_cons_succ]; rfl)))
      replace bk := (hb4.block w.heap.size (by show w.heap.size < wb.heap.size; omega)).trans bk
      have c0 : w4.cell? ⟨w.heap.size, 0, none⟩ = some (.int .i64 0) := (blk_cell bk 0).trans rfl
      have c1 : w4.cell? ⟨w.heap.size, 1, none⟩ = some (.bool false) := (blk_cell bk 1).trans rfl
      have c2 : w4.cell? ⟨w.heap.size, 2, none⟩ = some (.int .i64 0) := (blk_cell bk 2).trans rfl
      have c3 : w4.cell? ⟨w.heap.size, 3, none⟩ = some (.int .i64 0) := (blk_cell bk 3).trans rfl
      have f0 := blk_frozen bk 0
      have f1 := blk_frozen bk 1
      have f2 := blk_frozen bk 2
      have f3 := blk_frozen bk 3
      have hB4 := below_step (below_drew hB) hb4
      refine lin_skip (w1 := (((w4.setCell ⟨w.heap.size, 0, none⟩ (.int .i64 ((nameOf e).length : Int))).setCell ⟨w.heap.size, 1, none⟩ (.bool true)).setCell ⟨w.heap.size, 2, none⟩ (.int .i64 e.addr)).setCell ⟨w.heap.size, 3, none⟩ (.int .i64 e.port)) rfl rfl (by kernel_rfl) (by rfl) (fun _ => ?_) (fun hS => ?_) ?_
      · go_simp
      · obtain ⟨s0, s1⟩ := hS
        have hne : w2.heap.size ≠ w.heap.size := by omega
        constructor <;> simp [World.cell?_setCell_other, hne, hne.symm, s0, s1]
      refine lin_done (by kernel_rfl) ?_
      clear bk
      go_wp2
      refine bodyPost_ret (v := (vPc ⟨(nameOf e).length, true, e⟩)) (by simp [results, Tryz.results132, go_sem, zEn, *]) rfl ⟨by rw [HP.out], (((hB4.setCell (Nat.le_refl _) _).setCell (Nat.le_refl _) _).setCell (Nat.le_refl _) _).setCell (Nat.le_refl _) _⟩
  · have e2 : Go.Lib.hasPrefix l [64] = false := by
      cases l with
      | nil => rfl
      | cons c t =>
        have hne : ((64 : UInt8) == c) = false := beq_eq_false_iff_ne.2 (fun e => h64 ⟨t, by rw [e]⟩)
        show ((64 : UInt8) == c && _) = false
        rw [hne, Bool.false_and]
    have hn : nm l = none := by
      cases l with
      | nil => rfl
      | cons c t =>
        have hne : (c == (64 : UInt8)) = false := beq_eq_false_iff_ne.2 (fun e => h64 ⟨t, by rw [e]⟩)
        show (if (c == 64 && t.contains 59) = true then _ else none) = none
        rw [hne, Bool.false_and]
        rfl
    have HP := Aside0.mk (show pieceAt l = ⟨1, false, zEn⟩ from by unfold pieceAt; rw [hn])
    simp only [List.toList_toArray] at hcp
    rw [e2] at hcp
    clear hn e2 bk
    go_enter Tryz.func132, Tryz.ntmps132
    go_wp2_with (go_at_call 170; refine hcp.out.mono ?_; rintro r w1 ⟨rfl, rfl⟩)
    refine bodyPost_ret (v := (vPc ⟨1, false, zEn⟩)) (by simp [results, Tryz.results132, go_sem, zEn, *]) rfl ⟨by rw [HP.out], (by repeat (first | (with_reducible exact (Below.refl _ _)) | (with_reducible apply below_alloc) | (with_reducible apply pw_below_drewN) | (with_reducible apply below_drew1) | with_reducible refine below_set ?_ (by first | (with_reducible exact Nat.le_refl _) | (with_reducible assumption) | (simp; done) | omega | (simp; omega))))⟩
end Go.Proofs.YtfjbjiklohjodaaGreatDoor.Z
namespace Go.Proofs.YtfjbjiklohjodaaGreatDoor.Q
open Go.RowKit Go.Proofs.YtfjbjiklohjodaaGreatDoorW.PrintWords Go.Proofs.YtfjbjiklohjodaaGreatDoor.Z
set_option linter.unusedVariables false
set_option linter.unusedSimpArgs false
abbrev bl (a : ByteArray) : List UInt8 := a.data.toList
theorem bl_mk (a : ByteArray) : (⟨(bl a).toArray⟩ : ByteArray) = a := by cases a; simp
theorem bl_len (a : ByteArray) : (bl a).length = a.size := rfl
theorem bl_of (l : List UInt8) : bl (⟨l.toArray⟩ : ByteArray) = l := rfl
theorem vS_bl (a : ByteArray) : vS (bl a) = .string a := by show Value.string _ = _; rw [bl_mk]
def impl_TextOk.f (a0 : ByteArray) : Option Bool := if a0.size ≤ 140737488355328 then some (textOk (bl a0)) else none
theorem impl_TextOk.calls (a0 : ByteArray) (r : Bool) (w : World) (h : impl_TextOk.f a0 = some r) :
    Calls Tryz.prog 67 #[.string a0] w fun e w' => e = .returned (.bool r) ∧ Below w.heap.size w w' := by
  unfold impl_TextOk.f at h
  split at h
  · rename_i hs
    obtain rfl := Option.some.inj h
    rw [← vS_bl]
    exact impl_TextOk (bl a0) (by rw [bl_len]; exact hs) w
  · cases h
def impl_held.f (a0 : ByteArray) : Option Int := if a0.size ≤ 140737488355328 then some (heldN (bl a0)) else none
theorem impl_held.calls (a0 : ByteArray) (r : Int) (w : World) (h : impl_held.f a0 = some r) :
    Calls Tryz.prog 131 #[.string a0] w fun e w' => e = .returned (.int .i64 r) ∧ Below w.heap.size w w' := by
  unfold impl_held.f at h
  split at h
  · rename_i hs
    obtain rfl := Option.some.inj h
    rw [← vS_bl]
    exact impl_held (bl a0) (by rw [bl_len]; exact hs) w
  · cases h
def impl_name.f (a0_0 : Int) (a0_1 : Int) : Option ByteArray := some ⟨(nameOf ⟨a0_0, a0_1⟩).toArray⟩
theorem impl_name.calls (a0_0 : Int) (a0_1 : Int) (r : ByteArray) (w : World) (h : impl_name.f a0_0 a0_1 = some r) :
    Calls Tryz.prog 172 #[.agg #[.int .i64 a0_0, .int .i64 a0_1]] w fun e w' => e = .returned (.string r) ∧ Below w.heap.size w w' := by
  obtain rfl := Option.some.inj h
  exact impl_name ⟨a0_0, a0_1⟩ w
def impl_piece.f (a0 : ByteArray) : Option (Int × Bool × Int × Int) := if a0.size ≤ 100000000 then some ((pieceAt (bl a0)).size, (pieceAt (bl a0)).named, (pieceAt (bl a0)).fin.addr, (pieceAt (bl a0)).fin.port) else none
theorem impl_piece.calls (a0 : ByteArray) (r1 : Int) (r2 : Bool) (r3 : Int) (r4 : Int) (w : World) (hV : VarsIn w) (h : impl_piece.f a0 = some (r1, r2, r3, r4)) :
    Calls Tryz.prog 132 #[.string a0] w fun e w' => e = .returned (.agg #[.int .i64 r1, .bool r2, .int .i64 r3, .int .i64 r4]) ∧ Below w.heap.size w w' := by
  unfold impl_piece.f at h
  split at h
  · rename_i hs
    have h2 := Option.some.inj h
    simp only [Prod.mk.injEq] at h2
    obtain ⟨rfl, rfl, rfl, rfl⟩ := h2
    rw [← vS_bl]
    exact impl_piece (bl a0) (by rw [bl_len]; exact hs) w hV
  · cases h
end Go.Proofs.YtfjbjiklohjodaaGreatDoor.Q
namespace Go.Proofs.YtfjbjiklohjodaaGreatDoor.Q
open Go.RowKit Go.Proofs.YtfjbjiklohjodaaGreatDoorW.PrintWords Go.Proofs.YtfjbjiklohjodaaGreatDoorW.PrintMore Go.Proofs.YtfjbjiklohjodaaGreatDoor.Z
set_option linter.unusedVariables false
set_option linter.unusedSimpArgs false
attribute [local go_sem ↓] Go.wp_at_zero Go.wp_at_succ
theorem infoqPair : (Tryz.prog.info? 111).map (fun i => (i.zero, i.size, i.bytes)) = some (some (.agg #[(.int .i64 0), (.int .i64 0), (.int .i64 0)]), 3, 24) := by kernel_rfl
theorem infoqPart : (Tryz.prog.info? 109).map (fun i => (i.zero, i.size, i.bytes)) = some (some (.agg #[(.int .i64 0), (.string ⟨#[]⟩)]), 2, 24) := by kernel_rfl
theorem clone_Pair (A : Option Addr) (n c : Nat) (m : List S111) (w : World) (hC : Kd.C k111 w A n m) (hn : n ≤ 1099511627776) :
    Calls Tryz.prog 128 #[.slice A n c] w fun r w' => ∃ v, r = .returned v ∧ Kd.R k111 111 w' w.heap.size (fun _ => True) v m ∧ Below w.heap.size w w' := by
  have heq := fun (w : World) => Lib.run_eql_slice_nil (P := Tryz.prog) w 23 111 A n c 0 0 Tryz.underlying23
  cases A with
  | none =>
    have h0 : m = [] := by
      have h1 := hC.1
      by_cases hp : 0 < n
      · obtain ⟨ad, h2, _⟩ := hC.2.2 hp
        cases h2
      · exact List.length_eq_zero_iff.1 (by omega)
    subst h0
    go_enter Tryz.func128, Tryz.ntmps128
    go_wp2
    go_ret
    exact ⟨_, rfl, Kd.R_nil _ _ _ _ _, Below.refl _ _⟩
  | some ad =>
    go_enter Tryz.func128, Tryz.ntmps128
    go_wp2_with (first | ((with_reducible refine gate_dst (N := 5) rfl ?_); refine Kd.R_lit k111 _ 111 ?hg (N := 5) ?hd (xs := ([] : List S111)) (inner := []) (ok := fun _ => True) (okp := fun _ => True) ?hr ?hp (fun _ hk => hk) trivial (Below.refl _ _) (by first | exact Nat.le_refl _ | omega) (by simp) ?_; (case hd => rfl); (case hg => rfl); (case hr => first | (go_simp; done) | (go_simp; rfl)); (case hp => exact (Reps.none _ _)); intro v1 w1 ho1 hb1 _ _) | (at_builtin; refine Kd.R_append_rows k111 (w0 := _) _ rfl (.tmp 5) (.tmp 6) 23 111 (.agg #[(.int .i64 0), (.int .i64 0), (.int .i64 0)]) 24 rfl Tryz.underlying23 infoqPair rfl (by decide) (by omega) v1 [] m (some ad) n c (fun _ => True) (fun _ => False) rfl rfl ho1 (Kd.C_below hC hb1) (fun _ _ h => h) (fun _ h => h.elim) (fun _ _ => trivial) hb1 (by first | exact Nat.le_refl _ | exact Below.size hb1 | omega) (by simp; omega) ?_; intro v2 w2 ho2 hb2 _ _))
    go_ret
    exact ⟨_, rfl, by simpa using ho2, hb2⟩
def slices_Clone_Pair.f (l0 : List S111) : Option (List S111) := if l0.length ≤ 1099511627776 then some l0 else none
theorem slices_Clone_Pair.calls (A0 : Option Addr) (c0 : Nat) (l0 : List (S111)) (r : List (S111)) (w : World) (hr0 : Kd.C k111 w A0 l0.length l0) (hc0 : l0.length ≤ c0) (h : slices_Clone_Pair.f l0 = some r) :
    Calls Tryz.prog 128 #[.slice A0 l0.length c0] w fun e w' => ∃ v0_ : Value, e = .returned (v0_) ∧ Kd.R k111 111 w' w.heap.size (fun _ => True) v0_ r ∧ Below w.heap.size w w' := by
  unfold slices_Clone_Pair.f at h
  split at h
  · rename_i hs
    obtain rfl := Option.some.inj h
    exact clone_Pair A0 l0.length c0 l0 w hr0 hs
  · cases h
theorem clone_Part (A : Option Addr) (n c : Nat) (m : List S109) (w : World) (hC : Kd.C k109 w A n m) (hn : n ≤ 1099511627776) :
    Calls Tryz.prog 126 #[.slice A n c] w fun r w' => ∃ v, r = .returned v ∧ Kd.R k109 109 w' w.heap.size (fun _ => True) v m ∧ Below w.heap.size w w' := by
  have heq := fun (w : World) => Lib.run_eql_slice_nil (P := Tryz.prog) w 24 109 A n c 0 0 Tryz.underlying24
  cases A with
  | none =>
    have h0 : m = [] := by
      have h1 := hC.1
      by_cases hp : 0 < n
      · obtain ⟨ad, h2, _⟩ := hC.2.2 hp
        cases h2
      · exact List.length_eq_zero_iff.1 (by omega)
    subst h0
    go_enter Tryz.func126, Tryz.ntmps126
    go_wp2
    go_ret
    exact ⟨_, rfl, Kd.R_nil _ _ _ _ _, Below.refl _ _⟩
  | some ad =>
    go_enter Tryz.func126, Tryz.ntmps126
    go_wp2_with (first | ((with_reducible refine gate_dst (N := 5) rfl ?_); refine Kd.R_lit k109 _ 109 ?hg (N := 5) ?hd (xs := ([] : List S109)) (inner := []) (ok := fun _ => True) (okp := fun _ => True) ?hr ?hp (fun _ hk => hk) trivial (Below.refl _ _) (by first | exact Nat.le_refl _ | omega) (by simp) ?_; (case hd => rfl); (case hg => rfl); (case hr => first | (go_simp; done) | (go_simp; rfl)); (case hp => exact (Reps.none _ _)); intro v1 w1 ho1 hb1 _ _) | (at_builtin; refine Kd.R_append_rows k109 (w0 := _) _ rfl (.tmp 5) (.tmp 6) 24 109 (.agg #[(.int .i64 0), (.string ⟨#[]⟩)]) 24 rfl Tryz.underlying24 infoqPart rfl (by decide) (by omega) v1 [] m (some ad) n c (fun _ => True) (fun _ => False) rfl rfl ho1 (Kd.C_below hC hb1) (fun _ _ h => h) (fun _ h => h.elim) (fun _ _ => trivial) hb1 (by first | exact Nat.le_refl _ | exact Below.size hb1 | omega) (by simp; omega) ?_; intro v2 w2 ho2 hb2 _ _))
    go_ret
    exact ⟨_, rfl, by simpa using ho2, hb2⟩
def slices_Clone_Part.f (l0 : List S109) : Option (List S109) := if l0.length ≤ 1099511627776 then some l0 else none
theorem slices_Clone_Part.calls (A0 : Option Addr) (c0 : Nat) (l0 : List (S109)) (r : List (S109)) (w : World) (hr0 : Kd.C k109 w A0 l0.length l0) (hc0 : l0.length ≤ c0) (h : slices_Clone_Part.f l0 = some r) :
    Calls Tryz.prog 126 #[.slice A0 l0.length c0] w fun e w' => ∃ v0_ : Value, e = .returned (v0_) ∧ Kd.R k109 109 w' w.heap.size (fun _ => True) v0_ r ∧ Below w.heap.size w w' := by
  unfold slices_Clone_Part.f at h
  split at h
  · rename_i hs
    obtain rfl := Option.some.inj h
    exact clone_Part A0 l0.length c0 l0 w hr0 hs
  · cases h
theorem clip_Pair (A : Option Addr) (n c : Nat) (w : World) (hc : n ≤ c) :
    Calls Tryz.prog 127 #[.slice A n c] w fun r w' => r = .returned (.slice A n n) ∧ w = w' := by
  have h0 : (0 : Int) ≤ (n : Int) := Int.natCast_nonneg _
  have h1 : (n : Int) ≤ (c : Int) := by omega
  go_enter Tryz.func127, Tryz.ntmps127
  go_wp2
  go_ret
  exact ⟨by cases A <;> simp [Addr.add], rfl⟩
def slices_Clip_Pair.f (l0 : List S111) : Option (List S111) := some l0
theorem slices_Clip_Pair.calls (P0_ : Nat → Prop) (A0 : Option Addr) (c0 : Nat) (l0 : List (S111)) (r : List (S111)) (w : World) (hs0 : Kd.V k111 111 w w.heap.size (fun k_ => P0_ k_) (.slice A0 l0.length c0) l0) (h : slices_Clip_Pair.f l0 = some r) :
    Calls Tryz.prog 127 #[.slice A0 l0.length c0] w fun e w' => ∃ v0_ : Value, e = .returned (v0_) ∧ Kd.V k111 111 w' w.heap.size (fun k_ => (P0_ k_ ∨ w.heap.size ≤ k_)) v0_ r ∧ Below w.heap.size w w' := by
  obtain rfl := Option.some.inj h
  obtain ⟨A, c, e, hl, hf⟩ := hs0
  injection e with e1 e2 e3
  subst e1 e3
  refine (clip_Pair A0 l0.length c0 w hl).mono ?_
  rintro e w' ⟨rfl, rfl⟩
  exact ⟨_, rfl, ⟨A0, l0.length, rfl, Nat.le_refl _, fun W' hW => hf W' (fun k hk => hW k (.inl hk))⟩, Below.refl _ _⟩
theorem clip_Piece (A : Option Addr) (n c : Nat) (w : World) (hc : n ≤ c) :
    Calls Tryz.prog 133 #[.slice A n c] w fun r w' => r = .returned (.slice A n n) ∧ w = w' := by
  have h0 : (0 : Int) ≤ (n : Int) := Int.natCast_nonneg _
  have h1 : (n : Int) ≤ (c : Int) := by omega
  go_enter Tryz.func133, Tryz.ntmps133
  go_wp2
  go_ret
  exact ⟨by cases A <;> simp [Addr.add], rfl⟩
def slices_Clip_Piece.f (l0 : List S116) : Option (List S116) := some l0
theorem slices_Clip_Piece.calls (P0_ : Nat → Prop) (A0 : Option Addr) (c0 : Nat) (l0 : List (S116)) (r : List (S116)) (w : World) (hs0 : Kd.V k116 116 w w.heap.size (fun k_ => P0_ k_) (.slice A0 l0.length c0) l0) (h : slices_Clip_Piece.f l0 = some r) :
    Calls Tryz.prog 133 #[.slice A0 l0.length c0] w fun e w' => ∃ v0_ : Value, e = .returned (v0_) ∧ Kd.V k116 116 w' w.heap.size (fun k_ => (P0_ k_ ∨ w.heap.size ≤ k_)) v0_ r ∧ Below w.heap.size w w' := by
  obtain rfl := Option.some.inj h
  obtain ⟨A, c, e, hl, hf⟩ := hs0
  injection e with e1 e2 e3
  subst e1 e3
  refine (clip_Piece A0 l0.length c0 w hl).mono ?_
  rintro e w' ⟨rfl, rfl⟩
  exact ⟨_, rfl, ⟨A0, l0.length, rfl, Nat.le_refl _, fun W' hW => hf W' (fun k hk => hW k (.inl hk))⟩, Below.refl _ _⟩
theorem clip_End (A : Option Addr) (n c : Nat) (w : World) (hc : n ≤ c) :
    Calls Tryz.prog 181 #[.slice A n c] w fun r w' => r = .returned (.slice A n n) ∧ w = w' := by
  have h0 : (0 : Int) ≤ (n : Int) := Int.natCast_nonneg _
  have h1 : (n : Int) ≤ (c : Int) := by omega
  go_enter Tryz.func181, Tryz.ntmps181
  go_wp2
  go_ret
  exact ⟨by cases A <;> simp [Addr.add], rfl⟩
def slices_Clip_End.f (l0 : List S62) : Option (List S62) := some l0
theorem slices_Clip_End.calls (P0_ : Nat → Prop) (A0 : Option Addr) (c0 : Nat) (l0 : List (S62)) (r : List (S62)) (w : World) (hs0 : Kd.V k62 62 w w.heap.size (fun k_ => P0_ k_) (.slice A0 l0.length c0) l0) (h : slices_Clip_End.f l0 = some r) :
    Calls Tryz.prog 181 #[.slice A0 l0.length c0] w fun e w' => ∃ v0_ : Value, e = .returned (v0_) ∧ Kd.V k62 62 w' w.heap.size (fun k_ => (P0_ k_ ∨ w.heap.size ≤ k_)) v0_ r ∧ Below w.heap.size w w' := by
  obtain rfl := Option.some.inj h
  obtain ⟨A, c, e, hl, hf⟩ := hs0
  injection e with e1 e2 e3
  subst e1 e3
  refine (clip_End A0 l0.length c0 w hl).mono ?_
  rintro e w' ⟨rfl, rfl⟩
  exact ⟨_, rfl, ⟨A0, l0.length, rfl, Nat.le_refl _, fun W' hW => hf W' (fun k hk => hW k (.inl hk))⟩, Below.refl _ _⟩
theorem clip_Part (A : Option Addr) (n c : Nat) (w : World) (hc : n ≤ c) :
    Calls Tryz.prog 129 #[.slice A n c] w fun r w' => r = .returned (.slice A n n) ∧ w = w' := by
  have h0 : (0 : Int) ≤ (n : Int) := Int.natCast_nonneg _
  have h1 : (n : Int) ≤ (c : Int) := by omega
  go_enter Tryz.func129, Tryz.ntmps129
  go_wp2
  go_ret
  exact ⟨by cases A <;> simp [Addr.add], rfl⟩
def slices_Clip_Part.f (l0 : List S109) : Option (List S109) := some l0
theorem slices_Clip_Part.calls (P0_ : Nat → Prop) (A0 : Option Addr) (c0 : Nat) (l0 : List (S109)) (r : List (S109)) (w : World) (hs0 : Kd.V k109 109 w w.heap.size (fun k_ => P0_ k_) (.slice A0 l0.length c0) l0) (h : slices_Clip_Part.f l0 = some r) :
    Calls Tryz.prog 129 #[.slice A0 l0.length c0] w fun e w' => ∃ v0_ : Value, e = .returned (v0_) ∧ Kd.V k109 109 w' w.heap.size (fun k_ => (P0_ k_ ∨ w.heap.size ≤ k_)) v0_ r ∧ Below w.heap.size w w' := by
  obtain rfl := Option.some.inj h
  obtain ⟨A, c, e, hl, hf⟩ := hs0
  injection e with e1 e2 e3
  subst e1 e3
  refine (clip_Part A0 l0.length c0 w hl).mono ?_
  rintro e w' ⟨rfl, rfl⟩
  exact ⟨_, rfl, ⟨A0, l0.length, rfl, Nat.le_refl _, fun W' hW => hf W' (fun k hk => hW k (.inl hk))⟩, Below.refl _ _⟩
def prOf (x : S111) : Pr := ⟨x.f0, ⟨x.f1.f0, x.f1.f1⟩⟩
def prTo (x : Pr) : S111 := ⟨x.port, ⟨x.inside.addr, x.inside.port⟩⟩
theorem prs_to_of (l : List S111) : (l.map prOf).map prTo = l := by rw [List.map_map]; exact List.map_id _
theorem prs_of_to (l : List Pr) : (l.map prTo).map prOf = l := by rw [List.map_map]; exact List.map_id _
theorem C_pr {w : World} {A : Option Addr} {n : Nat} {l : List S111} (h : Kd.C k111 w A n l) : Kd.C kPr w A n (l.map prOf) := by
  refine ⟨by rw [List.length_map]; exact h.1, h.2.1, fun hp => ?_⟩
  obtain ⟨ad, e, hx⟩ := h.2.2 hp
  refine ⟨ad, e, fun j p hj => ?_⟩
  rw [List.getElem?_map, Option.map_eq_some_iff] at hj
  obtain ⟨x, hx1, rfl⟩ := hj
  exact hx j x hx1
theorem C_pr' {w : World} {A : Option Addr} {n : Nat} {l : List S111} (h : Kd.C kPr w A n (l.map prOf)) : Kd.C k111 w A n l := by
  refine ⟨by have := h.1; rwa [List.length_map] at this, h.2.1, fun hp => ?_⟩
  obtain ⟨ad, e, hx⟩ := h.2.2 hp
  exact ⟨ad, e, fun j p hj => hx j (prOf p) (by rw [List.getElem?_map, hj]; rfl)⟩
def impl_pairs_out.f (l0 : List S111) (a1_0 : Int) (a1_1 : Int) : Option (List S111 × Int × Bool) :=
  if l0.length ≤ 1099511627776 then some (((outI (l0.map prOf) ⟨a1_0, a1_1⟩).1.map prTo), (outI (l0.map prOf) ⟨a1_0, a1_1⟩).2.1, (outI (l0.map prOf) ⟨a1_0, a1_1⟩).2.2) else none
theorem impl_pairs_out.calls (A0 : Option Addr) (c0 : Nat) (l0 : List (S111)) (a1_0 : Int) (a1_1 : Int) (r1 : List (S111)) (r2 : Int) (r3 : Bool) (w : World) (hr0 : Kd.C k111 w A0 l0.length l0) (hc0 : l0.length ≤ c0) (h : impl_pairs_out.f l0 a1_0 a1_1 = some (r1, r2, r3)) :
    Calls Tryz.prog 174 #[.slice A0 l0.length c0, .agg #[.int .i64 a1_0, .int .i64 a1_1]] w fun e w' => ∃ v0_ : Value, e = .returned (.tuple #[v0_, .int .i64 r2, .bool r3]) ∧ Kd.V k111 111 w' w.heap.size (fun k_ => (w.heap.size ≤ k_)) v0_ r1 ∧ Below w.heap.size w w' := by
  unfold impl_pairs_out.f at h
  split at h
  · rename_i hs
    have h2 := Option.some.inj h
    simp only [Prod.mk.injEq] at h2
    obtain ⟨rfl, rfl, rfl⟩ := h2
    refine (impl_out A0 l0.length c0 (l0.map prOf) ⟨a1_0, a1_1⟩ w (C_pr hr0) hs).mono ?_
    rintro e w' ⟨v, rfl, ⟨A, c, rfl, hR⟩, hb⟩
    refine ⟨_, rfl, ?_, hb⟩
    obtain ⟨A2, c2, e2, hl2, hf2⟩ := Kd.R_V (base' := 0) (Kd.R_tight rfl hR)
    injection e2 with e3 e4 e5
    subst e3 e5
    refine ⟨A, _, by rw [List.length_map], Nat.le_refl _, fun W' hW => ?_⟩
    rw [List.length_map]
    refine C_pr' ?_
    rw [prs_of_to]
    exact hf2 W' (fun k hk => hW k (Kd.R_base hR k hk.symm))
  · cases h
end Go.Proofs.YtfjbjiklohjodaaGreatDoor.Q
