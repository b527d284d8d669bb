/- The kinds of this program's structs (an end, a pair), read in memory, and small words that every walk of this seat uses. -/
import Derived.Test.YtdmbbocjaagfkaaProg
import Derived.Test.YtdmbbocjaagfkaaWWords
import Derived.Test.YtdmbbocjaagfkaaWEqStruct
import Derived.Lib.Hide
namespace Go.Proofs.Ytdmbbocjaagfkaa.Z
open Go.RowKit Go.Proofs.YtdmbbocjaagfkaaW.PrintWords
set_option linter.unusedVariables false
set_option linter.unusedSimpArgs false

structure En where
  addr : Int
  port : Int
  deriving DecidableEq, Inhabited
structure Pr where
  port : Int
  inside : En
  deriving DecidableEq, Inhabited
def zEn : En := ⟨0, 0⟩
def zPr : Pr := ⟨0, zEn⟩
def kEn : Kd En := Kd.iso (Kd.pair (Kd.int .i64) (Kd.int .i64)) (fun x : En => (x.addr, x.port))
def kPr : Kd Pr := Kd.iso (Kd.pair (Kd.int .i64) kEn) (fun x : Pr => (x.port, x.inside))
/-- An end as a value; as cells. -/
abbrev vEn (e : En) : Value := .agg #[.int .i64 e.addr, .int .i64 e.port]
abbrev vPr (p : Pr) : Value := .agg #[.int .i64 p.port, .int .i64 p.inside.addr, .int .i64 p.inside.port]
theorem kEn_open {w : World} {x : En} {cs : List Value} (h : kEn.K w x cs) : cs = [.int .i64 x.addr, .int .i64 x.port] := by
  obtain ⟨_, _, rfl, rfl, rfl⟩ := h
  exact rfl
theorem kPr_open {w : World} {x : Pr} {cs : List Value} (h : kPr.K w x cs) : cs = [.int .i64 x.port, .int .i64 x.inside.addr, .int .i64 x.inside.port] := by
  obtain ⟨_, _, rfl, rfl, s1⟩ := h
  obtain rfl := kEn_open s1
  exact rfl
theorem kEn_mk (w : World) (x : En) : kEn.K w x [.int .i64 x.addr, .int .i64 x.port] := ⟨[.int .i64 x.addr], [.int .i64 x.port], rfl, rfl, rfl⟩
theorem kPr_mk (w : World) (x : Pr) : kPr.K w x [.int .i64 x.port, .int .i64 x.inside.addr, .int .i64 x.inside.port] := ⟨[.int .i64 x.port], _, rfl, rfl, kEn_mk w x.inside⟩
theorem kEn_mkM (w : World) (base : Nat) (ok : Nat → Prop) (x : En) : kEn.M w base ok x [.int .i64 x.addr, .int .i64 x.port] := ⟨[.int .i64 x.addr], [.int .i64 x.port], rfl, rfl, rfl⟩
theorem kPr_mkM (w : World) (base : Nat) (ok : Nat → Prop) (x : Pr) : kPr.M w base ok x [.int .i64 x.port, .int .i64 x.inside.addr, .int .i64 x.inside.port] := ⟨[.int .i64 x.port], _, rfl, rfl, kEn_mkM w base ok x.inside⟩
/-- A pair of a row that is read: its three cells. -/
theorem at_Pr {w : World} {A : Option Addr} {n : Nat} {xs : List Pr} (h : Kd.C kPr w A n xs) (k : Nat) (h1 : k < n) :
    ∃ ad p, A = some ad ∧ Aside0 (xs.getD k zPr = p) ∧ (ad.add (k * 3)).block < w.heap.size ∧ w.cell? (ad.add (k * 3)) = some (.int .i64 p.port) ∧ w.cell? ⟨(ad.add (k * 3)).block, (ad.add (k * 3)).off + 1, none⟩ = some (.int .i64 p.inside.addr) ∧ w.cell? ⟨(ad.add (k * 3)).block, (ad.add (k * 3)).off + 2, none⟩ = some (.int .i64 p.inside.port) := by
  obtain ⟨ad, c, e, _, hK, hc0⟩ := Kd.C_get h zPr (k : Int) (by omega) (by omega)
  have hc : ∀ j u, c[j]? = some u → w.cell? (ad.add (k * 3 + j)) = some u := hc0
  obtain rfl := kPr_open hK
  exact ⟨ad, _, e, ⟨rfl⟩, World.block_lt_of_cell? w _ (hc 0 _ rfl), hc 0 _ rfl, by rw [← add_field _ _ 1 (by omega)]; exact hc 1 _ rfl, by rw [← add_field _ _ 2 (by omega)]; exact hc 2 _ rfl⟩
theorem kPr_openM {w : World} {base : Nat} {ok : Nat → Prop} {x : Pr} {cs : List Value} (h : kPr.M w base ok x cs) : cs = [.int .i64 x.port, .int .i64 x.inside.addr, .int .i64 x.inside.port] := by
  obtain ⟨_, _, rfl, rfl, s1⟩ := h
  obtain ⟨_, _, rfl, rfl, rfl⟩ := s1
  exact rfl
/-- Element k of an own row of pairs, stored anew. -/
theorem put_Pr {w : World} {e base g n cap : Nat} {ok : Nat → Prop} {xs : List Pr} (h : Kd.R kPr e w base ok (.slice (some ⟨g, 0, none⟩) n cap) xs) (k : Nat) (hk : k < n) (p : Pr) :
    ∃ q : Pr, w.cell? ⟨g, k * 3, none⟩ = some (.int .i64 q.port) ∧ w.cell? ⟨g, k * 3 + 1, none⟩ = some (.int .i64 q.inside.addr) ∧ w.cell? ⟨g, k * 3 + 2, none⟩ = some (.int .i64 q.inside.port) ∧
      w.frozen? ⟨g, k * 3, none⟩ = false ∧ w.frozen? ⟨g, k * 3 + 1, none⟩ = false ∧ w.frozen? ⟨g, k * 3 + 2, none⟩ = false ∧ Aside0 (xs.getD k zPr = q) ∧
      Aside0 (Kd.R kPr e (((w.setCell ⟨g, k * 3, none⟩ (.int .i64 p.port)).setCell ⟨g, k * 3 + 1, none⟩ (.int .i64 p.inside.addr)).setCell ⟨g, k * 3 + 2, none⟩ (.int .i64 p.inside.port)) base ok (.slice (some ⟨g, 0, none⟩) n cap) (xs.set k p)) := by
  obtain ⟨cs, hcl, hM, hcc, hfr⟩ := Kd.R_elem h zPr (k : Int) (by omega) (by omega)
  obtain rfl := kPr_openM hM
  have HP := Kd.R_seg h (k : Int) (by omega) (by omega) (seg := [.int .i64 p.port, .int .i64 p.inside.addr, .int .i64 p.inside.port]) (j := 0) hcl hcc (show 3 ≤ 3 from by decide) (x' := p) (kPr_mkM _ _ _ p) (fun _ hk => hk)
  exact ⟨_, hcc 0 _ rfl, hcc 1 _ rfl, hcc 2 _ rfl, hfr 0, hfr 1, hfr 2, ⟨rfl⟩, ⟨HP.1⟩⟩
/-- '==' of two ends, of two pairs, as one Bool. -/
theorem eqEn (d : Nat) (w : World) (x0 y0 x1 y1 : Int) :
    (Op.equalIn (d + 2) 32 (.agg #[.int .i64 x0, .int .i64 x1]) (.agg #[.int .i64 y0, .int .i64 y1])).run Try.prog w = .ok (x0 == y0 && (x1 == y1)) w := by
  refine eqA_of Try.underlying32 (by kernel_rfl) ?_
  refine eqf_cons (by rfl) (by go_simp; rfl) (by go_simp; rfl) (by go_simp) ?_
  exact eqf_last (by rfl) (by go_simp; rfl) (by go_simp; rfl) (by go_simp)
theorem eqPr (d : Nat) (w : World) (x0 y0 x1 y1 x2 y2 : Int) :
    (Op.equalIn (d + 3) 34 (.agg #[.int .i64 x0, .int .i64 x1, .int .i64 x2]) (.agg #[.int .i64 y0, .int .i64 y1, .int .i64 y2])).run Try.prog w = .ok (x0 == y0 && (x1 == y1 && (x2 == y2))) w := by
  refine eqA_of Try.underlying34 (by kernel_rfl) ?_
  refine eqf_cons (by rfl) (by go_simp; rfl) (by go_simp; rfl) (by go_simp) ?_
  exact eqf_last (by rfl) (by first | (go_simp; done) | (go_simp; rfl)) (by first | (go_simp; done) | (go_simp; rfl)) (eqEn d w _ _ _ _)
/-- A slice that reads as a list. -/
def Rds {α : Type} (d : Kd α) (w : World) (v : Value) (xs : List α) : Prop := ∃ A c, v = .slice A xs.length c ∧ xs.length ≤ c ∧ d.C w A xs.length xs
theorem Rds.below {α : Type} {d : Kd α} {w w1 : World} {v : Value} {xs : List α} (h : Rds d w v xs) (hb : Below w.heap.size w w1) : Rds d w1 v xs := by
  obtain ⟨A, c, e, hl, hC⟩ := h
  exact ⟨A, c, e, hl, Kd.C_below hC hb⟩
theorem Rds.of_R {α : Type} {d : Kd α} {e : Nat} {w : World} {base : Nat} {ok : Nat → Prop} {v : Value} {xs : List α} (h : d.R e w base ok v xs) : Rds d w v xs := Kd.R_reads h
theorem C_take' {α : Type} {d : Kd α} {w : World} {A : Option Addr} {n m : Nat} {xs : List α} (h : Kd.C d w A n xs) (hm : m ≤ n) : Kd.C d w A m (xs.take m) := by
  obtain rfl : xs.length = n := h.1
  have := Kd.C_take h hm
  rwa [List.length_take, Nat.min_eq_left hm] at this
/-- Behind a call that makes memory alone: the walk's rules for all old cells; how much memory there is. -/
theorem bcell {W w1 : World} (hb : Below W.heap.size W w1) : (∀ b o, b < W.heap.size → w1.cell? ⟨b, o, none⟩ = W.cell? ⟨b, o, none⟩) ∧ (∀ b o, b < W.heap.size → w1.frozen? ⟨b, o, none⟩ = W.frozen? ⟨b, o, none⟩) ∧ W.heap.size ≤ w1.heap.size :=
  ⟨fun b o h => hb.cell (p := ⟨b, o, none⟩) h, fun b o h => hb.frozen (p := ⟨b, o, none⟩) h, hb.size⟩
/-- Two steps that make memory alone. -/
theorem below2 {a b c : World} (h : Below a.heap.size a b) (k : Below b.heap.size b c) : Below a.heap.size a c := h.trans (k.mono h.size)
theorem max_len {α : Type} {d : Kd α} {w : World} {A : Option Addr} {n : Nat} {xs : List α} (h : Kd.C d w A n xs) : n ≤ 9223372036854775807 := h.2.1
end Go.Proofs.Ytdmbbocjaagfkaa.Z
