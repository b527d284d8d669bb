/- The loops over pairs: the port that stands for an end, and whether pairs are a map; program and reference alike. -/
import Derived.Test.YtdmbbocjaagfkaaMa
namespace Go.Proofs.Ytdmbbocjaagfkaa.Z
open Go.RowKit Go.Proofs.YtdmbbocjaagfkaaW.PrintWords
set_option linter.unusedVariables false
set_option linter.unusedSimpArgs false
attribute [local go_sem ↓] Go.wp_at_zero Go.wp_at_succ
attribute [local go_sem high] eqEn eqPr

/-- The port of the first pair from k on that stands for e; 0, if none does. -/
def portFrom (m : List Pr) (e : En) (k : Nat) : Int := ((m.drop k).find? (fun p => decide (p.inside = e))).elim 0 (·.port)
theorem portFrom_end (m : List Pr) (e : En) (k : Nat) (h : m.length ≤ k) : portFrom m e k = 0 := by
  unfold portFrom; rw [List.drop_of_length_le h]; rfl
theorem drop_getD {α : Type} (m : List α) (z : α) (k : Nat) (h : k < m.length) : m.drop k = m.getD k z :: m.drop (k + 1) := by
  rw [List.drop_eq_getElem_cons h, List.getD_eq_getElem?_getD, List.getElem?_eq_getElem h]; rfl
theorem portFrom_hit {m : List Pr} {e : En} {k : Nat} {p : Pr} (h : k < m.length) (hp : Aside0 (m.getD k zPr = p)) (he : p.inside = e) : portFrom m e k = p.port := by
  obtain rfl := hp.out
  unfold portFrom; rw [drop_getD m zPr k h, List.find?_cons]; simp only [he, decide_true]; rfl
theorem portFrom_miss {m : List Pr} {e : En} {k : Nat} {p : Pr} (h : k < m.length) (hp : Aside0 (m.getD k zPr = p)) (he : p.inside ≠ e) : portFrom m e k = portFrom m e (k + 1) := by
  obtain rfl := hp.out
  unfold portFrom; rw [drop_getD m zPr k h, List.find?_cons]; simp only [he, decide_false]
theorem En_ext {a b : En} (h1 : a.addr = b.addr) (h2 : a.port = b.port) : a = b := by cases a; cases b; simp_all

theorem En_beq {a b : En} (h : a = b) : (a.addr == b.addr && (a.port == b.port)) = true := by subst h; simp
theorem En_bne {a b : En} (h : a ≠ b) : (a.addr == b.addr && (a.port == b.port)) = false := by
  rw [Bool.eq_false_iff]; intro h2; simp at h2; exact h (En_ext h2.1 h2.2)
theorem ret_int {k : IntKind} {a b : Int} (h : a = b) : Ending.returned (.int k a) = .returned (.int k b) := by rw [h]
theorem ret_bool {a b : Bool} (h : a = b) : Ending.returned (.bool a) = .returned (.bool b) := by rw [h]

set_option maxHeartbeats 1000000 in
theorem impl_port (A : Option Addr) (n c : Nat) (m : List Pr) (e : En) (w : World) (hC : Kd.C kPr w A n m) :
    Calls Try.prog 32 #[.slice A n c, vEn e] w fun r w' => r = .returned (.int .i64 (portFrom m e 0)) ∧ Below w.heap.size w w' := by
  obtain rfl : m.length = n := hC.1
  have hm := max_len hC
  have HC := Aside0.mk hC; clear hC
  go_enter Try.func32, Try.ntmps32
  go_wp2
  go_loopw [9] (fun i w' => ∃ k : Nat, k ≤ m.length ∧ i = .int .i64 k ∧ Aside0 (portFrom m e k = portFrom m e 0) ∧ Aside0 (w'.heap[w.heap.size]? = some (.cells #[.int .i64 e.addr, .int .i64 e.port] 32 (0, 0))) ∧ Below w.heap.size w w') (fun i _ => m.length - (intOf i).toNat)
  case atStart => exact ⟨0, Nat.zero_le _, rfl, ⟨rfl⟩, ⟨heap_alloc_new w _⟩, (Below.refl _ _).alloc (Nat.le_refl _) _⟩
  case round =>
    obtain ⟨k, hk, rfl, HP, HX, hb⟩ := hrel
    by_cases hlt : k < m.length
    · have c0 : wr.cell? ⟨w.heap.size, 0, none⟩ = some (.int .i64 e.addr) := (blk_cell HX.out 0).trans rfl
      have c1 : wr.cell? ⟨w.heap.size, 1, none⟩ = some (.int .i64 e.port) := (blk_cell HX.out 1).trans rfl
      have hz := blk_lt HX.out
      obtain ⟨ad, p, hA, hp, dL, d0, d1, d2⟩ := at_Pr (Kd.C_below HC.out hb) k hlt
      cases hA
      by_cases he : p.inside = e
      · have ht := En_beq he
        have HF := Aside0.mk ((portFrom_hit hlt hp he).symm.trans HP.out)
        clear he
        go_wp2
        go_ret
        exact ⟨ret_int HF.out, hb.alloc hb.size _⟩
      · have ht := En_bne he
        have HF := Aside0.mk ((portFrom_miss hlt hp he).symm.trans HP.out)
        clear he
        go_wp2
        go_roundw
        case rel => exact ⟨k + 1, by omega, by go_num, HF, ⟨blk_alloc HX.out _⟩, hb.alloc hb.size _⟩
        case measure => simp [intOf]; omega
    · have HF := Aside0.mk ((portFrom_end m e k (by omega)).symm.trans HP.out)
      go_wp2
      go_ret
      exact ⟨ret_int HF.out, hb⟩

/-- Pair number i is as a map has it, with regard to those ahead of it. -/
def goodAt (m : List Pr) (i : Nat) : Prop := (m.getD i zPr).port = 10 + i ∧ insideB (m.getD i zPr).inside = true ∧ ∀ j, j < i → (m.getD j zPr).inside ≠ (m.getD i zPr).inside
def okUpto (m : List Pr) (k : Nat) : Prop := ∀ i, i < k → goodAt m i
def mapOk (m : List Pr) : Prop := okUpto m m.length ∧ m.length ≤ 8
open Classical in
noncomputable def mapOkB (m : List Pr) : Bool := decide (mapOk m)
theorem mapOkB_no {m : List Pr} {k : Nat} (h : k < m.length) (hn : ¬ goodAt m k) : mapOkB m = false := by
  unfold mapOkB; rw [decide_eq_false_iff_not]; intro h2; exact hn (h2.1 k h)
theorem mapOkB_iff {m : List Pr} : mapOkB m = true ↔ mapOk m := by unfold mapOkB; simp
theorem mapOkB_end {m : List Pr} {k : Nat} (hk : ¬ k < m.length) (h : okUpto m k) (hk2 : k ≤ m.length) : mapOkB m = decide ((m.length : Int) ≤ 8) := by
  obtain rfl : k = m.length := by omega
  rw [Bool.eq_iff_iff, mapOkB_iff, decide_eq_true_iff]
  exact ⟨fun h2 => by have := h2.2; omega, fun h2 => ⟨h, by omega⟩⟩
theorem okUpto_succ {m : List Pr} {k : Nat} (h : okUpto m k) (hg : goodAt m k) : okUpto m (k + 1) := by
  intro i hi
  rcases Nat.lt_succ_iff_lt_or_eq.1 hi with h1 | h1
  · exact h i h1
  · exact h1 ▸ hg
theorem find_none_take {m : List Pr} {e : En} {k : Nat} (hk : k ≤ m.length) : (m.take k).find? (fun p => decide (p.inside = e)) = none ↔ ∀ j, j < k → (m.getD j zPr).inside ≠ e := by
  rw [List.find?_eq_none]
  constructor
  · intro h j hj he
    have hj2 : j < m.length := by omega
    refine h (m.getD j zPr) ?_ (by rw [decide_eq_true_iff]; exact he)
    rw [List.getD_eq_getElem?_getD, List.getElem?_eq_getElem hj2]
    exact List.mem_take_iff_getElem.2 ⟨j, by omega, rfl⟩
  · intro h x hx
    obtain ⟨j, hj, rfl⟩ := List.mem_take_iff_getElem.1 hx
    have := h j (by omega)
    rw [List.getD_eq_getElem?_getD, List.getElem?_eq_getElem (by omega)] at this
    simpa using this
theorem port_take_zero {m : List Pr} {e : En} {k : Nat} (hk : k ≤ m.length) (h : okUpto m k) : portFrom (m.take k) e 0 = 0 ↔ ∀ j, j < k → (m.getD j zPr).inside ≠ e := by
  rw [← find_none_take hk]
  unfold portFrom
  rw [List.drop_zero]
  cases hf : (m.take k).find? (fun p => decide (p.inside = e)) with
  | none => simp
  | some p =>
    obtain ⟨j, hj, rfl⟩ := List.mem_take_iff_getElem.1 (List.mem_of_find?_eq_some hf)
    have := (h j (by omega)).1
    rw [List.getD_eq_getElem?_getD, List.getElem?_eq_getElem (by omega)] at this
    simp only [Option.getD_some] at this
    simp [Option.elim, this]
    omega
end Go.Proofs.Ytdmbbocjaagfkaa.Z
