/- Copies of pairs: the reference's l3Copy; slices.Clone, slices.Clip at pairs; the program's copied and out. -/
import Derived.Test.YtdmbbocjaagfkaaMg
import Derived.WalkSpells
namespace Go.Proofs.Ytdmbbocjaagfkaa.Z
open Go.RowKit Go.Proofs.YtdmbbocjaagfkaaW.PrintWords
set_option linter.unusedVariables false
set_option linter.unusedSimpArgs false
attribute [local go_sem ↓] Go.wp_at_zero Go.wp_at_succ
attribute [local go_sem high] eqEn eqPr

/-- A row of one's own, clipped: its capacity is its length. -/
def Cl {α : Type} (d : Kd α) (e : Nat) (w : World) (base : Nat) (v : Value) (xs : List α) : Prop := ∃ A c, v = .slice A xs.length xs.length ∧ d.R e w base (fun _ => True) (.slice A xs.length c) xs
theorem Cl.below {α : Type} {d : Kd α} {e : Nat} {w w1 : World} {base : Nat} {v : Value} {xs : List α} (h : Cl d e w base v xs) (hb : Below w.heap.size w w1) : Cl d e w1 base v xs := by
  obtain ⟨A, c, e, hR⟩ := h
  exact ⟨A, c, e, Kd.R_below hR hb⟩
theorem Cl.lower {α : Type} {d : Kd α} {e : Nat} {w : World} {base base' : Nat} {v : Value} {xs : List α} (h : Cl d e w base v xs) (hb : base' ≤ base) : Cl d e w base' v xs := by
  obtain ⟨A, c, e, hR⟩ := h
  exact ⟨A, c, e, Kd.R_lower hR hb⟩
theorem Cl.reads {α : Type} {d : Kd α} {e : Nat} {w : World} {base : Nat} {v : Value} {xs : List α} (h : Cl d e w base v xs) : ∃ A, v = .slice A xs.length xs.length ∧ d.C w A xs.length xs := by
  obtain ⟨A, c, e, hR⟩ := h
  exact ⟨A, e, (Kd.R_reads' hR).2.2⟩

theorem spec_l3Copy (A : Option Addr) (n c : Nat) (m : List Pr) (w : World) (hC : Kd.C kPr w A n m) (hn : n ≤ 1099511627776) :
    Calls Try.prog 41 #[.slice A n c] w fun r w' => ∃ v, r = .returned v ∧ Kd.R kPr 34 w' w.heap.size (fun _ => True) v m ∧ Below w.heap.size w w' := by
  go_enter Try.func41, Try.ntmps41
  go_wp2_with (first | ((with_reducible refine gate_dst (N := 3) rfl ?_); refine Kd.R_lit kPr w.heap.size 34 ?hg (N := 3) ?hd (xs := ([] : List Pr)) (inner := []) (ok := fun _ => True) (okp := fun _ => True) ?hr ?hp (fun _ hk => hk) trivial (Below.refl _ _) (by first | exact Nat.le_refl _ | omega) (by simp) ?_; (case hd => rfl); (case hg => rfl); (case hr => first | (go_simp; done) | (go_simp; rfl)); (case hp => exact (Reps.none _ _)); intro v1 w1 ho1 hb1 _ _) | (at_builtin; refine Kd.R_append_rows kPr (w0 := w) w.heap.size rfl (.tmp 3) (.tmp 4) 25 34 (.agg #[(.int .i64 0), (.int .i64 0), (.int .i64 0)]) 24 rfl Try.underlying25 infoPr rfl (by decide) (by omega) v1 [] m A n c (fun _ => True) (fun _ => False) rfl rfl ho1 (Kd.C_below hC hb1) (fun _ _ h => h) (fun _ h => h.elim) (fun _ _ => trivial) hb1 (by first | exact Nat.le_refl _ | exact Below.size hb1 | omega) (by simp; omega) ?_; intro v2 w2 ho2 hb2 _ _))
  go_ret
  exact ⟨_, rfl, by simpa using ho2, hb2⟩

theorem Clone_Pair (A : Option Addr) (n c : Nat) (m : List Pr) (w : World) (hC : Kd.C kPr w A n m) (hn : n ≤ 1099511627776) :
    Calls Try.prog 48 #[.slice A n c] w fun r w' => ∃ v, r = .returned v ∧ Kd.R kPr 34 w' w.heap.size (fun _ => True) v m ∧ Below w.heap.size w w' := by
  have heq := fun (w : World) => Lib.run_eql_slice_nil (P := Try.prog) w 25 34 A n c 0 0 Try.underlying25
  cases A with
  | none =>
    have h0 : m = [] := by
      have h1 := hC.1
      by_cases hp : 0 < n
      · obtain ⟨ad, h2, _⟩ := hC.2.2 hp
        cases h2
      · exact List.length_eq_zero_iff.1 (by omega)
    subst h0
    go_enter Try.func48, Try.ntmps48
    go_wp2
    go_ret
    exact ⟨_, rfl, Kd.R_nil _ _ _ _ _, Below.refl _ _⟩
  | some ad =>
    go_enter Try.func48, Try.ntmps48
    go_wp2_with (first | ((with_reducible refine gate_dst (N := 5) rfl ?_); refine Kd.R_lit kPr w.heap.size 34 ?hg (N := 5) ?hd (xs := ([] : List Pr)) (inner := []) (ok := fun _ => True) (okp := fun _ => True) ?hr ?hp (fun _ hk => hk) trivial (Below.refl _ _) (by first | exact Nat.le_refl _ | omega) (by simp) ?_; (case hd => rfl); (case hg => rfl); (case hr => first | (go_simp; done) | (go_simp; rfl)); (case hp => exact (Reps.none _ _)); intro v1 w1 ho1 hb1 _ _) | (at_builtin; refine Kd.R_append_rows kPr (w0 := w) w.heap.size rfl (.tmp 5) (.tmp 6) 25 34 (.agg #[(.int .i64 0), (.int .i64 0), (.int .i64 0)]) 24 rfl Try.underlying25 infoPr rfl (by decide) (by omega) v1 [] m (some ad) n c (fun _ => True) (fun _ => False) rfl rfl ho1 (Kd.C_below hC hb1) (fun _ _ h => h) (fun _ h => h.elim) (fun _ _ => trivial) hb1 (by first | exact Nat.le_refl _ | exact Below.size hb1 | omega) (by simp; omega) ?_; intro v2 w2 ho2 hb2 _ _))
    go_ret
    exact ⟨_, rfl, by simpa using ho2, hb2⟩

theorem Clip_Pair (A : Option Addr) (n c : Nat) (w : World) (hc : n ≤ c) :
    Calls Try.prog 47 #[.slice A n c] w fun r w' => r = .returned (.slice A n n) ∧ w = w' := by
  have h0 : (0 : Int) ≤ (n : Int) := Int.natCast_nonneg _
  have h1 : (n : Int) ≤ (c : Int) := by omega
  go_enter Try.func47, Try.ntmps47
  go_wp2
  go_ret
  exact ⟨by cases A <;> simp [Addr.add], rfl⟩

theorem impl_copied (A : Option Addr) (n c : Nat) (m : List Pr) (w : World) (hC : Kd.C kPr w A n m) (hn : n ≤ 1099511627776) :
    Calls Try.prog 46 #[.slice A n c] w fun r w' => ∃ v, r = .returned v ∧ Cl kPr 34 w' w.heap.size v m ∧ Below w.heap.size w w' := by
  go_enter Try.func46, Try.ntmps46
  go_wp2_with fail; refine (Clone_Pair A n c m w hC hn).mono ?_; rintro e w1 ⟨v1, rfl, hR, hb⟩
  obtain ⟨A1, c1, rfl, hl1, _⟩ := Kd.R_reads hR
  go_wp2_with fail; refine (Clip_Pair A1 m.length c1 _ hl1).mono ?_; rintro e w2 ⟨rfl, rfl⟩
  go_wp2
  go_ret
  exact ⟨_, rfl, ⟨A1, c1, rfl, hR⟩, hb⟩
end Go.Proofs.Ytdmbbocjaagfkaa.Z
