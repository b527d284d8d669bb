/- append to a clipped row (it grows always); the next port: the program's out, the reference's l3Out. -/
import Derived.Test.YtdmbbocjaagfkaaMi
import Derived.ArgAppend
namespace Go.Proofs.Ytdmbbocjaagfkaa.Z
open Go.RowKit Go.Proofs.YtdmbbocjaagfkaaW.PrintWords
set_option linter.unusedVariables false
set_option linter.unusedSimpArgs false
attribute [local go_sem ↓] Go.wp_at_zero Go.wp_at_succ
attribute [local go_sem high] eqEn eqPr

section
variable {P : Program} {ops : Array Oper} {rest : List Oper} {o : Oper} {a : Act} {Q : Exit → Act → World → Prop} {α : Type}
/-- append(v, x) where v, that is read, has no room: the answer is new. Behind 'at_builtin'; the goal's world is 'W.alloc' of the variadic's box. -/
theorem C_append_full (d : Kd α) {w0 W : World} (base : Nat) (hgd : o.guard = none) (s x : Operand) (t e : TypeId) (z : Value) (bytes : Nat)
    (ho : o.op = .call { callee := .builtin .append, args := #[s, x], argTypes := #[t, t] })
    (ht : P.underlying t = some (.slice e)) (hinfo : (P.info? e).map (fun i => (i.zero, i.size, i.bytes)) = some (some z, d.sz, bytes)) (hz : z.cells.size = d.sz) (hs0 : 0 < d.sz) (hb0 : 0 < bytes)
    (A : Option Addr) (n : Nat) (xs : List α) (p : α) (cs : List Value) (hs : a.eval s = .slice A n n) (hx : a.eval x = .slice (some ⟨W.heap.size, 0, none⟩) 1 1)
    (hKM : ∀ w w' b ok x cs, d.K w x cs → d.M w' b ok x cs) (hp : d.K W p cs) (hC : d.C W A n xs) (HB : Below base w0 W) (hbase : base ≤ W.heap.size) (hl : (n + 1) * bytes ≤ 140737488355328)
    (h : ∀ v1 w1, d.R e w1 base (fun _ => True) v1 (xs ++ [p]) → Below base w0 w1 → W.grownBy w1 none → wpList P ops Q rest (a.put o.dst v1) w1) :
    wpList P ops Q (o :: rest) a (W.alloc (.cells cs.toArray e)) := by
  obtain ⟨i0, hi, hzz⟩ := Option.map_eq_some_iff.1 hinfo
  simp only [Prod.mk.injEq] at hzz
  obtain ⟨hz0, hz1, hz2⟩ := hzz
  have hm : xs.length = n := hC.1
  have hlen : n + 1 ≤ 140737488355328 := Nat.le_trans (Nat.le_mul_of_pos_right _ hb0) hl
  have hin : ∃ inner, Reps (d.K W) d.sz xs inner ∧ ∀ b, A = some b → ∀ j u, inner[j]? = some u → W.cell? (b.add j) = some u := by
    cases A with
    | none =>
      have h0 : xs = [] := by
        rcases Nat.eq_zero_or_pos n with h0 | h0
        · exact List.length_eq_zero_iff.1 (by omega)
        · obtain ⟨ad, h, _⟩ := hC.2.2 h0
          cases h
      subst h0
      exact ⟨[], Reps.none _ _, fun b h => by cases h⟩
    | some ad =>
      obtain ⟨inner, h1, h2⟩ := ReadsRow.inner_ hC
      exact ⟨inner, h1, fun b hb => by cases hb; exact h2⟩
  obtain ⟨inner, hr, hcells⟩ := hin
  have hone : ∀ u ∈ cs, u.oneCell' = true := d.K_one hp
  have hcl : cs.length = d.sz := d.K_len hp
  have hblk : ∀ j u, cs[j]? = some u → (W.alloc (.cells cs.toArray e)).cell? (Addr.add ⟨W.heap.size, 0, none⟩ j) = some u := by
    intro j u hu
    have h1 := blk_cell (heap_alloc_new W (.cells cs.toArray e)) j
    have e1 : Addr.add ⟨W.heap.size, 0, none⟩ j = ⟨W.heap.size, j, none⟩ := by unfold Addr.add; split <;> simp_all
    rw [e1, h1]
    simpa using hu
  refine wpList_append_grows (W.alloc (.cells cs.toArray e)) hgd s x t ho e i0 z d.sz bytes ht hi hz0 hz1 hz2 hz hs0 A n n inner hs (fun hA => ?_) (by rw [hr.1, hm]) (fun b hb j u hu => ?_) ⟨W.heap.size, 0, none⟩ 1 1 cs hx (by rw [hcl, Nat.one_mul]) hblk hone (by omega) (by simp only [maxLen]; omega) hl ?_
  · subst hA
    rcases Nat.eq_zero_or_pos n with h0 | h0
    · exact ⟨h0, h0⟩
    · obtain ⟨ad, h, _⟩ := hC.2.2 h0
      cases h
  · have h1 := hcells b hb j u hu
    rw [← h1]
    exact (below_alloc (Below.refl W.heap.size W) _).cell (World.block_lt_of_cell? W _ h1)
  · intro v' w' hown hg
    have hg2 : W.grownBy w' none := (World.grownBy_alloc W (.cells cs.toArray e) none).trans hg
    refine h v' w' (Kd.R_lower (base := (W.alloc (.cells cs.toArray e)).heap.size) ⟨fun _ _ => trivial, inner ++ cs, by rw [List.length_append, List.length_singleton, hm]; exact hown, ?_⟩ ?_) ?_ hg2
    · exact (hr.imp_ (fun _ _ hq => hKM _ _ _ _ _ _ hq)).snoc (hKM _ _ _ _ _ _ hp) hcl
    · exact Nat.le_trans hbase (below_alloc (Below.refl W.heap.size W) _).size
    · exact HB.grown hg2 hbase (fun k hk => by cases hk)
end
theorem kPr_KM (w w' : World) (b : Nat) (ok : Nat → Prop) (x : Pr) (cs : List Value) (h : kPr.K w x cs) : kPr.M w' b ok x cs := by
  obtain rfl := kPr_open h
  exact kPr_mkM _ _ _ x

/-- The next one: pairs, the port, whether there was room. -/
def outS (m : List Pr) (e : En) : List Pr × Int × Bool :=
  match m.find? (fun p => decide (p.inside = e)) with
  | some p => (m, p.port, true)
  | none => if 7 < m.length then (m, 0, false) else (m ++ [⟨10 + m.length, e⟩], 10 + m.length, true)
/-- From the k-th on: what is found. -/
def outAt (m : List Pr) (e : En) (k : Nat) : Option Pr := (m.drop k).find? (fun p => decide (p.inside = e))
theorem outAt_end (m : List Pr) (e : En) (k : Nat) (h : m.length ≤ k) : outAt m e k = none := by unfold outAt; rw [List.drop_of_length_le h]; rfl
theorem outAt_hit {m : List Pr} {e : En} {k : Nat} {p : Pr} (h : k < m.length) (hp : Aside0 (m.getD k zPr = p)) (he : p.inside = e) : outAt m e k = some p := by
  obtain rfl := hp.out
  unfold outAt; rw [drop_getD m zPr k h, List.find?_cons]; simp only [he, decide_true]
theorem outAt_miss {m : List Pr} {e : En} {k : Nat} {p : Pr} (h : k < m.length) (hp : Aside0 (m.getD k zPr = p)) (he : p.inside ≠ e) : outAt m e k = outAt m e (k + 1) := by
  obtain rfl := hp.out
  unfold outAt; rw [drop_getD m zPr k h, List.find?_cons]; simp only [he, decide_false]
theorem outS_of (m : List Pr) (e : En) : outS m e = match outAt m e 0 with
  | some p => (m, p.port, true)
  | none => if 7 < m.length then (m, 0, false) else (m ++ [⟨10 + m.length, e⟩], 10 + m.length, true) := rfl
theorem outS_len (m : List Pr) (e : En) : (outS m e).1.length ≤ m.length + 1 := by
  rw [outS_of]; cases outAt m e 0 with
  | some p => simp
  | none => simp only; split <;> simp
end Go.Proofs.Ytdmbbocjaagfkaa.Z
