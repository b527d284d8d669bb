/- A slice whose memory is the call's own, wherever it begins (a window of an own row): append, sub-slice. For kinds without pointers. -/
import Derived.Test.YtdmbbocjaagfkaaBa
import Derived.ArgAppend
namespace Go.Proofs.Ytdmbbocjaagfkaa.Z
open Go.RowKit Go.Proofs.YtdmbbocjaagfkaaW.PrintWords
set_option linter.unusedVariables false

/-- A window of xs, at block base or above; the cells behind it, to its capacity, can be written. -/
def Wn {α : Type} (d : Kd α) (w : World) (base : Nat) (v : Value) (xs : List α) : Prop := ∃ A c, v = .slice A xs.length c ∧ xs.length ≤ c ∧ d.C w A xs.length xs ∧ (A = none → c = 0) ∧
  ∀ ad, A = some ad → ∃ b off, ad = ⟨b, off, none⟩ ∧ base ≤ b ∧ b < w.heap.size ∧ ∀ j, xs.length * d.sz ≤ j → j < c * d.sz → (w.cell? ⟨b, off + j, none⟩).isSome = true ∧ w.frozen? ⟨b, off + j, none⟩ = false
section
variable {α : Type} {d : Kd α} {w w1 : World} {base : Nat} {v : Value} {xs : List α}
theorem Wn.of_own {e : TypeId} {inner : List Value} (h : w.ownsRow base e d.sz v xs.length inner) (hr : Reps (d.K w) d.sz xs inner) (hm : xs.length ≤ 9223372036854775807) : Wn d w base v xs := by
  rcases h.2 with ⟨rfl, h0⟩ | ⟨g, cap, cur, rfl, hb, hg, hn, hc, hs, ht⟩
  · have hx : xs = [] := by
      cases xs with
      | nil => rfl
      | cons x xs => simp at h0
    subst hx
    exact ⟨none, 0, rfl, Nat.le_refl _, ⟨rfl, by simp, fun h => by simp at h⟩, fun _ => rfl, fun ad h => (by cases h)⟩
  · refine ⟨some ⟨g, 0, none⟩, cap, rfl, hn, ⟨rfl, hm, fun hp => ⟨_, rfl, fun j p hj => ?_⟩⟩, fun h => (by cases h), fun ad h => ?_⟩
    · have hjl : j < xs.length := (List.getElem?_eq_some_iff.1 hj).1
      refine ⟨(inner.drop (j * d.sz)).take d.sz, ?_, hr.2 j p hj, fun i u hu => ?_⟩
      · have : (j + 1) * d.sz ≤ inner.length := by rw [hr.1]; exact Nat.mul_le_mul_right _ hjl
        rw [Nat.add_mul, Nat.one_mul] at this
        rw [List.length_take, List.length_drop]; omega
      · rw [List.getElem?_take] at hu
        split at hu
        · rw [List.getElem?_drop] at hu
          rw [add_plain, blk_cell hg, ← hu]
          have hlt : j * d.sz + i < inner.length := (List.getElem?_eq_some_iff.1 hu).1
          rw [h.1] at hlt
          rw [← ht, List.getElem?_take, if_pos hlt]
          simp
        · cases hu
    · cases h
      refine ⟨g, 0, rfl, hb, blk_lt hg, fun j h1 h2 => ?_⟩
      rw [Nat.zero_add]
      refine ⟨?_, blk_frozen hg j⟩
      rw [blk_cell hg, Array.getElem?_eq_getElem (by rw [hs]; exact h2)]
      rfl
theorem Wn.of_R {e : TypeId} (h : d.R e w base (fun _ => True) v xs) : Wn d w base v xs := by
  obtain ⟨A, c, rfl, hl, hC⟩ := Kd.R_reads h
  obtain ⟨_, inner, ho, hr⟩ := h
  exact Wn.of_own ho (hr.imp_ (fun _ _ hp => d.K_of_M hp)) hC.2.1
theorem Wn.keep (h : Wn d w base v xs) (hC : ∀ A, d.C w A xs.length xs → d.C w1 A xs.length xs) (hs : w.heap.size ≤ w1.heap.size) (hk : ∀ b, base ≤ b → b < w.heap.size → w1.heap[b]? = w.heap[b]?) : Wn d w1 base v xs := by
  obtain ⟨A, c, rfl, hl, h1, h2, h3⟩ := h
  refine ⟨A, c, rfl, hl, hC A h1, h2, fun ad hA => ?_⟩
  obtain ⟨b, off, e, hb, hlt, hj⟩ := h3 ad hA
  refine ⟨b, off, e, hb, by omega, fun j h4 h5 => ?_⟩
  have he := hk b hb hlt
  rw [World.cell?_of_block (a := ⟨b, off + j, none⟩) he, World.frozen?_of_block (a := ⟨b, off + j, none⟩) he]
  exact hj j h4 h5
theorem Wn.below (h : Wn d w base v xs) (hb : Below w.heap.size w w1) : Wn d w1 base v xs := h.keep (fun _ hC => Kd.C_below hC hb) hb.size (fun b _ hlt => hb.block b hlt)
theorem Wn.lower {base' : Nat} (h : Wn d w base v xs) (hb : base' ≤ base) : Wn d w base' v xs := by
  obtain ⟨A, c, rfl, hl, h1, h2, h3⟩ := h
  refine ⟨A, c, rfl, hl, h1, h2, fun ad hA => ?_⟩
  obtain ⟨b, off, e, hb2, h4⟩ := h3 ad hA
  exact ⟨b, off, e, by omega, h4⟩
theorem Wn.reads (h : Wn d w base v xs) : ∃ A c, v = .slice A xs.length c ∧ xs.length ≤ c ∧ d.C w A xs.length xs := by
  obtain ⟨A, c, e, hl, h1, _⟩ := h
  exact ⟨A, c, e, hl, h1⟩
theorem Wn.block (h : Wn d w base v xs) : ∀ k, v.ownBlock = some k → base ≤ k ∧ k < w.heap.size := by
  obtain ⟨A, c, rfl, hl, h1, h2, h3⟩ := h
  intro k hk
  cases A with
  | none => cases hk
  | some ad =>
    obtain ⟨b, off, rfl, hb, hlt, _⟩ := h3 ad rfl
    cases hk
    exact ⟨hb, hlt⟩
theorem C_cells {A : Option Addr} {n : Nat} (hC : d.C w A n xs) : ∃ inner, Reps (d.K w) d.sz xs inner ∧ ∀ b, A = some b → ∀ j u, inner[j]? = some u → w.cell? (b.add j) = some u := by
  cases A with
  | none =>
    have h0 : xs = [] := by
      rcases Nat.eq_zero_or_pos n with h0 | h0
      · exact List.length_eq_zero_iff.1 (by rw [hC.1]; exact h0)
      · obtain ⟨ad, h, _⟩ := hC.2.2 h0
        cases h
    subst h0
    exact ⟨[], Reps.none _ _, fun b h => by cases h⟩
  | some ad =>
    obtain ⟨inner, h1, h2⟩ := ReadsRow.inner_ hC
    exact ⟨inner, h1, fun b hb => by cases hb; exact h2⟩
/-- Cells in a row read as a list. -/
theorem C_of_cells {b off : Nat} {inner : List Value} (hr : Reps (d.K w) d.sz xs inner) (hm : xs.length ≤ 9223372036854775807) (hc : ∀ j u, inner[j]? = some u → w.cell? ⟨b, off + j, none⟩ = some u) : d.C w (some ⟨b, off, none⟩) xs.length xs := by
  refine ⟨rfl, hm, fun hp => ⟨_, rfl, fun j p hj => ?_⟩⟩
  have hjl : j < xs.length := (List.getElem?_eq_some_iff.1 hj).1
  refine ⟨(inner.drop (j * d.sz)).take d.sz, ?_, hr.2 j p hj, fun i u hu => ?_⟩
  · have : (j + 1) * d.sz ≤ inner.length := by rw [hr.1]; exact Nat.mul_le_mul_right _ hjl
    rw [Nat.add_mul, Nat.one_mul] at this
    rw [List.length_take, List.length_drop]; omega
  · rw [List.getElem?_take] at hu
    split at hu
    · rw [List.getElem?_drop] at hu
      rw [Addr.add_lit]
      exact hc _ _ hu
    · cases hu
/-- The first one cut off. -/
theorem Wn.tail {b off n c : Nat} (h : Wn d w base (.slice (some ⟨b, off, none⟩) n c) xs) (hp : 0 < n) : Wn d w base (.slice (some ⟨b, off + d.sz, none⟩) (n - 1) (c - 1)) xs.tail := by
  obtain ⟨A, c', he, hl, hC, _, hown⟩ := h
  injection he with e1 e2 e3
  subst e1 e2 e3
  obtain ⟨b', off', e4, hb, hlt, hj⟩ := hown _ rfl
  injection e4 with e5 e6
  subst e5 e6
  obtain ⟨inner, hr, hc⟩ := C_cells hC
  have e7 : xs.tail.length = xs.length - 1 := List.length_tail
  refine ⟨some ⟨b, off + d.sz, none⟩, c - 1, by rw [e7], by rw [e7]; omega, ?_, fun h => (by cases h), fun ad h2 => ?_⟩
  · refine C_of_cells (inner := inner.drop d.sz) ⟨?_, fun j p hj2 => ?_⟩ (by rw [e7]; have := hC.2.1; omega) (fun j u hu => ?_)
    · rw [List.length_drop, hr.1, e7, Nat.sub_mul, Nat.one_mul]
    · have h3 := hr.2 (j + 1) p (by rw [← hj2]; cases xs <;> simp)
      rw [List.drop_drop]
      rw [Nat.add_mul, Nat.one_mul] at h3
      rwa [Nat.add_comm]
    · rw [List.getElem?_drop] at hu
      have := hc _ rfl (d.sz + j) u hu
      rw [Addr.add_lit] at this
      rwa [Nat.add_assoc]
  · cases h2
    refine ⟨b, off + d.sz, rfl, hb, hlt, fun j h4 h5 => ?_⟩
    rw [e7, Nat.sub_mul, Nat.one_mul] at h4
    rw [Nat.sub_mul, Nat.one_mul] at h5
    rw [Nat.add_assoc]
    exact hj (d.sz + j) (by omega) (by omega)
end
section
variable {P : Program} {ops : Array Oper} {rest : List Oper} {o : Oper} {a : Act} {Q : Exit → Act → World → Prop} {α : Type}
/-- append(v, x), v a window of the call's own. Behind 'at_builtin'; the goal's world is 'W.alloc' of the variadic's box. -/
theorem W_append (d : Kd α) {w0 W : World} (base : Nat) (hgd : o.guard = none) (s x : Operand) (t e : TypeId) (z : Value) (bytes : Nat)
    (ho : o.op = .call { callee := .builtin .append, args := #[s, x], argTypes := #[t, t] })
    (ht : P.underlying t = some (.slice e)) (hinfo : (P.info? e).map (fun i => (i.zero, i.size, i.bytes)) = some (some z, d.sz, bytes)) (hz : z.cells.size = d.sz) (hs0 : 0 < d.sz) (hb0 : 0 < bytes)
    (v : Value) (xs : List α) (p : α) (cs : List Value) (hs : a.eval s = v) (hx : a.eval x = .slice (some ⟨W.heap.size, 0, none⟩) 1 1)
    (hKK : ∀ w w' x cs, d.K w x cs → d.K w' x cs) (hp : d.K W p cs) (HO : Wn d W base v xs) (HB : Below base w0 W) (hbase : base ≤ W.heap.size) (hl : (xs.length + 1) * bytes ≤ 140737488355328)
    (h : ∀ v1 w1, Wn d w1 base v1 (xs ++ [p]) → Below base w0 w1 → wpList P ops Q rest (a.put o.dst v1) w1) :
    wpList P ops Q (o :: rest) a (W.alloc (.cells cs.toArray e)) := by
  obtain ⟨i0, hi, hzz⟩ := Option.map_eq_some_iff.1 hinfo
  simp only [Prod.mk.injEq] at hzz
  obtain ⟨hz0, hz1, hz2⟩ := hzz
  obtain ⟨A, c, rfl, hlc, hC, hnone, hown⟩ := HO
  have hlen : xs.length + 1 ≤ 140737488355328 := Nat.le_trans (Nat.le_mul_of_pos_right _ hb0) hl
  obtain ⟨inner, hr, hcells⟩ := C_cells hC
  have hone : ∀ u ∈ cs, u.oneCell' = true := d.K_one hp
  have hcl : cs.length = d.sz := d.K_len hp
  obtain ⟨W', hW'⟩ : ∃ W', W' = W.alloc (.cells cs.toArray e) := ⟨_, rfl⟩
  have hbW : Below W.heap.size W W' := by rw [hW']; exact below_alloc (Below.refl _ _) _
  have hsW : W'.heap.size = W.heap.size + 1 := by rw [hW']; simp
  have hblk : ∀ j u, cs[j]? = some u → W'.cell? (Addr.add ⟨W.heap.size, 0, none⟩ j) = some u := by
    intro j u hu
    have h1 := blk_cell (heap_alloc_new W (.cells cs.toArray e)) j
    rw [add_plain, hW', h1]
    simpa using hu
  have hcells' : ∀ b, A = some b → ∀ j u, inner[j]? = some u → W'.cell? (b.add j) = some u := by
    intro b hb j u hu
    have h1 := hcells b hb j u hu
    exact (hbW.cell (World.block_lt_of_cell? W _ h1)).trans h1
  rw [← hW']
  have grow : ∀ v' w', w'.ownsRow W'.heap.size e d.sz v' (xs.length + 1) (inner ++ cs) → W'.grownBy w' none → wpList P ops Q rest (a.put o.dst v') w' := by
    intro v' w' hown hg
    refine h v' w' (Wn.lower (base := W'.heap.size) (Wn.of_own (e := e) (inner := inner ++ cs) (by rw [List.length_append, List.length_singleton]; exact hown) ((hr.imp_ (fun _ _ hq => hKK _ _ _ _ hq)).snoc (hKK _ _ _ _ hp) hcl) (by rw [List.length_append, List.length_singleton]; omega)) (by omega)) ?_
    exact (HB.trans (hbW.mono hbase)).grown hg (by omega) (fun k hk => by cases hk)
  cases A with
  | none =>
    have hc0 := hnone rfl
    subst hc0
    exact wpList_append_grows W' hgd s x t ho e i0 z d.sz bytes ht hi hz0 hz1 hz2 hz hs0 none xs.length 0 inner hs (fun _ => ⟨by omega, rfl⟩) hr.1 (fun b hb => hcells' b hb) ⟨W.heap.size, 0, none⟩ 1 1 cs hx (by rw [hcl, Nat.one_mul]) hblk hone (by omega) (by simp only [maxLen]; omega) hl grow
  | some ad =>
    obtain ⟨b, off, rfl, hb, hlt, hj⟩ := hown ad rfl
    have hj' : xs.length + 1 ≤ c → ∀ j, j < cs.length → (W'.cell? ⟨b, off + xs.length * d.sz + j, none⟩).isSome = true ∧ W'.frozen? ⟨b, off + xs.length * d.sz + j, none⟩ = false := by
      intro hr1 j hjl
      rw [hbW.cell (p := ⟨b, off + xs.length * d.sz + j, none⟩) hlt, hbW.frozen (p := ⟨b, off + xs.length * d.sz + j, none⟩) hlt, Nat.add_assoc]
      refine hj _ (Nat.le_add_right _ _) ?_
      have : (xs.length + 1) * d.sz ≤ c * d.sz := Nat.mul_le_mul_right _ hr1
      rw [Nat.add_mul, Nat.one_mul] at this
      omega
    refine wpList_append_arg W' hgd s x t ho e i0 z d.sz bytes ht hi hz0 hz1 hz2 hz hs0 b off xs.length c inner hs hr.1 (fun j u hu => by have := hcells' _ rfl j u hu; rwa [Addr.add_lit] at this) ⟨W.heap.size, 0, none⟩ 1 1 cs hx (by rw [hcl, Nat.one_mul]) hblk hone hj' (by simp only [maxLen]; omega) hl (fun hroom => ?_) (fun _ v' w' => grow v' w')
    have hsame := setCells_same b cs (off + xs.length * d.sz) W'
    have hfar : ∀ k, k ≠ b → (W'.setCells b (off + xs.length * d.sz) cs).heap[k]? = W'.heap[k]? := fun k hk => setCells_far cs _ k hk
    have hin : ∀ j u, (inner ++ cs)[j]? = some u → (W'.setCells b (off + xs.length * d.sz) cs).cell? ⟨b, off + j, none⟩ = some u := by
      intro j u hu
      have hil : inner.length = xs.length * d.sz := hr.1
      rcases Nat.lt_or_ge j inner.length with hjl | hjl
      · rw [List.getElem?_append_left hjl] at hu
        rw [World.cell?_setCells_out b cs _ W' ⟨b, off + j, none⟩ (fun _ _ => .inl (by show off + j < _; omega))]
        have := hcells' _ rfl j u hu
        rwa [Addr.add_lit] at this
      · rw [List.getElem?_append_right hjl] at hu
        obtain ⟨hq, hq2⟩ := List.getElem?_eq_some_iff.1 hu
        have := World.cell?_setCells_in b cs (off + xs.length * d.sz) W' (fun j hj2 => (hj' hroom j hj2).1) (j - inner.length) hq
        rw [show off + j = off + xs.length * d.sz + (j - inner.length) from by omega, this, hq2]
    refine h _ _ ⟨some ⟨b, off, none⟩, c, by rw [List.length_append, List.length_singleton], by rw [List.length_append, List.length_singleton]; exact hroom, ?_, fun h => (by cases h), fun ad2 h2 => ?_⟩ ?_
    · exact C_of_cells ((hr.imp_ (fun _ _ hq => hKK _ _ _ _ hq)).snoc (hKK _ _ _ _ hp) hcl) (by rw [List.length_append, List.length_singleton]; omega) hin
    · cases h2
      refine ⟨b, off, rfl, hb, by rw [hsame.2.2.2]; omega, fun j h4 h5 => ?_⟩
      rw [List.length_append, List.length_singleton, Nat.add_mul, Nat.one_mul] at h4
      rw [World.frozen?_setCells, World.cell?_setCells_out b cs _ W' ⟨b, off + j, none⟩ (fun _ _ => .inr (by show _ ≤ off + j; omega))]
      rw [hbW.cell (p := ⟨b, off + j, none⟩) hlt, hbW.frozen (p := ⟨b, off + j, none⟩) hlt]
      exact hj j (by omega) h5
    · refine (HB.trans (hbW.mono hbase)).trans ⟨hsame.1, hsame.2.1, hsame.2.2.1, by rw [hsame.2.2.2]; exact Nat.le_refl _, fun k hk => hfar k (by omega)⟩
end
end Go.Proofs.Ytdmbbocjaagfkaa.Z
