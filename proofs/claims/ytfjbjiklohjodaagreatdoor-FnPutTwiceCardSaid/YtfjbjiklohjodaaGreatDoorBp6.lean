/- What the laws on streams call, told plainly: what is drawn, StreamPut of both, whether streams and pairs are the same. What the laws on streams say, plainly. As what a stream went on, texts turned: what the law FnPutText calls. A law over variables of Go's library that are laid by the program's text: the wrap that keeps the world's shape beside them; what the walks want of them. How a row's argument, read as data, is a value of one of our kinds. How a row's code, a slice of bytes, is a list of small numbers. -/
import Derived.Test.YtfjbjiklohjodaaGreatDoorRows
import Derived.Test.YtfjbjiklohjodaaGreatDoorBp5
import Derived.Handed
import Derived.LaidMore
import Derived.Lay
import Derived.LaidOnce
import Derived.Shelf.Vars
import Derived.Stop.Joined
import Derived.ProofKit
import Derived.Deep.Slices
import Derived.ChangeArms
namespace Go.Proofs.YtfjbjiklohjodaaGreatDoor.Q
open Go Go.RowKit Go.Proofs.YtfjbjiklohjodaaGreatDoorW.PrintWords Go.Proofs.YtfjbjiklohjodaaGreatDoorW.PrintMore Go.Proofs.YtfjbjiklohjodaaGreatDoor.Z
set_option linter.unusedVariables false
set_option linter.unusedSimpArgs false
def VP (w : World) (A : Option Addr) (c : Nat) (L : List S111) : Prop := Kd.V k111 111 w 0 (fun _ => True) (.slice A L.length c) L
def VT (w : World) (A : Option Addr) (c : Nat) (P : List S109) : Prop := Kd.V k109 109 w 0 (fun _ => True) (.slice A P.length c) P
theorem VP.below {w w' : World} {A : Option Addr} {c : Nat} {L : List S111} (h : VP w A c L) (hb : Below w.heap.size w w') : VP w' A c L := Kd.V_below h hb
theorem VT.below {w w' : World} {A : Option Addr} {c : Nat} {P : List S109} (h : VT w A c P) (hb : Below w.heap.size w w') : VT w' A c P := Kd.V_below h hb
theorem VP.C {w : World} {A : Option Addr} {c : Nat} {L : List S111} (h : VP w A c L) : Kd.C k111 w A L.length L := (Kd.V_reads' h).2.2
theorem VP.c {w : World} {A : Option Addr} {c : Nat} {L : List S111} (h : VP w A c L) : L.length ≤ c := (Kd.V_reads' h).2.1
theorem VT.C {w : World} {A : Option Addr} {c : Nat} {P : List S109} (h : VT w A c P) : Kd.C k109 w A P.length P := (Kd.V_reads' h).2.2
theorem VT.c {w : World} {A : Option Addr} {c : Nat} {P : List S109} (h : VT w A c P) : P.length ≤ c := (Kd.V_reads' h).2.1
theorem VT.nil (w : World) : VT w none 0 [] := Kd.V_nil _ _ _ _ _
abbrev vSt (l : ByteArray) (A : Option Addr) (c : Nat) (P : List S109) : Value := .agg #[.string l, .slice A P.length c]
noncomputable def putF (L : List S111) (l : ByteArray) (P : List S109) (a : Int) (x : ByteArray) (out : Bool) : List S111 × ByteArray × List S109 × Bool :=
  ((putAll (L.map prOf) (bl l) (P.map spOf) a (bl x) out).1.map prTo, mkB (putAll (L.map prOf) (bl l) (P.map spOf) a (bl x) out).2.1, (putAll (L.map prOf) (bl l) (P.map spOf) a (bl x) out).2.2.1.map spTo, (putAll (L.map prOf) (bl l) (P.map spOf) a (bl x) out).2.2.2)
section
variable {w : World} {A A2 : Option Addr} {c c2 : Nat} {L L1 : List S111} {l l1 : ByteArray} {P P1 : List S109} {a : Int} {x : ByteArray} {out ok : Bool}
theorem putF_len (h : putF L l P a x out = (L1, l1, P1, ok)) : L1.length ≤ 8 ∧ l1.size ≤ 40 ∧ P1.length ≤ 40 := by
  obtain ⟨⟨m, l', ps, ok'⟩, hR⟩ : ∃ R, putAll (L.map prOf) (bl l) (P.map spOf) a (bl x) out = R := ⟨_, rfl⟩
  have hl := putAll_len hR
  unfold putF at h
  rw [hR] at h
  simp only [Prod.mk.injEq] at h
  obtain ⟨rfl, rfl, rfl, rfl⟩ := h
  rw [List.length_map, List.length_map, size_mkB]
  exact hl
theorem spec_put (hL : VP w A c L) (hP : VT w A2 c2 P) (hl : l.size ≤ 1000) (hn : L.length ≤ 1000) (hx : x.size ≤ 1000) (hR : putF L l P a x out = (L1, l1, P1, ok)) :
    Calls Tryz.prog 16 #[.slice A L.length c, vSt l A2 c2 P, .int .i64 a, .string x, .bool out] w fun e w' => ∃ A' c' A2' c2', e = .returned (.tuple #[.slice A' L1.length c', vSt l1 A2' c2' P1, .bool ok]) ∧ VP w' A' c' L1 ∧ VT w' A2' c2' P1 ∧ Below w.heap.size w w' := by
  have h := spec_StreamPut_to 4001 (by omega) (L.map prOf) (by rw [List.length_map]; omega) (bl l) (by rw [bl_len]; omega) (P.map spOf) a (bl x) (by rw [bl_len]; omega) out
  rw [prs_to_of, mkB_bl, sps_to_of, mkB_bl] at h
  replace h := h.trans (congrArg some hR)
  refine (spec_StreamPut.calls 4001 A c L l A2 c2 P a x out L1 l1 P1 ok w hL.C hL.c hP.C hP.c h).mono ?_
  rintro e w' ⟨v0, v2, rfl, h1, h2, hb⟩
  have q1 : Kd.V k111 111 w' 0 (fun _ => True) v0 L1 := Kd.Q_V h1
  have q2 : Kd.V k109 109 w' 0 (fun _ => True) v2 P1 := Kd.R_V h2
  obtain ⟨A', c', rfl⟩ := Kd.V_slice q1
  obtain ⟨A2', c2', rfl⟩ := Kd.V_slice q2
  exact ⟨A', c', A2', c2', rfl, q1, q2, hb⟩
theorem impl_put (hL : VP w A c L) (hP : VT w A2 c2 P) (hl : l.size ≤ 1000) (hn : L.length ≤ 1000) (hp : P.length ≤ 1000) (hx : x.size ≤ 1000) (hR : putF L l P a x out = (L1, l1, P1, ok)) (hV : VarsIn w) :
    Calls Tryz.prog 17 #[.slice A L.length c, vSt l A2 c2 P, .int .i64 a, .string x, .bool out] w fun e w' => ∃ A' c' A2' c2', e = .returned (.tuple #[.slice A' L1.length c', vSt l1 A2' c2' P1, .bool ok]) ∧ VP w' A' c' L1 ∧ VT w' A2' c2' P1 ∧ Below w.heap.size w w' := by
  have h := impl_StreamPut_to 6001 (by omega) (L.map prOf) (by rw [List.length_map]; omega) (bl l) (by rw [bl_len]; omega) (P.map spOf) (by rw [List.length_map]; omega) a (bl x) (by rw [bl_len]; omega) out
  rw [prs_to_of, mkB_bl, sps_to_of, mkB_bl] at h
  replace h := h.trans (congrArg some hR)
  refine (impl_StreamPut.calls 6001 (fun _ => True) A c L l (fun _ => True) A2 c2 P a x out L1 l1 P1 ok w hL hP hV h).mono ?_
  rintro e w' ⟨v0, v2, rfl, h1, h2, hb⟩
  have q1 : Kd.V k111 111 w' 0 (fun _ => True) v0 L1 := Kd.V_mono h1 (fun _ _ => trivial)
  have q2 : Kd.V k109 109 w' 0 (fun _ => True) v2 P1 := Kd.V_mono h2 (fun _ _ => trivial)
  obtain ⟨A', c', rfl⟩ := Kd.V_slice q1
  obtain ⟨A2', c2', rfl⟩ := Kd.V_slice q2
  exact ⟨A', c', A2', c2', rfl, q1, q2, hb⟩
theorem draw_put (A : Option Addr) (n c : Nat) (bs : List Int) (w : World) (hC : Kd.C (Kd.int .u8) w A n bs) (hb : ∀ b ∈ bs, (0 : Int) ≤ b ∧ b ≤ 255) (hc : n ≤ c) :
    Calls Tryz.prog 15 #[.slice A n c] w fun e w' => ∃ A' c' L l A2' c2' P a x out, e = .returned (.tuple #[.slice A' L.length c', vSt l A2' c2' P, .int .i64 a, .string x, .bool out]) ∧ VP w' A' c' L ∧ VT w' A2' c2' P ∧ mapOkB (L.map prOf) = true ∧ L.length ≤ 8 ∧ l.size ≤ 40 ∧ P.length ≤ 40 ∧ (0 ≤ a ∧ a ≤ 40) ∧ x.size ≤ 40 ∧ Below w.heap.size w w' := by
  refine (spec_DrawStreamPutC A n c bs w hC hb hc).mono ?_
  rintro e w' ⟨u, v, m, l, ps, a, x, out, rfl, h1, h2, hm, hl, hp, ha, hx, hbl⟩
  have q1 : Kd.V k111 111 w' 0 (fun _ => True) u (m.map prTo) := Kd.Q_V h1
  have q2 : Kd.V k109 109 w' 0 (fun _ => True) v ps := Kd.R_V h2
  obtain ⟨A', c', rfl⟩ := Kd.V_slice q1
  obtain ⟨A2', c2', rfl⟩ := Kd.V_slice q2
  have := mapOk_len hm
  exact ⟨A', c', m.map prTo, l, A2', c2', ps, a, x, out, rfl, q1, q2, by rw [prs_of_to]; exact hm, by rw [List.length_map]; exact this, hl, hp, ha, hx, hbl⟩
theorem lzStream_l0 (A B : ByteArray) (ps : List Sp) (hps : ps.length ≤ 1000000) (n : Nat) : ∀ (k i : Nat), ps.length - i ≤ n → n < k → i ≤ ps.length → laws_lzStream.l0 k i A (ps.map spTo) B (ps.map spTo) = some true := by
  induction n with
  | zero =>
    intro k i hn hk hi
    obtain ⟨k, rfl⟩ : ∃ m, k = m + 1 := ⟨k - 1, by omega⟩
    simp only [laws_lzStream.l0]
    rw [if_neg (by rw [List.length_map]; omega)]
  | succ n ih =>
    intro k i hn hk hi
    obtain ⟨k, rfl⟩ : ∃ m, k = m + 1 := ⟨k - 1, by omega⟩
    simp only [laws_lzStream.l0]
    by_cases hlt : i < ps.length
    · have hw3 : wrap64 ((i : Int) + 1) = ((i + 1 : Nat) : Int) := by rw [w64 (by omega)]; omega
      rw [if_pos (by rw [List.length_map]; omega), if_pos (by omega), if_pos (by rw [List.length_map]; omega), if_neg (by simp), hw3]
      exact ih k (i + 1) (by omega) (by omega) (by omega)
    · rw [if_neg (by rw [List.length_map]; omega)]
theorem lzStream_same (k : Nat) (hk : 1000 < k) (l : List UInt8) (ps : List Sp) (hps : ps.length ≤ 900) : laws_lzStream.f k (mkB l) (ps.map spTo) (mkB l) (ps.map spTo) = some true := by
  obtain ⟨k, rfl⟩ : ∃ m, k = m + 1 := ⟨k - 1, by omega⟩
  unfold laws_lzStream.f
  simp only [laws_lzStream.j0]
  rw [if_pos trivial, if_neg (by simp)]
  have := lzStream_l0 (mkB l) (mkB l) ps (by omega) ps.length k 0 (by omega) (by omega) (by omega)
  exact this
theorem lz_S (l : ByteArray) {A' : Option Addr} {c' : Nat} (hp : P.length ≤ 900) (h1 : VT w A c P) (h2 : VT w A' c' P) : Calls Tryz.prog 18 #[vSt l A c P, vSt l A' c' P] w fun e w' => e = .returned (.bool true) ∧ Below w.heap.size w w' := by
  have h := lzStream_same 1001 (by omega) (bl l) (P.map spOf) (by rw [List.length_map]; exact hp)
  rw [mkB_bl, sps_to_of] at h
  exact laws_lzStream.calls 1001 l A c P l A' c' P true w h1.C h1.c h2.C h2.c h
theorem lz_M {A' : Option Addr} {c' : Nat} (hp : L.length ≤ 900) (h1 : VP w A c L) (h2 : VP w A' c' L) : Calls Tryz.prog 19 #[.slice A L.length c, .slice A' L.length c'] w fun e w' => e = .returned (.bool true) ∧ Below w.heap.size w w' := by
  refine (laws_lzMap.calls 100002 A c L A' c' L true w h1.C h1.c h2.C h2.c (lzMap_same 100002 L (by omega) (by omega))).mono ?_
  rintro e w' ⟨rfl, hd⟩
  obtain ⟨n, rfl⟩ := hd.out
  exact ⟨rfl, pw_below_drewN (Below.refl _ _) n⟩
theorem streamOk_c (l : ByteArray) (hl : l.size ≤ 1000) (h : VT w A c P) : Calls Tryz.prog 21 #[vSt l A c P] w fun e w' => e = .returned (.bool (stOkB (bl l) (P.map spOf))) ∧ Below w.heap.size w w' := by
  have h1 := spec_StreamOk_to 3001 (by omega) (bl l) (by rw [bl_len]; omega) (P.map spOf)
  rw [mkB_bl, sps_to_of] at h1
  exact spec_StreamOk.calls 3001 l A c P _ w h.C h.c h1
theorem mapOk_c (hn : L.length ≤ 1000) (h : VP w A c L) : Calls Tryz.prog 20 #[.slice A L.length c] w fun e w' => e = .returned (.bool (mapOkB (L.map prOf))) ∧ Below w.heap.size w w' := by
  have h1 := spec_MapOk_is (L.map prOf) (by rw [List.length_map]; omega)
  rw [prs_to_of] at h1
  exact spec_MapOk.calls A c L _ w h.C h.c h1
theorem implMapOk_c (hn : L.length ≤ 1000) (h : VP w A c L) : Calls Tryz.prog 23 #[.slice A L.length c] w fun e w' => e = .returned (.bool (mapOkB (L.map prOf))) ∧ Below w.heap.size w w' := by
  have h1 := impl_MapOk_is (L.map prOf) (by rw [List.length_map]; omega)
  rw [prs_to_of] at h1
  exact impl_MapOk.calls A c L _ w h.C h.c h1
theorem textOk_c (hx : x.size ≤ 1000) : Calls Tryz.prog 22 #[.string x] w fun e w' => e = .returned (.bool (textOk (bl x))) ∧ Below w.heap.size w w' :=
  spec_TextOk.calls x _ w (by unfold spec_TextOk.f; rw [if_pos (by omega)])
end
end Go.Proofs.YtfjbjiklohjodaaGreatDoor.Q
namespace Go.Proofs.YtfjbjiklohjodaaGreatDoor.Q
open Go Go.RowKit Go.Proofs.YtfjbjiklohjodaaGreatDoorW.PrintWords Go.Proofs.YtfjbjiklohjodaaGreatDoorW.PrintMore Go.Proofs.YtfjbjiklohjodaaGreatDoor.Z
set_option linter.unusedVariables false
set_option linter.unusedSimpArgs false
section
variable {w : World} {A A2 : Option Addr} {c c2 : Nat} {L L1 : List S111} {l l1 : ByteArray} {P P1 : List S109} {a : Int} {x : ByteArray} {out ok : Bool}
theorem VP.take {k : Nat} (h : VP w A c L) (hk : k ≤ L.length) : VP w A c (L.take k) := by
  obtain ⟨A', c', e, hl, hf⟩ := h
  injection e with e1 e2 e3
  subst e1 e3
  exact ⟨A, c, rfl, by rw [List.length_take]; omega, Kd.F_take hf hk⟩
theorem putF_no (hm : mapOkB (L.map prOf) = true) (hs : stOkB (bl l) (P.map spOf) = true) (hx : textOk (bl x) = true) (ha : 0 ≤ a ∧ a ≤ 40) (h : a > (l.size : Int)) : putF L l P a x out = (L, l, P, false) := by
  unfold putF
  rw [putAll_ok hm hs hx ha, putS_no (.inl (by rw [bl_len]; exact h))]
  simp only [prs_to_of, sps_to_of, mkB_bl]
theorem putF_ext (hm : mapOkB (L.map prOf) = true) (hs : stOkB (bl l) (P.map spOf) = true) (hx : textOk (bl x) = true) (ha : 0 ≤ a ∧ a ≤ 40) (hR : putF L l P a x out = (L1, l1, P1, ok)) : mapOkB (L1.map prOf) = true ∧ L.length ≤ L1.length ∧ L1.take L.length = L := by
  obtain ⟨⟨m, l', ps, ok'⟩, hR2⟩ : ∃ R, putS (L.map prOf) (bl l) (P.map spOf) a (bl x) out = R := ⟨_, rfl⟩
  have hP := putS_ok (out := out) hm (stOkB_iff.1 hs) hx ha.1 hR2
  obtain ⟨e1, e2, e3⟩ := hP.1
  unfold putF at hR
  rw [putAll_ok hm hs hx ha, hR2] at hR
  simp only [Prod.mk.injEq] at hR
  obtain ⟨rfl, rfl, rfl, rfl⟩ := hR
  rw [prs_of_to, List.length_map]
  rw [List.length_map] at e2 e3
  refine ⟨e1, by omega, ?_⟩
  have e4 := congrArg (List.map prTo) e2
  rwa [List.map_take, prs_to_of] at e4
theorem putF_in (hm : mapOkB (L.map prOf) = true) (hs : stOkB (bl l) (P.map spOf) = true) (hx : textOk (bl x) = true) (ha : 0 ≤ a ∧ a ≤ 40) : ∃ l2 P2 ok2, putF L l P a x false = (L, l2, P2, ok2) := by
  obtain ⟨⟨m, l', ps, ok'⟩, hR2⟩ : ∃ R, putS (L.map prOf) (bl l) (P.map spOf) a (bl x) false = R := ⟨_, rfl⟩
  have hP := putS_ok (out := false) hm (stOkB_iff.1 hs) hx ha.1 hR2
  obtain rfl := hP.2.2.2.2.2.2 rfl
  refine ⟨mkB l', ps.map spTo, ok', ?_⟩
  unfold putF
  rw [putAll_ok hm hs hx ha, hR2]
  simp only [prs_to_of]
end
end Go.Proofs.YtfjbjiklohjodaaGreatDoor.Q
namespace Go.Proofs.YtfjbjiklohjodaaGreatDoor.Q
open Go Go.RowKit Go.Proofs.YtfjbjiklohjodaaGreatDoorW.PrintWords Go.Proofs.YtfjbjiklohjodaaGreatDoorW.PrintMore Go.Proofs.YtfjbjiklohjodaaGreatDoor.Z
set_option linter.unusedVariables false
set_option linter.unusedSimpArgs false
theorem sps_of_to (l : List Sp) : (l.map spTo).map spOf = l := by rw [List.map_map]; exact List.map_id _
section
variable {w : World} {A A2 : Option Addr} {c c2 : Nat} {L L1 : List S111} {l l1 : ByteArray} {P P1 : List S109} {a : Int} {x : ByteArray} {out ok : Bool}
theorem out_c (hs : stOk (bl l) (P.map spOf)) (h : VT w A c P) (hV : VarsIn w) : Calls Tryz.prog 26 #[vSt l A c P] w fun e w' => e = .returned (.string (mkB (outS2 (P.map spOf)))) ∧ Below w.heap.size w w' := by
  have h1 := impl_StreamOut_to 3001 (by omega) hs
  rw [mkB_bl, sps_to_of] at h1
  exact impl_StreamOut.calls 3001 l A c P _ w h.C h.c hV h1
theorem mapIn_c (hn : L.length ≤ 1000) (hx : x.size ≤ 1000) (h : VP w A c L) (hV : VarsIn w) : Calls Tryz.prog 28 #[.slice A L.length c, .string x] w fun e w' => e = .returned (.string (mkB (mapIn (L.map prOf) (bl x)))) ∧ Below w.heap.size w w' := by
  have h1 := impl_MapTextIn_to 3001 (by omega) (L.map prOf) (by rw [List.length_map]; omega) (bl x) (by rw [bl_len]; omega)
  rw [prs_to_of, mkB_bl] at h1
  exact impl_MapTextIn.calls 3001 A c L x _ w h.C h.c hV h1
theorem mapOut_c (hn : L.length ≤ 1000) (hx : x.size ≤ 1000) (h : VP w A c L) (hV : VarsIn w) {t : List UInt8} (hR : mapOutT (L.map prOf) (bl x) = (L1.map prOf, t)) : Calls Tryz.prog 29 #[.slice A L.length c, .string x] w fun e w' => ∃ A' c', e = .returned (.tuple #[.slice A' L1.length c', .string (mkB t)]) ∧ VP w' A' c' L1 ∧ Below w.heap.size w w' := by
  have h1 := impl_MapTextOut_to 3001 (by omega) (L.map prOf) (by rw [List.length_map]; omega) (bl x) (by rw [bl_len]; omega)
  rw [prs_to_of, mkB_bl, hR] at h1
  simp only [prs_to_of] at h1
  refine (impl_MapTextOut.calls 3001 (fun _ => True) A c L x L1 (mkB t) w h hV h1).mono ?_
  rintro e w' ⟨v, rfl, h2, hb⟩
  have q1 : Kd.V k111 111 w' 0 (fun _ => True) v L1 := Kd.V_mono h2 (fun _ _ => trivial)
  obtain ⟨A', c', rfl⟩ := Kd.V_slice q1
  exact ⟨A', c', rfl, q1, hb⟩
theorem putF_text (hm : mapOkB (L.map prOf) = true) (hx : textOk (bl x) = true) : ∃ L2 l2 P2, putF L ⟨#[]⟩ [] 0 x out = (L2, l2, P2, true) ∧ stOk (bl l2) (P2.map spOf) ∧
    (out = false → mkB (mapIn (L.map prOf) (bl x)) = mkB (outS2 (P2.map spOf)) ∧ L2 = L) ∧ (out = true → mapOutT (L.map prOf) (bl x) = (L2.map prOf, outS2 (P2.map spOf))) := by
  obtain ⟨⟨um, ul, up, uok⟩, hU⟩ : ∃ R, putS (L.map prOf) [] [] 0 (bl x) out = R := ⟨_, rfl⟩
  have hst0 : stOk [] [] := ⟨by decide, trivial⟩
  have hP := putS_ok hm hst0 hx (by decide) hU
  obtain ⟨g1, g2, g3⟩ := putS_text hm hx hU
  subst g1
  refine ⟨um.map prTo, mkB ul, up.map spTo, ?_, ?_, fun ho => ?_, fun ho => ?_⟩
  · unfold putF
    rw [show bl (⟨#[]⟩ : ByteArray) = [] from rfl, show ([] : List S109).map spOf = [] from rfl, putAll_ok hm (stOkB_iff.2 hst0) hx (by decide), hU]
  · rw [sps_of_to]
    exact hP.2.1
  · rw [sps_of_to, (g2 ho).1, (g2 ho).2, prs_to_of]
    exact ⟨rfl, rfl⟩
  · rw [prs_of_to, sps_of_to]
    exact g3 ho
end
end Go.Proofs.YtfjbjiklohjodaaGreatDoor.Q
namespace Go.Proofs.YtfjbjiklohjodaaGreatDoor.Z
open Go.RowKit
set_option linter.unusedVariables false
theorem wrap_laid {H : Type} {enc : TypeId × Value → H} {a : Assume} {C : Checked} {os : Os} {f : FuncId} {fn : Func} {s : ChangeSpec} {conds : List PathCond} {apart fresh handsOn again : Bool} {X : World → Array Value → Prop}
    (hX : ∀ (w w' : World) (args : Array Value), w.heap = w'.heap → X w args → X w' args)
    (own : ownKnob C.prog.godebug = none) (started : os.Started) (noInit : C.prog.inits.idxOf? f = none) (hfn : C.prog.funcs[f]? = some fn)
    (witness : ∃ (w : World) (tape : Tape) (i : Input), w.os = os ∧ (w.forCall tape i).Shaped C.prog ∧ i.vars = [] ∧ Input.okWide C.prog (w.forCall tape i) .any w.heap.size f i ∧
      ((s.pre enc C.prog fn conds apart (w.forCall tape i).memory i.args ∧ X (w.forCall tape i).memory i.args) ∧ sizedMet enc C.prog fn (OpenSpec.ofChange s) apart (w.forCall tape i).memory i.args) ∧ a.holds C.prog (lone (Frame.enter C.prog f i.args .normal) [] (w.forCall tape i)))
    (walk : ∀ (W : World) (base : Nat) (args : Array Value) (ds gs : List (DataW H)) (before : List MemPlace),
      (∀ (j : Nat) t v, fn.params[j]? = some t → args[j]? = some v → Value.okWide C.prog W .any base t v) →
      DataW.Whole enc C.prog fn.params.toList s.vars apart W args.toList ds gs before → X W args → W.ShapedOpen C.prog →
      Calls C.prog f args W fun e W' => ∃ v, e = .returned v ∧ s.post enc C.prog fn apart fresh handsOn again W args v W') :
    ReturnsInHanded a C os f .any (fun w args => (s.pre enc C.prog fn conds apart w args ∧ X w args) ∧ sizedMet enc C.prog fn (OpenSpec.ofChange s) apart w args) (s.post enc C.prog fn apart fresh handsOn again) := by
  refine returnsInHanded_of_calls own started noInit witness (fun w tape i _ shape _ ok pre _ => ?_)
  obtain ⟨_, _, _, fn', e, _, _, _, _, val⟩ := ok
  obtain rfl : fn' = fn := Option.some.inj (e.symm.trans hfn)
  obtain ⟨⟨⟨ds, gs, before, whole, _⟩, x⟩, _⟩ := pre
  refine (walk (w.forCall tape i) w.heap.size i.args ds gs before val (DataW.Whole.of_heap (w' := w.forCall tape i) (by rfl) whole) (hX _ _ _ (by rfl) x) shape).mono ?_
  rintro e W' ⟨v, rfl, post⟩
  exact ChangeSpec.post_blind post
abbrev laidL : List (String × DataW Unit) := [("math/bits.deBruijn32tab", Rows.laid_math_bits_deBruijn32tab), ("math/bits.deBruijn64tab", Rows.laid_math_bits_deBruijn64tab), ("internal/strconv.uint64pow10", Rows.laid_internal_strconv_uint64pow10), ("strconv.ErrRange", Rows.laid_strconv_ErrRange), ("strconv.ErrSyntax", Rows.laid_strconv_ErrSyntax)]
theorem tRange : (Tryz.prog.globals[2]?).map (·.type) = some 175 := by kernel_rfl
theorem tSyntax : (Tryz.prog.globals[1]?).map (·.type) = some 175 := by kernel_rfl
theorem err_of {W : World} {n : String} {g0 g : Nat} {t : TypeId} {cs : Array Value} {fu : Nat} {name : String} {d : DataW Unit} {p : List MemPlace} {enc : TypeId × Value → Unit} (e0 : Tryz.prog.globalNamed n = some g0) (t0 : (Tryz.prog.globals[g0]?).map (·.type) = some 175)
    (hg : Tryz.prog.globalNamed n = some g) (ht : (Tryz.prog.globals[g]?).map (·.type) = some t) (hv : W.var? Tryz.prog n = some cs) {sp : Nat → Bool} (hd : DataW.trod enc Tryz.prog W 0 sp false fu t cs.toList = some (.iface name d, p)) :
    (∃ tp q, W.var? Tryz.prog n = some #[.iface tp q]) ∧ g0 < W.heap.size := by
  obtain rfl := Option.some.inj (e0.symm.trans hg)
  obtain rfl := Option.some.inj (t0.symm.trans ht)
  obtain ⟨l⟩ := cs
  obtain ⟨_, u, v, e, _, _⟩ := iface_of_trod Tryz.underlying175 hd
  have e1 : l = [.iface u v] := e
  subst e1
  refine ⟨⟨u, v, hv⟩, ?_⟩
  have h1 := World.var?_cell hg hv 0
  exact World.block_lt_of_cell? W ⟨g0, 0, none⟩ (h1.trans rfl)
theorem vars_of {W : World} (h : laidMetH Tryz.prog laidL W) (hs : W.ShapedOpen Tryz.prog) : VarsIn W := by
  rw [MakeChecks.laidMetH_plain _ _ _ (by kernel_rfl)] at h
  obtain ⟨ps, ⟨g0, t0, cs0, f0, p0, q0, hg0, ht0, hv0, hd0, ⟨g1, t1, cs1, f1, p1, q1, hg1, ht1, hv1, hd1, ⟨g2, t2, cs2, f2, p2, q2, hg2, ht2, hv2, hd2, ⟨g3, t3, cs3, f3, p3, q3, hg3, ht3, hv3, hd3, ⟨g4, t4, cs4, f4, p4, q4, hg4, ht4, hv4, hd4, _, _⟩, _⟩, _⟩, _⟩, _⟩, _, _⟩ := h
  obtain ⟨r1, r2⟩ := err_of gRange tRange hg3 ht3 hv3 hd3
  obtain ⟨s1, s2⟩ := err_of gSyntax tSyntax hg4 ht4 hv4 hd4
  obtain ⟨m, hm⟩ := cell_of_shapedOpen_int (P := Tryz.prog) (g := 0) (t := 3) (zero := #[.int .i64 0]) hs (of_decide_eq_true (by kernel_rfl)) (by kernel_rfl) rfl (by kernel_rfl) (by kernel_rfl) Tryz.underlying3
  have h3 : 0 < W.heap.size := World.block_lt_of_cell? W ⟨0, 0, none⟩ hm
  exact ⟨⟨⟨m, hm⟩, s1, r1⟩, by unfold gTop; omega⟩
theorem laid_met (os : Os) (args : Array Value) : laidMetH Tryz.prog laidL ((World.laidAll Tryz.prog os laidL).forCall (fun _ _ => 0) ⟨#[], args, []⟩).memory := by
  rw [MakeChecks.laidMetH_plain _ _ _ (by kernel_rfl)]
  exact laidMet_laidAll _ (by kernel_rfl) (by kernel_rfl)
end Go.Proofs.YtfjbjiklohjodaaGreatDoor.Z
namespace Go.Proofs.YtfjbjiklohjodaaGreatDoor.Z
open Go.RowKit Go.Proofs.YtfjbjiklohjodaaGreatDoorW.PrintWords
set_option linter.unusedVariables false
def Opens {α : Type} (P : Program) (t : TypeId) (d : Kd α) (good : α → Prop) : Prop := P.cellsOf t = d.sz ∧
  ∀ (H : Type) (enc : TypeId × Value → H) (w : World) (base : Nat) (spare : Nat → Bool) (held : Bool) (fuel : Nat) (cs : List Value) (x : DataW H × List MemPlace), DataW.trod enc P w base spare held fuel t cs = some x → ∃ v, d.K w v cs ∧ good v
section
variable {P : Program} {t e : TypeId}
theorem Opens.int {k : IntKind} (ht : P.underlying t = some (.int k)) (hc : P.cellsOf t = 1) : Opens P t (Kd.int k) (fun n => (Lit.int k n).wf = true) :=
  ⟨hc, fun H enc w base spare held fuel cs x h => let ⟨n, e, _, g⟩ := DataW.trod_int ht h; ⟨n, e, g⟩⟩
theorem Opens.bool (ht : P.underlying t = some .bool) (hc : P.cellsOf t = 1) : Opens P t Kd.bool (fun _ => True) :=
  ⟨hc, fun H enc w base spare held fuel cs x h => let ⟨n, e, _⟩ := DataW.trod_bool ht h; ⟨n, e, trivial⟩⟩
theorem Opens.string (ht : P.underlying t = some .string) (hc : P.cellsOf t = 1) : Opens P t Kd.string (fun s => s.size ≤ maxLen) :=
  ⟨hc, fun H enc w base spare held fuel cs x h => let ⟨n, e, _, g⟩ := DataW.trod_string ht h; ⟨n, e, g⟩⟩
theorem Opens.slice {α : Type} [Inhabited α] {d : Kd α} {good : α → Prop} (ht : P.underlying t = some (.slice e)) (hc : P.cellsOf t = 1) (he : Opens P e d good) : Opens P t (Kd.slice e d) (fun xs => ∀ x ∈ xs, good x) := by
  refine ⟨hc, fun H enc w base spare held fuel cs x h => ?_⟩
  rcases Deep.open_slice ht h with ⟨rfl, _⟩ | ⟨a, len, cap, m, n, D, Pl, rfl, _, hl, hm, hmm, _, hx⟩
  · exact ⟨[], ⟨none, 0, rfl, Nat.le_refl _, rfl, by simp, fun h => absurd h (Nat.lt_irrefl _)⟩, fun x hx => by cases hx⟩
  · have hlm : len ≤ m := by rw [hmm]; split <;> omega
    have each : ∀ i, i < len → ∃ v, ∃ cs', cs'.length = d.sz ∧ d.K w v cs' ∧ good v ∧ ∀ j u, cs'[j]? = some u → w.cell? (a.add (i * d.sz + j)) = some u := fun i hi => by
      obtain ⟨cs', h1, h2⟩ := hx i (by omega)
      rw [he.1] at h1
      obtain ⟨_, hlen, hcell⟩ := World.cells?_some h1
      obtain ⟨v, hK, hg⟩ := he.2 H enc w base spare held n cs' _ h2
      refine ⟨v, cs', hlen, hK, hg, fun j u hu => ?_⟩
      have hj : j < cs'.length := (List.getElem?_eq_some_iff.1 hu).1
      have := hcell j (by omega)
      rw [Deep.add_add] at this
      rw [this, hu]
    obtain ⟨f, hf⟩ := Deep.choose_lt each
    refine ⟨(List.range len).map f, ⟨some a, cap, by simp, by simpa using hl, by simp, ?_, ?_⟩, ?_⟩
    · have := hm; unfold maxLen at this; simp; omega
    · intro _
      refine ⟨a, rfl, fun j p hj => ?_⟩
      obtain ⟨hj1, hj2⟩ := List.getElem?_eq_some_iff.1 hj
      simp at hj1 hj2
      obtain ⟨cs', h1, h2, _, h4⟩ := hf j hj1
      exact ⟨cs', h1, hj2 ▸ h2, h4⟩
    · intro x hx
      obtain ⟨i, hi, rfl⟩ := List.mem_map.1 hx
      obtain ⟨_, _, _, h3, _⟩ := hf i (List.mem_range.1 hi)
      exact h3
def OpensF {α : Type} (P : Program) (fs : List Field) (off : Nat) (d : Kd α) (good : α → Prop) : Prop :=
  ∀ (H : Type) (enc : TypeId × Value → H) (w : World) (base : Nat) (spare : Nat → Bool) (held : Bool) (n : Nat) (cs : List Value) (xs : List (DataW H × List MemPlace)), cs.length = off + d.sz → xs.length = fs.length →
    (∀ (i : Nat) (f : Field), fs[i]? = some f → DataW.trod enc P w base spare held n f.type ((cs.drop f.offset).take (P.cellsOf f.type)) = xs[i]?) → ∃ v, d.K w v (cs.drop off) ∧ good v
theorem OpensF.last {α : Type} {f : Field} {off : Nat} {d : Kd α} {good : α → Prop} (ho : f.offset = off) (h : Opens P f.type d good) : OpensF P [f] off d good := by
  intro H enc w base spare held n cs xs hl hx ht
  have h0 := ht 0 f rfl
  rw [ho, h.1, List.take_of_length_le (by rw [List.length_drop]; omega), List.getElem?_eq_getElem (by rw [hx]; exact Nat.one_pos)] at h0
  exact h.2 H enc w base spare held n _ _ h0
theorem OpensF.cons {α β : Type} {f : Field} {fs : List Field} {off off' : Nat} {d : Kd α} {d' : Kd β} {good : α → Prop} {good' : β → Prop} (ho : f.offset = off) (h : Opens P f.type d good) (hoff : off' = off + d.sz) (hr : OpensF P fs off' d' good') :
    OpensF P (f :: fs) off (Kd.pair d d') (fun x => good x.1 ∧ good' x.2) := by
  subst hoff
  intro H enc w base spare held n cs xs hl hx ht
  have hl' : cs.length = off + (d.sz + d'.sz) := hl
  cases xs with
  | nil => simp at hx
  | cons y ys =>
    have h0 := ht 0 f rfl
    rw [ho, h.1] at h0
    obtain ⟨v, hK, hg⟩ := h.2 H enc w base spare held n _ y h0
    obtain ⟨v', hK', hg'⟩ := hr H enc w base spare held n cs ys (by omega) (by simpa using hx) (fun i f hf => ht (i + 1) f (by simpa using hf))
    refine ⟨(v, v'), ⟨(cs.drop off).take d.sz, cs.drop (off + d.sz), ?_, hK, hK'⟩, hg, hg'⟩
    have e := List.take_append_drop d.sz (cs.drop off)
    rw [List.drop_drop] at e
    exact e.symm
theorem Opens.struct {α β : Type} {fs : Array Field} {d : Kd α} {good : α → Prop} (ht : P.underlying t = some (.struct fs)) (hc : P.cellsOf t = d.sz) (hF : OpensF P fs.toList 0 d good) (f : β → α) (g : α → β) (hfg : ∀ a, f (g a) = a) : Opens P t (Kd.iso d f) (fun x => good (f x)) := by
  refine ⟨hc, fun H enc w base spare held fuel cs x h => ?_⟩
  obtain ⟨xs, n, _, _, hl, hx, hf⟩ := DataW.trod_struct ht h
  obtain ⟨v, hK, hg⟩ := hF H enc w base spare held n cs xs (by rw [hl, hc]; omega) (by simpa using hx) (fun i fd hi => hf i fd (by simpa using hi))
  refine ⟨g v, ?_, by show good (f (g v)); rw [hfg]; exact hg⟩
  show d.K w (f (g v)) cs
  rw [hfg]
  simpa using hK
end
def i64ok (n : Int) : Prop := (Lit.int .i64 n).wf = true
theorem i64ok.le {n : Int} (h : i64ok n) : -9223372036854775808 ≤ n ∧ n ≤ 9223372036854775807 := by
  unfold i64ok at h
  simpa [Lit.wf, IntKind.has, IntKind.min, IntKind.signed, IntKind.bits] using h
end Go.Proofs.YtfjbjiklohjodaaGreatDoor.Z
namespace Go.Proofs.YtfjbjiklohjodaaGreatDoor.Z
open Go.RowKit Go.Proofs.YtfjbjiklohjodaaGreatDoorW.PrintWords
set_option linter.unusedVariables false
def byteOk (n : Int) : Prop := (Lit.int .u8 n).wf = true
theorem byteOk.le {n : Int} (h : byteOk n) : 0 ≤ n ∧ n ≤ 255 := by
  unfold byteOk at h
  simpa [Lit.wf, IntKind.has, IntKind.min, IntKind.max, IntKind.signed, IntKind.bits] using h
theorem openByte : Opens Tryz.prog 5 (Kd.int .u8) byteOk := Opens.int Tryz.underlying5 (by kernel_rfl)
theorem openBytes : Opens Tryz.prog 22 (Kd.slice 5 (Kd.int .u8)) (fun xs => ∀ x ∈ xs, byteOk x) := Opens.slice Tryz.underlying22 (by kernel_rfl) openByte
theorem bytes_le {bs : List Int} (h : ∀ x ∈ bs, byteOk x) : ∀ b ∈ bs, (0 : Int) ≤ b ∧ b ≤ 255 := fun b hb => (h b hb).le
end Go.Proofs.YtfjbjiklohjodaaGreatDoor.Z
