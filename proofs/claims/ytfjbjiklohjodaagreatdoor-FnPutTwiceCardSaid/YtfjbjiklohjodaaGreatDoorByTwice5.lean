/- The program's StreamPut told with the blocks that its rows lead to. -/
import Derived.Test.YtfjbjiklohjodaaGreatDoorByTwice4
namespace Go.Proofs.YtfjbjiklohjodaaGreatDoor.Q
open Go Go.RowKit Go.Proofs.YtfjbjiklohjodaaGreatDoorW.PrintWords Go.Proofs.YtfjbjiklohjodaaGreatDoorW.PrintMore Go.Proofs.YtfjbjiklohjodaaGreatDoor.Z
set_option linter.unusedVariables false
section
variable {w : World} {A A2 : Option Addr} {c c2 : Nat} {L L1 : List S111} {l l1 : ByteArray} {P P1 : List S109} {a : Int} {x : ByteArray} {out ok : Bool}
theorem impl_putS (S : Nat → Prop) (hL : Kd.V k111 111 w 0 S (.slice A L.length c) L) (hP : Kd.V k109 109 w 0 S (.slice A2 P.length c2) P) (hl : l.size ≤ 1000) (hn : L.length ≤ 1000) (hp : P.length ≤ 1000) (hx : x.size ≤ 1000) (hR : putF L l P a x out = (L1, l1, P1, ok)) (hV : VarsIn w) :
    Calls Tryz.prog 17 #[.slice A L.length c, vSt l A2 c2 P, .int .i64 a, .string x, .bool out] w fun e w' => ∃ A' c' A2' c2', e = .returned (.tuple #[.slice A' L1.length c', vSt l1 A2' c2' P1, .bool ok]) ∧
      Kd.V k111 111 w' 0 (fun k => S k ∨ w.heap.size ≤ k) (.slice A' L1.length c') L1 ∧ Kd.V k109 109 w' 0 (fun k => S k ∨ w.heap.size ≤ k) (.slice A2' P1.length c2') P1 ∧ Below w.heap.size w w' := by
  have h := impl_StreamPut_to 6001 (by omega) (L.map prOf) (by rw [List.length_map]; omega) (bl l) (by rw [bl_len]; omega) (P.map spOf) (by rw [List.length_map]; omega) a (bl x) (by rw [bl_len]; omega) out
  rw [prs_to_of, mkB_bl, sps_to_of, mkB_bl] at h
  replace h := h.trans (congrArg some hR)
  refine (impl_StreamPut.calls 6001 S A c L l S A2 c2 P a x out L1 l1 P1 ok w hL hP hV h).mono ?_
  rintro e w' ⟨v0, v2, rfl, h1, h2, hb⟩
  have q1 : Kd.V k111 111 w' 0 (fun k => S k ∨ w.heap.size ≤ k) v0 L1 := Kd.V_mono h1 (fun _ hk => hk.imp_left (fun h => h.elim id id))
  have q2 : Kd.V k109 109 w' 0 (fun k => S k ∨ w.heap.size ≤ k) v2 P1 := Kd.V_mono h2 (fun _ hk => hk.imp_left (fun h => h.elim id id))
  obtain ⟨A', c', rfl⟩ := Kd.V_slice q1
  obtain ⟨A2', c2', rfl⟩ := Kd.V_slice q2
  exact ⟨A', c', A2', c2', rfl, q1, q2, hb⟩
end
end Go.Proofs.YtfjbjiklohjodaaGreatDoor.Q
