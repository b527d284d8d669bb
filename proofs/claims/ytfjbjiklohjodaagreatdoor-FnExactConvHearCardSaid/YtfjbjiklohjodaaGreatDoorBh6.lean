/- FnExactConvHear, plainly true: both ConvHear answer the same plain function, and what is longer than the law looks at is passed over. How a row's argument, read as data, is a value of one of our kinds. How a conversation and a packet of the laws' types, read as data, are values: what a row's arguments are. -/
import Derived.Test.YtfjbjiklohjodaaGreatDoorBh5
import Derived.Deep.Slices
import Derived.ChangeArms
import Derived.WideShapes
namespace Go.Proofs.YtfjbjiklohjodaaGreatDoor.Q
open Go.RowKit Go.Proofs.YtfjbjiklohjodaaGreatDoorW.PrintWords Go.Proofs.YtfjbjiklohjodaaGreatDoorW.PrintLast Go.Proofs.YtfjbjiklohjodaaGreatDoorW.PrintMore Go.Proofs.YtfjbjiklohjodaaGreatDoor.Z
attribute [local go_sem] max2_int min2_int max_two min_two max_three min_three max_four min_four
set_option linter.unusedVariables false
set_option linter.unusedSimpArgs false
noncomputable section
def laws_FnExactConvHear.f (a0_0 : Int) (a0_1 : Int) (a0_2 : Int) (a0_3 : Int) (a0_4 : ByteArray) (a0_5 : ByteArray) (a0_6 : Int) (a0_7 : Int) (a0_8 : ByteArray) (a0_9 : ByteArray) (a1 : Bool) (a2_0 : Int) (a2_1 : Int) (a2_2 : Int) (a2_3 : Int) (a2_4 : Int) (a2_5 : Int) (a2_6 : ByteArray) : Option (Bool) := (laws_szConv.f a0_0 a0_1 a0_2 a0_3 a0_4 a0_5 a0_6 a0_7 a0_8 a0_9 1048576).bind fun t103 => (if t103 < 0 then (some true) else ((laws_szPkt.f a2_0 a2_1 a2_2 a2_3 a2_4 a2_5 a2_6 t103).bind fun t104 => (if t104 < 0 then (some true) else ((laws_toConv.f a0_0 a0_1 a0_2 a0_3 a0_4 a0_5 a0_6 a0_7 a0_8 a0_9).bind fun bt105 => ((laws_toPkt.f a2_0 a2_1 a2_2 a2_3 a2_4 a2_5 a2_6).bind fun bt115 => ((spec_ConvHear.f bt105.1 bt105.2.1 bt105.2.2.1 bt105.2.2.2.1 bt105.2.2.2.2.1 bt105.2.2.2.2.2.1 bt105.2.2.2.2.2.2.1 bt105.2.2.2.2.2.2.2.1 bt105.2.2.2.2.2.2.2.2.1 bt105.2.2.2.2.2.2.2.2.2 a1 bt115.1 bt115.2.1 bt115.2.2.1 bt115.2.2.2.1 bt115.2.2.2.2.1 bt115.2.2.2.2.2.1 bt115.2.2.2.2.2.2).bind fun bt122 => ((laws_toConv.f a0_0 a0_1 a0_2 a0_3 a0_4 a0_5 a0_6 a0_7 a0_8 a0_9).bind fun bt142 => ((laws_toPkt.f a2_0 a2_1 a2_2 a2_3 a2_4 a2_5 a2_6).bind fun bt152 => ((impl_ConvHear.f bt142.1 bt142.2.1 bt142.2.2.1 bt142.2.2.2.1 bt142.2.2.2.2.1 bt142.2.2.2.2.2.1 bt142.2.2.2.2.2.2.1 bt142.2.2.2.2.2.2.2.1 bt142.2.2.2.2.2.2.2.2.1 bt142.2.2.2.2.2.2.2.2.2 a1 bt152.1 bt152.2.1 bt152.2.2.1 bt152.2.2.2.1 bt152.2.2.2.2.1 bt152.2.2.2.2.2.1 bt152.2.2.2.2.2.2).bind fun bt159 => ((laws_eqConv.f bt159.1 bt159.2.1 bt159.2.2.1 bt159.2.2.2.1 bt159.2.2.2.2.1 bt159.2.2.2.2.2.1 bt159.2.2.2.2.2.2.1 bt159.2.2.2.2.2.2.2.1 bt159.2.2.2.2.2.2.2.2.1 bt159.2.2.2.2.2.2.2.2.2.1 bt122.1 bt122.2.1 bt122.2.2.1 bt122.2.2.2.1 bt122.2.2.2.2.1 bt122.2.2.2.2.2.1 bt122.2.2.2.2.2.2.1 bt122.2.2.2.2.2.2.2.1 bt122.2.2.2.2.2.2.2.2.1 bt122.2.2.2.2.2.2.2.2.2.1).bind fun t179 => (if t179 = true then ((laws_eqPkt.f bt159.2.2.2.2.2.2.2.2.2.2.1 bt159.2.2.2.2.2.2.2.2.2.2.2.1 bt159.2.2.2.2.2.2.2.2.2.2.2.2.1 bt159.2.2.2.2.2.2.2.2.2.2.2.2.2.1 bt159.2.2.2.2.2.2.2.2.2.2.2.2.2.2.1 bt159.2.2.2.2.2.2.2.2.2.2.2.2.2.2.2.1 bt159.2.2.2.2.2.2.2.2.2.2.2.2.2.2.2.2.1 bt122.2.2.2.2.2.2.2.2.2.2.1 bt122.2.2.2.2.2.2.2.2.2.2.2.1 bt122.2.2.2.2.2.2.2.2.2.2.2.2.1 bt122.2.2.2.2.2.2.2.2.2.2.2.2.2.1 bt122.2.2.2.2.2.2.2.2.2.2.2.2.2.2.1 bt122.2.2.2.2.2.2.2.2.2.2.2.2.2.2.2.1 bt122.2.2.2.2.2.2.2.2.2.2.2.2.2.2.2.2.1).bind fun t180 => (if t180 = true then (if (bt159.2.2.2.2.2.2.2.2.2.2.2.2.2.2.2.2.2 != bt122.2.2.2.2.2.2.2.2.2.2.2.2.2.2.2.2.2) = true then (none) else (some true)) else (none))) else (none))))))))))))
def laws_FnExactConvHear.T8 : Bool × List (List Nat × List Nat) := (true, [([], []), ([0], [0]), ([], []), ([], []), ([3, 1], [3]), ([1, 2, 4, 4], [1, 2, 4]), ([5], [5]), ([6], [6]), ([6], [6]), ([6], [6]), ([], []), ([], []), ([10, 7, 5, 0, 1, 2, 3, 4, 5, 6, 7, 10, 11], [7, 10]), ([11, 8, 12, 0, 1, 2, 3, 4, 5, 6, 7, 8, 10, 11, 12], [8, 11]), ([9, 13, 0, 1, 2, 3, 4, 5, 6, 7, 8, 9, 10, 11, 12, 13], [9])])
def laws_FnExactConvHear.B8 : List Nat := [0, 1, 0, 0, 11, 31, 63, 127, 127, 127, 0, 0, 3327, 7679, 16383]
theorem laws_FnExactConvHear.tab8 : rtab .any (opsOf Tryz.f12 8) = laws_FnExactConvHear.T8 := by kernel_rfl
theorem laws_FnExactConvHear.bits8 : waitsOk laws_FnExactConvHear.T8.2 laws_FnExactConvHear.B8 = true := by kernel_rfl
def laws_FnExactConvHear.T9 : Bool × List (List Nat × List Nat) := (true, [([], []), ([0], [0]), ([], []), ([], []), ([3, 1], [3]), ([1, 2, 4, 4], [1, 2, 4]), ([5], [5]), ([6], [6]), ([6], [6]), ([6], [6]), ([], []), ([], []), ([10, 7, 5, 0, 1, 2, 3, 4, 5, 6, 7, 10, 11], [7, 10]), ([11, 8, 12, 0, 1, 2, 3, 4, 5, 6, 7, 8, 10, 11, 12], [8, 11]), ([9, 13, 0, 1, 2, 3, 4, 5, 6, 7, 8, 9, 10, 11, 12, 13], [9])])
def laws_FnExactConvHear.B9 : List Nat := [0, 1, 0, 0, 11, 31, 63, 127, 127, 127, 0, 0, 3327, 7679, 16383]
theorem laws_FnExactConvHear.tab9 : rtab .any (opsOf Tryz.f12 9) = laws_FnExactConvHear.T9 := by kernel_rfl
theorem laws_FnExactConvHear.bits9 : waitsOk laws_FnExactConvHear.T9.2 laws_FnExactConvHear.B9 = true := by kernel_rfl
set_option maxHeartbeats 8000000 in
set_option maxRecDepth 100000 in
theorem laws_FnExactConvHear.calls (a0_0 : Int) (a0_1 : Int) (a0_2 : Int) (a0_3 : Int) (a0_4 : ByteArray) (a0_5 : ByteArray) (a0_6 : Int) (a0_7 : Int) (a0_8 : ByteArray) (a0_9 : ByteArray) (a1 : Bool) (a2_0 : Int) (a2_1 : Int) (a2_2 : Int) (a2_3 : Int) (a2_4 : Int) (a2_5 : Int) (a2_6 : ByteArray) (r : Bool) (w : World) (hV : VarsIn w) (h : laws_FnExactConvHear.f a0_0 a0_1 a0_2 a0_3 a0_4 a0_5 a0_6 a0_7 a0_8 a0_9 a1 a2_0 a2_1 a2_2 a2_3 a2_4 a2_5 a2_6 = some r) :
    Calls Tryz.prog 12 #[.agg #[.int .i64 a0_0, .int .i64 a0_1, .int .i64 a0_2, .int .i64 a0_3, .string a0_4, .string a0_5, .int .i64 a0_6, .int .i64 a0_7, .string a0_8, .string a0_9], .bool a1, .agg #[.int .i64 a2_0, .int .i64 a2_1, .int .i64 a2_2, .int .i64 a2_3, .int .i64 a2_4, .int .i64 a2_5, .string a2_6]] w fun e w' => e = .returned (.bool r) ∧ Below w.heap.size w w' := by
  have hu57 := Tryz.underlying57
  have hu59 := Tryz.underlying59
  have hu64 := Tryz.underlying64
  have hu66 := Tryz.underlying66
  have HB := Aside0.mk (Below.refl w.heap.size w)
  have H : ((laws_szConv.f a0_0 a0_1 a0_2 a0_3 a0_4 a0_5 a0_6 a0_7 a0_8 a0_9 1048576).bind fun t103 => (if t103 < 0 then (some true) else ((laws_szPkt.f a2_0 a2_1 a2_2 a2_3 a2_4 a2_5 a2_6 t103).bind fun t104 => (if t104 < 0 then (some true) else ((laws_toConv.f a0_0 a0_1 a0_2 a0_3 a0_4 a0_5 a0_6 a0_7 a0_8 a0_9).bind fun bt105 => ((laws_toPkt.f a2_0 a2_1 a2_2 a2_3 a2_4 a2_5 a2_6).bind fun bt115 => ((spec_ConvHear.f bt105.1 bt105.2.1 bt105.2.2.1 bt105.2.2.2.1 bt105.2.2.2.2.1 bt105.2.2.2.2.2.1 bt105.2.2.2.2.2.2.1 bt105.2.2.2.2.2.2.2.1 bt105.2.2.2.2.2.2.2.2.1 bt105.2.2.2.2.2.2.2.2.2 a1 bt115.1 bt115.2.1 bt115.2.2.1 bt115.2.2.2.1 bt115.2.2.2.2.1 bt115.2.2.2.2.2.1 bt115.2.2.2.2.2.2).bind fun bt122 => ((laws_toConv.f a0_0 a0_1 a0_2 a0_3 a0_4 a0_5 a0_6 a0_7 a0_8 a0_9).bind fun bt142 => ((laws_toPkt.f a2_0 a2_1 a2_2 a2_3 a2_4 a2_5 a2_6).bind fun bt152 => ((impl_ConvHear.f bt142.1 bt142.2.1 bt142.2.2.1 bt142.2.2.2.1 bt142.2.2.2.2.1 bt142.2.2.2.2.2.1 bt142.2.2.2.2.2.2.1 bt142.2.2.2.2.2.2.2.1 bt142.2.2.2.2.2.2.2.2.1 bt142.2.2.2.2.2.2.2.2.2 a1 bt152.1 bt152.2.1 bt152.2.2.1 bt152.2.2.2.1 bt152.2.2.2.2.1 bt152.2.2.2.2.2.1 bt152.2.2.2.2.2.2).bind fun bt159 => ((laws_eqConv.f bt159.1 bt159.2.1 bt159.2.2.1 bt159.2.2.2.1 bt159.2.2.2.2.1 bt159.2.2.2.2.2.1 bt159.2.2.2.2.2.2.1 bt159.2.2.2.2.2.2.2.1 bt159.2.2.2.2.2.2.2.2.1 bt159.2.2.2.2.2.2.2.2.2.1 bt122.1 bt122.2.1 bt122.2.2.1 bt122.2.2.2.1 bt122.2.2.2.2.1 bt122.2.2.2.2.2.1 bt122.2.2.2.2.2.2.1 bt122.2.2.2.2.2.2.2.1 bt122.2.2.2.2.2.2.2.2.1 bt122.2.2.2.2.2.2.2.2.2.1).bind fun t179 => (if t179 = true then ((laws_eqPkt.f bt159.2.2.2.2.2.2.2.2.2.2.1 bt159.2.2.2.2.2.2.2.2.2.2.2.1 bt159.2.2.2.2.2.2.2.2.2.2.2.2.1 bt159.2.2.2.2.2.2.2.2.2.2.2.2.2.1 bt159.2.2.2.2.2.2.2.2.2.2.2.2.2.2.1 bt159.2.2.2.2.2.2.2.2.2.2.2.2.2.2.2.1 bt159.2.2.2.2.2.2.2.2.2.2.2.2.2.2.2.2.1 bt122.2.2.2.2.2.2.2.2.2.2.1 bt122.2.2.2.2.2.2.2.2.2.2.2.1 bt122.2.2.2.2.2.2.2.2.2.2.2.2.1 bt122.2.2.2.2.2.2.2.2.2.2.2.2.2.1 bt122.2.2.2.2.2.2.2.2.2.2.2.2.2.2.1 bt122.2.2.2.2.2.2.2.2.2.2.2.2.2.2.2.1 bt122.2.2.2.2.2.2.2.2.2.2.2.2.2.2.2.2.1).bind fun t180 => (if t180 = true then (if (bt159.2.2.2.2.2.2.2.2.2.2.2.2.2.2.2.2.2 != bt122.2.2.2.2.2.2.2.2.2.2.2.2.2.2.2.2.2) = true then (none) else (some true)) else (none))) else (none))))))))))))) = some r := h
  clear h
  replace H := Option.bind_eq_some_iff.mp H
  obtain ⟨t103, A40, H⟩ := H
  replace H : (if t103 < 0 then (some true) else ((laws_szPkt.f a2_0 a2_1 a2_2 a2_3 a2_4 a2_5 a2_6 t103).bind fun t104 => (if t104 < 0 then (some true) else ((laws_toConv.f a0_0 a0_1 a0_2 a0_3 a0_4 a0_5 a0_6 a0_7 a0_8 a0_9).bind fun bt105 => ((laws_toPkt.f a2_0 a2_1 a2_2 a2_3 a2_4 a2_5 a2_6).bind fun bt115 => ((spec_ConvHear.f bt105.1 bt105.2.1 bt105.2.2.1 bt105.2.2.2.1 bt105.2.2.2.2.1 bt105.2.2.2.2.2.1 bt105.2.2.2.2.2.2.1 bt105.2.2.2.2.2.2.2.1 bt105.2.2.2.2.2.2.2.2.1 bt105.2.2.2.2.2.2.2.2.2 a1 bt115.1 bt115.2.1 bt115.2.2.1 bt115.2.2.2.1 bt115.2.2.2.2.1 bt115.2.2.2.2.2.1 bt115.2.2.2.2.2.2).bind fun bt122 => ((laws_toConv.f a0_0 a0_1 a0_2 a0_3 a0_4 a0_5 a0_6 a0_7 a0_8 a0_9).bind fun bt142 => ((laws_toPkt.f a2_0 a2_1 a2_2 a2_3 a2_4 a2_5 a2_6).bind fun bt152 => ((impl_ConvHear.f bt142.1 bt142.2.1 bt142.2.2.1 bt142.2.2.2.1 bt142.2.2.2.2.1 bt142.2.2.2.2.2.1 bt142.2.2.2.2.2.2.1 bt142.2.2.2.2.2.2.2.1 bt142.2.2.2.2.2.2.2.2.1 bt142.2.2.2.2.2.2.2.2.2 a1 bt152.1 bt152.2.1 bt152.2.2.1 bt152.2.2.2.1 bt152.2.2.2.2.1 bt152.2.2.2.2.2.1 bt152.2.2.2.2.2.2).bind fun bt159 => ((laws_eqConv.f bt159.1 bt159.2.1 bt159.2.2.1 bt159.2.2.2.1 bt159.2.2.2.2.1 bt159.2.2.2.2.2.1 bt159.2.2.2.2.2.2.1 bt159.2.2.2.2.2.2.2.1 bt159.2.2.2.2.2.2.2.2.1 bt159.2.2.2.2.2.2.2.2.2.1 bt122.1 bt122.2.1 bt122.2.2.1 bt122.2.2.2.1 bt122.2.2.2.2.1 bt122.2.2.2.2.2.1 bt122.2.2.2.2.2.2.1 bt122.2.2.2.2.2.2.2.1 bt122.2.2.2.2.2.2.2.2.1 bt122.2.2.2.2.2.2.2.2.2.1).bind fun t179 => (if t179 = true then ((laws_eqPkt.f bt159.2.2.2.2.2.2.2.2.2.2.1 bt159.2.2.2.2.2.2.2.2.2.2.2.1 bt159.2.2.2.2.2.2.2.2.2.2.2.2.1 bt159.2.2.2.2.2.2.2.2.2.2.2.2.2.1 bt159.2.2.2.2.2.2.2.2.2.2.2.2.2.2.1 bt159.2.2.2.2.2.2.2.2.2.2.2.2.2.2.2.1 bt159.2.2.2.2.2.2.2.2.2.2.2.2.2.2.2.2.1 bt122.2.2.2.2.2.2.2.2.2.2.1 bt122.2.2.2.2.2.2.2.2.2.2.2.1 bt122.2.2.2.2.2.2.2.2.2.2.2.2.1 bt122.2.2.2.2.2.2.2.2.2.2.2.2.2.1 bt122.2.2.2.2.2.2.2.2.2.2.2.2.2.2.1 bt122.2.2.2.2.2.2.2.2.2.2.2.2.2.2.2.1 bt122.2.2.2.2.2.2.2.2.2.2.2.2.2.2.2.2.1).bind fun t180 => (if t180 = true then (if (bt159.2.2.2.2.2.2.2.2.2.2.2.2.2.2.2.2.2 != bt122.2.2.2.2.2.2.2.2.2.2.2.2.2.2.2.2.2) = true then (none) else (some true)) else (none))) else (none)))))))))))) = some r := H
  have A4 := Aside0.mk A40
  clear A40
  by_cases c5 : t103 < 0
  · rw [if_pos c5] at H
    have c5b0 : decide (t103 < 0) = true := decide_eq_true c5
    clear c5
    obtain rfl := Option.some.inj H
    go_enter Tryz.func12, Tryz.ntmps12
    go_wp2_with (first | ((with_reducible refine gate_dst (N := 3) rfl ?_); refine box_event ?hg (N := 3) ?hd (cs := #[.int .i64 a0_0, .int .i64 a0_1, .int .i64 a0_2, .int .i64 a0_3, .string a0_4, .string a0_5, .int .i64 a0_6, .int .i64 a0_7, .string a0_8, .string a0_9]) (t := 57) ?hr ?_; (case hd => rfl); (case hg => rfl); (case hr => first | (go_simp; done) | (go_simp; rfl)); intro gb101 hg w6 hbox hb; have n0_ := Aside0.mk (below_step (by repeat (first | (with_reducible first | exact HB.out | apply below_alloc | apply pw_below_drewN | apply below_drew1) | exact HB.out)) hb); have n1_ := Aside0.mk (hbox); have n2_ := Aside0.mk ((by rw [hg]; exact (below_size (by repeat (first | (with_reducible first | exact HB.out | apply below_alloc | apply pw_below_drewN | apply below_drew1) | exact HB.out))) : w.heap.size ≤ gb101)); have n3_ := Aside0.mk ((by rw [hg]; exact (below_size (by repeat (first | (with_reducible first | exact HB.out | apply below_alloc | apply pw_below_drewN | apply below_drew1) | exact HB.out))) : w.heap.size ≤ gb101)); clear HB; have HB := n0_; have BK101 := n1_; have GW101 := n2_; have GE101 := n3_; clear n0_ n1_ n2_ n3_; clear hb hbox hg) | ((with_reducible refine gate_dst (N := 5) rfl ?_); refine box_event ?hg (N := 5) ?hd (cs := #[.int .i64 a2_0, .int .i64 a2_1, .int .i64 a2_2, .int .i64 a2_3, .int .i64 a2_4, .int .i64 a2_5, .string a2_6]) (t := 59) ?hr ?_; (case hd => rfl); (case hg => rfl); (case hr => first | (go_simp; done) | (go_simp; rfl)); intro gb102 hg w7 hbox hb; have n0_ := Aside0.mk (blk_below (g := gb101) (o := .cells #[.int .i64 a0_0, .int .i64 a0_1, .int .i64 a0_2, .int .i64 a0_3, .string a0_4, .string a0_5, .int .i64 a0_6, .int .i64 a0_7, .string a0_8, .string a0_9] 57 (0, 0)) (by (with_reducible repeat (first | refine blk_drewN ?_ _ | refine blk_drew ?_ | refine blk_alloc ?_ _)); exact BK101.out) hb); have n1_ := Aside0.mk (below_step (by repeat (first | (with_reducible first | exact HB.out | apply below_alloc | apply pw_below_drewN | apply below_drew1 | refine below_set ?_ GE101.out) | exact HB.out)) hb); have n2_ := Aside0.mk (hbox); have n3_ := Aside0.mk ((by rw [hg]; exact (below_size (by repeat (first | (with_reducible first | exact HB.out | apply below_alloc | apply pw_below_drewN | apply below_drew1 | refine below_set ?_ GE101.out) | exact HB.out))) : w.heap.size ≤ gb102)); have n4_ := Aside0.mk ((by rw [hg]; exact (below_size (by repeat (first | (with_reducible first | exact HB.out | apply below_alloc | apply pw_below_drewN | apply below_drew1 | refine below_set ?_ GE101.out) | exact HB.out))) : w.heap.size ≤ gb102)); have n5_ := Aside0.mk ((by rw [hg]; exact Nat.ne_of_lt (blk_lt (g := gb101) (o := .cells #[.int .i64 a0_0, .int .i64 a0_1, .int .i64 a0_2, .int .i64 a0_3, .string a0_4, .string a0_5, .int .i64 a0_6, .int .i64 a0_7, .string a0_8, .string a0_9] 57 (0, 0)) (by (with_reducible repeat (first | refine blk_drewN ?_ _ | refine blk_drew ?_ | refine blk_alloc ?_ _)); exact BK101.out)) : gb101 ≠ gb102)); have n6_ := Aside0.mk ((by rw [hg]; exact Nat.ne_of_gt (blk_lt (g := gb101) (o := .cells #[.int .i64 a0_0, .int .i64 a0_1, .int .i64 a0_2, .int .i64 a0_3, .string a0_4, .string a0_5, .int .i64 a0_6, .int .i64 a0_7, .string a0_8, .string a0_9] 57 (0, 0)) (by (with_reducible repeat (first | refine blk_drewN ?_ _ | refine blk_drew ?_ | refine blk_alloc ?_ _)); exact BK101.out)) : gb102 ≠ gb101)); clear BK101; clear HB; have BK101 := n0_; have HB := n1_; have BK102 := n2_; have GW102 := n3_; have GE102 := n4_; have NB101_102 := n5_; have NB102_101 := n6_; clear n0_ n1_ n2_ n3_ n4_ n5_ n6_; clear hb hbox hg; have hnb8 := NB101_102.out; have hnc8 := NB102_101.out; have hcz9_0 : w7.cell? ⟨gb101, 0, none⟩ = some (.int .i64 a0_0) := (blk_cell BK101.out 0).trans rfl; have hcz9_1 : w7.cell? ⟨gb101, 1, none⟩ = some (.int .i64 a0_1) := (blk_cell BK101.out 1).trans rfl; have hcz9_2 : w7.cell? ⟨gb101, 2, none⟩ = some (.int .i64 a0_2) := (blk_cell BK101.out 2).trans rfl; have hcz9_3 : w7.cell? ⟨gb101, 3, none⟩ = some (.int .i64 a0_3) := (blk_cell BK101.out 3).trans rfl; have hcz9_4 : w7.cell? ⟨gb101, 4, none⟩ = some (.string a0_4) := (blk_cell BK101.out 4).trans rfl; have hcz9_5 : w7.cell? ⟨gb101, 5, none⟩ = some (.string a0_5) := (blk_cell BK101.out 5).trans rfl; have hcz9_6 : w7.cell? ⟨gb101, 6, none⟩ = some (.int .i64 a0_6) := (blk_cell BK101.out 6).trans rfl; have hcz9_7 : w7.cell? ⟨gb101, 7, none⟩ = some (.int .i64 a0_7) := (blk_cell BK101.out 7).trans rfl; have hcz9_8 : w7.cell? ⟨gb101, 8, none⟩ = some (.string a0_8) := (blk_cell BK101.out 8).trans rfl; have hcz9_9 : w7.cell? ⟨gb101, 9, none⟩ = some (.string a0_9) := (blk_cell BK101.out 9).trans rfl; have hfz9_0 := blk_frozen BK101.out 0; have hfz9_1 := blk_frozen BK101.out 1; have hfz9_2 := blk_frozen BK101.out 2; have hfz9_3 := blk_frozen BK101.out 3; have hfz9_4 := blk_frozen BK101.out 4; have hfz9_5 := blk_frozen BK101.out 5; have hfz9_6 := blk_frozen BK101.out 6; have hfz9_7 := blk_frozen BK101.out 7; have hfz9_8 := blk_frozen BK101.out 8; have hfz9_9 := blk_frozen BK101.out 9) | ((with_reducible refine gate_callee (f := 40) rfl ?_); refine goesL_ (some 16) rfl rfl Tryz.func40 (by kernel_rfl) rfl #[.agg #[.int .i64 a0_0, .int .i64 a0_1, .int .i64 a0_2, .int .i64 a0_3, .string a0_4, .string a0_5, .int .i64 a0_6, .int .i64 a0_7, .string a0_8, .string a0_9], .int .i64 1048576] rfl (by (try simp only [List.map_toArray, List.map_cons, List.map_nil]); first | done | rfl | (simp only [List.length_drop, List.length_take]; rfl)) ?_; (with_reducible refine (laws_szConv.calls a0_0 a0_1 a0_2 a0_3 a0_4 a0_5 a0_6 a0_7 a0_8 a0_9 1048576 t103 _ A4.out).mono ?_); rintro e w10 ⟨rfl, hb⟩; refine ⟨_, rfl, ?_⟩; have n0_ := Aside0.mk (blk_below (g := gb101) (o := .cells #[.int .i64 a0_0, .int .i64 a0_1, .int .i64 a0_2, .int .i64 a0_3, .string a0_4, .string a0_5, .int .i64 a0_6, .int .i64 a0_7, .string a0_8, .string a0_9] 57 (0, 0)) (by (with_reducible repeat (first | refine blk_drewN ?_ _ | refine blk_drew ?_ | refine blk_alloc ?_ _)); exact BK101.out) hb); have n1_ := Aside0.mk (blk_below (g := gb102) (o := .cells #[.int .i64 a2_0, .int .i64 a2_1, .int .i64 a2_2, .int .i64 a2_3, .int .i64 a2_4, .int .i64 a2_5, .string a2_6] 59 (0, 0)) (by (with_reducible repeat (first | refine blk_drewN ?_ _ | refine blk_drew ?_ | refine blk_alloc ?_ _)); exact BK102.out) hb); have n2_ := Aside0.mk (below_step (by repeat (first | (with_reducible first | exact HB.out | apply below_alloc | apply pw_below_drewN | apply below_drew1 | refine below_set ?_ GE101.out | refine below_set ?_ GE102.out) | exact HB.out)) hb); clear BK101; clear BK102; clear HB; have BK101 := n0_; have BK102 := n1_; have HB := n2_; clear n0_ n1_ n2_; (try clear hb); (try clear hb2); (try clear hk); (try clear hi)))
    go_ret
    exact ⟨by first | rfl | (simp [errW_none, errW_some] <;> rfl) | (simp [*, errW_none, errW_some] <;> rfl), by repeat (first | (with_reducible first | exact HB.out | apply below_alloc | apply pw_below_drewN | apply below_drew1 | refine below_set ?_ GE101.out | refine below_set ?_ GE102.out) | exact HB.out)⟩
  · rw [if_neg c5] at H
    have c5b0 : decide (t103 < 0) = false := decide_eq_false c5
    clear c5
    replace H := Option.bind_eq_some_iff.mp H
    obtain ⟨t104, A110, H⟩ := H
    replace H : (if t104 < 0 then (some true) else ((laws_toConv.f a0_0 a0_1 a0_2 a0_3 a0_4 a0_5 a0_6 a0_7 a0_8 a0_9).bind fun bt105 => ((laws_toPkt.f a2_0 a2_1 a2_2 a2_3 a2_4 a2_5 a2_6).bind fun bt115 => ((spec_ConvHear.f bt105.1 bt105.2.1 bt105.2.2.1 bt105.2.2.2.1 bt105.2.2.2.2.1 bt105.2.2.2.2.2.1 bt105.2.2.2.2.2.2.1 bt105.2.2.2.2.2.2.2.1 bt105.2.2.2.2.2.2.2.2.1 bt105.2.2.2.2.2.2.2.2.2 a1 bt115.1 bt115.2.1 bt115.2.2.1 bt115.2.2.2.1 bt115.2.2.2.2.1 bt115.2.2.2.2.2.1 bt115.2.2.2.2.2.2).bind fun bt122 => ((laws_toConv.f a0_0 a0_1 a0_2 a0_3 a0_4 a0_5 a0_6 a0_7 a0_8 a0_9).bind fun bt142 => ((laws_toPkt.f a2_0 a2_1 a2_2 a2_3 a2_4 a2_5 a2_6).bind fun bt152 => ((impl_ConvHear.f bt142.1 bt142.2.1 bt142.2.2.1 bt142.2.2.2.1 bt142.2.2.2.2.1 bt142.2.2.2.2.2.1 bt142.2.2.2.2.2.2.1 bt142.2.2.2.2.2.2.2.1 bt142.2.2.2.2.2.2.2.2.1 bt142.2.2.2.2.2.2.2.2.2 a1 bt152.1 bt152.2.1 bt152.2.2.1 bt152.2.2.2.1 bt152.2.2.2.2.1 bt152.2.2.2.2.2.1 bt152.2.2.2.2.2.2).bind fun bt159 => ((laws_eqConv.f bt159.1 bt159.2.1 bt159.2.2.1 bt159.2.2.2.1 bt159.2.2.2.2.1 bt159.2.2.2.2.2.1 bt159.2.2.2.2.2.2.1 bt159.2.2.2.2.2.2.2.1 bt159.2.2.2.2.2.2.2.2.1 bt159.2.2.2.2.2.2.2.2.2.1 bt122.1 bt122.2.1 bt122.2.2.1 bt122.2.2.2.1 bt122.2.2.2.2.1 bt122.2.2.2.2.2.1 bt122.2.2.2.2.2.2.1 bt122.2.2.2.2.2.2.2.1 bt122.2.2.2.2.2.2.2.2.1 bt122.2.2.2.2.2.2.2.2.2.1).bind fun t179 => (if t179 = true then ((laws_eqPkt.f bt159.2.2.2.2.2.2.2.2.2.2.1 bt159.2.2.2.2.2.2.2.2.2.2.2.1 bt159.2.2.2.2.2.2.2.2.2.2.2.2.1 bt159.2.2.2.2.2.2.2.2.2.2.2.2.2.1 bt159.2.2.2.2.2.2.2.2.2.2.2.2.2.2.1 bt159.2.2.2.2.2.2.2.2.2.2.2.2.2.2.2.1 bt159.2.2.2.2.2.2.2.2.2.2.2.2.2.2.2.2.1 bt122.2.2.2.2.2.2.2.2.2.2.1 bt122.2.2.2.2.2.2.2.2.2.2.2.1 bt122.2.2.2.2.2.2.2.2.2.2.2.2.1 bt122.2.2.2.2.2.2.2.2.2.2.2.2.2.1 bt122.2.2.2.2.2.2.2.2.2.2.2.2.2.2.1 bt122.2.2.2.2.2.2.2.2.2.2.2.2.2.2.2.1 bt122.2.2.2.2.2.2.2.2.2.2.2.2.2.2.2.2.1).bind fun t180 => (if t180 = true then (if (bt159.2.2.2.2.2.2.2.2.2.2.2.2.2.2.2.2.2 != bt122.2.2.2.2.2.2.2.2.2.2.2.2.2.2.2.2.2) = true then (none) else (some true)) else (none))) else (none)))))))))) = some r := H
    have A11 := Aside0.mk A110
    clear A110
    by_cases c12 : t104 < 0
    · rw [if_pos c12] at H
      have c12b0 : decide (t104 < 0) = true := decide_eq_true c12
      clear c12
      obtain rfl := Option.some.inj H
      go_enter Tryz.func12, Tryz.ntmps12
      go_wp2_with (first | ((with_reducible refine gate_dst (N := 3) rfl ?_); refine box_event ?hg (N := 3) ?hd (cs := #[.int .i64 a0_0, .int .i64 a0_1, .int .i64 a0_2, .int .i64 a0_3, .string a0_4, .string a0_5, .int .i64 a0_6, .int .i64 a0_7, .string a0_8, .string a0_9]) (t := 57) ?hr ?_; (case hd => rfl); (case hg => rfl); (case hr => first | (go_simp; done) | (go_simp; rfl)); intro gb101 hg w13 hbox hb; have n0_ := Aside0.mk (below_step (by repeat (first | (with_reducible first | exact HB.out | apply below_alloc | apply pw_below_drewN | apply below_drew1) | exact HB.out)) hb); have n1_ := Aside0.mk (hbox); have n2_ := Aside0.mk ((by rw [hg]; exact (below_size (by repeat (first | (with_reducible first | exact HB.out | apply below_alloc | apply pw_below_drewN | apply below_drew1) | exact HB.out))) : w.heap.size ≤ gb101)); have n3_ := Aside0.mk ((by rw [hg]; exact (below_size (by repeat (first | (with_reducible first | exact HB.out | apply below_alloc | apply pw_below_drewN | apply below_drew1) | exact HB.out))) : w.heap.size ≤ gb101)); clear HB; have HB := n0_; have BK101 := n1_; have GW101 := n2_; have GE101 := n3_; clear n0_ n1_ n2_ n3_; clear hb hbox hg) | ((with_reducible refine gate_dst (N := 5) rfl ?_); refine box_event ?hg (N := 5) ?hd (cs := #[.int .i64 a2_0, .int .i64 a2_1, .int .i64 a2_2, .int .i64 a2_3, .int .i64 a2_4, .int .i64 a2_5, .string a2_6]) (t := 59) ?hr ?_; (case hd => rfl); (case hg => rfl); (case hr => first | (go_simp; done) | (go_simp; rfl)); intro gb102 hg w14 hbox hb; have n0_ := Aside0.mk (blk_below (g := gb101) (o := .cells #[.int .i64 a0_0, .int .i64 a0_1, .int .i64 a0_2, .int .i64 a0_3, .string a0_4, .string a0_5, .int .i64 a0_6, .int .i64 a0_7, .string a0_8, .string a0_9] 57 (0, 0)) (by (with_reducible repeat (first | refine blk_drewN ?_ _ | refine blk_drew ?_ | refine blk_alloc ?_ _)); exact BK101.out) hb); have n1_ := Aside0.mk (below_step (by repeat (first | (with_reducible first | exact HB.out | apply below_alloc | apply pw_below_drewN | apply below_drew1 | refine below_set ?_ GE101.out) | exact HB.out)) hb); have n2_ := Aside0.mk (hbox); have n3_ := Aside0.mk ((by rw [hg]; exact (below_size (by repeat (first | (with_reducible first | exact HB.out | apply below_alloc | apply pw_below_drewN | apply below_drew1 | refine below_set ?_ GE101.out) | exact HB.out))) : w.heap.size ≤ gb102)); have n4_ := Aside0.mk ((by rw [hg]; exact (below_size (by repeat (first | (with_reducible first | exact HB.out | apply below_alloc | apply pw_below_drewN | apply below_drew1 | refine below_set ?_ GE101.out) | exact HB.out))) : w.heap.size ≤ gb102)); have n5_ := Aside0.mk ((by rw [hg]; exact Nat.ne_of_lt (blk_lt (g := gb101) (o := .cells #[.int .i64 a0_0, .int .i64 a0_1, .int .i64 a0_2, .int .i64 a0_3, .string a0_4, .string a0_5, .int .i64 a0_6, .int .i64 a0_7, .string a0_8, .string a0_9] 57 (0, 0)) (by (with_reducible repeat (first | refine blk_drewN ?_ _ | refine blk_drew ?_ | refine blk_alloc ?_ _)); exact BK101.out)) : gb101 ≠ gb102)); have n6_ := Aside0.mk ((by rw [hg]; exact Nat.ne_of_gt (blk_lt (g := gb101) (o := .cells #[.int .i64 a0_0, .int .i64 a0_1, .int .i64 a0_2, .int .i64 a0_3, .string a0_4, .string a0_5, .int .i64 a0_6, .int .i64 a0_7, .string a0_8, .string a0_9] 57 (0, 0)) (by (with_reducible repeat (first | refine blk_drewN ?_ _ | refine blk_drew ?_ | refine blk_alloc ?_ _)); exact BK101.out)) : gb102 ≠ gb101)); clear BK101; clear HB; have BK101 := n0_; have HB := n1_; have BK102 := n2_; have GW102 := n3_; have GE102 := n4_; have NB101_102 := n5_; have NB102_101 := n6_; clear n0_ n1_ n2_ n3_ n4_ n5_ n6_; clear hb hbox hg; have hnb15 := NB101_102.out; have hnc15 := NB102_101.out; have hcz16_0 : w14.cell? ⟨gb101, 0, none⟩ = some (.int .i64 a0_0) := (blk_cell BK101.out 0).trans rfl; have hcz16_1 : w14.cell? ⟨gb101, 1, none⟩ = some (.int .i64 a0_1) := (blk_cell BK101.out 1).trans rfl; have hcz16_2 : w14.cell? ⟨gb101, 2, none⟩ = some (.int .i64 a0_2) := (blk_cell BK101.out 2).trans rfl; have hcz16_3 : w14.cell? ⟨gb101, 3, none⟩ = some (.int .i64 a0_3) := (blk_cell BK101.out 3).trans rfl; have hcz16_4 : w14.cell? ⟨gb101, 4, none⟩ = some (.string a0_4) := (blk_cell BK101.out 4).trans rfl; have hcz16_5 : w14.cell? ⟨gb101, 5, none⟩ = some (.string a0_5) := (blk_cell BK101.out 5).trans rfl; have hcz16_6 : w14.cell? ⟨gb101, 6, none⟩ = some (.int .i64 a0_6) := (blk_cell BK101.out 6).trans rfl; have hcz16_7 : w14.cell? ⟨gb101, 7, none⟩ = some (.int .i64 a0_7) := (blk_cell BK101.out 7).trans rfl; have hcz16_8 : w14.cell? ⟨gb101, 8, none⟩ = some (.string a0_8) := (blk_cell BK101.out 8).trans rfl; have hcz16_9 : w14.cell? ⟨gb101, 9, none⟩ = some (.string a0_9) := (blk_cell BK101.out 9).trans rfl; have hfz16_0 := blk_frozen BK101.out 0; have hfz16_1 := blk_frozen BK101.out 1; have hfz16_2 := blk_frozen BK101.out 2; have hfz16_3 := blk_frozen BK101.out 3; have hfz16_4 := blk_frozen BK101.out 4; have hfz16_5 := blk_frozen BK101.out 5; have hfz16_6 := blk_frozen BK101.out 6; have hfz16_7 := blk_frozen BK101.out 7; have hfz16_8 := blk_frozen BK101.out 8; have hfz16_9 := blk_frozen BK101.out 9) | ((with_reducible refine gate_callee (f := 40) rfl ?_); refine goesL_ (some 16) rfl rfl Tryz.func40 (by kernel_rfl) rfl #[.agg #[.int .i64 a0_0, .int .i64 a0_1, .int .i64 a0_2, .int .i64 a0_3, .string a0_4, .string a0_5, .int .i64 a0_6, .int .i64 a0_7, .string a0_8, .string a0_9], .int .i64 1048576] rfl (by (try simp only [List.map_toArray, List.map_cons, List.map_nil]); first | done | rfl | (simp only [List.length_drop, List.length_take]; rfl)) ?_; (with_reducible refine (laws_szConv.calls a0_0 a0_1 a0_2 a0_3 a0_4 a0_5 a0_6 a0_7 a0_8 a0_9 1048576 t103 _ A4.out).mono ?_); rintro e w17 ⟨rfl, hb⟩; refine ⟨_, rfl, ?_⟩; have n0_ := Aside0.mk (blk_below (g := gb101) (o := .cells #[.int .i64 a0_0, .int .i64 a0_1, .int .i64 a0_2, .int .i64 a0_3, .string a0_4, .string a0_5, .int .i64 a0_6, .int .i64 a0_7, .string a0_8, .string a0_9] 57 (0, 0)) (by (with_reducible repeat (first | refine blk_drewN ?_ _ | refine blk_drew ?_ | refine blk_alloc ?_ _)); exact BK101.out) hb); have n1_ := Aside0.mk (blk_below (g := gb102) (o := .cells #[.int .i64 a2_0, .int .i64 a2_1, .int .i64 a2_2, .int .i64 a2_3, .int .i64 a2_4, .int .i64 a2_5, .string a2_6] 59 (0, 0)) (by (with_reducible repeat (first | refine blk_drewN ?_ _ | refine blk_drew ?_ | refine blk_alloc ?_ _)); exact BK102.out) hb); have n2_ := Aside0.mk (below_step (by repeat (first | (with_reducible first | exact HB.out | apply below_alloc | apply pw_below_drewN | apply below_drew1 | refine below_set ?_ GE101.out | refine below_set ?_ GE102.out) | exact HB.out)) hb); clear BK101; clear BK102; clear HB; have BK101 := n0_; have BK102 := n1_; have HB := n2_; clear n0_ n1_ n2_; (try clear hb); (try clear hb2); (try clear hk); (try clear hi); have hcz18_0 : w17.cell? ⟨gb102, 0, none⟩ = some (.int .i64 a2_0) := (blk_cell BK102.out 0).trans rfl; have hcz18_1 : w17.cell? ⟨gb102, 1, none⟩ = some (.int .i64 a2_1) := (blk_cell BK102.out 1).trans rfl; have hcz18_2 : w17.cell? ⟨gb102, 2, none⟩ = some (.int .i64 a2_2) := (blk_cell BK102.out 2).trans rfl; have hcz18_3 : w17.cell? ⟨gb102, 3, none⟩ = some (.int .i64 a2_3) := (blk_cell BK102.out 3).trans rfl; have hcz18_4 : w17.cell? ⟨gb102, 4, none⟩ = some (.int .i64 a2_4) := (blk_cell BK102.out 4).trans rfl; have hcz18_5 : w17.cell? ⟨gb102, 5, none⟩ = some (.int .i64 a2_5) := (blk_cell BK102.out 5).trans rfl; have hcz18_6 : w17.cell? ⟨gb102, 6, none⟩ = some (.string a2_6) := (blk_cell BK102.out 6).trans rfl; have hfz18_0 := blk_frozen BK102.out 0; have hfz18_1 := blk_frozen BK102.out 1; have hfz18_2 := blk_frozen BK102.out 2; have hfz18_3 := blk_frozen BK102.out 3; have hfz18_4 := blk_frozen BK102.out 4; have hfz18_5 := blk_frozen BK102.out 5; have hfz18_6 := blk_frozen BK102.out 6) | ((with_reducible refine gate_callee (f := 41) rfl ?_); refine goesL_ (some 21) rfl rfl Tryz.func41 (by kernel_rfl) rfl #[.agg #[.int .i64 a2_0, .int .i64 a2_1, .int .i64 a2_2, .int .i64 a2_3, .int .i64 a2_4, .int .i64 a2_5, .string a2_6], .int .i64 t103] rfl (by (try simp only [List.map_toArray, List.map_cons, List.map_nil]); first | done | rfl | (simp only [List.length_drop, List.length_take]; rfl)) ?_; (with_reducible refine (laws_szPkt.calls a2_0 a2_1 a2_2 a2_3 a2_4 a2_5 a2_6 t103 t104 _ A11.out).mono ?_); rintro e w19 ⟨rfl, hb⟩; refine ⟨_, rfl, ?_⟩; have n0_ := Aside0.mk (blk_below (g := gb101) (o := .cells #[.int .i64 a0_0, .int .i64 a0_1, .int .i64 a0_2, .int .i64 a0_3, .string a0_4, .string a0_5, .int .i64 a0_6, .int .i64 a0_7, .string a0_8, .string a0_9] 57 (0, 0)) (by (with_reducible repeat (first | refine blk_drewN ?_ _ | refine blk_drew ?_ | refine blk_alloc ?_ _)); exact BK101.out) hb); have n1_ := Aside0.mk (blk_below (g := gb102) (o := .cells #[.int .i64 a2_0, .int .i64 a2_1, .int .i64 a2_2, .int .i64 a2_3, .int .i64 a2_4, .int .i64 a2_5, .string a2_6] 59 (0, 0)) (by (with_reducible repeat (first | refine blk_drewN ?_ _ | refine blk_drew ?_ | refine blk_alloc ?_ _)); exact BK102.out) hb); have n2_ := Aside0.mk (below_step (by repeat (first | (with_reducible first | exact HB.out | apply below_alloc | apply pw_below_drewN | apply below_drew1 | refine below_set ?_ GE101.out | refine below_set ?_ GE102.out) | exact HB.out)) hb); clear BK101; clear BK102; clear HB; have BK101 := n0_; have BK102 := n1_; have HB := n2_; clear n0_ n1_ n2_; (try clear hb); (try clear hb2); (try clear hk); (try clear hi)))
      go_ret
      exact ⟨by first | rfl | (simp [errW_none, errW_some] <;> rfl) | (simp [*, errW_none, errW_some] <;> rfl), by repeat (first | (with_reducible first | exact HB.out | apply below_alloc | apply pw_below_drewN | apply below_drew1 | refine below_set ?_ GE101.out | refine below_set ?_ GE102.out) | exact HB.out)⟩
    · rw [if_neg c12] at H
      have c12b0 : decide (t104 < 0) = false := decide_eq_false c12
      clear c12
      replace H := Option.bind_eq_some_iff.mp H
      obtain ⟨⟨t105, t106, t107, t108, t109, t110, t111, t112, t113, t114⟩, A200, H⟩ := H
      replace H : ((laws_toPkt.f a2_0 a2_1 a2_2 a2_3 a2_4 a2_5 a2_6).bind fun bt115 => ((spec_ConvHear.f t105 t106 t107 t108 t109 t110 t111 t112 t113 t114 a1 bt115.1 bt115.2.1 bt115.2.2.1 bt115.2.2.2.1 bt115.2.2.2.2.1 bt115.2.2.2.2.2.1 bt115.2.2.2.2.2.2).bind fun bt122 => ((laws_toConv.f a0_0 a0_1 a0_2 a0_3 a0_4 a0_5 a0_6 a0_7 a0_8 a0_9).bind fun bt142 => ((laws_toPkt.f a2_0 a2_1 a2_2 a2_3 a2_4 a2_5 a2_6).bind fun bt152 => ((impl_ConvHear.f bt142.1 bt142.2.1 bt142.2.2.1 bt142.2.2.2.1 bt142.2.2.2.2.1 bt142.2.2.2.2.2.1 bt142.2.2.2.2.2.2.1 bt142.2.2.2.2.2.2.2.1 bt142.2.2.2.2.2.2.2.2.1 bt142.2.2.2.2.2.2.2.2.2 a1 bt152.1 bt152.2.1 bt152.2.2.1 bt152.2.2.2.1 bt152.2.2.2.2.1 bt152.2.2.2.2.2.1 bt152.2.2.2.2.2.2).bind fun bt159 => ((laws_eqConv.f bt159.1 bt159.2.1 bt159.2.2.1 bt159.2.2.2.1 bt159.2.2.2.2.1 bt159.2.2.2.2.2.1 bt159.2.2.2.2.2.2.1 bt159.2.2.2.2.2.2.2.1 bt159.2.2.2.2.2.2.2.2.1 bt159.2.2.2.2.2.2.2.2.2.1 bt122.1 bt122.2.1 bt122.2.2.1 bt122.2.2.2.1 bt122.2.2.2.2.1 bt122.2.2.2.2.2.1 bt122.2.2.2.2.2.2.1 bt122.2.2.2.2.2.2.2.1 bt122.2.2.2.2.2.2.2.2.1 bt122.2.2.2.2.2.2.2.2.2.1).bind fun t179 => (if t179 = true then ((laws_eqPkt.f bt159.2.2.2.2.2.2.2.2.2.2.1 bt159.2.2.2.2.2.2.2.2.2.2.2.1 bt159.2.2.2.2.2.2.2.2.2.2.2.2.1 bt159.2.2.2.2.2.2.2.2.2.2.2.2.2.1 bt159.2.2.2.2.2.2.2.2.2.2.2.2.2.2.1 bt159.2.2.2.2.2.2.2.2.2.2.2.2.2.2.2.1 bt159.2.2.2.2.2.2.2.2.2.2.2.2.2.2.2.2.1 bt122.2.2.2.2.2.2.2.2.2.2.1 bt122.2.2.2.2.2.2.2.2.2.2.2.1 bt122.2.2.2.2.2.2.2.2.2.2.2.2.1 bt122.2.2.2.2.2.2.2.2.2.2.2.2.2.1 bt122.2.2.2.2.2.2.2.2.2.2.2.2.2.2.1 bt122.2.2.2.2.2.2.2.2.2.2.2.2.2.2.2.1 bt122.2.2.2.2.2.2.2.2.2.2.2.2.2.2.2.2.1).bind fun t180 => (if t180 = true then (if (bt159.2.2.2.2.2.2.2.2.2.2.2.2.2.2.2.2.2 != bt122.2.2.2.2.2.2.2.2.2.2.2.2.2.2.2.2.2) = true then (none) else (some true)) else (none))) else (none)))))))) = some r := H
      have A20 := Aside0.mk A200
      clear A200
      replace H := Option.bind_eq_some_iff.mp H
      obtain ⟨⟨t115, t116, t117, t118, t119, t120, t121⟩, A210, H⟩ := H
      replace H : ((spec_ConvHear.f t105 t106 t107 t108 t109 t110 t111 t112 t113 t114 a1 t115 t116 t117 t118 t119 t120 t121).bind fun bt122 => ((laws_toConv.f a0_0 a0_1 a0_2 a0_3 a0_4 a0_5 a0_6 a0_7 a0_8 a0_9).bind fun bt142 => ((laws_toPkt.f a2_0 a2_1 a2_2 a2_3 a2_4 a2_5 a2_6).bind fun bt152 => ((impl_ConvHear.f bt142.1 bt142.2.1 bt142.2.2.1 bt142.2.2.2.1 bt142.2.2.2.2.1 bt142.2.2.2.2.2.1 bt142.2.2.2.2.2.2.1 bt142.2.2.2.2.2.2.2.1 bt142.2.2.2.2.2.2.2.2.1 bt142.2.2.2.2.2.2.2.2.2 a1 bt152.1 bt152.2.1 bt152.2.2.1 bt152.2.2.2.1 bt152.2.2.2.2.1 bt152.2.2.2.2.2.1 bt152.2.2.2.2.2.2).bind fun bt159 => ((laws_eqConv.f bt159.1 bt159.2.1 bt159.2.2.1 bt159.2.2.2.1 bt159.2.2.2.2.1 bt159.2.2.2.2.2.1 bt159.2.2.2.2.2.2.1 bt159.2.2.2.2.2.2.2.1 bt159.2.2.2.2.2.2.2.2.1 bt159.2.2.2.2.2.2.2.2.2.1 bt122.1 bt122.2.1 bt122.2.2.1 bt122.2.2.2.1 bt122.2.2.2.2.1 bt122.2.2.2.2.2.1 bt122.2.2.2.2.2.2.1 bt122.2.2.2.2.2.2.2.1 bt122.2.2.2.2.2.2.2.2.1 bt122.2.2.2.2.2.2.2.2.2.1).bind fun t179 => (if t179 = true then ((laws_eqPkt.f bt159.2.2.2.2.2.2.2.2.2.2.1 bt159.2.2.2.2.2.2.2.2.2.2.2.1 bt159.2.2.2.2.2.2.2.2.2.2.2.2.1 bt159.2.2.2.2.2.2.2.2.2.2.2.2.2.1 bt159.2.2.2.2.2.2.2.2.2.2.2.2.2.2.1 bt159.2.2.2.2.2.2.2.2.2.2.2.2.2.2.2.1 bt159.2.2.2.2.2.2.2.2.2.2.2.2.2.2.2.2.1 bt122.2.2.2.2.2.2.2.2.2.2.1 bt122.2.2.2.2.2.2.2.2.2.2.2.1 bt122.2.2.2.2.2.2.2.2.2.2.2.2.1 bt122.2.2.2.2.2.2.2.2.2.2.2.2.2.1 bt122.2.2.2.2.2.2.2.2.2.2.2.2.2.2.1 bt122.2.2.2.2.2.2.2.2.2.2.2.2.2.2.2.1 bt122.2.2.2.2.2.2.2.2.2.2.2.2.2.2.2.2.1).bind fun t180 => (if t180 = true then (if (bt159.2.2.2.2.2.2.2.2.2.2.2.2.2.2.2.2.2 != bt122.2.2.2.2.2.2.2.2.2.2.2.2.2.2.2.2.2) = true then (none) else (some true)) else (none))) else (none))))))) = some r := H
      have A21 := Aside0.mk A210
      clear A210
      replace H := Option.bind_eq_some_iff.mp H
      obtain ⟨⟨t122, t123, t124, t125, t126, t127, t128, t129, t130, t131, t132, t133, t134, t135, t136, t137, t138, t139⟩, A220, H⟩ := H
      replace H : ((laws_toConv.f a0_0 a0_1 a0_2 a0_3 a0_4 a0_5 a0_6 a0_7 a0_8 a0_9).bind fun bt142 => ((laws_toPkt.f a2_0 a2_1 a2_2 a2_3 a2_4 a2_5 a2_6).bind fun bt152 => ((impl_ConvHear.f bt142.1 bt142.2.1 bt142.2.2.1 bt142.2.2.2.1 bt142.2.2.2.2.1 bt142.2.2.2.2.2.1 bt142.2.2.2.2.2.2.1 bt142.2.2.2.2.2.2.2.1 bt142.2.2.2.2.2.2.2.2.1 bt142.2.2.2.2.2.2.2.2.2 a1 bt152.1 bt152.2.1 bt152.2.2.1 bt152.2.2.2.1 bt152.2.2.2.2.1 bt152.2.2.2.2.2.1 bt152.2.2.2.2.2.2).bind fun bt159 => ((laws_eqConv.f bt159.1 bt159.2.1 bt159.2.2.1 bt159.2.2.2.1 bt159.2.2.2.2.1 bt159.2.2.2.2.2.1 bt159.2.2.2.2.2.2.1 bt159.2.2.2.2.2.2.2.1 bt159.2.2.2.2.2.2.2.2.1 bt159.2.2.2.2.2.2.2.2.2.1 t122 t123 t124 t125 t126 t127 t128 t129 t130 t131).bind fun t179 => (if t179 = true then ((laws_eqPkt.f bt159.2.2.2.2.2.2.2.2.2.2.1 bt159.2.2.2.2.2.2.2.2.2.2.2.1 bt159.2.2.2.2.2.2.2.2.2.2.2.2.1 bt159.2.2.2.2.2.2.2.2.2.2.2.2.2.1 bt159.2.2.2.2.2.2.2.2.2.2.2.2.2.2.1 bt159.2.2.2.2.2.2.2.2.2.2.2.2.2.2.2.1 bt159.2.2.2.2.2.2.2.2.2.2.2.2.2.2.2.2.1 t132 t133 t134 t135 t136 t137 t138).bind fun t180 => (if t180 = true then (if (bt159.2.2.2.2.2.2.2.2.2.2.2.2.2.2.2.2.2 != t139) = true then (none) else (some true)) else (none))) else (none)))))) = some r := H
      have A22 := Aside0.mk A220
      clear A220
      replace H := Option.bind_eq_some_iff.mp H
      obtain ⟨⟨t142, t143, t144, t145, t146, t147, t148, t149, t150, t151⟩, A230, H⟩ := H
      replace H : ((laws_toPkt.f a2_0 a2_1 a2_2 a2_3 a2_4 a2_5 a2_6).bind fun bt152 => ((impl_ConvHear.f t142 t143 t144 t145 t146 t147 t148 t149 t150 t151 a1 bt152.1 bt152.2.1 bt152.2.2.1 bt152.2.2.2.1 bt152.2.2.2.2.1 bt152.2.2.2.2.2.1 bt152.2.2.2.2.2.2).bind fun bt159 => ((laws_eqConv.f bt159.1 bt159.2.1 bt159.2.2.1 bt159.2.2.2.1 bt159.2.2.2.2.1 bt159.2.2.2.2.2.1 bt159.2.2.2.2.2.2.1 bt159.2.2.2.2.2.2.2.1 bt159.2.2.2.2.2.2.2.2.1 bt159.2.2.2.2.2.2.2.2.2.1 t122 t123 t124 t125 t126 t127 t128 t129 t130 t131).bind fun t179 => (if t179 = true then ((laws_eqPkt.f bt159.2.2.2.2.2.2.2.2.2.2.1 bt159.2.2.2.2.2.2.2.2.2.2.2.1 bt159.2.2.2.2.2.2.2.2.2.2.2.2.1 bt159.2.2.2.2.2.2.2.2.2.2.2.2.2.1 bt159.2.2.2.2.2.2.2.2.2.2.2.2.2.2.1 bt159.2.2.2.2.2.2.2.2.2.2.2.2.2.2.2.1 bt159.2.2.2.2.2.2.2.2.2.2.2.2.2.2.2.2.1 t132 t133 t134 t135 t136 t137 t138).bind fun t180 => (if t180 = true then (if (bt159.2.2.2.2.2.2.2.2.2.2.2.2.2.2.2.2.2 != t139) = true then (none) else (some true)) else (none))) else (none))))) = some r := H
      have A23 := Aside0.mk A230
      clear A230
      replace H := Option.bind_eq_some_iff.mp H
      obtain ⟨⟨t152, t153, t154, t155, t156, t157, t158⟩, A240, H⟩ := H
      replace H : ((impl_ConvHear.f t142 t143 t144 t145 t146 t147 t148 t149 t150 t151 a1 t152 t153 t154 t155 t156 t157 t158).bind fun bt159 => ((laws_eqConv.f bt159.1 bt159.2.1 bt159.2.2.1 bt159.2.2.2.1 bt159.2.2.2.2.1 bt159.2.2.2.2.2.1 bt159.2.2.2.2.2.2.1 bt159.2.2.2.2.2.2.2.1 bt159.2.2.2.2.2.2.2.2.1 bt159.2.2.2.2.2.2.2.2.2.1 t122 t123 t124 t125 t126 t127 t128 t129 t130 t131).bind fun t179 => (if t179 = true then ((laws_eqPkt.f bt159.2.2.2.2.2.2.2.2.2.2.1 bt159.2.2.2.2.2.2.2.2.2.2.2.1 bt159.2.2.2.2.2.2.2.2.2.2.2.2.1 bt159.2.2.2.2.2.2.2.2.2.2.2.2.2.1 bt159.2.2.2.2.2.2.2.2.2.2.2.2.2.2.1 bt159.2.2.2.2.2.2.2.2.2.2.2.2.2.2.2.1 bt159.2.2.2.2.2.2.2.2.2.2.2.2.2.2.2.2.1 t132 t133 t134 t135 t136 t137 t138).bind fun t180 => (if t180 = true then (if (bt159.2.2.2.2.2.2.2.2.2.2.2.2.2.2.2.2.2 != t139) = true then (none) else (some true)) else (none))) else (none)))) = some r := H
      have A24 := Aside0.mk A240
      clear A240
      replace H := Option.bind_eq_some_iff.mp H
      obtain ⟨⟨t159, t160, t161, t162, t163, t164, t165, t166, t167, t168, t169, t170, t171, t172, t173, t174, t175, t176⟩, A250, H⟩ := H
      replace H : ((laws_eqConv.f t159 t160 t161 t162 t163 t164 t165 t166 t167 t168 t122 t123 t124 t125 t126 t127 t128 t129 t130 t131).bind fun t179 => (if t179 = true then ((laws_eqPkt.f t169 t170 t171 t172 t173 t174 t175 t132 t133 t134 t135 t136 t137 t138).bind fun t180 => (if t180 = true then (if (t176 != t139) = true then (none) else (some true)) else (none))) else (none))) = some r := H
      have A25 := Aside0.mk A250
      clear A250
      replace H := Option.bind_eq_some_iff.mp H
      obtain ⟨t179, A260, H⟩ := H
      replace H : (if t179 = true then ((laws_eqPkt.f t169 t170 t171 t172 t173 t174 t175 t132 t133 t134 t135 t136 t137 t138).bind fun t180 => (if t180 = true then (if (t176 != t139) = true then (none) else (some true)) else (none))) else (none)) = some r := H
      have A26 := Aside0.mk A260
      clear A260
      by_cases c27 : t179 = true
      · subst c27
        have H1 : ((laws_eqPkt.f t169 t170 t171 t172 t173 t174 t175 t132 t133 t134 t135 t136 t137 t138).bind fun t180 => (if t180 = true then (if (t176 != t139) = true then (none) else (some true)) else (none))) = some r := by rw [if_pos rfl] at H; exact H
        clear H
        have H := H1
        clear H1
        replace H := Option.bind_eq_some_iff.mp H
        obtain ⟨t180, A280, H⟩ := H
        replace H : (if t180 = true then (if (t176 != t139) = true then (none) else (some true)) else (none)) = some r := H
        have A28 := Aside0.mk A280
        clear A280
        by_cases c29 : t180 = true
        · subst c29
          have H1 : (if (t176 != t139) = true then (none) else (some true)) = some r := by rw [if_pos rfl] at H; exact H
          clear H
          have H := H1
          clear H1
          by_cases c30 : (t176 != t139) = true
          · rw [if_pos c30] at H
            exact absurd H (by simp)
          · rw [if_neg c30] at H
            have c30b0 : (t176 != t139) = false := by simpa using c30
            (try (have c30b1 : decide (t176 = t139) = true := by simpa using c30))
            (try (have c30b2 : (t176 == t139) = true := by simpa using c30))
            clear c30
            obtain rfl := Option.some.inj H
            go_enter Tryz.func12, Tryz.ntmps12
            try go_wp2_with (first | ((with_reducible refine gate_dst (N := 3) rfl ?_); refine box_event ?hg (N := 3) ?hd (cs := #[.int .i64 a0_0, .int .i64 a0_1, .int .i64 a0_2, .int .i64 a0_3, .string a0_4, .string a0_5, .int .i64 a0_6, .int .i64 a0_7, .string a0_8, .string a0_9]) (t := 57) ?hr ?_; (case hd => rfl); (case hg => rfl); (case hr => first | (go_simp; done) | (go_simp; rfl)); intro gb101 hg w31 hbox hb; have n0_ := Aside0.mk (below_step (by repeat (first | (with_reducible first | exact HB.out | apply below_alloc | apply pw_below_drewN | apply below_drew1) | exact HB.out)) hb); have n1_ := Aside0.mk (hbox); have n2_ := Aside0.mk ((by rw [hg]; exact (below_size (by repeat (first | (with_reducible first | exact HB.out | apply below_alloc | apply pw_below_drewN | apply below_drew1) | exact HB.out))) : w.heap.size ≤ gb101)); have n3_ := Aside0.mk ((by rw [hg]; exact (below_size (by repeat (first | (with_reducible first | exact HB.out | apply below_alloc | apply pw_below_drewN | apply below_drew1) | exact HB.out))) : w.heap.size ≤ gb101)); clear HB; have HB := n0_; have BK101 := n1_; have GW101 := n2_; have GE101 := n3_; clear n0_ n1_ n2_ n3_; clear hb hbox hg) | ((with_reducible refine gate_dst (N := 5) rfl ?_); refine box_event ?hg (N := 5) ?hd (cs := #[.int .i64 a2_0, .int .i64 a2_1, .int .i64 a2_2, .int .i64 a2_3, .int .i64 a2_4, .int .i64 a2_5, .string a2_6]) (t := 59) ?hr ?_; (case hd => rfl); (case hg => rfl); (case hr => first | (go_simp; done) | (go_simp; rfl)); intro gb102 hg w32 hbox hb; have n0_ := Aside0.mk (blk_below (g := gb101) (o := .cells #[.int .i64 a0_0, .int .i64 a0_1, .int .i64 a0_2, .int .i64 a0_3, .string a0_4, .string a0_5, .int .i64 a0_6, .int .i64 a0_7, .string a0_8, .string a0_9] 57 (0, 0)) (by (with_reducible repeat (first | refine blk_drewN ?_ _ | refine blk_drew ?_ | refine blk_alloc ?_ _)); exact BK101.out) hb); have n1_ := Aside0.mk (below_step (by repeat (first | (with_reducible first | exact HB.out | apply below_alloc | apply pw_below_drewN | apply below_drew1 | refine below_set ?_ GE101.out) | exact HB.out)) hb); have n2_ := Aside0.mk (hbox); have n3_ := Aside0.mk ((by rw [hg]; exact (below_size (by repeat (first | (with_reducible first | exact HB.out | apply below_alloc | apply pw_below_drewN | apply below_drew1 | refine below_set ?_ GE101.out) | exact HB.out))) : w.heap.size ≤ gb102)); have n4_ := Aside0.mk ((by rw [hg]; exact (below_size (by repeat (first | (with_reducible first | exact HB.out | apply below_alloc | apply pw_below_drewN | apply below_drew1 | refine below_set ?_ GE101.out) | exact HB.out))) : w.heap.size ≤ gb102)); have n5_ := Aside0.mk ((by rw [hg]; exact Nat.ne_of_lt (blk_lt (g := gb101) (o := .cells #[.int .i64 a0_0, .int .i64 a0_1, .int .i64 a0_2, .int .i64 a0_3, .string a0_4, .string a0_5, .int .i64 a0_6, .int .i64 a0_7, .string a0_8, .string a0_9] 57 (0, 0)) (by (with_reducible repeat (first | refine blk_drewN ?_ _ | refine blk_drew ?_ | refine blk_alloc ?_ _)); exact BK101.out)) : gb101 ≠ gb102)); have n6_ := Aside0.mk ((by rw [hg]; exact Nat.ne_of_gt (blk_lt (g := gb101) (o := .cells #[.int .i64 a0_0, .int .i64 a0_1, .int .i64 a0_2, .int .i64 a0_3, .string a0_4, .string a0_5, .int .i64 a0_6, .int .i64 a0_7, .string a0_8, .string a0_9] 57 (0, 0)) (by (with_reducible repeat (first | refine blk_drewN ?_ _ | refine blk_drew ?_ | refine blk_alloc ?_ _)); exact BK101.out)) : gb102 ≠ gb101)); clear BK101; clear HB; have BK101 := n0_; have HB := n1_; have BK102 := n2_; have GW102 := n3_; have GE102 := n4_; have NB101_102 := n5_; have NB102_101 := n6_; clear n0_ n1_ n2_ n3_ n4_ n5_ n6_; clear hb hbox hg; have hnb33 := NB101_102.out; have hnc33 := NB102_101.out; have hcz34_0 : w32.cell? ⟨gb101, 0, none⟩ = some (.int .i64 a0_0) := (blk_cell BK101.out 0).trans rfl; have hcz34_1 : w32.cell? ⟨gb101, 1, none⟩ = some (.int .i64 a0_1) := (blk_cell BK101.out 1).trans rfl; have hcz34_2 : w32.cell? ⟨gb101, 2, none⟩ = some (.int .i64 a0_2) := (blk_cell BK101.out 2).trans rfl; have hcz34_3 : w32.cell? ⟨gb101, 3, none⟩ = some (.int .i64 a0_3) := (blk_cell BK101.out 3).trans rfl; have hcz34_4 : w32.cell? ⟨gb101, 4, none⟩ = some (.string a0_4) := (blk_cell BK101.out 4).trans rfl; have hcz34_5 : w32.cell? ⟨gb101, 5, none⟩ = some (.string a0_5) := (blk_cell BK101.out 5).trans rfl; have hcz34_6 : w32.cell? ⟨gb101, 6, none⟩ = some (.int .i64 a0_6) := (blk_cell BK101.out 6).trans rfl; have hcz34_7 : w32.cell? ⟨gb101, 7, none⟩ = some (.int .i64 a0_7) := (blk_cell BK101.out 7).trans rfl; have hcz34_8 : w32.cell? ⟨gb101, 8, none⟩ = some (.string a0_8) := (blk_cell BK101.out 8).trans rfl; have hcz34_9 : w32.cell? ⟨gb101, 9, none⟩ = some (.string a0_9) := (blk_cell BK101.out 9).trans rfl; have hfz34_0 := blk_frozen BK101.out 0; have hfz34_1 := blk_frozen BK101.out 1; have hfz34_2 := blk_frozen BK101.out 2; have hfz34_3 := blk_frozen BK101.out 3; have hfz34_4 := blk_frozen BK101.out 4; have hfz34_5 := blk_frozen BK101.out 5; have hfz34_6 := blk_frozen BK101.out 6; have hfz34_7 := blk_frozen BK101.out 7; have hfz34_8 := blk_frozen BK101.out 8; have hfz34_9 := blk_frozen BK101.out 9) | ((with_reducible refine gate_callee (f := 40) rfl ?_); refine goesL_ (some 16) rfl rfl Tryz.func40 (by kernel_rfl) rfl #[.agg #[.int .i64 a0_0, .int .i64 a0_1, .int .i64 a0_2, .int .i64 a0_3, .string a0_4, .string a0_5, .int .i64 a0_6, .int .i64 a0_7, .string a0_8, .string a0_9], .int .i64 1048576] rfl (by (try simp only [List.map_toArray, List.map_cons, List.map_nil]); first | done | rfl | (simp only [List.length_drop, List.length_take]; rfl)) ?_; (with_reducible refine (laws_szConv.calls a0_0 a0_1 a0_2 a0_3 a0_4 a0_5 a0_6 a0_7 a0_8 a0_9 1048576 t103 _ A4.out).mono ?_); rintro e w35 ⟨rfl, hb⟩; refine ⟨_, rfl, ?_⟩; have n0_ := Aside0.mk (blk_below (g := gb101) (o := .cells #[.int .i64 a0_0, .int .i64 a0_1, .int .i64 a0_2, .int .i64 a0_3, .string a0_4, .string a0_5, .int .i64 a0_6, .int .i64 a0_7, .string a0_8, .string a0_9] 57 (0, 0)) (by (with_reducible repeat (first | refine blk_drewN ?_ _ | refine blk_drew ?_ | refine blk_alloc ?_ _)); exact BK101.out) hb); have n1_ := Aside0.mk (blk_below (g := gb102) (o := .cells #[.int .i64 a2_0, .int .i64 a2_1, .int .i64 a2_2, .int .i64 a2_3, .int .i64 a2_4, .int .i64 a2_5, .string a2_6] 59 (0, 0)) (by (with_reducible repeat (first | refine blk_drewN ?_ _ | refine blk_drew ?_ | refine blk_alloc ?_ _)); exact BK102.out) hb); have n2_ := Aside0.mk (below_step (by repeat (first | (with_reducible first | exact HB.out | apply below_alloc | apply pw_below_drewN | apply below_drew1 | refine below_set ?_ GE101.out | refine below_set ?_ GE102.out) | exact HB.out)) hb); clear BK101; clear BK102; clear HB; have BK101 := n0_; have BK102 := n1_; have HB := n2_; clear n0_ n1_ n2_; (try clear hb); (try clear hb2); (try clear hk); (try clear hi); have hcz36_0 : w35.cell? ⟨gb102, 0, none⟩ = some (.int .i64 a2_0) := (blk_cell BK102.out 0).trans rfl; have hcz36_1 : w35.cell? ⟨gb102, 1, none⟩ = some (.int .i64 a2_1) := (blk_cell BK102.out 1).trans rfl; have hcz36_2 : w35.cell? ⟨gb102, 2, none⟩ = some (.int .i64 a2_2) := (blk_cell BK102.out 2).trans rfl; have hcz36_3 : w35.cell? ⟨gb102, 3, none⟩ = some (.int .i64 a2_3) := (blk_cell BK102.out 3).trans rfl; have hcz36_4 : w35.cell? ⟨gb102, 4, none⟩ = some (.int .i64 a2_4) := (blk_cell BK102.out 4).trans rfl; have hcz36_5 : w35.cell? ⟨gb102, 5, none⟩ = some (.int .i64 a2_5) := (blk_cell BK102.out 5).trans rfl; have hcz36_6 : w35.cell? ⟨gb102, 6, none⟩ = some (.string a2_6) := (blk_cell BK102.out 6).trans rfl; have hfz36_0 := blk_frozen BK102.out 0; have hfz36_1 := blk_frozen BK102.out 1; have hfz36_2 := blk_frozen BK102.out 2; have hfz36_3 := blk_frozen BK102.out 3; have hfz36_4 := blk_frozen BK102.out 4; have hfz36_5 := blk_frozen BK102.out 5; have hfz36_6 := blk_frozen BK102.out 6) | ((with_reducible refine gate_callee (f := 41) rfl ?_); refine goesL_ (some 21) rfl rfl Tryz.func41 (by kernel_rfl) rfl #[.agg #[.int .i64 a2_0, .int .i64 a2_1, .int .i64 a2_2, .int .i64 a2_3, .int .i64 a2_4, .int .i64 a2_5, .string a2_6], .int .i64 t103] rfl (by (try simp only [List.map_toArray, List.map_cons, List.map_nil]); first | done | rfl | (simp only [List.length_drop, List.length_take]; rfl)) ?_; (with_reducible refine (laws_szPkt.calls a2_0 a2_1 a2_2 a2_3 a2_4 a2_5 a2_6 t103 t104 _ A11.out).mono ?_); rintro e w37 ⟨rfl, hb⟩; refine ⟨_, rfl, ?_⟩; have n0_ := Aside0.mk (blk_below (g := gb101) (o := .cells #[.int .i64 a0_0, .int .i64 a0_1, .int .i64 a0_2, .int .i64 a0_3, .string a0_4, .string a0_5, .int .i64 a0_6, .int .i64 a0_7, .string a0_8, .string a0_9] 57 (0, 0)) (by (with_reducible repeat (first | refine blk_drewN ?_ _ | refine blk_drew ?_ | refine blk_alloc ?_ _)); exact BK101.out) hb); have n1_ := Aside0.mk (blk_below (g := gb102) (o := .cells #[.int .i64 a2_0, .int .i64 a2_1, .int .i64 a2_2, .int .i64 a2_3, .int .i64 a2_4, .int .i64 a2_5, .string a2_6] 59 (0, 0)) (by (with_reducible repeat (first | refine blk_drewN ?_ _ | refine blk_drew ?_ | refine blk_alloc ?_ _)); exact BK102.out) hb); have n2_ := Aside0.mk (below_step (by repeat (first | (with_reducible first | exact HB.out | apply below_alloc | apply pw_below_drewN | apply below_drew1 | refine below_set ?_ GE101.out | refine below_set ?_ GE102.out) | exact HB.out)) hb); clear BK101; clear BK102; clear HB; have BK101 := n0_; have BK102 := n1_; have HB := n2_; clear n0_ n1_ n2_; (try clear hb); (try clear hb2); (try clear hk); (try clear hi)))
            have n0_ := Aside0.mk (blk_drew BK101.out)
            have n1_ := Aside0.mk (blk_drew BK102.out)
            have n2_ := Aside0.mk (below_drew1 HB.out)
            clear BK101
            clear BK102
            clear HB
            have BK101 := n0_
            have BK102 := n1_
            have HB := n2_
            clear n0_ n1_ n2_
            refine start_ (n := 15) (S := fun w' => True) (ds := []) #[false, false, false, false, false, false, false, false, false, false, false, false, false, false, false] (by kernel_rfl) rfl rfl trivial (fun hHeld => ?_); refine with_tabW laws_FnExactConvHear.tab8 laws_FnExactConvHear.bits8 (fun HT_ HW_ => ?_)
            generalize w37.drew = w38 at BK101 BK102 HB hHeld ⊢
            refine pure_ (i := 2) (N := some 27) (v := ?_) (a' := ?_) #[false, false, true, false, false, false, false, false, false, false, false, false, false, false, false] rfl rfl (any_of HT_.out (by kernel_rfl)) (fun _ _ _ h => h) (Or.inl ⟨by rfl, ?_⟩) ?_ ?_
            rotate_left
            · intro w'
              go_simp
              with_reducible rfl
            rotate_left
            · simp only [Act.put, List.setIfInBounds_toArray, List.set_cons_zero, List.set_cons_succ, i64_w, i32_w]
              rfl
            refine inv_at [0, 1, 3, 4, 5, 6, 7, 8, 9, 10, 11, 12, 13, 14] (fun a0_ b a w' => ∃ (gb140 : Nat) (gb141 : Nat) (m10_ : Value) (m11_ : Value), a = putSel a0_ b [(0, 25, .agg #[.int .i64 a0_0, .int .i64 a0_1, .int .i64 a0_2, .int .i64 a0_3, .string a0_4, .string a0_5, .int .i64 a0_6, .int .i64 a0_7, .string a0_8, .string a0_9]), (1, 26, .agg #[.int .i64 t105, .int .i64 t106, .int .i64 t107, .int .i64 t108, .string t109, .string t110, .int .i64 t111, .int .i64 t112, .string t113, .string t114]), (3, 28, .agg #[.int .i64 a2_0, .int .i64 a2_1, .int .i64 a2_2, .int .i64 a2_3, .int .i64 a2_4, .int .i64 a2_5, .string a2_6]), (4, 29, .agg #[.int .i64 t115, .int .i64 t116, .int .i64 t117, .int .i64 t118, .int .i64 t119, .int .i64 t120, .string t121]), (5, 30, .tuple #[.agg #[.int .i64 t122, .int .i64 t123, .int .i64 t124, .int .i64 t125, .string t126, .string t127, .int .i64 t128, .int .i64 t129, .string t130, .string t131], .agg #[.int .i64 t132, .int .i64 t133, .int .i64 t134, .int .i64 t135, .int .i64 t136, .int .i64 t137, .string t138], .bool t139]), (6, 24, .tuple #[.agg #[.int .i64 t122, .int .i64 t123, .int .i64 t124, .int .i64 t125, .string t126, .string t127, .int .i64 t128, .int .i64 t129, .string t130, .string t131], .agg #[.int .i64 t132, .int .i64 t133, .int .i64 t134, .int .i64 t135, .int .i64 t136, .int .i64 t137, .string t138], .bool t139]), (7, 31, .agg #[.int .i64 t122, .int .i64 t123, .int .i64 t124, .int .i64 t125, .string t126, .string t127, .int .i64 t128, .int .i64 t129, .string t130, .string t131]), (8, 32, .agg #[.int .i64 t132, .int .i64 t133, .int .i64 t134, .int .i64 t135, .int .i64 t136, .int .i64 t137, .string t138]), (9, 33, .bool t139), (10, 8, m10_), (11, 9, m11_), (14, 10, .bool t139)] ∧ (w'.heap[gb101]? = some (.cells #[.int .i64 a0_0, .int .i64 a0_1, .int .i64 a0_2, .int .i64 a0_3, .string a0_4, .string a0_5, .int .i64 a0_6, .int .i64 a0_7, .string a0_8, .string a0_9] 57 (0, 0))) ∧ (w'.heap[gb102]? = some (.cells #[.int .i64 a2_0, .int .i64 a2_1, .int .i64 a2_2, .int .i64 a2_3, .int .i64 a2_4, .int .i64 a2_5, .string a2_6] 59 (0, 0))) ∧ (Below w.heap.size w w') ∧ (b 10 = true → b 11 = true → gb141 ≠ gb140) ∧ (b 10 = true → b 11 = true → gb140 ≠ gb141) ∧ (b 10 = true → b 12 = false → w'.heap[gb140]? = some (.cells #[.int .i64 0, .int .i64 0, .int .i64 0, .int .i64 0, .string (⟨#[]⟩ : ByteArray), .string (⟨#[]⟩ : ByteArray), .int .i64 0, .int .i64 0, .string (⟨#[]⟩ : ByteArray), .string (⟨#[]⟩ : ByteArray)] 64 (0, 0))) ∧ (b 10 = true → w.heap.size ≤ gb140) ∧ (b 10 = true → w.heap.size ≤ gb140) ∧ (b 10 = true → gb101 ≠ gb140) ∧ (b 10 = true → gb140 ≠ gb101) ∧ (b 10 = true → gb102 ≠ gb140) ∧ (b 10 = true → gb140 ≠ gb102) ∧ (b 11 = true → b 13 = false → w'.heap[gb141]? = some (.cells #[.int .i64 0, .int .i64 0, .int .i64 0, .int .i64 0, .int .i64 0, .int .i64 0, .string (⟨#[]⟩ : ByteArray)] 66 (0, 0))) ∧ (b 11 = true → w.heap.size ≤ gb141) ∧ (b 11 = true → w.heap.size ≤ gb141) ∧ (b 11 = true → gb101 ≠ gb141) ∧ (b 11 = true → gb141 ≠ gb101) ∧ (b 11 = true → gb102 ≠ gb141) ∧ (b 11 = true → gb141 ≠ gb102) ∧ (b 12 = true → w'.heap[gb140]? = some (.cells #[.int .i64 t122, .int .i64 t123, .int .i64 t124, .int .i64 t125, .string t126, .string t127, .int .i64 t128, .int .i64 t129, .string t130, .string t131] 64 (0, 0))) ∧ (b 13 = true → w'.heap[gb141]? = some (.cells #[.int .i64 t132, .int .i64 t133, .int .i64 t134, .int .i64 t135, .int .i64 t136, .int .i64 t137, .string t138] 66 (0, 0))) ∧ (b 10 = true → (m10_ : Value) = .pointer (some ⟨gb140, 0, none⟩)) ∧ (b 11 = true → (m11_ : Value) = .pointer (some ⟨gb141, 0, none⟩))) HT_.out HW_.out (by kernel_rfl) (by kernel_rfl) ?_ ?_ ?_
            · exact ⟨0, 0, .bool false, .bool false, by simp only [putSel, Bool.false_eq_true, if_false], BK101.out, BK102.out, HB.out, fun h_ => absurd h_ (by decide), fun h_ => absurd h_ (by decide), fun h_ => absurd h_ (by decide), fun h_ => absurd h_ (by decide), fun h_ => absurd h_ (by decide), fun h_ => absurd h_ (by decide), fun h_ => absurd h_ (by decide), fun h_ => absurd h_ (by decide), fun h_ => absurd h_ (by decide), fun h_ => absurd h_ (by decide), fun h_ => absurd h_ (by decide), fun h_ => absurd h_ (by decide), fun h_ => absurd h_ (by decide), fun h_ => absurd h_ (by decide), fun h_ => absurd h_ (by decide), fun h_ => absurd h_ (by decide), fun h_ => absurd h_ (by decide), fun h_ => absurd h_ (by decide), fun h_ => absurd h_ (by decide), fun h_ => absurd h_ (by decide)⟩
            · skip
              clear BK101 BK102 HB
              refine steps_cons ?_ ?_
              · rintro b a w' ⟨gb140, gb141, m10_, m11_, ha, Q_BK101, Q_BK102, Q_HB, Q_NB141_140, Q_NB140_141, Q_BK140, Q_GW140, Q_GE140, Q_NB101_140, Q_NB140_101, Q_NB102_140, Q_NB140_102, Q_BK141, Q_GW141, Q_GE141, Q_NB101_141, Q_NB141_101, Q_NB102_141, Q_NB141_102, Q_BK140_e12, Q_BK141_e13, Q_X10_, Q_X11_⟩ hb_ hon hoff
                refine ⟨_, rfl, fun K hK => ?_⟩
                have e3 : a.tmps[3]? = some (.pointer (some ⟨gb101, 0, none⟩)) := by rw [ha]; exact (putSel_off rfl).trans rfl
                replace ha := Aside0.mk ha
                have BK101 := Aside0.mk Q_BK101
                have BK102 := Aside0.mk Q_BK102
                have HB := Aside0.mk Q_HB
                have hc0_ : w'.cell? ⟨gb101, 0, none⟩ = some (.int .i64 a0_0) := (blk_cell BK101.out 0).trans rfl
                have hc1_ : w'.cell? ⟨gb101, 1, none⟩ = some (.int .i64 a0_1) := (blk_cell BK101.out 1).trans rfl
                have hc2_ : w'.cell? ⟨gb101, 2, none⟩ = some (.int .i64 a0_2) := (blk_cell BK101.out 2).trans rfl
                have hc3_ : w'.cell? ⟨gb101, 3, none⟩ = some (.int .i64 a0_3) := (blk_cell BK101.out 3).trans rfl
                have hc4_ : w'.cell? ⟨gb101, 4, none⟩ = some (.string a0_4) := (blk_cell BK101.out 4).trans rfl
                have hc5_ : w'.cell? ⟨gb101, 5, none⟩ = some (.string a0_5) := (blk_cell BK101.out 5).trans rfl
                have hc6_ : w'.cell? ⟨gb101, 6, none⟩ = some (.int .i64 a0_6) := (blk_cell BK101.out 6).trans rfl
                have hc7_ : w'.cell? ⟨gb101, 7, none⟩ = some (.int .i64 a0_7) := (blk_cell BK101.out 7).trans rfl
                have hc8_ : w'.cell? ⟨gb101, 8, none⟩ = some (.string a0_8) := (blk_cell BK101.out 8).trans rfl
                have hc9_ : w'.cell? ⟨gb101, 9, none⟩ = some (.string a0_9) := (blk_cell BK101.out 9).trans rfl
                refine value_ (w1 := w') (v := .agg #[.int .i64 a0_0, .int .i64 a0_1, .int .i64 a0_2, .int .i64 a0_3, .string a0_4, .string a0_5, .int .i64 a0_6, .int .i64 a0_7, .string a0_8, .string a0_9]) (by rfl) rfl ?_ ?_
                · go_simp
                  (try simp only [i64_w])
                  try rfl
                refine hK.out _ _ ⟨gb140, gb141, m10_, m11_, (by rw [ha.out]; exact putSel_upk 0 hb_ rfl rfl rfl), Q_BK101, Q_BK102, Q_HB, Q_NB141_140, Q_NB140_141, Q_BK140, Q_GW140, Q_GE140, Q_NB101_140, Q_NB140_101, Q_NB102_140, Q_NB140_102, Q_BK141, Q_GW141, Q_GE141, Q_NB101_141, Q_NB141_101, Q_NB102_141, Q_NB141_102, fun h0_ => absurd ((hoff 12 (by kernel_rfl)).symm.trans h0_) (by decide), fun h0_ => absurd ((hoff 13 (by kernel_rfl)).symm.trans h0_) (by decide), Q_X10_, Q_X11_⟩
              refine steps_cons ?_ ?_
              · rintro b a w' ⟨gb140, gb141, m10_, m11_, ha, Q_BK101, Q_BK102, Q_HB, Q_NB141_140, Q_NB140_141, Q_BK140, Q_GW140, Q_GE140, Q_NB101_140, Q_NB140_101, Q_NB102_140, Q_NB140_102, Q_BK141, Q_GW141, Q_GE141, Q_NB101_141, Q_NB141_101, Q_NB102_141, Q_NB141_102, Q_BK140_e12, Q_BK141_e13, Q_X10_, Q_X11_⟩ hb_ hon hoff
                refine ⟨_, rfl, fun K hK => ?_⟩
                have e25 : a.tmps[25]? = some (.agg #[.int .i64 a0_0, .int .i64 a0_1, .int .i64 a0_2, .int .i64 a0_3, .string a0_4, .string a0_5, .int .i64 a0_6, .int .i64 a0_7, .string a0_8, .string a0_9]) := by rw [ha]; exact putSel_on (e := (0, 25, .agg #[.int .i64 a0_0, .int .i64 a0_1, .int .i64 a0_2, .int .i64 a0_3, .string a0_4, .string a0_5, .int .i64 a0_6, .int .i64 a0_7, .string a0_8, .string a0_9])) 0 rfl rfl (hon 0 (by kernel_rfl)) rfl
                replace ha := Aside0.mk ha
                have BK101 := Aside0.mk Q_BK101
                have BK102 := Aside0.mk Q_BK102
                have HB := Aside0.mk Q_HB
                refine goes_ Tryz.func43 (by kernel_rfl) rfl #[.agg #[.int .i64 a0_0, .int .i64 a0_1, .int .i64 a0_2, .int .i64 a0_3, .string a0_4, .string a0_5, .int .i64 a0_6, .int .i64 a0_7, .string a0_8, .string a0_9]] (by rfl) rfl rfl (by first | (simp only [List.map_toArray, List.map_cons, List.map_nil, Act.eval, Array.getD_eq_getD_getElem?, Option.getD_some, e25]; done) | (simp only [List.map_toArray, List.map_cons, List.map_nil, Act.eval, Array.getD_eq_getD_getElem?, Option.getD_some, e25]; rfl)) ?_
                with_reducible refine (laws_toConv.calls a0_0 a0_1 a0_2 a0_3 a0_4 a0_5 a0_6 a0_7 a0_8 a0_9 t105 t106 t107 t108 t109 t110 t111 t112 t113 t114 _ A20.out).mono ?_
                rintro e w39 ⟨rfl, hb⟩
                refine ⟨_, rfl, ?_⟩
                have n0_ := Aside0.mk (blk_below (g := gb101) (o := .cells #[.int .i64 a0_0, .int .i64 a0_1, .int .i64 a0_2, .int .i64 a0_3, .string a0_4, .string a0_5, .int .i64 a0_6, .int .i64 a0_7, .string a0_8, .string a0_9] 57 (0, 0)) (by (with_reducible repeat (first | refine blk_drewN ?_ _ | refine blk_drew ?_ | refine blk_alloc ?_ _)); exact BK101.out) hb)
                have n1_ := Aside0.mk (blk_below (g := gb102) (o := .cells #[.int .i64 a2_0, .int .i64 a2_1, .int .i64 a2_2, .int .i64 a2_3, .int .i64 a2_4, .int .i64 a2_5, .string a2_6] 59 (0, 0)) (by (with_reducible repeat (first | refine blk_drewN ?_ _ | refine blk_drew ?_ | refine blk_alloc ?_ _)); exact BK102.out) hb)
                have n2_ := Aside0.mk (below_step (by repeat (first | (with_reducible first | exact HB.out | apply below_alloc | apply pw_below_drewN | apply below_drew1 | refine below_set ?_ GE101.out | refine below_set ?_ GE102.out) | exact HB.out)) hb)
                have z_BK140 := fun (h0_ : b 10 = true) (h1_ : b 12 = false) => (show w39.heap[gb140]? = some (.cells #[.int .i64 0, .int .i64 0, .int .i64 0, .int .i64 0, .string (⟨#[]⟩ : ByteArray), .string (⟨#[]⟩ : ByteArray), .int .i64 0, .int .i64 0, .string (⟨#[]⟩ : ByteArray), .string (⟨#[]⟩ : ByteArray)] 64 (0, 0)) from by first | exact (blk_below (g := gb140) (o := .cells #[.int .i64 0, .int .i64 0, .int .i64 0, .int .i64 0, .string (⟨#[]⟩ : ByteArray), .string (⟨#[]⟩ : ByteArray), .int .i64 0, .int .i64 0, .string (⟨#[]⟩ : ByteArray), .string (⟨#[]⟩ : ByteArray)] 64 (0, 0)) (by (with_reducible repeat (first | refine blk_drewN ?_ _ | refine blk_drew ?_ | refine blk_alloc ?_ _)); exact (Q_BK140 h0_ h1_)) hb))
                have z_BK141 := fun (h0_ : b 11 = true) (h1_ : b 13 = false) => (show w39.heap[gb141]? = some (.cells #[.int .i64 0, .int .i64 0, .int .i64 0, .int .i64 0, .int .i64 0, .int .i64 0, .string (⟨#[]⟩ : ByteArray)] 66 (0, 0)) from by first | exact (blk_below (g := gb141) (o := .cells #[.int .i64 0, .int .i64 0, .int .i64 0, .int .i64 0, .int .i64 0, .int .i64 0, .string (⟨#[]⟩ : ByteArray)] 66 (0, 0)) (by (with_reducible repeat (first | refine blk_drewN ?_ _ | refine blk_drew ?_ | refine blk_alloc ?_ _)); exact (Q_BK141 h0_ h1_)) hb))
                clear BK101
                clear BK102
                clear HB
                have BK101 := n0_
                have BK102 := n1_
                have HB := n2_
                clear n0_ n1_ n2_
                (try clear hb)
                (try clear hb2)
                (try clear hk)
                (try clear hi)
                refine hK.out _ _ ⟨gb140, gb141, m10_, m11_, (by rw [ha.out]; exact putSel_upk 1 hb_ rfl rfl rfl), (by (with_reducible repeat (first | refine blk_drewN ?_ _ | refine blk_drew ?_ | refine blk_alloc ?_ _)); exact BK101.out), (by (with_reducible repeat (first | refine blk_drewN ?_ _ | refine blk_drew ?_ | refine blk_alloc ?_ _)); exact BK102.out), (by repeat (first | (with_reducible first | exact HB.out | apply below_alloc | apply pw_below_drewN | apply below_drew1 | refine below_set ?_ GE101.out | refine below_set ?_ GE102.out) | exact HB.out)), Q_NB141_140, Q_NB140_141, z_BK140, Q_GW140, Q_GE140, Q_NB101_140, Q_NB140_101, Q_NB102_140, Q_NB140_102, z_BK141, Q_GW141, Q_GE141, Q_NB101_141, Q_NB141_101, Q_NB102_141, Q_NB141_102, fun h0_ => absurd ((hoff 12 (by kernel_rfl)).symm.trans h0_) (by decide), fun h0_ => absurd ((hoff 13 (by kernel_rfl)).symm.trans h0_) (by decide), Q_X10_, Q_X11_⟩
              refine steps_cons ?_ ?_
              · rintro b a w' ⟨gb140, gb141, m10_, m11_, ha, Q_BK101, Q_BK102, Q_HB, Q_NB141_140, Q_NB140_141, Q_BK140, Q_GW140, Q_GE140, Q_NB101_140, Q_NB140_101, Q_NB102_140, Q_NB140_102, Q_BK141, Q_GW141, Q_GE141, Q_NB101_141, Q_NB141_101, Q_NB102_141, Q_NB141_102, Q_BK140_e12, Q_BK141_e13, Q_X10_, Q_X11_⟩ hb_ hon hoff
                refine ⟨_, rfl, fun K hK => ?_⟩
                have e5 : a.tmps[5]? = some (.pointer (some ⟨gb102, 0, none⟩)) := by rw [ha]; exact (putSel_off rfl).trans rfl
                replace ha := Aside0.mk ha
                have BK101 := Aside0.mk Q_BK101
                have BK102 := Aside0.mk Q_BK102
                have HB := Aside0.mk Q_HB
                have hc0_ : w'.cell? ⟨gb102, 0, none⟩ = some (.int .i64 a2_0) := (blk_cell BK102.out 0).trans rfl
                have hc1_ : w'.cell? ⟨gb102, 1, none⟩ = some (.int .i64 a2_1) := (blk_cell BK102.out 1).trans rfl
                have hc2_ : w'.cell? ⟨gb102, 2, none⟩ = some (.int .i64 a2_2) := (blk_cell BK102.out 2).trans rfl
                have hc3_ : w'.cell? ⟨gb102, 3, none⟩ = some (.int .i64 a2_3) := (blk_cell BK102.out 3).trans rfl
                have hc4_ : w'.cell? ⟨gb102, 4, none⟩ = some (.int .i64 a2_4) := (blk_cell BK102.out 4).trans rfl
                have hc5_ : w'.cell? ⟨gb102, 5, none⟩ = some (.int .i64 a2_5) := (blk_cell BK102.out 5).trans rfl
                have hc6_ : w'.cell? ⟨gb102, 6, none⟩ = some (.string a2_6) := (blk_cell BK102.out 6).trans rfl
                refine value_ (w1 := w') (v := .agg #[.int .i64 a2_0, .int .i64 a2_1, .int .i64 a2_2, .int .i64 a2_3, .int .i64 a2_4, .int .i64 a2_5, .string a2_6]) (by rfl) rfl ?_ ?_
                · go_simp
                  (try simp only [i64_w])
                  try rfl
                refine hK.out _ _ ⟨gb140, gb141, m10_, m11_, (by rw [ha.out]; exact putSel_upk 2 hb_ rfl rfl rfl), Q_BK101, Q_BK102, Q_HB, Q_NB141_140, Q_NB140_141, Q_BK140, Q_GW140, Q_GE140, Q_NB101_140, Q_NB140_101, Q_NB102_140, Q_NB140_102, Q_BK141, Q_GW141, Q_GE141, Q_NB101_141, Q_NB141_101, Q_NB102_141, Q_NB141_102, fun h0_ => absurd ((hoff 12 (by kernel_rfl)).symm.trans h0_) (by decide), fun h0_ => absurd ((hoff 13 (by kernel_rfl)).symm.trans h0_) (by decide), Q_X10_, Q_X11_⟩
              refine steps_cons ?_ ?_
              · rintro b a w' ⟨gb140, gb141, m10_, m11_, ha, Q_BK101, Q_BK102, Q_HB, Q_NB141_140, Q_NB140_141, Q_BK140, Q_GW140, Q_GE140, Q_NB101_140, Q_NB140_101, Q_NB102_140, Q_NB140_102, Q_BK141, Q_GW141, Q_GE141, Q_NB101_141, Q_NB141_101, Q_NB102_141, Q_NB141_102, Q_BK140_e12, Q_BK141_e13, Q_X10_, Q_X11_⟩ hb_ hon hoff
                refine ⟨_, rfl, fun K hK => ?_⟩
                have e28 : a.tmps[28]? = some (.agg #[.int .i64 a2_0, .int .i64 a2_1, .int .i64 a2_2, .int .i64 a2_3, .int .i64 a2_4, .int .i64 a2_5, .string a2_6]) := by rw [ha]; exact putSel_on (e := (3, 28, .agg #[.int .i64 a2_0, .int .i64 a2_1, .int .i64 a2_2, .int .i64 a2_3, .int .i64 a2_4, .int .i64 a2_5, .string a2_6])) 2 rfl rfl (hon 3 (by kernel_rfl)) rfl
                replace ha := Aside0.mk ha
                have BK101 := Aside0.mk Q_BK101
                have BK102 := Aside0.mk Q_BK102
                have HB := Aside0.mk Q_HB
                refine goes_ Tryz.func44 (by kernel_rfl) rfl #[.agg #[.int .i64 a2_0, .int .i64 a2_1, .int .i64 a2_2, .int .i64 a2_3, .int .i64 a2_4, .int .i64 a2_5, .string a2_6]] (by rfl) rfl rfl (by first | (simp only [List.map_toArray, List.map_cons, List.map_nil, Act.eval, Array.getD_eq_getD_getElem?, Option.getD_some, e28]; done) | (simp only [List.map_toArray, List.map_cons, List.map_nil, Act.eval, Array.getD_eq_getD_getElem?, Option.getD_some, e28]; rfl)) ?_
                with_reducible refine (laws_toPkt.calls a2_0 a2_1 a2_2 a2_3 a2_4 a2_5 a2_6 t115 t116 t117 t118 t119 t120 t121 _ A21.out).mono ?_
                rintro e w41 ⟨rfl, hb⟩
                refine ⟨_, rfl, ?_⟩
                have n0_ := Aside0.mk (blk_below (g := gb101) (o := .cells #[.int .i64 a0_0, .int .i64 a0_1, .int .i64 a0_2, .int .i64 a0_3, .string a0_4, .string a0_5, .int .i64 a0_6, .int .i64 a0_7, .string a0_8, .string a0_9] 57 (0, 0)) (by (with_reducible repeat (first | refine blk_drewN ?_ _ | refine blk_drew ?_ | refine blk_alloc ?_ _)); exact BK101.out) hb)
                have n1_ := Aside0.mk (blk_below (g := gb102) (o := .cells #[.int .i64 a2_0, .int .i64 a2_1, .int .i64 a2_2, .int .i64 a2_3, .int .i64 a2_4, .int .i64 a2_5, .string a2_6] 59 (0, 0)) (by (with_reducible repeat (first | refine blk_drewN ?_ _ | refine blk_drew ?_ | refine blk_alloc ?_ _)); exact BK102.out) hb)
                have n2_ := Aside0.mk (below_step (by repeat (first | (with_reducible first | exact HB.out | apply below_alloc | apply pw_below_drewN | apply below_drew1 | refine below_set ?_ GE101.out | refine below_set ?_ GE102.out) | exact HB.out)) hb)
                have z_BK140 := fun (h0_ : b 10 = true) (h1_ : b 12 = false) => (show w41.heap[gb140]? = some (.cells #[.int .i64 0, .int .i64 0, .int .i64 0, .int .i64 0, .string (⟨#[]⟩ : ByteArray), .string (⟨#[]⟩ : ByteArray), .int .i64 0, .int .i64 0, .string (⟨#[]⟩ : ByteArray), .string (⟨#[]⟩ : ByteArray)] 64 (0, 0)) from by first | exact (blk_below (g := gb140) (o := .cells #[.int .i64 0, .int .i64 0, .int .i64 0, .int .i64 0, .string (⟨#[]⟩ : ByteArray), .string (⟨#[]⟩ : ByteArray), .int .i64 0, .int .i64 0, .string (⟨#[]⟩ : ByteArray), .string (⟨#[]⟩ : ByteArray)] 64 (0, 0)) (by (with_reducible repeat (first | refine blk_drewN ?_ _ | refine blk_drew ?_ | refine blk_alloc ?_ _)); exact (Q_BK140 h0_ h1_)) hb))
                have z_BK141 := fun (h0_ : b 11 = true) (h1_ : b 13 = false) => (show w41.heap[gb141]? = some (.cells #[.int .i64 0, .int .i64 0, .int .i64 0, .int .i64 0, .int .i64 0, .int .i64 0, .string (⟨#[]⟩ : ByteArray)] 66 (0, 0)) from by first | exact (blk_below (g := gb141) (o := .cells #[.int .i64 0, .int .i64 0, .int .i64 0, .int .i64 0, .int .i64 0, .int .i64 0, .string (⟨#[]⟩ : ByteArray)] 66 (0, 0)) (by (with_reducible repeat (first | refine blk_drewN ?_ _ | refine blk_drew ?_ | refine blk_alloc ?_ _)); exact (Q_BK141 h0_ h1_)) hb))
                clear BK101
                clear BK102
                clear HB
                have BK101 := n0_
                have BK102 := n1_
                have HB := n2_
                clear n0_ n1_ n2_
                (try clear hb)
                (try clear hb2)
                (try clear hk)
                (try clear hi)
                refine hK.out _ _ ⟨gb140, gb141, m10_, m11_, (by rw [ha.out]; exact putSel_upk 3 hb_ rfl rfl rfl), (by (with_reducible repeat (first | refine blk_drewN ?_ _ | refine blk_drew ?_ | refine blk_alloc ?_ _)); exact BK101.out), (by (with_reducible repeat (first | refine blk_drewN ?_ _ | refine blk_drew ?_ | refine blk_alloc ?_ _)); exact BK102.out), (by repeat (first | (with_reducible first | exact HB.out | apply below_alloc | apply pw_below_drewN | apply below_drew1 | refine below_set ?_ GE101.out | refine below_set ?_ GE102.out) | exact HB.out)), Q_NB141_140, Q_NB140_141, z_BK140, Q_GW140, Q_GE140, Q_NB101_140, Q_NB140_101, Q_NB102_140, Q_NB140_102, z_BK141, Q_GW141, Q_GE141, Q_NB101_141, Q_NB141_101, Q_NB102_141, Q_NB141_102, fun h0_ => absurd ((hoff 12 (by kernel_rfl)).symm.trans h0_) (by decide), fun h0_ => absurd ((hoff 13 (by kernel_rfl)).symm.trans h0_) (by decide), Q_X10_, Q_X11_⟩
              refine steps_cons ?_ ?_
              · rintro b a w' ⟨gb140, gb141, m10_, m11_, ha, Q_BK101, Q_BK102, Q_HB, Q_NB141_140, Q_NB140_141, Q_BK140, Q_GW140, Q_GE140, Q_NB101_140, Q_NB140_101, Q_NB102_140, Q_NB140_102, Q_BK141, Q_GW141, Q_GE141, Q_NB101_141, Q_NB141_101, Q_NB102_141, Q_NB141_102, Q_BK140_e12, Q_BK141_e13, Q_X10_, Q_X11_⟩ hb_ hon hoff
                refine ⟨_, rfl, fun K hK => ?_⟩
                have e26 : a.tmps[26]? = some (.agg #[.int .i64 t105, .int .i64 t106, .int .i64 t107, .int .i64 t108, .string t109, .string t110, .int .i64 t111, .int .i64 t112, .string t113, .string t114]) := by rw [ha]; exact putSel_on (e := (1, 26, .agg #[.int .i64 t105, .int .i64 t106, .int .i64 t107, .int .i64 t108, .string t109, .string t110, .int .i64 t111, .int .i64 t112, .string t113, .string t114])) 1 rfl rfl (hon 1 (by kernel_rfl)) rfl
                have e27 : a.tmps[27]? = some (.bool a1) := by rw [ha]; exact (putSel_off rfl).trans rfl
                have e29 : a.tmps[29]? = some (.agg #[.int .i64 t115, .int .i64 t116, .int .i64 t117, .int .i64 t118, .int .i64 t119, .int .i64 t120, .string t121]) := by rw [ha]; exact putSel_on (e := (4, 29, .agg #[.int .i64 t115, .int .i64 t116, .int .i64 t117, .int .i64 t118, .int .i64 t119, .int .i64 t120, .string t121])) 3 rfl rfl (hon 4 (by kernel_rfl)) rfl
                replace ha := Aside0.mk ha
                have BK101 := Aside0.mk Q_BK101
                have BK102 := Aside0.mk Q_BK102
                have HB := Aside0.mk Q_HB
                refine goes_ Tryz.func42 (by kernel_rfl) rfl #[.agg #[.int .i64 t105, .int .i64 t106, .int .i64 t107, .int .i64 t108, .string t109, .string t110, .int .i64 t111, .int .i64 t112, .string t113, .string t114], .bool a1, .agg #[.int .i64 t115, .int .i64 t116, .int .i64 t117, .int .i64 t118, .int .i64 t119, .int .i64 t120, .string t121]] (by rfl) rfl rfl (by first | (simp only [List.map_toArray, List.map_cons, List.map_nil, Act.eval, Array.getD_eq_getD_getElem?, Option.getD_some, e26, e27, e29]; done) | (simp only [List.map_toArray, List.map_cons, List.map_nil, Act.eval, Array.getD_eq_getD_getElem?, Option.getD_some, e26, e27, e29]; rfl)) ?_
                with_reducible refine (spec_ConvHear.calls t105 t106 t107 t108 t109 t110 t111 t112 t113 t114 a1 t115 t116 t117 t118 t119 t120 t121 t122 t123 t124 t125 t126 t127 t128 t129 t130 t131 t132 t133 t134 t135 t136 t137 t138 t139 _ A22.out).mono ?_
                rintro e w42 ⟨rfl, hb⟩
                refine ⟨_, rfl, ?_⟩
                have n0_ := Aside0.mk (blk_below (g := gb101) (o := .cells #[.int .i64 a0_0, .int .i64 a0_1, .int .i64 a0_2, .int .i64 a0_3, .string a0_4, .string a0_5, .int .i64 a0_6, .int .i64 a0_7, .string a0_8, .string a0_9] 57 (0, 0)) (by (with_reducible repeat (first | refine blk_drewN ?_ _ | refine blk_drew ?_ | refine blk_alloc ?_ _)); exact BK101.out) hb)
                have n1_ := Aside0.mk (blk_below (g := gb102) (o := .cells #[.int .i64 a2_0, .int .i64 a2_1, .int .i64 a2_2, .int .i64 a2_3, .int .i64 a2_4, .int .i64 a2_5, .string a2_6] 59 (0, 0)) (by (with_reducible repeat (first | refine blk_drewN ?_ _ | refine blk_drew ?_ | refine blk_alloc ?_ _)); exact BK102.out) hb)
                have n2_ := Aside0.mk (below_step (by repeat (first | (with_reducible first | exact HB.out | apply below_alloc | apply pw_below_drewN | apply below_drew1 | refine below_set ?_ GE101.out | refine below_set ?_ GE102.out) | exact HB.out)) hb)
                have z_BK140 := fun (h0_ : b 10 = true) (h1_ : b 12 = false) => (show w42.heap[gb140]? = some (.cells #[.int .i64 0, .int .i64 0, .int .i64 0, .int .i64 0, .string (⟨#[]⟩ : ByteArray), .string (⟨#[]⟩ : ByteArray), .int .i64 0, .int .i64 0, .string (⟨#[]⟩ : ByteArray), .string (⟨#[]⟩ : ByteArray)] 64 (0, 0)) from by first | exact (blk_below (g := gb140) (o := .cells #[.int .i64 0, .int .i64 0, .int .i64 0, .int .i64 0, .string (⟨#[]⟩ : ByteArray), .string (⟨#[]⟩ : ByteArray), .int .i64 0, .int .i64 0, .string (⟨#[]⟩ : ByteArray), .string (⟨#[]⟩ : ByteArray)] 64 (0, 0)) (by (with_reducible repeat (first | refine blk_drewN ?_ _ | refine blk_drew ?_ | refine blk_alloc ?_ _)); exact (Q_BK140 h0_ h1_)) hb))
                have z_BK141 := fun (h0_ : b 11 = true) (h1_ : b 13 = false) => (show w42.heap[gb141]? = some (.cells #[.int .i64 0, .int .i64 0, .int .i64 0, .int .i64 0, .int .i64 0, .int .i64 0, .string (⟨#[]⟩ : ByteArray)] 66 (0, 0)) from by first | exact (blk_below (g := gb141) (o := .cells #[.int .i64 0, .int .i64 0, .int .i64 0, .int .i64 0, .int .i64 0, .int .i64 0, .string (⟨#[]⟩ : ByteArray)] 66 (0, 0)) (by (with_reducible repeat (first | refine blk_drewN ?_ _ | refine blk_drew ?_ | refine blk_alloc ?_ _)); exact (Q_BK141 h0_ h1_)) hb))
                clear BK101
                clear BK102
                clear HB
                have BK101 := n0_
                have BK102 := n1_
                have HB := n2_
                clear n0_ n1_ n2_
                (try clear hb)
                (try clear hb2)
                (try clear hk)
                (try clear hi)
                refine hK.out _ _ ⟨gb140, gb141, m10_, m11_, (by rw [ha.out]; exact putSel_upk 4 hb_ rfl rfl rfl), (by (with_reducible repeat (first | refine blk_drewN ?_ _ | refine blk_drew ?_ | refine blk_alloc ?_ _)); exact BK101.out), (by (with_reducible repeat (first | refine blk_drewN ?_ _ | refine blk_drew ?_ | refine blk_alloc ?_ _)); exact BK102.out), (by repeat (first | (with_reducible first | exact HB.out | apply below_alloc | apply pw_below_drewN | apply below_drew1 | refine below_set ?_ GE101.out | refine below_set ?_ GE102.out) | exact HB.out)), Q_NB141_140, Q_NB140_141, z_BK140, Q_GW140, Q_GE140, Q_NB101_140, Q_NB140_101, Q_NB102_140, Q_NB140_102, z_BK141, Q_GW141, Q_GE141, Q_NB101_141, Q_NB141_101, Q_NB102_141, Q_NB141_102, fun h0_ => absurd ((hoff 12 (by kernel_rfl)).symm.trans h0_) (by decide), fun h0_ => absurd ((hoff 13 (by kernel_rfl)).symm.trans h0_) (by decide), Q_X10_, Q_X11_⟩
              refine steps_cons ?_ ?_
              · rintro b a w' ⟨gb140, gb141, m10_, m11_, ha, Q_BK101, Q_BK102, Q_HB, Q_NB141_140, Q_NB140_141, Q_BK140, Q_GW140, Q_GE140, Q_NB101_140, Q_NB140_101, Q_NB102_140, Q_NB140_102, Q_BK141, Q_GW141, Q_GE141, Q_NB101_141, Q_NB141_101, Q_NB102_141, Q_NB141_102, Q_BK140_e12, Q_BK141_e13, Q_X10_, Q_X11_⟩ hb_ hon hoff
                refine ⟨_, rfl, fun K hK => ?_⟩
                have e30 : a.tmps[30]? = some (.tuple #[.agg #[.int .i64 t122, .int .i64 t123, .int .i64 t124, .int .i64 t125, .string t126, .string t127, .int .i64 t128, .int .i64 t129, .string t130, .string t131], .agg #[.int .i64 t132, .int .i64 t133, .int .i64 t134, .int .i64 t135, .int .i64 t136, .int .i64 t137, .string t138], .bool t139]) := by rw [ha]; exact putSel_on (e := (5, 30, .tuple #[.agg #[.int .i64 t122, .int .i64 t123, .int .i64 t124, .int .i64 t125, .string t126, .string t127, .int .i64 t128, .int .i64 t129, .string t130, .string t131], .agg #[.int .i64 t132, .int .i64 t133, .int .i64 t134, .int .i64 t135, .int .i64 t136, .int .i64 t137, .string t138], .bool t139])) 4 rfl rfl (hon 5 (by kernel_rfl)) rfl
                replace ha := Aside0.mk ha
                have BK101 := Aside0.mk Q_BK101
                have BK102 := Aside0.mk Q_BK102
                have HB := Aside0.mk Q_HB
                refine value_ (w1 := w') (v := .tuple #[.agg #[.int .i64 t122, .int .i64 t123, .int .i64 t124, .int .i64 t125, .string t126, .string t127, .int .i64 t128, .int .i64 t129, .string t130, .string t131], .agg #[.int .i64 t132, .int .i64 t133, .int .i64 t134, .int .i64 t135, .int .i64 t136, .int .i64 t137, .string t138], .bool t139]) (by rfl) rfl ?_ ?_
                · go_simp
                  (try simp only [i64_w])
                  try rfl
                refine hK.out _ _ ⟨gb140, gb141, m10_, m11_, (by rw [ha.out]; exact putSel_upk 5 hb_ rfl rfl rfl), Q_BK101, Q_BK102, Q_HB, Q_NB141_140, Q_NB140_141, Q_BK140, Q_GW140, Q_GE140, Q_NB101_140, Q_NB140_101, Q_NB102_140, Q_NB140_102, Q_BK141, Q_GW141, Q_GE141, Q_NB101_141, Q_NB141_101, Q_NB102_141, Q_NB141_102, fun h0_ => absurd ((hoff 12 (by kernel_rfl)).symm.trans h0_) (by decide), fun h0_ => absurd ((hoff 13 (by kernel_rfl)).symm.trans h0_) (by decide), Q_X10_, Q_X11_⟩
              refine steps_cons ?_ ?_
              · rintro b a w' ⟨gb140, gb141, m10_, m11_, ha, Q_BK101, Q_BK102, Q_HB, Q_NB141_140, Q_NB140_141, Q_BK140, Q_GW140, Q_GE140, Q_NB101_140, Q_NB140_101, Q_NB102_140, Q_NB140_102, Q_BK141, Q_GW141, Q_GE141, Q_NB101_141, Q_NB141_101, Q_NB102_141, Q_NB141_102, Q_BK140_e12, Q_BK141_e13, Q_X10_, Q_X11_⟩ hb_ hon hoff
                refine ⟨_, rfl, fun K hK => ?_⟩
                have e24 : a.tmps[24]? = some (.tuple #[.agg #[.int .i64 t122, .int .i64 t123, .int .i64 t124, .int .i64 t125, .string t126, .string t127, .int .i64 t128, .int .i64 t129, .string t130, .string t131], .agg #[.int .i64 t132, .int .i64 t133, .int .i64 t134, .int .i64 t135, .int .i64 t136, .int .i64 t137, .string t138], .bool t139]) := by rw [ha]; exact putSel_on (e := (6, 24, .tuple #[.agg #[.int .i64 t122, .int .i64 t123, .int .i64 t124, .int .i64 t125, .string t126, .string t127, .int .i64 t128, .int .i64 t129, .string t130, .string t131], .agg #[.int .i64 t132, .int .i64 t133, .int .i64 t134, .int .i64 t135, .int .i64 t136, .int .i64 t137, .string t138], .bool t139])) 5 rfl rfl (hon 6 (by kernel_rfl)) rfl
                replace ha := Aside0.mk ha
                have BK101 := Aside0.mk Q_BK101
                have BK102 := Aside0.mk Q_BK102
                have HB := Aside0.mk Q_HB
                refine value_ (w1 := w') (v := .agg #[.int .i64 t122, .int .i64 t123, .int .i64 t124, .int .i64 t125, .string t126, .string t127, .int .i64 t128, .int .i64 t129, .string t130, .string t131]) (by rfl) rfl ?_ ?_
                · go_simp
                  (try simp only [i64_w])
                  try rfl
                refine hK.out _ _ ⟨gb140, gb141, m10_, m11_, (by rw [ha.out]; exact putSel_upk 6 hb_ rfl rfl rfl), Q_BK101, Q_BK102, Q_HB, Q_NB141_140, Q_NB140_141, Q_BK140, Q_GW140, Q_GE140, Q_NB101_140, Q_NB140_101, Q_NB102_140, Q_NB140_102, Q_BK141, Q_GW141, Q_GE141, Q_NB101_141, Q_NB141_101, Q_NB102_141, Q_NB141_102, fun h0_ => absurd ((hoff 12 (by kernel_rfl)).symm.trans h0_) (by decide), fun h0_ => absurd ((hoff 13 (by kernel_rfl)).symm.trans h0_) (by decide), Q_X10_, Q_X11_⟩
              refine steps_cons ?_ ?_
              · rintro b a w' ⟨gb140, gb141, m10_, m11_, ha, Q_BK101, Q_BK102, Q_HB, Q_NB141_140, Q_NB140_141, Q_BK140, Q_GW140, Q_GE140, Q_NB101_140, Q_NB140_101, Q_NB102_140, Q_NB140_102, Q_BK141, Q_GW141, Q_GE141, Q_NB101_141, Q_NB141_101, Q_NB102_141, Q_NB141_102, Q_BK140_e12, Q_BK141_e13, Q_X10_, Q_X11_⟩ hb_ hon hoff
                refine ⟨_, rfl, fun K hK => ?_⟩
                have e24 : a.tmps[24]? = some (.tuple #[.agg #[.int .i64 t122, .int .i64 t123, .int .i64 t124, .int .i64 t125, .string t126, .string t127, .int .i64 t128, .int .i64 t129, .string t130, .string t131], .agg #[.int .i64 t132, .int .i64 t133, .int .i64 t134, .int .i64 t135, .int .i64 t136, .int .i64 t137, .string t138], .bool t139]) := by rw [ha]; exact putSel_on (e := (6, 24, .tuple #[.agg #[.int .i64 t122, .int .i64 t123, .int .i64 t124, .int .i64 t125, .string t126, .string t127, .int .i64 t128, .int .i64 t129, .string t130, .string t131], .agg #[.int .i64 t132, .int .i64 t133, .int .i64 t134, .int .i64 t135, .int .i64 t136, .int .i64 t137, .string t138], .bool t139])) 5 rfl rfl (hon 6 (by kernel_rfl)) rfl
                replace ha := Aside0.mk ha
                have BK101 := Aside0.mk Q_BK101
                have BK102 := Aside0.mk Q_BK102
                have HB := Aside0.mk Q_HB
                refine value_ (w1 := w') (v := .agg #[.int .i64 t132, .int .i64 t133, .int .i64 t134, .int .i64 t135, .int .i64 t136, .int .i64 t137, .string t138]) (by rfl) rfl ?_ ?_
                · go_simp
                  (try simp only [i64_w])
                  try rfl
                refine hK.out _ _ ⟨gb140, gb141, m10_, m11_, (by rw [ha.out]; exact putSel_upk 7 hb_ rfl rfl rfl), Q_BK101, Q_BK102, Q_HB, Q_NB141_140, Q_NB140_141, Q_BK140, Q_GW140, Q_GE140, Q_NB101_140, Q_NB140_101, Q_NB102_140, Q_NB140_102, Q_BK141, Q_GW141, Q_GE141, Q_NB101_141, Q_NB141_101, Q_NB102_141, Q_NB141_102, Q_BK140_e12, fun h0_ => absurd ((hoff 13 (by kernel_rfl)).symm.trans h0_) (by decide), Q_X10_, Q_X11_⟩
              refine steps_cons ?_ ?_
              · rintro b a w' ⟨gb140, gb141, m10_, m11_, ha, Q_BK101, Q_BK102, Q_HB, Q_NB141_140, Q_NB140_141, Q_BK140, Q_GW140, Q_GE140, Q_NB101_140, Q_NB140_101, Q_NB102_140, Q_NB140_102, Q_BK141, Q_GW141, Q_GE141, Q_NB101_141, Q_NB141_101, Q_NB102_141, Q_NB141_102, Q_BK140_e12, Q_BK141_e13, Q_X10_, Q_X11_⟩ hb_ hon hoff
                refine ⟨_, rfl, fun K hK => ?_⟩
                have e24 : a.tmps[24]? = some (.tuple #[.agg #[.int .i64 t122, .int .i64 t123, .int .i64 t124, .int .i64 t125, .string t126, .string t127, .int .i64 t128, .int .i64 t129, .string t130, .string t131], .agg #[.int .i64 t132, .int .i64 t133, .int .i64 t134, .int .i64 t135, .int .i64 t136, .int .i64 t137, .string t138], .bool t139]) := by rw [ha]; exact putSel_on (e := (6, 24, .tuple #[.agg #[.int .i64 t122, .int .i64 t123, .int .i64 t124, .int .i64 t125, .string t126, .string t127, .int .i64 t128, .int .i64 t129, .string t130, .string t131], .agg #[.int .i64 t132, .int .i64 t133, .int .i64 t134, .int .i64 t135, .int .i64 t136, .int .i64 t137, .string t138], .bool t139])) 5 rfl rfl (hon 6 (by kernel_rfl)) rfl
                replace ha := Aside0.mk ha
                have BK101 := Aside0.mk Q_BK101
                have BK102 := Aside0.mk Q_BK102
                have HB := Aside0.mk Q_HB
                refine value_ (w1 := w') (v := .bool t139) (by rfl) rfl ?_ ?_
                · go_simp
                  (try simp only [i64_w])
                  try rfl
                refine hK.out _ _ ⟨gb140, gb141, m10_, m11_, (by rw [ha.out]; exact putSel_upk 8 hb_ rfl rfl rfl), Q_BK101, Q_BK102, Q_HB, Q_NB141_140, Q_NB140_141, Q_BK140, Q_GW140, Q_GE140, Q_NB101_140, Q_NB140_101, Q_NB102_140, Q_NB140_102, Q_BK141, Q_GW141, Q_GE141, Q_NB101_141, Q_NB141_101, Q_NB102_141, Q_NB141_102, Q_BK140_e12, Q_BK141_e13, Q_X10_, Q_X11_⟩
              refine steps_cons ?_ ?_
              · rintro b a w' ⟨gb140, gb141, m10_, m11_, ha, Q_BK101, Q_BK102, Q_HB, Q_NB141_140, Q_NB140_141, Q_BK140, Q_GW140, Q_GE140, Q_NB101_140, Q_NB140_101, Q_NB102_140, Q_NB140_102, Q_BK141, Q_GW141, Q_GE141, Q_NB101_141, Q_NB141_101, Q_NB102_141, Q_NB141_102, Q_BK140_e12, Q_BK141_e13, Q_X10_, Q_X11_⟩ hb_ hon hoff
                refine ⟨_, rfl, fun K hK => ?_⟩
                replace ha := Aside0.mk ha
                have BK101 := Aside0.mk Q_BK101
                have BK102 := Aside0.mk Q_BK102
                have HB := Aside0.mk Q_HB
                refine box_step ?hg (N := 8) ?hd (cs := #[.int .i64 0, .int .i64 0, .int .i64 0, .int .i64 0, .string (⟨#[]⟩ : ByteArray), .string (⟨#[]⟩ : ByteArray), .int .i64 0, .int .i64 0, .string (⟨#[]⟩ : ByteArray), .string (⟨#[]⟩ : ByteArray)]) (t := 64) ?hr ?_; (case hd => rfl); (case hg => rfl); (case hr => first | (go_simp; done) | (go_simp; rfl))
                intro gb140 hg w39 hbox hb
                have n0_ := Aside0.mk (blk_below (g := gb101) (o := .cells #[.int .i64 a0_0, .int .i64 a0_1, .int .i64 a0_2, .int .i64 a0_3, .string a0_4, .string a0_5, .int .i64 a0_6, .int .i64 a0_7, .string a0_8, .string a0_9] 57 (0, 0)) (by (with_reducible repeat (first | refine blk_drewN ?_ _ | refine blk_drew ?_ | refine blk_alloc ?_ _)); exact BK101.out) hb)
                have n1_ := Aside0.mk (blk_below (g := gb102) (o := .cells #[.int .i64 a2_0, .int .i64 a2_1, .int .i64 a2_2, .int .i64 a2_3, .int .i64 a2_4, .int .i64 a2_5, .string a2_6] 59 (0, 0)) (by (with_reducible repeat (first | refine blk_drewN ?_ _ | refine blk_drew ?_ | refine blk_alloc ?_ _)); exact BK102.out) hb)
                have n2_ := Aside0.mk (below_step (by repeat (first | (with_reducible first | exact HB.out | apply below_alloc | apply pw_below_drewN | apply below_drew1 | refine below_set ?_ GE101.out | refine below_set ?_ GE102.out) | exact HB.out)) hb)
                have n3_ := Aside0.mk (hbox)
                have n4_ := Aside0.mk ((by rw [hg]; exact (below_size (by repeat (first | (with_reducible first | exact HB.out | apply below_alloc | apply pw_below_drewN | apply below_drew1 | refine below_set ?_ GE101.out | refine below_set ?_ GE102.out) | exact HB.out))) : w.heap.size ≤ gb140))
                have n5_ := Aside0.mk ((by rw [hg]; exact (below_size (by repeat (first | (with_reducible first | exact HB.out | apply below_alloc | apply pw_below_drewN | apply below_drew1 | refine below_set ?_ GE101.out | refine below_set ?_ GE102.out) | exact HB.out))) : w.heap.size ≤ gb140))
                have n6_ := Aside0.mk ((by rw [hg]; exact Nat.ne_of_lt (blk_lt (g := gb101) (o := .cells #[.int .i64 a0_0, .int .i64 a0_1, .int .i64 a0_2, .int .i64 a0_3, .string a0_4, .string a0_5, .int .i64 a0_6, .int .i64 a0_7, .string a0_8, .string a0_9] 57 (0, 0)) (by (with_reducible repeat (first | refine blk_drewN ?_ _ | refine blk_drew ?_ | refine blk_alloc ?_ _)); exact BK101.out)) : gb101 ≠ gb140))
                have n7_ := Aside0.mk ((by rw [hg]; exact Nat.ne_of_gt (blk_lt (g := gb101) (o := .cells #[.int .i64 a0_0, .int .i64 a0_1, .int .i64 a0_2, .int .i64 a0_3, .string a0_4, .string a0_5, .int .i64 a0_6, .int .i64 a0_7, .string a0_8, .string a0_9] 57 (0, 0)) (by (with_reducible repeat (first | refine blk_drewN ?_ _ | refine blk_drew ?_ | refine blk_alloc ?_ _)); exact BK101.out)) : gb140 ≠ gb101))
                have n8_ := Aside0.mk ((by rw [hg]; exact Nat.ne_of_lt (blk_lt (g := gb102) (o := .cells #[.int .i64 a2_0, .int .i64 a2_1, .int .i64 a2_2, .int .i64 a2_3, .int .i64 a2_4, .int .i64 a2_5, .string a2_6] 59 (0, 0)) (by (with_reducible repeat (first | refine blk_drewN ?_ _ | refine blk_drew ?_ | refine blk_alloc ?_ _)); exact BK102.out)) : gb102 ≠ gb140))
                have n9_ := Aside0.mk ((by rw [hg]; exact Nat.ne_of_gt (blk_lt (g := gb102) (o := .cells #[.int .i64 a2_0, .int .i64 a2_1, .int .i64 a2_2, .int .i64 a2_3, .int .i64 a2_4, .int .i64 a2_5, .string a2_6] 59 (0, 0)) (by (with_reducible repeat (first | refine blk_drewN ?_ _ | refine blk_drew ?_ | refine blk_alloc ?_ _)); exact BK102.out)) : gb140 ≠ gb102))
                have z_NB141_140 := fun (h0_ : up b 10 10 = true) (h1_ : up b 10 11 = true) => (show gb141 ≠ gb140 from ((by rw [hg]; exact Nat.ne_of_lt (blk_lt (g := gb141) (o := .cells #[.int .i64 0, .int .i64 0, .int .i64 0, .int .i64 0, .int .i64 0, .int .i64 0, .string (⟨#[]⟩ : ByteArray)] 66 (0, 0)) (by (with_reducible repeat (first | refine blk_drewN ?_ _ | refine blk_drew ?_ | refine blk_alloc ?_ _)); exact (Q_BK141 ((up_ne (by decide)).symm.trans h1_) (hoff 13 (by kernel_rfl))))) : gb141 ≠ gb140)))
                have z_NB140_141 := fun (h0_ : up b 10 10 = true) (h1_ : up b 10 11 = true) => (show gb140 ≠ gb141 from ((by rw [hg]; exact Nat.ne_of_gt (blk_lt (g := gb141) (o := .cells #[.int .i64 0, .int .i64 0, .int .i64 0, .int .i64 0, .int .i64 0, .int .i64 0, .string (⟨#[]⟩ : ByteArray)] 66 (0, 0)) (by (with_reducible repeat (first | refine blk_drewN ?_ _ | refine blk_drew ?_ | refine blk_alloc ?_ _)); exact (Q_BK141 ((up_ne (by decide)).symm.trans h1_) (hoff 13 (by kernel_rfl))))) : gb140 ≠ gb141)))
                have z_BK141 := fun (h0_ : b 11 = true) (h1_ : b 13 = false) => (show w39.heap[gb141]? = some (.cells #[.int .i64 0, .int .i64 0, .int .i64 0, .int .i64 0, .int .i64 0, .int .i64 0, .string (⟨#[]⟩ : ByteArray)] 66 (0, 0)) from by first | exact (blk_below (g := gb141) (o := .cells #[.int .i64 0, .int .i64 0, .int .i64 0, .int .i64 0, .int .i64 0, .int .i64 0, .string (⟨#[]⟩ : ByteArray)] 66 (0, 0)) (by (with_reducible repeat (first | refine blk_drewN ?_ _ | refine blk_drew ?_ | refine blk_alloc ?_ _)); exact (Q_BK141 h0_ h1_)) hb))
                clear BK101
                clear BK102
                clear HB
                have BK101 := n0_
                have BK102 := n1_
                have HB := n2_
                have BK140 := n3_
                have GW140 := n4_
                have GE140 := n5_
                have NB101_140 := n6_
                have NB140_101 := n7_
                have NB102_140 := n8_
                have NB140_102 := n9_
                clear n0_ n1_ n2_ n3_ n4_ n5_ n6_ n7_ n8_ n9_
                clear hb hbox hg
                refine hK.out _ _ ⟨gb140, gb141, (.pointer (some ⟨gb140, 0, none⟩)), m11_, (by rw [ha.out]; exact putSel_upk 9 hb_ rfl rfl rfl), (by (with_reducible repeat (first | refine blk_drewN ?_ _ | refine blk_drew ?_ | refine blk_alloc ?_ _)); exact BK101.out), (by (with_reducible repeat (first | refine blk_drewN ?_ _ | refine blk_drew ?_ | refine blk_alloc ?_ _)); exact BK102.out), (by repeat (first | (with_reducible first | exact HB.out | apply below_alloc | apply pw_below_drewN | apply below_drew1 | refine below_set ?_ GE101.out | refine below_set ?_ GE102.out | refine below_set ?_ GE140.out) | exact HB.out)), @z_NB141_140, @z_NB140_141, fun _ _ => (by (with_reducible repeat (first | refine blk_drewN ?_ _ | refine blk_drew ?_ | refine blk_alloc ?_ _)); exact BK140.out), fun _ => GW140.out, fun _ => GE140.out, fun _ => NB101_140.out, fun _ => NB140_101.out, fun _ => NB102_140.out, fun _ => NB140_102.out, z_BK141, Q_GW141, Q_GE141, Q_NB101_141, Q_NB141_101, Q_NB102_141, Q_NB141_102, fun h0_ => absurd ((hoff 12 (by kernel_rfl)).symm.trans h0_) (by decide), fun h0_ => absurd ((hoff 13 (by kernel_rfl)).symm.trans h0_) (by decide), fun _ => rfl, Q_X11_⟩
              refine steps_cons ?_ ?_
              · rintro b a w' ⟨gb140, gb141, m10_, m11_, ha, Q_BK101, Q_BK102, Q_HB, Q_NB141_140, Q_NB140_141, Q_BK140, Q_GW140, Q_GE140, Q_NB101_140, Q_NB140_101, Q_NB102_140, Q_NB140_102, Q_BK141, Q_GW141, Q_GE141, Q_NB101_141, Q_NB141_101, Q_NB102_141, Q_NB141_102, Q_BK140_e12, Q_BK141_e13, Q_X10_, Q_X11_⟩ hb_ hon hoff
                refine ⟨_, rfl, fun K hK => ?_⟩
                replace ha := Aside0.mk ha
                have BK101 := Aside0.mk Q_BK101
                have BK102 := Aside0.mk Q_BK102
                have HB := Aside0.mk Q_HB
                refine box_step ?hg (N := 9) ?hd (cs := #[.int .i64 0, .int .i64 0, .int .i64 0, .int .i64 0, .int .i64 0, .int .i64 0, .string (⟨#[]⟩ : ByteArray)]) (t := 66) ?hr ?_; (case hd => rfl); (case hg => rfl); (case hr => first | (go_simp; done) | (go_simp; rfl))
                intro gb141 hg w39 hbox hb
                have n0_ := Aside0.mk (blk_below (g := gb101) (o := .cells #[.int .i64 a0_0, .int .i64 a0_1, .int .i64 a0_2, .int .i64 a0_3, .string a0_4, .string a0_5, .int .i64 a0_6, .int .i64 a0_7, .string a0_8, .string a0_9] 57 (0, 0)) (by (with_reducible repeat (first | refine blk_drewN ?_ _ | refine blk_drew ?_ | refine blk_alloc ?_ _)); exact BK101.out) hb)
                have n1_ := Aside0.mk (blk_below (g := gb102) (o := .cells #[.int .i64 a2_0, .int .i64 a2_1, .int .i64 a2_2, .int .i64 a2_3, .int .i64 a2_4, .int .i64 a2_5, .string a2_6] 59 (0, 0)) (by (with_reducible repeat (first | refine blk_drewN ?_ _ | refine blk_drew ?_ | refine blk_alloc ?_ _)); exact BK102.out) hb)
                have n2_ := Aside0.mk (below_step (by repeat (first | (with_reducible first | exact HB.out | apply below_alloc | apply pw_below_drewN | apply below_drew1 | refine below_set ?_ GE101.out | refine below_set ?_ GE102.out) | exact HB.out)) hb)
                have n3_ := Aside0.mk (hbox)
                have n4_ := Aside0.mk ((by rw [hg]; exact (below_size (by repeat (first | (with_reducible first | exact HB.out | apply below_alloc | apply pw_below_drewN | apply below_drew1 | refine below_set ?_ GE101.out | refine below_set ?_ GE102.out) | exact HB.out))) : w.heap.size ≤ gb141))
                have n5_ := Aside0.mk ((by rw [hg]; exact (below_size (by repeat (first | (with_reducible first | exact HB.out | apply below_alloc | apply pw_below_drewN | apply below_drew1 | refine below_set ?_ GE101.out | refine below_set ?_ GE102.out) | exact HB.out))) : w.heap.size ≤ gb141))
                have n6_ := Aside0.mk ((by rw [hg]; exact Nat.ne_of_lt (blk_lt (g := gb101) (o := .cells #[.int .i64 a0_0, .int .i64 a0_1, .int .i64 a0_2, .int .i64 a0_3, .string a0_4, .string a0_5, .int .i64 a0_6, .int .i64 a0_7, .string a0_8, .string a0_9] 57 (0, 0)) (by (with_reducible repeat (first | refine blk_drewN ?_ _ | refine blk_drew ?_ | refine blk_alloc ?_ _)); exact BK101.out)) : gb101 ≠ gb141))
                have n7_ := Aside0.mk ((by rw [hg]; exact Nat.ne_of_gt (blk_lt (g := gb101) (o := .cells #[.int .i64 a0_0, .int .i64 a0_1, .int .i64 a0_2, .int .i64 a0_3, .string a0_4, .string a0_5, .int .i64 a0_6, .int .i64 a0_7, .string a0_8, .string a0_9] 57 (0, 0)) (by (with_reducible repeat (first | refine blk_drewN ?_ _ | refine blk_drew ?_ | refine blk_alloc ?_ _)); exact BK101.out)) : gb141 ≠ gb101))
                have n8_ := Aside0.mk ((by rw [hg]; exact Nat.ne_of_lt (blk_lt (g := gb102) (o := .cells #[.int .i64 a2_0, .int .i64 a2_1, .int .i64 a2_2, .int .i64 a2_3, .int .i64 a2_4, .int .i64 a2_5, .string a2_6] 59 (0, 0)) (by (with_reducible repeat (first | refine blk_drewN ?_ _ | refine blk_drew ?_ | refine blk_alloc ?_ _)); exact BK102.out)) : gb102 ≠ gb141))
                have n9_ := Aside0.mk ((by rw [hg]; exact Nat.ne_of_gt (blk_lt (g := gb102) (o := .cells #[.int .i64 a2_0, .int .i64 a2_1, .int .i64 a2_2, .int .i64 a2_3, .int .i64 a2_4, .int .i64 a2_5, .string a2_6] 59 (0, 0)) (by (with_reducible repeat (first | refine blk_drewN ?_ _ | refine blk_drew ?_ | refine blk_alloc ?_ _)); exact BK102.out)) : gb141 ≠ gb102))
                have z_NB141_140 := fun (h0_ : up b 11 10 = true) (h1_ : up b 11 11 = true) => (show gb141 ≠ gb140 from ((by rw [hg]; exact Nat.ne_of_gt (blk_lt (g := gb140) (o := .cells #[.int .i64 0, .int .i64 0, .int .i64 0, .int .i64 0, .string (⟨#[]⟩ : ByteArray), .string (⟨#[]⟩ : ByteArray), .int .i64 0, .int .i64 0, .string (⟨#[]⟩ : ByteArray), .string (⟨#[]⟩ : ByteArray)] 64 (0, 0)) (by (with_reducible repeat (first | refine blk_drewN ?_ _ | refine blk_drew ?_ | refine blk_alloc ?_ _)); exact (Q_BK140 ((up_ne (by decide)).symm.trans h0_) (hoff 12 (by kernel_rfl))))) : gb141 ≠ gb140)))
                have z_NB140_141 := fun (h0_ : up b 11 10 = true) (h1_ : up b 11 11 = true) => (show gb140 ≠ gb141 from ((by rw [hg]; exact Nat.ne_of_lt (blk_lt (g := gb140) (o := .cells #[.int .i64 0, .int .i64 0, .int .i64 0, .int .i64 0, .string (⟨#[]⟩ : ByteArray), .string (⟨#[]⟩ : ByteArray), .int .i64 0, .int .i64 0, .string (⟨#[]⟩ : ByteArray), .string (⟨#[]⟩ : ByteArray)] 64 (0, 0)) (by (with_reducible repeat (first | refine blk_drewN ?_ _ | refine blk_drew ?_ | refine blk_alloc ?_ _)); exact (Q_BK140 ((up_ne (by decide)).symm.trans h0_) (hoff 12 (by kernel_rfl))))) : gb140 ≠ gb141)))
                have z_BK140 := fun (h0_ : b 10 = true) (h1_ : b 12 = false) => (show w39.heap[gb140]? = some (.cells #[.int .i64 0, .int .i64 0, .int .i64 0, .int .i64 0, .string (⟨#[]⟩ : ByteArray), .string (⟨#[]⟩ : ByteArray), .int .i64 0, .int .i64 0, .string (⟨#[]⟩ : ByteArray), .string (⟨#[]⟩ : ByteArray)] 64 (0, 0)) from by first | exact (blk_below (g := gb140) (o := .cells #[.int .i64 0, .int .i64 0, .int .i64 0, .int .i64 0, .string (⟨#[]⟩ : ByteArray), .string (⟨#[]⟩ : ByteArray), .int .i64 0, .int .i64 0, .string (⟨#[]⟩ : ByteArray), .string (⟨#[]⟩ : ByteArray)] 64 (0, 0)) (by (with_reducible repeat (first | refine blk_drewN ?_ _ | refine blk_drew ?_ | refine blk_alloc ?_ _)); exact (Q_BK140 h0_ h1_)) hb))
                clear BK101
                clear BK102
                clear HB
                have BK101 := n0_
                have BK102 := n1_
                have HB := n2_
                have BK141 := n3_
                have GW141 := n4_
                have GE141 := n5_
                have NB101_141 := n6_
                have NB141_101 := n7_
                have NB102_141 := n8_
                have NB141_102 := n9_
                clear n0_ n1_ n2_ n3_ n4_ n5_ n6_ n7_ n8_ n9_
                clear hb hbox hg
                refine hK.out _ _ ⟨gb140, gb141, m10_, (.pointer (some ⟨gb141, 0, none⟩)), (by rw [ha.out]; exact putSel_upk 10 hb_ rfl rfl rfl), (by (with_reducible repeat (first | refine blk_drewN ?_ _ | refine blk_drew ?_ | refine blk_alloc ?_ _)); exact BK101.out), (by (with_reducible repeat (first | refine blk_drewN ?_ _ | refine blk_drew ?_ | refine blk_alloc ?_ _)); exact BK102.out), (by repeat (first | (with_reducible first | exact HB.out | apply below_alloc | apply pw_below_drewN | apply below_drew1 | refine below_set ?_ GE101.out | refine below_set ?_ GE102.out | refine below_set ?_ GE141.out) | exact HB.out)), @z_NB141_140, @z_NB140_141, z_BK140, Q_GW140, Q_GE140, Q_NB101_140, Q_NB140_101, Q_NB102_140, Q_NB140_102, fun _ _ => (by (with_reducible repeat (first | refine blk_drewN ?_ _ | refine blk_drew ?_ | refine blk_alloc ?_ _)); exact BK141.out), fun _ => GW141.out, fun _ => GE141.out, fun _ => NB101_141.out, fun _ => NB141_101.out, fun _ => NB102_141.out, fun _ => NB141_102.out, fun h0_ => absurd ((hoff 12 (by kernel_rfl)).symm.trans h0_) (by decide), fun h0_ => absurd ((hoff 13 (by kernel_rfl)).symm.trans h0_) (by decide), Q_X10_, fun _ => rfl⟩
              refine steps_cons ?_ ?_
              · rintro b a w' ⟨gb140, gb141, m10_, m11_, ha, Q_BK101, Q_BK102, Q_HB, Q_NB141_140, Q_NB140_141, Q_BK140, Q_GW140, Q_GE140, Q_NB101_140, Q_NB140_101, Q_NB102_140, Q_NB140_102, Q_BK141, Q_GW141, Q_GE141, Q_NB101_141, Q_NB141_101, Q_NB102_141, Q_NB141_102, Q_BK140_e12, Q_BK141_e13, Q_X10_, Q_X11_⟩ hb_ hon hoff
                refine ⟨_, rfl, fun K hK => ?_⟩
                have e8 : a.tmps[8]? = some (m10_) := by rw [ha]; exact putSel_on (e := (10, 8, m10_)) 9 rfl rfl (hon 10 (by kernel_rfl)) rfl
                rw [Q_X10_ (hon 10 (by kernel_rfl))] at e8
                have e31 : a.tmps[31]? = some (.agg #[.int .i64 t122, .int .i64 t123, .int .i64 t124, .int .i64 t125, .string t126, .string t127, .int .i64 t128, .int .i64 t129, .string t130, .string t131]) := by rw [ha]; exact putSel_on (e := (7, 31, .agg #[.int .i64 t122, .int .i64 t123, .int .i64 t124, .int .i64 t125, .string t126, .string t127, .int .i64 t128, .int .i64 t129, .string t130, .string t131])) 6 rfl rfl (hon 7 (by kernel_rfl)) rfl
                replace ha := Aside0.mk ha
                have BK101 := Aside0.mk Q_BK101
                have BK102 := Aside0.mk Q_BK102
                have HB := Aside0.mk Q_HB
                have NB141_140 := Aside0.mk (Q_NB141_140 (hon 10 (by kernel_rfl)) (hon 11 (by kernel_rfl)))
                have NB140_141 := Aside0.mk (Q_NB140_141 (hon 10 (by kernel_rfl)) (hon 11 (by kernel_rfl)))
                have BK140 := Aside0.mk (Q_BK140 (hon 10 (by kernel_rfl)) hb_)
                have GW140 := Aside0.mk (Q_GW140 (hon 10 (by kernel_rfl)))
                have GE140 := Aside0.mk (Q_GE140 (hon 10 (by kernel_rfl)))
                have NB101_140 := Aside0.mk (Q_NB101_140 (hon 10 (by kernel_rfl)))
                have NB140_101 := Aside0.mk (Q_NB140_101 (hon 10 (by kernel_rfl)))
                have NB102_140 := Aside0.mk (Q_NB102_140 (hon 10 (by kernel_rfl)))
                have NB140_102 := Aside0.mk (Q_NB140_102 (hon 10 (by kernel_rfl)))
                have BK141 := Aside0.mk (Q_BK141 (hon 11 (by kernel_rfl)) (hoff 13 (by kernel_rfl)))
                have GW141 := Aside0.mk (Q_GW141 (hon 11 (by kernel_rfl)))
                have GE141 := Aside0.mk (Q_GE141 (hon 11 (by kernel_rfl)))
                have NB101_141 := Aside0.mk (Q_NB101_141 (hon 11 (by kernel_rfl)))
                have NB141_101 := Aside0.mk (Q_NB141_101 (hon 11 (by kernel_rfl)))
                have NB102_141 := Aside0.mk (Q_NB102_141 (hon 11 (by kernel_rfl)))
                have NB141_102 := Aside0.mk (Q_NB141_102 (hon 11 (by kernel_rfl)))
                have hs45 : w'.cell? ⟨gb140, 0, none⟩ = some (.int .i64 0) := (blk_cell BK140.out 0).trans rfl
                have hfs45 := blk_frozen BK140.out 0
                have hns45_0 := NB101_140.out
                have hns45_1 := NB102_140.out
                have hns45_3 := NB141_140.out
                have hms45_0 := NB140_101.out
                have hms45_1 := NB140_102.out
                have hms45_3 := NB140_141.out
                have hs46 : w'.cell? ⟨gb140, 1, none⟩ = some (.int .i64 0) := (blk_cell BK140.out 1).trans rfl
                have hfs46 := blk_frozen BK140.out 1
                have hns46_0 := NB101_140.out
                have hns46_1 := NB102_140.out
                have hns46_3 := NB141_140.out
                have hms46_0 := NB140_101.out
                have hms46_1 := NB140_102.out
                have hms46_3 := NB140_141.out
                have hs47 : w'.cell? ⟨gb140, 2, none⟩ = some (.int .i64 0) := (blk_cell BK140.out 2).trans rfl
                have hfs47 := blk_frozen BK140.out 2
                have hns47_0 := NB101_140.out
                have hns47_1 := NB102_140.out
                have hns47_3 := NB141_140.out
                have hms47_0 := NB140_101.out
                have hms47_1 := NB140_102.out
                have hms47_3 := NB140_141.out
                have hs48 : w'.cell? ⟨gb140, 3, none⟩ = some (.int .i64 0) := (blk_cell BK140.out 3).trans rfl
                have hfs48 := blk_frozen BK140.out 3
                have hns48_0 := NB101_140.out
                have hns48_1 := NB102_140.out
                have hns48_3 := NB141_140.out
                have hms48_0 := NB140_101.out
                have hms48_1 := NB140_102.out
                have hms48_3 := NB140_141.out
                have hs49 : w'.cell? ⟨gb140, 4, none⟩ = some (.string (⟨#[]⟩ : ByteArray)) := (blk_cell BK140.out 4).trans rfl
                have hfs49 := blk_frozen BK140.out 4
                have hns49_0 := NB101_140.out
                have hns49_1 := NB102_140.out
                have hns49_3 := NB141_140.out
                have hms49_0 := NB140_101.out
                have hms49_1 := NB140_102.out
                have hms49_3 := NB140_141.out
                have hs50 : w'.cell? ⟨gb140, 5, none⟩ = some (.string (⟨#[]⟩ : ByteArray)) := (blk_cell BK140.out 5).trans rfl
                have hfs50 := blk_frozen BK140.out 5
                have hns50_0 := NB101_140.out
                have hns50_1 := NB102_140.out
                have hns50_3 := NB141_140.out
                have hms50_0 := NB140_101.out
                have hms50_1 := NB140_102.out
                have hms50_3 := NB140_141.out
                have hs51 : w'.cell? ⟨gb140, 6, none⟩ = some (.int .i64 0) := (blk_cell BK140.out 6).trans rfl
                have hfs51 := blk_frozen BK140.out 6
                have hns51_0 := NB101_140.out
                have hns51_1 := NB102_140.out
                have hns51_3 := NB141_140.out
                have hms51_0 := NB140_101.out
                have hms51_1 := NB140_102.out
                have hms51_3 := NB140_141.out
                have hs52 : w'.cell? ⟨gb140, 7, none⟩ = some (.int .i64 0) := (blk_cell BK140.out 7).trans rfl
                have hfs52 := blk_frozen BK140.out 7
                have hns52_0 := NB101_140.out
                have hns52_1 := NB102_140.out
                have hns52_3 := NB141_140.out
                have hms52_0 := NB140_101.out
                have hms52_1 := NB140_102.out
                have hms52_3 := NB140_141.out
                have hs53 : w'.cell? ⟨gb140, 8, none⟩ = some (.string (⟨#[]⟩ : ByteArray)) := (blk_cell BK140.out 8).trans rfl
                have hfs53 := blk_frozen BK140.out 8
                have hns53_0 := NB101_140.out
                have hns53_1 := NB102_140.out
                have hns53_3 := NB141_140.out
                have hms53_0 := NB140_101.out
                have hms53_1 := NB140_102.out
                have hms53_3 := NB140_141.out
                have hs54 : w'.cell? ⟨gb140, 9, none⟩ = some (.string (⟨#[]⟩ : ByteArray)) := (blk_cell BK140.out 9).trans rfl
                have hfs54 := blk_frozen BK140.out 9
                have hns54_0 := NB101_140.out
                have hns54_1 := NB102_140.out
                have hns54_3 := NB141_140.out
                have hms54_0 := NB140_101.out
                have hms54_1 := NB140_102.out
                have hms54_3 := NB140_141.out
                refine skip_ (w1 := ?_) (by rfl) rfl ?_ ?_
                rotate_left
                · go_simp
                  rfl
                refine hK.out _ _ ⟨gb140, gb141, m10_, m11_, (by rw [ha.out]; exact putSel_none (v := undef) rfl), (by (with_reducible repeat (first | refine blk_drewN ?_ _ | refine blk_drew ?_ | refine blk_alloc ?_ _)); refine blk_far ?_ NB101_140.out _; (with_reducible repeat (first | refine blk_drewN ?_ _ | refine blk_drew ?_ | refine blk_alloc ?_ _)); refine blk_far ?_ NB101_140.out _; (with_reducible repeat (first | refine blk_drewN ?_ _ | refine blk_drew ?_ | refine blk_alloc ?_ _)); refine blk_far ?_ NB101_140.out _; (with_reducible repeat (first | refine blk_drewN ?_ _ | refine blk_drew ?_ | refine blk_alloc ?_ _)); refine blk_far ?_ NB101_140.out _; (with_reducible repeat (first | refine blk_drewN ?_ _ | refine blk_drew ?_ | refine blk_alloc ?_ _)); refine blk_far ?_ NB101_140.out _; (with_reducible repeat (first | refine blk_drewN ?_ _ | refine blk_drew ?_ | refine blk_alloc ?_ _)); refine blk_far ?_ NB101_140.out _; (with_reducible repeat (first | refine blk_drewN ?_ _ | refine blk_drew ?_ | refine blk_alloc ?_ _)); refine blk_far ?_ NB101_140.out _; (with_reducible repeat (first | refine blk_drewN ?_ _ | refine blk_drew ?_ | refine blk_alloc ?_ _)); refine blk_far ?_ NB101_140.out _; (with_reducible repeat (first | refine blk_drewN ?_ _ | refine blk_drew ?_ | refine blk_alloc ?_ _)); refine blk_far ?_ NB101_140.out _; (with_reducible repeat (first | refine blk_drewN ?_ _ | refine blk_drew ?_ | refine blk_alloc ?_ _)); refine blk_far ?_ NB101_140.out _; (with_reducible repeat (first | refine blk_drewN ?_ _ | refine blk_drew ?_ | refine blk_alloc ?_ _)); exact BK101.out), (by (with_reducible repeat (first | refine blk_drewN ?_ _ | refine blk_drew ?_ | refine blk_alloc ?_ _)); refine blk_far ?_ NB102_140.out _; (with_reducible repeat (first | refine blk_drewN ?_ _ | refine blk_drew ?_ | refine blk_alloc ?_ _)); refine blk_far ?_ NB102_140.out _; (with_reducible repeat (first | refine blk_drewN ?_ _ | refine blk_drew ?_ | refine blk_alloc ?_ _)); refine blk_far ?_ NB102_140.out _; (with_reducible repeat (first | refine blk_drewN ?_ _ | refine blk_drew ?_ | refine blk_alloc ?_ _)); refine blk_far ?_ NB102_140.out _; (with_reducible repeat (first | refine blk_drewN ?_ _ | refine blk_drew ?_ | refine blk_alloc ?_ _)); refine blk_far ?_ NB102_140.out _; (with_reducible repeat (first | refine blk_drewN ?_ _ | refine blk_drew ?_ | refine blk_alloc ?_ _)); refine blk_far ?_ NB102_140.out _; (with_reducible repeat (first | refine blk_drewN ?_ _ | refine blk_drew ?_ | refine blk_alloc ?_ _)); refine blk_far ?_ NB102_140.out _; (with_reducible repeat (first | refine blk_drewN ?_ _ | refine blk_drew ?_ | refine blk_alloc ?_ _)); refine blk_far ?_ NB102_140.out _; (with_reducible repeat (first | refine blk_drewN ?_ _ | refine blk_drew ?_ | refine blk_alloc ?_ _)); refine blk_far ?_ NB102_140.out _; (with_reducible repeat (first | refine blk_drewN ?_ _ | refine blk_drew ?_ | refine blk_alloc ?_ _)); refine blk_far ?_ NB102_140.out _; (with_reducible repeat (first | refine blk_drewN ?_ _ | refine blk_drew ?_ | refine blk_alloc ?_ _)); exact BK102.out), (by repeat (first | (with_reducible first | exact HB.out | apply below_alloc | apply pw_below_drewN | apply below_drew1 | refine below_set ?_ GE101.out | refine below_set ?_ GE102.out | refine below_set ?_ GE140.out | refine below_set ?_ GE141.out) | exact HB.out)), fun _ _ => NB141_140.out, fun _ _ => NB140_141.out, fun _ h1_ => absurd ((up_self b 12).symm.trans h1_) (by decide), fun _ => GW140.out, fun _ => GE140.out, fun _ => NB101_140.out, fun _ => NB140_101.out, fun _ => NB102_140.out, fun _ => NB140_102.out, fun _ _ => (by (with_reducible repeat (first | refine blk_drewN ?_ _ | refine blk_drew ?_ | refine blk_alloc ?_ _)); refine blk_far ?_ NB141_140.out _; (with_reducible repeat (first | refine blk_drewN ?_ _ | refine blk_drew ?_ | refine blk_alloc ?_ _)); refine blk_far ?_ NB141_140.out _; (with_reducible repeat (first | refine blk_drewN ?_ _ | refine blk_drew ?_ | refine blk_alloc ?_ _)); refine blk_far ?_ NB141_140.out _; (with_reducible repeat (first | refine blk_drewN ?_ _ | refine blk_drew ?_ | refine blk_alloc ?_ _)); refine blk_far ?_ NB141_140.out _; (with_reducible repeat (first | refine blk_drewN ?_ _ | refine blk_drew ?_ | refine blk_alloc ?_ _)); refine blk_far ?_ NB141_140.out _; (with_reducible repeat (first | refine blk_drewN ?_ _ | refine blk_drew ?_ | refine blk_alloc ?_ _)); refine blk_far ?_ NB141_140.out _; (with_reducible repeat (first | refine blk_drewN ?_ _ | refine blk_drew ?_ | refine blk_alloc ?_ _)); refine blk_far ?_ NB141_140.out _; (with_reducible repeat (first | refine blk_drewN ?_ _ | refine blk_drew ?_ | refine blk_alloc ?_ _)); refine blk_far ?_ NB141_140.out _; (with_reducible repeat (first | refine blk_drewN ?_ _ | refine blk_drew ?_ | refine blk_alloc ?_ _)); refine blk_far ?_ NB141_140.out _; (with_reducible repeat (first | refine blk_drewN ?_ _ | refine blk_drew ?_ | refine blk_alloc ?_ _)); refine blk_far ?_ NB141_140.out _; (with_reducible repeat (first | refine blk_drewN ?_ _ | refine blk_drew ?_ | refine blk_alloc ?_ _)); exact BK141.out), fun _ => GW141.out, fun _ => GE141.out, fun _ => NB101_141.out, fun _ => NB141_101.out, fun _ => NB102_141.out, fun _ => NB141_102.out, fun _ => (by (with_reducible repeat (first | refine blk_drewN ?_ _ | refine blk_drew ?_ | refine blk_alloc ?_ _)); refine blk_put (cs := #[.int .i64 t122, .int .i64 t123, .int .i64 t124, .int .i64 t125, .string t126, .string t127, .int .i64 t128, .int .i64 t129, .string t130, .string (⟨#[]⟩ : ByteArray)]) ?_ 9 _ rfl; (with_reducible repeat (first | refine blk_drewN ?_ _ | refine blk_drew ?_ | refine blk_alloc ?_ _)); refine blk_put (cs := #[.int .i64 t122, .int .i64 t123, .int .i64 t124, .int .i64 t125, .string t126, .string t127, .int .i64 t128, .int .i64 t129, .string (⟨#[]⟩ : ByteArray), .string (⟨#[]⟩ : ByteArray)]) ?_ 8 _ rfl; (with_reducible repeat (first | refine blk_drewN ?_ _ | refine blk_drew ?_ | refine blk_alloc ?_ _)); refine blk_put (cs := #[.int .i64 t122, .int .i64 t123, .int .i64 t124, .int .i64 t125, .string t126, .string t127, .int .i64 t128, .int .i64 0, .string (⟨#[]⟩ : ByteArray), .string (⟨#[]⟩ : ByteArray)]) ?_ 7 _ rfl; (with_reducible repeat (first | refine blk_drewN ?_ _ | refine blk_drew ?_ | refine blk_alloc ?_ _)); refine blk_put (cs := #[.int .i64 t122, .int .i64 t123, .int .i64 t124, .int .i64 t125, .string t126, .string t127, .int .i64 0, .int .i64 0, .string (⟨#[]⟩ : ByteArray), .string (⟨#[]⟩ : ByteArray)]) ?_ 6 _ rfl; (with_reducible repeat (first | refine blk_drewN ?_ _ | refine blk_drew ?_ | refine blk_alloc ?_ _)); refine blk_put (cs := #[.int .i64 t122, .int .i64 t123, .int .i64 t124, .int .i64 t125, .string t126, .string (⟨#[]⟩ : ByteArray), .int .i64 0, .int .i64 0, .string (⟨#[]⟩ : ByteArray), .string (⟨#[]⟩ : ByteArray)]) ?_ 5 _ rfl; (with_reducible repeat (first | refine blk_drewN ?_ _ | refine blk_drew ?_ | refine blk_alloc ?_ _)); refine blk_put (cs := #[.int .i64 t122, .int .i64 t123, .int .i64 t124, .int .i64 t125, .string (⟨#[]⟩ : ByteArray), .string (⟨#[]⟩ : ByteArray), .int .i64 0, .int .i64 0, .string (⟨#[]⟩ : ByteArray), .string (⟨#[]⟩ : ByteArray)]) ?_ 4 _ rfl; (with_reducible repeat (first | refine blk_drewN ?_ _ | refine blk_drew ?_ | refine blk_alloc ?_ _)); refine blk_put (cs := #[.int .i64 t122, .int .i64 t123, .int .i64 t124, .int .i64 0, .string (⟨#[]⟩ : ByteArray), .string (⟨#[]⟩ : ByteArray), .int .i64 0, .int .i64 0, .string (⟨#[]⟩ : ByteArray), .string (⟨#[]⟩ : ByteArray)]) ?_ 3 _ rfl; (with_reducible repeat (first | refine blk_drewN ?_ _ | refine blk_drew ?_ | refine blk_alloc ?_ _)); refine blk_put (cs := #[.int .i64 t122, .int .i64 t123, .int .i64 0, .int .i64 0, .string (⟨#[]⟩ : ByteArray), .string (⟨#[]⟩ : ByteArray), .int .i64 0, .int .i64 0, .string (⟨#[]⟩ : ByteArray), .string (⟨#[]⟩ : ByteArray)]) ?_ 2 _ rfl; (with_reducible repeat (first | refine blk_drewN ?_ _ | refine blk_drew ?_ | refine blk_alloc ?_ _)); refine blk_put (cs := #[.int .i64 t122, .int .i64 0, .int .i64 0, .int .i64 0, .string (⟨#[]⟩ : ByteArray), .string (⟨#[]⟩ : ByteArray), .int .i64 0, .int .i64 0, .string (⟨#[]⟩ : ByteArray), .string (⟨#[]⟩ : ByteArray)]) ?_ 1 _ rfl; (with_reducible repeat (first | refine blk_drewN ?_ _ | refine blk_drew ?_ | refine blk_alloc ?_ _)); refine blk_put (cs := #[.int .i64 0, .int .i64 0, .int .i64 0, .int .i64 0, .string (⟨#[]⟩ : ByteArray), .string (⟨#[]⟩ : ByteArray), .int .i64 0, .int .i64 0, .string (⟨#[]⟩ : ByteArray), .string (⟨#[]⟩ : ByteArray)]) ?_ 0 _ rfl; (with_reducible repeat (first | refine blk_drewN ?_ _ | refine blk_drew ?_ | refine blk_alloc ?_ _)); exact BK140.out), fun h0_ => absurd ((hoff 13 (by kernel_rfl)).symm.trans h0_) (by decide), Q_X10_, Q_X11_⟩
              refine steps_cons ?_ ?_
              · rintro b a w' ⟨gb140, gb141, m10_, m11_, ha, Q_BK101, Q_BK102, Q_HB, Q_NB141_140, Q_NB140_141, Q_BK140, Q_GW140, Q_GE140, Q_NB101_140, Q_NB140_101, Q_NB102_140, Q_NB140_102, Q_BK141, Q_GW141, Q_GE141, Q_NB101_141, Q_NB141_101, Q_NB102_141, Q_NB141_102, Q_BK140_e12, Q_BK141_e13, Q_X10_, Q_X11_⟩ hb_ hon hoff
                refine ⟨_, rfl, fun K hK => ?_⟩
                have e9 : a.tmps[9]? = some (m11_) := by rw [ha]; exact putSel_on (e := (11, 9, m11_)) 10 rfl rfl (hon 11 (by kernel_rfl)) rfl
                rw [Q_X11_ (hon 11 (by kernel_rfl))] at e9
                have e32 : a.tmps[32]? = some (.agg #[.int .i64 t132, .int .i64 t133, .int .i64 t134, .int .i64 t135, .int .i64 t136, .int .i64 t137, .string t138]) := by rw [ha]; exact putSel_on (e := (8, 32, .agg #[.int .i64 t132, .int .i64 t133, .int .i64 t134, .int .i64 t135, .int .i64 t136, .int .i64 t137, .string t138])) 7 rfl rfl (hon 8 (by kernel_rfl)) rfl
                replace ha := Aside0.mk ha
                have BK101 := Aside0.mk Q_BK101
                have BK102 := Aside0.mk Q_BK102
                have HB := Aside0.mk Q_HB
                have NB141_140 := Aside0.mk (Q_NB141_140 (hon 10 (by kernel_rfl)) (hon 11 (by kernel_rfl)))
                have NB140_141 := Aside0.mk (Q_NB140_141 (hon 10 (by kernel_rfl)) (hon 11 (by kernel_rfl)))
                have GW140 := Aside0.mk (Q_GW140 (hon 10 (by kernel_rfl)))
                have GE140 := Aside0.mk (Q_GE140 (hon 10 (by kernel_rfl)))
                have NB101_140 := Aside0.mk (Q_NB101_140 (hon 10 (by kernel_rfl)))
                have NB140_101 := Aside0.mk (Q_NB140_101 (hon 10 (by kernel_rfl)))
                have NB102_140 := Aside0.mk (Q_NB102_140 (hon 10 (by kernel_rfl)))
                have NB140_102 := Aside0.mk (Q_NB140_102 (hon 10 (by kernel_rfl)))
                have BK141 := Aside0.mk (Q_BK141 (hon 11 (by kernel_rfl)) hb_)
                have GW141 := Aside0.mk (Q_GW141 (hon 11 (by kernel_rfl)))
                have GE141 := Aside0.mk (Q_GE141 (hon 11 (by kernel_rfl)))
                have NB101_141 := Aside0.mk (Q_NB101_141 (hon 11 (by kernel_rfl)))
                have NB141_101 := Aside0.mk (Q_NB141_101 (hon 11 (by kernel_rfl)))
                have NB102_141 := Aside0.mk (Q_NB102_141 (hon 11 (by kernel_rfl)))
                have NB141_102 := Aside0.mk (Q_NB141_102 (hon 11 (by kernel_rfl)))
                have BK140 := Aside0.mk (Q_BK140_e12 (hon 12 (by kernel_rfl)))
                have hs55 : w'.cell? ⟨gb141, 0, none⟩ = some (.int .i64 0) := (blk_cell BK141.out 0).trans rfl
                have hfs55 := blk_frozen BK141.out 0
                have hns55_0 := NB101_141.out
                have hns55_1 := NB102_141.out
                have hns55_2 := NB140_141.out
                have hms55_0 := NB141_101.out
                have hms55_1 := NB141_102.out
                have hms55_2 := NB141_140.out
                have hs56 : w'.cell? ⟨gb141, 1, none⟩ = some (.int .i64 0) := (blk_cell BK141.out 1).trans rfl
                have hfs56 := blk_frozen BK141.out 1
                have hns56_0 := NB101_141.out
                have hns56_1 := NB102_141.out
                have hns56_2 := NB140_141.out
                have hms56_0 := NB141_101.out
                have hms56_1 := NB141_102.out
                have hms56_2 := NB141_140.out
                have hs57 : w'.cell? ⟨gb141, 2, none⟩ = some (.int .i64 0) := (blk_cell BK141.out 2).trans rfl
                have hfs57 := blk_frozen BK141.out 2
                have hns57_0 := NB101_141.out
                have hns57_1 := NB102_141.out
                have hns57_2 := NB140_141.out
                have hms57_0 := NB141_101.out
                have hms57_1 := NB141_102.out
                have hms57_2 := NB141_140.out
                have hs58 : w'.cell? ⟨gb141, 3, none⟩ = some (.int .i64 0) := (blk_cell BK141.out 3).trans rfl
                have hfs58 := blk_frozen BK141.out 3
                have hns58_0 := NB101_141.out
                have hns58_1 := NB102_141.out
                have hns58_2 := NB140_141.out
                have hms58_0 := NB141_101.out
                have hms58_1 := NB141_102.out
                have hms58_2 := NB141_140.out
                have hs59 : w'.cell? ⟨gb141, 4, none⟩ = some (.int .i64 0) := (blk_cell BK141.out 4).trans rfl
                have hfs59 := blk_frozen BK141.out 4
                have hns59_0 := NB101_141.out
                have hns59_1 := NB102_141.out
                have hns59_2 := NB140_141.out
                have hms59_0 := NB141_101.out
                have hms59_1 := NB141_102.out
                have hms59_2 := NB141_140.out
                have hs60 : w'.cell? ⟨gb141, 5, none⟩ = some (.int .i64 0) := (blk_cell BK141.out 5).trans rfl
                have hfs60 := blk_frozen BK141.out 5
                have hns60_0 := NB101_141.out
                have hns60_1 := NB102_141.out
                have hns60_2 := NB140_141.out
                have hms60_0 := NB141_101.out
                have hms60_1 := NB141_102.out
                have hms60_2 := NB141_140.out
                have hs61 : w'.cell? ⟨gb141, 6, none⟩ = some (.string (⟨#[]⟩ : ByteArray)) := (blk_cell BK141.out 6).trans rfl
                have hfs61 := blk_frozen BK141.out 6
                have hns61_0 := NB101_141.out
                have hns61_1 := NB102_141.out
                have hns61_2 := NB140_141.out
                have hms61_0 := NB141_101.out
                have hms61_1 := NB141_102.out
                have hms61_2 := NB141_140.out
                refine skip_ (w1 := ?_) (by rfl) rfl ?_ ?_
                rotate_left
                · go_simp
                  rfl
                refine hK.out _ _ ⟨gb140, gb141, m10_, m11_, (by rw [ha.out]; exact putSel_none (v := undef) rfl), (by (with_reducible repeat (first | refine blk_drewN ?_ _ | refine blk_drew ?_ | refine blk_alloc ?_ _)); refine blk_far ?_ NB101_141.out _; (with_reducible repeat (first | refine blk_drewN ?_ _ | refine blk_drew ?_ | refine blk_alloc ?_ _)); refine blk_far ?_ NB101_141.out _; (with_reducible repeat (first | refine blk_drewN ?_ _ | refine blk_drew ?_ | refine blk_alloc ?_ _)); refine blk_far ?_ NB101_141.out _; (with_reducible repeat (first | refine blk_drewN ?_ _ | refine blk_drew ?_ | refine blk_alloc ?_ _)); refine blk_far ?_ NB101_141.out _; (with_reducible repeat (first | refine blk_drewN ?_ _ | refine blk_drew ?_ | refine blk_alloc ?_ _)); refine blk_far ?_ NB101_141.out _; (with_reducible repeat (first | refine blk_drewN ?_ _ | refine blk_drew ?_ | refine blk_alloc ?_ _)); refine blk_far ?_ NB101_141.out _; (with_reducible repeat (first | refine blk_drewN ?_ _ | refine blk_drew ?_ | refine blk_alloc ?_ _)); refine blk_far ?_ NB101_141.out _; (with_reducible repeat (first | refine blk_drewN ?_ _ | refine blk_drew ?_ | refine blk_alloc ?_ _)); exact BK101.out), (by (with_reducible repeat (first | refine blk_drewN ?_ _ | refine blk_drew ?_ | refine blk_alloc ?_ _)); refine blk_far ?_ NB102_141.out _; (with_reducible repeat (first | refine blk_drewN ?_ _ | refine blk_drew ?_ | refine blk_alloc ?_ _)); refine blk_far ?_ NB102_141.out _; (with_reducible repeat (first | refine blk_drewN ?_ _ | refine blk_drew ?_ | refine blk_alloc ?_ _)); refine blk_far ?_ NB102_141.out _; (with_reducible repeat (first | refine blk_drewN ?_ _ | refine blk_drew ?_ | refine blk_alloc ?_ _)); refine blk_far ?_ NB102_141.out _; (with_reducible repeat (first | refine blk_drewN ?_ _ | refine blk_drew ?_ | refine blk_alloc ?_ _)); refine blk_far ?_ NB102_141.out _; (with_reducible repeat (first | refine blk_drewN ?_ _ | refine blk_drew ?_ | refine blk_alloc ?_ _)); refine blk_far ?_ NB102_141.out _; (with_reducible repeat (first | refine blk_drewN ?_ _ | refine blk_drew ?_ | refine blk_alloc ?_ _)); refine blk_far ?_ NB102_141.out _; (with_reducible repeat (first | refine blk_drewN ?_ _ | refine blk_drew ?_ | refine blk_alloc ?_ _)); exact BK102.out), (by repeat (first | (with_reducible first | exact HB.out | apply below_alloc | apply pw_below_drewN | apply below_drew1 | refine below_set ?_ GE101.out | refine below_set ?_ GE102.out | refine below_set ?_ GE140.out | refine below_set ?_ GE141.out) | exact HB.out)), fun _ _ => NB141_140.out, fun _ _ => NB140_141.out, fun _ h1_ => absurd ((hon 12 (by kernel_rfl)).symm.trans h1_) (by decide), fun _ => GW140.out, fun _ => GE140.out, fun _ => NB101_140.out, fun _ => NB140_101.out, fun _ => NB102_140.out, fun _ => NB140_102.out, fun _ h1_ => absurd ((up_self b 13).symm.trans h1_) (by decide), fun _ => GW141.out, fun _ => GE141.out, fun _ => NB101_141.out, fun _ => NB141_101.out, fun _ => NB102_141.out, fun _ => NB141_102.out, fun _ => (by (with_reducible repeat (first | refine blk_drewN ?_ _ | refine blk_drew ?_ | refine blk_alloc ?_ _)); refine blk_far ?_ NB140_141.out _; (with_reducible repeat (first | refine blk_drewN ?_ _ | refine blk_drew ?_ | refine blk_alloc ?_ _)); refine blk_far ?_ NB140_141.out _; (with_reducible repeat (first | refine blk_drewN ?_ _ | refine blk_drew ?_ | refine blk_alloc ?_ _)); refine blk_far ?_ NB140_141.out _; (with_reducible repeat (first | refine blk_drewN ?_ _ | refine blk_drew ?_ | refine blk_alloc ?_ _)); refine blk_far ?_ NB140_141.out _; (with_reducible repeat (first | refine blk_drewN ?_ _ | refine blk_drew ?_ | refine blk_alloc ?_ _)); refine blk_far ?_ NB140_141.out _; (with_reducible repeat (first | refine blk_drewN ?_ _ | refine blk_drew ?_ | refine blk_alloc ?_ _)); refine blk_far ?_ NB140_141.out _; (with_reducible repeat (first | refine blk_drewN ?_ _ | refine blk_drew ?_ | refine blk_alloc ?_ _)); refine blk_far ?_ NB140_141.out _; (with_reducible repeat (first | refine blk_drewN ?_ _ | refine blk_drew ?_ | refine blk_alloc ?_ _)); exact BK140.out), fun _ => (by (with_reducible repeat (first | refine blk_drewN ?_ _ | refine blk_drew ?_ | refine blk_alloc ?_ _)); refine blk_put (cs := #[.int .i64 t132, .int .i64 t133, .int .i64 t134, .int .i64 t135, .int .i64 t136, .int .i64 t137, .string (⟨#[]⟩ : ByteArray)]) ?_ 6 _ rfl; (with_reducible repeat (first | refine blk_drewN ?_ _ | refine blk_drew ?_ | refine blk_alloc ?_ _)); refine blk_put (cs := #[.int .i64 t132, .int .i64 t133, .int .i64 t134, .int .i64 t135, .int .i64 t136, .int .i64 0, .string (⟨#[]⟩ : ByteArray)]) ?_ 5 _ rfl; (with_reducible repeat (first | refine blk_drewN ?_ _ | refine blk_drew ?_ | refine blk_alloc ?_ _)); refine blk_put (cs := #[.int .i64 t132, .int .i64 t133, .int .i64 t134, .int .i64 t135, .int .i64 0, .int .i64 0, .string (⟨#[]⟩ : ByteArray)]) ?_ 4 _ rfl; (with_reducible repeat (first | refine blk_drewN ?_ _ | refine blk_drew ?_ | refine blk_alloc ?_ _)); refine blk_put (cs := #[.int .i64 t132, .int .i64 t133, .int .i64 t134, .int .i64 0, .int .i64 0, .int .i64 0, .string (⟨#[]⟩ : ByteArray)]) ?_ 3 _ rfl; (with_reducible repeat (first | refine blk_drewN ?_ _ | refine blk_drew ?_ | refine blk_alloc ?_ _)); refine blk_put (cs := #[.int .i64 t132, .int .i64 t133, .int .i64 0, .int .i64 0, .int .i64 0, .int .i64 0, .string (⟨#[]⟩ : ByteArray)]) ?_ 2 _ rfl; (with_reducible repeat (first | refine blk_drewN ?_ _ | refine blk_drew ?_ | refine blk_alloc ?_ _)); refine blk_put (cs := #[.int .i64 t132, .int .i64 0, .int .i64 0, .int .i64 0, .int .i64 0, .int .i64 0, .string (⟨#[]⟩ : ByteArray)]) ?_ 1 _ rfl; (with_reducible repeat (first | refine blk_drewN ?_ _ | refine blk_drew ?_ | refine blk_alloc ?_ _)); refine blk_put (cs := #[.int .i64 0, .int .i64 0, .int .i64 0, .int .i64 0, .int .i64 0, .int .i64 0, .string (⟨#[]⟩ : ByteArray)]) ?_ 0 _ rfl; (with_reducible repeat (first | refine blk_drewN ?_ _ | refine blk_drew ?_ | refine blk_alloc ?_ _)); exact BK141.out), Q_X10_, Q_X11_⟩
              refine steps_cons ?_ ?_
              · rintro b a w' ⟨gb140, gb141, m10_, m11_, ha, Q_BK101, Q_BK102, Q_HB, Q_NB141_140, Q_NB140_141, Q_BK140, Q_GW140, Q_GE140, Q_NB101_140, Q_NB140_101, Q_NB102_140, Q_NB140_102, Q_BK141, Q_GW141, Q_GE141, Q_NB101_141, Q_NB141_101, Q_NB102_141, Q_NB141_102, Q_BK140_e12, Q_BK141_e13, Q_X10_, Q_X11_⟩ hb_ hon hoff
                refine ⟨_, rfl, fun K hK => ?_⟩
                have e33 : a.tmps[33]? = some (.bool t139) := by rw [ha]; exact putSel_on (e := (9, 33, .bool t139)) 8 rfl rfl (hon 9 (by kernel_rfl)) rfl
                replace ha := Aside0.mk ha
                have BK101 := Aside0.mk Q_BK101
                have BK102 := Aside0.mk Q_BK102
                have HB := Aside0.mk Q_HB
                have NB141_140 := Aside0.mk (Q_NB141_140 (hon 10 (by kernel_rfl)) (hon 11 (by kernel_rfl)))
                have NB140_141 := Aside0.mk (Q_NB140_141 (hon 10 (by kernel_rfl)) (hon 11 (by kernel_rfl)))
                have GW140 := Aside0.mk (Q_GW140 (hon 10 (by kernel_rfl)))
                have GE140 := Aside0.mk (Q_GE140 (hon 10 (by kernel_rfl)))
                have NB101_140 := Aside0.mk (Q_NB101_140 (hon 10 (by kernel_rfl)))
                have NB140_101 := Aside0.mk (Q_NB140_101 (hon 10 (by kernel_rfl)))
                have NB102_140 := Aside0.mk (Q_NB102_140 (hon 10 (by kernel_rfl)))
                have NB140_102 := Aside0.mk (Q_NB140_102 (hon 10 (by kernel_rfl)))
                have GW141 := Aside0.mk (Q_GW141 (hon 11 (by kernel_rfl)))
                have GE141 := Aside0.mk (Q_GE141 (hon 11 (by kernel_rfl)))
                have NB101_141 := Aside0.mk (Q_NB101_141 (hon 11 (by kernel_rfl)))
                have NB141_101 := Aside0.mk (Q_NB141_101 (hon 11 (by kernel_rfl)))
                have NB102_141 := Aside0.mk (Q_NB102_141 (hon 11 (by kernel_rfl)))
                have NB141_102 := Aside0.mk (Q_NB141_102 (hon 11 (by kernel_rfl)))
                have BK140 := Aside0.mk (Q_BK140_e12 (hon 12 (by kernel_rfl)))
                have BK141 := Aside0.mk (Q_BK141_e13 (hon 13 (by kernel_rfl)))
                refine value_ (w1 := w') (v := .bool t139) (by rfl) rfl ?_ ?_
                · go_simp
                  (try simp only [i64_w])
                  try rfl
                refine hK.out _ _ ⟨gb140, gb141, m10_, m11_, (by rw [ha.out]; exact putSel_upk 11 hb_ rfl rfl rfl), Q_BK101, Q_BK102, Q_HB, Q_NB141_140, Q_NB140_141, fun _ h1_ => absurd ((hon 12 (by kernel_rfl)).symm.trans h1_) (by decide), Q_GW140, Q_GE140, Q_NB101_140, Q_NB140_101, Q_NB102_140, Q_NB140_102, fun _ h1_ => absurd ((hon 13 (by kernel_rfl)).symm.trans h1_) (by decide), Q_GW141, Q_GE141, Q_NB101_141, Q_NB141_101, Q_NB102_141, Q_NB141_102, Q_BK140_e12, Q_BK141_e13, Q_X10_, Q_X11_⟩
              exact steps_nil
            rintro b a w61 hall ⟨gb140, gb141, m10_, m11_, ha, Q_BK101, Q_BK102, Q_HB, Q_NB141_140, Q_NB140_141, Q_BK140, Q_GW140, Q_GE140, Q_NB101_140, Q_NB140_101, Q_NB102_140, Q_NB140_102, Q_BK141, Q_GW141, Q_GE141, Q_NB101_141, Q_NB141_101, Q_NB102_141, Q_NB141_102, Q_BK140_e12, Q_BK141_e13, Q_X10_, Q_X11_⟩
            clear BK101 BK102 HB
            have hb0_ := hall 0 (by kernel_rfl)
            have hb1_ := hall 1 (by kernel_rfl)
            have hb3_ := hall 3 (by kernel_rfl)
            have hb4_ := hall 4 (by kernel_rfl)
            have hb5_ := hall 5 (by kernel_rfl)
            have hb6_ := hall 6 (by kernel_rfl)
            have hb7_ := hall 7 (by kernel_rfl)
            have hb8_ := hall 8 (by kernel_rfl)
            have hb9_ := hall 9 (by kernel_rfl)
            have hb10_ := hall 10 (by kernel_rfl)
            have hb11_ := hall 11 (by kernel_rfl)
            have hb12_ := hall 12 (by kernel_rfl)
            have hb13_ := hall 13 (by kernel_rfl)
            have hb14_ := hall 14 (by kernel_rfl)
            subst ha
            obtain rfl := Q_X10_ hb10_
            obtain rfl := Q_X11_ hb11_
            simp only [putSel, hb0_, hb1_, hb3_, hb4_, hb5_, hb6_, hb7_, hb8_, hb9_, hb10_, hb11_, hb12_, hb13_, hb14_, if_true, Act.put, List.setIfInBounds_toArray, List.set_cons_zero, List.set_cons_succ]
            have BK101 := Aside0.mk Q_BK101
            clear Q_BK101
            have BK102 := Aside0.mk Q_BK102
            clear Q_BK102
            have HB := Aside0.mk Q_HB
            clear Q_HB
            have NB141_140 := Aside0.mk (Q_NB141_140 hb10_ hb11_)
            clear Q_NB141_140
            have NB140_141 := Aside0.mk (Q_NB140_141 hb10_ hb11_)
            clear Q_NB140_141
            clear Q_BK140
            have GW140 := Aside0.mk (Q_GW140 hb10_)
            clear Q_GW140
            have GE140 := Aside0.mk (Q_GE140 hb10_)
            clear Q_GE140
            have NB101_140 := Aside0.mk (Q_NB101_140 hb10_)
            clear Q_NB101_140
            have NB140_101 := Aside0.mk (Q_NB140_101 hb10_)
            clear Q_NB140_101
            have NB102_140 := Aside0.mk (Q_NB102_140 hb10_)
            clear Q_NB102_140
            have NB140_102 := Aside0.mk (Q_NB140_102 hb10_)
            clear Q_NB140_102
            clear Q_BK141
            have GW141 := Aside0.mk (Q_GW141 hb11_)
            clear Q_GW141
            have GE141 := Aside0.mk (Q_GE141 hb11_)
            clear Q_GE141
            have NB101_141 := Aside0.mk (Q_NB101_141 hb11_)
            clear Q_NB101_141
            have NB141_101 := Aside0.mk (Q_NB141_101 hb11_)
            clear Q_NB141_101
            have NB102_141 := Aside0.mk (Q_NB102_141 hb11_)
            clear Q_NB102_141
            have NB141_102 := Aside0.mk (Q_NB141_102 hb11_)
            clear Q_NB141_102
            have BK140 := Aside0.mk (Q_BK140_e12 hb12_)
            clear Q_BK140_e12
            have BK141 := Aside0.mk (Q_BK141_e13 hb13_)
            clear Q_BK141_e13
            clear hall hb0_ hb1_ hb3_ hb4_ hb5_ hb6_ hb7_ hb8_ hb9_ hb10_ hb11_ hb12_ hb13_ hb14_
            try go_wp2
            have n0_ := Aside0.mk (blk_drew BK101.out)
            have n1_ := Aside0.mk (blk_drew BK102.out)
            have n2_ := Aside0.mk (blk_drew BK140.out)
            have n3_ := Aside0.mk (blk_drew BK141.out)
            have n4_ := Aside0.mk (below_drew1 HB.out)
            clear BK101
            clear BK102
            clear BK140
            clear BK141
            clear HB
            have BK101 := n0_
            have BK102 := n1_
            have BK140 := n2_
            have BK141 := n3_
            have HB := n4_
            clear n0_ n1_ n2_ n3_ n4_
            refine start_ (n := 15) (S := fun w' => True) (ds := []) #[false, false, false, false, false, false, false, false, false, false, false, false, false, false, false] (by kernel_rfl) rfl rfl trivial (fun hHeld => ?_); refine with_tabW laws_FnExactConvHear.tab9 laws_FnExactConvHear.bits9 (fun HT_ HW_ => ?_)
            generalize w61.drew = w62 at BK101 BK102 BK140 BK141 HB hHeld ⊢
            refine pure_ (i := 2) (N := some 37) (v := ?_) (a' := ?_) #[false, false, true, false, false, false, false, false, false, false, false, false, false, false, false] rfl rfl (any_of HT_.out (by kernel_rfl)) (fun _ _ _ h => h) (Or.inl ⟨by rfl, ?_⟩) ?_ ?_
            rotate_left
            · intro w'
              go_simp
              with_reducible rfl
            rotate_left
            · simp only [Act.put, List.setIfInBounds_toArray, List.set_cons_zero, List.set_cons_succ, i64_w, i32_w]
              rfl
            refine inv_at [0, 1, 3, 4, 5, 6, 7, 8, 9, 10, 11, 12, 13, 14] (fun a0_ b a w' => ∃ (gb177 : Nat) (gb178 : Nat) (m10_ : Value) (m11_ : Value), a = putSel a0_ b [(0, 35, .agg #[.int .i64 a0_0, .int .i64 a0_1, .int .i64 a0_2, .int .i64 a0_3, .string a0_4, .string a0_5, .int .i64 a0_6, .int .i64 a0_7, .string a0_8, .string a0_9]), (1, 36, .agg #[.int .i64 t142, .int .i64 t143, .int .i64 t144, .int .i64 t145, .string t146, .string t147, .int .i64 t148, .int .i64 t149, .string t150, .string t151]), (3, 38, .agg #[.int .i64 a2_0, .int .i64 a2_1, .int .i64 a2_2, .int .i64 a2_3, .int .i64 a2_4, .int .i64 a2_5, .string a2_6]), (4, 39, .agg #[.int .i64 t152, .int .i64 t153, .int .i64 t154, .int .i64 t155, .int .i64 t156, .int .i64 t157, .string t158]), (5, 40, .tuple #[.agg #[.int .i64 t159, .int .i64 t160, .int .i64 t161, .int .i64 t162, .string t163, .string t164, .int .i64 t165, .int .i64 t166, .string t167, .string t168], .agg #[.int .i64 t169, .int .i64 t170, .int .i64 t171, .int .i64 t172, .int .i64 t173, .int .i64 t174, .string t175], .bool t176]), (6, 34, .tuple #[.agg #[.int .i64 t159, .int .i64 t160, .int .i64 t161, .int .i64 t162, .string t163, .string t164, .int .i64 t165, .int .i64 t166, .string t167, .string t168], .agg #[.int .i64 t169, .int .i64 t170, .int .i64 t171, .int .i64 t172, .int .i64 t173, .int .i64 t174, .string t175], .bool t176]), (7, 41, .agg #[.int .i64 t159, .int .i64 t160, .int .i64 t161, .int .i64 t162, .string t163, .string t164, .int .i64 t165, .int .i64 t166, .string t167, .string t168]), (8, 42, .agg #[.int .i64 t169, .int .i64 t170, .int .i64 t171, .int .i64 t172, .int .i64 t173, .int .i64 t174, .string t175]), (9, 43, .bool t176), (10, 11, m10_), (11, 12, m11_), (14, 13, .bool t176)] ∧ (w'.heap[gb101]? = some (.cells #[.int .i64 a0_0, .int .i64 a0_1, .int .i64 a0_2, .int .i64 a0_3, .string a0_4, .string a0_5, .int .i64 a0_6, .int .i64 a0_7, .string a0_8, .string a0_9] 57 (0, 0))) ∧ (w'.heap[gb102]? = some (.cells #[.int .i64 a2_0, .int .i64 a2_1, .int .i64 a2_2, .int .i64 a2_3, .int .i64 a2_4, .int .i64 a2_5, .string a2_6] 59 (0, 0))) ∧ (w'.heap[gb140]? = some (.cells #[.int .i64 t122, .int .i64 t123, .int .i64 t124, .int .i64 t125, .string t126, .string t127, .int .i64 t128, .int .i64 t129, .string t130, .string t131] 64 (0, 0))) ∧ (w'.heap[gb141]? = some (.cells #[.int .i64 t132, .int .i64 t133, .int .i64 t134, .int .i64 t135, .int .i64 t136, .int .i64 t137, .string t138] 66 (0, 0))) ∧ (Below w.heap.size w w') ∧ (b 10 = true → b 11 = true → gb178 ≠ gb177) ∧ (b 10 = true → b 11 = true → gb177 ≠ gb178) ∧ (b 10 = true → b 12 = false → w'.heap[gb177]? = some (.cells #[.int .i64 0, .int .i64 0, .int .i64 0, .int .i64 0, .string (⟨#[]⟩ : ByteArray), .string (⟨#[]⟩ : ByteArray), .int .i64 0, .int .i64 0, .string (⟨#[]⟩ : ByteArray), .string (⟨#[]⟩ : ByteArray)] 64 (0, 0))) ∧ (b 10 = true → w.heap.size ≤ gb177) ∧ (b 10 = true → w.heap.size ≤ gb177) ∧ (b 10 = true → gb101 ≠ gb177) ∧ (b 10 = true → gb177 ≠ gb101) ∧ (b 10 = true → gb102 ≠ gb177) ∧ (b 10 = true → gb177 ≠ gb102) ∧ (b 10 = true → gb140 ≠ gb177) ∧ (b 10 = true → gb177 ≠ gb140) ∧ (b 10 = true → gb141 ≠ gb177) ∧ (b 10 = true → gb177 ≠ gb141) ∧ (b 11 = true → b 13 = false → w'.heap[gb178]? = some (.cells #[.int .i64 0, .int .i64 0, .int .i64 0, .int .i64 0, .int .i64 0, .int .i64 0, .string (⟨#[]⟩ : ByteArray)] 66 (0, 0))) ∧ (b 11 = true → w.heap.size ≤ gb178) ∧ (b 11 = true → w.heap.size ≤ gb178) ∧ (b 11 = true → gb101 ≠ gb178) ∧ (b 11 = true → gb178 ≠ gb101) ∧ (b 11 = true → gb102 ≠ gb178) ∧ (b 11 = true → gb178 ≠ gb102) ∧ (b 11 = true → gb140 ≠ gb178) ∧ (b 11 = true → gb178 ≠ gb140) ∧ (b 11 = true → gb141 ≠ gb178) ∧ (b 11 = true → gb178 ≠ gb141) ∧ (b 12 = true → w'.heap[gb177]? = some (.cells #[.int .i64 t159, .int .i64 t160, .int .i64 t161, .int .i64 t162, .string t163, .string t164, .int .i64 t165, .int .i64 t166, .string t167, .string t168] 64 (0, 0))) ∧ (b 13 = true → w'.heap[gb178]? = some (.cells #[.int .i64 t169, .int .i64 t170, .int .i64 t171, .int .i64 t172, .int .i64 t173, .int .i64 t174, .string t175] 66 (0, 0))) ∧ (b 10 = true → (m10_ : Value) = .pointer (some ⟨gb177, 0, none⟩)) ∧ (b 11 = true → (m11_ : Value) = .pointer (some ⟨gb178, 0, none⟩))) HT_.out HW_.out (by kernel_rfl) (by kernel_rfl) ?_ ?_ ?_
            · exact ⟨0, 0, .bool false, .bool false, by simp only [putSel, Bool.false_eq_true, if_false], BK101.out, BK102.out, BK140.out, BK141.out, HB.out, fun h_ => absurd h_ (by decide), fun h_ => absurd h_ (by decide), fun h_ => absurd h_ (by decide), fun h_ => absurd h_ (by decide), fun h_ => absurd h_ (by decide), fun h_ => absurd h_ (by decide), fun h_ => absurd h_ (by decide), fun h_ => absurd h_ (by decide), fun h_ => absurd h_ (by decide), fun h_ => absurd h_ (by decide), fun h_ => absurd h_ (by decide), fun h_ => absurd h_ (by decide), fun h_ => absurd h_ (by decide), fun h_ => absurd h_ (by decide), fun h_ => absurd h_ (by decide), fun h_ => absurd h_ (by decide), fun h_ => absurd h_ (by decide), fun h_ => absurd h_ (by decide), fun h_ => absurd h_ (by decide), fun h_ => absurd h_ (by decide), fun h_ => absurd h_ (by decide), fun h_ => absurd h_ (by decide), fun h_ => absurd h_ (by decide), fun h_ => absurd h_ (by decide), fun h_ => absurd h_ (by decide), fun h_ => absurd h_ (by decide), fun h_ => absurd h_ (by decide), fun h_ => absurd h_ (by decide)⟩
            · skip
              clear BK101 BK102 BK140 BK141 HB
              refine steps_cons ?_ ?_
              · rintro b a w' ⟨gb177, gb178, m10_, m11_, ha, Q_BK101, Q_BK102, Q_BK140, Q_BK141, Q_HB, Q_NB178_177, Q_NB177_178, Q_BK177, Q_GW177, Q_GE177, Q_NB101_177, Q_NB177_101, Q_NB102_177, Q_NB177_102, Q_NB140_177, Q_NB177_140, Q_NB141_177, Q_NB177_141, Q_BK178, Q_GW178, Q_GE178, Q_NB101_178, Q_NB178_101, Q_NB102_178, Q_NB178_102, Q_NB140_178, Q_NB178_140, Q_NB141_178, Q_NB178_141, Q_BK177_e12, Q_BK178_e13, Q_X10_, Q_X11_⟩ hb_ hon hoff
                refine ⟨_, rfl, fun K hK => ?_⟩
                have e3 : a.tmps[3]? = some (.pointer (some ⟨gb101, 0, none⟩)) := by rw [ha]; exact (putSel_off rfl).trans rfl
                replace ha := Aside0.mk ha
                have BK101 := Aside0.mk Q_BK101
                have BK102 := Aside0.mk Q_BK102
                have BK140 := Aside0.mk Q_BK140
                have BK141 := Aside0.mk Q_BK141
                have HB := Aside0.mk Q_HB
                have hc0_ : w'.cell? ⟨gb101, 0, none⟩ = some (.int .i64 a0_0) := (blk_cell BK101.out 0).trans rfl
                have hc1_ : w'.cell? ⟨gb101, 1, none⟩ = some (.int .i64 a0_1) := (blk_cell BK101.out 1).trans rfl
                have hc2_ : w'.cell? ⟨gb101, 2, none⟩ = some (.int .i64 a0_2) := (blk_cell BK101.out 2).trans rfl
                have hc3_ : w'.cell? ⟨gb101, 3, none⟩ = some (.int .i64 a0_3) := (blk_cell BK101.out 3).trans rfl
                have hc4_ : w'.cell? ⟨gb101, 4, none⟩ = some (.string a0_4) := (blk_cell BK101.out 4).trans rfl
                have hc5_ : w'.cell? ⟨gb101, 5, none⟩ = some (.string a0_5) := (blk_cell BK101.out 5).trans rfl
                have hc6_ : w'.cell? ⟨gb101, 6, none⟩ = some (.int .i64 a0_6) := (blk_cell BK101.out 6).trans rfl
                have hc7_ : w'.cell? ⟨gb101, 7, none⟩ = some (.int .i64 a0_7) := (blk_cell BK101.out 7).trans rfl
                have hc8_ : w'.cell? ⟨gb101, 8, none⟩ = some (.string a0_8) := (blk_cell BK101.out 8).trans rfl
                have hc9_ : w'.cell? ⟨gb101, 9, none⟩ = some (.string a0_9) := (blk_cell BK101.out 9).trans rfl
                refine value_ (w1 := w') (v := .agg #[.int .i64 a0_0, .int .i64 a0_1, .int .i64 a0_2, .int .i64 a0_3, .string a0_4, .string a0_5, .int .i64 a0_6, .int .i64 a0_7, .string a0_8, .string a0_9]) (by rfl) rfl ?_ ?_
                · go_simp
                  (try simp only [i64_w])
                  try rfl
                refine hK.out _ _ ⟨gb177, gb178, m10_, m11_, (by rw [ha.out]; exact putSel_upk 0 hb_ rfl rfl rfl), Q_BK101, Q_BK102, Q_BK140, Q_BK141, Q_HB, Q_NB178_177, Q_NB177_178, Q_BK177, Q_GW177, Q_GE177, Q_NB101_177, Q_NB177_101, Q_NB102_177, Q_NB177_102, Q_NB140_177, Q_NB177_140, Q_NB141_177, Q_NB177_141, Q_BK178, Q_GW178, Q_GE178, Q_NB101_178, Q_NB178_101, Q_NB102_178, Q_NB178_102, Q_NB140_178, Q_NB178_140, Q_NB141_178, Q_NB178_141, fun h0_ => absurd ((hoff 12 (by kernel_rfl)).symm.trans h0_) (by decide), fun h0_ => absurd ((hoff 13 (by kernel_rfl)).symm.trans h0_) (by decide), Q_X10_, Q_X11_⟩
              refine steps_cons ?_ ?_
              · rintro b a w' ⟨gb177, gb178, m10_, m11_, ha, Q_BK101, Q_BK102, Q_BK140, Q_BK141, Q_HB, Q_NB178_177, Q_NB177_178, Q_BK177, Q_GW177, Q_GE177, Q_NB101_177, Q_NB177_101, Q_NB102_177, Q_NB177_102, Q_NB140_177, Q_NB177_140, Q_NB141_177, Q_NB177_141, Q_BK178, Q_GW178, Q_GE178, Q_NB101_178, Q_NB178_101, Q_NB102_178, Q_NB178_102, Q_NB140_178, Q_NB178_140, Q_NB141_178, Q_NB178_141, Q_BK177_e12, Q_BK178_e13, Q_X10_, Q_X11_⟩ hb_ hon hoff
                refine ⟨_, rfl, fun K hK => ?_⟩
                have e35 : a.tmps[35]? = some (.agg #[.int .i64 a0_0, .int .i64 a0_1, .int .i64 a0_2, .int .i64 a0_3, .string a0_4, .string a0_5, .int .i64 a0_6, .int .i64 a0_7, .string a0_8, .string a0_9]) := by rw [ha]; exact putSel_on (e := (0, 35, .agg #[.int .i64 a0_0, .int .i64 a0_1, .int .i64 a0_2, .int .i64 a0_3, .string a0_4, .string a0_5, .int .i64 a0_6, .int .i64 a0_7, .string a0_8, .string a0_9])) 0 rfl rfl (hon 0 (by kernel_rfl)) rfl
                replace ha := Aside0.mk ha
                have BK101 := Aside0.mk Q_BK101
                have BK102 := Aside0.mk Q_BK102
                have BK140 := Aside0.mk Q_BK140
                have BK141 := Aside0.mk Q_BK141
                have HB := Aside0.mk Q_HB
                refine goes_ Tryz.func43 (by kernel_rfl) rfl #[.agg #[.int .i64 a0_0, .int .i64 a0_1, .int .i64 a0_2, .int .i64 a0_3, .string a0_4, .string a0_5, .int .i64 a0_6, .int .i64 a0_7, .string a0_8, .string a0_9]] (by rfl) rfl rfl (by first | (simp only [List.map_toArray, List.map_cons, List.map_nil, Act.eval, Array.getD_eq_getD_getElem?, Option.getD_some, e35]; done) | (simp only [List.map_toArray, List.map_cons, List.map_nil, Act.eval, Array.getD_eq_getD_getElem?, Option.getD_some, e35]; rfl)) ?_
                with_reducible refine (laws_toConv.calls a0_0 a0_1 a0_2 a0_3 a0_4 a0_5 a0_6 a0_7 a0_8 a0_9 t142 t143 t144 t145 t146 t147 t148 t149 t150 t151 _ A23.out).mono ?_
                rintro e w63 ⟨rfl, hb⟩
                refine ⟨_, rfl, ?_⟩
                have n0_ := Aside0.mk (blk_below (g := gb101) (o := .cells #[.int .i64 a0_0, .int .i64 a0_1, .int .i64 a0_2, .int .i64 a0_3, .string a0_4, .string a0_5, .int .i64 a0_6, .int .i64 a0_7, .string a0_8, .string a0_9] 57 (0, 0)) (by (with_reducible repeat (first | refine blk_drewN ?_ _ | refine blk_drew ?_ | refine blk_alloc ?_ _)); exact BK101.out) hb)
                have n1_ := Aside0.mk (blk_below (g := gb102) (o := .cells #[.int .i64 a2_0, .int .i64 a2_1, .int .i64 a2_2, .int .i64 a2_3, .int .i64 a2_4, .int .i64 a2_5, .string a2_6] 59 (0, 0)) (by (with_reducible repeat (first | refine blk_drewN ?_ _ | refine blk_drew ?_ | refine blk_alloc ?_ _)); exact BK102.out) hb)
                have n2_ := Aside0.mk (blk_below (g := gb140) (o := .cells #[.int .i64 t122, .int .i64 t123, .int .i64 t124, .int .i64 t125, .string t126, .string t127, .int .i64 t128, .int .i64 t129, .string t130, .string t131] 64 (0, 0)) (by (with_reducible repeat (first | refine blk_drewN ?_ _ | refine blk_drew ?_ | refine blk_alloc ?_ _)); exact BK140.out) hb)
                have n3_ := Aside0.mk (blk_below (g := gb141) (o := .cells #[.int .i64 t132, .int .i64 t133, .int .i64 t134, .int .i64 t135, .int .i64 t136, .int .i64 t137, .string t138] 66 (0, 0)) (by (with_reducible repeat (first | refine blk_drewN ?_ _ | refine blk_drew ?_ | refine blk_alloc ?_ _)); exact BK141.out) hb)
                have n4_ := Aside0.mk (below_step (by repeat (first | (with_reducible first | exact HB.out | apply below_alloc | apply pw_below_drewN | apply below_drew1 | refine below_set ?_ GE101.out | refine below_set ?_ GE102.out | refine below_set ?_ GE140.out | refine below_set ?_ GE141.out) | exact HB.out)) hb)
                have z_BK177 := fun (h0_ : b 10 = true) (h1_ : b 12 = false) => (show w63.heap[gb177]? = some (.cells #[.int .i64 0, .int .i64 0, .int .i64 0, .int .i64 0, .string (⟨#[]⟩ : ByteArray), .string (⟨#[]⟩ : ByteArray), .int .i64 0, .int .i64 0, .string (⟨#[]⟩ : ByteArray), .string (⟨#[]⟩ : ByteArray)] 64 (0, 0)) from by first | exact (blk_below (g := gb177) (o := .cells #[.int .i64 0, .int .i64 0, .int .i64 0, .int .i64 0, .string (⟨#[]⟩ : ByteArray), .string (⟨#[]⟩ : ByteArray), .int .i64 0, .int .i64 0, .string (⟨#[]⟩ : ByteArray), .string (⟨#[]⟩ : ByteArray)] 64 (0, 0)) (by (with_reducible repeat (first | refine blk_drewN ?_ _ | refine blk_drew ?_ | refine blk_alloc ?_ _)); exact (Q_BK177 h0_ h1_)) hb))
                have z_BK178 := fun (h0_ : b 11 = true) (h1_ : b 13 = false) => (show w63.heap[gb178]? = some (.cells #[.int .i64 0, .int .i64 0, .int .i64 0, .int .i64 0, .int .i64 0, .int .i64 0, .string (⟨#[]⟩ : ByteArray)] 66 (0, 0)) from by first | exact (blk_below (g := gb178) (o := .cells #[.int .i64 0, .int .i64 0, .int .i64 0, .int .i64 0, .int .i64 0, .int .i64 0, .string (⟨#[]⟩ : ByteArray)] 66 (0, 0)) (by (with_reducible repeat (first | refine blk_drewN ?_ _ | refine blk_drew ?_ | refine blk_alloc ?_ _)); exact (Q_BK178 h0_ h1_)) hb))
                clear BK101
                clear BK102
                clear BK140
                clear BK141
                clear HB
                have BK101 := n0_
                have BK102 := n1_
                have BK140 := n2_
                have BK141 := n3_
                have HB := n4_
                clear n0_ n1_ n2_ n3_ n4_
                (try clear hb)
                (try clear hb2)
                (try clear hk)
                (try clear hi)
                refine hK.out _ _ ⟨gb177, gb178, m10_, m11_, (by rw [ha.out]; exact putSel_upk 1 hb_ rfl rfl rfl), (by (with_reducible repeat (first | refine blk_drewN ?_ _ | refine blk_drew ?_ | refine blk_alloc ?_ _)); exact BK101.out), (by (with_reducible repeat (first | refine blk_drewN ?_ _ | refine blk_drew ?_ | refine blk_alloc ?_ _)); exact BK102.out), (by (with_reducible repeat (first | refine blk_drewN ?_ _ | refine blk_drew ?_ | refine blk_alloc ?_ _)); exact BK140.out), (by (with_reducible repeat (first | refine blk_drewN ?_ _ | refine blk_drew ?_ | refine blk_alloc ?_ _)); exact BK141.out), (by repeat (first | (with_reducible first | exact HB.out | apply below_alloc | apply pw_below_drewN | apply below_drew1 | refine below_set ?_ GE101.out | refine below_set ?_ GE102.out | refine below_set ?_ GE140.out | refine below_set ?_ GE141.out) | exact HB.out)), Q_NB178_177, Q_NB177_178, z_BK177, Q_GW177, Q_GE177, Q_NB101_177, Q_NB177_101, Q_NB102_177, Q_NB177_102, Q_NB140_177, Q_NB177_140, Q_NB141_177, Q_NB177_141, z_BK178, Q_GW178, Q_GE178, Q_NB101_178, Q_NB178_101, Q_NB102_178, Q_NB178_102, Q_NB140_178, Q_NB178_140, Q_NB141_178, Q_NB178_141, fun h0_ => absurd ((hoff 12 (by kernel_rfl)).symm.trans h0_) (by decide), fun h0_ => absurd ((hoff 13 (by kernel_rfl)).symm.trans h0_) (by decide), Q_X10_, Q_X11_⟩
              refine steps_cons ?_ ?_
              · rintro b a w' ⟨gb177, gb178, m10_, m11_, ha, Q_BK101, Q_BK102, Q_BK140, Q_BK141, Q_HB, Q_NB178_177, Q_NB177_178, Q_BK177, Q_GW177, Q_GE177, Q_NB101_177, Q_NB177_101, Q_NB102_177, Q_NB177_102, Q_NB140_177, Q_NB177_140, Q_NB141_177, Q_NB177_141, Q_BK178, Q_GW178, Q_GE178, Q_NB101_178, Q_NB178_101, Q_NB102_178, Q_NB178_102, Q_NB140_178, Q_NB178_140, Q_NB141_178, Q_NB178_141, Q_BK177_e12, Q_BK178_e13, Q_X10_, Q_X11_⟩ hb_ hon hoff
                refine ⟨_, rfl, fun K hK => ?_⟩
                have e5 : a.tmps[5]? = some (.pointer (some ⟨gb102, 0, none⟩)) := by rw [ha]; exact (putSel_off rfl).trans rfl
                replace ha := Aside0.mk ha
                have BK101 := Aside0.mk Q_BK101
                have BK102 := Aside0.mk Q_BK102
                have BK140 := Aside0.mk Q_BK140
                have BK141 := Aside0.mk Q_BK141
                have HB := Aside0.mk Q_HB
                have hc0_ : w'.cell? ⟨gb102, 0, none⟩ = some (.int .i64 a2_0) := (blk_cell BK102.out 0).trans rfl
                have hc1_ : w'.cell? ⟨gb102, 1, none⟩ = some (.int .i64 a2_1) := (blk_cell BK102.out 1).trans rfl
                have hc2_ : w'.cell? ⟨gb102, 2, none⟩ = some (.int .i64 a2_2) := (blk_cell BK102.out 2).trans rfl
                have hc3_ : w'.cell? ⟨gb102, 3, none⟩ = some (.int .i64 a2_3) := (blk_cell BK102.out 3).trans rfl
                have hc4_ : w'.cell? ⟨gb102, 4, none⟩ = some (.int .i64 a2_4) := (blk_cell BK102.out 4).trans rfl
                have hc5_ : w'.cell? ⟨gb102, 5, none⟩ = some (.int .i64 a2_5) := (blk_cell BK102.out 5).trans rfl
                have hc6_ : w'.cell? ⟨gb102, 6, none⟩ = some (.string a2_6) := (blk_cell BK102.out 6).trans rfl
                refine value_ (w1 := w') (v := .agg #[.int .i64 a2_0, .int .i64 a2_1, .int .i64 a2_2, .int .i64 a2_3, .int .i64 a2_4, .int .i64 a2_5, .string a2_6]) (by rfl) rfl ?_ ?_
                · go_simp
                  (try simp only [i64_w])
                  try rfl
                refine hK.out _ _ ⟨gb177, gb178, m10_, m11_, (by rw [ha.out]; exact putSel_upk 2 hb_ rfl rfl rfl), Q_BK101, Q_BK102, Q_BK140, Q_BK141, Q_HB, Q_NB178_177, Q_NB177_178, Q_BK177, Q_GW177, Q_GE177, Q_NB101_177, Q_NB177_101, Q_NB102_177, Q_NB177_102, Q_NB140_177, Q_NB177_140, Q_NB141_177, Q_NB177_141, Q_BK178, Q_GW178, Q_GE178, Q_NB101_178, Q_NB178_101, Q_NB102_178, Q_NB178_102, Q_NB140_178, Q_NB178_140, Q_NB141_178, Q_NB178_141, fun h0_ => absurd ((hoff 12 (by kernel_rfl)).symm.trans h0_) (by decide), fun h0_ => absurd ((hoff 13 (by kernel_rfl)).symm.trans h0_) (by decide), Q_X10_, Q_X11_⟩
              refine steps_cons ?_ ?_
              · rintro b a w' ⟨gb177, gb178, m10_, m11_, ha, Q_BK101, Q_BK102, Q_BK140, Q_BK141, Q_HB, Q_NB178_177, Q_NB177_178, Q_BK177, Q_GW177, Q_GE177, Q_NB101_177, Q_NB177_101, Q_NB102_177, Q_NB177_102, Q_NB140_177, Q_NB177_140, Q_NB141_177, Q_NB177_141, Q_BK178, Q_GW178, Q_GE178, Q_NB101_178, Q_NB178_101, Q_NB102_178, Q_NB178_102, Q_NB140_178, Q_NB178_140, Q_NB141_178, Q_NB178_141, Q_BK177_e12, Q_BK178_e13, Q_X10_, Q_X11_⟩ hb_ hon hoff
                refine ⟨_, rfl, fun K hK => ?_⟩
                have e38 : a.tmps[38]? = some (.agg #[.int .i64 a2_0, .int .i64 a2_1, .int .i64 a2_2, .int .i64 a2_3, .int .i64 a2_4, .int .i64 a2_5, .string a2_6]) := by rw [ha]; exact putSel_on (e := (3, 38, .agg #[.int .i64 a2_0, .int .i64 a2_1, .int .i64 a2_2, .int .i64 a2_3, .int .i64 a2_4, .int .i64 a2_5, .string a2_6])) 2 rfl rfl (hon 3 (by kernel_rfl)) rfl
                replace ha := Aside0.mk ha
                have BK101 := Aside0.mk Q_BK101
                have BK102 := Aside0.mk Q_BK102
                have BK140 := Aside0.mk Q_BK140
                have BK141 := Aside0.mk Q_BK141
                have HB := Aside0.mk Q_HB
                refine goes_ Tryz.func44 (by kernel_rfl) rfl #[.agg #[.int .i64 a2_0, .int .i64 a2_1, .int .i64 a2_2, .int .i64 a2_3, .int .i64 a2_4, .int .i64 a2_5, .string a2_6]] (by rfl) rfl rfl (by first | (simp only [List.map_toArray, List.map_cons, List.map_nil, Act.eval, Array.getD_eq_getD_getElem?, Option.getD_some, e38]; done) | (simp only [List.map_toArray, List.map_cons, List.map_nil, Act.eval, Array.getD_eq_getD_getElem?, Option.getD_some, e38]; rfl)) ?_
                with_reducible refine (laws_toPkt.calls a2_0 a2_1 a2_2 a2_3 a2_4 a2_5 a2_6 t152 t153 t154 t155 t156 t157 t158 _ A24.out).mono ?_
                rintro e w65 ⟨rfl, hb⟩
                refine ⟨_, rfl, ?_⟩
                have n0_ := Aside0.mk (blk_below (g := gb101) (o := .cells #[.int .i64 a0_0, .int .i64 a0_1, .int .i64 a0_2, .int .i64 a0_3, .string a0_4, .string a0_5, .int .i64 a0_6, .int .i64 a0_7, .string a0_8, .string a0_9] 57 (0, 0)) (by (with_reducible repeat (first | refine blk_drewN ?_ _ | refine blk_drew ?_ | refine blk_alloc ?_ _)); exact BK101.out) hb)
                have n1_ := Aside0.mk (blk_below (g := gb102) (o := .cells #[.int .i64 a2_0, .int .i64 a2_1, .int .i64 a2_2, .int .i64 a2_3, .int .i64 a2_4, .int .i64 a2_5, .string a2_6] 59 (0, 0)) (by (with_reducible repeat (first | refine blk_drewN ?_ _ | refine blk_drew ?_ | refine blk_alloc ?_ _)); exact BK102.out) hb)
                have n2_ := Aside0.mk (blk_below (g := gb140) (o := .cells #[.int .i64 t122, .int .i64 t123, .int .i64 t124, .int .i64 t125, .string t126, .string t127, .int .i64 t128, .int .i64 t129, .string t130, .string t131] 64 (0, 0)) (by (with_reducible repeat (first | refine blk_drewN ?_ _ | refine blk_drew ?_ | refine blk_alloc ?_ _)); exact BK140.out) hb)
                have n3_ := Aside0.mk (blk_below (g := gb141) (o := .cells #[.int .i64 t132, .int .i64 t133, .int .i64 t134, .int .i64 t135, .int .i64 t136, .int .i64 t137, .string t138] 66 (0, 0)) (by (with_reducible repeat (first | refine blk_drewN ?_ _ | refine blk_drew ?_ | refine blk_alloc ?_ _)); exact BK141.out) hb)
                have n4_ := Aside0.mk (below_step (by repeat (first | (with_reducible first | exact HB.out | apply below_alloc | apply pw_below_drewN | apply below_drew1 | refine below_set ?_ GE101.out | refine below_set ?_ GE102.out | refine below_set ?_ GE140.out | refine below_set ?_ GE141.out) | exact HB.out)) hb)
                have z_BK177 := fun (h0_ : b 10 = true) (h1_ : b 12 = false) => (show w65.heap[gb177]? = some (.cells #[.int .i64 0, .int .i64 0, .int .i64 0, .int .i64 0, .string (⟨#[]⟩ : ByteArray), .string (⟨#[]⟩ : ByteArray), .int .i64 0, .int .i64 0, .string (⟨#[]⟩ : ByteArray), .string (⟨#[]⟩ : ByteArray)] 64 (0, 0)) from by first | exact (blk_below (g := gb177) (o := .cells #[.int .i64 0, .int .i64 0, .int .i64 0, .int .i64 0, .string (⟨#[]⟩ : ByteArray), .string (⟨#[]⟩ : ByteArray), .int .i64 0, .int .i64 0, .string (⟨#[]⟩ : ByteArray), .string (⟨#[]⟩ : ByteArray)] 64 (0, 0)) (by (with_reducible repeat (first | refine blk_drewN ?_ _ | refine blk_drew ?_ | refine blk_alloc ?_ _)); exact (Q_BK177 h0_ h1_)) hb))
                have z_BK178 := fun (h0_ : b 11 = true) (h1_ : b 13 = false) => (show w65.heap[gb178]? = some (.cells #[.int .i64 0, .int .i64 0, .int .i64 0, .int .i64 0, .int .i64 0, .int .i64 0, .string (⟨#[]⟩ : ByteArray)] 66 (0, 0)) from by first | exact (blk_below (g := gb178) (o := .cells #[.int .i64 0, .int .i64 0, .int .i64 0, .int .i64 0, .int .i64 0, .int .i64 0, .string (⟨#[]⟩ : ByteArray)] 66 (0, 0)) (by (with_reducible repeat (first | refine blk_drewN ?_ _ | refine blk_drew ?_ | refine blk_alloc ?_ _)); exact (Q_BK178 h0_ h1_)) hb))
                clear BK101
                clear BK102
                clear BK140
                clear BK141
                clear HB
                have BK101 := n0_
                have BK102 := n1_
                have BK140 := n2_
                have BK141 := n3_
                have HB := n4_
                clear n0_ n1_ n2_ n3_ n4_
                (try clear hb)
                (try clear hb2)
                (try clear hk)
                (try clear hi)
                refine hK.out _ _ ⟨gb177, gb178, m10_, m11_, (by rw [ha.out]; exact putSel_upk 3 hb_ rfl rfl rfl), (by (with_reducible repeat (first | refine blk_drewN ?_ _ | refine blk_drew ?_ | refine blk_alloc ?_ _)); exact BK101.out), (by (with_reducible repeat (first | refine blk_drewN ?_ _ | refine blk_drew ?_ | refine blk_alloc ?_ _)); exact BK102.out), (by (with_reducible repeat (first | refine blk_drewN ?_ _ | refine blk_drew ?_ | refine blk_alloc ?_ _)); exact BK140.out), (by (with_reducible repeat (first | refine blk_drewN ?_ _ | refine blk_drew ?_ | refine blk_alloc ?_ _)); exact BK141.out), (by repeat (first | (with_reducible first | exact HB.out | apply below_alloc | apply pw_below_drewN | apply below_drew1 | refine below_set ?_ GE101.out | refine below_set ?_ GE102.out | refine below_set ?_ GE140.out | refine below_set ?_ GE141.out) | exact HB.out)), Q_NB178_177, Q_NB177_178, z_BK177, Q_GW177, Q_GE177, Q_NB101_177, Q_NB177_101, Q_NB102_177, Q_NB177_102, Q_NB140_177, Q_NB177_140, Q_NB141_177, Q_NB177_141, z_BK178, Q_GW178, Q_GE178, Q_NB101_178, Q_NB178_101, Q_NB102_178, Q_NB178_102, Q_NB140_178, Q_NB178_140, Q_NB141_178, Q_NB178_141, fun h0_ => absurd ((hoff 12 (by kernel_rfl)).symm.trans h0_) (by decide), fun h0_ => absurd ((hoff 13 (by kernel_rfl)).symm.trans h0_) (by decide), Q_X10_, Q_X11_⟩
              refine steps_cons ?_ ?_
              · rintro b a w' ⟨gb177, gb178, m10_, m11_, ha, Q_BK101, Q_BK102, Q_BK140, Q_BK141, Q_HB, Q_NB178_177, Q_NB177_178, Q_BK177, Q_GW177, Q_GE177, Q_NB101_177, Q_NB177_101, Q_NB102_177, Q_NB177_102, Q_NB140_177, Q_NB177_140, Q_NB141_177, Q_NB177_141, Q_BK178, Q_GW178, Q_GE178, Q_NB101_178, Q_NB178_101, Q_NB102_178, Q_NB178_102, Q_NB140_178, Q_NB178_140, Q_NB141_178, Q_NB178_141, Q_BK177_e12, Q_BK178_e13, Q_X10_, Q_X11_⟩ hb_ hon hoff
                refine ⟨_, rfl, fun K hK => ?_⟩
                have e36 : a.tmps[36]? = some (.agg #[.int .i64 t142, .int .i64 t143, .int .i64 t144, .int .i64 t145, .string t146, .string t147, .int .i64 t148, .int .i64 t149, .string t150, .string t151]) := by rw [ha]; exact putSel_on (e := (1, 36, .agg #[.int .i64 t142, .int .i64 t143, .int .i64 t144, .int .i64 t145, .string t146, .string t147, .int .i64 t148, .int .i64 t149, .string t150, .string t151])) 1 rfl rfl (hon 1 (by kernel_rfl)) rfl
                have e37 : a.tmps[37]? = some (.bool a1) := by rw [ha]; exact (putSel_off rfl).trans rfl
                have e39 : a.tmps[39]? = some (.agg #[.int .i64 t152, .int .i64 t153, .int .i64 t154, .int .i64 t155, .int .i64 t156, .int .i64 t157, .string t158]) := by rw [ha]; exact putSel_on (e := (4, 39, .agg #[.int .i64 t152, .int .i64 t153, .int .i64 t154, .int .i64 t155, .int .i64 t156, .int .i64 t157, .string t158])) 3 rfl rfl (hon 4 (by kernel_rfl)) rfl
                replace ha := Aside0.mk ha
                have BK101 := Aside0.mk Q_BK101
                have BK102 := Aside0.mk Q_BK102
                have BK140 := Aside0.mk Q_BK140
                have BK141 := Aside0.mk Q_BK141
                have HB := Aside0.mk Q_HB
                refine goes_ Tryz.func45 (by kernel_rfl) rfl #[.agg #[.int .i64 t142, .int .i64 t143, .int .i64 t144, .int .i64 t145, .string t146, .string t147, .int .i64 t148, .int .i64 t149, .string t150, .string t151], .bool a1, .agg #[.int .i64 t152, .int .i64 t153, .int .i64 t154, .int .i64 t155, .int .i64 t156, .int .i64 t157, .string t158]] (by rfl) rfl rfl (by first | (simp only [List.map_toArray, List.map_cons, List.map_nil, Act.eval, Array.getD_eq_getD_getElem?, Option.getD_some, e36, e37, e39]; done) | (simp only [List.map_toArray, List.map_cons, List.map_nil, Act.eval, Array.getD_eq_getD_getElem?, Option.getD_some, e36, e37, e39]; rfl)) ?_
                with_reducible refine (impl_ConvHear.calls t142 t143 t144 t145 t146 t147 t148 t149 t150 t151 a1 t152 t153 t154 t155 t156 t157 t158 t159 t160 t161 t162 t163 t164 t165 t166 t167 t168 t169 t170 t171 t172 t173 t174 t175 t176 _ ?side1 A25.out).mono ?_
                (case side1 => exact hV.next (by repeat (first | (with_reducible first | exact HB.out | apply below_alloc | apply pw_below_drewN | apply below_drew1 | refine below_set ?_ GE101.out | refine below_set ?_ GE102.out | refine below_set ?_ GE140.out | refine below_set ?_ GE141.out) | exact HB.out)))
                rintro e w66 ⟨rfl, hb⟩
                refine ⟨_, rfl, ?_⟩
                have n0_ := Aside0.mk (blk_below (g := gb101) (o := .cells #[.int .i64 a0_0, .int .i64 a0_1, .int .i64 a0_2, .int .i64 a0_3, .string a0_4, .string a0_5, .int .i64 a0_6, .int .i64 a0_7, .string a0_8, .string a0_9] 57 (0, 0)) (by (with_reducible repeat (first | refine blk_drewN ?_ _ | refine blk_drew ?_ | refine blk_alloc ?_ _)); exact BK101.out) hb)
                have n1_ := Aside0.mk (blk_below (g := gb102) (o := .cells #[.int .i64 a2_0, .int .i64 a2_1, .int .i64 a2_2, .int .i64 a2_3, .int .i64 a2_4, .int .i64 a2_5, .string a2_6] 59 (0, 0)) (by (with_reducible repeat (first | refine blk_drewN ?_ _ | refine blk_drew ?_ | refine blk_alloc ?_ _)); exact BK102.out) hb)
                have n2_ := Aside0.mk (blk_below (g := gb140) (o := .cells #[.int .i64 t122, .int .i64 t123, .int .i64 t124, .int .i64 t125, .string t126, .string t127, .int .i64 t128, .int .i64 t129, .string t130, .string t131] 64 (0, 0)) (by (with_reducible repeat (first | refine blk_drewN ?_ _ | refine blk_drew ?_ | refine blk_alloc ?_ _)); exact BK140.out) hb)
                have n3_ := Aside0.mk (blk_below (g := gb141) (o := .cells #[.int .i64 t132, .int .i64 t133, .int .i64 t134, .int .i64 t135, .int .i64 t136, .int .i64 t137, .string t138] 66 (0, 0)) (by (with_reducible repeat (first | refine blk_drewN ?_ _ | refine blk_drew ?_ | refine blk_alloc ?_ _)); exact BK141.out) hb)
                have n4_ := Aside0.mk (below_step (by repeat (first | (with_reducible first | exact HB.out | apply below_alloc | apply pw_below_drewN | apply below_drew1 | refine below_set ?_ GE101.out | refine below_set ?_ GE102.out | refine below_set ?_ GE140.out | refine below_set ?_ GE141.out) | exact HB.out)) hb)
                have z_BK177 := fun (h0_ : b 10 = true) (h1_ : b 12 = false) => (show w66.heap[gb177]? = some (.cells #[.int .i64 0, .int .i64 0, .int .i64 0, .int .i64 0, .string (⟨#[]⟩ : ByteArray), .string (⟨#[]⟩ : ByteArray), .int .i64 0, .int .i64 0, .string (⟨#[]⟩ : ByteArray), .string (⟨#[]⟩ : ByteArray)] 64 (0, 0)) from by first | exact (blk_below (g := gb177) (o := .cells #[.int .i64 0, .int .i64 0, .int .i64 0, .int .i64 0, .string (⟨#[]⟩ : ByteArray), .string (⟨#[]⟩ : ByteArray), .int .i64 0, .int .i64 0, .string (⟨#[]⟩ : ByteArray), .string (⟨#[]⟩ : ByteArray)] 64 (0, 0)) (by (with_reducible repeat (first | refine blk_drewN ?_ _ | refine blk_drew ?_ | refine blk_alloc ?_ _)); exact (Q_BK177 h0_ h1_)) hb))
                have z_BK178 := fun (h0_ : b 11 = true) (h1_ : b 13 = false) => (show w66.heap[gb178]? = some (.cells #[.int .i64 0, .int .i64 0, .int .i64 0, .int .i64 0, .int .i64 0, .int .i64 0, .string (⟨#[]⟩ : ByteArray)] 66 (0, 0)) from by first | exact (blk_below (g := gb178) (o := .cells #[.int .i64 0, .int .i64 0, .int .i64 0, .int .i64 0, .int .i64 0, .int .i64 0, .string (⟨#[]⟩ : ByteArray)] 66 (0, 0)) (by (with_reducible repeat (first | refine blk_drewN ?_ _ | refine blk_drew ?_ | refine blk_alloc ?_ _)); exact (Q_BK178 h0_ h1_)) hb))
                clear BK101
                clear BK102
                clear BK140
                clear BK141
                clear HB
                have BK101 := n0_
                have BK102 := n1_
                have BK140 := n2_
                have BK141 := n3_
                have HB := n4_
                clear n0_ n1_ n2_ n3_ n4_
                (try clear hb)
                (try clear hb2)
                (try clear hk)
                (try clear hi)
                refine hK.out _ _ ⟨gb177, gb178, m10_, m11_, (by rw [ha.out]; exact putSel_upk 4 hb_ rfl rfl rfl), (by (with_reducible repeat (first | refine blk_drewN ?_ _ | refine blk_drew ?_ | refine blk_alloc ?_ _)); exact BK101.out), (by (with_reducible repeat (first | refine blk_drewN ?_ _ | refine blk_drew ?_ | refine blk_alloc ?_ _)); exact BK102.out), (by (with_reducible repeat (first | refine blk_drewN ?_ _ | refine blk_drew ?_ | refine blk_alloc ?_ _)); exact BK140.out), (by (with_reducible repeat (first | refine blk_drewN ?_ _ | refine blk_drew ?_ | refine blk_alloc ?_ _)); exact BK141.out), (by repeat (first | (with_reducible first | exact HB.out | apply below_alloc | apply pw_below_drewN | apply below_drew1 | refine below_set ?_ GE101.out | refine below_set ?_ GE102.out | refine below_set ?_ GE140.out | refine below_set ?_ GE141.out) | exact HB.out)), Q_NB178_177, Q_NB177_178, z_BK177, Q_GW177, Q_GE177, Q_NB101_177, Q_NB177_101, Q_NB102_177, Q_NB177_102, Q_NB140_177, Q_NB177_140, Q_NB141_177, Q_NB177_141, z_BK178, Q_GW178, Q_GE178, Q_NB101_178, Q_NB178_101, Q_NB102_178, Q_NB178_102, Q_NB140_178, Q_NB178_140, Q_NB141_178, Q_NB178_141, fun h0_ => absurd ((hoff 12 (by kernel_rfl)).symm.trans h0_) (by decide), fun h0_ => absurd ((hoff 13 (by kernel_rfl)).symm.trans h0_) (by decide), Q_X10_, Q_X11_⟩
              refine steps_cons ?_ ?_
              · rintro b a w' ⟨gb177, gb178, m10_, m11_, ha, Q_BK101, Q_BK102, Q_BK140, Q_BK141, Q_HB, Q_NB178_177, Q_NB177_178, Q_BK177, Q_GW177, Q_GE177, Q_NB101_177, Q_NB177_101, Q_NB102_177, Q_NB177_102, Q_NB140_177, Q_NB177_140, Q_NB141_177, Q_NB177_141, Q_BK178, Q_GW178, Q_GE178, Q_NB101_178, Q_NB178_101, Q_NB102_178, Q_NB178_102, Q_NB140_178, Q_NB178_140, Q_NB141_178, Q_NB178_141, Q_BK177_e12, Q_BK178_e13, Q_X10_, Q_X11_⟩ hb_ hon hoff
                refine ⟨_, rfl, fun K hK => ?_⟩
                have e40 : a.tmps[40]? = some (.tuple #[.agg #[.int .i64 t159, .int .i64 t160, .int .i64 t161, .int .i64 t162, .string t163, .string t164, .int .i64 t165, .int .i64 t166, .string t167, .string t168], .agg #[.int .i64 t169, .int .i64 t170, .int .i64 t171, .int .i64 t172, .int .i64 t173, .int .i64 t174, .string t175], .bool t176]) := by rw [ha]; exact putSel_on (e := (5, 40, .tuple #[.agg #[.int .i64 t159, .int .i64 t160, .int .i64 t161, .int .i64 t162, .string t163, .string t164, .int .i64 t165, .int .i64 t166, .string t167, .string t168], .agg #[.int .i64 t169, .int .i64 t170, .int .i64 t171, .int .i64 t172, .int .i64 t173, .int .i64 t174, .string t175], .bool t176])) 4 rfl rfl (hon 5 (by kernel_rfl)) rfl
                replace ha := Aside0.mk ha
                have BK101 := Aside0.mk Q_BK101
                have BK102 := Aside0.mk Q_BK102
                have BK140 := Aside0.mk Q_BK140
                have BK141 := Aside0.mk Q_BK141
                have HB := Aside0.mk Q_HB
                refine value_ (w1 := w') (v := .tuple #[.agg #[.int .i64 t159, .int .i64 t160, .int .i64 t161, .int .i64 t162, .string t163, .string t164, .int .i64 t165, .int .i64 t166, .string t167, .string t168], .agg #[.int .i64 t169, .int .i64 t170, .int .i64 t171, .int .i64 t172, .int .i64 t173, .int .i64 t174, .string t175], .bool t176]) (by rfl) rfl ?_ ?_
                · go_simp
                  (try simp only [i64_w])
                  try rfl
                refine hK.out _ _ ⟨gb177, gb178, m10_, m11_, (by rw [ha.out]; exact putSel_upk 5 hb_ rfl rfl rfl), Q_BK101, Q_BK102, Q_BK140, Q_BK141, Q_HB, Q_NB178_177, Q_NB177_178, Q_BK177, Q_GW177, Q_GE177, Q_NB101_177, Q_NB177_101, Q_NB102_177, Q_NB177_102, Q_NB140_177, Q_NB177_140, Q_NB141_177, Q_NB177_141, Q_BK178, Q_GW178, Q_GE178, Q_NB101_178, Q_NB178_101, Q_NB102_178, Q_NB178_102, Q_NB140_178, Q_NB178_140, Q_NB141_178, Q_NB178_141, fun h0_ => absurd ((hoff 12 (by kernel_rfl)).symm.trans h0_) (by decide), fun h0_ => absurd ((hoff 13 (by kernel_rfl)).symm.trans h0_) (by decide), Q_X10_, Q_X11_⟩
              refine steps_cons ?_ ?_
              · rintro b a w' ⟨gb177, gb178, m10_, m11_, ha, Q_BK101, Q_BK102, Q_BK140, Q_BK141, Q_HB, Q_NB178_177, Q_NB177_178, Q_BK177, Q_GW177, Q_GE177, Q_NB101_177, Q_NB177_101, Q_NB102_177, Q_NB177_102, Q_NB140_177, Q_NB177_140, Q_NB141_177, Q_NB177_141, Q_BK178, Q_GW178, Q_GE178, Q_NB101_178, Q_NB178_101, Q_NB102_178, Q_NB178_102, Q_NB140_178, Q_NB178_140, Q_NB141_178, Q_NB178_141, Q_BK177_e12, Q_BK178_e13, Q_X10_, Q_X11_⟩ hb_ hon hoff
                refine ⟨_, rfl, fun K hK => ?_⟩
                have e34 : a.tmps[34]? = some (.tuple #[.agg #[.int .i64 t159, .int .i64 t160, .int .i64 t161, .int .i64 t162, .string t163, .string t164, .int .i64 t165, .int .i64 t166, .string t167, .string t168], .agg #[.int .i64 t169, .int .i64 t170, .int .i64 t171, .int .i64 t172, .int .i64 t173, .int .i64 t174, .string t175], .bool t176]) := by rw [ha]; exact putSel_on (e := (6, 34, .tuple #[.agg #[.int .i64 t159, .int .i64 t160, .int .i64 t161, .int .i64 t162, .string t163, .string t164, .int .i64 t165, .int .i64 t166, .string t167, .string t168], .agg #[.int .i64 t169, .int .i64 t170, .int .i64 t171, .int .i64 t172, .int .i64 t173, .int .i64 t174, .string t175], .bool t176])) 5 rfl rfl (hon 6 (by kernel_rfl)) rfl
                replace ha := Aside0.mk ha
                have BK101 := Aside0.mk Q_BK101
                have BK102 := Aside0.mk Q_BK102
                have BK140 := Aside0.mk Q_BK140
                have BK141 := Aside0.mk Q_BK141
                have HB := Aside0.mk Q_HB
                refine value_ (w1 := w') (v := .agg #[.int .i64 t159, .int .i64 t160, .int .i64 t161, .int .i64 t162, .string t163, .string t164, .int .i64 t165, .int .i64 t166, .string t167, .string t168]) (by rfl) rfl ?_ ?_
                · go_simp
                  (try simp only [i64_w])
                  try rfl
                refine hK.out _ _ ⟨gb177, gb178, m10_, m11_, (by rw [ha.out]; exact putSel_upk 6 hb_ rfl rfl rfl), Q_BK101, Q_BK102, Q_BK140, Q_BK141, Q_HB, Q_NB178_177, Q_NB177_178, Q_BK177, Q_GW177, Q_GE177, Q_NB101_177, Q_NB177_101, Q_NB102_177, Q_NB177_102, Q_NB140_177, Q_NB177_140, Q_NB141_177, Q_NB177_141, Q_BK178, Q_GW178, Q_GE178, Q_NB101_178, Q_NB178_101, Q_NB102_178, Q_NB178_102, Q_NB140_178, Q_NB178_140, Q_NB141_178, Q_NB178_141, fun h0_ => absurd ((hoff 12 (by kernel_rfl)).symm.trans h0_) (by decide), fun h0_ => absurd ((hoff 13 (by kernel_rfl)).symm.trans h0_) (by decide), Q_X10_, Q_X11_⟩
              refine steps_cons ?_ ?_
              · rintro b a w' ⟨gb177, gb178, m10_, m11_, ha, Q_BK101, Q_BK102, Q_BK140, Q_BK141, Q_HB, Q_NB178_177, Q_NB177_178, Q_BK177, Q_GW177, Q_GE177, Q_NB101_177, Q_NB177_101, Q_NB102_177, Q_NB177_102, Q_NB140_177, Q_NB177_140, Q_NB141_177, Q_NB177_141, Q_BK178, Q_GW178, Q_GE178, Q_NB101_178, Q_NB178_101, Q_NB102_178, Q_NB178_102, Q_NB140_178, Q_NB178_140, Q_NB141_178, Q_NB178_141, Q_BK177_e12, Q_BK178_e13, Q_X10_, Q_X11_⟩ hb_ hon hoff
                refine ⟨_, rfl, fun K hK => ?_⟩
                have e34 : a.tmps[34]? = some (.tuple #[.agg #[.int .i64 t159, .int .i64 t160, .int .i64 t161, .int .i64 t162, .string t163, .string t164, .int .i64 t165, .int .i64 t166, .string t167, .string t168], .agg #[.int .i64 t169, .int .i64 t170, .int .i64 t171, .int .i64 t172, .int .i64 t173, .int .i64 t174, .string t175], .bool t176]) := by rw [ha]; exact putSel_on (e := (6, 34, .tuple #[.agg #[.int .i64 t159, .int .i64 t160, .int .i64 t161, .int .i64 t162, .string t163, .string t164, .int .i64 t165, .int .i64 t166, .string t167, .string t168], .agg #[.int .i64 t169, .int .i64 t170, .int .i64 t171, .int .i64 t172, .int .i64 t173, .int .i64 t174, .string t175], .bool t176])) 5 rfl rfl (hon 6 (by kernel_rfl)) rfl
                replace ha := Aside0.mk ha
                have BK101 := Aside0.mk Q_BK101
                have BK102 := Aside0.mk Q_BK102
                have BK140 := Aside0.mk Q_BK140
                have BK141 := Aside0.mk Q_BK141
                have HB := Aside0.mk Q_HB
                refine value_ (w1 := w') (v := .agg #[.int .i64 t169, .int .i64 t170, .int .i64 t171, .int .i64 t172, .int .i64 t173, .int .i64 t174, .string t175]) (by rfl) rfl ?_ ?_
                · go_simp
                  (try simp only [i64_w])
                  try rfl
                refine hK.out _ _ ⟨gb177, gb178, m10_, m11_, (by rw [ha.out]; exact putSel_upk 7 hb_ rfl rfl rfl), Q_BK101, Q_BK102, Q_BK140, Q_BK141, Q_HB, Q_NB178_177, Q_NB177_178, Q_BK177, Q_GW177, Q_GE177, Q_NB101_177, Q_NB177_101, Q_NB102_177, Q_NB177_102, Q_NB140_177, Q_NB177_140, Q_NB141_177, Q_NB177_141, Q_BK178, Q_GW178, Q_GE178, Q_NB101_178, Q_NB178_101, Q_NB102_178, Q_NB178_102, Q_NB140_178, Q_NB178_140, Q_NB141_178, Q_NB178_141, Q_BK177_e12, fun h0_ => absurd ((hoff 13 (by kernel_rfl)).symm.trans h0_) (by decide), Q_X10_, Q_X11_⟩
              refine steps_cons ?_ ?_
              · rintro b a w' ⟨gb177, gb178, m10_, m11_, ha, Q_BK101, Q_BK102, Q_BK140, Q_BK141, Q_HB, Q_NB178_177, Q_NB177_178, Q_BK177, Q_GW177, Q_GE177, Q_NB101_177, Q_NB177_101, Q_NB102_177, Q_NB177_102, Q_NB140_177, Q_NB177_140, Q_NB141_177, Q_NB177_141, Q_BK178, Q_GW178, Q_GE178, Q_NB101_178, Q_NB178_101, Q_NB102_178, Q_NB178_102, Q_NB140_178, Q_NB178_140, Q_NB141_178, Q_NB178_141, Q_BK177_e12, Q_BK178_e13, Q_X10_, Q_X11_⟩ hb_ hon hoff
                refine ⟨_, rfl, fun K hK => ?_⟩
                have e34 : a.tmps[34]? = some (.tuple #[.agg #[.int .i64 t159, .int .i64 t160, .int .i64 t161, .int .i64 t162, .string t163, .string t164, .int .i64 t165, .int .i64 t166, .string t167, .string t168], .agg #[.int .i64 t169, .int .i64 t170, .int .i64 t171, .int .i64 t172, .int .i64 t173, .int .i64 t174, .string t175], .bool t176]) := by rw [ha]; exact putSel_on (e := (6, 34, .tuple #[.agg #[.int .i64 t159, .int .i64 t160, .int .i64 t161, .int .i64 t162, .string t163, .string t164, .int .i64 t165, .int .i64 t166, .string t167, .string t168], .agg #[.int .i64 t169, .int .i64 t170, .int .i64 t171, .int .i64 t172, .int .i64 t173, .int .i64 t174, .string t175], .bool t176])) 5 rfl rfl (hon 6 (by kernel_rfl)) rfl
                replace ha := Aside0.mk ha
                have BK101 := Aside0.mk Q_BK101
                have BK102 := Aside0.mk Q_BK102
                have BK140 := Aside0.mk Q_BK140
                have BK141 := Aside0.mk Q_BK141
                have HB := Aside0.mk Q_HB
                refine value_ (w1 := w') (v := .bool t176) (by rfl) rfl ?_ ?_
                · go_simp
                  (try simp only [i64_w])
                  try rfl
                refine hK.out _ _ ⟨gb177, gb178, m10_, m11_, (by rw [ha.out]; exact putSel_upk 8 hb_ rfl rfl rfl), Q_BK101, Q_BK102, Q_BK140, Q_BK141, Q_HB, Q_NB178_177, Q_NB177_178, Q_BK177, Q_GW177, Q_GE177, Q_NB101_177, Q_NB177_101, Q_NB102_177, Q_NB177_102, Q_NB140_177, Q_NB177_140, Q_NB141_177, Q_NB177_141, Q_BK178, Q_GW178, Q_GE178, Q_NB101_178, Q_NB178_101, Q_NB102_178, Q_NB178_102, Q_NB140_178, Q_NB178_140, Q_NB141_178, Q_NB178_141, Q_BK177_e12, Q_BK178_e13, Q_X10_, Q_X11_⟩
              refine steps_cons ?_ ?_
              · rintro b a w' ⟨gb177, gb178, m10_, m11_, ha, Q_BK101, Q_BK102, Q_BK140, Q_BK141, Q_HB, Q_NB178_177, Q_NB177_178, Q_BK177, Q_GW177, Q_GE177, Q_NB101_177, Q_NB177_101, Q_NB102_177, Q_NB177_102, Q_NB140_177, Q_NB177_140, Q_NB141_177, Q_NB177_141, Q_BK178, Q_GW178, Q_GE178, Q_NB101_178, Q_NB178_101, Q_NB102_178, Q_NB178_102, Q_NB140_178, Q_NB178_140, Q_NB141_178, Q_NB178_141, Q_BK177_e12, Q_BK178_e13, Q_X10_, Q_X11_⟩ hb_ hon hoff
                refine ⟨_, rfl, fun K hK => ?_⟩
                replace ha := Aside0.mk ha
                have BK101 := Aside0.mk Q_BK101
                have BK102 := Aside0.mk Q_BK102
                have BK140 := Aside0.mk Q_BK140
                have BK141 := Aside0.mk Q_BK141
                have HB := Aside0.mk Q_HB
                refine box_step ?hg (N := 11) ?hd (cs := #[.int .i64 0, .int .i64 0, .int .i64 0, .int .i64 0, .string (⟨#[]⟩ : ByteArray), .string (⟨#[]⟩ : ByteArray), .int .i64 0, .int .i64 0, .string (⟨#[]⟩ : ByteArray), .string (⟨#[]⟩ : ByteArray)]) (t := 64) ?hr ?_; (case hd => rfl); (case hg => rfl); (case hr => first | (go_simp; done) | (go_simp; rfl))
                intro gb177 hg w63 hbox hb
                have n0_ := Aside0.mk (blk_below (g := gb101) (o := .cells #[.int .i64 a0_0, .int .i64 a0_1, .int .i64 a0_2, .int .i64 a0_3, .string a0_4, .string a0_5, .int .i64 a0_6, .int .i64 a0_7, .string a0_8, .string a0_9] 57 (0, 0)) (by (with_reducible repeat (first | refine blk_drewN ?_ _ | refine blk_drew ?_ | refine blk_alloc ?_ _)); exact BK101.out) hb)
                have n1_ := Aside0.mk (blk_below (g := gb102) (o := .cells #[.int .i64 a2_0, .int .i64 a2_1, .int .i64 a2_2, .int .i64 a2_3, .int .i64 a2_4, .int .i64 a2_5, .string a2_6] 59 (0, 0)) (by (with_reducible repeat (first | refine blk_drewN ?_ _ | refine blk_drew ?_ | refine blk_alloc ?_ _)); exact BK102.out) hb)
                have n2_ := Aside0.mk (blk_below (g := gb140) (o := .cells #[.int .i64 t122, .int .i64 t123, .int .i64 t124, .int .i64 t125, .string t126, .string t127, .int .i64 t128, .int .i64 t129, .string t130, .string t131] 64 (0, 0)) (by (with_reducible repeat (first | refine blk_drewN ?_ _ | refine blk_drew ?_ | refine blk_alloc ?_ _)); exact BK140.out) hb)
                have n3_ := Aside0.mk (blk_below (g := gb141) (o := .cells #[.int .i64 t132, .int .i64 t133, .int .i64 t134, .int .i64 t135, .int .i64 t136, .int .i64 t137, .string t138] 66 (0, 0)) (by (with_reducible repeat (first | refine blk_drewN ?_ _ | refine blk_drew ?_ | refine blk_alloc ?_ _)); exact BK141.out) hb)
                have n4_ := Aside0.mk (below_step (by repeat (first | (with_reducible first | exact HB.out | apply below_alloc | apply pw_below_drewN | apply below_drew1 | refine below_set ?_ GE101.out | refine below_set ?_ GE102.out | refine below_set ?_ GE140.out | refine below_set ?_ GE141.out) | exact HB.out)) hb)
                have n5_ := Aside0.mk (hbox)
                have n6_ := Aside0.mk ((by rw [hg]; exact (below_size (by repeat (first | (with_reducible first | exact HB.out | apply below_alloc | apply pw_below_drewN | apply below_drew1 | refine below_set ?_ GE101.out | refine below_set ?_ GE102.out | refine below_set ?_ GE140.out | refine below_set ?_ GE141.out) | exact HB.out))) : w.heap.size ≤ gb177))
                have n7_ := Aside0.mk ((by rw [hg]; exact (below_size (by repeat (first | (with_reducible first | exact HB.out | apply below_alloc | apply pw_below_drewN | apply below_drew1 | refine below_set ?_ GE101.out | refine below_set ?_ GE102.out | refine below_set ?_ GE140.out | refine below_set ?_ GE141.out) | exact HB.out))) : w.heap.size ≤ gb177))
                have n8_ := Aside0.mk ((by rw [hg]; exact Nat.ne_of_lt (blk_lt (g := gb101) (o := .cells #[.int .i64 a0_0, .int .i64 a0_1, .int .i64 a0_2, .int .i64 a0_3, .string a0_4, .string a0_5, .int .i64 a0_6, .int .i64 a0_7, .string a0_8, .string a0_9] 57 (0, 0)) (by (with_reducible repeat (first | refine blk_drewN ?_ _ | refine blk_drew ?_ | refine blk_alloc ?_ _)); exact BK101.out)) : gb101 ≠ gb177))
                have n9_ := Aside0.mk ((by rw [hg]; exact Nat.ne_of_gt (blk_lt (g := gb101) (o := .cells #[.int .i64 a0_0, .int .i64 a0_1, .int .i64 a0_2, .int .i64 a0_3, .string a0_4, .string a0_5, .int .i64 a0_6, .int .i64 a0_7, .string a0_8, .string a0_9] 57 (0, 0)) (by (with_reducible repeat (first | refine blk_drewN ?_ _ | refine blk_drew ?_ | refine blk_alloc ?_ _)); exact BK101.out)) : gb177 ≠ gb101))
                have n10_ := Aside0.mk ((by rw [hg]; exact Nat.ne_of_lt (blk_lt (g := gb102) (o := .cells #[.int .i64 a2_0, .int .i64 a2_1, .int .i64 a2_2, .int .i64 a2_3, .int .i64 a2_4, .int .i64 a2_5, .string a2_6] 59 (0, 0)) (by (with_reducible repeat (first | refine blk_drewN ?_ _ | refine blk_drew ?_ | refine blk_alloc ?_ _)); exact BK102.out)) : gb102 ≠ gb177))
                have n11_ := Aside0.mk ((by rw [hg]; exact Nat.ne_of_gt (blk_lt (g := gb102) (o := .cells #[.int .i64 a2_0, .int .i64 a2_1, .int .i64 a2_2, .int .i64 a2_3, .int .i64 a2_4, .int .i64 a2_5, .string a2_6] 59 (0, 0)) (by (with_reducible repeat (first | refine blk_drewN ?_ _ | refine blk_drew ?_ | refine blk_alloc ?_ _)); exact BK102.out)) : gb177 ≠ gb102))
                have n12_ := Aside0.mk ((by rw [hg]; exact Nat.ne_of_lt (blk_lt (g := gb140) (o := .cells #[.int .i64 t122, .int .i64 t123, .int .i64 t124, .int .i64 t125, .string t126, .string t127, .int .i64 t128, .int .i64 t129, .string t130, .string t131] 64 (0, 0)) (by (with_reducible repeat (first | refine blk_drewN ?_ _ | refine blk_drew ?_ | refine blk_alloc ?_ _)); exact BK140.out)) : gb140 ≠ gb177))
                have n13_ := Aside0.mk ((by rw [hg]; exact Nat.ne_of_gt (blk_lt (g := gb140) (o := .cells #[.int .i64 t122, .int .i64 t123, .int .i64 t124, .int .i64 t125, .string t126, .string t127, .int .i64 t128, .int .i64 t129, .string t130, .string t131] 64 (0, 0)) (by (with_reducible repeat (first | refine blk_drewN ?_ _ | refine blk_drew ?_ | refine blk_alloc ?_ _)); exact BK140.out)) : gb177 ≠ gb140))
                have n14_ := Aside0.mk ((by rw [hg]; exact Nat.ne_of_lt (blk_lt (g := gb141) (o := .cells #[.int .i64 t132, .int .i64 t133, .int .i64 t134, .int .i64 t135, .int .i64 t136, .int .i64 t137, .string t138] 66 (0, 0)) (by (with_reducible repeat (first | refine blk_drewN ?_ _ | refine blk_drew ?_ | refine blk_alloc ?_ _)); exact BK141.out)) : gb141 ≠ gb177))
                have n15_ := Aside0.mk ((by rw [hg]; exact Nat.ne_of_gt (blk_lt (g := gb141) (o := .cells #[.int .i64 t132, .int .i64 t133, .int .i64 t134, .int .i64 t135, .int .i64 t136, .int .i64 t137, .string t138] 66 (0, 0)) (by (with_reducible repeat (first | refine blk_drewN ?_ _ | refine blk_drew ?_ | refine blk_alloc ?_ _)); exact BK141.out)) : gb177 ≠ gb141))
                have z_NB178_177 := fun (h0_ : up b 10 10 = true) (h1_ : up b 10 11 = true) => (show gb178 ≠ gb177 from ((by rw [hg]; exact Nat.ne_of_lt (blk_lt (g := gb178) (o := .cells #[.int .i64 0, .int .i64 0, .int .i64 0, .int .i64 0, .int .i64 0, .int .i64 0, .string (⟨#[]⟩ : ByteArray)] 66 (0, 0)) (by (with_reducible repeat (first | refine blk_drewN ?_ _ | refine blk_drew ?_ | refine blk_alloc ?_ _)); exact (Q_BK178 ((up_ne (by decide)).symm.trans h1_) (hoff 13 (by kernel_rfl))))) : gb178 ≠ gb177)))
                have z_NB177_178 := fun (h0_ : up b 10 10 = true) (h1_ : up b 10 11 = true) => (show gb177 ≠ gb178 from ((by rw [hg]; exact Nat.ne_of_gt (blk_lt (g := gb178) (o := .cells #[.int .i64 0, .int .i64 0, .int .i64 0, .int .i64 0, .int .i64 0, .int .i64 0, .string (⟨#[]⟩ : ByteArray)] 66 (0, 0)) (by (with_reducible repeat (first | refine blk_drewN ?_ _ | refine blk_drew ?_ | refine blk_alloc ?_ _)); exact (Q_BK178 ((up_ne (by decide)).symm.trans h1_) (hoff 13 (by kernel_rfl))))) : gb177 ≠ gb178)))
                have z_BK178 := fun (h0_ : b 11 = true) (h1_ : b 13 = false) => (show w63.heap[gb178]? = some (.cells #[.int .i64 0, .int .i64 0, .int .i64 0, .int .i64 0, .int .i64 0, .int .i64 0, .string (⟨#[]⟩ : ByteArray)] 66 (0, 0)) from by first | exact (blk_below (g := gb178) (o := .cells #[.int .i64 0, .int .i64 0, .int .i64 0, .int .i64 0, .int .i64 0, .int .i64 0, .string (⟨#[]⟩ : ByteArray)] 66 (0, 0)) (by (with_reducible repeat (first | refine blk_drewN ?_ _ | refine blk_drew ?_ | refine blk_alloc ?_ _)); exact (Q_BK178 h0_ h1_)) hb))
                clear BK101
                clear BK102
                clear BK140
                clear BK141
                clear HB
                have BK101 := n0_
                have BK102 := n1_
                have BK140 := n2_
                have BK141 := n3_
                have HB := n4_
                have BK177 := n5_
                have GW177 := n6_
                have GE177 := n7_
                have NB101_177 := n8_
                have NB177_101 := n9_
                have NB102_177 := n10_
                have NB177_102 := n11_
                have NB140_177 := n12_
                have NB177_140 := n13_
                have NB141_177 := n14_
                have NB177_141 := n15_
                clear n0_ n1_ n2_ n3_ n4_ n5_ n6_ n7_ n8_ n9_ n10_ n11_ n12_ n13_ n14_ n15_
                clear hb hbox hg
                refine hK.out _ _ ⟨gb177, gb178, (.pointer (some ⟨gb177, 0, none⟩)), m11_, (by rw [ha.out]; exact putSel_upk 9 hb_ rfl rfl rfl), (by (with_reducible repeat (first | refine blk_drewN ?_ _ | refine blk_drew ?_ | refine blk_alloc ?_ _)); exact BK101.out), (by (with_reducible repeat (first | refine blk_drewN ?_ _ | refine blk_drew ?_ | refine blk_alloc ?_ _)); exact BK102.out), (by (with_reducible repeat (first | refine blk_drewN ?_ _ | refine blk_drew ?_ | refine blk_alloc ?_ _)); exact BK140.out), (by (with_reducible repeat (first | refine blk_drewN ?_ _ | refine blk_drew ?_ | refine blk_alloc ?_ _)); exact BK141.out), (by repeat (first | (with_reducible first | exact HB.out | apply below_alloc | apply pw_below_drewN | apply below_drew1 | refine below_set ?_ GE101.out | refine below_set ?_ GE102.out | refine below_set ?_ GE140.out | refine below_set ?_ GE141.out | refine below_set ?_ GE177.out) | exact HB.out)), @z_NB178_177, @z_NB177_178, fun _ _ => (by (with_reducible repeat (first | refine blk_drewN ?_ _ | refine blk_drew ?_ | refine blk_alloc ?_ _)); exact BK177.out), fun _ => GW177.out, fun _ => GE177.out, fun _ => NB101_177.out, fun _ => NB177_101.out, fun _ => NB102_177.out, fun _ => NB177_102.out, fun _ => NB140_177.out, fun _ => NB177_140.out, fun _ => NB141_177.out, fun _ => NB177_141.out, z_BK178, Q_GW178, Q_GE178, Q_NB101_178, Q_NB178_101, Q_NB102_178, Q_NB178_102, Q_NB140_178, Q_NB178_140, Q_NB141_178, Q_NB178_141, fun h0_ => absurd ((hoff 12 (by kernel_rfl)).symm.trans h0_) (by decide), fun h0_ => absurd ((hoff 13 (by kernel_rfl)).symm.trans h0_) (by decide), fun _ => rfl, Q_X11_⟩
              refine steps_cons ?_ ?_
              · rintro b a w' ⟨gb177, gb178, m10_, m11_, ha, Q_BK101, Q_BK102, Q_BK140, Q_BK141, Q_HB, Q_NB178_177, Q_NB177_178, Q_BK177, Q_GW177, Q_GE177, Q_NB101_177, Q_NB177_101, Q_NB102_177, Q_NB177_102, Q_NB140_177, Q_NB177_140, Q_NB141_177, Q_NB177_141, Q_BK178, Q_GW178, Q_GE178, Q_NB101_178, Q_NB178_101, Q_NB102_178, Q_NB178_102, Q_NB140_178, Q_NB178_140, Q_NB141_178, Q_NB178_141, Q_BK177_e12, Q_BK178_e13, Q_X10_, Q_X11_⟩ hb_ hon hoff
                refine ⟨_, rfl, fun K hK => ?_⟩
                replace ha := Aside0.mk ha
                have BK101 := Aside0.mk Q_BK101
                have BK102 := Aside0.mk Q_BK102
                have BK140 := Aside0.mk Q_BK140
                have BK141 := Aside0.mk Q_BK141
                have HB := Aside0.mk Q_HB
                refine box_step ?hg (N := 12) ?hd (cs := #[.int .i64 0, .int .i64 0, .int .i64 0, .int .i64 0, .int .i64 0, .int .i64 0, .string (⟨#[]⟩ : ByteArray)]) (t := 66) ?hr ?_; (case hd => rfl); (case hg => rfl); (case hr => first | (go_simp; done) | (go_simp; rfl))
                intro gb178 hg w63 hbox hb
                have n0_ := Aside0.mk (blk_below (g := gb101) (o := .cells #[.int .i64 a0_0, .int .i64 a0_1, .int .i64 a0_2, .int .i64 a0_3, .string a0_4, .string a0_5, .int .i64 a0_6, .int .i64 a0_7, .string a0_8, .string a0_9] 57 (0, 0)) (by (with_reducible repeat (first | refine blk_drewN ?_ _ | refine blk_drew ?_ | refine blk_alloc ?_ _)); exact BK101.out) hb)
                have n1_ := Aside0.mk (blk_below (g := gb102) (o := .cells #[.int .i64 a2_0, .int .i64 a2_1, .int .i64 a2_2, .int .i64 a2_3, .int .i64 a2_4, .int .i64 a2_5, .string a2_6] 59 (0, 0)) (by (with_reducible repeat (first | refine blk_drewN ?_ _ | refine blk_drew ?_ | refine blk_alloc ?_ _)); exact BK102.out) hb)
                have n2_ := Aside0.mk (blk_below (g := gb140) (o := .cells #[.int .i64 t122, .int .i64 t123, .int .i64 t124, .int .i64 t125, .string t126, .string t127, .int .i64 t128, .int .i64 t129, .string t130, .string t131] 64 (0, 0)) (by (with_reducible repeat (first | refine blk_drewN ?_ _ | refine blk_drew ?_ | refine blk_alloc ?_ _)); exact BK140.out) hb)
                have n3_ := Aside0.mk (blk_below (g := gb141) (o := .cells #[.int .i64 t132, .int .i64 t133, .int .i64 t134, .int .i64 t135, .int .i64 t136, .int .i64 t137, .string t138] 66 (0, 0)) (by (with_reducible repeat (first | refine blk_drewN ?_ _ | refine blk_drew ?_ | refine blk_alloc ?_ _)); exact BK141.out) hb)
                have n4_ := Aside0.mk (below_step (by repeat (first | (with_reducible first | exact HB.out | apply below_alloc | apply pw_below_drewN | apply below_drew1 | refine below_set ?_ GE101.out | refine below_set ?_ GE102.out | refine below_set ?_ GE140.out | refine below_set ?_ GE141.out) | exact HB.out)) hb)
                have n5_ := Aside0.mk (hbox)
                have n6_ := Aside0.mk ((by rw [hg]; exact (below_size (by repeat (first | (with_reducible first | exact HB.out | apply below_alloc | apply pw_below_drewN | apply below_drew1 | refine below_set ?_ GE101.out | refine below_set ?_ GE102.out | refine below_set ?_ GE140.out | refine below_set ?_ GE141.out) | exact HB.out))) : w.heap.size ≤ gb178))
                have n7_ := Aside0.mk ((by rw [hg]; exact (below_size (by repeat (first | (with_reducible first | exact HB.out | apply below_alloc | apply pw_below_drewN | apply below_drew1 | refine below_set ?_ GE101.out | refine below_set ?_ GE102.out | refine below_set ?_ GE140.out | refine below_set ?_ GE141.out) | exact HB.out))) : w.heap.size ≤ gb178))
                have n8_ := Aside0.mk ((by rw [hg]; exact Nat.ne_of_lt (blk_lt (g := gb101) (o := .cells #[.int .i64 a0_0, .int .i64 a0_1, .int .i64 a0_2, .int .i64 a0_3, .string a0_4, .string a0_5, .int .i64 a0_6, .int .i64 a0_7, .string a0_8, .string a0_9] 57 (0, 0)) (by (with_reducible repeat (first | refine blk_drewN ?_ _ | refine blk_drew ?_ | refine blk_alloc ?_ _)); exact BK101.out)) : gb101 ≠ gb178))
                have n9_ := Aside0.mk ((by rw [hg]; exact Nat.ne_of_gt (blk_lt (g := gb101) (o := .cells #[.int .i64 a0_0, .int .i64 a0_1, .int .i64 a0_2, .int .i64 a0_3, .string a0_4, .string a0_5, .int .i64 a0_6, .int .i64 a0_7, .string a0_8, .string a0_9] 57 (0, 0)) (by (with_reducible repeat (first | refine blk_drewN ?_ _ | refine blk_drew ?_ | refine blk_alloc ?_ _)); exact BK101.out)) : gb178 ≠ gb101))
                have n10_ := Aside0.mk ((by rw [hg]; exact Nat.ne_of_lt (blk_lt (g := gb102) (o := .cells #[.int .i64 a2_0, .int .i64 a2_1, .int .i64 a2_2, .int .i64 a2_3, .int .i64 a2_4, .int .i64 a2_5, .string a2_6] 59 (0, 0)) (by (with_reducible repeat (first | refine blk_drewN ?_ _ | refine blk_drew ?_ | refine blk_alloc ?_ _)); exact BK102.out)) : gb102 ≠ gb178))
                have n11_ := Aside0.mk ((by rw [hg]; exact Nat.ne_of_gt (blk_lt (g := gb102) (o := .cells #[.int .i64 a2_0, .int .i64 a2_1, .int .i64 a2_2, .int .i64 a2_3, .int .i64 a2_4, .int .i64 a2_5, .string a2_6] 59 (0, 0)) (by (with_reducible repeat (first | refine blk_drewN ?_ _ | refine blk_drew ?_ | refine blk_alloc ?_ _)); exact BK102.out)) : gb178 ≠ gb102))
                have n12_ := Aside0.mk ((by rw [hg]; exact Nat.ne_of_lt (blk_lt (g := gb140) (o := .cells #[.int .i64 t122, .int .i64 t123, .int .i64 t124, .int .i64 t125, .string t126, .string t127, .int .i64 t128, .int .i64 t129, .string t130, .string t131] 64 (0, 0)) (by (with_reducible repeat (first | refine blk_drewN ?_ _ | refine blk_drew ?_ | refine blk_alloc ?_ _)); exact BK140.out)) : gb140 ≠ gb178))
                have n13_ := Aside0.mk ((by rw [hg]; exact Nat.ne_of_gt (blk_lt (g := gb140) (o := .cells #[.int .i64 t122, .int .i64 t123, .int .i64 t124, .int .i64 t125, .string t126, .string t127, .int .i64 t128, .int .i64 t129, .string t130, .string t131] 64 (0, 0)) (by (with_reducible repeat (first | refine blk_drewN ?_ _ | refine blk_drew ?_ | refine blk_alloc ?_ _)); exact BK140.out)) : gb178 ≠ gb140))
                have n14_ := Aside0.mk ((by rw [hg]; exact Nat.ne_of_lt (blk_lt (g := gb141) (o := .cells #[.int .i64 t132, .int .i64 t133, .int .i64 t134, .int .i64 t135, .int .i64 t136, .int .i64 t137, .string t138] 66 (0, 0)) (by (with_reducible repeat (first | refine blk_drewN ?_ _ | refine blk_drew ?_ | refine blk_alloc ?_ _)); exact BK141.out)) : gb141 ≠ gb178))
                have n15_ := Aside0.mk ((by rw [hg]; exact Nat.ne_of_gt (blk_lt (g := gb141) (o := .cells #[.int .i64 t132, .int .i64 t133, .int .i64 t134, .int .i64 t135, .int .i64 t136, .int .i64 t137, .string t138] 66 (0, 0)) (by (with_reducible repeat (first | refine blk_drewN ?_ _ | refine blk_drew ?_ | refine blk_alloc ?_ _)); exact BK141.out)) : gb178 ≠ gb141))
                have z_NB178_177 := fun (h0_ : up b 11 10 = true) (h1_ : up b 11 11 = true) => (show gb178 ≠ gb177 from ((by rw [hg]; exact Nat.ne_of_gt (blk_lt (g := gb177) (o := .cells #[.int .i64 0, .int .i64 0, .int .i64 0, .int .i64 0, .string (⟨#[]⟩ : ByteArray), .string (⟨#[]⟩ : ByteArray), .int .i64 0, .int .i64 0, .string (⟨#[]⟩ : ByteArray), .string (⟨#[]⟩ : ByteArray)] 64 (0, 0)) (by (with_reducible repeat (first | refine blk_drewN ?_ _ | refine blk_drew ?_ | refine blk_alloc ?_ _)); exact (Q_BK177 ((up_ne (by decide)).symm.trans h0_) (hoff 12 (by kernel_rfl))))) : gb178 ≠ gb177)))
                have z_NB177_178 := fun (h0_ : up b 11 10 = true) (h1_ : up b 11 11 = true) => (show gb177 ≠ gb178 from ((by rw [hg]; exact Nat.ne_of_lt (blk_lt (g := gb177) (o := .cells #[.int .i64 0, .int .i64 0, .int .i64 0, .int .i64 0, .string (⟨#[]⟩ : ByteArray), .string (⟨#[]⟩ : ByteArray), .int .i64 0, .int .i64 0, .string (⟨#[]⟩ : ByteArray), .string (⟨#[]⟩ : ByteArray)] 64 (0, 0)) (by (with_reducible repeat (first | refine blk_drewN ?_ _ | refine blk_drew ?_ | refine blk_alloc ?_ _)); exact (Q_BK177 ((up_ne (by decide)).symm.trans h0_) (hoff 12 (by kernel_rfl))))) : gb177 ≠ gb178)))
                have z_BK177 := fun (h0_ : b 10 = true) (h1_ : b 12 = false) => (show w63.heap[gb177]? = some (.cells #[.int .i64 0, .int .i64 0, .int .i64 0, .int .i64 0, .string (⟨#[]⟩ : ByteArray), .string (⟨#[]⟩ : ByteArray), .int .i64 0, .int .i64 0, .string (⟨#[]⟩ : ByteArray), .string (⟨#[]⟩ : ByteArray)] 64 (0, 0)) from by first | exact (blk_below (g := gb177) (o := .cells #[.int .i64 0, .int .i64 0, .int .i64 0, .int .i64 0, .string (⟨#[]⟩ : ByteArray), .string (⟨#[]⟩ : ByteArray), .int .i64 0, .int .i64 0, .string (⟨#[]⟩ : ByteArray), .string (⟨#[]⟩ : ByteArray)] 64 (0, 0)) (by (with_reducible repeat (first | refine blk_drewN ?_ _ | refine blk_drew ?_ | refine blk_alloc ?_ _)); exact (Q_BK177 h0_ h1_)) hb))
                clear BK101
                clear BK102
                clear BK140
                clear BK141
                clear HB
                have BK101 := n0_
                have BK102 := n1_
                have BK140 := n2_
                have BK141 := n3_
                have HB := n4_
                have BK178 := n5_
                have GW178 := n6_
                have GE178 := n7_
                have NB101_178 := n8_
                have NB178_101 := n9_
                have NB102_178 := n10_
                have NB178_102 := n11_
                have NB140_178 := n12_
                have NB178_140 := n13_
                have NB141_178 := n14_
                have NB178_141 := n15_
                clear n0_ n1_ n2_ n3_ n4_ n5_ n6_ n7_ n8_ n9_ n10_ n11_ n12_ n13_ n14_ n15_
                clear hb hbox hg
                refine hK.out _ _ ⟨gb177, gb178, m10_, (.pointer (some ⟨gb178, 0, none⟩)), (by rw [ha.out]; exact putSel_upk 10 hb_ rfl rfl rfl), (by (with_reducible repeat (first | refine blk_drewN ?_ _ | refine blk_drew ?_ | refine blk_alloc ?_ _)); exact BK101.out), (by (with_reducible repeat (first | refine blk_drewN ?_ _ | refine blk_drew ?_ | refine blk_alloc ?_ _)); exact BK102.out), (by (with_reducible repeat (first | refine blk_drewN ?_ _ | refine blk_drew ?_ | refine blk_alloc ?_ _)); exact BK140.out), (by (with_reducible repeat (first | refine blk_drewN ?_ _ | refine blk_drew ?_ | refine blk_alloc ?_ _)); exact BK141.out), (by repeat (first | (with_reducible first | exact HB.out | apply below_alloc | apply pw_below_drewN | apply below_drew1 | refine below_set ?_ GE101.out | refine below_set ?_ GE102.out | refine below_set ?_ GE140.out | refine below_set ?_ GE141.out | refine below_set ?_ GE178.out) | exact HB.out)), @z_NB178_177, @z_NB177_178, z_BK177, Q_GW177, Q_GE177, Q_NB101_177, Q_NB177_101, Q_NB102_177, Q_NB177_102, Q_NB140_177, Q_NB177_140, Q_NB141_177, Q_NB177_141, fun _ _ => (by (with_reducible repeat (first | refine blk_drewN ?_ _ | refine blk_drew ?_ | refine blk_alloc ?_ _)); exact BK178.out), fun _ => GW178.out, fun _ => GE178.out, fun _ => NB101_178.out, fun _ => NB178_101.out, fun _ => NB102_178.out, fun _ => NB178_102.out, fun _ => NB140_178.out, fun _ => NB178_140.out, fun _ => NB141_178.out, fun _ => NB178_141.out, fun h0_ => absurd ((hoff 12 (by kernel_rfl)).symm.trans h0_) (by decide), fun h0_ => absurd ((hoff 13 (by kernel_rfl)).symm.trans h0_) (by decide), Q_X10_, fun _ => rfl⟩
              refine steps_cons ?_ ?_
              · rintro b a w' ⟨gb177, gb178, m10_, m11_, ha, Q_BK101, Q_BK102, Q_BK140, Q_BK141, Q_HB, Q_NB178_177, Q_NB177_178, Q_BK177, Q_GW177, Q_GE177, Q_NB101_177, Q_NB177_101, Q_NB102_177, Q_NB177_102, Q_NB140_177, Q_NB177_140, Q_NB141_177, Q_NB177_141, Q_BK178, Q_GW178, Q_GE178, Q_NB101_178, Q_NB178_101, Q_NB102_178, Q_NB178_102, Q_NB140_178, Q_NB178_140, Q_NB141_178, Q_NB178_141, Q_BK177_e12, Q_BK178_e13, Q_X10_, Q_X11_⟩ hb_ hon hoff
                refine ⟨_, rfl, fun K hK => ?_⟩
                have e11 : a.tmps[11]? = some (m10_) := by rw [ha]; exact putSel_on (e := (10, 11, m10_)) 9 rfl rfl (hon 10 (by kernel_rfl)) rfl
                rw [Q_X10_ (hon 10 (by kernel_rfl))] at e11
                have e41 : a.tmps[41]? = some (.agg #[.int .i64 t159, .int .i64 t160, .int .i64 t161, .int .i64 t162, .string t163, .string t164, .int .i64 t165, .int .i64 t166, .string t167, .string t168]) := by rw [ha]; exact putSel_on (e := (7, 41, .agg #[.int .i64 t159, .int .i64 t160, .int .i64 t161, .int .i64 t162, .string t163, .string t164, .int .i64 t165, .int .i64 t166, .string t167, .string t168])) 6 rfl rfl (hon 7 (by kernel_rfl)) rfl
                replace ha := Aside0.mk ha
                have BK101 := Aside0.mk Q_BK101
                have BK102 := Aside0.mk Q_BK102
                have BK140 := Aside0.mk Q_BK140
                have BK141 := Aside0.mk Q_BK141
                have HB := Aside0.mk Q_HB
                have NB178_177 := Aside0.mk (Q_NB178_177 (hon 10 (by kernel_rfl)) (hon 11 (by kernel_rfl)))
                have NB177_178 := Aside0.mk (Q_NB177_178 (hon 10 (by kernel_rfl)) (hon 11 (by kernel_rfl)))
                have BK177 := Aside0.mk (Q_BK177 (hon 10 (by kernel_rfl)) hb_)
                have GW177 := Aside0.mk (Q_GW177 (hon 10 (by kernel_rfl)))
                have GE177 := Aside0.mk (Q_GE177 (hon 10 (by kernel_rfl)))
                have NB101_177 := Aside0.mk (Q_NB101_177 (hon 10 (by kernel_rfl)))
                have NB177_101 := Aside0.mk (Q_NB177_101 (hon 10 (by kernel_rfl)))
                have NB102_177 := Aside0.mk (Q_NB102_177 (hon 10 (by kernel_rfl)))
                have NB177_102 := Aside0.mk (Q_NB177_102 (hon 10 (by kernel_rfl)))
                have NB140_177 := Aside0.mk (Q_NB140_177 (hon 10 (by kernel_rfl)))
                have NB177_140 := Aside0.mk (Q_NB177_140 (hon 10 (by kernel_rfl)))
                have NB141_177 := Aside0.mk (Q_NB141_177 (hon 10 (by kernel_rfl)))
                have NB177_141 := Aside0.mk (Q_NB177_141 (hon 10 (by kernel_rfl)))
                have BK178 := Aside0.mk (Q_BK178 (hon 11 (by kernel_rfl)) (hoff 13 (by kernel_rfl)))
                have GW178 := Aside0.mk (Q_GW178 (hon 11 (by kernel_rfl)))
                have GE178 := Aside0.mk (Q_GE178 (hon 11 (by kernel_rfl)))
                have NB101_178 := Aside0.mk (Q_NB101_178 (hon 11 (by kernel_rfl)))
                have NB178_101 := Aside0.mk (Q_NB178_101 (hon 11 (by kernel_rfl)))
                have NB102_178 := Aside0.mk (Q_NB102_178 (hon 11 (by kernel_rfl)))
                have NB178_102 := Aside0.mk (Q_NB178_102 (hon 11 (by kernel_rfl)))
                have NB140_178 := Aside0.mk (Q_NB140_178 (hon 11 (by kernel_rfl)))
                have NB178_140 := Aside0.mk (Q_NB178_140 (hon 11 (by kernel_rfl)))
                have NB141_178 := Aside0.mk (Q_NB141_178 (hon 11 (by kernel_rfl)))
                have NB178_141 := Aside0.mk (Q_NB178_141 (hon 11 (by kernel_rfl)))
                have hs69 : w'.cell? ⟨gb177, 0, none⟩ = some (.int .i64 0) := (blk_cell BK177.out 0).trans rfl
                have hfs69 := blk_frozen BK177.out 0
                have hns69_0 := NB101_177.out
                have hns69_1 := NB102_177.out
                have hns69_2 := NB140_177.out
                have hns69_3 := NB141_177.out
                have hns69_5 := NB178_177.out
                have hms69_0 := NB177_101.out
                have hms69_1 := NB177_102.out
                have hms69_2 := NB177_140.out
                have hms69_3 := NB177_141.out
                have hms69_5 := NB177_178.out
                have hs70 : w'.cell? ⟨gb177, 1, none⟩ = some (.int .i64 0) := (blk_cell BK177.out 1).trans rfl
                have hfs70 := blk_frozen BK177.out 1
                have hns70_0 := NB101_177.out
                have hns70_1 := NB102_177.out
                have hns70_2 := NB140_177.out
                have hns70_3 := NB141_177.out
                have hns70_5 := NB178_177.out
                have hms70_0 := NB177_101.out
                have hms70_1 := NB177_102.out
                have hms70_2 := NB177_140.out
                have hms70_3 := NB177_141.out
                have hms70_5 := NB177_178.out
                have hs71 : w'.cell? ⟨gb177, 2, none⟩ = some (.int .i64 0) := (blk_cell BK177.out 2).trans rfl
                have hfs71 := blk_frozen BK177.out 2
                have hns71_0 := NB101_177.out
                have hns71_1 := NB102_177.out
                have hns71_2 := NB140_177.out
                have hns71_3 := NB141_177.out
                have hns71_5 := NB178_177.out
                have hms71_0 := NB177_101.out
                have hms71_1 := NB177_102.out
                have hms71_2 := NB177_140.out
                have hms71_3 := NB177_141.out
                have hms71_5 := NB177_178.out
                have hs72 : w'.cell? ⟨gb177, 3, none⟩ = some (.int .i64 0) := (blk_cell BK177.out 3).trans rfl
                have hfs72 := blk_frozen BK177.out 3
                have hns72_0 := NB101_177.out
                have hns72_1 := NB102_177.out
                have hns72_2 := NB140_177.out
                have hns72_3 := NB141_177.out
                have hns72_5 := NB178_177.out
                have hms72_0 := NB177_101.out
                have hms72_1 := NB177_102.out
                have hms72_2 := NB177_140.out
                have hms72_3 := NB177_141.out
                have hms72_5 := NB177_178.out
                have hs73 : w'.cell? ⟨gb177, 4, none⟩ = some (.string (⟨#[]⟩ : ByteArray)) := (blk_cell BK177.out 4).trans rfl
                have hfs73 := blk_frozen BK177.out 4
                have hns73_0 := NB101_177.out
                have hns73_1 := NB102_177.out
                have hns73_2 := NB140_177.out
                have hns73_3 := NB141_177.out
                have hns73_5 := NB178_177.out
                have hms73_0 := NB177_101.out
                have hms73_1 := NB177_102.out
                have hms73_2 := NB177_140.out
                have hms73_3 := NB177_141.out
                have hms73_5 := NB177_178.out
                have hs74 : w'.cell? ⟨gb177, 5, none⟩ = some (.string (⟨#[]⟩ : ByteArray)) := (blk_cell BK177.out 5).trans rfl
                have hfs74 := blk_frozen BK177.out 5
                have hns74_0 := NB101_177.out
                have hns74_1 := NB102_177.out
                have hns74_2 := NB140_177.out
                have hns74_3 := NB141_177.out
                have hns74_5 := NB178_177.out
                have hms74_0 := NB177_101.out
                have hms74_1 := NB177_102.out
                have hms74_2 := NB177_140.out
                have hms74_3 := NB177_141.out
                have hms74_5 := NB177_178.out
                have hs75 : w'.cell? ⟨gb177, 6, none⟩ = some (.int .i64 0) := (blk_cell BK177.out 6).trans rfl
                have hfs75 := blk_frozen BK177.out 6
                have hns75_0 := NB101_177.out
                have hns75_1 := NB102_177.out
                have hns75_2 := NB140_177.out
                have hns75_3 := NB141_177.out
                have hns75_5 := NB178_177.out
                have hms75_0 := NB177_101.out
                have hms75_1 := NB177_102.out
                have hms75_2 := NB177_140.out
                have hms75_3 := NB177_141.out
                have hms75_5 := NB177_178.out
                have hs76 : w'.cell? ⟨gb177, 7, none⟩ = some (.int .i64 0) := (blk_cell BK177.out 7).trans rfl
                have hfs76 := blk_frozen BK177.out 7
                have hns76_0 := NB101_177.out
                have hns76_1 := NB102_177.out
                have hns76_2 := NB140_177.out
                have hns76_3 := NB141_177.out
                have hns76_5 := NB178_177.out
                have hms76_0 := NB177_101.out
                have hms76_1 := NB177_102.out
                have hms76_2 := NB177_140.out
                have hms76_3 := NB177_141.out
                have hms76_5 := NB177_178.out
                have hs77 : w'.cell? ⟨gb177, 8, none⟩ = some (.string (⟨#[]⟩ : ByteArray)) := (blk_cell BK177.out 8).trans rfl
                have hfs77 := blk_frozen BK177.out 8
                have hns77_0 := NB101_177.out
                have hns77_1 := NB102_177.out
                have hns77_2 := NB140_177.out
                have hns77_3 := NB141_177.out
                have hns77_5 := NB178_177.out
                have hms77_0 := NB177_101.out
                have hms77_1 := NB177_102.out
                have hms77_2 := NB177_140.out
                have hms77_3 := NB177_141.out
                have hms77_5 := NB177_178.out
                have hs78 : w'.cell? ⟨gb177, 9, none⟩ = some (.string (⟨#[]⟩ : ByteArray)) := (blk_cell BK177.out 9).trans rfl
                have hfs78 := blk_frozen BK177.out 9
                have hns78_0 := NB101_177.out
                have hns78_1 := NB102_177.out
                have hns78_2 := NB140_177.out
                have hns78_3 := NB141_177.out
                have hns78_5 := NB178_177.out
                have hms78_0 := NB177_101.out
                have hms78_1 := NB177_102.out
                have hms78_2 := NB177_140.out
                have hms78_3 := NB177_141.out
                have hms78_5 := NB177_178.out
                refine skip_ (w1 := ?_) (by rfl) rfl ?_ ?_
                rotate_left
                · go_simp
                  rfl
                refine hK.out _ _ ⟨gb177, gb178, m10_, m11_, (by rw [ha.out]; exact putSel_none (v := undef) rfl), (by (with_reducible repeat (first | refine blk_drewN ?_ _ | refine blk_drew ?_ | refine blk_alloc ?_ _)); refine blk_far ?_ NB101_177.out _; (with_reducible repeat (first | refine blk_drewN ?_ _ | refine blk_drew ?_ | refine blk_alloc ?_ _)); refine blk_far ?_ NB101_177.out _; (with_reducible repeat (first | refine blk_drewN ?_ _ | refine blk_drew ?_ | refine blk_alloc ?_ _)); refine blk_far ?_ NB101_177.out _; (with_reducible repeat (first | refine blk_drewN ?_ _ | refine blk_drew ?_ | refine blk_alloc ?_ _)); refine blk_far ?_ NB101_177.out _; (with_reducible repeat (first | refine blk_drewN ?_ _ | refine blk_drew ?_ | refine blk_alloc ?_ _)); refine blk_far ?_ NB101_177.out _; (with_reducible repeat (first | refine blk_drewN ?_ _ | refine blk_drew ?_ | refine blk_alloc ?_ _)); refine blk_far ?_ NB101_177.out _; (with_reducible repeat (first | refine blk_drewN ?_ _ | refine blk_drew ?_ | refine blk_alloc ?_ _)); refine blk_far ?_ NB101_177.out _; (with_reducible repeat (first | refine blk_drewN ?_ _ | refine blk_drew ?_ | refine blk_alloc ?_ _)); refine blk_far ?_ NB101_177.out _; (with_reducible repeat (first | refine blk_drewN ?_ _ | refine blk_drew ?_ | refine blk_alloc ?_ _)); refine blk_far ?_ NB101_177.out _; (with_reducible repeat (first | refine blk_drewN ?_ _ | refine blk_drew ?_ | refine blk_alloc ?_ _)); refine blk_far ?_ NB101_177.out _; (with_reducible repeat (first | refine blk_drewN ?_ _ | refine blk_drew ?_ | refine blk_alloc ?_ _)); exact BK101.out), (by (with_reducible repeat (first | refine blk_drewN ?_ _ | refine blk_drew ?_ | refine blk_alloc ?_ _)); refine blk_far ?_ NB102_177.out _; (with_reducible repeat (first | refine blk_drewN ?_ _ | refine blk_drew ?_ | refine blk_alloc ?_ _)); refine blk_far ?_ NB102_177.out _; (with_reducible repeat (first | refine blk_drewN ?_ _ | refine blk_drew ?_ | refine blk_alloc ?_ _)); refine blk_far ?_ NB102_177.out _; (with_reducible repeat (first | refine blk_drewN ?_ _ | refine blk_drew ?_ | refine blk_alloc ?_ _)); refine blk_far ?_ NB102_177.out _; (with_reducible repeat (first | refine blk_drewN ?_ _ | refine blk_drew ?_ | refine blk_alloc ?_ _)); refine blk_far ?_ NB102_177.out _; (with_reducible repeat (first | refine blk_drewN ?_ _ | refine blk_drew ?_ | refine blk_alloc ?_ _)); refine blk_far ?_ NB102_177.out _; (with_reducible repeat (first | refine blk_drewN ?_ _ | refine blk_drew ?_ | refine blk_alloc ?_ _)); refine blk_far ?_ NB102_177.out _; (with_reducible repeat (first | refine blk_drewN ?_ _ | refine blk_drew ?_ | refine blk_alloc ?_ _)); refine blk_far ?_ NB102_177.out _; (with_reducible repeat (first | refine blk_drewN ?_ _ | refine blk_drew ?_ | refine blk_alloc ?_ _)); refine blk_far ?_ NB102_177.out _; (with_reducible repeat (first | refine blk_drewN ?_ _ | refine blk_drew ?_ | refine blk_alloc ?_ _)); refine blk_far ?_ NB102_177.out _; (with_reducible repeat (first | refine blk_drewN ?_ _ | refine blk_drew ?_ | refine blk_alloc ?_ _)); exact BK102.out), (by (with_reducible repeat (first | refine blk_drewN ?_ _ | refine blk_drew ?_ | refine blk_alloc ?_ _)); refine blk_far ?_ NB140_177.out _; (with_reducible repeat (first | refine blk_drewN ?_ _ | refine blk_drew ?_ | refine blk_alloc ?_ _)); refine blk_far ?_ NB140_177.out _; (with_reducible repeat (first | refine blk_drewN ?_ _ | refine blk_drew ?_ | refine blk_alloc ?_ _)); refine blk_far ?_ NB140_177.out _; (with_reducible repeat (first | refine blk_drewN ?_ _ | refine blk_drew ?_ | refine blk_alloc ?_ _)); refine blk_far ?_ NB140_177.out _; (with_reducible repeat (first | refine blk_drewN ?_ _ | refine blk_drew ?_ | refine blk_alloc ?_ _)); refine blk_far ?_ NB140_177.out _; (with_reducible repeat (first | refine blk_drewN ?_ _ | refine blk_drew ?_ | refine blk_alloc ?_ _)); refine blk_far ?_ NB140_177.out _; (with_reducible repeat (first | refine blk_drewN ?_ _ | refine blk_drew ?_ | refine blk_alloc ?_ _)); refine blk_far ?_ NB140_177.out _; (with_reducible repeat (first | refine blk_drewN ?_ _ | refine blk_drew ?_ | refine blk_alloc ?_ _)); refine blk_far ?_ NB140_177.out _; (with_reducible repeat (first | refine blk_drewN ?_ _ | refine blk_drew ?_ | refine blk_alloc ?_ _)); refine blk_far ?_ NB140_177.out _; (with_reducible repeat (first | refine blk_drewN ?_ _ | refine blk_drew ?_ | refine blk_alloc ?_ _)); refine blk_far ?_ NB140_177.out _; (with_reducible repeat (first | refine blk_drewN ?_ _ | refine blk_drew ?_ | refine blk_alloc ?_ _)); exact BK140.out), (by (with_reducible repeat (first | refine blk_drewN ?_ _ | refine blk_drew ?_ | refine blk_alloc ?_ _)); refine blk_far ?_ NB141_177.out _; (with_reducible repeat (first | refine blk_drewN ?_ _ | refine blk_drew ?_ | refine blk_alloc ?_ _)); refine blk_far ?_ NB141_177.out _; (with_reducible repeat (first | refine blk_drewN ?_ _ | refine blk_drew ?_ | refine blk_alloc ?_ _)); refine blk_far ?_ NB141_177.out _; (with_reducible repeat (first | refine blk_drewN ?_ _ | refine blk_drew ?_ | refine blk_alloc ?_ _)); refine blk_far ?_ NB141_177.out _; (with_reducible repeat (first | refine blk_drewN ?_ _ | refine blk_drew ?_ | refine blk_alloc ?_ _)); refine blk_far ?_ NB141_177.out _; (with_reducible repeat (first | refine blk_drewN ?_ _ | refine blk_drew ?_ | refine blk_alloc ?_ _)); refine blk_far ?_ NB141_177.out _; (with_reducible repeat (first | refine blk_drewN ?_ _ | refine blk_drew ?_ | refine blk_alloc ?_ _)); refine blk_far ?_ NB141_177.out _; (with_reducible repeat (first | refine blk_drewN ?_ _ | refine blk_drew ?_ | refine blk_alloc ?_ _)); refine blk_far ?_ NB141_177.out _; (with_reducible repeat (first | refine blk_drewN ?_ _ | refine blk_drew ?_ | refine blk_alloc ?_ _)); refine blk_far ?_ NB141_177.out _; (with_reducible repeat (first | refine blk_drewN ?_ _ | refine blk_drew ?_ | refine blk_alloc ?_ _)); refine blk_far ?_ NB141_177.out _; (with_reducible repeat (first | refine blk_drewN ?_ _ | refine blk_drew ?_ | refine blk_alloc ?_ _)); exact BK141.out), (by repeat (first | (with_reducible first | exact HB.out | apply below_alloc | apply pw_below_drewN | apply below_drew1 | refine below_set ?_ GE101.out | refine below_set ?_ GE102.out | refine below_set ?_ GE140.out | refine below_set ?_ GE141.out | refine below_set ?_ GE177.out | refine below_set ?_ GE178.out) | exact HB.out)), fun _ _ => NB178_177.out, fun _ _ => NB177_178.out, fun _ h1_ => absurd ((up_self b 12).symm.trans h1_) (by decide), fun _ => GW177.out, fun _ => GE177.out, fun _ => NB101_177.out, fun _ => NB177_101.out, fun _ => NB102_177.out, fun _ => NB177_102.out, fun _ => NB140_177.out, fun _ => NB177_140.out, fun _ => NB141_177.out, fun _ => NB177_141.out, fun _ _ => (by (with_reducible repeat (first | refine blk_drewN ?_ _ | refine blk_drew ?_ | refine blk_alloc ?_ _)); refine blk_far ?_ NB178_177.out _; (with_reducible repeat (first | refine blk_drewN ?_ _ | refine blk_drew ?_ | refine blk_alloc ?_ _)); refine blk_far ?_ NB178_177.out _; (with_reducible repeat (first | refine blk_drewN ?_ _ | refine blk_drew ?_ | refine blk_alloc ?_ _)); refine blk_far ?_ NB178_177.out _; (with_reducible repeat (first | refine blk_drewN ?_ _ | refine blk_drew ?_ | refine blk_alloc ?_ _)); refine blk_far ?_ NB178_177.out _; (with_reducible repeat (first | refine blk_drewN ?_ _ | refine blk_drew ?_ | refine blk_alloc ?_ _)); refine blk_far ?_ NB178_177.out _; (with_reducible repeat (first | refine blk_drewN ?_ _ | refine blk_drew ?_ | refine blk_alloc ?_ _)); refine blk_far ?_ NB178_177.out _; (with_reducible repeat (first | refine blk_drewN ?_ _ | refine blk_drew ?_ | refine blk_alloc ?_ _)); refine blk_far ?_ NB178_177.out _; (with_reducible repeat (first | refine blk_drewN ?_ _ | refine blk_drew ?_ | refine blk_alloc ?_ _)); refine blk_far ?_ NB178_177.out _; (with_reducible repeat (first | refine blk_drewN ?_ _ | refine blk_drew ?_ | refine blk_alloc ?_ _)); refine blk_far ?_ NB178_177.out _; (with_reducible repeat (first | refine blk_drewN ?_ _ | refine blk_drew ?_ | refine blk_alloc ?_ _)); refine blk_far ?_ NB178_177.out _; (with_reducible repeat (first | refine blk_drewN ?_ _ | refine blk_drew ?_ | refine blk_alloc ?_ _)); exact BK178.out), fun _ => GW178.out, fun _ => GE178.out, fun _ => NB101_178.out, fun _ => NB178_101.out, fun _ => NB102_178.out, fun _ => NB178_102.out, fun _ => NB140_178.out, fun _ => NB178_140.out, fun _ => NB141_178.out, fun _ => NB178_141.out, fun _ => (by (with_reducible repeat (first | refine blk_drewN ?_ _ | refine blk_drew ?_ | refine blk_alloc ?_ _)); refine blk_put (cs := #[.int .i64 t159, .int .i64 t160, .int .i64 t161, .int .i64 t162, .string t163, .string t164, .int .i64 t165, .int .i64 t166, .string t167, .string (⟨#[]⟩ : ByteArray)]) ?_ 9 _ rfl; (with_reducible repeat (first | refine blk_drewN ?_ _ | refine blk_drew ?_ | refine blk_alloc ?_ _)); refine blk_put (cs := #[.int .i64 t159, .int .i64 t160, .int .i64 t161, .int .i64 t162, .string t163, .string t164, .int .i64 t165, .int .i64 t166, .string (⟨#[]⟩ : ByteArray), .string (⟨#[]⟩ : ByteArray)]) ?_ 8 _ rfl; (with_reducible repeat (first | refine blk_drewN ?_ _ | refine blk_drew ?_ | refine blk_alloc ?_ _)); refine blk_put (cs := #[.int .i64 t159, .int .i64 t160, .int .i64 t161, .int .i64 t162, .string t163, .string t164, .int .i64 t165, .int .i64 0, .string (⟨#[]⟩ : ByteArray), .string (⟨#[]⟩ : ByteArray)]) ?_ 7 _ rfl; (with_reducible repeat (first | refine blk_drewN ?_ _ | refine blk_drew ?_ | refine blk_alloc ?_ _)); refine blk_put (cs := #[.int .i64 t159, .int .i64 t160, .int .i64 t161, .int .i64 t162, .string t163, .string t164, .int .i64 0, .int .i64 0, .string (⟨#[]⟩ : ByteArray), .string (⟨#[]⟩ : ByteArray)]) ?_ 6 _ rfl; (with_reducible repeat (first | refine blk_drewN ?_ _ | refine blk_drew ?_ | refine blk_alloc ?_ _)); refine blk_put (cs := #[.int .i64 t159, .int .i64 t160, .int .i64 t161, .int .i64 t162, .string t163, .string (⟨#[]⟩ : ByteArray), .int .i64 0, .int .i64 0, .string (⟨#[]⟩ : ByteArray), .string (⟨#[]⟩ : ByteArray)]) ?_ 5 _ rfl; (with_reducible repeat (first | refine blk_drewN ?_ _ | refine blk_drew ?_ | refine blk_alloc ?_ _)); refine blk_put (cs := #[.int .i64 t159, .int .i64 t160, .int .i64 t161, .int .i64 t162, .string (⟨#[]⟩ : ByteArray), .string (⟨#[]⟩ : ByteArray), .int .i64 0, .int .i64 0, .string (⟨#[]⟩ : ByteArray), .string (⟨#[]⟩ : ByteArray)]) ?_ 4 _ rfl; (with_reducible repeat (first | refine blk_drewN ?_ _ | refine blk_drew ?_ | refine blk_alloc ?_ _)); refine blk_put (cs := #[.int .i64 t159, .int .i64 t160, .int .i64 t161, .int .i64 0, .string (⟨#[]⟩ : ByteArray), .string (⟨#[]⟩ : ByteArray), .int .i64 0, .int .i64 0, .string (⟨#[]⟩ : ByteArray), .string (⟨#[]⟩ : ByteArray)]) ?_ 3 _ rfl; (with_reducible repeat (first | refine blk_drewN ?_ _ | refine blk_drew ?_ | refine blk_alloc ?_ _)); refine blk_put (cs := #[.int .i64 t159, .int .i64 t160, .int .i64 0, .int .i64 0, .string (⟨#[]⟩ : ByteArray), .string (⟨#[]⟩ : ByteArray), .int .i64 0, .int .i64 0, .string (⟨#[]⟩ : ByteArray), .string (⟨#[]⟩ : ByteArray)]) ?_ 2 _ rfl; (with_reducible repeat (first | refine blk_drewN ?_ _ | refine blk_drew ?_ | refine blk_alloc ?_ _)); refine blk_put (cs := #[.int .i64 t159, .int .i64 0, .int .i64 0, .int .i64 0, .string (⟨#[]⟩ : ByteArray), .string (⟨#[]⟩ : ByteArray), .int .i64 0, .int .i64 0, .string (⟨#[]⟩ : ByteArray), .string (⟨#[]⟩ : ByteArray)]) ?_ 1 _ rfl; (with_reducible repeat (first | refine blk_drewN ?_ _ | refine blk_drew ?_ | refine blk_alloc ?_ _)); refine blk_put (cs := #[.int .i64 0, .int .i64 0, .int .i64 0, .int .i64 0, .string (⟨#[]⟩ : ByteArray), .string (⟨#[]⟩ : ByteArray), .int .i64 0, .int .i64 0, .string (⟨#[]⟩ : ByteArray), .string (⟨#[]⟩ : ByteArray)]) ?_ 0 _ rfl; (with_reducible repeat (first | refine blk_drewN ?_ _ | refine blk_drew ?_ | refine blk_alloc ?_ _)); exact BK177.out), fun h0_ => absurd ((hoff 13 (by kernel_rfl)).symm.trans h0_) (by decide), Q_X10_, Q_X11_⟩
              refine steps_cons ?_ ?_
              · rintro b a w' ⟨gb177, gb178, m10_, m11_, ha, Q_BK101, Q_BK102, Q_BK140, Q_BK141, Q_HB, Q_NB178_177, Q_NB177_178, Q_BK177, Q_GW177, Q_GE177, Q_NB101_177, Q_NB177_101, Q_NB102_177, Q_NB177_102, Q_NB140_177, Q_NB177_140, Q_NB141_177, Q_NB177_141, Q_BK178, Q_GW178, Q_GE178, Q_NB101_178, Q_NB178_101, Q_NB102_178, Q_NB178_102, Q_NB140_178, Q_NB178_140, Q_NB141_178, Q_NB178_141, Q_BK177_e12, Q_BK178_e13, Q_X10_, Q_X11_⟩ hb_ hon hoff
                refine ⟨_, rfl, fun K hK => ?_⟩
                have e12 : a.tmps[12]? = some (m11_) := by rw [ha]; exact putSel_on (e := (11, 12, m11_)) 10 rfl rfl (hon 11 (by kernel_rfl)) rfl
                rw [Q_X11_ (hon 11 (by kernel_rfl))] at e12
                have e42 : a.tmps[42]? = some (.agg #[.int .i64 t169, .int .i64 t170, .int .i64 t171, .int .i64 t172, .int .i64 t173, .int .i64 t174, .string t175]) := by rw [ha]; exact putSel_on (e := (8, 42, .agg #[.int .i64 t169, .int .i64 t170, .int .i64 t171, .int .i64 t172, .int .i64 t173, .int .i64 t174, .string t175])) 7 rfl rfl (hon 8 (by kernel_rfl)) rfl
                replace ha := Aside0.mk ha
                have BK101 := Aside0.mk Q_BK101
                have BK102 := Aside0.mk Q_BK102
                have BK140 := Aside0.mk Q_BK140
                have BK141 := Aside0.mk Q_BK141
                have HB := Aside0.mk Q_HB
                have NB178_177 := Aside0.mk (Q_NB178_177 (hon 10 (by kernel_rfl)) (hon 11 (by kernel_rfl)))
                have NB177_178 := Aside0.mk (Q_NB177_178 (hon 10 (by kernel_rfl)) (hon 11 (by kernel_rfl)))
                have GW177 := Aside0.mk (Q_GW177 (hon 10 (by kernel_rfl)))
                have GE177 := Aside0.mk (Q_GE177 (hon 10 (by kernel_rfl)))
                have NB101_177 := Aside0.mk (Q_NB101_177 (hon 10 (by kernel_rfl)))
                have NB177_101 := Aside0.mk (Q_NB177_101 (hon 10 (by kernel_rfl)))
                have NB102_177 := Aside0.mk (Q_NB102_177 (hon 10 (by kernel_rfl)))
                have NB177_102 := Aside0.mk (Q_NB177_102 (hon 10 (by kernel_rfl)))
                have NB140_177 := Aside0.mk (Q_NB140_177 (hon 10 (by kernel_rfl)))
                have NB177_140 := Aside0.mk (Q_NB177_140 (hon 10 (by kernel_rfl)))
                have NB141_177 := Aside0.mk (Q_NB141_177 (hon 10 (by kernel_rfl)))
                have NB177_141 := Aside0.mk (Q_NB177_141 (hon 10 (by kernel_rfl)))
                have BK178 := Aside0.mk (Q_BK178 (hon 11 (by kernel_rfl)) hb_)
                have GW178 := Aside0.mk (Q_GW178 (hon 11 (by kernel_rfl)))
                have GE178 := Aside0.mk (Q_GE178 (hon 11 (by kernel_rfl)))
                have NB101_178 := Aside0.mk (Q_NB101_178 (hon 11 (by kernel_rfl)))
                have NB178_101 := Aside0.mk (Q_NB178_101 (hon 11 (by kernel_rfl)))
                have NB102_178 := Aside0.mk (Q_NB102_178 (hon 11 (by kernel_rfl)))
                have NB178_102 := Aside0.mk (Q_NB178_102 (hon 11 (by kernel_rfl)))
                have NB140_178 := Aside0.mk (Q_NB140_178 (hon 11 (by kernel_rfl)))
                have NB178_140 := Aside0.mk (Q_NB178_140 (hon 11 (by kernel_rfl)))
                have NB141_178 := Aside0.mk (Q_NB141_178 (hon 11 (by kernel_rfl)))
                have NB178_141 := Aside0.mk (Q_NB178_141 (hon 11 (by kernel_rfl)))
                have BK177 := Aside0.mk (Q_BK177_e12 (hon 12 (by kernel_rfl)))
                have hs79 : w'.cell? ⟨gb178, 0, none⟩ = some (.int .i64 0) := (blk_cell BK178.out 0).trans rfl
                have hfs79 := blk_frozen BK178.out 0
                have hns79_0 := NB101_178.out
                have hns79_1 := NB102_178.out
                have hns79_2 := NB140_178.out
                have hns79_3 := NB141_178.out
                have hns79_4 := NB177_178.out
                have hms79_0 := NB178_101.out
                have hms79_1 := NB178_102.out
                have hms79_2 := NB178_140.out
                have hms79_3 := NB178_141.out
                have hms79_4 := NB178_177.out
                have hs80 : w'.cell? ⟨gb178, 1, none⟩ = some (.int .i64 0) := (blk_cell BK178.out 1).trans rfl
                have hfs80 := blk_frozen BK178.out 1
                have hns80_0 := NB101_178.out
                have hns80_1 := NB102_178.out
                have hns80_2 := NB140_178.out
                have hns80_3 := NB141_178.out
                have hns80_4 := NB177_178.out
                have hms80_0 := NB178_101.out
                have hms80_1 := NB178_102.out
                have hms80_2 := NB178_140.out
                have hms80_3 := NB178_141.out
                have hms80_4 := NB178_177.out
                have hs81 : w'.cell? ⟨gb178, 2, none⟩ = some (.int .i64 0) := (blk_cell BK178.out 2).trans rfl
                have hfs81 := blk_frozen BK178.out 2
                have hns81_0 := NB101_178.out
                have hns81_1 := NB102_178.out
                have hns81_2 := NB140_178.out
                have hns81_3 := NB141_178.out
                have hns81_4 := NB177_178.out
                have hms81_0 := NB178_101.out
                have hms81_1 := NB178_102.out
                have hms81_2 := NB178_140.out
                have hms81_3 := NB178_141.out
                have hms81_4 := NB178_177.out
                have hs82 : w'.cell? ⟨gb178, 3, none⟩ = some (.int .i64 0) := (blk_cell BK178.out 3).trans rfl
                have hfs82 := blk_frozen BK178.out 3
                have hns82_0 := NB101_178.out
                have hns82_1 := NB102_178.out
                have hns82_2 := NB140_178.out
                have hns82_3 := NB141_178.out
                have hns82_4 := NB177_178.out
                have hms82_0 := NB178_101.out
                have hms82_1 := NB178_102.out
                have hms82_2 := NB178_140.out
                have hms82_3 := NB178_141.out
                have hms82_4 := NB178_177.out
                have hs83 : w'.cell? ⟨gb178, 4, none⟩ = some (.int .i64 0) := (blk_cell BK178.out 4).trans rfl
                have hfs83 := blk_frozen BK178.out 4
                have hns83_0 := NB101_178.out
                have hns83_1 := NB102_178.out
                have hns83_2 := NB140_178.out
                have hns83_3 := NB141_178.out
                have hns83_4 := NB177_178.out
                have hms83_0 := NB178_101.out
                have hms83_1 := NB178_102.out
                have hms83_2 := NB178_140.out
                have hms83_3 := NB178_141.out
                have hms83_4 := NB178_177.out
                have hs84 : w'.cell? ⟨gb178, 5, none⟩ = some (.int .i64 0) := (blk_cell BK178.out 5).trans rfl
                have hfs84 := blk_frozen BK178.out 5
                have hns84_0 := NB101_178.out
                have hns84_1 := NB102_178.out
                have hns84_2 := NB140_178.out
                have hns84_3 := NB141_178.out
                have hns84_4 := NB177_178.out
                have hms84_0 := NB178_101.out
                have hms84_1 := NB178_102.out
                have hms84_2 := NB178_140.out
                have hms84_3 := NB178_141.out
                have hms84_4 := NB178_177.out
                have hs85 : w'.cell? ⟨gb178, 6, none⟩ = some (.string (⟨#[]⟩ : ByteArray)) := (blk_cell BK178.out 6).trans rfl
                have hfs85 := blk_frozen BK178.out 6
                have hns85_0 := NB101_178.out
                have hns85_1 := NB102_178.out
                have hns85_2 := NB140_178.out
                have hns85_3 := NB141_178.out
                have hns85_4 := NB177_178.out
                have hms85_0 := NB178_101.out
                have hms85_1 := NB178_102.out
                have hms85_2 := NB178_140.out
                have hms85_3 := NB178_141.out
                have hms85_4 := NB178_177.out
                refine skip_ (w1 := ?_) (by rfl) rfl ?_ ?_
                rotate_left
                · go_simp
                  rfl
                refine hK.out _ _ ⟨gb177, gb178, m10_, m11_, (by rw [ha.out]; exact putSel_none (v := undef) rfl), (by (with_reducible repeat (first | refine blk_drewN ?_ _ | refine blk_drew ?_ | refine blk_alloc ?_ _)); refine blk_far ?_ NB101_178.out _; (with_reducible repeat (first | refine blk_drewN ?_ _ | refine blk_drew ?_ | refine blk_alloc ?_ _)); refine blk_far ?_ NB101_178.out _; (with_reducible repeat (first | refine blk_drewN ?_ _ | refine blk_drew ?_ | refine blk_alloc ?_ _)); refine blk_far ?_ NB101_178.out _; (with_reducible repeat (first | refine blk_drewN ?_ _ | refine blk_drew ?_ | refine blk_alloc ?_ _)); refine blk_far ?_ NB101_178.out _; (with_reducible repeat (first | refine blk_drewN ?_ _ | refine blk_drew ?_ | refine blk_alloc ?_ _)); refine blk_far ?_ NB101_178.out _; (with_reducible repeat (first | refine blk_drewN ?_ _ | refine blk_drew ?_ | refine blk_alloc ?_ _)); refine blk_far ?_ NB101_178.out _; (with_reducible repeat (first | refine blk_drewN ?_ _ | refine blk_drew ?_ | refine blk_alloc ?_ _)); refine blk_far ?_ NB101_178.out _; (with_reducible repeat (first | refine blk_drewN ?_ _ | refine blk_drew ?_ | refine blk_alloc ?_ _)); exact BK101.out), (by (with_reducible repeat (first | refine blk_drewN ?_ _ | refine blk_drew ?_ | refine blk_alloc ?_ _)); refine blk_far ?_ NB102_178.out _; (with_reducible repeat (first | refine blk_drewN ?_ _ | refine blk_drew ?_ | refine blk_alloc ?_ _)); refine blk_far ?_ NB102_178.out _; (with_reducible repeat (first | refine blk_drewN ?_ _ | refine blk_drew ?_ | refine blk_alloc ?_ _)); refine blk_far ?_ NB102_178.out _; (with_reducible repeat (first | refine blk_drewN ?_ _ | refine blk_drew ?_ | refine blk_alloc ?_ _)); refine blk_far ?_ NB102_178.out _; (with_reducible repeat (first | refine blk_drewN ?_ _ | refine blk_drew ?_ | refine blk_alloc ?_ _)); refine blk_far ?_ NB102_178.out _; (with_reducible repeat (first | refine blk_drewN ?_ _ | refine blk_drew ?_ | refine blk_alloc ?_ _)); refine blk_far ?_ NB102_178.out _; (with_reducible repeat (first | refine blk_drewN ?_ _ | refine blk_drew ?_ | refine blk_alloc ?_ _)); refine blk_far ?_ NB102_178.out _; (with_reducible repeat (first | refine blk_drewN ?_ _ | refine blk_drew ?_ | refine blk_alloc ?_ _)); exact BK102.out), (by (with_reducible repeat (first | refine blk_drewN ?_ _ | refine blk_drew ?_ | refine blk_alloc ?_ _)); refine blk_far ?_ NB140_178.out _; (with_reducible repeat (first | refine blk_drewN ?_ _ | refine blk_drew ?_ | refine blk_alloc ?_ _)); refine blk_far ?_ NB140_178.out _; (with_reducible repeat (first | refine blk_drewN ?_ _ | refine blk_drew ?_ | refine blk_alloc ?_ _)); refine blk_far ?_ NB140_178.out _; (with_reducible repeat (first | refine blk_drewN ?_ _ | refine blk_drew ?_ | refine blk_alloc ?_ _)); refine blk_far ?_ NB140_178.out _; (with_reducible repeat (first | refine blk_drewN ?_ _ | refine blk_drew ?_ | refine blk_alloc ?_ _)); refine blk_far ?_ NB140_178.out _; (with_reducible repeat (first | refine blk_drewN ?_ _ | refine blk_drew ?_ | refine blk_alloc ?_ _)); refine blk_far ?_ NB140_178.out _; (with_reducible repeat (first | refine blk_drewN ?_ _ | refine blk_drew ?_ | refine blk_alloc ?_ _)); refine blk_far ?_ NB140_178.out _; (with_reducible repeat (first | refine blk_drewN ?_ _ | refine blk_drew ?_ | refine blk_alloc ?_ _)); exact BK140.out), (by (with_reducible repeat (first | refine blk_drewN ?_ _ | refine blk_drew ?_ | refine blk_alloc ?_ _)); refine blk_far ?_ NB141_178.out _; (with_reducible repeat (first | refine blk_drewN ?_ _ | refine blk_drew ?_ | refine blk_alloc ?_ _)); refine blk_far ?_ NB141_178.out _; (with_reducible repeat (first | refine blk_drewN ?_ _ | refine blk_drew ?_ | refine blk_alloc ?_ _)); refine blk_far ?_ NB141_178.out _; (with_reducible repeat (first | refine blk_drewN ?_ _ | refine blk_drew ?_ | refine blk_alloc ?_ _)); refine blk_far ?_ NB141_178.out _; (with_reducible repeat (first | refine blk_drewN ?_ _ | refine blk_drew ?_ | refine blk_alloc ?_ _)); refine blk_far ?_ NB141_178.out _; (with_reducible repeat (first | refine blk_drewN ?_ _ | refine blk_drew ?_ | refine blk_alloc ?_ _)); refine blk_far ?_ NB141_178.out _; (with_reducible repeat (first | refine blk_drewN ?_ _ | refine blk_drew ?_ | refine blk_alloc ?_ _)); refine blk_far ?_ NB141_178.out _; (with_reducible repeat (first | refine blk_drewN ?_ _ | refine blk_drew ?_ | refine blk_alloc ?_ _)); exact BK141.out), (by repeat (first | (with_reducible first | exact HB.out | apply below_alloc | apply pw_below_drewN | apply below_drew1 | refine below_set ?_ GE101.out | refine below_set ?_ GE102.out | refine below_set ?_ GE140.out | refine below_set ?_ GE141.out | refine below_set ?_ GE177.out | refine below_set ?_ GE178.out) | exact HB.out)), fun _ _ => NB178_177.out, fun _ _ => NB177_178.out, fun _ h1_ => absurd ((hon 12 (by kernel_rfl)).symm.trans h1_) (by decide), fun _ => GW177.out, fun _ => GE177.out, fun _ => NB101_177.out, fun _ => NB177_101.out, fun _ => NB102_177.out, fun _ => NB177_102.out, fun _ => NB140_177.out, fun _ => NB177_140.out, fun _ => NB141_177.out, fun _ => NB177_141.out, fun _ h1_ => absurd ((up_self b 13).symm.trans h1_) (by decide), fun _ => GW178.out, fun _ => GE178.out, fun _ => NB101_178.out, fun _ => NB178_101.out, fun _ => NB102_178.out, fun _ => NB178_102.out, fun _ => NB140_178.out, fun _ => NB178_140.out, fun _ => NB141_178.out, fun _ => NB178_141.out, fun _ => (by (with_reducible repeat (first | refine blk_drewN ?_ _ | refine blk_drew ?_ | refine blk_alloc ?_ _)); refine blk_far ?_ NB177_178.out _; (with_reducible repeat (first | refine blk_drewN ?_ _ | refine blk_drew ?_ | refine blk_alloc ?_ _)); refine blk_far ?_ NB177_178.out _; (with_reducible repeat (first | refine blk_drewN ?_ _ | refine blk_drew ?_ | refine blk_alloc ?_ _)); refine blk_far ?_ NB177_178.out _; (with_reducible repeat (first | refine blk_drewN ?_ _ | refine blk_drew ?_ | refine blk_alloc ?_ _)); refine blk_far ?_ NB177_178.out _; (with_reducible repeat (first | refine blk_drewN ?_ _ | refine blk_drew ?_ | refine blk_alloc ?_ _)); refine blk_far ?_ NB177_178.out _; (with_reducible repeat (first | refine blk_drewN ?_ _ | refine blk_drew ?_ | refine blk_alloc ?_ _)); refine blk_far ?_ NB177_178.out _; (with_reducible repeat (first | refine blk_drewN ?_ _ | refine blk_drew ?_ | refine blk_alloc ?_ _)); refine blk_far ?_ NB177_178.out _; (with_reducible repeat (first | refine blk_drewN ?_ _ | refine blk_drew ?_ | refine blk_alloc ?_ _)); exact BK177.out), fun _ => (by (with_reducible repeat (first | refine blk_drewN ?_ _ | refine blk_drew ?_ | refine blk_alloc ?_ _)); refine blk_put (cs := #[.int .i64 t169, .int .i64 t170, .int .i64 t171, .int .i64 t172, .int .i64 t173, .int .i64 t174, .string (⟨#[]⟩ : ByteArray)]) ?_ 6 _ rfl; (with_reducible repeat (first | refine blk_drewN ?_ _ | refine blk_drew ?_ | refine blk_alloc ?_ _)); refine blk_put (cs := #[.int .i64 t169, .int .i64 t170, .int .i64 t171, .int .i64 t172, .int .i64 t173, .int .i64 0, .string (⟨#[]⟩ : ByteArray)]) ?_ 5 _ rfl; (with_reducible repeat (first | refine blk_drewN ?_ _ | refine blk_drew ?_ | refine blk_alloc ?_ _)); refine blk_put (cs := #[.int .i64 t169, .int .i64 t170, .int .i64 t171, .int .i64 t172, .int .i64 0, .int .i64 0, .string (⟨#[]⟩ : ByteArray)]) ?_ 4 _ rfl; (with_reducible repeat (first | refine blk_drewN ?_ _ | refine blk_drew ?_ | refine blk_alloc ?_ _)); refine blk_put (cs := #[.int .i64 t169, .int .i64 t170, .int .i64 t171, .int .i64 0, .int .i64 0, .int .i64 0, .string (⟨#[]⟩ : ByteArray)]) ?_ 3 _ rfl; (with_reducible repeat (first | refine blk_drewN ?_ _ | refine blk_drew ?_ | refine blk_alloc ?_ _)); refine blk_put (cs := #[.int .i64 t169, .int .i64 t170, .int .i64 0, .int .i64 0, .int .i64 0, .int .i64 0, .string (⟨#[]⟩ : ByteArray)]) ?_ 2 _ rfl; (with_reducible repeat (first | refine blk_drewN ?_ _ | refine blk_drew ?_ | refine blk_alloc ?_ _)); refine blk_put (cs := #[.int .i64 t169, .int .i64 0, .int .i64 0, .int .i64 0, .int .i64 0, .int .i64 0, .string (⟨#[]⟩ : ByteArray)]) ?_ 1 _ rfl; (with_reducible repeat (first | refine blk_drewN ?_ _ | refine blk_drew ?_ | refine blk_alloc ?_ _)); refine blk_put (cs := #[.int .i64 0, .int .i64 0, .int .i64 0, .int .i64 0, .int .i64 0, .int .i64 0, .string (⟨#[]⟩ : ByteArray)]) ?_ 0 _ rfl; (with_reducible repeat (first | refine blk_drewN ?_ _ | refine blk_drew ?_ | refine blk_alloc ?_ _)); exact BK178.out), Q_X10_, Q_X11_⟩
              refine steps_cons ?_ ?_
              · rintro b a w' ⟨gb177, gb178, m10_, m11_, ha, Q_BK101, Q_BK102, Q_BK140, Q_BK141, Q_HB, Q_NB178_177, Q_NB177_178, Q_BK177, Q_GW177, Q_GE177, Q_NB101_177, Q_NB177_101, Q_NB102_177, Q_NB177_102, Q_NB140_177, Q_NB177_140, Q_NB141_177, Q_NB177_141, Q_BK178, Q_GW178, Q_GE178, Q_NB101_178, Q_NB178_101, Q_NB102_178, Q_NB178_102, Q_NB140_178, Q_NB178_140, Q_NB141_178, Q_NB178_141, Q_BK177_e12, Q_BK178_e13, Q_X10_, Q_X11_⟩ hb_ hon hoff
                refine ⟨_, rfl, fun K hK => ?_⟩
                have e43 : a.tmps[43]? = some (.bool t176) := by rw [ha]; exact putSel_on (e := (9, 43, .bool t176)) 8 rfl rfl (hon 9 (by kernel_rfl)) rfl
                replace ha := Aside0.mk ha
                have BK101 := Aside0.mk Q_BK101
                have BK102 := Aside0.mk Q_BK102
                have BK140 := Aside0.mk Q_BK140
                have BK141 := Aside0.mk Q_BK141
                have HB := Aside0.mk Q_HB
                have NB178_177 := Aside0.mk (Q_NB178_177 (hon 10 (by kernel_rfl)) (hon 11 (by kernel_rfl)))
                have NB177_178 := Aside0.mk (Q_NB177_178 (hon 10 (by kernel_rfl)) (hon 11 (by kernel_rfl)))
                have GW177 := Aside0.mk (Q_GW177 (hon 10 (by kernel_rfl)))
                have GE177 := Aside0.mk (Q_GE177 (hon 10 (by kernel_rfl)))
                have NB101_177 := Aside0.mk (Q_NB101_177 (hon 10 (by kernel_rfl)))
                have NB177_101 := Aside0.mk (Q_NB177_101 (hon 10 (by kernel_rfl)))
                have NB102_177 := Aside0.mk (Q_NB102_177 (hon 10 (by kernel_rfl)))
                have NB177_102 := Aside0.mk (Q_NB177_102 (hon 10 (by kernel_rfl)))
                have NB140_177 := Aside0.mk (Q_NB140_177 (hon 10 (by kernel_rfl)))
                have NB177_140 := Aside0.mk (Q_NB177_140 (hon 10 (by kernel_rfl)))
                have NB141_177 := Aside0.mk (Q_NB141_177 (hon 10 (by kernel_rfl)))
                have NB177_141 := Aside0.mk (Q_NB177_141 (hon 10 (by kernel_rfl)))
                have GW178 := Aside0.mk (Q_GW178 (hon 11 (by kernel_rfl)))
                have GE178 := Aside0.mk (Q_GE178 (hon 11 (by kernel_rfl)))
                have NB101_178 := Aside0.mk (Q_NB101_178 (hon 11 (by kernel_rfl)))
                have NB178_101 := Aside0.mk (Q_NB178_101 (hon 11 (by kernel_rfl)))
                have NB102_178 := Aside0.mk (Q_NB102_178 (hon 11 (by kernel_rfl)))
                have NB178_102 := Aside0.mk (Q_NB178_102 (hon 11 (by kernel_rfl)))
                have NB140_178 := Aside0.mk (Q_NB140_178 (hon 11 (by kernel_rfl)))
                have NB178_140 := Aside0.mk (Q_NB178_140 (hon 11 (by kernel_rfl)))
                have NB141_178 := Aside0.mk (Q_NB141_178 (hon 11 (by kernel_rfl)))
                have NB178_141 := Aside0.mk (Q_NB178_141 (hon 11 (by kernel_rfl)))
                have BK177 := Aside0.mk (Q_BK177_e12 (hon 12 (by kernel_rfl)))
                have BK178 := Aside0.mk (Q_BK178_e13 (hon 13 (by kernel_rfl)))
                refine value_ (w1 := w') (v := .bool t176) (by rfl) rfl ?_ ?_
                · go_simp
                  (try simp only [i64_w])
                  try rfl
                refine hK.out _ _ ⟨gb177, gb178, m10_, m11_, (by rw [ha.out]; exact putSel_upk 11 hb_ rfl rfl rfl), Q_BK101, Q_BK102, Q_BK140, Q_BK141, Q_HB, Q_NB178_177, Q_NB177_178, fun _ h1_ => absurd ((hon 12 (by kernel_rfl)).symm.trans h1_) (by decide), Q_GW177, Q_GE177, Q_NB101_177, Q_NB177_101, Q_NB102_177, Q_NB177_102, Q_NB140_177, Q_NB177_140, Q_NB141_177, Q_NB177_141, fun _ h1_ => absurd ((hon 13 (by kernel_rfl)).symm.trans h1_) (by decide), Q_GW178, Q_GE178, Q_NB101_178, Q_NB178_101, Q_NB102_178, Q_NB178_102, Q_NB140_178, Q_NB178_140, Q_NB141_178, Q_NB178_141, Q_BK177_e12, Q_BK178_e13, Q_X10_, Q_X11_⟩
              exact steps_nil
            rintro b a w85 hall ⟨gb177, gb178, m10_, m11_, ha, Q_BK101, Q_BK102, Q_BK140, Q_BK141, Q_HB, Q_NB178_177, Q_NB177_178, Q_BK177, Q_GW177, Q_GE177, Q_NB101_177, Q_NB177_101, Q_NB102_177, Q_NB177_102, Q_NB140_177, Q_NB177_140, Q_NB141_177, Q_NB177_141, Q_BK178, Q_GW178, Q_GE178, Q_NB101_178, Q_NB178_101, Q_NB102_178, Q_NB178_102, Q_NB140_178, Q_NB178_140, Q_NB141_178, Q_NB178_141, Q_BK177_e12, Q_BK178_e13, Q_X10_, Q_X11_⟩
            clear BK101 BK102 BK140 BK141 HB
            have hb0_ := hall 0 (by kernel_rfl)
            have hb1_ := hall 1 (by kernel_rfl)
            have hb3_ := hall 3 (by kernel_rfl)
            have hb4_ := hall 4 (by kernel_rfl)
            have hb5_ := hall 5 (by kernel_rfl)
            have hb6_ := hall 6 (by kernel_rfl)
            have hb7_ := hall 7 (by kernel_rfl)
            have hb8_ := hall 8 (by kernel_rfl)
            have hb9_ := hall 9 (by kernel_rfl)
            have hb10_ := hall 10 (by kernel_rfl)
            have hb11_ := hall 11 (by kernel_rfl)
            have hb12_ := hall 12 (by kernel_rfl)
            have hb13_ := hall 13 (by kernel_rfl)
            have hb14_ := hall 14 (by kernel_rfl)
            subst ha
            obtain rfl := Q_X10_ hb10_
            obtain rfl := Q_X11_ hb11_
            simp only [putSel, hb0_, hb1_, hb3_, hb4_, hb5_, hb6_, hb7_, hb8_, hb9_, hb10_, hb11_, hb12_, hb13_, hb14_, if_true, Act.put, List.setIfInBounds_toArray, List.set_cons_zero, List.set_cons_succ]
            have BK101 := Aside0.mk Q_BK101
            clear Q_BK101
            have BK102 := Aside0.mk Q_BK102
            clear Q_BK102
            have BK140 := Aside0.mk Q_BK140
            clear Q_BK140
            have BK141 := Aside0.mk Q_BK141
            clear Q_BK141
            have HB := Aside0.mk Q_HB
            clear Q_HB
            have NB178_177 := Aside0.mk (Q_NB178_177 hb10_ hb11_)
            clear Q_NB178_177
            have NB177_178 := Aside0.mk (Q_NB177_178 hb10_ hb11_)
            clear Q_NB177_178
            clear Q_BK177
            have GW177 := Aside0.mk (Q_GW177 hb10_)
            clear Q_GW177
            have GE177 := Aside0.mk (Q_GE177 hb10_)
            clear Q_GE177
            have NB101_177 := Aside0.mk (Q_NB101_177 hb10_)
            clear Q_NB101_177
            have NB177_101 := Aside0.mk (Q_NB177_101 hb10_)
            clear Q_NB177_101
            have NB102_177 := Aside0.mk (Q_NB102_177 hb10_)
            clear Q_NB102_177
            have NB177_102 := Aside0.mk (Q_NB177_102 hb10_)
            clear Q_NB177_102
            have NB140_177 := Aside0.mk (Q_NB140_177 hb10_)
            clear Q_NB140_177
            have NB177_140 := Aside0.mk (Q_NB177_140 hb10_)
            clear Q_NB177_140
            have NB141_177 := Aside0.mk (Q_NB141_177 hb10_)
            clear Q_NB141_177
            have NB177_141 := Aside0.mk (Q_NB177_141 hb10_)
            clear Q_NB177_141
            clear Q_BK178
            have GW178 := Aside0.mk (Q_GW178 hb11_)
            clear Q_GW178
            have GE178 := Aside0.mk (Q_GE178 hb11_)
            clear Q_GE178
            have NB101_178 := Aside0.mk (Q_NB101_178 hb11_)
            clear Q_NB101_178
            have NB178_101 := Aside0.mk (Q_NB178_101 hb11_)
            clear Q_NB178_101
            have NB102_178 := Aside0.mk (Q_NB102_178 hb11_)
            clear Q_NB102_178
            have NB178_102 := Aside0.mk (Q_NB178_102 hb11_)
            clear Q_NB178_102
            have NB140_178 := Aside0.mk (Q_NB140_178 hb11_)
            clear Q_NB140_178
            have NB178_140 := Aside0.mk (Q_NB178_140 hb11_)
            clear Q_NB178_140
            have NB141_178 := Aside0.mk (Q_NB141_178 hb11_)
            clear Q_NB141_178
            have NB178_141 := Aside0.mk (Q_NB178_141 hb11_)
            clear Q_NB178_141
            have BK177 := Aside0.mk (Q_BK177_e12 hb12_)
            clear Q_BK177_e12
            have BK178 := Aside0.mk (Q_BK178_e13 hb13_)
            clear Q_BK178_e13
            clear hall hb0_ hb1_ hb3_ hb4_ hb5_ hb6_ hb7_ hb8_ hb9_ hb10_ hb11_ hb12_ hb13_ hb14_
            have hnb86 := NB177_101.out
            have hnc86 := NB101_177.out
            have hnb87 := NB177_102.out
            have hnc87 := NB102_177.out
            have hnb88 := NB177_140.out
            have hnc88 := NB140_177.out
            have hnb89 := NB177_141.out
            have hnc89 := NB141_177.out
            have hnb90 := NB177_178.out
            have hnc90 := NB178_177.out
            have hcz91_0 : w85.cell? ⟨gb177, 0, none⟩ = some (.int .i64 t159) := (blk_cell BK177.out 0).trans rfl
            have hcz91_1 : w85.cell? ⟨gb177, 1, none⟩ = some (.int .i64 t160) := (blk_cell BK177.out 1).trans rfl
            have hcz91_2 : w85.cell? ⟨gb177, 2, none⟩ = some (.int .i64 t161) := (blk_cell BK177.out 2).trans rfl
            have hcz91_3 : w85.cell? ⟨gb177, 3, none⟩ = some (.int .i64 t162) := (blk_cell BK177.out 3).trans rfl
            have hcz91_4 : w85.cell? ⟨gb177, 4, none⟩ = some (.string t163) := (blk_cell BK177.out 4).trans rfl
            have hcz91_5 : w85.cell? ⟨gb177, 5, none⟩ = some (.string t164) := (blk_cell BK177.out 5).trans rfl
            have hcz91_6 : w85.cell? ⟨gb177, 6, none⟩ = some (.int .i64 t165) := (blk_cell BK177.out 6).trans rfl
            have hcz91_7 : w85.cell? ⟨gb177, 7, none⟩ = some (.int .i64 t166) := (blk_cell BK177.out 7).trans rfl
            have hcz91_8 : w85.cell? ⟨gb177, 8, none⟩ = some (.string t167) := (blk_cell BK177.out 8).trans rfl
            have hcz91_9 : w85.cell? ⟨gb177, 9, none⟩ = some (.string t168) := (blk_cell BK177.out 9).trans rfl
            have hfz91_0 := blk_frozen BK177.out 0
            have hfz91_1 := blk_frozen BK177.out 1
            have hfz91_2 := blk_frozen BK177.out 2
            have hfz91_3 := blk_frozen BK177.out 3
            have hfz91_4 := blk_frozen BK177.out 4
            have hfz91_5 := blk_frozen BK177.out 5
            have hfz91_6 := blk_frozen BK177.out 6
            have hfz91_7 := blk_frozen BK177.out 7
            have hfz91_8 := blk_frozen BK177.out 8
            have hfz91_9 := blk_frozen BK177.out 9
            have hnb92 := NB140_101.out
            have hnc92 := NB101_140.out
            have hnb93 := NB140_102.out
            have hnc93 := NB102_140.out
            have hnb94 := NB140_141.out
            have hnc94 := NB141_140.out
            have hnb95 := NB140_178.out
            have hnc95 := NB178_140.out
            have hcz96_0 : w85.cell? ⟨gb140, 0, none⟩ = some (.int .i64 t122) := (blk_cell BK140.out 0).trans rfl
            have hcz96_1 : w85.cell? ⟨gb140, 1, none⟩ = some (.int .i64 t123) := (blk_cell BK140.out 1).trans rfl
            have hcz96_2 : w85.cell? ⟨gb140, 2, none⟩ = some (.int .i64 t124) := (blk_cell BK140.out 2).trans rfl
            have hcz96_3 : w85.cell? ⟨gb140, 3, none⟩ = some (.int .i64 t125) := (blk_cell BK140.out 3).trans rfl
            have hcz96_4 : w85.cell? ⟨gb140, 4, none⟩ = some (.string t126) := (blk_cell BK140.out 4).trans rfl
            have hcz96_5 : w85.cell? ⟨gb140, 5, none⟩ = some (.string t127) := (blk_cell BK140.out 5).trans rfl
            have hcz96_6 : w85.cell? ⟨gb140, 6, none⟩ = some (.int .i64 t128) := (blk_cell BK140.out 6).trans rfl
            have hcz96_7 : w85.cell? ⟨gb140, 7, none⟩ = some (.int .i64 t129) := (blk_cell BK140.out 7).trans rfl
            have hcz96_8 : w85.cell? ⟨gb140, 8, none⟩ = some (.string t130) := (blk_cell BK140.out 8).trans rfl
            have hcz96_9 : w85.cell? ⟨gb140, 9, none⟩ = some (.string t131) := (blk_cell BK140.out 9).trans rfl
            have hfz96_0 := blk_frozen BK140.out 0
            have hfz96_1 := blk_frozen BK140.out 1
            have hfz96_2 := blk_frozen BK140.out 2
            have hfz96_3 := blk_frozen BK140.out 3
            have hfz96_4 := blk_frozen BK140.out 4
            have hfz96_5 := blk_frozen BK140.out 5
            have hfz96_6 := blk_frozen BK140.out 6
            have hfz96_7 := blk_frozen BK140.out 7
            have hfz96_8 := blk_frozen BK140.out 8
            have hfz96_9 := blk_frozen BK140.out 9
            try go_wp2_with (first | ((with_reducible refine gate_callee (f := 46) rfl ?_); refine goesL_ (some 46) rfl rfl Tryz.func46 (by kernel_rfl) rfl #[.agg #[.int .i64 t159, .int .i64 t160, .int .i64 t161, .int .i64 t162, .string t163, .string t164, .int .i64 t165, .int .i64 t166, .string t167, .string t168], .agg #[.int .i64 t122, .int .i64 t123, .int .i64 t124, .int .i64 t125, .string t126, .string t127, .int .i64 t128, .int .i64 t129, .string t130, .string t131]] rfl (by (try simp only [List.map_toArray, List.map_cons, List.map_nil]); first | done | rfl | (simp only [List.length_drop, List.length_take]; rfl)) ?_; (with_reducible refine (laws_eqConv.calls t159 t160 t161 t162 t163 t164 t165 t166 t167 t168 t122 t123 t124 t125 t126 t127 t128 t129 t130 t131 true _ A26.out).mono ?_); rintro e w97 ⟨rfl, hb⟩; refine ⟨_, rfl, ?_⟩; have n0_ := Aside0.mk (blk_below (g := gb101) (o := .cells #[.int .i64 a0_0, .int .i64 a0_1, .int .i64 a0_2, .int .i64 a0_3, .string a0_4, .string a0_5, .int .i64 a0_6, .int .i64 a0_7, .string a0_8, .string a0_9] 57 (0, 0)) (by (with_reducible repeat (first | refine blk_drewN ?_ _ | refine blk_drew ?_ | refine blk_alloc ?_ _)); exact BK101.out) hb); have n1_ := Aside0.mk (blk_below (g := gb102) (o := .cells #[.int .i64 a2_0, .int .i64 a2_1, .int .i64 a2_2, .int .i64 a2_3, .int .i64 a2_4, .int .i64 a2_5, .string a2_6] 59 (0, 0)) (by (with_reducible repeat (first | refine blk_drewN ?_ _ | refine blk_drew ?_ | refine blk_alloc ?_ _)); exact BK102.out) hb); have n2_ := Aside0.mk (blk_below (g := gb140) (o := .cells #[.int .i64 t122, .int .i64 t123, .int .i64 t124, .int .i64 t125, .string t126, .string t127, .int .i64 t128, .int .i64 t129, .string t130, .string t131] 64 (0, 0)) (by (with_reducible repeat (first | refine blk_drewN ?_ _ | refine blk_drew ?_ | refine blk_alloc ?_ _)); exact BK140.out) hb); have n3_ := Aside0.mk (blk_below (g := gb141) (o := .cells #[.int .i64 t132, .int .i64 t133, .int .i64 t134, .int .i64 t135, .int .i64 t136, .int .i64 t137, .string t138] 66 (0, 0)) (by (with_reducible repeat (first | refine blk_drewN ?_ _ | refine blk_drew ?_ | refine blk_alloc ?_ _)); exact BK141.out) hb); have n4_ := Aside0.mk (blk_below (g := gb177) (o := .cells #[.int .i64 t159, .int .i64 t160, .int .i64 t161, .int .i64 t162, .string t163, .string t164, .int .i64 t165, .int .i64 t166, .string t167, .string t168] 64 (0, 0)) (by (with_reducible repeat (first | refine blk_drewN ?_ _ | refine blk_drew ?_ | refine blk_alloc ?_ _)); exact BK177.out) hb); have n5_ := Aside0.mk (blk_below (g := gb178) (o := .cells #[.int .i64 t169, .int .i64 t170, .int .i64 t171, .int .i64 t172, .int .i64 t173, .int .i64 t174, .string t175] 66 (0, 0)) (by (with_reducible repeat (first | refine blk_drewN ?_ _ | refine blk_drew ?_ | refine blk_alloc ?_ _)); exact BK178.out) hb); have n6_ := Aside0.mk (below_step (by repeat (first | (with_reducible first | exact HB.out | apply below_alloc | apply pw_below_drewN | apply below_drew1 | refine below_set ?_ GE101.out | refine below_set ?_ GE102.out | refine below_set ?_ GE140.out | refine below_set ?_ GE141.out | refine below_set ?_ GE177.out | refine below_set ?_ GE178.out) | exact HB.out)) hb); clear BK101; clear BK102; clear BK140; clear BK141; clear BK177; clear BK178; clear HB; have BK101 := n0_; have BK102 := n1_; have BK140 := n2_; have BK141 := n3_; have BK177 := n4_; have BK178 := n5_; have HB := n6_; clear n0_ n1_ n2_ n3_ n4_ n5_ n6_; (try clear hb); (try clear hb2); (try clear hk); (try clear hi); have hnb98 := NB178_101.out; have hnc98 := NB101_178.out; have hnb99 := NB178_102.out; have hnc99 := NB102_178.out; have hnb100 := NB178_141.out; have hnc100 := NB141_178.out; have hcz101_0 : w97.cell? ⟨gb178, 0, none⟩ = some (.int .i64 t169) := (blk_cell BK178.out 0).trans rfl; have hcz101_1 : w97.cell? ⟨gb178, 1, none⟩ = some (.int .i64 t170) := (blk_cell BK178.out 1).trans rfl; have hcz101_2 : w97.cell? ⟨gb178, 2, none⟩ = some (.int .i64 t171) := (blk_cell BK178.out 2).trans rfl; have hcz101_3 : w97.cell? ⟨gb178, 3, none⟩ = some (.int .i64 t172) := (blk_cell BK178.out 3).trans rfl; have hcz101_4 : w97.cell? ⟨gb178, 4, none⟩ = some (.int .i64 t173) := (blk_cell BK178.out 4).trans rfl; have hcz101_5 : w97.cell? ⟨gb178, 5, none⟩ = some (.int .i64 t174) := (blk_cell BK178.out 5).trans rfl; have hcz101_6 : w97.cell? ⟨gb178, 6, none⟩ = some (.string t175) := (blk_cell BK178.out 6).trans rfl; have hfz101_0 := blk_frozen BK178.out 0; have hfz101_1 := blk_frozen BK178.out 1; have hfz101_2 := blk_frozen BK178.out 2; have hfz101_3 := blk_frozen BK178.out 3; have hfz101_4 := blk_frozen BK178.out 4; have hfz101_5 := blk_frozen BK178.out 5; have hfz101_6 := blk_frozen BK178.out 6; have hnb102 := NB141_101.out; have hnc102 := NB101_141.out; have hnb103 := NB141_102.out; have hnc103 := NB102_141.out; have hcz104_0 : w97.cell? ⟨gb141, 0, none⟩ = some (.int .i64 t132) := (blk_cell BK141.out 0).trans rfl; have hcz104_1 : w97.cell? ⟨gb141, 1, none⟩ = some (.int .i64 t133) := (blk_cell BK141.out 1).trans rfl; have hcz104_2 : w97.cell? ⟨gb141, 2, none⟩ = some (.int .i64 t134) := (blk_cell BK141.out 2).trans rfl; have hcz104_3 : w97.cell? ⟨gb141, 3, none⟩ = some (.int .i64 t135) := (blk_cell BK141.out 3).trans rfl; have hcz104_4 : w97.cell? ⟨gb141, 4, none⟩ = some (.int .i64 t136) := (blk_cell BK141.out 4).trans rfl; have hcz104_5 : w97.cell? ⟨gb141, 5, none⟩ = some (.int .i64 t137) := (blk_cell BK141.out 5).trans rfl; have hcz104_6 : w97.cell? ⟨gb141, 6, none⟩ = some (.string t138) := (blk_cell BK141.out 6).trans rfl; have hfz104_0 := blk_frozen BK141.out 0; have hfz104_1 := blk_frozen BK141.out 1; have hfz104_2 := blk_frozen BK141.out 2; have hfz104_3 := blk_frozen BK141.out 3; have hfz104_4 := blk_frozen BK141.out 4; have hfz104_5 := blk_frozen BK141.out 5; have hfz104_6 := blk_frozen BK141.out 6) | (go_at_call 47; (with_reducible refine (laws_eqPkt.calls t169 t170 t171 t172 t173 t174 t175 t132 t133 t134 t135 t136 t137 t138 true _ A28.out).mono ?_); rintro e w105 ⟨rfl, hb⟩; have n0_ := Aside0.mk (blk_below (g := gb101) (o := .cells #[.int .i64 a0_0, .int .i64 a0_1, .int .i64 a0_2, .int .i64 a0_3, .string a0_4, .string a0_5, .int .i64 a0_6, .int .i64 a0_7, .string a0_8, .string a0_9] 57 (0, 0)) (by (with_reducible repeat (first | refine blk_drewN ?_ _ | refine blk_drew ?_ | refine blk_alloc ?_ _)); exact BK101.out) hb); have n1_ := Aside0.mk (blk_below (g := gb102) (o := .cells #[.int .i64 a2_0, .int .i64 a2_1, .int .i64 a2_2, .int .i64 a2_3, .int .i64 a2_4, .int .i64 a2_5, .string a2_6] 59 (0, 0)) (by (with_reducible repeat (first | refine blk_drewN ?_ _ | refine blk_drew ?_ | refine blk_alloc ?_ _)); exact BK102.out) hb); have n2_ := Aside0.mk (blk_below (g := gb140) (o := .cells #[.int .i64 t122, .int .i64 t123, .int .i64 t124, .int .i64 t125, .string t126, .string t127, .int .i64 t128, .int .i64 t129, .string t130, .string t131] 64 (0, 0)) (by (with_reducible repeat (first | refine blk_drewN ?_ _ | refine blk_drew ?_ | refine blk_alloc ?_ _)); exact BK140.out) hb); have n3_ := Aside0.mk (blk_below (g := gb141) (o := .cells #[.int .i64 t132, .int .i64 t133, .int .i64 t134, .int .i64 t135, .int .i64 t136, .int .i64 t137, .string t138] 66 (0, 0)) (by (with_reducible repeat (first | refine blk_drewN ?_ _ | refine blk_drew ?_ | refine blk_alloc ?_ _)); exact BK141.out) hb); have n4_ := Aside0.mk (blk_below (g := gb177) (o := .cells #[.int .i64 t159, .int .i64 t160, .int .i64 t161, .int .i64 t162, .string t163, .string t164, .int .i64 t165, .int .i64 t166, .string t167, .string t168] 64 (0, 0)) (by (with_reducible repeat (first | refine blk_drewN ?_ _ | refine blk_drew ?_ | refine blk_alloc ?_ _)); exact BK177.out) hb); have n5_ := Aside0.mk (blk_below (g := gb178) (o := .cells #[.int .i64 t169, .int .i64 t170, .int .i64 t171, .int .i64 t172, .int .i64 t173, .int .i64 t174, .string t175] 66 (0, 0)) (by (with_reducible repeat (first | refine blk_drewN ?_ _ | refine blk_drew ?_ | refine blk_alloc ?_ _)); exact BK178.out) hb); have n6_ := Aside0.mk (below_step (by repeat (first | (with_reducible first | exact HB.out | apply below_alloc | apply pw_below_drewN | apply below_drew1 | refine below_set ?_ GE101.out | refine below_set ?_ GE102.out | refine below_set ?_ GE140.out | refine below_set ?_ GE141.out | refine below_set ?_ GE177.out | refine below_set ?_ GE178.out) | exact HB.out)) hb); clear BK101; clear BK102; clear BK140; clear BK141; clear BK177; clear BK178; clear HB; have BK101 := n0_; have BK102 := n1_; have BK140 := n2_; have BK141 := n3_; have BK177 := n4_; have BK178 := n5_; have HB := n6_; clear n0_ n1_ n2_ n3_ n4_ n5_ n6_; (try clear hb); (try clear hb2); (try clear hk); (try clear hi)))
            go_ret
            exact ⟨by first | rfl | (simp [errW_none, errW_some] <;> rfl) | (simp [*, errW_none, errW_some] <;> rfl), by repeat (first | (with_reducible first | exact HB.out | apply below_alloc | apply pw_below_drewN | apply below_drew1 | refine below_set ?_ GE101.out | refine below_set ?_ GE102.out | refine below_set ?_ GE140.out | refine below_set ?_ GE141.out | refine below_set ?_ GE177.out | refine below_set ?_ GE178.out) | exact HB.out)⟩
        · replace c29 := Bool.eq_false_iff.mpr c29
          subst c29
          have H1 : (none) = some r := by rw [if_neg (show ¬ (false = true) by decide)] at H; exact H
          clear H
          have H := H1
          clear H1
          exact absurd H (by simp)
      · replace c27 := Bool.eq_false_iff.mpr c27
        subst c27
        have H1 : (none) = some r := by rw [if_neg (show ¬ (false = true) by decide)] at H; exact H
        clear H
        have H := H1
        clear H1
        exact absurd H (by simp)
end
end Go.Proofs.YtfjbjiklohjodaaGreatDoor.Q
namespace Go.Proofs.YtfjbjiklohjodaaGreatDoor.Q
open Go.RowKit Go.Proofs.YtfjbjiklohjodaaGreatDoorW.PrintWords Go.Proofs.YtfjbjiklohjodaaGreatDoorW.PrintMore Go.Proofs.YtfjbjiklohjodaaGreatDoor.Z
set_option linter.unusedVariables false
set_option linter.unusedSimpArgs false
theorem szConv_to (a0_0 : Int) (a0_1 : Int) (a0_2 : Int) (a0_3 : Int) (a0_4 : ByteArray) (a0_5 : ByteArray) (a0_6 : Int) (a0_7 : Int) (a0_8 : ByteArray) (a0_9 : ByteArray) (h4 : a0_4.size ≤ 9223372036854775807) (h5 : a0_5.size ≤ 9223372036854775807) (h8 : a0_8.size ≤ 9223372036854775807) (h9 : a0_9.size ≤ 9223372036854775807) : ∃ t, laws_szConv.f a0_0 a0_1 a0_2 a0_3 a0_4 a0_5 a0_6 a0_7 a0_8 a0_9 1048576 = some t ∧ t ≤ 1048576 ∧ (0 ≤ t → a0_4.size ≤ 1048576 ∧ a0_5.size ≤ 1048576 ∧ a0_8.size ≤ 1048576 ∧ a0_9.size ≤ 1048576) := by
  unfold laws_szConv.f
  rw [w64 (x := 1048576 - (a0_4.size : Int)) (by omega)]
  by_cases c4 : 1048576 - (a0_4.size : Int) < 0
  · rw [if_pos c4]
    exact ⟨-1, rfl, by omega, fun h => absurd h (by omega)⟩
  rw [if_neg c4]
  rw [w64 (x := 1048576 - (a0_4.size : Int) - (a0_5.size : Int)) (by omega)]
  by_cases c5 : 1048576 - (a0_4.size : Int) - (a0_5.size : Int) < 0
  · rw [if_pos c5]
    exact ⟨-1, rfl, by omega, fun h => absurd h (by omega)⟩
  rw [if_neg c5]
  rw [w64 (x := 1048576 - (a0_4.size : Int) - (a0_5.size : Int) - (a0_8.size : Int)) (by omega)]
  by_cases c8 : 1048576 - (a0_4.size : Int) - (a0_5.size : Int) - (a0_8.size : Int) < 0
  · rw [if_pos c8]
    exact ⟨-1, rfl, by omega, fun h => absurd h (by omega)⟩
  rw [if_neg c8]
  rw [w64 (x := 1048576 - (a0_4.size : Int) - (a0_5.size : Int) - (a0_8.size : Int) - (a0_9.size : Int)) (by omega)]
  by_cases c9 : 1048576 - (a0_4.size : Int) - (a0_5.size : Int) - (a0_8.size : Int) - (a0_9.size : Int) < 0
  · rw [if_pos c9]
    exact ⟨-1, rfl, by omega, fun h => absurd h (by omega)⟩
  rw [if_neg c9]
  exact ⟨_, rfl, by omega, fun h => ⟨by omega, by omega, by omega, by omega⟩⟩
theorem szPkt_to (a2_0 : Int) (a2_1 : Int) (a2_2 : Int) (a2_3 : Int) (a2_4 : Int) (a2_5 : Int) (a2_6 : ByteArray) (u : Int) (hu : 0 ≤ u ∧ u ≤ 1048576) (h6 : a2_6.size ≤ 9223372036854775807) : ∃ t, laws_szPkt.f a2_0 a2_1 a2_2 a2_3 a2_4 a2_5 a2_6 u = some t ∧ (0 ≤ t → a2_6.size ≤ 1048576) := by
  unfold laws_szPkt.f
  rw [w64 (x := u - (a2_6.size : Int)) (by omega)]
  by_cases c : u - (a2_6.size : Int) < 0
  · rw [if_pos c]
    exact ⟨-1, rfl, fun h => absurd h (by omega)⟩
  rw [if_neg c]
  exact ⟨_, rfl, fun h => by omega⟩
theorem FnExactConvHear_true (a0_0 : Int) (a0_1 : Int) (a0_2 : Int) (a0_3 : Int) (a0_4 : ByteArray) (a0_5 : ByteArray) (a0_6 : Int) (a0_7 : Int) (a0_8 : ByteArray) (a0_9 : ByteArray) (a1 : Bool) (a2_0 : Int) (a2_1 : Int) (a2_2 : Int) (a2_3 : Int) (a2_4 : Int) (a2_5 : Int) (a2_6 : ByteArray) (h4 : a0_4.size ≤ 9223372036854775807) (h5 : a0_5.size ≤ 9223372036854775807) (h8 : a0_8.size ≤ 9223372036854775807) (h9 : a0_9.size ≤ 9223372036854775807) (h6 : a2_6.size ≤ 9223372036854775807) : laws_FnExactConvHear.f a0_0 a0_1 a0_2 a0_3 a0_4 a0_5 a0_6 a0_7 a0_8 a0_9 a1 a2_0 a2_1 a2_2 a2_3 a2_4 a2_5 a2_6 = some true := by
  unfold laws_FnExactConvHear.f
  obtain ⟨t, ht, ht2, ht3⟩ := szConv_to a0_0 a0_1 a0_2 a0_3 a0_4 a0_5 a0_6 a0_7 a0_8 a0_9 h4 h5 h8 h9
  rw [ht, Option.bind_some]
  by_cases c : t < 0
  · rw [if_pos c]
  rw [if_neg c]
  obtain ⟨u, hu, hu3⟩ := szPkt_to a2_0 a2_1 a2_2 a2_3 a2_4 a2_5 a2_6 t ⟨by omega, ht2⟩ h6
  rw [hu, Option.bind_some]
  by_cases c2 : u < 0
  · rw [if_pos c2]
  rw [if_neg c2]
  obtain ⟨s4, s5, s8, s9⟩ := ht3 (by omega)
  have s6 := hu3 (by omega)
  have hC : laws_toConv.f a0_0 a0_1 a0_2 a0_3 a0_4 a0_5 a0_6 a0_7 a0_8 a0_9 = some (a0_0, a0_1, a0_2, a0_3, a0_4, a0_5, a0_6, a0_7, a0_8, a0_9) := rfl
  have hP : laws_toPkt.f a2_0 a2_1 a2_2 a2_3 a2_4 a2_5 a2_6 = some (a2_0, a2_1, a2_2, a2_3, a2_4, a2_5, a2_6) := rfl
  obtain ⟨R, hR⟩ : ∃ R, hearFlat ⟨⟨a0_0, a0_1⟩, ⟨a0_2, a0_3⟩, bl a0_4, bl a0_5, a0_6, a0_7, bl a0_8, bl a0_9⟩ a1 ⟨a2_0, ⟨a2_1, a2_2⟩, ⟨a2_3, a2_4⟩, a2_5, bl a2_6⟩ = R := ⟨_, rfl⟩
  have hs : spec_ConvHear.f a0_0 a0_1 a0_2 a0_3 a0_4 a0_5 a0_6 a0_7 a0_8 a0_9 a1 a2_0 a2_1 a2_2 a2_3 a2_4 a2_5 a2_6 = some R := by
    unfold spec_ConvHear.f
    rw [if_pos ⟨by omega, by omega, by omega, by omega, by omega⟩, hR]
  have hi : impl_ConvHear.f a0_0 a0_1 a0_2 a0_3 a0_4 a0_5 a0_6 a0_7 a0_8 a0_9 a1 a2_0 a2_1 a2_2 a2_3 a2_4 a2_5 a2_6 = some R := by
    unfold impl_ConvHear.f
    rw [if_pos ⟨by omega, by omega, by omega, by omega, by omega⟩, hR]
  clear hR ht hu ht3 hu3
  obtain ⟨r1, r2, r3, r4, r5, r6, r7, r8, r9, r10, r11, r12, r13, r14, r15, r16, r17, r18⟩ := R
  have hq : laws_eqConv.f r1 r2 r3 r4 r5 r6 r7 r8 r9 r10 r1 r2 r3 r4 r5 r6 r7 r8 r9 r10 = some true := if_pos ⟨rfl, rfl, rfl, rfl, rfl, rfl, rfl, rfl, rfl, rfl⟩
  have hk : laws_eqPkt.f r11 r12 r13 r14 r15 r16 r17 r11 r12 r13 r14 r15 r16 r17 = some true := if_pos ⟨rfl, rfl, rfl, rfl, rfl, rfl, rfl⟩
  rw [hC, Option.bind_some, hP, Option.bind_some]
  simp only
  rw [hs, Option.bind_some, Option.bind_some, Option.bind_some]
  simp only
  rw [hi, Option.bind_some]
  simp only
  rw [hq, Option.bind_some, if_pos rfl, hk, Option.bind_some, if_pos rfl, if_neg (by simp)]
end Go.Proofs.YtfjbjiklohjodaaGreatDoor.Q
namespace Go.Proofs.YtfjbjiklohjodaaGreatDoor.Z
open Go.RowKit Go.Proofs.YtfjbjiklohjodaaGreatDoorW.PrintWords
set_option linter.unusedVariables false
def Opens {α : Type} (P : Program) (t : TypeId) (d : Kd α) (good : α → Prop) : Prop := P.cellsOf t = d.sz ∧
  ∀ (H : Type) (enc : TypeId × Value → H) (w : World) (base : Nat) (spare : Nat → Bool) (held : Bool) (fuel : Nat) (cs : List Value) (x : DataW H × List MemPlace), DataW.trod enc P w base spare held fuel t cs = some x → ∃ v, d.K w v cs ∧ good v
section
variable {P : Program} {t e : TypeId}
theorem Opens.int {k : IntKind} (ht : P.underlying t = some (.int k)) (hc : P.cellsOf t = 1) : Opens P t (Kd.int k) (fun n => (Lit.int k n).wf = true) :=
  ⟨hc, fun H enc w base spare held fuel cs x h => let ⟨n, e, _, g⟩ := DataW.trod_int ht h; ⟨n, e, g⟩⟩
theorem Opens.bool (ht : P.underlying t = some .bool) (hc : P.cellsOf t = 1) : Opens P t Kd.bool (fun _ => True) :=
  ⟨hc, fun H enc w base spare held fuel cs x h => let ⟨n, e, _⟩ := DataW.trod_bool ht h; ⟨n, e, trivial⟩⟩
theorem Opens.string (ht : P.underlying t = some .string) (hc : P.cellsOf t = 1) : Opens P t Kd.string (fun s => s.size ≤ maxLen) :=
  ⟨hc, fun H enc w base spare held fuel cs x h => let ⟨n, e, _, g⟩ := DataW.trod_string ht h; ⟨n, e, g⟩⟩
theorem Opens.slice {α : Type} [Inhabited α] {d : Kd α} {good : α → Prop} (ht : P.underlying t = some (.slice e)) (hc : P.cellsOf t = 1) (he : Opens P e d good) : Opens P t (Kd.slice e d) (fun xs => ∀ x ∈ xs, good x) := by
  refine ⟨hc, fun H enc w base spare held fuel cs x h => ?_⟩
  rcases Deep.open_slice ht h with ⟨rfl, _⟩ | ⟨a, len, cap, m, n, D, Pl, rfl, _, hl, hm, hmm, _, hx⟩
  · exact ⟨[], ⟨none, 0, rfl, Nat.le_refl _, rfl, by simp, fun h => absurd h (Nat.lt_irrefl _)⟩, fun x hx => by cases hx⟩
  · have hlm : len ≤ m := by rw [hmm]; split <;> omega
    have each : ∀ i, i < len → ∃ v, ∃ cs', cs'.length = d.sz ∧ d.K w v cs' ∧ good v ∧ ∀ j u, cs'[j]? = some u → w.cell? (a.add (i * d.sz + j)) = some u := fun i hi => by
      obtain ⟨cs', h1, h2⟩ := hx i (by omega)
      rw [he.1] at h1
      obtain ⟨_, hlen, hcell⟩ := World.cells?_some h1
      obtain ⟨v, hK, hg⟩ := he.2 H enc w base spare held n cs' _ h2
      refine ⟨v, cs', hlen, hK, hg, fun j u hu => ?_⟩
      have hj : j < cs'.length := (List.getElem?_eq_some_iff.1 hu).1
      have := hcell j (by omega)
      rw [Deep.add_add] at this
      rw [this, hu]
    obtain ⟨f, hf⟩ := Deep.choose_lt each
    refine ⟨(List.range len).map f, ⟨some a, cap, by simp, by simpa using hl, by simp, ?_, ?_⟩, ?_⟩
    · have := hm; unfold maxLen at this; simp; omega
    · intro _
      refine ⟨a, rfl, fun j p hj => ?_⟩
      obtain ⟨hj1, hj2⟩ := List.getElem?_eq_some_iff.1 hj
      simp at hj1 hj2
      obtain ⟨cs', h1, h2, _, h4⟩ := hf j hj1
      exact ⟨cs', h1, hj2 ▸ h2, h4⟩
    · intro x hx
      obtain ⟨i, hi, rfl⟩ := List.mem_map.1 hx
      obtain ⟨_, _, _, h3, _⟩ := hf i (List.mem_range.1 hi)
      exact h3
def OpensF {α : Type} (P : Program) (fs : List Field) (off : Nat) (d : Kd α) (good : α → Prop) : Prop :=
  ∀ (H : Type) (enc : TypeId × Value → H) (w : World) (base : Nat) (spare : Nat → Bool) (held : Bool) (n : Nat) (cs : List Value) (xs : List (DataW H × List MemPlace)), cs.length = off + d.sz → xs.length = fs.length →
    (∀ (i : Nat) (f : Field), fs[i]? = some f → DataW.trod enc P w base spare held n f.type ((cs.drop f.offset).take (P.cellsOf f.type)) = xs[i]?) → ∃ v, d.K w v (cs.drop off) ∧ good v
theorem OpensF.last {α : Type} {f : Field} {off : Nat} {d : Kd α} {good : α → Prop} (ho : f.offset = off) (h : Opens P f.type d good) : OpensF P [f] off d good := by
  intro H enc w base spare held n cs xs hl hx ht
  have h0 := ht 0 f rfl
  rw [ho, h.1, List.take_of_length_le (by rw [List.length_drop]; omega), List.getElem?_eq_getElem (by rw [hx]; exact Nat.one_pos)] at h0
  exact h.2 H enc w base spare held n _ _ h0
theorem OpensF.cons {α β : Type} {f : Field} {fs : List Field} {off off' : Nat} {d : Kd α} {d' : Kd β} {good : α → Prop} {good' : β → Prop} (ho : f.offset = off) (h : Opens P f.type d good) (hoff : off' = off + d.sz) (hr : OpensF P fs off' d' good') :
    OpensF P (f :: fs) off (Kd.pair d d') (fun x => good x.1 ∧ good' x.2) := by
  subst hoff
  intro H enc w base spare held n cs xs hl hx ht
  have hl' : cs.length = off + (d.sz + d'.sz) := hl
  cases xs with
  | nil => simp at hx
  | cons y ys =>
    have h0 := ht 0 f rfl
    rw [ho, h.1] at h0
    obtain ⟨v, hK, hg⟩ := h.2 H enc w base spare held n _ y h0
    obtain ⟨v', hK', hg'⟩ := hr H enc w base spare held n cs ys (by omega) (by simpa using hx) (fun i f hf => ht (i + 1) f (by simpa using hf))
    refine ⟨(v, v'), ⟨(cs.drop off).take d.sz, cs.drop (off + d.sz), ?_, hK, hK'⟩, hg, hg'⟩
    have e := List.take_append_drop d.sz (cs.drop off)
    rw [List.drop_drop] at e
    exact e.symm
theorem Opens.struct {α β : Type} {fs : Array Field} {d : Kd α} {good : α → Prop} (ht : P.underlying t = some (.struct fs)) (hc : P.cellsOf t = d.sz) (hF : OpensF P fs.toList 0 d good) (f : β → α) (g : α → β) (hfg : ∀ a, f (g a) = a) : Opens P t (Kd.iso d f) (fun x => good (f x)) := by
  refine ⟨hc, fun H enc w base spare held fuel cs x h => ?_⟩
  obtain ⟨xs, n, _, _, hl, hx, hf⟩ := DataW.trod_struct ht h
  obtain ⟨v, hK, hg⟩ := hF H enc w base spare held n cs xs (by rw [hl, hc]; omega) (by simpa using hx) (fun i fd hi => hf i fd (by simpa using hi))
  refine ⟨g v, ?_, by show good (f (g v)); rw [hfg]; exact hg⟩
  show d.K w (f (g v)) cs
  rw [hfg]
  simpa using hK
end
def i64ok (n : Int) : Prop := (Lit.int .i64 n).wf = true
theorem openInt : Opens Tryz.prog 3 (Kd.int .i64) i64ok := Opens.int Tryz.underlying3 (by kernel_rfl)
end Go.Proofs.YtfjbjiklohjodaaGreatDoor.Z
namespace Go.Proofs.YtfjbjiklohjodaaGreatDoor.Z
open Go.RowKit Go.Proofs.YtfjbjiklohjodaaGreatDoorW.PrintWords Go.WideShapes
set_option linter.unusedVariables false
abbrev dE3 : Kd (Int × Int) := Kd.iso (Kd.pair (Kd.int .i64) (Kd.int .i64)) (fun x : Int × Int => x)
theorem openE3 : Opens Tryz.prog 55 dE3 (fun x => i64ok x.1 ∧ i64ok x.2) := Opens.struct Tryz.underlying55 (by kernel_rfl) (OpensF.cons rfl openInt rfl (OpensF.last rfl openInt)) (fun x : Int × Int => x) (fun x => x) (fun _ => rfl)
theorem openStr : Opens Tryz.prog 9 Kd.string (fun s => s.size ≤ maxLen) := Opens.string Tryz.underlying9 (by kernel_rfl)
abbrev dConvL : Kd ((Int × Int) × (Int × Int) × ByteArray × ByteArray × Int × Int × ByteArray × ByteArray) := Kd.iso (Kd.pair dE3 (Kd.pair dE3 (Kd.pair Kd.string (Kd.pair Kd.string (Kd.pair (Kd.int .i64) (Kd.pair (Kd.int .i64) (Kd.pair Kd.string Kd.string))))))) (fun x : (Int × Int) × (Int × Int) × ByteArray × ByteArray × Int × Int × ByteArray × ByteArray => x)
theorem openConvL : Opens Tryz.prog 57 dConvL (fun x => (i64ok x.1.1 ∧ i64ok x.1.2) ∧ (i64ok x.2.1.1 ∧ i64ok x.2.1.2) ∧ x.2.2.1.size ≤ maxLen ∧ x.2.2.2.1.size ≤ maxLen ∧ i64ok x.2.2.2.2.1 ∧ i64ok x.2.2.2.2.2.1 ∧ x.2.2.2.2.2.2.1.size ≤ maxLen ∧ x.2.2.2.2.2.2.2.size ≤ maxLen) := Opens.struct Tryz.underlying57 (by kernel_rfl) (OpensF.cons rfl openE3 rfl (OpensF.cons rfl openE3 rfl (OpensF.cons rfl openStr rfl (OpensF.cons rfl openStr rfl (OpensF.cons rfl openInt rfl (OpensF.cons rfl openInt rfl (OpensF.cons rfl openStr rfl (OpensF.last rfl openStr)))))))) (fun x : (Int × Int) × (Int × Int) × ByteArray × ByteArray × Int × Int × ByteArray × ByteArray => x) (fun x => x) (fun _ => rfl)
set_option maxRecDepth 100000 in
theorem conv_of {W w : World} {r : Reach} {base : Nat} {v : Value} {x : (Int × Int) × (Int × Int) × ByteArray × ByteArray × Int × Int × ByteArray × ByteArray} (h : Value.okWide Tryz.prog W r base 57 v) (hK : dConvL.K w x v.cells.toList) (hg : (i64ok x.1.1 ∧ i64ok x.1.2) ∧ (i64ok x.2.1.1 ∧ i64ok x.2.1.2) ∧ x.2.2.1.size ≤ maxLen ∧ x.2.2.2.1.size ≤ maxLen ∧ i64ok x.2.2.2.2.1 ∧ i64ok x.2.2.2.2.2.1 ∧ x.2.2.2.2.2.2.1.size ≤ maxLen ∧ x.2.2.2.2.2.2.2.size ≤ maxLen) :
    ∃ (x0 : Int) (y0 : Int) (x1 : Int) (y1 : Int) (x2 : ByteArray) (x3 : ByteArray) (x4 : Int) (x5 : Int) (x6 : ByteArray) (x7 : ByteArray), v = .agg #[.int .i64 x0, .int .i64 y0, .int .i64 x1, .int .i64 y1, .string x2, .string x3, .int .i64 x4, .int .i64 x5, .string x6, .string x7] ∧ x2.size ≤ maxLen ∧ x3.size ≤ maxLen ∧ x6.size ≤ maxLen ∧ x7.size ≤ maxLen := by
  obtain ⟨cs, rfl, _⟩ := okWide_struct Tryz.underlying57 h
  obtain ⟨⟨x0, y0⟩, ⟨x1, y1⟩, x2, x3, x4, x5, x6, x7⟩ := x
  obtain ⟨_, _, g2, g3, _, _, g6, g7⟩ := hg
  obtain ⟨_, _, e, ⟨_, _, rfl, rfl, rfl⟩, ⟨_, _, rfl, ⟨_, _, rfl, rfl, rfl⟩, ⟨_, _, rfl, rfl, ⟨_, _, rfl, rfl, ⟨_, _, rfl, rfl, ⟨_, _, rfl, rfl, ⟨_, _, rfl, rfl, rfl⟩⟩⟩⟩⟩⟩⟩ := hK
  refine ⟨x0, y0, x1, y1, x2, x3, x4, x5, x6, x7, ?_, g2, g3, g6, g7⟩
  have h3 : cs = #[.int .i64 x0, .int .i64 y0, .int .i64 x1, .int .i64 y1, .string x2, .string x3, .int .i64 x4, .int .i64 x5, .string x6, .string x7] := by
    apply Array.ext'
    simpa [Value.cells] using e
  rw [h3]
abbrev dPktL : Kd (Int × (Int × Int) × (Int × Int) × Int × ByteArray) := Kd.iso (Kd.pair (Kd.int .i64) (Kd.pair dE3 (Kd.pair dE3 (Kd.pair (Kd.int .i64) Kd.string)))) (fun x : Int × (Int × Int) × (Int × Int) × Int × ByteArray => x)
theorem openPktL : Opens Tryz.prog 59 dPktL (fun x => i64ok x.1 ∧ (i64ok x.2.1.1 ∧ i64ok x.2.1.2) ∧ (i64ok x.2.2.1.1 ∧ i64ok x.2.2.1.2) ∧ i64ok x.2.2.2.1 ∧ x.2.2.2.2.size ≤ maxLen) := Opens.struct Tryz.underlying59 (by kernel_rfl) (OpensF.cons rfl openInt rfl (OpensF.cons rfl openE3 rfl (OpensF.cons rfl openE3 rfl (OpensF.cons rfl openInt rfl (OpensF.last rfl openStr))))) (fun x : Int × (Int × Int) × (Int × Int) × Int × ByteArray => x) (fun x => x) (fun _ => rfl)
set_option maxRecDepth 100000 in
theorem pkt_of {W w : World} {r : Reach} {base : Nat} {v : Value} {x : Int × (Int × Int) × (Int × Int) × Int × ByteArray} (h : Value.okWide Tryz.prog W r base 59 v) (hK : dPktL.K w x v.cells.toList) (hg : i64ok x.1 ∧ (i64ok x.2.1.1 ∧ i64ok x.2.1.2) ∧ (i64ok x.2.2.1.1 ∧ i64ok x.2.2.1.2) ∧ i64ok x.2.2.2.1 ∧ x.2.2.2.2.size ≤ maxLen) :
    ∃ (x0 : Int) (x1 : Int) (y1 : Int) (x2 : Int) (y2 : Int) (x3 : Int) (x4 : ByteArray), v = .agg #[.int .i64 x0, .int .i64 x1, .int .i64 y1, .int .i64 x2, .int .i64 y2, .int .i64 x3, .string x4] ∧ x4.size ≤ maxLen := by
  obtain ⟨cs, rfl, _⟩ := okWide_struct Tryz.underlying59 h
  obtain ⟨x0, ⟨x1, y1⟩, ⟨x2, y2⟩, x3, x4⟩ := x
  obtain ⟨_, _, _, _, g4⟩ := hg
  obtain ⟨_, _, e, rfl, ⟨_, _, rfl, ⟨_, _, rfl, rfl, rfl⟩, ⟨_, _, rfl, ⟨_, _, rfl, rfl, rfl⟩, ⟨_, _, rfl, rfl, rfl⟩⟩⟩⟩ := hK
  refine ⟨x0, x1, y1, x2, y2, x3, x4, ?_, g4⟩
  have h3 : cs = #[.int .i64 x0, .int .i64 x1, .int .i64 y1, .int .i64 x2, .int .i64 y2, .int .i64 x3, .string x4] := by
    apply Array.ext'
    simpa [Value.cells] using e
  rw [h3]
end Go.Proofs.YtfjbjiklohjodaaGreatDoor.Z
