/- The maps of the program: what the small functions on ends and pairs return, program and reference alike. -/
import Derived.Test.YtdmbbocjaagfkaaBa
import Derived.Deep.RegionHeld3
import Derived.Deep.DrawnRows
namespace Go.Proofs.Ytdmbbocjaagfkaa.Z
open Go.RowKit Go.Proofs.YtdmbbocjaagfkaaW.PrintWords
set_option linter.unusedVariables false
set_option linter.unusedSimpArgs false
attribute [local go_sem ↓] Go.wp_at_zero Go.wp_at_succ

def inB (n lo hi : Int) : Bool := decide (lo ≤ n) && decide (n ≤ hi)
theorem impl_within (n lo hi : Int) (w : World) :
    Calls Try.prog 45 #[.int .i64 n, .int .i64 lo, .int .i64 hi] w fun e w' => e = .returned (.bool (inB n lo hi)) ∧ w = w' := by
  cases h1 : decide (lo ≤ n)
  all_goals
    go_enter Try.func45, Try.ntmps45
    go_wp2
    go_ret
    exact ⟨by simp [inB, h1], rfl⟩
theorem spec_l6In (n lo hi : Int) (w : World) :
    Calls Try.prog 43 #[.int .i64 n, .int .i64 lo, .int .i64 hi] w fun e w' => e = .returned (.bool (inB n lo hi)) ∧ w = w' := by
  cases h1 : decide (lo ≤ n)
  all_goals
    go_enter Try.func43, Try.ntmps43
    go_wp2
    go_ret
    exact ⟨by simp [inB, h1], rfl⟩

def insideB (e : En) : Bool := inB e.addr 1 3 && inB e.port 1 9
theorem impl_EndInside (e : En) (w : World) :
    Calls Try.prog 31 #[vEn e] w fun r w' => r = .returned (.bool (insideB e)) ∧ Below w.heap.size w w' := by
  cases h : inB e.addr 1 3
  all_goals
    have H := Aside0.mk h; clear h
    go_enter Try.func31, Try.ntmps31
    go_wp2_with (go_at_call 45; refine (impl_within _ _ _ _).mono ?_; rintro e w' ⟨rfl, rfl⟩; try rw [H.out])
    go_ret
    exact ⟨by simp [insideB, H.out], (Below.refl _ _).alloc (Nat.le_refl _) _⟩
theorem spec_l1Host (e : En) (w : World) :
    Calls Try.prog 44 #[vEn e] w fun r w' => r = .returned (.bool (inB e.port 1 9)) ∧ Below w.heap.size w w' := by
  go_enter Try.func44, Try.ntmps44
  go_wp2_with (go_at_call 43; refine (spec_l6In _ _ _ _).mono ?_; rintro e w' ⟨rfl, rfl⟩)
  go_ret
  exact ⟨rfl, (Below.refl _ _).alloc (Nat.le_refl _) _⟩
theorem spec_EndInside (e : En) (w : World) :
    Calls Try.prog 25 #[vEn e] w fun r w' => r = .returned (.bool (insideB e)) ∧ Below w.heap.size w w' := by
  cases h : inB e.addr 1 3
  · have H := Aside0.mk h; clear h
    go_enter Try.func25, Try.ntmps25
    go_wp2_with (go_at_call 43; refine (spec_l6In _ _ _ _).mono ?_; rintro e w' ⟨rfl, rfl⟩; rw [H.out])
    go_ret
    exact ⟨by simp [insideB, H.out], (Below.refl _ _).alloc (Nat.le_refl _) _⟩
  · have H := Aside0.mk h; clear h
    go_enter Try.func25, Try.ntmps25
    go_wp2_with (first | (go_at_call 43; refine (spec_l6In _ _ _ _).mono ?_; rintro e w' ⟨rfl, rfl⟩; rw [H.out]) | (go_at_call 44; refine (spec_l1Host e _).mono ?_; rintro _ w' ⟨rfl, hb⟩))
    go_ret
    exact ⟨by simp [insideB, H.out], ((Below.refl _ _).alloc (Nat.le_refl _) _).trans (hb.mono (by simp))⟩
theorem impl_EndDoor (e : En) (w : World) :
    Calls Try.prog 26 #[vEn e] w fun r w' => r = .returned (.bool (e.addr == 9 && inB e.port 10 17)) ∧ Below w.heap.size w w' := by
  cases h : (e.addr == 9)
  all_goals
    go_enter Try.func26, Try.ntmps26
    go_wp2_with (go_at_call 45; refine (impl_within _ _ _ _).mono ?_; rintro e w' ⟨rfl, rfl⟩)
    go_ret
    exact ⟨by simp [h], (Below.refl _ _).alloc (Nat.le_refl _) _⟩
end Go.Proofs.Ytdmbbocjaagfkaa.Z
