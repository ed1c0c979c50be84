-- Made by wip/xprint.py: the print of the kit, called over a changed copy of what it reads.
-- PRINTED by print.py (a twelfth state) out of the translation. Not trusted: Lean checks it.
import Derived.Test.YtikmlhpllgikpaaDyn
import Derived.Test.YtikmlhpllgikpaaXFnTimetablesx0
import Derived.Test.YtikmlhpllgikpaaXFnTimetablesx3
import Derived.Test.YtikmlhpllgikpaaXFnTimetablesx4
import Derived.Test.YtikmlhpllgikpaaXFnTimetablesx5
import Derived.Test.YtikmlhpllgikpaaXFnTimetablesx6
namespace Go.Proofs.Ytikmlhpllgikpaa.PFnTimetables
open Go.Proofs.Ytikmlhpllgikpaa.Dyn
open Go.Proofs.YtikmlhpllgikpaaW.PrintWords.Aside0 renaming mk → am_
open Go.Proofs.YtikmlhpllgikpaaW.PrintWords renaming below_drew1 → bd_, below_alloc → ba_, below_step → bp_, blk_cell → kc_, gate_callee → gc_
open Go.Proofs.YtikmlhpllgikpaaW.PrintWords.Kd renaming R_reads' → rr_, C_alloc → ca_, C_drewN → cn_, C_drew → cd_, C_below → cb_
attribute [local go_sem] run_mf events_mf
open Go.RowKit Go.Proofs.YtikmlhpllgikpaaW.PrintWords Go.Proofs.YtikmlhpllgikpaaW.PrintLast Go.Proofs.YtikmlhpllgikpaaW.PrintMore
attribute [local go_sem] max2_int min2_int max_two min_two max_three min_three max_four min_four   -- for this text's walks alone
set_option linter.unusedVariables false
set_option linter.unusedSimpArgs false

/-! ### spec_IsFree: function 7 -/
mutual
def spec_IsFree.l0 : Nat → List Int → List Int → Int → Option (Bool × Bool)
 | 0, _, _, _ => none
 | k + 1, x0, x1, x6 => if x6 < (x0.length : Int) then (spec_IsFree.l1 k x0 x1 x6 0) else (some (true, true))
def spec_IsFree.l1 : Nat → List Int → List Int → Int → Int → Option (Bool × Bool)
 | 0, _, _, _, _ => none
 | k + 1, x0, x1, x6, x7 => if x7 < x6 then (if 0 ≤ x6 then (if x6 < (x0.length : Int) then (if x6 < (x1.length : Int) then (if 0 ≤ x7 then (if x7 < (x0.length : Int) then (if x7 < (x1.length : Int) then ((spec_l8Meet.f k (rd x0 x6) (rd x1 x6) (rd x0 x7) (rd x1 x7)).bind fun t295 => (if t295 = true then (some (false, true)) else (spec_IsFree.l1 k x0 x1 x6 (wrap64 (x7 + 1))))) else (none)) else (none)) else (none)) else (none)) else (none)) else (none)) else (spec_IsFree.l0 k x0 x1 (wrap64 (x6 + 1)))
end
def spec_IsFree.f (k : Nat) (l0 : List Int) (l1 : List Int) : Option (Bool × Bool) := (spec_l8Table.f k l0 l1).bind fun t290 => (if t290 = true then (spec_IsFree.l0 k l0 l1 0) else (some (false, false)))
theorem spec_IsFree.mono_l : ∀ k, (∀ y0 y1 y2, LeO (spec_IsFree.l0 k y0 y1 y2) (spec_IsFree.l0 (k + 1) y0 y1 y2)) ∧ (∀ y0 y1 y2 y3, LeO (spec_IsFree.l1 k y0 y1 y2 y3) (spec_IsFree.l1 (k + 1) y0 y1 y2 y3))
 | 0 => ⟨fun _ _ _ r h => by simp [spec_IsFree.l0] at h, fun _ _ _ _ r h => by simp [spec_IsFree.l1] at h⟩
 | k + 1 => by
  obtain ⟨ih0, ih1⟩ := spec_IsFree.mono_l k
  refine ⟨?_, ?_⟩
  ·
   intro y0 y1 y2
   unfold spec_IsFree.l0
   repeat' first
   | (with_reducible exact ih0 _ _ _)
   | (with_reducible exact ih1 _ _ _ _)
   | (with_reducible exact spec_l8Meet.mono _ _ _ _ _)
   | (with_reducible exact spec_l8Table.mono _ _ _)
   | (with_reducible exact LeO.refl _)
   | (with_reducible exact LeO.none _)
   | (with_reducible refine LeO.ite ?_ ?_)
   | (with_reducible refine LeO.bind ?_ (fun _ => ?_))
   | exact ih0 _ _ _
   | exact ih1 _ _ _ _
   | exact spec_l8Meet.mono _ _ _ _ _
   | exact spec_l8Table.mono _ _ _
   | exact LeO.none _
   | refine LeO.ite ?_ ?_
   | refine LeO.bind ?_ (fun _ => ?_)
  ·
   intro y0 y1 y2 y3
   unfold spec_IsFree.l1
   repeat' first
   | (with_reducible exact ih0 _ _ _)
   | (with_reducible exact ih1 _ _ _ _)
   | (with_reducible exact spec_l8Meet.mono _ _ _ _ _)
   | (with_reducible exact spec_l8Table.mono _ _ _)
   | (with_reducible exact LeO.refl _)
   | (with_reducible exact LeO.none _)
   | (with_reducible refine LeO.ite ?_ ?_)
   | (with_reducible refine LeO.bind ?_ (fun _ => ?_))
   | exact ih0 _ _ _
   | exact ih1 _ _ _ _
   | exact spec_l8Meet.mono _ _ _ _ _
   | exact spec_l8Table.mono _ _ _
   | exact LeO.none _
   | refine LeO.ite ?_ ?_
   | refine LeO.bind ?_ (fun _ => ?_)
theorem spec_IsFree.mono : ∀ a0 a1 k, LeO (spec_IsFree.f k a0 a1) (spec_IsFree.f (k + 1) a0 a1) := by
 intro a0 a1 k
 obtain ⟨ih0, ih1⟩ := spec_IsFree.mono_l k
 unfold spec_IsFree.f
 repeat' first
   | (with_reducible exact ih0 _ _ _)
   | (with_reducible exact ih1 _ _ _ _)
   | (with_reducible exact spec_l8Meet.mono _ _ _ _ _)
   | (with_reducible exact spec_l8Table.mono _ _ _)
   | (with_reducible exact LeO.refl _)
   | (with_reducible exact LeO.none _)
   | (with_reducible refine LeO.ite ?_ ?_)
   | (with_reducible refine LeO.bind ?_ (fun _ => ?_))
   | exact ih0 _ _ _
   | exact ih1 _ _ _ _
   | exact spec_l8Meet.mono _ _ _ _ _
   | exact spec_l8Table.mono _ _ _
   | exact LeO.none _
   | refine LeO.ite ?_ ?_
   | refine LeO.bind ?_ (fun _ => ?_)
set_option maxHeartbeats 8000000 in
set_option maxRecDepth 100000 in
theorem spec_IsFree.calls (k : Nat) (A0 : Option Addr) (c0 : Nat) (l0 : List Int) (A1 : Option Addr) (c1 : Nat) (l1 : List Int) (r1 : Bool) (r2 : Bool) (w : World) (hr0 : Kd.C (Kd.int .i64) w A0 l0.length l0) (hc0 : l0.length ≤ c0) (hr1 : Kd.C (Kd.int .i64) w A1 l1.length l1) (hc1 : l1.length ≤ c1) (h : spec_IsFree.f k l0 l1 = some (r1, r2)) :
  Calls Try.prog 7 #[.slice A0 l0.length c0, .slice A1 l1.length c1] w fun e w' => e = .returned (.tuple #[.bool r1, .bool r2]) ∧ Drawn0 w w' := by
 have HR0 := am_ hr0
 have HC0 := am_ hc0
 clear hr0 hc0
 have HR1 := am_ hr1
 have HC1 := am_ hc1
 clear hr1 hc1
 have H : ((spec_l8Table.f k l0 l1).bind fun t290 => (if t290 = true then (spec_IsFree.l0 k l0 l1 0) else (some (false, false)))) = some (r1, r2) := h
 clear h
 replace H := Option.bind_eq_some_iff.mp H
 obtain ⟨t290, A30, H⟩ := H
 replace H : (if t290 = true then (spec_IsFree.l0 k l0 l1 0) else (some (false, false))) = some (r1, r2) := H
 have A3 := am_ A30
 clear A30
 by_cases c4 : t290 = true
 ·
  subst c4
  have H1 : (spec_IsFree.l0 k l0 l1 0) = some (r1, r2) := by rw [if_pos rfl] at H; exact H
  clear H
  have H := H1
  clear H1
  have H' := am_ H
  clear H
  go_enter Try.func7, Try.ntmps7
  go_wp2_with (first | (go_at_call 23; (with_reducible refine (spec_l8Table.calls k _ _ l0 _ _ l1 true _ ?side1 ?side2 ?side3 ?side4 A3.out).mono ?_); (case side1 => repeat (first | exact HR0.out | (with_reducible refine ca_ ?_ _) | (with_reducible refine cn_ ?_ _) | (with_reducible refine cd_ ?_))); (case side2 => exact HC0.out); (case side3 => repeat (first | exact HR1.out | (with_reducible refine ca_ ?_ _) | (with_reducible refine cn_ ?_ _) | (with_reducible refine cd_ ?_))); (case side4 => exact HC1.out); rintro e w' ⟨rfl, ⟨nd, rfl⟩⟩; (try first | exact ⟨rfl, _, World.drewN_drewN _ _ _⟩ | exact ⟨rfl, _, Eq.trans (World.drewN_drewN _ _ _) (congrArg (World.drewN _) (Nat.add_assoc _ _ _))⟩)))
  repeat (go_quiet (first | (go_at_call 23; (with_reducible refine (spec_l8Table.calls k _ _ l0 _ _ l1 true _ ?side1 ?side2 ?side3 ?side4 A3.out).mono ?_); (case side1 => repeat (first | exact HR0.out | (with_reducible refine ca_ ?_ _) | (with_reducible refine cn_ ?_ _) | (with_reducible refine cd_ ?_))); (case side2 => exact HC0.out); (case side3 => repeat (first | exact HR1.out | (with_reducible refine ca_ ?_ _) | (with_reducible refine cn_ ?_ _) | (with_reducible refine cd_ ?_))); (case side4 => exact HC1.out); rintro e w' ⟨rfl, ⟨nd, rfl⟩⟩; (try first | exact ⟨rfl, _, World.drewN_drewN _ _ _⟩ | exact ⟨rfl, _, Eq.trans (World.drewN_drewN _ _ _) (congrArg (World.drewN _) (Nat.add_assoc _ _ _))⟩))); try go_wp2_with (first | (go_at_call 23; (with_reducible refine (spec_l8Table.calls k _ _ l0 _ _ l1 true _ ?side1 ?side2 ?side3 ?side4 A3.out).mono ?_); (case side1 => repeat (first | exact HR0.out | (with_reducible refine ca_ ?_ _) | (with_reducible refine cn_ ?_ _) | (with_reducible refine cd_ ?_))); (case side2 => exact HC0.out); (case side3 => repeat (first | exact HR1.out | (with_reducible refine ca_ ?_ _) | (with_reducible refine cn_ ?_ _) | (with_reducible refine cd_ ?_))); (case side4 => exact HC1.out); rintro e w' ⟨rfl, ⟨nd, rfl⟩⟩; (try first | exact ⟨rfl, _, World.drewN_drewN _ _ _⟩ | exact ⟨rfl, _, Eq.trans (World.drewN_drewN _ _ _) (congrArg (World.drewN _) (Nat.add_assoc _ _ _))⟩))))
  go_loopg [6] k (fun kq v6 w' => ∃ (x6_1 : Int), v6 = .int .i64 x6_1 ∧ Aside0 (spec_IsFree.l0 kq l0 l1 x6_1 = some (r1, r2)) ∧ Aside0 (kq ≤ k) ∧ Drawn0 w w')
  case atStart => exact ⟨(0), (by first | rfl | (simp; done) | (simp [*]; done)), H', ⟨Nat.le_refl _⟩, by repeat (first | exact Drawn0.refl _ | apply Drawn0.step)⟩
  case round =>
   clear H'
   try clear c1
   try clear p2
   try clear c4
   obtain ⟨x6_1, rfl, HA, HK1, ⟨m1, rfl⟩⟩ := hrel
   cases gk with
   | zero => exact absurd HA.out (by simp [spec_IsFree.l0])
   | succ k1 =>
    have H := HA.out
    clear HA
    simp only [spec_IsFree.l0] at H
    by_cases c5 : x6_1 < (l0.length : Int)
    ·
     rw [if_pos c5] at H
     have c5b0 : decide (x6_1 < (l0.length : Int)) = true := decide_eq_true c5
     clear c5
     have H' := am_ H
     clear H
     go_wp2
     repeat (go_quiet (fail); try go_wp2)
     go_loopg [7] k1 (fun kq v7 w' => ∃ (x7_2 : Int), v7 = .int .i64 x7_2 ∧ Aside0 (spec_IsFree.l1 kq l0 l1 x6_1 x7_2 = some (r1, r2)) ∧ Aside0 (kq ≤ k1) ∧ Drawn0 w w')
     case atStart => exact ⟨(0), (by first | rfl | (simp; done) | (simp [*]; done)), H', ⟨Nat.le_refl _⟩, by repeat (first | exact Drawn0.refl _ | apply Drawn0.step)⟩
     case round =>
      clear H'
      try clear c1
      try clear p2
      try clear c4
      try clear c5
      try clear c5b0
      try clear p2
      obtain ⟨x7_2, rfl, HA, HK2, ⟨m2, rfl⟩⟩ := hrel
      cases gk with
      | zero => exact absurd HA.out (by simp [spec_IsFree.l1])
      | succ k2 =>
       have H := HA.out
       clear HA
       simp only [spec_IsFree.l1] at H
       by_cases c6 : x7_2 < x6_1
       ·
        rw [if_pos c6] at H
        have c6b0 : decide (x7_2 < x6_1) = true := decide_eq_true c6
        clear c6
        by_cases c7 : 0 ≤ x6_1
        ·
         rw [if_pos c7] at H
         have c7b0 : decide (0 ≤ x6_1) = true := decide_eq_true c7
         clear c7
         by_cases c8 : x6_1 < (l0.length : Int)
         ·
          rw [if_pos c8] at H
          have c8b0 : decide (x6_1 < (l0.length : Int)) = true := decide_eq_true c8
          clear c8
          by_cases c9 : x6_1 < (l1.length : Int)
          ·
           rw [if_pos c9] at H
           have c9b0 : decide (x6_1 < (l1.length : Int)) = true := decide_eq_true c9
           clear c9
           by_cases c10 : 0 ≤ x7_2
           ·
            rw [if_pos c10] at H
            have c10b0 : decide (0 ≤ x7_2) = true := decide_eq_true c10
            clear c10
            by_cases c11 : x7_2 < (l0.length : Int)
            ·
             rw [if_pos c11] at H
             have c11b0 : decide (x7_2 < (l0.length : Int)) = true := decide_eq_true c11
             clear c11
             by_cases c12 : x7_2 < (l1.length : Int)
             ·
              rw [if_pos c12] at H
              have c12b0 : decide (x7_2 < (l1.length : Int)) = true := decide_eq_true c12
              clear c12
              replace H := Option.bind_eq_some_iff.mp H
              obtain ⟨t295, A130, H⟩ := H
              replace H : (if t295 = true then (some (false, true)) else (spec_IsFree.l1 k2 l0 l1 x6_1 (wrap64 (x7_2 + 1)))) = some (r1, r2) := H
              have A13 := am_ A130
              clear A130
              by_cases c14 : t295 = true
              ·
               subst c14
               have H1 : (some (false, true)) = some (r1, r2) := by rw [if_pos rfl] at H; exact H
               clear H
               have H := H1
               clear H1
               simp only [Option.some.injEq, Prod.mk.injEq] at H
               obtain ⟨rfl, rfl⟩ := H
               have p291 : 0 ≤ (x6_1 : Int) := of_decide_eq_true (by first | (with_reducible assumption) | assumption)
               have q291 : x6_1 < (l0.length : Int) := of_decide_eq_true (by first | (with_reducible assumption) | assumption)
               obtain ⟨ad291, e291, hx291_0⟩ := Kd.at_int HR0.out x6_1 p291 q291
               cases e291
               replace p291 := eq_true p291
               replace q291 := eq_true q291
               have p292 : 0 ≤ (x6_1 : Int) := of_decide_eq_true (by first | (with_reducible assumption) | assumption)
               have q292 : x6_1 < (l1.length : Int) := of_decide_eq_true (by first | (with_reducible assumption) | assumption)
               obtain ⟨ad292, e292, hx292_0⟩ := Kd.at_int HR1.out x6_1 p292 q292
               cases e292
               replace p292 := eq_true p292
               replace q292 := eq_true q292
               have p293 : 0 ≤ (x7_2 : Int) := of_decide_eq_true (by first | (with_reducible assumption) | assumption)
               have q293 : x7_2 < (l0.length : Int) := of_decide_eq_true (by first | (with_reducible assumption) | assumption)
               obtain ⟨ad293, e293, hx293_0⟩ := Kd.at_int HR0.out x7_2 p293 q293
               obtain rfl : ad291 = ad293 := (by injection e293)
               replace p293 := eq_true p293
               replace q293 := eq_true q293
               have p294 : 0 ≤ (x7_2 : Int) := of_decide_eq_true (by first | (with_reducible assumption) | assumption)
               have q294 : x7_2 < (l1.length : Int) := of_decide_eq_true (by first | (with_reducible assumption) | assumption)
               obtain ⟨ad294, e294, hx294_0⟩ := Kd.at_int HR1.out x7_2 p294 q294
               obtain rfl : ad292 = ad294 := (by injection e294)
               replace p294 := eq_true p294
               replace q294 := eq_true q294
               go_wp2_with (first | (go_at_call 24; (with_reducible refine (spec_l8Meet.calls k2 (rd l0 x6_1) (rd l1 x6_1) (rd l0 x7_2) (rd l1 x7_2) true _ A13.out).mono ?_); rintro e w' ⟨rfl, ⟨nd, rfl⟩⟩; (try first | exact ⟨rfl, _, World.drewN_drewN _ _ _⟩ | exact ⟨rfl, _, Eq.trans (World.drewN_drewN _ _ _) (congrArg (World.drewN _) (Nat.add_assoc _ _ _))⟩)))
               repeat (go_quiet (first | (go_at_call 24; (with_reducible refine (spec_l8Meet.calls k2 (rd l0 x6_1) (rd l1 x6_1) (rd l0 x7_2) (rd l1 x7_2) true _ A13.out).mono ?_); rintro e w' ⟨rfl, ⟨nd, rfl⟩⟩; (try first | exact ⟨rfl, _, World.drewN_drewN _ _ _⟩ | exact ⟨rfl, _, Eq.trans (World.drewN_drewN _ _ _) (congrArg (World.drewN _) (Nat.add_assoc _ _ _))⟩))); try go_wp2_with (first | (go_at_call 24; (with_reducible refine (spec_l8Meet.calls k2 (rd l0 x6_1) (rd l1 x6_1) (rd l0 x7_2) (rd l1 x7_2) true _ A13.out).mono ?_); rintro e w' ⟨rfl, ⟨nd, rfl⟩⟩; (try first | exact ⟨rfl, _, World.drewN_drewN _ _ _⟩ | exact ⟨rfl, _, Eq.trans (World.drewN_drewN _ _ _) (congrArg (World.drewN _) (Nat.add_assoc _ _ _))⟩))))
               go_ret2
               exact ⟨by first | rfl | (simp; done) | (simp [*]; done), by repeat (first | exact Drawn0.refl _ | apply Drawn0.step)⟩
              ·
               replace c14 := Bool.eq_false_iff.mpr c14
               subst c14
               have H1 : (spec_IsFree.l1 k2 l0 l1 x6_1 (wrap64 (x7_2 + 1))) = some (r1, r2) := by rw [if_neg (show ¬ (false = true) by decide)] at H; exact H
               clear H
               have H := H1
               clear H1
               have H' := am_ H
               clear H
               have p291 : 0 ≤ (x6_1 : Int) := of_decide_eq_true (by first | (with_reducible assumption) | assumption)
               have q291 : x6_1 < (l0.length : Int) := of_decide_eq_true (by first | (with_reducible assumption) | assumption)
               obtain ⟨ad291, e291, hx291_0⟩ := Kd.at_int HR0.out x6_1 p291 q291
               cases e291
               replace p291 := eq_true p291
               replace q291 := eq_true q291
               have p292 : 0 ≤ (x6_1 : Int) := of_decide_eq_true (by first | (with_reducible assumption) | assumption)
               have q292 : x6_1 < (l1.length : Int) := of_decide_eq_true (by first | (with_reducible assumption) | assumption)
               obtain ⟨ad292, e292, hx292_0⟩ := Kd.at_int HR1.out x6_1 p292 q292
               cases e292
               replace p292 := eq_true p292
               replace q292 := eq_true q292
               have p293 : 0 ≤ (x7_2 : Int) := of_decide_eq_true (by first | (with_reducible assumption) | assumption)
               have q293 : x7_2 < (l0.length : Int) := of_decide_eq_true (by first | (with_reducible assumption) | assumption)
               obtain ⟨ad293, e293, hx293_0⟩ := Kd.at_int HR0.out x7_2 p293 q293
               obtain rfl : ad291 = ad293 := (by injection e293)
               replace p293 := eq_true p293
               replace q293 := eq_true q293
               have p294 : 0 ≤ (x7_2 : Int) := of_decide_eq_true (by first | (with_reducible assumption) | assumption)
               have q294 : x7_2 < (l1.length : Int) := of_decide_eq_true (by first | (with_reducible assumption) | assumption)
               obtain ⟨ad294, e294, hx294_0⟩ := Kd.at_int HR1.out x7_2 p294 q294
               obtain rfl : ad292 = ad294 := (by injection e294)
               replace p294 := eq_true p294
               replace q294 := eq_true q294
               go_wp2_with (first | (go_at_call 24; (with_reducible refine (spec_l8Meet.calls k2 (rd l0 x6_1) (rd l1 x6_1) (rd l0 x7_2) (rd l1 x7_2) false _ A13.out).mono ?_); rintro e w' ⟨rfl, ⟨nd, rfl⟩⟩; (try first | exact ⟨rfl, _, World.drewN_drewN _ _ _⟩ | exact ⟨rfl, _, Eq.trans (World.drewN_drewN _ _ _) (congrArg (World.drewN _) (Nat.add_assoc _ _ _))⟩)))
               repeat (go_quiet (first | (go_at_call 24; (with_reducible refine (spec_l8Meet.calls k2 (rd l0 x6_1) (rd l1 x6_1) (rd l0 x7_2) (rd l1 x7_2) false _ A13.out).mono ?_); rintro e w' ⟨rfl, ⟨nd, rfl⟩⟩; (try first | exact ⟨rfl, _, World.drewN_drewN _ _ _⟩ | exact ⟨rfl, _, Eq.trans (World.drewN_drewN _ _ _) (congrArg (World.drewN _) (Nat.add_assoc _ _ _))⟩))); try go_wp2_with (first | (go_at_call 24; (with_reducible refine (spec_l8Meet.calls k2 (rd l0 x6_1) (rd l1 x6_1) (rd l0 x7_2) (rd l1 x7_2) false _ A13.out).mono ?_); rintro e w' ⟨rfl, ⟨nd, rfl⟩⟩; (try first | exact ⟨rfl, _, World.drewN_drewN _ _ _⟩ | exact ⟨rfl, _, Eq.trans (World.drewN_drewN _ _ _) (congrArg (World.drewN _) (Nat.add_assoc _ _ _))⟩))))
               go_roundg k2
               case measure => have := HK1.out; have := HK2.out; omega
               case rel => exact ⟨(wrap64 (x7_2 + 1)), (by first | rfl | (simp; done) | (simp [*]; done)), H', ⟨by have := HK1.out; have := HK2.out; omega⟩, by repeat (first | exact Drawn0.refl _ | apply Drawn0.step)⟩
             ·
              rw [if_neg c12] at H
              exact absurd H (by simp)
            ·
             rw [if_neg c11] at H
             exact absurd H (by simp)
           ·
            rw [if_neg c10] at H
            exact absurd H (by simp)
          ·
           rw [if_neg c9] at H
           exact absurd H (by simp)
         ·
          rw [if_neg c8] at H
          exact absurd H (by simp)
        ·
         rw [if_neg c7] at H
         exact absurd H (by simp)
       ·
        rw [if_neg c6] at H
        have c6b0 : decide (x7_2 < x6_1) = false := decide_eq_false c6
        clear c6
        have H' := am_ H
        clear H
        go_wp2
        repeat (go_quiet (fail); try go_wp2)
        go_roundg k2
        case measure => have := HK1.out; have := HK2.out; omega
        case rel => exact ⟨(wrap64 (x6_1 + 1)), (by first | rfl | (simp; done) | (simp [*]; done)), H', ⟨by have := HK1.out; have := HK2.out; omega⟩, by repeat (first | exact Drawn0.refl _ | apply Drawn0.step)⟩
    ·
     rw [if_neg c5] at H
     have c5b0 : decide (x6_1 < (l0.length : Int)) = false := decide_eq_false c5
     clear c5
     simp only [Option.some.injEq, Prod.mk.injEq] at H
     obtain ⟨rfl, rfl⟩ := H
     go_wp2
     repeat (go_quiet (fail); try go_wp2)
     go_ret2
     exact ⟨by first | rfl | (simp; done) | (simp [*]; done), by repeat (first | exact Drawn0.refl _ | apply Drawn0.step)⟩
 ·
  replace c4 := Bool.eq_false_iff.mpr c4
  subst c4
  have H1 : (some (false, false)) = some (r1, r2) := by rw [if_neg (show ¬ (false = true) by decide)] at H; exact H
  clear H
  have H := H1
  clear H1
  simp only [Option.some.injEq, Prod.mk.injEq] at H
  obtain ⟨rfl, rfl⟩ := H
  go_enter Try.func7, Try.ntmps7
  go_wp2_with (first | (go_at_call 23; (with_reducible refine (spec_l8Table.calls k _ _ l0 _ _ l1 false _ ?side1 ?side2 ?side3 ?side4 A3.out).mono ?_); (case side1 => repeat (first | exact HR0.out | (with_reducible refine ca_ ?_ _) | (with_reducible refine cn_ ?_ _) | (with_reducible refine cd_ ?_))); (case side2 => exact HC0.out); (case side3 => repeat (first | exact HR1.out | (with_reducible refine ca_ ?_ _) | (with_reducible refine cn_ ?_ _) | (with_reducible refine cd_ ?_))); (case side4 => exact HC1.out); rintro e w' ⟨rfl, ⟨nd, rfl⟩⟩; (try first | exact ⟨rfl, _, World.drewN_drewN _ _ _⟩ | exact ⟨rfl, _, Eq.trans (World.drewN_drewN _ _ _) (congrArg (World.drewN _) (Nat.add_assoc _ _ _))⟩)))
  repeat (go_quiet (first | (go_at_call 23; (with_reducible refine (spec_l8Table.calls k _ _ l0 _ _ l1 false _ ?side1 ?side2 ?side3 ?side4 A3.out).mono ?_); (case side1 => repeat (first | exact HR0.out | (with_reducible refine ca_ ?_ _) | (with_reducible refine cn_ ?_ _) | (with_reducible refine cd_ ?_))); (case side2 => exact HC0.out); (case side3 => repeat (first | exact HR1.out | (with_reducible refine ca_ ?_ _) | (with_reducible refine cn_ ?_ _) | (with_reducible refine cd_ ?_))); (case side4 => exact HC1.out); rintro e w' ⟨rfl, ⟨nd, rfl⟩⟩; (try first | exact ⟨rfl, _, World.drewN_drewN _ _ _⟩ | exact ⟨rfl, _, Eq.trans (World.drewN_drewN _ _ _) (congrArg (World.drewN _) (Nat.add_assoc _ _ _))⟩))); try go_wp2_with (first | (go_at_call 23; (with_reducible refine (spec_l8Table.calls k _ _ l0 _ _ l1 false _ ?side1 ?side2 ?side3 ?side4 A3.out).mono ?_); (case side1 => repeat (first | exact HR0.out | (with_reducible refine ca_ ?_ _) | (with_reducible refine cn_ ?_ _) | (with_reducible refine cd_ ?_))); (case side2 => exact HC0.out); (case side3 => repeat (first | exact HR1.out | (with_reducible refine ca_ ?_ _) | (with_reducible refine cn_ ?_ _) | (with_reducible refine cd_ ?_))); (case side4 => exact HC1.out); rintro e w' ⟨rfl, ⟨nd, rfl⟩⟩; (try first | exact ⟨rfl, _, World.drewN_drewN _ _ _⟩ | exact ⟨rfl, _, Eq.trans (World.drewN_drewN _ _ _) (congrArg (World.drewN _) (Nat.add_assoc _ _ _))⟩))))
  go_ret2
  exact ⟨by first | rfl | (simp; done) | (simp [*]; done), by repeat (first | exact Drawn0.refl _ | apply Drawn0.step)⟩

/-! ### spec_DrawShareOf: function 25 -/
def spec_DrawShareOf.f (k : Nat) (l0 : List Int) : Option (List Int) := (spec_newCur.f l0).bind fun bt296 => ((spec_l1Cur_cycles.f k bt296.1 bt296.2.1 bt296.2.2).bind fun bt300 => (some bt300.1))
theorem spec_DrawShareOf.mono : ∀ a0 k, LeO (spec_DrawShareOf.f k a0) (spec_DrawShareOf.f (k + 1) a0) := by
 intro a0 k
 unfold spec_DrawShareOf.f
 repeat' first
   | (with_reducible exact spec_l1Cur_cycles.mono _ _ _ _)
   | (with_reducible exact LeO.refl _)
   | (with_reducible exact LeO.none _)
   | (with_reducible refine LeO.ite ?_ ?_)
   | (with_reducible refine LeO.bind ?_ (fun _ => ?_))
   | exact spec_l1Cur_cycles.mono _ _ _ _
   | exact LeO.none _
   | refine LeO.ite ?_ ?_
   | refine LeO.bind ?_ (fun _ => ?_)
set_option maxHeartbeats 8000000 in
set_option maxRecDepth 100000 in
theorem spec_DrawShareOf.calls (k : Nat) (A0 : Option Addr) (c0 : Nat) (l0 : List Int) (r : List Int) (w : World) (hr0 : Kd.C (Kd.int .u8) w A0 l0.length l0) (hc0 : l0.length ≤ c0) (h : spec_DrawShareOf.f k l0 = some r) :
  Calls Try.prog 25 #[.slice A0 l0.length c0] w fun e w' => ∃ v0_ : Value, e = .returned (v0_) ∧ Kd.R (Kd.int .i64) 3 w' w.heap.size (fun _ => True) v0_ r ∧ Below w.heap.size w w' := by
 have HR0 := am_ hr0
 have HC0 := am_ hc0
 clear hr0 hc0
 have HB := am_ (Below.refl w.heap.size w)
 have H : ((spec_newCur.f l0).bind fun bt296 => ((spec_l1Cur_cycles.f k bt296.1 bt296.2.1 bt296.2.2).bind fun bt300 => (some bt300.1))) = some r := h
 clear h
 replace H := Option.bind_eq_some_iff.mp H
 obtain ⟨⟨t296, t297, t298⟩, A20, H⟩ := H
 replace H : ((spec_l1Cur_cycles.f k t296 t297 t298).bind fun bt300 => (some bt300.1)) = some r := H
 have A2 := am_ A20
 clear A20
 replace H := Option.bind_eq_some_iff.mp H
 obtain ⟨⟨t300, t303, t304⟩, A30, H⟩ := H
 replace H : (some t300) = some r := H
 have A3 := am_ A30
 clear A30
 obtain rfl := Option.some.inj H
 go_enter Try.func25, Try.ntmps25
 go_wp2_with (first | ((with_reducible refine gate_dst (N := 6) rfl ?_); refine box_event ?hg (N := 6) ?hd (cs := #[.slice A0 l0.length c0, .int .i64 0, .int .u64 0]) (t := 44) ?hr ?_; (case hd => rfl); (case hg => rfl); (case hr => first | (go_simp; done) | (go_simp; rfl)); intro g299 hg w4 hbox hb2; have hb := bp_ (by repeat (first | (with_reducible first | exact HB.out | apply ba_ | apply pw_below_drewN | apply bd_) | exact HB.out)) hb2; have hi := newCur_is A2.out hbox (by rw [hg]; exact below_size (by repeat (first | (with_reducible first | exact HB.out | apply ba_ | apply pw_below_drewN | apply bd_) | exact HB.out))) (by exact HR0.out); clear hbox hg; have n0_ := am_ (hb); have n1_ := am_ (hi); clear HB; have HB := n0_; have HI299 := n1_; clear n0_ n1_; (try clear hb); (try clear hb2); (try clear hk); (try clear hi)) | ((with_reducible refine gc_ (f := 37) rfl ?_); refine goesL_ (some 8) rfl rfl Try.func37 (by kernel_rfl) rfl #[.pointer (some ⟨g299, 0, none⟩)] rfl (by (try simp only [List.map_toArray, List.map_cons, List.map_nil]); first | done | rfl | (simp only [List.length_drop, List.length_take]; rfl)) ?_; (with_reducible refine (spec_l1Cur_cycles.calls k g299 t296 t297 t298 t300 t303 t304 w _ ?side1 ?side2 A3.out).mono ?_); (case side1 => repeat (first | (with_reducible first | exact HI299.out | apply IsS44.alloc | apply IsS44.drewN | apply IsS44.drew | apply IsS44.set_1 | apply IsS44.set_2) | exact HI299.out)); (case side2 => repeat (first | (with_reducible first | exact HB.out | apply ba_ | apply pw_below_drewN | apply bd_ | refine below_set ?_ (IsS44.ge HI299.out)) | exact HB.out)); rintro e w5 ⟨v301, rfl, ho0, hi, hb, hk⟩; refine ⟨_, rfl, ?_⟩; have n0_ := am_ (Kd.R_lower ho0 (below_size (by repeat (first | (with_reducible first | exact HB.out | apply ba_ | apply pw_below_drewN | apply bd_ | refine below_set ?_ (IsS44.ge HI299.out)) | exact HB.out)))); have n1_ := am_ (hb); have n2_ := am_ (hi); clear HB; clear HI299; have HO302 := n0_; have HB := n1_; have HI299 := n2_; clear n0_ n1_ n2_; (try clear hb); (try clear hb2); (try clear hk); (try clear hi); (try clear ho0)))
 go_ret
 exact ⟨_, by first | rfl | (simp [errW_none, errW_some] <;> rfl) | (simp [*, errW_none, errW_some] <;> rfl), by (with_reducible repeat (first | apply Kd.R_alloc | apply Kd.R_drewN | apply Kd.R_drew)); exact HO302.out, by repeat (first | (with_reducible first | exact HB.out | apply ba_ | apply pw_below_drewN | apply bd_ | refine below_set ?_ (IsS44.ge HI299.out)) | exact HB.out)⟩

/-! ### spec_DrawFindOffsets: function 8 -/
def spec_DrawFindOffsets.f (k : Nat) (l0 : List Int) : Option (List Int) := (spec_DrawShareOf.f k l0).bind fun t305 => (some t305)
theorem spec_DrawFindOffsets.mono : ∀ a0 k, LeO (spec_DrawFindOffsets.f k a0) (spec_DrawFindOffsets.f (k + 1) a0) := by
 intro a0 k
 unfold spec_DrawFindOffsets.f
 repeat' first
   | (with_reducible exact spec_DrawShareOf.mono _ _)
   | (with_reducible exact LeO.refl _)
   | (with_reducible exact LeO.none _)
   | (with_reducible refine LeO.ite ?_ ?_)
   | (with_reducible refine LeO.bind ?_ (fun _ => ?_))
   | exact spec_DrawShareOf.mono _ _
   | exact LeO.none _
   | refine LeO.ite ?_ ?_
   | refine LeO.bind ?_ (fun _ => ?_)
set_option maxHeartbeats 8000000 in
set_option maxRecDepth 100000 in
theorem spec_DrawFindOffsets.calls (k : Nat) (A0 : Option Addr) (c0 : Nat) (l0 : List Int) (r : List Int) (w : World) (hr0 : Kd.C (Kd.int .u8) w A0 l0.length l0) (hc0 : l0.length ≤ c0) (h : spec_DrawFindOffsets.f k l0 = some r) :
  Calls Try.prog 8 #[.slice A0 l0.length c0] w fun e w' => ∃ v0_ : Value, e = .returned (v0_) ∧ Kd.R (Kd.int .i64) 3 w' w.heap.size (fun _ => True) v0_ r ∧ Below w.heap.size w w' := by
 have HR0 := am_ hr0
 have HC0 := am_ hc0
 clear hr0 hc0
 have HB := am_ (Below.refl w.heap.size w)
 have H : ((spec_DrawShareOf.f k l0).bind fun t305 => (some t305)) = some r := h
 clear h
 replace H := Option.bind_eq_some_iff.mp H
 obtain ⟨t305, A20, H⟩ := H
 replace H : (some t305) = some r := H
 have A2 := am_ A20
 clear A20
 obtain rfl := Option.some.inj H
 go_enter Try.func8, Try.ntmps8
 go_wp2_with (first | ((with_reducible refine gc_ (f := 25) rfl ?_); refine goesL_ (some 4) rfl rfl Try.func25 (by kernel_rfl) rfl #[.slice A0 l0.length c0] rfl (by (try simp only [List.map_toArray, List.map_cons, List.map_nil]); first | done | rfl | (simp only [List.length_drop, List.length_take]; rfl)) ?_; (with_reducible refine (spec_DrawShareOf.calls k _ _ l0 t305 _ ?side1 ?side2 A2.out).mono ?_); (case side1 => repeat (first | exact HR0.out | (with_reducible refine ca_ ?_ _) | (with_reducible refine cn_ ?_ _) | (with_reducible refine cd_ ?_))); (case side2 => exact HC0.out); rintro e w3 ⟨v306, rfl, ho0, hb⟩; refine ⟨_, rfl, ?_⟩; have n0_ := am_ (Kd.R_lower ho0 (below_size (by repeat (first | (with_reducible first | exact HB.out | apply ba_ | apply pw_below_drewN | apply bd_) | exact HB.out)))); have n1_ := am_ (bp_ (by repeat (first | (with_reducible first | exact HB.out | apply ba_ | apply pw_below_drewN | apply bd_) | exact HB.out)) hb); clear HB; have HO307 := n0_; have HB := n1_; clear n0_ n1_; (try clear hb); (try clear hb2); (try clear hk); (try clear hi); (try clear ho0)))
 go_ret
 exact ⟨_, by first | rfl | (simp [errW_none, errW_some] <;> rfl) | (simp [*, errW_none, errW_some] <;> rfl), by (with_reducible repeat (first | apply Kd.R_alloc | apply Kd.R_drewN | apply Kd.R_drew)); exact HO307.out, by repeat (first | (with_reducible first | exact HB.out | apply ba_ | apply pw_below_drewN | apply bd_) | exact HB.out)⟩

/-! ### impl_FindOffsetsLit: function 27 -/
mutual
def impl_FindOffsetsLit.l0 : Nat → List Int → List Int → Int → Int → Int → Option (List Int × Bool)
 | 0, _, _, _, _, _ => none
 | k + 1, x0, x1, x5, x19, x20 => if x20 < x19 then (if x5 = 0 then (impl_FindOffsetsLit.j1 k x0 x1 x5 x20 x19 x20 (decide (x20 > 0))) else (impl_FindOffsetsLit.j1 k x0 x1 x5 x20 x19 x20 false)) else (some (([] : List Int), false))
def impl_FindOffsetsLit.j1 : Nat → List Int → List Int → Int → Int → Int → Int → Bool → Option (List Int × Bool)
 | 0, _, _, _, _, _, _, _ => none
 | k + 1, x0, x1, x5, x6, x19, x20, x28 => if x28 = true then (some (([] : List Int), false)) else (if x0.length < 17592186044416 then ((impl_meets.f k x1 (x0 ++ [x6])).bind fun t184 => (if t184 = true then (impl_FindOffsetsLit.l0 k x0 x1 x5 x19 (wrap64 (x20 + 1))) else ((impl_FindOffsetsLit.f k (x0 ++ [x6]) x1).bind fun bt185 => (if bt185.2 = true then (some (bt185.1, true)) else (impl_FindOffsetsLit.l0 k x0 x1 x5 x19 (wrap64 (x20 + 1))))))) else (none))
def impl_FindOffsetsLit.f : Nat → List Int → List Int → Option (List Int × Bool)
 | 0, _, _ => none
 | k + 1, l0, l1 => if (l0.length : Int) = (l1.length : Int) then (some (l0, true)) else (if 0 ≤ (l0.length : Int) then (if (l0.length : Int) < (l1.length : Int) then (impl_FindOffsetsLit.l0 k l0 l1 (l0.length : Int) (rd l1 (l0.length : Int)) 0) else (none)) else (none))
end
theorem impl_FindOffsetsLit.mono_l : ∀ k, (∀ y0 y1, LeO (impl_FindOffsetsLit.f k y0 y1) (impl_FindOffsetsLit.f (k + 1) y0 y1)) ∧ (∀ y0 y1 y2 y3 y4, LeO (impl_FindOffsetsLit.l0 k y0 y1 y2 y3 y4) (impl_FindOffsetsLit.l0 (k + 1) y0 y1 y2 y3 y4)) ∧ (∀ y0 y1 y2 y3 y4 y5 y6, LeO (impl_FindOffsetsLit.j1 k y0 y1 y2 y3 y4 y5 y6) (impl_FindOffsetsLit.j1 (k + 1) y0 y1 y2 y3 y4 y5 y6))
 | 0 => ⟨fun _ _ r h => by simp [impl_FindOffsetsLit.f] at h, fun _ _ _ _ _ r h => by simp [impl_FindOffsetsLit.l0] at h, fun _ _ _ _ _ _ _ r h => by simp [impl_FindOffsetsLit.j1] at h⟩
 | k + 1 => by
  obtain ⟨ih0, ih1, ih2⟩ := impl_FindOffsetsLit.mono_l k
  refine ⟨?_, ?_, ?_⟩
  ·
   intro y0 y1
   unfold impl_FindOffsetsLit.f
   repeat' first
   | (with_reducible exact ih0 _ _)
   | (with_reducible exact ih1 _ _ _ _ _)
   | (with_reducible exact ih2 _ _ _ _ _ _ _)
   | (with_reducible exact impl_meets.mono _ _ _)
   | (with_reducible exact LeO.refl _)
   | (with_reducible exact LeO.none _)
   | (with_reducible refine LeO.ite ?_ ?_)
   | (with_reducible refine LeO.bind ?_ (fun _ => ?_))
   | exact ih0 _ _
   | exact ih1 _ _ _ _ _
   | exact ih2 _ _ _ _ _ _ _
   | exact impl_meets.mono _ _ _
   | exact LeO.none _
   | refine LeO.ite ?_ ?_
   | refine LeO.bind ?_ (fun _ => ?_)
  ·
   intro y0 y1 y2 y3 y4
   unfold impl_FindOffsetsLit.l0
   repeat' first
   | (with_reducible exact ih0 _ _)
   | (with_reducible exact ih1 _ _ _ _ _)
   | (with_reducible exact ih2 _ _ _ _ _ _ _)
   | (with_reducible exact impl_meets.mono _ _ _)
   | (with_reducible exact LeO.refl _)
   | (with_reducible exact LeO.none _)
   | (with_reducible refine LeO.ite ?_ ?_)
   | (with_reducible refine LeO.bind ?_ (fun _ => ?_))
   | exact ih0 _ _
   | exact ih1 _ _ _ _ _
   | exact ih2 _ _ _ _ _ _ _
   | exact impl_meets.mono _ _ _
   | exact LeO.none _
   | refine LeO.ite ?_ ?_
   | refine LeO.bind ?_ (fun _ => ?_)
  ·
   intro y0 y1 y2 y3 y4 y5 y6
   unfold impl_FindOffsetsLit.j1
   repeat' first
   | (with_reducible exact ih0 _ _)
   | (with_reducible exact ih1 _ _ _ _ _)
   | (with_reducible exact ih2 _ _ _ _ _ _ _)
   | (with_reducible exact impl_meets.mono _ _ _)
   | (with_reducible exact LeO.refl _)
   | (with_reducible exact LeO.none _)
   | (with_reducible refine LeO.ite ?_ ?_)
   | (with_reducible refine LeO.bind ?_ (fun _ => ?_))
   | exact ih0 _ _
   | exact ih1 _ _ _ _ _
   | exact ih2 _ _ _ _ _ _ _
   | exact impl_meets.mono _ _ _
   | exact LeO.none _
   | refine LeO.ite ?_ ?_
   | refine LeO.bind ?_ (fun _ => ?_)
theorem impl_FindOffsetsLit.mono : ∀ a0 a1 k, LeO (impl_FindOffsetsLit.f k a0 a1) (impl_FindOffsetsLit.f (k + 1) a0 a1) := by
 intro a0 a1 k
 obtain ⟨ih0, ih1, ih2⟩ := impl_FindOffsetsLit.mono_l k
 exact ih0 a0 a1
/-- append(offsets[:i:i], offset): the cut has no room, so the row is a new one, and the old one stays. -/
theorem find_grows {ops : Array Oper} {rest : List Oper} {o : Oper} {a : Act} {Q : Exit → Act → World → Prop} {w W : World} (A0 : Option Addr) (l0 : List Int) (x : Int) {l2 : List Int} (h2 : l2 = l0 ++ [x]) (hg : o.guard = none) (s y : Operand) (hop : o.op = Op.call { callee := Callee.builtin Builtin.append, args := #[s, y], argTypes := #[24, 24] })
  (base : Nat) {c0 : Nat} (hr : Kd.R (Kd.int .i64) 3 w base (fun _ => True) (.slice A0 l0.length c0) l0) (hA : A0.isSome = true) (hs : a.eval s = .slice A0 l0.length l0.length) (hy : a.eval y = .slice (some ⟨W.heap.size, 0, none⟩) 1 1) (hbase : base ≤ w.heap.size) (hl : l0.length < 17592186044416) (HB : Below w.heap.size w W)
  (h : ∀ A2 c2 w2, Kd.R (Kd.int .i64) 3 w2 base (fun _ => True) (.slice A2 l2.length c2) l2 → A2.isSome = true → Below w.heap.size w w2 → wpList Try.prog ops Q rest (a.put o.dst (.slice A2 l2.length c2)) w2) :
  wpList Try.prog ops Q (o :: rest) a (W.alloc (.cells [.int .i64 x].toArray 3)) := by
 subst h2
 obtain ⟨ad, rfl⟩ := Option.isSome_iff_exists.mp hA
 have hc : Kd.C (Kd.int .i64) (W.alloc (.cells [.int .i64 x].toArray 3)) (some ad) l0.length l0 := ca_ (cb_ (rr_ hr).2.2 HB) _
 obtain ⟨i_, hi_, z_, s_, b_⟩ := info_parts info3
 have hnum : ∀ j u, (l0.map (Value.int .i64))[j]? = some u → (W.alloc (.cells [.int .i64 x].toArray 3)).cell? (ad.add j) = some u := by
  intro j u hj
  rw [List.getElem?_map] at hj
  obtain ⟨p, hp, rfl⟩ := Option.map_eq_some_iff.mp hj
  have hlt : j < l0.length := (List.getElem?_eq_some_iff.mp hp).1
  obtain ⟨ad', e, hcell⟩ := Kd.at_int hc (j : Int) (Int.natCast_nonneg j) (by omega)
  cases e
  have e2 : rd l0 (j : Int) = p := by simp [rd, hp]
  rw [e2] at hcell
  simpa using hcell
 refine wpList_append_grows _ hg s y 24 hop 3 i_ (.int .i64 0) 1 8 Try.underlying24 hi_ z_ s_ b_ rfl (by decide) (some ad) l0.length l0.length (l0.map (Value.int .i64)) hs (fun h_ => by cases h_) (by simp) (fun b hb_ j u hj => by cases hb_; exact hnum j u hj) ⟨W.heap.size, 0, none⟩ 1 1 [.int .i64 x] hy (by simp) ?new ?one (by omega) (by simp only [maxLen]; omega) (by omega) ?k
 case new =>
  intro j u hj
  have hj0 : j = 0 := by
   have := (List.getElem?_eq_some_iff.mp hj).1
   simp at this
   exact this
  subst hj0
  cases hj
  have h0_ := heap_alloc_new W (.cells [Value.int .i64 x].toArray 3)
  exact (kc_ h0_ 0).trans rfl
 case one => intro u hu; simp at hu; subst hu; rfl
 case k =>
  intro v' w' hown hgr
  have hsz : (W.alloc (.cells [.int .i64 x].toArray 3)).heap.size = W.heap.size + 1 := by simp
  have hB2 : Below w.heap.size w w' := (ba_ HB _).grown hgr (by rw [hsz]; exact Nat.le_succ_of_le HB.size) (fun _ h_ => by cases h_)
  have hown2 : w'.ownsRow (W.alloc (.cells [.int .i64 x].toArray 3)).heap.size 3 1 v' (l0 ++ [x]).length (encs (Value.int .i64) (l0 ++ [x])) := by
   simpa [encs] using hown
  have hR0 : Kd.R (Kd.int .i64) 3 w' (W.alloc (.cells [.int .i64 x].toArray 3)).heap.size (fun _ => True) v' (l0 ++ [x]) := Kd.R_of_own (h1 := fun _ => rfl) hown2 (fun _ _ => trivial)
  obtain ⟨A2, c2, rfl⟩ := Kd.R_slice hR0
  obtain ⟨ad2, e2, _⟩ := Kd.at_int (rr_ hR0).2.2 0 (Int.le_refl 0) (by simp)
  exact h A2 c2 w' (Kd.R_lower hR0 (by rw [hsz]; have := HB.size; omega)) (by rw [e2]; rfl) hB2
theorem find_neq (w : World) (A : Option Addr) (n c : Nat) : (Go.binOp .neq 24 (.slice A n c) (.slice none 0 0)).run Try.prog w = .ok (.bool A.isSome) w := by
 have h1 : ∀ d, (Op.equalIn (d + 1) 24 (.slice A n c) (.slice none 0 0)).run Try.prog w = .ok A.isNone w := by intro d; cases A <;> simp [Op.equalIn, run_underlying Try.underlying24]
 simp only [Go.binOp]
 cases A <;> simp [Op.equal, Op.maxDepth, h1 9999]
attribute [local go_sem] find_neq
set_option maxHeartbeats 8000000 in
set_option maxRecDepth 100000 in
theorem impl_FindOffsetsLit.calls (k : Nat) : ∀ (gc gf base : Nat) (A0 : Option Addr) (c0 : Nat) (l0 : List Int) (A1 : Option Addr) (c1 : Nat) (l1 r1 : List Int) (r2 : Bool) (w : World) (hx : w.heap[gc]? = some (.cells #[.slice A1 l1.length c1] 24 (0, 0))) (hf : w.heap[gf]? = some (.cells #[.func (.func 27) #[] #[.pointer (some ⟨gc, 0, none⟩), .pointer (some ⟨gf, 0, none⟩)]] 48 (0, 0))) (hr0 : Kd.R (Kd.int .i64) 3 w base (fun _ => True) (.slice A0 l0.length c0) l0) (hs : A0.isSome = true) (hbase : base ≤ w.heap.size) (hr1 : Kd.C (Kd.int .i64) w A1 l1.length l1) (hc1 : l1.length ≤ c1) (h : impl_FindOffsetsLit.f k l0 l1 = some (r1, r2)),
  Calls Try.prog 27 #[.slice A0 l0.length c0, .pointer (some ⟨gc, 0, none⟩), .pointer (some ⟨gf, 0, none⟩)] w fun e w' => ∃ A c, e = .returned (.slice A r1.length c) ∧ A.isSome = r2 ∧ Kd.R (Kd.int .i64) 3 w' base (fun _ => True) (.slice A r1.length c) r1 ∧ Below w.heap.size w w' := by
 induction k using Nat.strongRecOn with
 | _ k ih =>
 intro gc gf base A0 c0 l0 A1 c1 l1 r1 r2 w hx hf hr0 hs hbase hr1 hc1 h
 cases k with
 | zero => exact absurd h (by simp [impl_FindOffsetsLit.f])
 | succ k =>
 simp only [impl_FindOffsetsLit.f] at h
 have hwx_ : w.cell? ⟨gc, 0, none⟩ = some (.slice A1 l1.length c1) := (kc_ hx 0).trans rfl
 have hwf_ : w.cell? ⟨gf, 0, none⟩ = some (.func (.func 27) #[] #[.pointer (some ⟨gc, 0, none⟩), .pointer (some ⟨gf, 0, none⟩)]) := (kc_ hf 0).trans rfl
 have hgc : gc < w.heap.size := World.block_lt_of_cell? w _ hwx_
 have hgf : gf < w.heap.size := World.block_lt_of_cell? w _ hwf_
 have HX := am_ hx
 have HF := am_ hf
 have HR0 := am_ hr0
 have HC0 := am_ (rr_ hr0).2.1
 have HR1 := am_ hr1
 have HC1 := am_ hc1
 have HS := am_ hs
 have HBASE := am_ hbase
 clear hx hf hr0 hr1 hc1 hs hbase
 have HB := am_ (Below.refl w.heap.size w)
 have H : (if (l0.length : Int) = (l1.length : Int) then (some (l0, true)) else (if 0 ≤ (l0.length : Int) then (if (l0.length : Int) < (l1.length : Int) then (impl_FindOffsetsLit.l0 k l0 l1 (l0.length : Int) (rd l1 (l0.length : Int)) 0) else (none)) else (none))) = some (r1, r2) := h
 clear h
 by_cases c3 : (l0.length : Int) = (l1.length : Int)
 ·
  rw [if_pos c3] at H
  have c3b0 : ((l0.length : Int) == (l1.length : Int)) = true := beq_iff_eq.mpr c3
  have c3b1 : ((l0.length : Int) != (l1.length : Int)) = false := bne_eq_false_iff_eq.mpr c3
  have c3b2 : (l0.length == l1.length) = true := by first | simpa using c3 | (simp at c3 ⊢; omega)
  clear c3
  simp only [Option.some.injEq, Prod.mk.injEq] at H
  obtain ⟨rfl, rfl⟩ := H
  go_enter Try.func27, Try.ntmps27
  go_wp2
  go_ret
  exact ⟨_, _, rfl, HS.out, HR0.out, HB.out⟩
 ·
  rw [if_neg c3] at H
  have c3b0 : ((l0.length : Int) == (l1.length : Int)) = false := beq_eq_false_iff_ne.mpr c3
  have c3b1 : ((l0.length : Int) != (l1.length : Int)) = true := bne_iff_ne.mpr c3
  have c3b2 : (l0.length == l1.length) = false := by first | simpa using c3 | (simp at c3 ⊢; omega)
  by_cases c5 : 0 ≤ (l0.length : Int)
  ·
   rw [if_pos c5] at H
   have c5b0 : decide (0 ≤ (l0.length : Int)) = true := decide_eq_true c5
   have c5b1 : decide (0 ≤ l0.length) = true := decide_eq_true (by omega)
   clear c5
   by_cases c6 : (l0.length : Int) < (l1.length : Int)
   ·
    rw [if_pos c6] at H
    have c6b0 : decide ((l0.length : Int) < (l1.length : Int)) = true := decide_eq_true c6
    have c6b1 : decide (l0.length < l1.length) = true := decide_eq_true (Int.ofNat_lt.mp c6)
    clear c6
    have H' := am_ H
    clear H
    have p177 : 0 ≤ ((l0.length : Int) : Int) := of_decide_eq_true (by first | (with_reducible assumption) | assumption)
    have q177 : (l0.length : Int) < (l1.length : Int) := of_decide_eq_true (by first | (with_reducible assumption) | assumption)
    obtain ⟨ad177, e177, hx177_0⟩ := Kd.at_int HR1.out (l0.length : Int) p177 q177
    cases e177
    (try simp only [Go.IntWalk.toNatUp] at hx177_0)
    replace p177 := eq_true p177
    replace q177 := eq_true q177
    go_enter Try.func27, Try.ntmps27
    go_wp2
    go_loopg [20] k (fun kq v20 w' => ∃ (x20_1 : Int), v20 = .int .i64 x20_1 ∧ Aside0 (impl_FindOffsetsLit.l0 kq l0 l1 (l0.length : Int) (rd l1 (l0.length : Int)) x20_1 = some (r1, r2)) ∧ Aside0 (kq ≤ k) ∧ Aside0 (Below w.heap.size w w'))
    case atStart => exact ⟨(0), (by first | rfl | (simp; done) | (simp [*]; done)), H', ⟨Nat.le_refl _⟩, ⟨(by repeat (first | (with_reducible first | exact HB.out | apply ba_ | apply pw_below_drewN | apply bd_) | exact HB.out))⟩⟩
    case round =>
     clear H'
     obtain ⟨x20_1, rfl, HA, HK1, HB⟩ := hrel
     cases gk with
     | zero => exact absurd HA.out (by simp [impl_FindOffsetsLit.l0])
     | succ k1 =>
      have H := HA.out
      clear HA
      simp only [impl_FindOffsetsLit.l0] at H
      by_cases c8 : x20_1 < (rd l1 (l0.length : Int))
      ·
       rw [if_pos c8] at H
       have c8b0 : decide (x20_1 < (rd l1 (l0.length : Int))) = true := decide_eq_true c8
       clear c8
       have HC9 := am_ H
       clear H
       go_upto_region 7 with (fail)
       go_cut [28] (fun v28 wc => ∃ (kq : Nat) (x28_8 : Bool), v28 = .bool x28_8 ∧ Aside0 (impl_FindOffsetsLit.j1 kq l0 l1 (l0.length : Int) x20_1 (rd l1 (l0.length : Int)) x20_1 x28_8 = some (r1, r2)) ∧ Aside0 (kq ≤ k1) ∧ Aside0 (Below w.heap.size w wc) ∧ wc.cell? ⟨gc, 0, none⟩ = some (.slice (some ad177) l1.length c1) ∧ wc.cell? ⟨gf, 0, none⟩ = some (.func (.func 27) #[] #[.pointer (some ⟨gc, 0, none⟩), .pointer (some ⟨gf, 0, none⟩)]))
       case first =>
        have H := HC9.out
        clear HC9
        by_cases c10 : (l0.length : Int) = 0
        ·
         rw [if_pos c10] at H
         have c10b0 : ((l0.length : Int) == 0) = true := beq_iff_eq.mpr c10
         have c10b1 : ((l0.length : Int) != 0) = false := bne_eq_false_iff_eq.mpr c10
         clear c10
         (first | rw [c10b0] | (simp only [i64_w, i32_w]; rw [c10b0]) | skip)
         have H' := am_ H
         clear H
         go_wp2
         go_meet
         case rel => exact ⟨_, (decide (x20_1 > 0)), (by first | rfl | (simp; done) | (simp [*]; done)), H', ⟨by have := HK1.out; first | omega | exact Nat.le_refl _⟩, ⟨(by repeat (first | (with_reducible first | exact HB.out | apply ba_ | apply pw_below_drewN | apply bd_) | exact HB.out))⟩, ⟨(Below.cell (by repeat (first | (with_reducible first | exact HB.out | apply ba_ | apply pw_below_drewN | apply bd_) | exact HB.out)) hgc).trans hwx_, (Below.cell (by repeat (first | (with_reducible first | exact HB.out | apply ba_ | apply pw_below_drewN | apply bd_) | exact HB.out)) hgf).trans hwf_⟩⟩
        ·
         rw [if_neg c10] at H
         have c10b0 : ((l0.length : Int) == 0) = false := beq_eq_false_iff_ne.mpr c10
         have c10b1 : ((l0.length : Int) != 0) = true := bne_iff_ne.mpr c10
         have c10b2 : ¬ (l0 = []) := fun h_ => c10 (by rw [h_]; rfl)
         (first | rw [c10b0] | (simp only [i64_w, i32_w]; rw [c10b0]) | skip)
         have H' := am_ H
         clear H
         go_wp2
         go_meet
         case rel => exact ⟨_, (false), (by first | rfl | (simp; done) | (simp [*]; done)), H', ⟨by have := HK1.out; first | omega | exact Nat.le_refl _⟩, ⟨(by repeat (first | (with_reducible first | exact HB.out | apply ba_ | apply pw_below_drewN | apply bd_) | exact HB.out))⟩, ⟨(Below.cell (by repeat (first | (with_reducible first | exact HB.out | apply ba_ | apply pw_below_drewN | apply bd_) | exact HB.out)) hgc).trans hwx_, (Below.cell (by repeat (first | (with_reducible first | exact HB.out | apply ba_ | apply pw_below_drewN | apply bd_) | exact HB.out)) hgf).trans hwf_⟩⟩
       case rest =>
        clear HC9
        try clear c3
        try clear c3b0
        try clear c3b1
        try clear c3b2
        try clear c5b0
        try clear c5b1
        try clear c6b0
        try clear c6b1
        try clear c8b0
        try clear hx177_0
        try clear p177
        try clear q177
        obtain ⟨kq, x28_8, rfl, HA, HJ8, HB, hwx0_, hwf0_⟩ := hcut
        cases kq with
        | zero => exact absurd HA.out (by simp [impl_FindOffsetsLit.j1])
        | succ kj8 =>
         have H := HA.out
         clear HA
         simp only [impl_FindOffsetsLit.j1] at H
         by_cases c11 : x28_8 = true
         ·
          subst c11
          rw [if_pos rfl] at H
          simp only [Option.some.injEq, Prod.mk.injEq] at H
          obtain ⟨rfl, rfl⟩ := H
          go_wp2
          go_ret
          exact ⟨none, 0, rfl, rfl, Kd.R_nil _ _ _ _ _, (by repeat (first | (with_reducible first | exact HB.out | apply ba_ | apply pw_below_drewN | apply bd_) | exact HB.out))⟩
         ·
          replace c11 := Bool.eq_false_iff.mpr c11
          subst c11
          rw [if_neg (show ¬ (false = true) by decide)] at H
          by_cases c13 : l0.length < 17592186044416
          ·
           rw [if_pos c13] at H
           have LM := am_ c13
           clear c13
           obtain ⟨y2, hy2⟩ : ∃ y_ : List Int, y_ = l0 ++ [x20_1] := ⟨_, rfl⟩
           rw [← hy2] at H
           have NY := am_ hy2
           clear hy2
           obtain ⟨t184, A140, H⟩ := Option.bind_eq_some_iff.mp H
           have A14 := am_ A140
           clear A140
           have hcap0 : (l0.length ≤ c0) = True := eq_true HC0.out
           by_cases c15 : t184 = true
           ·
            subst c15
            rw [if_pos rfl] at H
            have H' := am_ H
            clear H
            go_wp2_with (first | ((with_reducible refine gate_builtin (b := .append) (xs := #[.tmp 32, .tmp 34]) rfl ?_); at_builtin; refine find_grows A0 l0 x20_1 NY.out rfl (.tmp 32) (.tmp 34) rfl base (HR0.out) HS.out rfl rfl HBASE.out LM.out HB.out ?_; intro A2 c2 w2 ho2 hs2 hb2; clear HB; have HB := am_ hb2; have HR2 := am_ ho2; have HS2 := am_ hs2; have hwx2_ := (Below.cell hb2 hgc).trans hwx_; have hwf2_ := (Below.cell hb2 hgf).trans hwf_; clear hb2 ho2 hs2) | ((with_reducible refine gc_ (f := 22) rfl ?_); refine goesL_ (some 38) rfl rfl Try.func22 (by kernel_rfl) rfl #[.slice (some ad177) l1.length c1, .slice A2 y2.length c2] rfl (by (try simp only [List.map_toArray, List.map_cons, List.map_nil]); first | done | rfl) ?_; (with_reducible refine (impl_meets.calls kj8 _ _ l1 _ _ y2 true _ ?side1 ?side2 ?side3 ?side4 A14.out).mono ?_); (case side1 => exact cb_ HR1.out HB.out); (case side2 => exact HC1.out); (case side3 => exact (rr_ HR2.out).2.2); (case side4 => exact (rr_ HR2.out).2.1); rintro e w' ⟨rfl, ⟨nd, rfl⟩⟩; refine ⟨_, rfl, ?_⟩))
            go_roundg kj8
            case measure => have := HK1.out; have := HJ8.out; omega
            case rel => exact ⟨(wrap64 (x20_1 + 1)), (by first | rfl | (simp; done) | (simp [*]; done)), H', ⟨by have := HK1.out; have := HJ8.out; omega⟩, ⟨(by repeat (first | (with_reducible first | exact HB.out | apply ba_ | apply pw_below_drewN | apply bd_) | exact HB.out))⟩⟩
           ·
            replace c15 := Bool.eq_false_iff.mpr c15
            subst c15
            rw [if_neg (show ¬ (false = true) by decide)] at H
            obtain ⟨⟨t185, t188⟩, A190, H⟩ := Option.bind_eq_some_iff.mp H
            have A19 := am_ A190
            clear A190
            by_cases c20 : t188 = true
            ·
             subst c20
             simp only [if_true, Option.some.injEq, Prod.mk.injEq] at H
             obtain ⟨rfl, rfl⟩ := H
             go_wp2_with (first | ((with_reducible refine gate_builtin (b := .append) (xs := #[.tmp 32, .tmp 34]) rfl ?_); at_builtin; refine find_grows A0 l0 x20_1 NY.out rfl (.tmp 32) (.tmp 34) rfl base (HR0.out) HS.out rfl rfl HBASE.out LM.out HB.out ?_; intro A2 c2 w2 ho2 hs2 hb2; clear HB; have HB := am_ hb2; have HR2 := am_ ho2; have HS2 := am_ hs2; have hwx2_ := (Below.cell hb2 hgc).trans hwx_; have hwf2_ := (Below.cell hb2 hgf).trans hwf_; clear hb2 ho2 hs2) | ((with_reducible refine gc_ (f := 22) rfl ?_); refine goesL_ (some 38) rfl rfl Try.func22 (by kernel_rfl) rfl #[.slice (some ad177) l1.length c1, .slice A2 y2.length c2] rfl (by (try simp only [List.map_toArray, List.map_cons, List.map_nil]); first | done | rfl) ?_; (with_reducible refine (impl_meets.calls kj8 _ _ l1 _ _ y2 false _ ?side1 ?side2 ?side3 ?side4 A14.out).mono ?_); (case side1 => exact cb_ HR1.out HB.out); (case side2 => exact HC1.out); (case side3 => exact (rr_ HR2.out).2.2); (case side4 => exact (rr_ HR2.out).2.1); rintro e w' ⟨rfl, ⟨nd, rfl⟩⟩; refine ⟨_, rfl, ?_⟩) | ((with_reducible refine gate_dst (N := 41) rfl ?_); refine goesD_ (some 41) rfl rfl Try.func27 (by kernel_rfl) rfl (x := Operand.tmp 39) #[] #[.pointer (some ⟨gc, 0, none⟩), .pointer (some ⟨gf, 0, none⟩)] #[.slice A2 y2.length c2] rfl rfl (by first | (rfl; done) | (simp [Act.eval, Act.put]; done)) ?_; refine (ih kj8 (by have := HK1.out; have := HJ8.out; omega) gc gf base A2 c2 y2 (some ad177) c1 l1 t185 true _ (blk_below HX.out (bp_ (Below.refl _ _) (by repeat (first | (with_reducible first | exact HB.out | apply ba_ | apply pw_below_drewN | apply bd_) | exact HB.out)))) (blk_below HF.out (by repeat (first | (with_reducible first | exact HB.out | apply ba_ | apply pw_below_drewN | apply bd_) | exact HB.out))) ?s1 HS2.out (Nat.le_trans HBASE.out (below_size (by repeat (first | (with_reducible first | exact HB.out | apply ba_ | apply pw_below_drewN | apply bd_) | exact HB.out)))) ?s2 HC1.out A19.out).mono ?_; (case s1 => (with_reducible repeat (first | apply Kd.R_alloc | apply Kd.R_drewN | apply Kd.R_drew)); exact HR2.out); (case s2 => exact cb_ HR1.out (by repeat (first | (with_reducible first | exact HB.out | apply ba_ | apply pw_below_drewN | apply bd_) | exact HB.out))); rintro e w3 ⟨A3, c3, rfl, hs3, ho3, hb3⟩; refine ⟨_, rfl, ?_⟩; have n1_ := am_ (bp_ (by repeat (first | (with_reducible first | exact HB.out | apply ba_ | apply pw_below_drewN | apply bd_) | exact HB.out)) hb3); clear HB; have HB := n1_; clear n1_; obtain ⟨ad3, rfl⟩ := Option.isSome_iff_exists.mp hs3; have HO3 := am_ ho3; clear ho3 hs3 hb3))
             go_ret
             exact ⟨_, _, rfl, rfl, HO3.out, (by repeat (first | (with_reducible first | exact HB.out | apply ba_ | apply pw_below_drewN | apply bd_) | exact HB.out))⟩
            ·
             replace c20 := Bool.eq_false_iff.mpr c20
             subst c20
             rw [if_neg (show ¬ (false = true) by decide)] at H
             have H' := am_ H
             clear H
             go_wp2_with (first | ((with_reducible refine gate_builtin (b := .append) (xs := #[.tmp 32, .tmp 34]) rfl ?_); at_builtin; refine find_grows A0 l0 x20_1 NY.out rfl (.tmp 32) (.tmp 34) rfl base (HR0.out) HS.out rfl rfl HBASE.out LM.out HB.out ?_; intro A2 c2 w2 ho2 hs2 hb2; clear HB; have HB := am_ hb2; have HR2 := am_ ho2; have HS2 := am_ hs2; have hwx2_ := (Below.cell hb2 hgc).trans hwx_; have hwf2_ := (Below.cell hb2 hgf).trans hwf_; clear hb2 ho2 hs2) | ((with_reducible refine gc_ (f := 22) rfl ?_); refine goesL_ (some 38) rfl rfl Try.func22 (by kernel_rfl) rfl #[.slice (some ad177) l1.length c1, .slice A2 y2.length c2] rfl (by (try simp only [List.map_toArray, List.map_cons, List.map_nil]); first | done | rfl) ?_; (with_reducible refine (impl_meets.calls kj8 _ _ l1 _ _ y2 false _ ?side1 ?side2 ?side3 ?side4 A14.out).mono ?_); (case side1 => exact cb_ HR1.out HB.out); (case side2 => exact HC1.out); (case side3 => exact (rr_ HR2.out).2.2); (case side4 => exact (rr_ HR2.out).2.1); rintro e w' ⟨rfl, ⟨nd, rfl⟩⟩; refine ⟨_, rfl, ?_⟩) | ((with_reducible refine gate_dst (N := 41) rfl ?_); refine goesD_ (some 41) rfl rfl Try.func27 (by kernel_rfl) rfl (x := Operand.tmp 39) #[] #[.pointer (some ⟨gc, 0, none⟩), .pointer (some ⟨gf, 0, none⟩)] #[.slice A2 y2.length c2] rfl rfl (by first | (rfl; done) | (simp [Act.eval, Act.put]; done)) ?_; refine (ih kj8 (by have := HK1.out; have := HJ8.out; omega) gc gf base A2 c2 y2 (some ad177) c1 l1 t185 false _ (blk_below HX.out (bp_ (Below.refl _ _) (by repeat (first | (with_reducible first | exact HB.out | apply ba_ | apply pw_below_drewN | apply bd_) | exact HB.out)))) (blk_below HF.out (by repeat (first | (with_reducible first | exact HB.out | apply ba_ | apply pw_below_drewN | apply bd_) | exact HB.out))) ?s1 HS2.out (Nat.le_trans HBASE.out (below_size (by repeat (first | (with_reducible first | exact HB.out | apply ba_ | apply pw_below_drewN | apply bd_) | exact HB.out)))) ?s2 HC1.out A19.out).mono ?_; (case s1 => (with_reducible repeat (first | apply Kd.R_alloc | apply Kd.R_drewN | apply Kd.R_drew)); exact HR2.out); (case s2 => exact cb_ HR1.out (by repeat (first | (with_reducible first | exact HB.out | apply ba_ | apply pw_below_drewN | apply bd_) | exact HB.out))); rintro e w3 ⟨A3, c3, rfl, hs3, ho3, hb3⟩; refine ⟨_, rfl, ?_⟩; have n1_ := am_ (bp_ (by repeat (first | (with_reducible first | exact HB.out | apply ba_ | apply pw_below_drewN | apply bd_) | exact HB.out)) hb3); clear HB; have HB := n1_; clear n1_; obtain rfl : A3 = none := Option.isSome_eq_false_iff.mp hs3 |> Option.isNone_iff_eq_none.mp; have HO3 := am_ ho3; clear ho3 hs3 hb3))
             go_roundg kj8
             case measure => have := HK1.out; have := HJ8.out; omega
             case rel => exact ⟨(wrap64 (x20_1 + 1)), (by first | rfl | (simp; done) | (simp [*]; done)), H', ⟨by have := HK1.out; have := HJ8.out; omega⟩, ⟨(by repeat (first | (with_reducible first | exact HB.out | apply ba_ | apply pw_below_drewN | apply bd_) | exact HB.out))⟩⟩
          ·
           rw [if_neg c13] at H
           exact absurd H (by simp)
      ·
       rw [if_neg c8] at H
       have c8b0 : decide (x20_1 < (rd l1 (l0.length : Int))) = false := decide_eq_false c8
       clear c8
       simp only [Option.some.injEq, Prod.mk.injEq] at H
       obtain ⟨rfl, rfl⟩ := H
       go_wp2
       go_ret
       exact ⟨none, 0, rfl, rfl, Kd.R_nil _ _ _ _ _, (by repeat (first | (with_reducible first | exact HB.out | apply ba_ | apply pw_below_drewN | apply bd_) | exact HB.out))⟩
   ·
    rw [if_neg c6] at H
    exact absurd H (by simp)
  ·
   rw [if_neg c5] at H
   exact absurd H (by simp)
/-! ### impl_FindOffsets: function 9 -/
def impl_FindOffsets.f (k : Nat) (l0 : List Int) : Option (List Int × Bool) := (impl_areCycles.f k l0).bind fun t189 => (if t189 = true then ((impl_FindOffsetsLit.f k (([] : List Int)) l0).bind fun bt193 => (some (bt193.1, bt193.2))) else (some (([] : List Int), false)))
theorem impl_FindOffsets.mono : ∀ a0 k, LeO (impl_FindOffsets.f k a0) (impl_FindOffsets.f (k + 1) a0) := by
 intro a0 k
 unfold impl_FindOffsets.f
 repeat' first
   | (with_reducible exact impl_FindOffsetsLit.mono _ _ _)
   | (with_reducible exact impl_areCycles.mono _ _)
   | (with_reducible exact LeO.refl _)
   | (with_reducible exact LeO.none _)
   | (with_reducible refine LeO.ite ?_ ?_)
   | (with_reducible refine LeO.bind ?_ (fun _ => ?_))
   | exact impl_FindOffsetsLit.mono _ _ _
   | exact impl_areCycles.mono _ _
   | exact LeO.none _
   | refine LeO.ite ?_ ?_
   | refine LeO.bind ?_ (fun _ => ?_)
theorem find_store {P : Program} {w : World} {a : Addr} {m : Mode} (fn : Fn) (first captured : Array Value) : (Go.store a (.func fn first captured) m).run P w = Go.stored P w a (.func fn first captured) m := Go.run_store P w a _ m rfl
attribute [local go_sem] find_store
theorem find_empty (w5 : World) {base : Nat} (hb : base ≤ w5.heap.size) : Kd.R (Kd.int .i64) 3 (w5.alloc (.cells #[] 3)) base (fun _ => True) (.slice (some ⟨w5.heap.size, 0, none⟩) ([] : List Int).length 0) [] :=
 Kd.R_of_own (enc := Value.int .i64) (h1 := fun _ => rfl) (xs := []) ⟨rfl, .inr ⟨w5.heap.size, 0, #[], rfl, hb, blk_new _ _, Nat.le_refl _, Nat.zero_le _, rfl, rfl⟩⟩ (fun _ _ => trivial)
set_option maxHeartbeats 8000000 in
set_option maxRecDepth 100000 in
theorem impl_FindOffsets.calls (k : Nat) (A0 : Option Addr) (c0 : Nat) (l0 : List Int) (r1 : List Int) (r2 : Bool) (w : World) (hr0 : Kd.C (Kd.int .i64) w A0 l0.length l0) (hc0 : l0.length ≤ c0) (h : impl_FindOffsets.f k l0 = some (r1, r2)) :
  Calls Try.prog 9 #[.slice A0 l0.length c0] w fun e w' => ∃ v0_ : Value, e = .returned (.tuple #[v0_, .bool r2]) ∧ Kd.R (Kd.int .i64) 3 w' w.heap.size (fun _ => True) v0_ r1 ∧ Below w.heap.size w w' := by
 have HR0 := am_ hr0
 have HC0 := am_ hc0
 clear hr0 hc0
 unfold impl_FindOffsets.f at h
 obtain ⟨t189, A20, H⟩ := Option.bind_eq_some_iff.mp h
 clear h
 have A2 := am_ A20
 clear A20
 by_cases c3 : t189 = true
 ·
  subst c3
  rw [if_pos rfl] at H
  obtain ⟨⟨t193, t196⟩, A40, H⟩ := Option.bind_eq_some_iff.mp H
  have A4 := am_ A40
  clear A40
  simp only [Option.some.injEq, Prod.mk.injEq] at H
  obtain ⟨rfl, rfl⟩ := H
  go_enter Try.func9, Try.ntmps9
  go_wp2_with (first | ((with_reducible refine gate_dst (N := 1) rfl ?_); refine box_event ?hg (N := 1) ?hd (cs := #[.slice A0 l0.length c0]) (t := 24) ?hr ?_; (case hd => rfl); (case hg => rfl); (case hr => first | (go_simp; done) | (go_simp; rfl)); intro g1 hg1 w1 hbox1 hb1; have BK1 := am_ hbox1; have HB := am_ hb1; have hc1_ : w1.cell? ⟨g1, 0, none⟩ = some (.slice A0 l0.length c0) := (kc_ hbox1 0).trans rfl; have GE1 := am_ (by rw [hg1]; exact Nat.le_refl _ : w.heap.size ≤ g1); clear hg1 hbox1 hb1) | ((with_reducible refine gc_ (f := 26) rfl ?_); refine goesL_ (some 7) rfl rfl Try.func26 (by kernel_rfl) rfl #[.slice A0 l0.length c0] rfl (by (try simp only [List.map_toArray, List.map_cons, List.map_nil]); first | done | rfl) ?_; (with_reducible refine (impl_areCycles.calls k _ _ l0 true _ ?side1 ?side2 A2.out).mono ?_); (case side1 => exact cb_ HR0.out HB.out); (case side2 => exact HC0.out); rintro e w' ⟨rfl, ⟨nd, rfl⟩⟩; refine ⟨_, rfl, ?_⟩) | ((with_reducible refine gate_dst (N := 4) rfl ?_); refine box_event ?hg (N := 4) ?hd (cs := #[.nilFunc]) (t := 48) ?hr ?_; (case hd => rfl); (case hg => rfl); (case hr => first | (go_simp; done) | (go_simp; rfl)); intro g4 hg4 w4 hbox4 hb4; have BK1b := am_ (blk_below (blk_drewN BK1.out nd) hb4); have BK4 := am_ hbox4; have hne_ : g1 ≠ g4 := (by rw [hg4]; exact Nat.ne_of_lt (blk_lt (blk_drewN BK1.out nd))); have GE4 := am_ (by rw [hg4]; exact HB.out.size : w.heap.size ≤ g4); have n_ := am_ (bp_ (pw_below_drewN HB.out nd) hb4); clear HB; have HB := n_; clear n_; have hc4_ : w4.cell? ⟨g4, 0, none⟩ = some (.nilFunc) := (kc_ hbox4 0).trans rfl; have hf4_ : w4.frozen? ⟨g4, 0, none⟩ = false := blk_frozen hbox4 0; clear hg4 hbox4 hb4) | ((with_reducible refine gate_store (t := 48) (p := 4) rfl ?_); refine store_event (t := 48) (p := 4) (v := .tmp 9) (w1 := (w4.setCell ⟨g4, 0, none⟩ (.func (.func 27) #[] #[.pointer (some ⟨g1, 0, none⟩), .pointer (some ⟨g4, 0, none⟩)]))) ?hg ?ho ?hn ?hr ?_; (case ho => rfl); (case hg => rfl); (case hn => rfl); (case hr => first | (go_simp; done) | (go_simp; rfl)); intro w5 hw5; have BK4c := am_ (by rw [hw5]; exact blk_put BK4.out 0 _ rfl : w5.heap[g4]? = some (.cells #[(.func (.func 27) #[] #[.pointer (some ⟨g1, 0, none⟩), .pointer (some ⟨g4, 0, none⟩)])] 48 (0, 0))); have BK1c := am_ (by rw [hw5]; exact blk_far BK1b.out hne_ _ : w5.heap[g1]? = some (.cells #[.slice A0 l0.length c0] 24 (0, 0))); have n_ := am_ (by rw [hw5]; exact below_set HB.out GE4.out : Below w.heap.size w w5); clear HB; have HB := n_; clear n_; have hc5_ : w5.cell? ⟨g4, 0, none⟩ = some (.func (.func 27) #[] #[.pointer (some ⟨g1, 0, none⟩), .pointer (some ⟨g4, 0, none⟩)]) := (kc_ BK4c.out 0).trans rfl; clear hw5) | ((with_reducible refine gate_dst (N := 11) rfl ?_); refine Kd.event_run rfl (v := .slice (some ⟨w5.heap.size, 0, none⟩) 0 0) (w1 := w5.alloc (.cells #[] 3)) ?hr ?_; (case hr => first | (go_simp; done) | (go_simp; rfl))) | ((with_reducible refine gate_dst (N := 12) rfl ?_); refine goesD_ (some 12) rfl rfl Try.func27 (by kernel_rfl) rfl (x := Operand.tmp 10) #[] #[.pointer (some ⟨g1, 0, none⟩), .pointer (some ⟨g4, 0, none⟩)] #[.slice (some ⟨w5.heap.size, 0, none⟩) 0 0] rfl rfl (by first | (rfl; done) | (simp [Act.eval, Act.put]; done)) ?_; refine (impl_FindOffsetsLit.calls k g1 g4 w.heap.size (some ⟨w5.heap.size, 0, none⟩) 0 [] A0 c0 l0 t193 t196 _ (blk_alloc BK1c.out _) (blk_alloc BK4c.out _) (find_empty w5 HB.out.size) rfl (Nat.le_trans HB.out.size (by simp)) (cb_ HR0.out (ba_ HB.out _)) HC0.out A4.out).mono ?_; rintro e w6 ⟨A3, c3, rfl, rfl, ho3, hb3⟩; refine ⟨_, rfl, ?_⟩; have n_ := am_ (bp_ (ba_ HB.out _) hb3); clear HB; have HB := n_; clear n_; have HO3 := am_ ho3; clear ho3 hb3))
  go_ret2
  exact ⟨_, rfl, HO3.out, (by repeat (first | (with_reducible first | exact HB.out | apply ba_ | apply pw_below_drewN | apply bd_) | exact HB.out))⟩
 ·
  replace c3 := Bool.eq_false_iff.mpr c3
  subst c3
  rw [if_neg (show ¬ (false = true) by decide)] at H
  simp only [Option.some.injEq, Prod.mk.injEq] at H
  obtain ⟨rfl, rfl⟩ := H
  go_enter Try.func9, Try.ntmps9
  go_wp2_with (first | ((with_reducible refine gate_dst (N := 1) rfl ?_); refine box_event ?hg (N := 1) ?hd (cs := #[.slice A0 l0.length c0]) (t := 24) ?hr ?_; (case hd => rfl); (case hg => rfl); (case hr => first | (go_simp; done) | (go_simp; rfl)); intro g1 hg1 w1 hbox1 hb1; have BK1 := am_ hbox1; have HB := am_ hb1; have hc1_ : w1.cell? ⟨g1, 0, none⟩ = some (.slice A0 l0.length c0) := (kc_ hbox1 0).trans rfl; have GE1 := am_ (by rw [hg1]; exact Nat.le_refl _ : w.heap.size ≤ g1); clear hg1 hbox1 hb1) | ((with_reducible refine gc_ (f := 26) rfl ?_); refine goesL_ (some 7) rfl rfl Try.func26 (by kernel_rfl) rfl #[.slice A0 l0.length c0] rfl (by (try simp only [List.map_toArray, List.map_cons, List.map_nil]); first | done | rfl) ?_; (with_reducible refine (impl_areCycles.calls k _ _ l0 false _ ?side1 ?side2 A2.out).mono ?_); (case side1 => exact cb_ HR0.out HB.out); (case side2 => exact HC0.out); rintro e w' ⟨rfl, ⟨nd, rfl⟩⟩; refine ⟨_, rfl, ?_⟩))
  go_ret2
  exact ⟨_, rfl, Kd.R_nil _ _ _ _ _, (by repeat (first | (with_reducible first | exact HB.out | apply ba_ | apply pw_below_drewN | apply bd_) | exact HB.out))⟩
end Go.Proofs.Ytikmlhpllgikpaa.PFnTimetables
