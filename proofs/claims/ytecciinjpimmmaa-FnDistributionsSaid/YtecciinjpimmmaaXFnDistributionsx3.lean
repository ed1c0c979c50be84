-- Made by wip/xprint.py: the print of the kit, called over a changed copy of what it reads.
-- PRINTED by print.py (a twelfth state) out of the translation. Not trusted: Lean checks it.
import Derived.Test.YtecciinjpimmmaaDyn
import Derived.Test.YtecciinjpimmmaaXFnDistributionsx0
import Derived.Test.YtecciinjpimmmaaXFnDistributionsx1
import Derived.Test.YtecciinjpimmmaaXFnDistributionsx2
namespace Go.Proofs.Ytecciinjpimmmaa.PFnDistributions
open Go.Proofs.Ytecciinjpimmmaa.Dyn
open Go.Proofs.YtecciinjpimmmaaW.PrintWords.Aside0 renaming mk → am_
open Go.Proofs.YtecciinjpimmmaaW.PrintWords renaming below_drew1 → bd_, below_alloc → ba_, below_set → bs_, below_size → bz_, below_step → bp_, gate_callee → gc_
open Go.Proofs.YtecciinjpimmmaaW.PrintWords.Kd renaming R_alloc → ra_, R_drewN → rn_, R_drew → rd_, R_mono → rm_, R_reads' → rr_, R_slice → rs_, C_alloc → ca_, C_drewN → cn_, C_drew → cd_
attribute [local go_sem] run_mf events_mf
open Go.RowKit Go.Proofs.YtecciinjpimmmaaW.PrintWords Go.Proofs.YtecciinjpimmmaaW.PrintLast Go.Proofs.YtecciinjpimmmaaW.PrintMore
attribute [local go_sem] max2_int min2_int max_two min_two max_three min_three max_four min_four   -- for this text's walks alone
set_option linter.unusedVariables false
set_option linter.unusedSimpArgs false

/-! ### spec_l5Good: function 28 -/
def spec_l5Good.f (k : Nat) (l0 : List Int) : Option (Bool) := (spec_l1In.f (l0.length : Int) 1 16).bind fun t210 => (if t210 = true then ((spec_l2Row.f k l0 (l0.length : Int) 1000).bind fun t211 => (if t211 = true then ((spec_l5Total.f k l0).bind fun t212 => (some (decide (t212 > 0)))) else (some false))) else (some false))
theorem spec_l5Good.mono : ∀ a0 k, LeO (spec_l5Good.f k a0) (spec_l5Good.f (k + 1) a0) := by
 intro a0 k
 unfold spec_l5Good.f
 repeat' first
   | (with_reducible exact spec_l2Row.mono _ _ _ _)
   | (with_reducible exact spec_l5Total.mono _ _)
   | (with_reducible exact LeO.refl _)
   | (with_reducible exact LeO.none _)
   | (with_reducible refine LeO.ite ?_ ?_)
   | (with_reducible refine LeO.bind ?_ (fun _ => ?_))
   | exact spec_l2Row.mono _ _ _ _
   | exact spec_l5Total.mono _ _
   | exact LeO.none _
   | refine LeO.ite ?_ ?_
   | refine LeO.bind ?_ (fun _ => ?_)
set_option maxHeartbeats 8000000 in
set_option maxRecDepth 100000 in
theorem spec_l5Good.calls (k : Nat) (A0 : Option Addr) (c0 : Nat) (l0 : List Int) (r : Bool) (w : World) (hr0 : Kd.C (Kd.int .i64) w A0 l0.length l0) (hc0 : l0.length ≤ c0) (h : spec_l5Good.f k l0 = some r) :
  Calls Try.prog 28 #[.slice A0 l0.length c0] w fun e w' => e = .returned (.bool r) ∧ Drawn0 w w' := by
 have HR0 := am_ hr0
 have HC0 := am_ hc0
 clear hr0 hc0
 have H : ((spec_l1In.f (l0.length : Int) 1 16).bind fun t210 => (if t210 = true then ((spec_l2Row.f k l0 (l0.length : Int) 1000).bind fun t211 => (if t211 = true then ((spec_l5Total.f k l0).bind fun t212 => (some (decide (t212 > 0)))) else (some false))) else (some false))) = some r := h
 clear h
 replace H := Option.bind_eq_some_iff.mp H
 obtain ⟨t210, A20, H⟩ := H
 replace H : (if t210 = true then ((spec_l2Row.f k l0 (l0.length : Int) 1000).bind fun t211 => (if t211 = true then ((spec_l5Total.f k l0).bind fun t212 => (some (decide (t212 > 0)))) else (some false))) else (some false)) = some r := H
 have A2 := am_ A20
 clear A20
 by_cases c3 : t210 = true
 ·
  subst c3
  have H1 : ((spec_l2Row.f k l0 (l0.length : Int) 1000).bind fun t211 => (if t211 = true then ((spec_l5Total.f k l0).bind fun t212 => (some (decide (t212 > 0)))) else (some false))) = some r := by rw [if_pos rfl] at H; exact H
  clear H
  have H := H1
  clear H1
  replace H := Option.bind_eq_some_iff.mp H
  obtain ⟨t211, A40, H⟩ := H
  replace H : (if t211 = true then ((spec_l5Total.f k l0).bind fun t212 => (some (decide (t212 > 0)))) else (some false)) = some r := H
  have A4 := am_ A40
  clear A40
  by_cases c5 : t211 = true
  ·
   subst c5
   have H1 : ((spec_l5Total.f k l0).bind fun t212 => (some (decide (t212 > 0)))) = some r := by rw [if_pos rfl] at H; exact H
   clear H
   have H := H1
   clear H1
   replace H := Option.bind_eq_some_iff.mp H
   obtain ⟨t212, A60, H⟩ := H
   replace H : (some (decide (t212 > 0))) = some r := H
   have A6 := am_ A60
   clear A60
   obtain rfl := Option.some.inj H
   go_enter Try.func28, Try.ntmps28
   go_wp2_with (first | ((with_reducible refine gc_ (f := 40) rfl ?_); refine goesL_ (some 5) rfl rfl Try.func40 (by kernel_rfl) rfl #[.int .i64 (l0.length : Int), .int .i64 1, .int .i64 16] rfl (by (try simp only [List.map_toArray, List.map_cons, List.map_nil]); first | done | rfl | (simp only [List.length_drop, List.length_take]; rfl)) ?_; (with_reducible refine (spec_l1In.calls (l0.length : Int) 1 16 true _ A2.out).mono ?_); rintro e w' ⟨rfl, ⟨nd, rfl⟩⟩; refine ⟨_, rfl, ?_⟩) | (go_at_call 41; (with_reducible refine (spec_l2Row.calls k _ _ l0 (l0.length : Int) 1000 true _ ?side1 ?side2 A4.out).mono ?_); (case side1 => repeat (first | exact HR0.out | (with_reducible refine ca_ ?_ _) | (with_reducible refine cn_ ?_ _) | (with_reducible refine cd_ ?_))); (case side2 => exact HC0.out); rintro e w' ⟨rfl, ⟨nd, rfl⟩⟩) | (go_at_call 30; (with_reducible refine (spec_l5Total.calls k _ _ l0 t212 _ ?side1 ?side2 A6.out).mono ?_); (case side1 => repeat (first | exact HR0.out | (with_reducible refine ca_ ?_ _) | (with_reducible refine cn_ ?_ _) | (with_reducible refine cd_ ?_))); (case side2 => exact HC0.out); rintro e w' ⟨rfl, ⟨nd, rfl⟩⟩))
   go_ret
   exact ⟨by first | rfl | (simp; done) | (simp [*]; done), by repeat (first | exact Drawn0.refl _ | apply Drawn0.step)⟩
  ·
   replace c5 := Bool.eq_false_iff.mpr c5
   subst c5
   have H1 : (some false) = some r := by rw [if_neg (show ¬ (false = true) by decide)] at H; exact H
   clear H
   have H := H1
   clear H1
   obtain rfl := Option.some.inj H
   go_enter Try.func28, Try.ntmps28
   go_wp2_with (first | ((with_reducible refine gc_ (f := 40) rfl ?_); refine goesL_ (some 5) rfl rfl Try.func40 (by kernel_rfl) rfl #[.int .i64 (l0.length : Int), .int .i64 1, .int .i64 16] rfl (by (try simp only [List.map_toArray, List.map_cons, List.map_nil]); first | done | rfl | (simp only [List.length_drop, List.length_take]; rfl)) ?_; (with_reducible refine (spec_l1In.calls (l0.length : Int) 1 16 true _ A2.out).mono ?_); rintro e w' ⟨rfl, ⟨nd, rfl⟩⟩; refine ⟨_, rfl, ?_⟩) | (go_at_call 41; (with_reducible refine (spec_l2Row.calls k _ _ l0 (l0.length : Int) 1000 false _ ?side1 ?side2 A4.out).mono ?_); (case side1 => repeat (first | exact HR0.out | (with_reducible refine ca_ ?_ _) | (with_reducible refine cn_ ?_ _) | (with_reducible refine cd_ ?_))); (case side2 => exact HC0.out); rintro e w' ⟨rfl, ⟨nd, rfl⟩⟩))
   go_ret
   exact ⟨by first | rfl | (simp; done) | (simp [*]; done), by repeat (first | exact Drawn0.refl _ | apply Drawn0.step)⟩
 ·
  replace c3 := Bool.eq_false_iff.mpr c3
  subst c3
  have H1 : (some false) = some r := by rw [if_neg (show ¬ (false = true) by decide)] at H; exact H
  clear H
  have H := H1
  clear H1
  obtain rfl := Option.some.inj H
  go_enter Try.func28, Try.ntmps28
  go_wp2_with (first | ((with_reducible refine gc_ (f := 40) rfl ?_); refine goesL_ (some 5) rfl rfl Try.func40 (by kernel_rfl) rfl #[.int .i64 (l0.length : Int), .int .i64 1, .int .i64 16] rfl (by (try simp only [List.map_toArray, List.map_cons, List.map_nil]); first | done | rfl | (simp only [List.length_drop, List.length_take]; rfl)) ?_; (with_reducible refine (spec_l1In.calls (l0.length : Int) 1 16 false _ A2.out).mono ?_); rintro e w' ⟨rfl, ⟨nd, rfl⟩⟩; refine ⟨_, rfl, ?_⟩))
  go_ret
  exact ⟨by first | rfl | (simp; done) | (simp [*]; done), by repeat (first | exact Drawn0.refl _ | apply Drawn0.step)⟩

/-! ### spec_l5UpTo: function 29 -/
def spec_l5UpTo.l0 : Nat → List Int → Int → Int → Int → Option (Int)
 | 0, _, _, _, _ => none
 | k + 1, x0, x1, x5, x6 => if x6 < (x0.length : Int) then (if x6 ≤ x1 then (if 0 ≤ x6 then (spec_l5UpTo.l0 k x0 x1 (wrap64 (x5 + (rd x0 x6))) (wrap64 (x6 + 1))) else (none)) else (some x5)) else (some x5)
def spec_l5UpTo.f (k : Nat) (l0 : List Int) (a1 : Int) : Option (Int) := spec_l5UpTo.l0 k l0 a1 0 0
theorem spec_l5UpTo.mono_l : ∀ k, (∀ y0 y1 y2 y3, LeO (spec_l5UpTo.l0 k y0 y1 y2 y3) (spec_l5UpTo.l0 (k + 1) y0 y1 y2 y3))
 | 0 => fun _ _ _ _ r h => by simp [spec_l5UpTo.l0] at h
 | k + 1 => by
  have ih0 := spec_l5UpTo.mono_l k
  ·
   intro y0 y1 y2 y3
   unfold spec_l5UpTo.l0
   repeat' first
   | (with_reducible exact ih0 _ _ _ _)
   | (with_reducible exact LeO.refl _)
   | (with_reducible exact LeO.none _)
   | (with_reducible refine LeO.ite ?_ ?_)
   | (with_reducible refine LeO.bind ?_ (fun _ => ?_))
   | exact ih0 _ _ _ _
   | exact LeO.none _
   | refine LeO.ite ?_ ?_
   | refine LeO.bind ?_ (fun _ => ?_)
theorem spec_l5UpTo.mono : ∀ a0 a1 k, LeO (spec_l5UpTo.f k a0 a1) (spec_l5UpTo.f (k + 1) a0 a1) := by
 intro a0 a1 k
 have ih0 := spec_l5UpTo.mono_l k
 unfold spec_l5UpTo.f
 repeat' first
   | (with_reducible exact ih0 _ _ _ _)
   | (with_reducible exact LeO.refl _)
   | (with_reducible exact LeO.none _)
   | (with_reducible refine LeO.ite ?_ ?_)
   | (with_reducible refine LeO.bind ?_ (fun _ => ?_))
   | exact ih0 _ _ _ _
   | exact LeO.none _
   | refine LeO.ite ?_ ?_
   | refine LeO.bind ?_ (fun _ => ?_)
set_option maxHeartbeats 8000000 in
set_option maxRecDepth 100000 in
theorem spec_l5UpTo.calls (k : Nat) (A0 : Option Addr) (c0 : Nat) (l0 : List Int) (a1 : Int) (r : Int) (w : World) (hr0 : Kd.C (Kd.int .i64) w A0 l0.length l0) (hc0 : l0.length ≤ c0) (h : spec_l5UpTo.f k l0 a1 = some r) :
  Calls Try.prog 29 #[.slice A0 l0.length c0, .int .i64 a1] w fun e w' => e = .returned (.int .i64 r) ∧ Drawn0 w w' := by
 have HR0 := am_ hr0
 have HC0 := am_ hc0
 clear hr0 hc0
 have H : (spec_l5UpTo.l0 k l0 a1 0 0) = some r := h
 clear h
 have H' := am_ H
 clear H
 go_enter Try.func29, Try.ntmps29
 go_wp2
 go_loopg [5, 6] k (fun kq v5 v6 w' => ∃ (x5_1 : Int) (x6_1 : Int), v5 = .int .i64 x5_1 ∧ v6 = .int .i64 x6_1 ∧ Aside0 (spec_l5UpTo.l0 kq l0 a1 x5_1 x6_1 = some r) ∧ Aside0 (kq ≤ k) ∧ Drawn0 w w')
 case atStart => exact ⟨(0), (0), (by first | rfl | (simp; done) | (simp [*]; done)), (by first | rfl | (simp; done) | (simp [*]; done)), H', ⟨Nat.le_refl _⟩, by repeat (first | exact Drawn0.refl _ | apply Drawn0.step)⟩
 case round =>
  clear H'
  try clear c2
  try clear p2
  obtain ⟨x5_1, x6_1, rfl, rfl, HA, HK1, ⟨m1, rfl⟩⟩ := hrel
  cases gk with
  | zero => exact absurd HA.out (by simp [spec_l5UpTo.l0])
  | succ k1 =>
   have H := HA.out
   clear HA
   simp only [spec_l5UpTo.l0] at H
   by_cases c3 : x6_1 < (l0.length : Int)
   ·
    rw [if_pos c3] at H
    have c3b0 : decide (x6_1 < (l0.length : Int)) = true := decide_eq_true c3
    clear c3
    by_cases c4 : x6_1 ≤ a1
    ·
     rw [if_pos c4] at H
     have c4b0 : decide (x6_1 ≤ a1) = true := decide_eq_true c4
     clear c4
     by_cases c5 : 0 ≤ x6_1
     ·
      rw [if_pos c5] at H
      have c5b0 : decide (0 ≤ x6_1) = true := decide_eq_true c5
      clear c5
      have H' := am_ H
      clear H
      have p213 : 0 ≤ (x6_1 : Int) := of_decide_eq_true (by first | (with_reducible assumption) | assumption)
      have q213 : x6_1 < (l0.length : Int) := of_decide_eq_true (by first | (with_reducible assumption) | assumption)
      obtain ⟨ad213, e213, hx213_0⟩ := Kd.at_int HR0.out x6_1 p213 q213
      cases e213
      replace p213 := eq_true p213
      replace q213 := eq_true q213
      go_wp2
      go_roundg k1
      case measure => have := HK1.out; omega
      case rel => exact ⟨(wrap64 (x5_1 + (rd l0 x6_1))), (wrap64 (x6_1 + 1)), (by first | rfl | (simp; done) | (simp [*]; done)), (by first | rfl | (simp; done) | (simp [*]; done)), H', ⟨by have := HK1.out; omega⟩, by repeat (first | exact Drawn0.refl _ | apply Drawn0.step)⟩
     ·
      rw [if_neg c5] at H
      exact absurd H (by simp)
    ·
     rw [if_neg c4] at H
     have c4b0 : decide (x6_1 ≤ a1) = false := decide_eq_false c4
     clear c4
     obtain rfl := Option.some.inj H
     go_wp2
     go_ret
     exact ⟨by first | rfl | (simp; done) | (simp [*]; done), by repeat (first | exact Drawn0.refl _ | apply Drawn0.step)⟩
   ·
    rw [if_neg c3] at H
    have c3b0 : decide (x6_1 < (l0.length : Int)) = false := decide_eq_false c3
    clear c3
    obtain rfl := Option.some.inj H
    go_wp2
    go_ret
    exact ⟨by first | rfl | (simp; done) | (simp [*]; done), by repeat (first | exact Drawn0.refl _ | apply Drawn0.step)⟩

/-! ### spec_IsMore: function 7 -/
mutual
def spec_IsMore.j0 : Nat → List Int → List Int → Bool → Option (Bool × Bool)
 | 0, _, _, _ => none
 | k + 1, x0, x1, x14 => if x14 = true then (some (false, false)) else (spec_IsMore.l0 k x0 x1 0)
def spec_IsMore.l0 : Nat → List Int → List Int → Int → Option (Bool × Bool)
 | 0, _, _, _ => none
 | k + 1, x0, x1, x6 => if x6 ≤ 15 then ((spec_l5UpTo.f k x0 x6).bind fun t216 => ((spec_l5Total.f k x1).bind fun t217 => ((spec_l5UpTo.f k x1 x6).bind fun t218 => ((spec_l5Total.f k x0).bind fun t219 => (if (wrap64 (t216 * t217)) > (wrap64 (t218 * t219)) then (some (false, true)) else (spec_IsMore.l0 k x0 x1 (wrap64 (x6 + 1)))))))) else (some (true, true))
end
def spec_IsMore.f (k : Nat) (l0 : List Int) (l1 : List Int) : Option (Bool × Bool) := (spec_l5Good.f k l0).bind fun t214 => (if t214 = true then ((spec_l5Good.f k l1).bind fun t215 => (spec_IsMore.j0 k l0 l1 (!t215))) else (spec_IsMore.j0 k l0 l1 true))
theorem spec_IsMore.mono_l : ∀ k, (∀ y0 y1 y2, LeO (spec_IsMore.j0 k y0 y1 y2) (spec_IsMore.j0 (k + 1) y0 y1 y2)) ∧ (∀ y0 y1 y2, LeO (spec_IsMore.l0 k y0 y1 y2) (spec_IsMore.l0 (k + 1) y0 y1 y2))
 | 0 => ⟨fun _ _ _ r h => by simp [spec_IsMore.j0] at h, fun _ _ _ r h => by simp [spec_IsMore.l0] at h⟩
 | k + 1 => by
  obtain ⟨ih0, ih1⟩ := spec_IsMore.mono_l k
  refine ⟨?_, ?_⟩
  ·
   intro y0 y1 y2
   unfold spec_IsMore.j0
   repeat' first
   | (with_reducible exact ih0 _ _ _)
   | (with_reducible exact ih1 _ _ _)
   | (with_reducible exact spec_l5Good.mono _ _)
   | (with_reducible exact spec_l5Total.mono _ _)
   | (with_reducible exact spec_l5UpTo.mono _ _ _)
   | (with_reducible exact LeO.refl _)
   | (with_reducible exact LeO.none _)
   | (with_reducible refine LeO.ite ?_ ?_)
   | (with_reducible refine LeO.bind ?_ (fun _ => ?_))
   | exact ih0 _ _ _
   | exact ih1 _ _ _
   | exact spec_l5Good.mono _ _
   | exact spec_l5Total.mono _ _
   | exact spec_l5UpTo.mono _ _ _
   | exact LeO.none _
   | refine LeO.ite ?_ ?_
   | refine LeO.bind ?_ (fun _ => ?_)
  ·
   intro y0 y1 y2
   unfold spec_IsMore.l0
   repeat' first
   | (with_reducible exact ih0 _ _ _)
   | (with_reducible exact ih1 _ _ _)
   | (with_reducible exact spec_l5Good.mono _ _)
   | (with_reducible exact spec_l5Total.mono _ _)
   | (with_reducible exact spec_l5UpTo.mono _ _ _)
   | (with_reducible exact LeO.refl _)
   | (with_reducible exact LeO.none _)
   | (with_reducible refine LeO.ite ?_ ?_)
   | (with_reducible refine LeO.bind ?_ (fun _ => ?_))
   | exact ih0 _ _ _
   | exact ih1 _ _ _
   | exact spec_l5Good.mono _ _
   | exact spec_l5Total.mono _ _
   | exact spec_l5UpTo.mono _ _ _
   | exact LeO.none _
   | refine LeO.ite ?_ ?_
   | refine LeO.bind ?_ (fun _ => ?_)
theorem spec_IsMore.mono : ∀ a0 a1 k, LeO (spec_IsMore.f k a0 a1) (spec_IsMore.f (k + 1) a0 a1) := by
 intro a0 a1 k
 obtain ⟨ih0, ih1⟩ := spec_IsMore.mono_l k
 unfold spec_IsMore.f
 repeat' first
   | (with_reducible exact ih0 _ _ _)
   | (with_reducible exact ih1 _ _ _)
   | (with_reducible exact spec_l5Good.mono _ _)
   | (with_reducible exact spec_l5Total.mono _ _)
   | (with_reducible exact spec_l5UpTo.mono _ _ _)
   | (with_reducible exact LeO.refl _)
   | (with_reducible exact LeO.none _)
   | (with_reducible refine LeO.ite ?_ ?_)
   | (with_reducible refine LeO.bind ?_ (fun _ => ?_))
   | exact ih0 _ _ _
   | exact ih1 _ _ _
   | exact spec_l5Good.mono _ _
   | exact spec_l5Total.mono _ _
   | exact spec_l5UpTo.mono _ _ _
   | exact LeO.none _
   | refine LeO.ite ?_ ?_
   | refine LeO.bind ?_ (fun _ => ?_)
set_option maxHeartbeats 8000000 in
set_option maxRecDepth 100000 in
theorem spec_IsMore.calls (k : Nat) (A0 : Option Addr) (c0 : Nat) (l0 : List Int) (A1 : Option Addr) (c1 : Nat) (l1 : List Int) (r1 : Bool) (r2 : Bool) (w : World) (hr0 : Kd.C (Kd.int .i64) w A0 l0.length l0) (hc0 : l0.length ≤ c0) (hr1 : Kd.C (Kd.int .i64) w A1 l1.length l1) (hc1 : l1.length ≤ c1) (h : spec_IsMore.f k l0 l1 = some (r1, r2)) :
  Calls Try.prog 7 #[.slice A0 l0.length c0, .slice A1 l1.length c1] w fun e w' => e = .returned (.tuple #[.bool r1, .bool r2]) ∧ Drawn0 w w' := by
 have HR0 := am_ hr0
 have HC0 := am_ hc0
 clear hr0 hc0
 have HR1 := am_ hr1
 have HC1 := am_ hc1
 clear hr1 hc1
 have H : ((spec_l5Good.f k l0).bind fun t214 => (if t214 = true then ((spec_l5Good.f k l1).bind fun t215 => (spec_IsMore.j0 k l0 l1 (!t215))) else (spec_IsMore.j0 k l0 l1 true))) = some (r1, r2) := h
 clear h
 have HC3 := am_ H
 clear H
 go_enter Try.func7, Try.ntmps7
 go_upto_region 1 with (fail)
 go_cut [14] (fun v14 wc => ∃ (kq : Nat) (x14_2 : Bool), v14 = .bool x14_2 ∧ Aside0 (spec_IsMore.j0 kq l0 l1 x14_2 = some (r1, r2)) ∧ Aside0 (kq ≤ k) ∧ Drawn0 w wc)
 case first =>
  have H := HC3.out
  clear HC3
  replace H := Option.bind_eq_some_iff.mp H
  obtain ⟨t214, A40, H⟩ := H
  replace H : (if t214 = true then ((spec_l5Good.f k l1).bind fun t215 => (spec_IsMore.j0 k l0 l1 (!t215))) else (spec_IsMore.j0 k l0 l1 true)) = some (r1, r2) := H
  have A4 := am_ A40
  clear A40
  by_cases c5 : t214 = true
  ·
   subst c5
   have H1 : ((spec_l5Good.f k l1).bind fun t215 => (spec_IsMore.j0 k l0 l1 (!t215))) = some (r1, r2) := by rw [if_pos rfl] at H; exact H
   clear H
   have H := H1
   clear H1
   replace H := Option.bind_eq_some_iff.mp H
   obtain ⟨t215, A60, H⟩ := H
   replace H : (spec_IsMore.j0 k l0 l1 (!t215)) = some (r1, r2) := H
   have A6 := am_ A60
   clear A60
   have H' := am_ H
   clear H
   go_wp2_with (first | ((with_reducible refine gc_ (f := 28) rfl ?_); refine goesL_ (some 8) rfl rfl Try.func28 (by kernel_rfl) rfl #[.slice A0 l0.length c0] rfl (by (try simp only [List.map_toArray, List.map_cons, List.map_nil]); first | done | rfl | (simp only [List.length_drop, List.length_take]; rfl)) ?_; (with_reducible refine (spec_l5Good.calls k _ _ l0 true _ ?side1 ?side2 A4.out).mono ?_); (case side1 => repeat (first | exact HR0.out | (with_reducible refine ca_ ?_ _) | (with_reducible refine cn_ ?_ _) | (with_reducible refine cd_ ?_))); (case side2 => exact HC0.out); rintro e w' ⟨rfl, ⟨nd, rfl⟩⟩; refine ⟨_, rfl, ?_⟩) | (go_at_call 28; (with_reducible refine (spec_l5Good.calls k _ _ l1 t215 _ ?side1 ?side2 A6.out).mono ?_); (case side1 => repeat (first | exact HR1.out | (with_reducible refine ca_ ?_ _) | (with_reducible refine cn_ ?_ _) | (with_reducible refine cd_ ?_))); (case side2 => exact HC1.out); rintro e w' ⟨rfl, ⟨nd, rfl⟩⟩))
   go_meet
   case rel => exact ⟨_, (!t215), (by first | rfl | (simp; done) | (simp [*]; done)), H', ⟨by first | omega | exact Nat.le_refl _⟩, by repeat (first | exact Drawn0.refl _ | apply Drawn0.step)⟩
  ·
   replace c5 := Bool.eq_false_iff.mpr c5
   subst c5
   have H1 : (spec_IsMore.j0 k l0 l1 true) = some (r1, r2) := by rw [if_neg (show ¬ (false = true) by decide)] at H; exact H
   clear H
   have H := H1
   clear H1
   have H' := am_ H
   clear H
   go_wp2_with (first | ((with_reducible refine gc_ (f := 28) rfl ?_); refine goesL_ (some 8) rfl rfl Try.func28 (by kernel_rfl) rfl #[.slice A0 l0.length c0] rfl (by (try simp only [List.map_toArray, List.map_cons, List.map_nil]); first | done | rfl | (simp only [List.length_drop, List.length_take]; rfl)) ?_; (with_reducible refine (spec_l5Good.calls k _ _ l0 false _ ?side1 ?side2 A4.out).mono ?_); (case side1 => repeat (first | exact HR0.out | (with_reducible refine ca_ ?_ _) | (with_reducible refine cn_ ?_ _) | (with_reducible refine cd_ ?_))); (case side2 => exact HC0.out); rintro e w' ⟨rfl, ⟨nd, rfl⟩⟩; refine ⟨_, rfl, ?_⟩))
   go_meet
   case rel => exact ⟨_, (true), (by first | rfl | (simp; done) | (simp [*]; done)), H', ⟨by first | omega | exact Nat.le_refl _⟩, by repeat (first | exact Drawn0.refl _ | apply Drawn0.step)⟩
 case rest =>
  clear HC3
  try clear c1
  try clear c2
  try clear p2
  try clear c5
  obtain ⟨kq, x14_2, rfl, HA, HJ2, ⟨mc2, rfl⟩⟩ := hcut
  cases kq with
  | zero => exact absurd HA.out (by simp [spec_IsMore.j0])
  | succ kj2 =>
   have H := HA.out
   clear HA
   simp only [spec_IsMore.j0] at H
   by_cases c7 : x14_2 = true
   ·
    subst c7
    have H1 : (some (false, false)) = some (r1, r2) := by rw [if_pos rfl] at H; exact H
    clear H
    have H := H1
    clear H1
    simp only [Option.some.injEq, Prod.mk.injEq] at H
    obtain ⟨rfl, rfl⟩ := H
    go_wp2
    go_ret2
    exact ⟨by first | rfl | (simp; done) | (simp [*]; done), by repeat (first | exact Drawn0.refl _ | apply Drawn0.step)⟩
   ·
    replace c7 := Bool.eq_false_iff.mpr c7
    subst c7
    have H1 : (spec_IsMore.l0 kj2 l0 l1 0) = some (r1, r2) := by rw [if_neg (show ¬ (false = true) by decide)] at H; exact H
    clear H
    have H := H1
    clear H1
    have H' := am_ H
    clear H
    go_wp2
    go_loopg [6] kj2 (fun kq v6 w' => ∃ (x6_2 : Int), v6 = .int .i64 x6_2 ∧ Aside0 (spec_IsMore.l0 kq l0 l1 x6_2 = some (r1, r2)) ∧ Aside0 (kq ≤ kj2) ∧ Drawn0 w w')
    case atStart => exact ⟨(0), (by first | rfl | (simp; done) | (simp [*]; done)), H', ⟨Nat.le_refl _⟩, by repeat (first | exact Drawn0.refl _ | apply Drawn0.step)⟩
    case round =>
     clear H'
     try clear c1
     try clear c2
     try clear p2
     try clear c5
     try clear c7
     try clear p2
     obtain ⟨x6_2, rfl, HA, HK2, ⟨m2, rfl⟩⟩ := hrel
     cases gk with
     | zero => exact absurd HA.out (by simp [spec_IsMore.l0])
     | succ k2 =>
      have H := HA.out
      clear HA
      simp only [spec_IsMore.l0] at H
      by_cases c8 : x6_2 ≤ 15
      ·
       rw [if_pos c8] at H
       have c8b0 : decide (x6_2 ≤ 15) = true := decide_eq_true c8
       clear c8
       replace H := Option.bind_eq_some_iff.mp H
       obtain ⟨t216, A90, H⟩ := H
       replace H : ((spec_l5Total.f k2 l1).bind fun t217 => ((spec_l5UpTo.f k2 l1 x6_2).bind fun t218 => ((spec_l5Total.f k2 l0).bind fun t219 => (if (wrap64 (t216 * t217)) > (wrap64 (t218 * t219)) then (some (false, true)) else (spec_IsMore.l0 k2 l0 l1 (wrap64 (x6_2 + 1))))))) = some (r1, r2) := H
       have A9 := am_ A90
       clear A90
       replace H := Option.bind_eq_some_iff.mp H
       obtain ⟨t217, A100, H⟩ := H
       replace H : ((spec_l5UpTo.f k2 l1 x6_2).bind fun t218 => ((spec_l5Total.f k2 l0).bind fun t219 => (if (wrap64 (t216 * t217)) > (wrap64 (t218 * t219)) then (some (false, true)) else (spec_IsMore.l0 k2 l0 l1 (wrap64 (x6_2 + 1)))))) = some (r1, r2) := H
       have A10 := am_ A100
       clear A100
       replace H := Option.bind_eq_some_iff.mp H
       obtain ⟨t218, A110, H⟩ := H
       replace H : ((spec_l5Total.f k2 l0).bind fun t219 => (if (wrap64 (t216 * t217)) > (wrap64 (t218 * t219)) then (some (false, true)) else (spec_IsMore.l0 k2 l0 l1 (wrap64 (x6_2 + 1))))) = some (r1, r2) := H
       have A11 := am_ A110
       clear A110
       replace H := Option.bind_eq_some_iff.mp H
       obtain ⟨t219, A120, H⟩ := H
       replace H : (if (wrap64 (t216 * t217)) > (wrap64 (t218 * t219)) then (some (false, true)) else (spec_IsMore.l0 k2 l0 l1 (wrap64 (x6_2 + 1)))) = some (r1, r2) := H
       have A12 := am_ A120
       clear A120
       by_cases c13 : (wrap64 (t216 * t217)) > (wrap64 (t218 * t219))
       ·
        rw [if_pos c13] at H
        have c13b0 : decide ((wrap64 (t218 * t219)) < (wrap64 (t216 * t217))) = true := decide_eq_true c13
        clear c13
        simp only [Option.some.injEq, Prod.mk.injEq] at H
        obtain ⟨rfl, rfl⟩ := H
        go_wp2_with (first | ((with_reducible refine gc_ (f := 29) rfl ?_); refine goesL_ (some 21) rfl rfl Try.func29 (by kernel_rfl) rfl #[.slice A0 l0.length c0, .int .i64 x6_2] rfl (by (try simp only [List.map_toArray, List.map_cons, List.map_nil]); first | done | rfl | (simp only [List.length_drop, List.length_take]; rfl)) ?_; (with_reducible refine (spec_l5UpTo.calls k2 _ _ l0 x6_2 t216 _ ?side1 ?side2 A9.out).mono ?_); (case side1 => repeat (first | exact HR0.out | (with_reducible refine ca_ ?_ _) | (with_reducible refine cn_ ?_ _) | (with_reducible refine cd_ ?_))); (case side2 => exact HC0.out); rintro e w' ⟨rfl, ⟨nd, rfl⟩⟩; refine ⟨_, rfl, ?_⟩) | ((with_reducible refine gc_ (f := 30) rfl ?_); refine goesL_ (some 23) rfl rfl Try.func30 (by kernel_rfl) rfl #[.slice A1 l1.length c1] rfl (by (try simp only [List.map_toArray, List.map_cons, List.map_nil]); first | done | rfl | (simp only [List.length_drop, List.length_take]; rfl)) ?_; (with_reducible refine (spec_l5Total.calls k2 _ _ l1 t217 _ ?side1 ?side2 A10.out).mono ?_); (case side1 => repeat (first | exact HR1.out | (with_reducible refine ca_ ?_ _) | (with_reducible refine cn_ ?_ _) | (with_reducible refine cd_ ?_))); (case side2 => exact HC1.out); rintro e w' ⟨rfl, ⟨nd, rfl⟩⟩; refine ⟨_, rfl, ?_⟩) | ((with_reducible refine gc_ (f := 29) rfl ?_); refine goesL_ (some 27) rfl rfl Try.func29 (by kernel_rfl) rfl #[.slice A1 l1.length c1, .int .i64 x6_2] rfl (by (try simp only [List.map_toArray, List.map_cons, List.map_nil]); first | done | rfl | (simp only [List.length_drop, List.length_take]; rfl)) ?_; (with_reducible refine (spec_l5UpTo.calls k2 _ _ l1 x6_2 t218 _ ?side1 ?side2 A11.out).mono ?_); (case side1 => repeat (first | exact HR1.out | (with_reducible refine ca_ ?_ _) | (with_reducible refine cn_ ?_ _) | (with_reducible refine cd_ ?_))); (case side2 => exact HC1.out); rintro e w' ⟨rfl, ⟨nd, rfl⟩⟩; refine ⟨_, rfl, ?_⟩) | ((with_reducible refine gc_ (f := 30) rfl ?_); refine goesL_ (some 29) rfl rfl Try.func30 (by kernel_rfl) rfl #[.slice A0 l0.length c0] rfl (by (try simp only [List.map_toArray, List.map_cons, List.map_nil]); first | done | rfl | (simp only [List.length_drop, List.length_take]; rfl)) ?_; (with_reducible refine (spec_l5Total.calls k2 _ _ l0 t219 _ ?side1 ?side2 A12.out).mono ?_); (case side1 => repeat (first | exact HR0.out | (with_reducible refine ca_ ?_ _) | (with_reducible refine cn_ ?_ _) | (with_reducible refine cd_ ?_))); (case side2 => exact HC0.out); rintro e w' ⟨rfl, ⟨nd, rfl⟩⟩; refine ⟨_, rfl, ?_⟩))
        go_ret2
        exact ⟨by first | rfl | (simp; done) | (simp [*]; done), by repeat (first | exact Drawn0.refl _ | apply Drawn0.step)⟩
       ·
        rw [if_neg c13] at H
        have c13b0 : decide ((wrap64 (t218 * t219)) < (wrap64 (t216 * t217))) = false := decide_eq_false c13
        clear c13
        have H' := am_ H
        clear H
        go_wp2_with (first | ((with_reducible refine gc_ (f := 29) rfl ?_); refine goesL_ (some 21) rfl rfl Try.func29 (by kernel_rfl) rfl #[.slice A0 l0.length c0, .int .i64 x6_2] rfl (by (try simp only [List.map_toArray, List.map_cons, List.map_nil]); first | done | rfl | (simp only [List.length_drop, List.length_take]; rfl)) ?_; (with_reducible refine (spec_l5UpTo.calls k2 _ _ l0 x6_2 t216 _ ?side1 ?side2 A9.out).mono ?_); (case side1 => repeat (first | exact HR0.out | (with_reducible refine ca_ ?_ _) | (with_reducible refine cn_ ?_ _) | (with_reducible refine cd_ ?_))); (case side2 => exact HC0.out); rintro e w' ⟨rfl, ⟨nd, rfl⟩⟩; refine ⟨_, rfl, ?_⟩) | ((with_reducible refine gc_ (f := 30) rfl ?_); refine goesL_ (some 23) rfl rfl Try.func30 (by kernel_rfl) rfl #[.slice A1 l1.length c1] rfl (by (try simp only [List.map_toArray, List.map_cons, List.map_nil]); first | done | rfl | (simp only [List.length_drop, List.length_take]; rfl)) ?_; (with_reducible refine (spec_l5Total.calls k2 _ _ l1 t217 _ ?side1 ?side2 A10.out).mono ?_); (case side1 => repeat (first | exact HR1.out | (with_reducible refine ca_ ?_ _) | (with_reducible refine cn_ ?_ _) | (with_reducible refine cd_ ?_))); (case side2 => exact HC1.out); rintro e w' ⟨rfl, ⟨nd, rfl⟩⟩; refine ⟨_, rfl, ?_⟩) | ((with_reducible refine gc_ (f := 29) rfl ?_); refine goesL_ (some 27) rfl rfl Try.func29 (by kernel_rfl) rfl #[.slice A1 l1.length c1, .int .i64 x6_2] rfl (by (try simp only [List.map_toArray, List.map_cons, List.map_nil]); first | done | rfl | (simp only [List.length_drop, List.length_take]; rfl)) ?_; (with_reducible refine (spec_l5UpTo.calls k2 _ _ l1 x6_2 t218 _ ?side1 ?side2 A11.out).mono ?_); (case side1 => repeat (first | exact HR1.out | (with_reducible refine ca_ ?_ _) | (with_reducible refine cn_ ?_ _) | (with_reducible refine cd_ ?_))); (case side2 => exact HC1.out); rintro e w' ⟨rfl, ⟨nd, rfl⟩⟩; refine ⟨_, rfl, ?_⟩) | ((with_reducible refine gc_ (f := 30) rfl ?_); refine goesL_ (some 29) rfl rfl Try.func30 (by kernel_rfl) rfl #[.slice A0 l0.length c0] rfl (by (try simp only [List.map_toArray, List.map_cons, List.map_nil]); first | done | rfl | (simp only [List.length_drop, List.length_take]; rfl)) ?_; (with_reducible refine (spec_l5Total.calls k2 _ _ l0 t219 _ ?side1 ?side2 A12.out).mono ?_); (case side1 => repeat (first | exact HR0.out | (with_reducible refine ca_ ?_ _) | (with_reducible refine cn_ ?_ _) | (with_reducible refine cd_ ?_))); (case side2 => exact HC0.out); rintro e w' ⟨rfl, ⟨nd, rfl⟩⟩; refine ⟨_, rfl, ?_⟩))
        go_roundg k2
        case measure => have := HJ2.out; have := HK2.out; omega
        case rel => exact ⟨(wrap64 (x6_2 + 1)), (by first | rfl | (simp; done) | (simp [*]; done)), H', ⟨by have := HJ2.out; have := HK2.out; omega⟩, by repeat (first | exact Drawn0.refl _ | apply Drawn0.step)⟩
      ·
       rw [if_neg c8] at H
       have c8b0 : decide (x6_2 ≤ 15) = false := decide_eq_false c8
       clear c8
       simp only [Option.some.injEq, Prod.mk.injEq] at H
       obtain ⟨rfl, rfl⟩ := H
       go_wp2
       go_ret2
       exact ⟨by first | rfl | (simp; done) | (simp [*]; done), by repeat (first | exact Drawn0.refl _ | apply Drawn0.step)⟩

/-! ### spec_DrawIsWider: function 8 -/
def spec_DrawIsWider.f (k : Nat) (l0 : List Int) : Option (List Int × List Int) := (spec_newCur.f l0).bind fun bt220 => ((spec_l1Cur_chances.f k bt220.1 bt220.2.1 bt220.2.2).bind fun bt224 => ((spec_l1Own.f bt224.1).bind fun t229 => ((spec_l1Cur_pick.f bt220.1 bt224.2.1 bt224.2.2 (wrap64 ((t229.length : Int) + 1))).bind fun bt232 => (if (wrap64 ((wrap64 (1 + bt232.1)) + 1)) < (t229.length : Int) then (if 0 ≤ (wrap64 (1 + bt232.1)) then (if (wrap64 (1 + bt232.1)) < (t229.length : Int) then (if (rd t229 (wrap64 (1 + bt232.1))) > 1 then (if (rd t229 (wrap64 (1 + bt232.1))) < 1000 then ((spec_l1Cur_pick.f bt220.1 bt232.2.1 bt232.2.2 6).bind fun bt237 => (if bt237.1 > 0 then ((some (t229.set ((wrap64 (1 + bt232.1)) : Int).toNat (wrap64 ((rd t229 (wrap64 (1 + bt232.1))) - 2)) : List Int)).bind fun y241 => (if 0 ≤ (wrap64 ((wrap64 (1 + bt232.1)) - 1)) then (if (wrap64 ((wrap64 (1 + bt232.1)) - 1)) < (t229.length : Int) then ((some (y241.set ((wrap64 ((wrap64 (1 + bt232.1)) - 1)) : Int).toNat (wrap64 ((rd y241 (wrap64 ((wrap64 (1 + bt232.1)) - 1))) + 1)) : List Int)).bind fun y243 => (if 0 ≤ (wrap64 ((wrap64 (1 + bt232.1)) + 1)) then (some ((y243.set ((wrap64 ((wrap64 (1 + bt232.1)) + 1)) : Int).toNat (wrap64 ((rd y243 (wrap64 ((wrap64 (1 + bt232.1)) + 1))) + 1))), bt224.1)) else (none))) else (none)) else (none))) else (some (t229, bt224.1)))) else (some (t229, bt224.1))) else (some (t229, bt224.1))) else (none)) else (none)) else (some (t229, bt224.1))))))
theorem spec_DrawIsWider.mono : ∀ a0 k, LeO (spec_DrawIsWider.f k a0) (spec_DrawIsWider.f (k + 1) a0) := by
 intro a0 k
 unfold spec_DrawIsWider.f
 repeat' first
   | (with_reducible exact spec_l1Cur_chances.mono _ _ _ _)
   | (with_reducible exact LeO.refl _)
   | (with_reducible exact LeO.none _)
   | (with_reducible refine LeO.ite ?_ ?_)
   | (with_reducible refine LeO.bind ?_ (fun _ => ?_))
   | exact spec_l1Cur_chances.mono _ _ _ _
   | exact LeO.none _
   | refine LeO.ite ?_ ?_
   | refine LeO.bind ?_ (fun _ => ?_)
set_option maxHeartbeats 8000000 in
set_option maxRecDepth 100000 in
theorem spec_DrawIsWider.calls (k : Nat) (A0 : Option Addr) (c0 : Nat) (l0 : List Int) (r1 : List Int) (r2 : List Int) (w : World) (hr0 : Kd.C (Kd.int .u8) w A0 l0.length l0) (hc0 : l0.length ≤ c0) (h : spec_DrawIsWider.f k l0 = some (r1, r2)) :
  Calls Try.prog 8 #[.slice A0 l0.length c0] w fun e w' => ∃ v0_ v1_ : Value, e = .returned (.tuple #[v0_, v1_]) ∧ Kd.R (Kd.int .i64) 3 w' w.heap.size (fun k_ => some k_ ≠ (v1_ : Value).ownBlock) v0_ r1 ∧ Kd.R (Kd.int .i64) 3 w' w.heap.size (fun k_ => some k_ ≠ (v0_ : Value).ownBlock) v1_ r2 ∧ Below w.heap.size w w' := by
 have HR0 := am_ hr0
 have HC0 := am_ hc0
 clear hr0 hc0
 have HB := am_ (Below.refl w.heap.size w)
 have H : ((spec_newCur.f l0).bind fun bt220 => ((spec_l1Cur_chances.f k bt220.1 bt220.2.1 bt220.2.2).bind fun bt224 => ((spec_l1Own.f bt224.1).bind fun t229 => ((spec_l1Cur_pick.f bt220.1 bt224.2.1 bt224.2.2 (wrap64 ((t229.length : Int) + 1))).bind fun bt232 => (if (wrap64 ((wrap64 (1 + bt232.1)) + 1)) < (t229.length : Int) then (if 0 ≤ (wrap64 (1 + bt232.1)) then (if (wrap64 (1 + bt232.1)) < (t229.length : Int) then (if (rd t229 (wrap64 (1 + bt232.1))) > 1 then (if (rd t229 (wrap64 (1 + bt232.1))) < 1000 then ((spec_l1Cur_pick.f bt220.1 bt232.2.1 bt232.2.2 6).bind fun bt237 => (if bt237.1 > 0 then ((some (t229.set ((wrap64 (1 + bt232.1)) : Int).toNat (wrap64 ((rd t229 (wrap64 (1 + bt232.1))) - 2)) : List Int)).bind fun y241 => (if 0 ≤ (wrap64 ((wrap64 (1 + bt232.1)) - 1)) then (if (wrap64 ((wrap64 (1 + bt232.1)) - 1)) < (t229.length : Int) then ((some (y241.set ((wrap64 ((wrap64 (1 + bt232.1)) - 1)) : Int).toNat (wrap64 ((rd y241 (wrap64 ((wrap64 (1 + bt232.1)) - 1))) + 1)) : List Int)).bind fun y243 => (if 0 ≤ (wrap64 ((wrap64 (1 + bt232.1)) + 1)) then (some ((y243.set ((wrap64 ((wrap64 (1 + bt232.1)) + 1)) : Int).toNat (wrap64 ((rd y243 (wrap64 ((wrap64 (1 + bt232.1)) + 1))) + 1))), bt224.1)) else (none))) else (none)) else (none))) else (some (t229, bt224.1)))) else (some (t229, bt224.1))) else (some (t229, bt224.1))) else (none)) else (none)) else (some (t229, bt224.1))))))) = some (r1, r2) := h
 clear h
 replace H := Option.bind_eq_some_iff.mp H
 obtain ⟨⟨t220, t221, t222⟩, A20, H⟩ := H
 replace H : ((spec_l1Cur_chances.f k t220 t221 t222).bind fun bt224 => ((spec_l1Own.f bt224.1).bind fun t229 => ((spec_l1Cur_pick.f t220 bt224.2.1 bt224.2.2 (wrap64 ((t229.length : Int) + 1))).bind fun bt232 => (if (wrap64 ((wrap64 (1 + bt232.1)) + 1)) < (t229.length : Int) then (if 0 ≤ (wrap64 (1 + bt232.1)) then (if (wrap64 (1 + bt232.1)) < (t229.length : Int) then (if (rd t229 (wrap64 (1 + bt232.1))) > 1 then (if (rd t229 (wrap64 (1 + bt232.1))) < 1000 then ((spec_l1Cur_pick.f t220 bt232.2.1 bt232.2.2 6).bind fun bt237 => (if bt237.1 > 0 then ((some (t229.set ((wrap64 (1 + bt232.1)) : Int).toNat (wrap64 ((rd t229 (wrap64 (1 + bt232.1))) - 2)) : List Int)).bind fun y241 => (if 0 ≤ (wrap64 ((wrap64 (1 + bt232.1)) - 1)) then (if (wrap64 ((wrap64 (1 + bt232.1)) - 1)) < (t229.length : Int) then ((some (y241.set ((wrap64 ((wrap64 (1 + bt232.1)) - 1)) : Int).toNat (wrap64 ((rd y241 (wrap64 ((wrap64 (1 + bt232.1)) - 1))) + 1)) : List Int)).bind fun y243 => (if 0 ≤ (wrap64 ((wrap64 (1 + bt232.1)) + 1)) then (some ((y243.set ((wrap64 ((wrap64 (1 + bt232.1)) + 1)) : Int).toNat (wrap64 ((rd y243 (wrap64 ((wrap64 (1 + bt232.1)) + 1))) + 1))), bt224.1)) else (none))) else (none)) else (none))) else (some (t229, bt224.1)))) else (some (t229, bt224.1))) else (some (t229, bt224.1))) else (none)) else (none)) else (some (t229, bt224.1)))))) = some (r1, r2) := H
 have A2 := am_ A20
 clear A20
 replace H := Option.bind_eq_some_iff.mp H
 obtain ⟨⟨t224, t227, t228⟩, A30, H⟩ := H
 replace H : ((spec_l1Own.f t224).bind fun t229 => ((spec_l1Cur_pick.f t220 t227 t228 (wrap64 ((t229.length : Int) + 1))).bind fun bt232 => (if (wrap64 ((wrap64 (1 + bt232.1)) + 1)) < (t229.length : Int) then (if 0 ≤ (wrap64 (1 + bt232.1)) then (if (wrap64 (1 + bt232.1)) < (t229.length : Int) then (if (rd t229 (wrap64 (1 + bt232.1))) > 1 then (if (rd t229 (wrap64 (1 + bt232.1))) < 1000 then ((spec_l1Cur_pick.f t220 bt232.2.1 bt232.2.2 6).bind fun bt237 => (if bt237.1 > 0 then ((some (t229.set ((wrap64 (1 + bt232.1)) : Int).toNat (wrap64 ((rd t229 (wrap64 (1 + bt232.1))) - 2)) : List Int)).bind fun y241 => (if 0 ≤ (wrap64 ((wrap64 (1 + bt232.1)) - 1)) then (if (wrap64 ((wrap64 (1 + bt232.1)) - 1)) < (t229.length : Int) then ((some (y241.set ((wrap64 ((wrap64 (1 + bt232.1)) - 1)) : Int).toNat (wrap64 ((rd y241 (wrap64 ((wrap64 (1 + bt232.1)) - 1))) + 1)) : List Int)).bind fun y243 => (if 0 ≤ (wrap64 ((wrap64 (1 + bt232.1)) + 1)) then (some ((y243.set ((wrap64 ((wrap64 (1 + bt232.1)) + 1)) : Int).toNat (wrap64 ((rd y243 (wrap64 ((wrap64 (1 + bt232.1)) + 1))) + 1))), t224)) else (none))) else (none)) else (none))) else (some (t229, t224)))) else (some (t229, t224))) else (some (t229, t224))) else (none)) else (none)) else (some (t229, t224))))) = some (r1, r2) := H
 have A3 := am_ A30
 clear A30
 replace H := Option.bind_eq_some_iff.mp H
 obtain ⟨t229, A40, H⟩ := H
 replace H : ((spec_l1Cur_pick.f t220 t227 t228 (wrap64 ((t229.length : Int) + 1))).bind fun bt232 => (if (wrap64 ((wrap64 (1 + bt232.1)) + 1)) < (t229.length : Int) then (if 0 ≤ (wrap64 (1 + bt232.1)) then (if (wrap64 (1 + bt232.1)) < (t229.length : Int) then (if (rd t229 (wrap64 (1 + bt232.1))) > 1 then (if (rd t229 (wrap64 (1 + bt232.1))) < 1000 then ((spec_l1Cur_pick.f t220 bt232.2.1 bt232.2.2 6).bind fun bt237 => (if bt237.1 > 0 then ((some (t229.set ((wrap64 (1 + bt232.1)) : Int).toNat (wrap64 ((rd t229 (wrap64 (1 + bt232.1))) - 2)) : List Int)).bind fun y241 => (if 0 ≤ (wrap64 ((wrap64 (1 + bt232.1)) - 1)) then (if (wrap64 ((wrap64 (1 + bt232.1)) - 1)) < (t229.length : Int) then ((some (y241.set ((wrap64 ((wrap64 (1 + bt232.1)) - 1)) : Int).toNat (wrap64 ((rd y241 (wrap64 ((wrap64 (1 + bt232.1)) - 1))) + 1)) : List Int)).bind fun y243 => (if 0 ≤ (wrap64 ((wrap64 (1 + bt232.1)) + 1)) then (some ((y243.set ((wrap64 ((wrap64 (1 + bt232.1)) + 1)) : Int).toNat (wrap64 ((rd y243 (wrap64 ((wrap64 (1 + bt232.1)) + 1))) + 1))), t224)) else (none))) else (none)) else (none))) else (some (t229, t224)))) else (some (t229, t224))) else (some (t229, t224))) else (none)) else (none)) else (some (t229, t224)))) = some (r1, r2) := H
 have A4 := am_ A40
 clear A40
 replace H := Option.bind_eq_some_iff.mp H
 obtain ⟨⟨t232, t233, t234⟩, A50, H⟩ := H
 replace H : (if (wrap64 ((wrap64 (1 + t232)) + 1)) < (t229.length : Int) then (if 0 ≤ (wrap64 (1 + t232)) then (if (wrap64 (1 + t232)) < (t229.length : Int) then (if (rd t229 (wrap64 (1 + t232))) > 1 then (if (rd t229 (wrap64 (1 + t232))) < 1000 then ((spec_l1Cur_pick.f t220 t233 t234 6).bind fun bt237 => (if bt237.1 > 0 then ((some (t229.set ((wrap64 (1 + t232)) : Int).toNat (wrap64 ((rd t229 (wrap64 (1 + t232))) - 2)) : List Int)).bind fun y241 => (if 0 ≤ (wrap64 ((wrap64 (1 + t232)) - 1)) then (if (wrap64 ((wrap64 (1 + t232)) - 1)) < (t229.length : Int) then ((some (y241.set ((wrap64 ((wrap64 (1 + t232)) - 1)) : Int).toNat (wrap64 ((rd y241 (wrap64 ((wrap64 (1 + t232)) - 1))) + 1)) : List Int)).bind fun y243 => (if 0 ≤ (wrap64 ((wrap64 (1 + t232)) + 1)) then (some ((y243.set ((wrap64 ((wrap64 (1 + t232)) + 1)) : Int).toNat (wrap64 ((rd y243 (wrap64 ((wrap64 (1 + t232)) + 1))) + 1))), t224)) else (none))) else (none)) else (none))) else (some (t229, t224)))) else (some (t229, t224))) else (some (t229, t224))) else (none)) else (none)) else (some (t229, t224))) = some (r1, r2) := H
 have A5 := am_ A50
 clear A50
 by_cases c6 : (wrap64 ((wrap64 (1 + t232)) + 1)) < (t229.length : Int)
 ·
  rw [if_pos c6] at H
  have c6b0 : decide ((wrap64 ((wrap64 (1 + t232)) + 1)) < (t229.length : Int)) = true := decide_eq_true c6
  clear c6
  obtain ⟨ji7, hji7⟩ : ∃ j_ : Int, (wrap64 (1 + t232)) = j_ := ⟨_, rfl⟩
  replace H : (if 0 ≤ (ji7) then (if (ji7) < (t229.length : Int) then (if (rd t229 (ji7)) > 1 then (if (rd t229 (ji7)) < 1000 then ((spec_l1Cur_pick.f t220 t233 t234 6).bind fun bt237 => (if bt237.1 > 0 then ((some (t229.set ((ji7) : Int).toNat (wrap64 ((rd t229 (ji7)) - 2)) : List Int)).bind fun y241 => (if 0 ≤ (wrap64 ((ji7) - 1)) then (if (wrap64 ((ji7) - 1)) < (t229.length : Int) then ((some (y241.set ((wrap64 ((ji7) - 1)) : Int).toNat (wrap64 ((rd y241 (wrap64 ((ji7) - 1))) + 1)) : List Int)).bind fun y243 => (if 0 ≤ (wrap64 ((ji7) + 1)) then (some ((y243.set ((wrap64 ((ji7) + 1)) : Int).toNat (wrap64 ((rd y243 (wrap64 ((ji7) + 1))) + 1))), t224)) else (none))) else (none)) else (none))) else (some (t229, t224)))) else (some (t229, t224))) else (some (t229, t224))) else (none)) else (none)) = some (r1, r2) := by first | (rw [hji7] at H; exact H) | (simp only [hji7] at H ⊢; exact H)
  (try rw [hji7] at c6b0)
  (try rw [hji7] at A2)
  (try rw [hji7] at A3)
  (try rw [hji7] at A4)
  (try rw [hji7] at A5)
  (try rw [hji7] at c6b0)
  have hji7w : (IntKind.i64.wrap (1 + t232)) = ji7 := (i64_w _).trans hji7
  by_cases c8 : 0 ≤ (ji7)
  ·
   rw [if_pos c8] at H
   have c8b0 : decide (0 ≤ (ji7)) = true := decide_eq_true c8
   clear c8
   by_cases c9 : (ji7) < (t229.length : Int)
   ·
    rw [if_pos c9] at H
    have c9b0 : decide ((ji7) < (t229.length : Int)) = true := decide_eq_true c9
    clear c9
    by_cases c10 : (rd t229 (ji7)) > 1
    ·
     rw [if_pos c10] at H
     have c10b0 : decide (1 < (rd t229 (ji7))) = true := decide_eq_true c10
     clear c10
     by_cases c11 : (rd t229 (ji7)) < 1000
     ·
      rw [if_pos c11] at H
      have c11b0 : decide ((rd t229 (ji7)) < 1000) = true := decide_eq_true c11
      clear c11
      replace H := Option.bind_eq_some_iff.mp H
      obtain ⟨⟨t237, t238, t239⟩, A120, H⟩ := H
      replace H : (if t237 > 0 then ((some (t229.set ((ji7) : Int).toNat (wrap64 ((rd t229 (ji7)) - 2)) : List Int)).bind fun y241 => (if 0 ≤ (wrap64 ((ji7) - 1)) then (if (wrap64 ((ji7) - 1)) < (t229.length : Int) then ((some (y241.set ((wrap64 ((ji7) - 1)) : Int).toNat (wrap64 ((rd y241 (wrap64 ((ji7) - 1))) + 1)) : List Int)).bind fun y243 => (if 0 ≤ (wrap64 ((ji7) + 1)) then (some ((y243.set ((wrap64 ((ji7) + 1)) : Int).toNat (wrap64 ((rd y243 (wrap64 ((ji7) + 1))) + 1))), t224)) else (none))) else (none)) else (none))) else (some (t229, t224))) = some (r1, r2) := H
      have A12 := am_ A120
      clear A120
      by_cases c13 : t237 > 0
      ·
       rw [if_pos c13] at H
       have c13b0 : decide (0 < t237) = true := decide_eq_true c13
       clear c13
       obtain ⟨y241, hy241⟩ : ∃ y_ : List Int, y_ = (t229.set ((ji7) : Int).toNat (wrap64 ((rd t229 (ji7)) - 2))) := ⟨_, rfl⟩
       replace H : (if 0 ≤ (wrap64 ((ji7) - 1)) then (if (wrap64 ((ji7) - 1)) < (t229.length : Int) then ((some (y241.set ((wrap64 ((ji7) - 1)) : Int).toNat (wrap64 ((rd y241 (wrap64 ((ji7) - 1))) + 1)) : List Int)).bind fun y243 => (if 0 ≤ (wrap64 ((ji7) + 1)) then (some ((y243.set ((wrap64 ((ji7) + 1)) : Int).toNat (wrap64 ((rd y243 (wrap64 ((ji7) + 1))) + 1))), t224)) else (none))) else (none)) else (none)) = some (r1, r2) := by first | (rw [hy241]; with_reducible exact H) | (have H2_ := (Option.bind_some _ _).symm.trans H; rw [hy241]; with_reducible exact H2_) | (have H2_ := (Option.bind_some _ _).symm.trans H; with_reducible exact H2_) | with_reducible exact H | (rw [hy241]; exact H) | exact H
       have Ny241 := am_ hy241
       clear hy241
       obtain ⟨ji15, hji15⟩ : ∃ j_ : Int, (wrap64 ((ji7) - 1)) = j_ := ⟨_, rfl⟩
       replace H : (if 0 ≤ (ji15) then (if (ji15) < (t229.length : Int) then ((some (y241.set ((ji15) : Int).toNat (wrap64 ((rd y241 (ji15)) + 1)) : List Int)).bind fun y243 => (if 0 ≤ (wrap64 ((ji7) + 1)) then (some ((y243.set ((wrap64 ((ji7) + 1)) : Int).toNat (wrap64 ((rd y243 (wrap64 ((ji7) + 1))) + 1))), t224)) else (none))) else (none)) else (none)) = some (r1, r2) := by first | (rw [hji15] at H; exact H) | (simp only [hji15] at H ⊢; exact H)
       (try rw [hji15] at A2)
       (try rw [hji15] at A3)
       (try rw [hji15] at A4)
       (try rw [hji15] at A5)
       (try rw [hji15] at A12)
       (try rw [hji15] at c6b0)
       have hji15w : (IntKind.i64.wrap ((ji7) - 1)) = ji15 := (i64_w _).trans hji15
       by_cases c16 : 0 ≤ (ji15)
       ·
        rw [if_pos c16] at H
        have c16b0 : decide (0 ≤ (ji15)) = true := decide_eq_true c16
        clear c16
        by_cases c17 : (ji15) < (t229.length : Int)
        ·
         rw [if_pos c17] at H
         have c17b0 : decide ((ji15) < (t229.length : Int)) = true := decide_eq_true c17
         clear c17
         obtain ⟨y243, hy243⟩ : ∃ y_ : List Int, y_ = (y241.set ((ji15) : Int).toNat (wrap64 ((rd y241 (ji15)) + 1))) := ⟨_, rfl⟩
         replace H : (if 0 ≤ (wrap64 ((ji7) + 1)) then (some ((y243.set ((wrap64 ((ji7) + 1)) : Int).toNat (wrap64 ((rd y243 (wrap64 ((ji7) + 1))) + 1))), t224)) else (none)) = some (r1, r2) := by first | (rw [hy243]; with_reducible exact H) | (have H2_ := (Option.bind_some _ _).symm.trans H; rw [hy243]; with_reducible exact H2_) | (have H2_ := (Option.bind_some _ _).symm.trans H; with_reducible exact H2_) | with_reducible exact H | (rw [hy243]; exact H) | exact H
         have Ny243 := am_ hy243
         clear hy243
         obtain ⟨ji19, hji19⟩ : ∃ j_ : Int, (wrap64 ((ji7) + 1)) = j_ := ⟨_, rfl⟩
         replace H : (if 0 ≤ (ji19) then (some ((y243.set ((ji19) : Int).toNat (wrap64 ((rd y243 (ji19)) + 1))), t224)) else (none)) = some (r1, r2) := by first | (rw [hji19] at H; exact H) | (simp only [hji19] at H ⊢; exact H)
         (try rw [hji19] at A2)
         (try rw [hji19] at A3)
         (try rw [hji19] at A4)
         (try rw [hji19] at A5)
         (try rw [hji19] at A12)
         (try rw [hji19] at c6b0)
         have hji19w : (IntKind.i64.wrap ((ji7) + 1)) = ji19 := (i64_w _).trans hji19
         by_cases c20 : 0 ≤ (ji19)
         ·
          rw [if_pos c20] at H
          have c20b0 : decide (0 ≤ (ji19)) = true := decide_eq_true c20
          clear c20
          obtain ⟨y245, hy245⟩ : ∃ y_ : List Int, y_ = (y243.set ((ji19) : Int).toNat (wrap64 ((rd y243 (ji19)) + 1))) := ⟨_, rfl⟩
          replace H : (some (y245, t224)) = some (r1, r2) := by first | (rw [hy245]; with_reducible exact H) | (have H2_ := (Option.bind_some _ _).symm.trans H; rw [hy245]; with_reducible exact H2_) | (have H2_ := (Option.bind_some _ _).symm.trans H; with_reducible exact H2_) | with_reducible exact H | (rw [hy245]; exact H) | exact H
          have Ny245 := am_ hy245
          clear hy245
          simp only [Option.some.injEq, Prod.mk.injEq] at H
          obtain ⟨rfl, rfl⟩ := H
          go_enter Try.func8, Try.ntmps8
          go_wp2_with (first | ((with_reducible refine gate_dst (N := 10) rfl ?_); refine box_event ?hg (N := 10) ?hd (cs := #[.slice A0 l0.length c0, .int .i64 0, .int .u64 0]) (t := 42) ?hr ?_; (case hd => rfl); (case hg => rfl); (case hr => first | (go_simp; done) | (go_simp; rfl)); intro g223 hg w22 hbox hb2; have hb := bp_ (by repeat (first | (with_reducible first | exact HB.out | apply ba_ | apply pw_below_drewN | apply bd_) | exact HB.out)) hb2; have hi := newCur_is A2.out hbox (by rw [hg]; exact bz_ (by repeat (first | (with_reducible first | exact HB.out | apply ba_ | apply pw_below_drewN | apply bd_) | exact HB.out))) (by exact HR0.out); clear hbox hg; have n0_ := am_ (hb); have n1_ := am_ (hi); clear HB; have HB := n0_; have HI223 := n1_; clear n0_ n1_; (try clear hb); (try clear hb2); (try clear hk); (try clear hi)) | ((with_reducible refine gc_ (f := 21) rfl ?_); refine goesL_ (some 12) rfl rfl Try.func21 (by kernel_rfl) rfl #[.pointer (some ⟨g223, 0, none⟩)] rfl (by (try simp only [List.map_toArray, List.map_cons, List.map_nil]); first | done | rfl | (simp only [List.length_drop, List.length_take]; rfl)) ?_; (with_reducible refine (spec_l1Cur_chances.calls k g223 t220 t221 t222 t224 t227 t228 w _ ?side1 ?side2 A3.out).mono ?_); (case side1 => repeat (first | (with_reducible first | exact HI223.out | apply IsS42.alloc | apply IsS42.drewN | apply IsS42.drew | apply IsS42.set_1 | apply IsS42.set_2) | exact HI223.out)); (case side2 => repeat (first | (with_reducible first | exact HB.out | apply ba_ | apply pw_below_drewN | apply bd_ | refine bs_ ?_ (IsS42.ge HI223.out)) | exact HB.out)); rintro e w23 ⟨v225, rfl, ho0, hi, hb, hk⟩; refine ⟨_, rfl, ?_⟩; have n0_ := am_ (Kd.R_lower ho0 (bz_ (by repeat (first | (with_reducible first | exact HB.out | apply ba_ | apply pw_below_drewN | apply bd_ | refine bs_ ?_ (IsS42.ge HI223.out)) | exact HB.out)))); have n1_ := am_ (hb); have n2_ := am_ (hi); clear HB; clear HI223; have HO226 := n0_; have HB := n1_; have HI223 := n2_; clear n0_ n1_ n2_; (try clear hb); (try clear hb2); (try clear hk); (try clear hi); (try clear ho0); obtain ⟨Ao24, co24, eo24⟩ := rs_ HO226.out; subst eo24) | ((with_reducible refine gc_ (f := 23) rfl ?_); refine goesL_ (some 14) rfl rfl Try.func23 (by kernel_rfl) rfl #[.slice Ao24 t224.length co24] rfl (by (try simp only [List.map_toArray, List.map_cons, List.map_nil]); first | done | rfl | (simp only [List.length_drop, List.length_take]; rfl)) ?_; (with_reducible refine (spec_l1Own.calls _ _ t224 t229 _ ?side1 ?side2 A4.out).mono ?_); (case side1 => repeat (first | exact (rr_ HO226.out).2.2 | (with_reducible refine ca_ ?_ _) | (with_reducible refine cn_ ?_ _) | (with_reducible refine cd_ ?_))); (case side2 => exact (rr_ HO226.out).2.1); rintro e w25 ⟨v230, rfl, ho0, hb⟩; refine ⟨_, rfl, ?_⟩; have n0_ := am_ (Kd.R_elder' (by (with_reducible repeat (first | apply ra_ | apply rn_ | apply rd_)); exact HO226.out) (Kd.R_base ho0) hb); have n1_ := am_ (Kd.R_lower (Kd.R_new' ho0 (Kd.R_lt (by (with_reducible repeat (first | apply ra_ | apply rn_ | apply rd_)); exact HO226.out))) (bz_ (by repeat (first | (with_reducible first | exact HB.out | apply ba_ | apply pw_below_drewN | apply bd_ | refine bs_ ?_ (IsS42.ge HI223.out)) | exact HB.out)))); have n2_ := am_ (IsS42.below (by repeat (first | (with_reducible first | exact HI223.out | apply IsS42.alloc | apply IsS42.drewN | apply IsS42.drew | apply IsS42.set_1 | apply IsS42.set_2) | exact HI223.out)) hb); have n3_ := am_ (bp_ (by repeat (first | (with_reducible first | exact HB.out | apply ba_ | apply pw_below_drewN | apply bd_ | refine bs_ ?_ (IsS42.ge HI223.out)) | exact HB.out)) hb); clear HO226; clear HI223; clear HB; have HO226 := n0_; have HO231 := n1_; have HI223 := n2_; have HB := n3_; clear n0_ n1_ n2_ n3_; (try clear hb); (try clear hb2); (try clear hk); (try clear hi); (try clear ho0); obtain ⟨Ao26, co26, eo26⟩ := rs_ HO231.out; subst eo26) | ((with_reducible refine gc_ (f := 24) rfl ?_); refine goesL_ (some 19) rfl rfl Try.func24 (by kernel_rfl) rfl #[.pointer (some ⟨g223, 0, none⟩), .int .i64 (wrap64 ((t229.length : Int) + 1))] rfl (by (try simp only [List.map_toArray, List.map_cons, List.map_nil]); first | done | rfl | (simp only [List.length_drop, List.length_take]; rfl)) ?_; (with_reducible refine (spec_l1Cur_pick.calls g223 t220 t227 t228 (wrap64 ((t229.length : Int) + 1)) t232 t233 t234 w _ ?side1 ?side2 A5.out).mono ?_); (case side1 => repeat (first | (with_reducible first | exact HI223.out | apply IsS42.alloc | apply IsS42.drewN | apply IsS42.drew | apply IsS42.set_1 | apply IsS42.set_2) | exact HI223.out)); (case side2 => repeat (first | (with_reducible first | exact HB.out | apply ba_ | apply pw_below_drewN | apply bd_ | refine bs_ ?_ (IsS42.ge HI223.out)) | exact HB.out)); rintro e w27 ⟨rfl, hi, hb, hk⟩; refine ⟨_, rfl, ?_⟩; have n0_ := am_ (rm_ (Kd.R_keep (IsS42.apart (show IsS42 w _ g223 t220 t227 t228 from by repeat (first | (with_reducible first | exact HI223.out | apply IsS42.alloc | apply IsS42.drewN | apply IsS42.drew | apply IsS42.set_1 | apply IsS42.set_2) | exact HI223.out)) (by (with_reducible repeat (first | apply ra_ | apply rn_ | apply rd_)); exact HO226.out) (by decide)) hk (fun _ h => h.2)) (fun _ h => h.1)); have n1_ := am_ (rm_ (Kd.R_keep (IsS42.apart (show IsS42 w _ g223 t220 t227 t228 from by repeat (first | (with_reducible first | exact HI223.out | apply IsS42.alloc | apply IsS42.drewN | apply IsS42.drew | apply IsS42.set_1 | apply IsS42.set_2) | exact HI223.out)) (by (with_reducible repeat (first | apply ra_ | apply rn_ | apply rd_)); exact HO231.out) (by decide)) hk (fun _ h => h.2)) (fun _ h => h.1)); have n2_ := am_ (hb); have n3_ := am_ (hi); clear HO226; clear HO231; clear HB; clear HI223; have HO226 := n0_; have HO231 := n1_; have HB := n2_; have HI223 := n3_; clear n0_ n1_ n2_ n3_; (try clear hb); (try clear hb2); (try clear hk); (try clear hi); have p235 : 0 ≤ ((ji7) : Int) := of_decide_eq_true (by first | (with_reducible assumption) | assumption); have q235 : (ji7) < (t229.length : Int) := of_decide_eq_true (by first | (with_reducible assumption) | assumption); obtain ⟨ad235, e235, hx235_0⟩ := Kd.at_int (rr_ HO231.out).2.2 (ji7) p235 q235; cases e235; replace p235 := eq_true p235; replace q235 := eq_true q235; have p236 : 0 ≤ ((ji7) : Int) := of_decide_eq_true (by first | (with_reducible assumption) | assumption); have q236 : (ji7) < (t229.length : Int) := of_decide_eq_true (by first | (with_reducible assumption) | assumption); obtain ⟨ad236, e236, hx236_0⟩ := Kd.at_int (rr_ HO231.out).2.2 (ji7) p236 q236; obtain rfl : ad235 = ad236 := (by injection e236); replace p236 := eq_true p236; replace q236 := eq_true q236) | (go_at_call 24; (with_reducible refine (spec_l1Cur_pick.calls g223 t220 t233 t234 6 t237 t238 t239 w _ ?side1 ?side2 A12.out).mono ?_); (case side1 => repeat (first | (with_reducible first | exact HI223.out | apply IsS42.alloc | apply IsS42.drewN | apply IsS42.drew | apply IsS42.set_1 | apply IsS42.set_2) | exact HI223.out)); (case side2 => repeat (first | (with_reducible first | exact HB.out | apply ba_ | apply pw_below_drewN | apply bd_ | refine bs_ ?_ (IsS42.ge HI223.out)) | exact HB.out)); rintro e w28 ⟨rfl, hi, hb, hk⟩; have n0_ := am_ (rm_ (Kd.R_keep (IsS42.apart (show IsS42 w _ g223 t220 t233 t234 from by repeat (first | (with_reducible first | exact HI223.out | apply IsS42.alloc | apply IsS42.drewN | apply IsS42.drew | apply IsS42.set_1 | apply IsS42.set_2) | exact HI223.out)) (by (with_reducible repeat (first | apply ra_ | apply rn_ | apply rd_)); exact HO226.out) (by decide)) hk (fun _ h => h.2)) (fun _ h => h.1)); have n1_ := am_ (rm_ (Kd.R_keep (IsS42.apart (show IsS42 w _ g223 t220 t233 t234 from by repeat (first | (with_reducible first | exact HI223.out | apply IsS42.alloc | apply IsS42.drewN | apply IsS42.drew | apply IsS42.set_1 | apply IsS42.set_2) | exact HI223.out)) (by (with_reducible repeat (first | apply ra_ | apply rn_ | apply rd_)); exact HO231.out) (by decide)) hk (fun _ h => h.2)) (fun _ h => h.1)); have n2_ := am_ (hb); have n3_ := am_ (hi); clear HO226; clear HO231; clear HB; clear HI223; have HO226 := n0_; have HO231 := n1_; have HB := n2_; have HI223 := n3_; clear n0_ n1_ n2_ n3_; (try clear hb); (try clear hb2); (try clear hk); (try clear hi); have p240 : 0 ≤ ((ji7) : Int) := of_decide_eq_true (by first | (with_reducible assumption) | assumption); have q240 : (ji7) < (t229.length : Int) := of_decide_eq_true (by first | (with_reducible assumption) | assumption); obtain ⟨ad240, e240, hx240_0⟩ := Kd.at_int (rr_ HO231.out).2.2 (ji7) p240 q240; obtain rfl : ad235 = ad240 := (by injection e240); replace p240 := eq_true p240; replace q240 := eq_true q240; have p14 : 0 ≤ ((ji7) : Int) := of_decide_eq_true (by first | (with_reducible assumption) | assumption); have q14 : ((ji7) : Int) < ((t229.length : Int) : Int) := of_decide_eq_true (by first | (with_reducible assumption) | assumption); obtain ⟨go14, co14, eo14, gb14, gl14, cl14, HG14⟩ := Kd.R_form HO231.out (by omega); (first | cases eo14 | (injection eo14 with ea_ en_ ec_; (first | subst ea_ | (injection ea_ with ea_; subst ea_)); subst ec_; clear en_)); have GB14 := am_ gb14; have GG14 := am_ HG14; clear gb14 gl14 HG14; (first | simp only [add_plain] at hx235_0 | skip); (first | simp only [add_plain] at hx236_0 | skip); (first | simp only [add_plain] at hx240_0 | skip); obtain ⟨hx14_0, hf14_0⟩ := Kd.R_celln 0 HO231.out ((ji7) : Int) p14 q14; replace p14 := eq_true p14; replace q14 := eq_true q14; have n_ := am_ (rm_ (ok' := (fun k_ => some k_ ≠ (.slice Ao24 t224.length co24 : Value).ownBlock)) HO231.out (fun k_ hk => hk.2)); clear HO231; have HO231 := n_; clear n_; obtain ⟨hy29_, hz29_⟩ := Kd.R_celln 0 HO231.out ((ji7) : Int) (of_decide_eq_true (by first | (with_reducible assumption) | assumption)) (of_decide_eq_true (by first | (with_reducible assumption) | assumption)); have HP29 := Kd.R_putg HO231.out ((ji7) : Int) (wrap64 ((rd t229 (ji7)) - 2))) | ((with_reducible refine gate_store (t := 3) (p := 52) rfl ?_); refine store_event (t := 3) (p := 52) (v := ?vo_w30) (w1 := (w28.setCell ⟨go14, ((ji7) : Int).toNat, none⟩ (.int .i64 (wrap64 ((rd t229 (ji7)) - 2))))) ?hg ?ho ?hn ?hr ?_; (case ho => rfl); (case hg => rfl); (case hn => rfl); (case hr => first | (go_simp; done) | (go_simp; rfl)); intro w30 hw; have hg : w28.grownBy w30 (some go14) := (by rw [hw]; exact HP29.2); have hp_ : Kd.R (Kd.int .i64) 3 w30 w.heap.size (fun k_ => some k_ ≠ (.slice Ao24 t224.length co24 : Value).ownBlock) (.slice (some ⟨go14, 0, none⟩) t229.length co26) y241 := (by rw [hw, Ny241.out]; exact HP29.1); clear HP29; have n0_ := am_ (IsS42.grown (by repeat (first | (with_reducible first | exact HI223.out | apply IsS42.alloc | apply IsS42.drewN | apply IsS42.drew | apply IsS42.set_1 | apply IsS42.set_2) | exact HI223.out)) hg (IsS42.own_ne HI223.out HO231.out (by decide))); have n1_ := am_ (Kd.R_after (v := (.slice (some ⟨go14, 0, none⟩) t229.length co26)) (v1 := (.slice (some ⟨go14, 0, none⟩) t229.length co26)) (ok := (fun _ => True)) (by (with_reducible repeat (first | apply ra_ | apply rn_ | apply rd_)); exact HO226.out) hg (.inl rfl)); have n2_ := am_ (hp_); have n3_ := am_ ((by rw [hw]; exact bs_ (HB.out) GB14.out : Below w.heap.size w w30)); clear HI223; clear HO226; clear HO231; clear HB; have HI223 := n0_; have HO226 := n1_; have HO231 := n2_; have HB := n3_; clear n0_ n1_ n2_ n3_; clear hg hw hp_; have p242 : 0 ≤ ((ji15) : Int) := of_decide_eq_true (by first | (with_reducible assumption) | assumption); have q242 : (ji15) < (y241.length : Int) := (by have h_ : ((ji15) : Int) < ((t229.length : Int) : Int) := of_decide_eq_true (by first | (with_reducible assumption) | assumption); first | (have e_ := (rr_ HO231.out).1; omega) | simpa only [Ny241.out, List.length_set] using h_); have ql242 : (((ji15) : Int) < ((t229.length : Int) : Int)) = True := eq_true (of_decide_eq_true (by first | (with_reducible assumption) | assumption)); obtain ⟨ad242, e242, hx242_0⟩ := Kd.at_int (rr_ HO231.out).2.2 (ji15) p242 q242; obtain rfl : (⟨go14, 0, none⟩ : Addr) = ad242 := (by injection e242); (first | simp only [add_plain] at hx242_0 | simp only [add_at] at hx242_0 | simp only [Addr.add, Nat.zero_add] at hx242_0 | skip); replace p242 := eq_true p242; replace q242 := eq_true q242; have p18 : 0 ≤ ((ji15) : Int) := of_decide_eq_true (by first | (with_reducible assumption) | assumption); have q18 : ((ji15) : Int) < ((t229.length : Int) : Int) := of_decide_eq_true (by first | (with_reducible assumption) | assumption); obtain ⟨hx18_0, hf18_0⟩ := Kd.R_celln 0 HO231.out ((ji15) : Int) p18 q18; replace p18 := eq_true p18; replace q18 := eq_true q18; obtain ⟨hy31_, hz31_⟩ := Kd.R_celln 0 HO231.out ((ji15) : Int) (of_decide_eq_true (by first | (with_reducible assumption) | assumption)) (of_decide_eq_true (by first | (with_reducible assumption) | assumption)); have HP31 := Kd.R_putg HO231.out ((ji15) : Int) (wrap64 ((rd y241 (ji15)) + 1))) | ((with_reducible refine gate_store (t := 3) (p := 62) rfl ?_); refine store_event (t := 3) (p := 62) (v := ?vo_w32) (w1 := (w30.setCell ⟨go14, ((ji15) : Int).toNat, none⟩ (.int .i64 (wrap64 ((rd y241 (ji15)) + 1))))) ?hg ?ho ?hn ?hr ?_; (case ho => rfl); (case hg => rfl); (case hn => rfl); (case hr => first | (go_simp; done) | (go_simp; rfl)); intro w32 hw; have hg : w30.grownBy w32 (some go14) := (by rw [hw]; exact HP31.2); have hp_ : Kd.R (Kd.int .i64) 3 w32 w.heap.size (fun k_ => some k_ ≠ (.slice Ao24 t224.length co24 : Value).ownBlock) (.slice (some ⟨go14, 0, none⟩) t229.length co26) y243 := (by rw [hw, Ny243.out]; exact HP31.1); clear HP31; have n0_ := am_ (IsS42.grown (by repeat (first | (with_reducible first | exact HI223.out | apply IsS42.alloc | apply IsS42.drewN | apply IsS42.drew | apply IsS42.set_1 | apply IsS42.set_2) | exact HI223.out)) hg (IsS42.own_ne HI223.out HO231.out (by decide))); have n1_ := am_ (Kd.R_after (v := (.slice (some ⟨go14, 0, none⟩) t229.length co26)) (v1 := (.slice (some ⟨go14, 0, none⟩) t229.length co26)) (ok := (fun _ => True)) (by (with_reducible repeat (first | apply ra_ | apply rn_ | apply rd_)); exact HO226.out) hg (.inl rfl)); have n2_ := am_ (hp_); have n3_ := am_ ((by rw [hw]; exact bs_ (HB.out) GB14.out : Below w.heap.size w w32)); clear HI223; clear HO226; clear HO231; clear HB; have HI223 := n0_; have HO226 := n1_; have HO231 := n2_; have HB := n3_; clear n0_ n1_ n2_ n3_; clear hg hw hp_; have p244 : 0 ≤ ((ji19) : Int) := of_decide_eq_true (by first | (with_reducible assumption) | assumption); have q244 : (ji19) < (y243.length : Int) := (by have h_ : ((ji19) : Int) < ((t229.length : Int) : Int) := of_decide_eq_true (by first | (with_reducible assumption) | assumption); first | (have e_ := (rr_ HO231.out).1; omega) | simpa only [Ny241.out, Ny243.out, List.length_set] using h_); have ql244 : (((ji19) : Int) < ((t229.length : Int) : Int)) = True := eq_true (of_decide_eq_true (by first | (with_reducible assumption) | assumption)); obtain ⟨ad244, e244, hx244_0⟩ := Kd.at_int (rr_ HO231.out).2.2 (ji19) p244 q244; obtain rfl : (⟨go14, 0, none⟩ : Addr) = ad244 := (by injection e244); (first | simp only [add_plain] at hx244_0 | simp only [add_at] at hx244_0 | simp only [Addr.add, Nat.zero_add] at hx244_0 | skip); replace p244 := eq_true p244; replace q244 := eq_true q244; have p21 : 0 ≤ ((ji19) : Int) := of_decide_eq_true (by first | (with_reducible assumption) | assumption); have q21 : ((ji19) : Int) < ((t229.length : Int) : Int) := of_decide_eq_true (by first | (with_reducible assumption) | assumption); obtain ⟨hx21_0, hf21_0⟩ := Kd.R_celln 0 HO231.out ((ji19) : Int) p21 q21; replace p21 := eq_true p21; replace q21 := eq_true q21; obtain ⟨hy33_, hz33_⟩ := Kd.R_celln 0 HO231.out ((ji19) : Int) (of_decide_eq_true (by first | (with_reducible assumption) | assumption)) (of_decide_eq_true (by first | (with_reducible assumption) | assumption)); have HP33 := Kd.R_putg HO231.out ((ji19) : Int) (wrap64 ((rd y243 (ji19)) + 1))) | ((with_reducible refine gate_store (t := 3) (p := 72) rfl ?_); refine store_event (t := 3) (p := 72) (v := ?vo_w34) (w1 := (w32.setCell ⟨go14, ((ji19) : Int).toNat, none⟩ (.int .i64 (wrap64 ((rd y243 (ji19)) + 1))))) ?hg ?ho ?hn ?hr ?_; (case ho => rfl); (case hg => rfl); (case hn => rfl); (case hr => first | (go_simp; done) | (go_simp; rfl)); intro w34 hw; have hg : w32.grownBy w34 (some go14) := (by rw [hw]; exact HP33.2); have hp_ : Kd.R (Kd.int .i64) 3 w34 w.heap.size (fun k_ => some k_ ≠ (.slice Ao24 t224.length co24 : Value).ownBlock) (.slice (some ⟨go14, 0, none⟩) t229.length co26) y245 := (by rw [hw, Ny245.out]; exact HP33.1); clear HP33; have n0_ := am_ (IsS42.grown (by repeat (first | (with_reducible first | exact HI223.out | apply IsS42.alloc | apply IsS42.drewN | apply IsS42.drew | apply IsS42.set_1 | apply IsS42.set_2) | exact HI223.out)) hg (IsS42.own_ne HI223.out HO231.out (by decide))); have n1_ := am_ (Kd.R_after (v := (.slice (some ⟨go14, 0, none⟩) t229.length co26)) (v1 := (.slice (some ⟨go14, 0, none⟩) t229.length co26)) (ok := (fun _ => True)) (by (with_reducible repeat (first | apply ra_ | apply rn_ | apply rd_)); exact HO226.out) hg (.inl rfl)); have n2_ := am_ (hp_); have n3_ := am_ ((by rw [hw]; exact bs_ (HB.out) GB14.out : Below w.heap.size w w34)); clear HI223; clear HO226; clear HO231; clear HB; have HI223 := n0_; have HO226 := n1_; have HO231 := n2_; have HB := n3_; clear n0_ n1_ n2_ n3_; clear hg hw hp_))
          go_ret2
          exact ⟨_, _, by first | rfl | (simp [errW_none, errW_some] <;> rfl) | (simp only [← hji7, ← hji15, ← hji19]; first | rfl | (simp [errW_none, errW_some] <;> rfl)) | (simp [*, errW_none, errW_some] <;> rfl), by (with_reducible repeat (first | apply ra_ | apply rn_ | apply rd_)); exact HO231.out, by (with_reducible repeat (first | apply ra_ | apply rn_ | apply rd_)); exact rm_ HO226.out (fun _ hk => hk.2), by repeat (first | (with_reducible first | exact HB.out | apply ba_ | apply pw_below_drewN | apply bd_ | refine bs_ ?_ (IsS42.ge HI223.out)) | exact HB.out)⟩
         ·
          rw [if_neg c20] at H
          exact absurd H (by simp)
        ·
         rw [if_neg c17] at H
         exact absurd H (by simp)
       ·
        rw [if_neg c16] at H
        exact absurd H (by simp)
      ·
       rw [if_neg c13] at H
       have c13b0 : decide (0 < t237) = false := decide_eq_false c13
       clear c13
       simp only [Option.some.injEq, Prod.mk.injEq] at H
       obtain ⟨rfl, rfl⟩ := H
       go_enter Try.func8, Try.ntmps8
       go_wp2_with (first | ((with_reducible refine gate_dst (N := 10) rfl ?_); refine box_event ?hg (N := 10) ?hd (cs := #[.slice A0 l0.length c0, .int .i64 0, .int .u64 0]) (t := 42) ?hr ?_; (case hd => rfl); (case hg => rfl); (case hr => first | (go_simp; done) | (go_simp; rfl)); intro g223 hg w35 hbox hb2; have hb := bp_ (by repeat (first | (with_reducible first | exact HB.out | apply ba_ | apply pw_below_drewN | apply bd_) | exact HB.out)) hb2; have hi := newCur_is A2.out hbox (by rw [hg]; exact bz_ (by repeat (first | (with_reducible first | exact HB.out | apply ba_ | apply pw_below_drewN | apply bd_) | exact HB.out))) (by exact HR0.out); clear hbox hg; have n0_ := am_ (hb); have n1_ := am_ (hi); clear HB; have HB := n0_; have HI223 := n1_; clear n0_ n1_; (try clear hb); (try clear hb2); (try clear hk); (try clear hi)) | ((with_reducible refine gc_ (f := 21) rfl ?_); refine goesL_ (some 12) rfl rfl Try.func21 (by kernel_rfl) rfl #[.pointer (some ⟨g223, 0, none⟩)] rfl (by (try simp only [List.map_toArray, List.map_cons, List.map_nil]); first | done | rfl | (simp only [List.length_drop, List.length_take]; rfl)) ?_; (with_reducible refine (spec_l1Cur_chances.calls k g223 t220 t221 t222 t224 t227 t228 w _ ?side1 ?side2 A3.out).mono ?_); (case side1 => repeat (first | (with_reducible first | exact HI223.out | apply IsS42.alloc | apply IsS42.drewN | apply IsS42.drew | apply IsS42.set_1 | apply IsS42.set_2) | exact HI223.out)); (case side2 => repeat (first | (with_reducible first | exact HB.out | apply ba_ | apply pw_below_drewN | apply bd_ | refine bs_ ?_ (IsS42.ge HI223.out)) | exact HB.out)); rintro e w36 ⟨v225, rfl, ho0, hi, hb, hk⟩; refine ⟨_, rfl, ?_⟩; have n0_ := am_ (Kd.R_lower ho0 (bz_ (by repeat (first | (with_reducible first | exact HB.out | apply ba_ | apply pw_below_drewN | apply bd_ | refine bs_ ?_ (IsS42.ge HI223.out)) | exact HB.out)))); have n1_ := am_ (hb); have n2_ := am_ (hi); clear HB; clear HI223; have HO226 := n0_; have HB := n1_; have HI223 := n2_; clear n0_ n1_ n2_; (try clear hb); (try clear hb2); (try clear hk); (try clear hi); (try clear ho0); obtain ⟨Ao37, co37, eo37⟩ := rs_ HO226.out; subst eo37) | ((with_reducible refine gc_ (f := 23) rfl ?_); refine goesL_ (some 14) rfl rfl Try.func23 (by kernel_rfl) rfl #[.slice Ao37 t224.length co37] rfl (by (try simp only [List.map_toArray, List.map_cons, List.map_nil]); first | done | rfl | (simp only [List.length_drop, List.length_take]; rfl)) ?_; (with_reducible refine (spec_l1Own.calls _ _ t224 t229 _ ?side1 ?side2 A4.out).mono ?_); (case side1 => repeat (first | exact (rr_ HO226.out).2.2 | (with_reducible refine ca_ ?_ _) | (with_reducible refine cn_ ?_ _) | (with_reducible refine cd_ ?_))); (case side2 => exact (rr_ HO226.out).2.1); rintro e w38 ⟨v230, rfl, ho0, hb⟩; refine ⟨_, rfl, ?_⟩; have n0_ := am_ (Kd.R_elder' (by (with_reducible repeat (first | apply ra_ | apply rn_ | apply rd_)); exact HO226.out) (Kd.R_base ho0) hb); have n1_ := am_ (Kd.R_lower (Kd.R_new' ho0 (Kd.R_lt (by (with_reducible repeat (first | apply ra_ | apply rn_ | apply rd_)); exact HO226.out))) (bz_ (by repeat (first | (with_reducible first | exact HB.out | apply ba_ | apply pw_below_drewN | apply bd_ | refine bs_ ?_ (IsS42.ge HI223.out)) | exact HB.out)))); have n2_ := am_ (IsS42.below (by repeat (first | (with_reducible first | exact HI223.out | apply IsS42.alloc | apply IsS42.drewN | apply IsS42.drew | apply IsS42.set_1 | apply IsS42.set_2) | exact HI223.out)) hb); have n3_ := am_ (bp_ (by repeat (first | (with_reducible first | exact HB.out | apply ba_ | apply pw_below_drewN | apply bd_ | refine bs_ ?_ (IsS42.ge HI223.out)) | exact HB.out)) hb); clear HO226; clear HI223; clear HB; have HO226 := n0_; have HO231 := n1_; have HI223 := n2_; have HB := n3_; clear n0_ n1_ n2_ n3_; (try clear hb); (try clear hb2); (try clear hk); (try clear hi); (try clear ho0); obtain ⟨Ao39, co39, eo39⟩ := rs_ HO231.out; subst eo39) | ((with_reducible refine gc_ (f := 24) rfl ?_); refine goesL_ (some 19) rfl rfl Try.func24 (by kernel_rfl) rfl #[.pointer (some ⟨g223, 0, none⟩), .int .i64 (wrap64 ((t229.length : Int) + 1))] rfl (by (try simp only [List.map_toArray, List.map_cons, List.map_nil]); first | done | rfl | (simp only [List.length_drop, List.length_take]; rfl)) ?_; (with_reducible refine (spec_l1Cur_pick.calls g223 t220 t227 t228 (wrap64 ((t229.length : Int) + 1)) t232 t233 t234 w _ ?side1 ?side2 A5.out).mono ?_); (case side1 => repeat (first | (with_reducible first | exact HI223.out | apply IsS42.alloc | apply IsS42.drewN | apply IsS42.drew | apply IsS42.set_1 | apply IsS42.set_2) | exact HI223.out)); (case side2 => repeat (first | (with_reducible first | exact HB.out | apply ba_ | apply pw_below_drewN | apply bd_ | refine bs_ ?_ (IsS42.ge HI223.out)) | exact HB.out)); rintro e w40 ⟨rfl, hi, hb, hk⟩; refine ⟨_, rfl, ?_⟩; have n0_ := am_ (rm_ (Kd.R_keep (IsS42.apart (show IsS42 w _ g223 t220 t227 t228 from by repeat (first | (with_reducible first | exact HI223.out | apply IsS42.alloc | apply IsS42.drewN | apply IsS42.drew | apply IsS42.set_1 | apply IsS42.set_2) | exact HI223.out)) (by (with_reducible repeat (first | apply ra_ | apply rn_ | apply rd_)); exact HO226.out) (by decide)) hk (fun _ h => h.2)) (fun _ h => h.1)); have n1_ := am_ (rm_ (Kd.R_keep (IsS42.apart (show IsS42 w _ g223 t220 t227 t228 from by repeat (first | (with_reducible first | exact HI223.out | apply IsS42.alloc | apply IsS42.drewN | apply IsS42.drew | apply IsS42.set_1 | apply IsS42.set_2) | exact HI223.out)) (by (with_reducible repeat (first | apply ra_ | apply rn_ | apply rd_)); exact HO231.out) (by decide)) hk (fun _ h => h.2)) (fun _ h => h.1)); have n2_ := am_ (hb); have n3_ := am_ (hi); clear HO226; clear HO231; clear HB; clear HI223; have HO226 := n0_; have HO231 := n1_; have HB := n2_; have HI223 := n3_; clear n0_ n1_ n2_ n3_; (try clear hb); (try clear hb2); (try clear hk); (try clear hi); have p235 : 0 ≤ ((ji7) : Int) := of_decide_eq_true (by first | (with_reducible assumption) | assumption); have q235 : (ji7) < (t229.length : Int) := of_decide_eq_true (by first | (with_reducible assumption) | assumption); obtain ⟨ad235, e235, hx235_0⟩ := Kd.at_int (rr_ HO231.out).2.2 (ji7) p235 q235; cases e235; replace p235 := eq_true p235; replace q235 := eq_true q235; have p236 : 0 ≤ ((ji7) : Int) := of_decide_eq_true (by first | (with_reducible assumption) | assumption); have q236 : (ji7) < (t229.length : Int) := of_decide_eq_true (by first | (with_reducible assumption) | assumption); obtain ⟨ad236, e236, hx236_0⟩ := Kd.at_int (rr_ HO231.out).2.2 (ji7) p236 q236; obtain rfl : ad235 = ad236 := (by injection e236); replace p236 := eq_true p236; replace q236 := eq_true q236) | (go_at_call 24; (with_reducible refine (spec_l1Cur_pick.calls g223 t220 t233 t234 6 t237 t238 t239 w _ ?side1 ?side2 A12.out).mono ?_); (case side1 => repeat (first | (with_reducible first | exact HI223.out | apply IsS42.alloc | apply IsS42.drewN | apply IsS42.drew | apply IsS42.set_1 | apply IsS42.set_2) | exact HI223.out)); (case side2 => repeat (first | (with_reducible first | exact HB.out | apply ba_ | apply pw_below_drewN | apply bd_ | refine bs_ ?_ (IsS42.ge HI223.out)) | exact HB.out)); rintro e w41 ⟨rfl, hi, hb, hk⟩; have n0_ := am_ (rm_ (Kd.R_keep (IsS42.apart (show IsS42 w _ g223 t220 t233 t234 from by repeat (first | (with_reducible first | exact HI223.out | apply IsS42.alloc | apply IsS42.drewN | apply IsS42.drew | apply IsS42.set_1 | apply IsS42.set_2) | exact HI223.out)) (by (with_reducible repeat (first | apply ra_ | apply rn_ | apply rd_)); exact HO226.out) (by decide)) hk (fun _ h => h.2)) (fun _ h => h.1)); have n1_ := am_ (rm_ (Kd.R_keep (IsS42.apart (show IsS42 w _ g223 t220 t233 t234 from by repeat (first | (with_reducible first | exact HI223.out | apply IsS42.alloc | apply IsS42.drewN | apply IsS42.drew | apply IsS42.set_1 | apply IsS42.set_2) | exact HI223.out)) (by (with_reducible repeat (first | apply ra_ | apply rn_ | apply rd_)); exact HO231.out) (by decide)) hk (fun _ h => h.2)) (fun _ h => h.1)); have n2_ := am_ (hb); have n3_ := am_ (hi); clear HO226; clear HO231; clear HB; clear HI223; have HO226 := n0_; have HO231 := n1_; have HB := n2_; have HI223 := n3_; clear n0_ n1_ n2_ n3_; (try clear hb); (try clear hb2); (try clear hk); (try clear hi)))
       go_ret2
       exact ⟨_, _, by first | rfl | (simp [errW_none, errW_some] <;> rfl) | (simp only [← hji7]; first | rfl | (simp [errW_none, errW_some] <;> rfl)) | (simp [*, errW_none, errW_some] <;> rfl), by (with_reducible repeat (first | apply ra_ | apply rn_ | apply rd_)); exact rm_ HO231.out (fun _ hk => hk.2), by (with_reducible repeat (first | apply ra_ | apply rn_ | apply rd_)); exact rm_ HO226.out (fun _ hk => hk.2), by repeat (first | (with_reducible first | exact HB.out | apply ba_ | apply pw_below_drewN | apply bd_ | refine bs_ ?_ (IsS42.ge HI223.out)) | exact HB.out)⟩
     ·
      rw [if_neg c11] at H
      have c11b0 : decide ((rd t229 (ji7)) < 1000) = false := decide_eq_false c11
      clear c11
      simp only [Option.some.injEq, Prod.mk.injEq] at H
      obtain ⟨rfl, rfl⟩ := H
      go_enter Try.func8, Try.ntmps8
      go_wp2_with (first | ((with_reducible refine gate_dst (N := 10) rfl ?_); refine box_event ?hg (N := 10) ?hd (cs := #[.slice A0 l0.length c0, .int .i64 0, .int .u64 0]) (t := 42) ?hr ?_; (case hd => rfl); (case hg => rfl); (case hr => first | (go_simp; done) | (go_simp; rfl)); intro g223 hg w42 hbox hb2; have hb := bp_ (by repeat (first | (with_reducible first | exact HB.out | apply ba_ | apply pw_below_drewN | apply bd_) | exact HB.out)) hb2; have hi := newCur_is A2.out hbox (by rw [hg]; exact bz_ (by repeat (first | (with_reducible first | exact HB.out | apply ba_ | apply pw_below_drewN | apply bd_) | exact HB.out))) (by exact HR0.out); clear hbox hg; have n0_ := am_ (hb); have n1_ := am_ (hi); clear HB; have HB := n0_; have HI223 := n1_; clear n0_ n1_; (try clear hb); (try clear hb2); (try clear hk); (try clear hi)) | ((with_reducible refine gc_ (f := 21) rfl ?_); refine goesL_ (some 12) rfl rfl Try.func21 (by kernel_rfl) rfl #[.pointer (some ⟨g223, 0, none⟩)] rfl (by (try simp only [List.map_toArray, List.map_cons, List.map_nil]); first | done | rfl | (simp only [List.length_drop, List.length_take]; rfl)) ?_; (with_reducible refine (spec_l1Cur_chances.calls k g223 t220 t221 t222 t224 t227 t228 w _ ?side1 ?side2 A3.out).mono ?_); (case side1 => repeat (first | (with_reducible first | exact HI223.out | apply IsS42.alloc | apply IsS42.drewN | apply IsS42.drew | apply IsS42.set_1 | apply IsS42.set_2) | exact HI223.out)); (case side2 => repeat (first | (with_reducible first | exact HB.out | apply ba_ | apply pw_below_drewN | apply bd_ | refine bs_ ?_ (IsS42.ge HI223.out)) | exact HB.out)); rintro e w43 ⟨v225, rfl, ho0, hi, hb, hk⟩; refine ⟨_, rfl, ?_⟩; have n0_ := am_ (Kd.R_lower ho0 (bz_ (by repeat (first | (with_reducible first | exact HB.out | apply ba_ | apply pw_below_drewN | apply bd_ | refine bs_ ?_ (IsS42.ge HI223.out)) | exact HB.out)))); have n1_ := am_ (hb); have n2_ := am_ (hi); clear HB; clear HI223; have HO226 := n0_; have HB := n1_; have HI223 := n2_; clear n0_ n1_ n2_; (try clear hb); (try clear hb2); (try clear hk); (try clear hi); (try clear ho0); obtain ⟨Ao44, co44, eo44⟩ := rs_ HO226.out; subst eo44) | ((with_reducible refine gc_ (f := 23) rfl ?_); refine goesL_ (some 14) rfl rfl Try.func23 (by kernel_rfl) rfl #[.slice Ao44 t224.length co44] rfl (by (try simp only [List.map_toArray, List.map_cons, List.map_nil]); first | done | rfl | (simp only [List.length_drop, List.length_take]; rfl)) ?_; (with_reducible refine (spec_l1Own.calls _ _ t224 t229 _ ?side1 ?side2 A4.out).mono ?_); (case side1 => repeat (first | exact (rr_ HO226.out).2.2 | (with_reducible refine ca_ ?_ _) | (with_reducible refine cn_ ?_ _) | (with_reducible refine cd_ ?_))); (case side2 => exact (rr_ HO226.out).2.1); rintro e w45 ⟨v230, rfl, ho0, hb⟩; refine ⟨_, rfl, ?_⟩; have n0_ := am_ (Kd.R_elder' (by (with_reducible repeat (first | apply ra_ | apply rn_ | apply rd_)); exact HO226.out) (Kd.R_base ho0) hb); have n1_ := am_ (Kd.R_lower (Kd.R_new' ho0 (Kd.R_lt (by (with_reducible repeat (first | apply ra_ | apply rn_ | apply rd_)); exact HO226.out))) (bz_ (by repeat (first | (with_reducible first | exact HB.out | apply ba_ | apply pw_below_drewN | apply bd_ | refine bs_ ?_ (IsS42.ge HI223.out)) | exact HB.out)))); have n2_ := am_ (IsS42.below (by repeat (first | (with_reducible first | exact HI223.out | apply IsS42.alloc | apply IsS42.drewN | apply IsS42.drew | apply IsS42.set_1 | apply IsS42.set_2) | exact HI223.out)) hb); have n3_ := am_ (bp_ (by repeat (first | (with_reducible first | exact HB.out | apply ba_ | apply pw_below_drewN | apply bd_ | refine bs_ ?_ (IsS42.ge HI223.out)) | exact HB.out)) hb); clear HO226; clear HI223; clear HB; have HO226 := n0_; have HO231 := n1_; have HI223 := n2_; have HB := n3_; clear n0_ n1_ n2_ n3_; (try clear hb); (try clear hb2); (try clear hk); (try clear hi); (try clear ho0); obtain ⟨Ao46, co46, eo46⟩ := rs_ HO231.out; subst eo46) | ((with_reducible refine gc_ (f := 24) rfl ?_); refine goesL_ (some 19) rfl rfl Try.func24 (by kernel_rfl) rfl #[.pointer (some ⟨g223, 0, none⟩), .int .i64 (wrap64 ((t229.length : Int) + 1))] rfl (by (try simp only [List.map_toArray, List.map_cons, List.map_nil]); first | done | rfl | (simp only [List.length_drop, List.length_take]; rfl)) ?_; (with_reducible refine (spec_l1Cur_pick.calls g223 t220 t227 t228 (wrap64 ((t229.length : Int) + 1)) t232 t233 t234 w _ ?side1 ?side2 A5.out).mono ?_); (case side1 => repeat (first | (with_reducible first | exact HI223.out | apply IsS42.alloc | apply IsS42.drewN | apply IsS42.drew | apply IsS42.set_1 | apply IsS42.set_2) | exact HI223.out)); (case side2 => repeat (first | (with_reducible first | exact HB.out | apply ba_ | apply pw_below_drewN | apply bd_ | refine bs_ ?_ (IsS42.ge HI223.out)) | exact HB.out)); rintro e w47 ⟨rfl, hi, hb, hk⟩; refine ⟨_, rfl, ?_⟩; have n0_ := am_ (rm_ (Kd.R_keep (IsS42.apart (show IsS42 w _ g223 t220 t227 t228 from by repeat (first | (with_reducible first | exact HI223.out | apply IsS42.alloc | apply IsS42.drewN | apply IsS42.drew | apply IsS42.set_1 | apply IsS42.set_2) | exact HI223.out)) (by (with_reducible repeat (first | apply ra_ | apply rn_ | apply rd_)); exact HO226.out) (by decide)) hk (fun _ h => h.2)) (fun _ h => h.1)); have n1_ := am_ (rm_ (Kd.R_keep (IsS42.apart (show IsS42 w _ g223 t220 t227 t228 from by repeat (first | (with_reducible first | exact HI223.out | apply IsS42.alloc | apply IsS42.drewN | apply IsS42.drew | apply IsS42.set_1 | apply IsS42.set_2) | exact HI223.out)) (by (with_reducible repeat (first | apply ra_ | apply rn_ | apply rd_)); exact HO231.out) (by decide)) hk (fun _ h => h.2)) (fun _ h => h.1)); have n2_ := am_ (hb); have n3_ := am_ (hi); clear HO226; clear HO231; clear HB; clear HI223; have HO226 := n0_; have HO231 := n1_; have HB := n2_; have HI223 := n3_; clear n0_ n1_ n2_ n3_; (try clear hb); (try clear hb2); (try clear hk); (try clear hi); have p235 : 0 ≤ ((ji7) : Int) := of_decide_eq_true (by first | (with_reducible assumption) | assumption); have q235 : (ji7) < (t229.length : Int) := of_decide_eq_true (by first | (with_reducible assumption) | assumption); obtain ⟨ad235, e235, hx235_0⟩ := Kd.at_int (rr_ HO231.out).2.2 (ji7) p235 q235; cases e235; replace p235 := eq_true p235; replace q235 := eq_true q235; have p236 : 0 ≤ ((ji7) : Int) := of_decide_eq_true (by first | (with_reducible assumption) | assumption); have q236 : (ji7) < (t229.length : Int) := of_decide_eq_true (by first | (with_reducible assumption) | assumption); obtain ⟨ad236, e236, hx236_0⟩ := Kd.at_int (rr_ HO231.out).2.2 (ji7) p236 q236; obtain rfl : ad235 = ad236 := (by injection e236); replace p236 := eq_true p236; replace q236 := eq_true q236))
      go_ret2
      exact ⟨_, _, by first | rfl | (simp [errW_none, errW_some] <;> rfl) | (simp only [← hji7]; first | rfl | (simp [errW_none, errW_some] <;> rfl)) | (simp [*, errW_none, errW_some] <;> rfl), by (with_reducible repeat (first | apply ra_ | apply rn_ | apply rd_)); exact rm_ HO231.out (fun _ hk => hk.2), by (with_reducible repeat (first | apply ra_ | apply rn_ | apply rd_)); exact rm_ HO226.out (fun _ hk => hk.2), by repeat (first | (with_reducible first | exact HB.out | apply ba_ | apply pw_below_drewN | apply bd_ | refine bs_ ?_ (IsS42.ge HI223.out)) | exact HB.out)⟩
    ·
     rw [if_neg c10] at H
     have c10b0 : decide (1 < (rd t229 (ji7))) = false := decide_eq_false c10
     clear c10
     simp only [Option.some.injEq, Prod.mk.injEq] at H
     obtain ⟨rfl, rfl⟩ := H
     go_enter Try.func8, Try.ntmps8
     go_wp2_with (first | ((with_reducible refine gate_dst (N := 10) rfl ?_); refine box_event ?hg (N := 10) ?hd (cs := #[.slice A0 l0.length c0, .int .i64 0, .int .u64 0]) (t := 42) ?hr ?_; (case hd => rfl); (case hg => rfl); (case hr => first | (go_simp; done) | (go_simp; rfl)); intro g223 hg w48 hbox hb2; have hb := bp_ (by repeat (first | (with_reducible first | exact HB.out | apply ba_ | apply pw_below_drewN | apply bd_) | exact HB.out)) hb2; have hi := newCur_is A2.out hbox (by rw [hg]; exact bz_ (by repeat (first | (with_reducible first | exact HB.out | apply ba_ | apply pw_below_drewN | apply bd_) | exact HB.out))) (by exact HR0.out); clear hbox hg; have n0_ := am_ (hb); have n1_ := am_ (hi); clear HB; have HB := n0_; have HI223 := n1_; clear n0_ n1_; (try clear hb); (try clear hb2); (try clear hk); (try clear hi)) | ((with_reducible refine gc_ (f := 21) rfl ?_); refine goesL_ (some 12) rfl rfl Try.func21 (by kernel_rfl) rfl #[.pointer (some ⟨g223, 0, none⟩)] rfl (by (try simp only [List.map_toArray, List.map_cons, List.map_nil]); first | done | rfl | (simp only [List.length_drop, List.length_take]; rfl)) ?_; (with_reducible refine (spec_l1Cur_chances.calls k g223 t220 t221 t222 t224 t227 t228 w _ ?side1 ?side2 A3.out).mono ?_); (case side1 => repeat (first | (with_reducible first | exact HI223.out | apply IsS42.alloc | apply IsS42.drewN | apply IsS42.drew | apply IsS42.set_1 | apply IsS42.set_2) | exact HI223.out)); (case side2 => repeat (first | (with_reducible first | exact HB.out | apply ba_ | apply pw_below_drewN | apply bd_ | refine bs_ ?_ (IsS42.ge HI223.out)) | exact HB.out)); rintro e w49 ⟨v225, rfl, ho0, hi, hb, hk⟩; refine ⟨_, rfl, ?_⟩; have n0_ := am_ (Kd.R_lower ho0 (bz_ (by repeat (first | (with_reducible first | exact HB.out | apply ba_ | apply pw_below_drewN | apply bd_ | refine bs_ ?_ (IsS42.ge HI223.out)) | exact HB.out)))); have n1_ := am_ (hb); have n2_ := am_ (hi); clear HB; clear HI223; have HO226 := n0_; have HB := n1_; have HI223 := n2_; clear n0_ n1_ n2_; (try clear hb); (try clear hb2); (try clear hk); (try clear hi); (try clear ho0); obtain ⟨Ao50, co50, eo50⟩ := rs_ HO226.out; subst eo50) | ((with_reducible refine gc_ (f := 23) rfl ?_); refine goesL_ (some 14) rfl rfl Try.func23 (by kernel_rfl) rfl #[.slice Ao50 t224.length co50] rfl (by (try simp only [List.map_toArray, List.map_cons, List.map_nil]); first | done | rfl | (simp only [List.length_drop, List.length_take]; rfl)) ?_; (with_reducible refine (spec_l1Own.calls _ _ t224 t229 _ ?side1 ?side2 A4.out).mono ?_); (case side1 => repeat (first | exact (rr_ HO226.out).2.2 | (with_reducible refine ca_ ?_ _) | (with_reducible refine cn_ ?_ _) | (with_reducible refine cd_ ?_))); (case side2 => exact (rr_ HO226.out).2.1); rintro e w51 ⟨v230, rfl, ho0, hb⟩; refine ⟨_, rfl, ?_⟩; have n0_ := am_ (Kd.R_elder' (by (with_reducible repeat (first | apply ra_ | apply rn_ | apply rd_)); exact HO226.out) (Kd.R_base ho0) hb); have n1_ := am_ (Kd.R_lower (Kd.R_new' ho0 (Kd.R_lt (by (with_reducible repeat (first | apply ra_ | apply rn_ | apply rd_)); exact HO226.out))) (bz_ (by repeat (first | (with_reducible first | exact HB.out | apply ba_ | apply pw_below_drewN | apply bd_ | refine bs_ ?_ (IsS42.ge HI223.out)) | exact HB.out)))); have n2_ := am_ (IsS42.below (by repeat (first | (with_reducible first | exact HI223.out | apply IsS42.alloc | apply IsS42.drewN | apply IsS42.drew | apply IsS42.set_1 | apply IsS42.set_2) | exact HI223.out)) hb); have n3_ := am_ (bp_ (by repeat (first | (with_reducible first | exact HB.out | apply ba_ | apply pw_below_drewN | apply bd_ | refine bs_ ?_ (IsS42.ge HI223.out)) | exact HB.out)) hb); clear HO226; clear HI223; clear HB; have HO226 := n0_; have HO231 := n1_; have HI223 := n2_; have HB := n3_; clear n0_ n1_ n2_ n3_; (try clear hb); (try clear hb2); (try clear hk); (try clear hi); (try clear ho0); obtain ⟨Ao52, co52, eo52⟩ := rs_ HO231.out; subst eo52) | ((with_reducible refine gc_ (f := 24) rfl ?_); refine goesL_ (some 19) rfl rfl Try.func24 (by kernel_rfl) rfl #[.pointer (some ⟨g223, 0, none⟩), .int .i64 (wrap64 ((t229.length : Int) + 1))] rfl (by (try simp only [List.map_toArray, List.map_cons, List.map_nil]); first | done | rfl | (simp only [List.length_drop, List.length_take]; rfl)) ?_; (with_reducible refine (spec_l1Cur_pick.calls g223 t220 t227 t228 (wrap64 ((t229.length : Int) + 1)) t232 t233 t234 w _ ?side1 ?side2 A5.out).mono ?_); (case side1 => repeat (first | (with_reducible first | exact HI223.out | apply IsS42.alloc | apply IsS42.drewN | apply IsS42.drew | apply IsS42.set_1 | apply IsS42.set_2) | exact HI223.out)); (case side2 => repeat (first | (with_reducible first | exact HB.out | apply ba_ | apply pw_below_drewN | apply bd_ | refine bs_ ?_ (IsS42.ge HI223.out)) | exact HB.out)); rintro e w53 ⟨rfl, hi, hb, hk⟩; refine ⟨_, rfl, ?_⟩; have n0_ := am_ (rm_ (Kd.R_keep (IsS42.apart (show IsS42 w _ g223 t220 t227 t228 from by repeat (first | (with_reducible first | exact HI223.out | apply IsS42.alloc | apply IsS42.drewN | apply IsS42.drew | apply IsS42.set_1 | apply IsS42.set_2) | exact HI223.out)) (by (with_reducible repeat (first | apply ra_ | apply rn_ | apply rd_)); exact HO226.out) (by decide)) hk (fun _ h => h.2)) (fun _ h => h.1)); have n1_ := am_ (rm_ (Kd.R_keep (IsS42.apart (show IsS42 w _ g223 t220 t227 t228 from by repeat (first | (with_reducible first | exact HI223.out | apply IsS42.alloc | apply IsS42.drewN | apply IsS42.drew | apply IsS42.set_1 | apply IsS42.set_2) | exact HI223.out)) (by (with_reducible repeat (first | apply ra_ | apply rn_ | apply rd_)); exact HO231.out) (by decide)) hk (fun _ h => h.2)) (fun _ h => h.1)); have n2_ := am_ (hb); have n3_ := am_ (hi); clear HO226; clear HO231; clear HB; clear HI223; have HO226 := n0_; have HO231 := n1_; have HB := n2_; have HI223 := n3_; clear n0_ n1_ n2_ n3_; (try clear hb); (try clear hb2); (try clear hk); (try clear hi); have p235 : 0 ≤ ((ji7) : Int) := of_decide_eq_true (by first | (with_reducible assumption) | assumption); have q235 : (ji7) < (t229.length : Int) := of_decide_eq_true (by first | (with_reducible assumption) | assumption); obtain ⟨ad235, e235, hx235_0⟩ := Kd.at_int (rr_ HO231.out).2.2 (ji7) p235 q235; cases e235; replace p235 := eq_true p235; replace q235 := eq_true q235))
     go_ret2
     exact ⟨_, _, by first | rfl | (simp [errW_none, errW_some] <;> rfl) | (simp only [← hji7]; first | rfl | (simp [errW_none, errW_some] <;> rfl)) | (simp [*, errW_none, errW_some] <;> rfl), by (with_reducible repeat (first | apply ra_ | apply rn_ | apply rd_)); exact rm_ HO231.out (fun _ hk => hk.2), by (with_reducible repeat (first | apply ra_ | apply rn_ | apply rd_)); exact rm_ HO226.out (fun _ hk => hk.2), by repeat (first | (with_reducible first | exact HB.out | apply ba_ | apply pw_below_drewN | apply bd_ | refine bs_ ?_ (IsS42.ge HI223.out)) | exact HB.out)⟩
   ·
    rw [if_neg c9] at H
    exact absurd H (by simp)
  ·
   rw [if_neg c8] at H
   exact absurd H (by simp)
 ·
  rw [if_neg c6] at H
  have c6b0 : decide ((wrap64 ((wrap64 (1 + t232)) + 1)) < (t229.length : Int)) = false := decide_eq_false c6
  clear c6
  simp only [Option.some.injEq, Prod.mk.injEq] at H
  obtain ⟨rfl, rfl⟩ := H
  go_enter Try.func8, Try.ntmps8
  go_wp2_with (first | ((with_reducible refine gate_dst (N := 10) rfl ?_); refine box_event ?hg (N := 10) ?hd (cs := #[.slice A0 l0.length c0, .int .i64 0, .int .u64 0]) (t := 42) ?hr ?_; (case hd => rfl); (case hg => rfl); (case hr => first | (go_simp; done) | (go_simp; rfl)); intro g223 hg w54 hbox hb2; have hb := bp_ (by repeat (first | (with_reducible first | exact HB.out | apply ba_ | apply pw_below_drewN | apply bd_) | exact HB.out)) hb2; have hi := newCur_is A2.out hbox (by rw [hg]; exact bz_ (by repeat (first | (with_reducible first | exact HB.out | apply ba_ | apply pw_below_drewN | apply bd_) | exact HB.out))) (by exact HR0.out); clear hbox hg; have n0_ := am_ (hb); have n1_ := am_ (hi); clear HB; have HB := n0_; have HI223 := n1_; clear n0_ n1_; (try clear hb); (try clear hb2); (try clear hk); (try clear hi)) | ((with_reducible refine gc_ (f := 21) rfl ?_); refine goesL_ (some 12) rfl rfl Try.func21 (by kernel_rfl) rfl #[.pointer (some ⟨g223, 0, none⟩)] rfl (by (try simp only [List.map_toArray, List.map_cons, List.map_nil]); first | done | rfl | (simp only [List.length_drop, List.length_take]; rfl)) ?_; (with_reducible refine (spec_l1Cur_chances.calls k g223 t220 t221 t222 t224 t227 t228 w _ ?side1 ?side2 A3.out).mono ?_); (case side1 => repeat (first | (with_reducible first | exact HI223.out | apply IsS42.alloc | apply IsS42.drewN | apply IsS42.drew | apply IsS42.set_1 | apply IsS42.set_2) | exact HI223.out)); (case side2 => repeat (first | (with_reducible first | exact HB.out | apply ba_ | apply pw_below_drewN | apply bd_ | refine bs_ ?_ (IsS42.ge HI223.out)) | exact HB.out)); rintro e w55 ⟨v225, rfl, ho0, hi, hb, hk⟩; refine ⟨_, rfl, ?_⟩; have n0_ := am_ (Kd.R_lower ho0 (bz_ (by repeat (first | (with_reducible first | exact HB.out | apply ba_ | apply pw_below_drewN | apply bd_ | refine bs_ ?_ (IsS42.ge HI223.out)) | exact HB.out)))); have n1_ := am_ (hb); have n2_ := am_ (hi); clear HB; clear HI223; have HO226 := n0_; have HB := n1_; have HI223 := n2_; clear n0_ n1_ n2_; (try clear hb); (try clear hb2); (try clear hk); (try clear hi); (try clear ho0); obtain ⟨Ao56, co56, eo56⟩ := rs_ HO226.out; subst eo56) | ((with_reducible refine gc_ (f := 23) rfl ?_); refine goesL_ (some 14) rfl rfl Try.func23 (by kernel_rfl) rfl #[.slice Ao56 t224.length co56] rfl (by (try simp only [List.map_toArray, List.map_cons, List.map_nil]); first | done | rfl | (simp only [List.length_drop, List.length_take]; rfl)) ?_; (with_reducible refine (spec_l1Own.calls _ _ t224 t229 _ ?side1 ?side2 A4.out).mono ?_); (case side1 => repeat (first | exact (rr_ HO226.out).2.2 | (with_reducible refine ca_ ?_ _) | (with_reducible refine cn_ ?_ _) | (with_reducible refine cd_ ?_))); (case side2 => exact (rr_ HO226.out).2.1); rintro e w57 ⟨v230, rfl, ho0, hb⟩; refine ⟨_, rfl, ?_⟩; have n0_ := am_ (Kd.R_elder' (by (with_reducible repeat (first | apply ra_ | apply rn_ | apply rd_)); exact HO226.out) (Kd.R_base ho0) hb); have n1_ := am_ (Kd.R_lower (Kd.R_new' ho0 (Kd.R_lt (by (with_reducible repeat (first | apply ra_ | apply rn_ | apply rd_)); exact HO226.out))) (bz_ (by repeat (first | (with_reducible first | exact HB.out | apply ba_ | apply pw_below_drewN | apply bd_ | refine bs_ ?_ (IsS42.ge HI223.out)) | exact HB.out)))); have n2_ := am_ (IsS42.below (by repeat (first | (with_reducible first | exact HI223.out | apply IsS42.alloc | apply IsS42.drewN | apply IsS42.drew | apply IsS42.set_1 | apply IsS42.set_2) | exact HI223.out)) hb); have n3_ := am_ (bp_ (by repeat (first | (with_reducible first | exact HB.out | apply ba_ | apply pw_below_drewN | apply bd_ | refine bs_ ?_ (IsS42.ge HI223.out)) | exact HB.out)) hb); clear HO226; clear HI223; clear HB; have HO226 := n0_; have HO231 := n1_; have HI223 := n2_; have HB := n3_; clear n0_ n1_ n2_ n3_; (try clear hb); (try clear hb2); (try clear hk); (try clear hi); (try clear ho0); obtain ⟨Ao58, co58, eo58⟩ := rs_ HO231.out; subst eo58) | ((with_reducible refine gc_ (f := 24) rfl ?_); refine goesL_ (some 19) rfl rfl Try.func24 (by kernel_rfl) rfl #[.pointer (some ⟨g223, 0, none⟩), .int .i64 (wrap64 ((t229.length : Int) + 1))] rfl (by (try simp only [List.map_toArray, List.map_cons, List.map_nil]); first | done | rfl | (simp only [List.length_drop, List.length_take]; rfl)) ?_; (with_reducible refine (spec_l1Cur_pick.calls g223 t220 t227 t228 (wrap64 ((t229.length : Int) + 1)) t232 t233 t234 w _ ?side1 ?side2 A5.out).mono ?_); (case side1 => repeat (first | (with_reducible first | exact HI223.out | apply IsS42.alloc | apply IsS42.drewN | apply IsS42.drew | apply IsS42.set_1 | apply IsS42.set_2) | exact HI223.out)); (case side2 => repeat (first | (with_reducible first | exact HB.out | apply ba_ | apply pw_below_drewN | apply bd_ | refine bs_ ?_ (IsS42.ge HI223.out)) | exact HB.out)); rintro e w59 ⟨rfl, hi, hb, hk⟩; refine ⟨_, rfl, ?_⟩; have n0_ := am_ (rm_ (Kd.R_keep (IsS42.apart (show IsS42 w _ g223 t220 t227 t228 from by repeat (first | (with_reducible first | exact HI223.out | apply IsS42.alloc | apply IsS42.drewN | apply IsS42.drew | apply IsS42.set_1 | apply IsS42.set_2) | exact HI223.out)) (by (with_reducible repeat (first | apply ra_ | apply rn_ | apply rd_)); exact HO226.out) (by decide)) hk (fun _ h => h.2)) (fun _ h => h.1)); have n1_ := am_ (rm_ (Kd.R_keep (IsS42.apart (show IsS42 w _ g223 t220 t227 t228 from by repeat (first | (with_reducible first | exact HI223.out | apply IsS42.alloc | apply IsS42.drewN | apply IsS42.drew | apply IsS42.set_1 | apply IsS42.set_2) | exact HI223.out)) (by (with_reducible repeat (first | apply ra_ | apply rn_ | apply rd_)); exact HO231.out) (by decide)) hk (fun _ h => h.2)) (fun _ h => h.1)); have n2_ := am_ (hb); have n3_ := am_ (hi); clear HO226; clear HO231; clear HB; clear HI223; have HO226 := n0_; have HO231 := n1_; have HB := n2_; have HI223 := n3_; clear n0_ n1_ n2_ n3_; (try clear hb); (try clear hb2); (try clear hk); (try clear hi)))
  go_ret2
  exact ⟨_, _, by first | rfl | (simp [errW_none, errW_some] <;> rfl) | (simp [*, errW_none, errW_some] <;> rfl), by (with_reducible repeat (first | apply ra_ | apply rn_ | apply rd_)); exact rm_ HO231.out (fun _ hk => hk.2), by (with_reducible repeat (first | apply ra_ | apply rn_ | apply rd_)); exact rm_ HO226.out (fun _ hk => hk.2), by repeat (first | (with_reducible first | exact HB.out | apply ba_ | apply pw_below_drewN | apply bd_ | refine bs_ ?_ (IsS42.ge HI223.out)) | exact HB.out)⟩

/-! ### laws_vCut: function 9 -/
def laws_vCut.f (l0 : List Int) (a1 : Int) : Option (List Int) := if a1 > (l0.length : Int) then ((some (([] : List Int) : List Int)).bind fun y246 => (if 0 ≤ (l0.length : Int) then (if (l0.length : Int) ≤ (l0.length : Int) then (if y246.length + (l0.drop ((l0.length : Int) : Int).toNat).length < 140737488355328 then ((some (y246 ++ (l0.drop ((l0.length : Int) : Int).toNat) : List Int)).bind fun y250 => (if y250.length < 140737488355328 then (some (y250 ++ [((l0.length : Int)) % 256])) else (none))) else (none)) else (none)) else (none))) else ((some (([] : List Int) : List Int)).bind fun y256 => (if 0 ≤ a1 then (if a1 ≤ (l0.length : Int) then (if y256.length + (l0.drop (a1 : Int).toNat).length < 140737488355328 then ((some (y256 ++ (l0.drop (a1 : Int).toNat) : List Int)).bind fun y260 => (if y260.length < 140737488355328 then (some (y260 ++ [(a1) % 256])) else (none))) else (none)) else (none)) else (none)))
set_option maxHeartbeats 8000000 in
set_option maxRecDepth 100000 in
theorem laws_vCut.calls (A0 : Option Addr) (c0 : Nat) (l0 : List Int) (a1 : Int) (r : List Int) (w : World) (hr0 : Kd.C (Kd.int .u8) w A0 l0.length l0) (hc0 : l0.length ≤ c0) (h : laws_vCut.f l0 a1 = some r) :
  Calls Try.prog 9 #[.slice A0 l0.length c0, .int .i64 a1] w fun e w' => ∃ v0_ : Value, e = .returned (v0_) ∧ Kd.R (Kd.int .u8) 5 w' w.heap.size (fun _ => True) v0_ r ∧ Below w.heap.size w w' := by
 have HR0 := am_ hr0
 have HC0 := am_ hc0
 clear hr0 hc0
 have HB := am_ (Below.refl w.heap.size w)
 have H : (if a1 > (l0.length : Int) then ((some (([] : List Int) : List Int)).bind fun y246 => (if 0 ≤ (l0.length : Int) then (if (l0.length : Int) ≤ (l0.length : Int) then (if y246.length + (l0.drop ((l0.length : Int) : Int).toNat).length < 140737488355328 then ((some (y246 ++ (l0.drop ((l0.length : Int) : Int).toNat) : List Int)).bind fun y250 => (if y250.length < 140737488355328 then (some (y250 ++ [((l0.length : Int)) % 256])) else (none))) else (none)) else (none)) else (none))) else ((some (([] : List Int) : List Int)).bind fun y256 => (if 0 ≤ a1 then (if a1 ≤ (l0.length : Int) then (if y256.length + (l0.drop (a1 : Int).toNat).length < 140737488355328 then ((some (y256 ++ (l0.drop (a1 : Int).toNat) : List Int)).bind fun y260 => (if y260.length < 140737488355328 then (some (y260 ++ [(a1) % 256])) else (none))) else (none)) else (none)) else (none)))) = some r := h
 clear h
 by_cases c3 : a1 > (l0.length : Int)
 ·
  rw [if_pos c3] at H
  have c3b0 : decide ((l0.length : Int) < a1) = true := decide_eq_true c3
  clear c3
  obtain ⟨y246, hy246⟩ : ∃ y_ : List Int, y_ = (([] : List Int)) := ⟨_, rfl⟩
  replace H : (if 0 ≤ (l0.length : Int) then (if (l0.length : Int) ≤ (l0.length : Int) then (if y246.length + (l0.drop ((l0.length : Int) : Int).toNat).length < 140737488355328 then ((some (y246 ++ (l0.drop ((l0.length : Int) : Int).toNat) : List Int)).bind fun y250 => (if y250.length < 140737488355328 then (some (y250 ++ [((l0.length : Int)) % 256])) else (none))) else (none)) else (none)) else (none)) = some r := by first | (rw [hy246]; with_reducible exact H) | (have H2_ := (Option.bind_some _ _).symm.trans H; rw [hy246]; with_reducible exact H2_) | (have H2_ := (Option.bind_some _ _).symm.trans H; with_reducible exact H2_) | with_reducible exact H | (rw [hy246]; exact H) | exact H
  have Ny246 := am_ hy246
  clear hy246
  by_cases c4 : 0 ≤ (l0.length : Int)
  ·
   rw [if_pos c4] at H
   have c4b0 := eq_true c4
   have c4b1 : decide (0 ≤ (l0.length : Int)) = true := decide_eq_true c4
   clear c4
   by_cases c5 : (l0.length : Int) ≤ (l0.length : Int)
   ·
    rw [if_pos c5] at H
    have c5b0 := eq_true c5
    have c5b1 : decide ((l0.length : Int) ≤ (l0.length : Int)) = true := decide_eq_true c5
    clear c5
    by_cases c6 : y246.length + (l0.drop ((l0.length : Int) : Int).toNat).length < 140737488355328
    ·
     rw [if_pos c6] at H
     have LMc6 := am_ c6
     clear c6
     obtain ⟨y250, hy250⟩ : ∃ y_ : List Int, y_ = (y246 ++ (l0.drop ((l0.length : Int) : Int).toNat)) := ⟨_, rfl⟩
     replace H : (if y250.length < 140737488355328 then (some (y250 ++ [((l0.length : Int)) % 256])) else (none)) = some r := by first | (rw [hy250]; with_reducible exact H) | (have H2_ := (Option.bind_some _ _).symm.trans H; rw [hy250]; with_reducible exact H2_) | (have H2_ := (Option.bind_some _ _).symm.trans H; with_reducible exact H2_) | with_reducible exact H | (rw [hy250]; exact H) | exact H
     have Ny250 := am_ hy250
     clear hy250
     by_cases c7 : y250.length < 140737488355328
     ·
      rw [if_pos c7] at H
      have LMc7 := am_ c7
      clear c7
      obtain ⟨y253, hy253⟩ : ∃ y_ : List Int, y_ = (y250 ++ [((l0.length : Int)) % 256]) := ⟨_, rfl⟩
      replace H : (some y253) = some r := by first | (rw [hy253]; with_reducible exact H) | (have H2_ := (Option.bind_some _ _).symm.trans H; rw [hy253]; with_reducible exact H2_) | (have H2_ := (Option.bind_some _ _).symm.trans H; with_reducible exact H2_) | with_reducible exact H | (rw [hy253]; exact H) | exact H
      have Ny253 := am_ hy253
      clear hy253
      obtain rfl := Option.some.inj H
      rw [show l0.drop ((l0.length : Int) : Int).toNat = [] by simp] at Ny250
      go_enter Try.func9, Try.ntmps9
      go_wp2_with (first | ((with_reducible refine gate_dst (N := 11) rfl ?_); refine Kd.R_lit (Kd.int .u8) _ 5 ?hg (N := 11) ?hd (xs := ([] : List Int)) (inner := []) (ok := fun _ => True) (okp := fun _ => True) ?hr ?hp (fun _ hk => hk) trivial (Below.refl _ _) (Nat.le_refl _) (by simp) ?_; (case hd => rfl); (case hg => rfl); (case hr => first | (go_simp; done) | (go_simp; rfl)); (case hp => exact (Reps.none _ _)); intro v247 w8 ho9 hb hg_ hnew_; clear hg_ hnew_; (first | rw [← Ny246.out] at ho9 | (simp only [Int.reduceToNat] at ho9; rw [← Ny246.out] at ho9)); have n0_ := am_ (Kd.R_lower ho9 (bz_ (by repeat (first | (with_reducible first | exact HB.out | apply ba_ | apply pw_below_drewN | apply bd_) | exact HB.out)))); have n1_ := am_ (bp_ (by repeat (first | (with_reducible first | exact HB.out | apply ba_ | apply pw_below_drewN | apply bd_) | exact HB.out)) hb); clear HB; have HO248 := n0_; have HB := n1_; clear n0_ n1_; clear hb ho9; obtain ⟨i010, hi010, _, hsz10, _⟩ := info_parts info5; obtain ⟨A10, hcut10, hA10, hC10⟩ := print_drop_of (P := Try.prog) (Value.int .u8) 0 22 5 .i64 Try.underlying22 hi010 hsz10 A0 c0 l0 (l0.length : Int) (of_decide_eq_true (by first | (with_reducible assumption) | assumption)) (of_decide_eq_true (by first | (with_reducible assumption) | assumption)) HC0.out; have HR249 := am_ (Kd.C_of_reads (h1 := fun _ => rfl) (hA10 _ (Kd.reads_of_C HR0.out))); have HC249 := am_ hC10; clear hA10 hC10 hi010 hsz10; rw [show l0.drop ((l0.length : Int) : Int).toNat = [] by simp] at HR249 HC249) | ((with_reducible refine gate_builtin (b := .append) (xs := #[.tmp 11, .tmp 14]) rfl ?_); at_builtin; refine Kd.R_append_rows (Kd.int .u8) (w0 := w) w.heap.size rfl (.tmp 11) (.tmp 14) 22 5 (.int .u8 0) 1 rfl Try.underlying22 info5 rfl (by decide) (by omega) v247 y246 ([] : List Int) _ _ _ (fun _ => True) (fun _ => False) rfl rfl ?aO ?aR (fun _ _ h => h) (fun _ h => h.elim) ?aF ?aB ?aS ?aL ?_; (case aR => (repeat (first | exact (Kd.C_below HR249.out HB.out) | (with_reducible refine ca_ ?_ _) | (with_reducible refine cn_ ?_ _) | (with_reducible refine cd_ ?_)))); (case aB => exact (by repeat (first | (with_reducible first | exact HB.out | apply ba_ | apply pw_below_drewN | apply bd_) | exact HB.out))); (case aF => exact (fun _ _ => trivial)); (case aO => exact (by (with_reducible repeat (first | apply ra_ | apply rn_ | apply rd_)); exact HO248.out)); (case aS => exact (bz_ (by repeat (first | (with_reducible first | exact HB.out | apply ba_ | apply pw_below_drewN | apply bd_) | exact HB.out)))); (case aL => have := LMc6.out; (try simp only [List.length_nil]); omega); intro v251 w11 ho hb hg hat; rw [← Ny250.out] at ho; have n0_ := am_ (hb); have n1_ := am_ (ho); clear HB; clear HO248; have HB := n0_; have HO252 := n1_; clear n0_ n1_; clear ho hb hg hat) | ((with_reducible refine gate_builtin (b := .append) (xs := #[.tmp 15, .tmp 18]) rfl ?_); at_builtin; refine Kd.R_append (Kd.int .u8) (w0 := w) w.heap.size rfl (.tmp 15) (.tmp 18) 22 5 (.int .u8 0) 1 rfl Try.underlying22 info5 rfl (by decide) (by omega) v251 y250 (((l0.length : Int)) % 256) [.int .u8 (((l0.length : Int)) % 256)] (fun _ => True) (fun _ => False) rfl rfl ?aP (fun _ hk => hk.elim) ?aF ?aO ?aB ?aS ?aL ?_; (case aP => exact rfl); (case aB => exact (by repeat (first | (with_reducible first | exact HB.out | apply ba_ | apply pw_below_drewN | apply bd_) | exact HB.out))); (case aF => exact (fun _ _ => trivial)); (case aO => exact (by (with_reducible repeat (first | apply ra_ | apply rn_ | apply rd_)); exact HO252.out)); (case aS => exact (bz_ (by repeat (first | (with_reducible first | exact HB.out | apply ba_ | apply pw_below_drewN | apply bd_) | exact HB.out)))); (case aL => have := LMc7.out; omega); intro v254 w12 ho hb hg hat; rw [← Ny253.out] at ho; have n0_ := am_ (hb); have n1_ := am_ (ho); clear HB; clear HO252; have HB := n0_; have HO255 := n1_; clear n0_ n1_; clear ho hb hg hat))
      go_ret
      exact ⟨_, by first | rfl | (simp [errW_none, errW_some] <;> rfl) | (simp [*, errW_none, errW_some] <;> rfl), by (with_reducible repeat (first | apply ra_ | apply rn_ | apply rd_)); exact HO255.out, by repeat (first | (with_reducible first | exact HB.out | apply ba_ | apply pw_below_drewN | apply bd_) | exact HB.out)⟩
     ·
      rw [if_neg c7] at H
      exact absurd H (by simp)
    ·
     rw [if_neg c6] at H
     exact absurd H (by simp)
   ·
    rw [if_neg c5] at H
    exact absurd H (by simp)
  ·
   rw [if_neg c4] at H
   exact absurd H (by simp)
 ·
  rw [if_neg c3] at H
  have c3b0 : decide ((l0.length : Int) < a1) = false := decide_eq_false c3
  clear c3
  obtain ⟨y256, hy256⟩ : ∃ y_ : List Int, y_ = (([] : List Int)) := ⟨_, rfl⟩
  replace H : (if 0 ≤ a1 then (if a1 ≤ (l0.length : Int) then (if y256.length + (l0.drop (a1 : Int).toNat).length < 140737488355328 then ((some (y256 ++ (l0.drop (a1 : Int).toNat) : List Int)).bind fun y260 => (if y260.length < 140737488355328 then (some (y260 ++ [(a1) % 256])) else (none))) else (none)) else (none)) else (none)) = some r := by first | (rw [hy256]; with_reducible exact H) | (have H2_ := (Option.bind_some _ _).symm.trans H; rw [hy256]; with_reducible exact H2_) | (have H2_ := (Option.bind_some _ _).symm.trans H; with_reducible exact H2_) | with_reducible exact H | (rw [hy256]; exact H) | exact H
  have Ny256 := am_ hy256
  clear hy256
  by_cases c13 : 0 ≤ a1
  ·
   rw [if_pos c13] at H
   have c13b0 := eq_true c13
   have c13b1 : decide (0 ≤ a1) = true := decide_eq_true c13
   clear c13
   by_cases c14 : a1 ≤ (l0.length : Int)
   ·
    rw [if_pos c14] at H
    have c14b0 := eq_true c14
    have c14b1 : decide (a1 ≤ (l0.length : Int)) = true := decide_eq_true c14
    clear c14
    by_cases c15 : y256.length + (l0.drop (a1 : Int).toNat).length < 140737488355328
    ·
     rw [if_pos c15] at H
     have LMc15 := am_ c15
     clear c15
     obtain ⟨y260, hy260⟩ : ∃ y_ : List Int, y_ = (y256 ++ (l0.drop (a1 : Int).toNat)) := ⟨_, rfl⟩
     replace H : (if y260.length < 140737488355328 then (some (y260 ++ [(a1) % 256])) else (none)) = some r := by first | (rw [hy260]; with_reducible exact H) | (have H2_ := (Option.bind_some _ _).symm.trans H; rw [hy260]; with_reducible exact H2_) | (have H2_ := (Option.bind_some _ _).symm.trans H; with_reducible exact H2_) | with_reducible exact H | (rw [hy260]; exact H) | exact H
     have Ny260 := am_ hy260
     clear hy260
     by_cases c16 : y260.length < 140737488355328
     ·
      rw [if_pos c16] at H
      have LMc16 := am_ c16
      clear c16
      obtain ⟨y263, hy263⟩ : ∃ y_ : List Int, y_ = (y260 ++ [(a1) % 256]) := ⟨_, rfl⟩
      replace H : (some y263) = some r := by first | (rw [hy263]; with_reducible exact H) | (have H2_ := (Option.bind_some _ _).symm.trans H; rw [hy263]; with_reducible exact H2_) | (have H2_ := (Option.bind_some _ _).symm.trans H; with_reducible exact H2_) | with_reducible exact H | (rw [hy263]; exact H) | exact H
      have Ny263 := am_ hy263
      clear hy263
      obtain rfl := Option.some.inj H
      go_enter Try.func9, Try.ntmps9
      go_wp2_with (first | ((with_reducible refine gate_dst (N := 11) rfl ?_); refine Kd.R_lit (Kd.int .u8) _ 5 ?hg (N := 11) ?hd (xs := ([] : List Int)) (inner := []) (ok := fun _ => True) (okp := fun _ => True) ?hr ?hp (fun _ hk => hk) trivial (Below.refl _ _) (Nat.le_refl _) (by simp) ?_; (case hd => rfl); (case hg => rfl); (case hr => first | (go_simp; done) | (go_simp; rfl)); (case hp => exact (Reps.none _ _)); intro v257 w17 ho18 hb hg_ hnew_; clear hg_ hnew_; (first | rw [← Ny256.out] at ho18 | (simp only [Int.reduceToNat] at ho18; rw [← Ny256.out] at ho18)); have n0_ := am_ (Kd.R_lower ho18 (bz_ (by repeat (first | (with_reducible first | exact HB.out | apply ba_ | apply pw_below_drewN | apply bd_) | exact HB.out)))); have n1_ := am_ (bp_ (by repeat (first | (with_reducible first | exact HB.out | apply ba_ | apply pw_below_drewN | apply bd_) | exact HB.out)) hb); clear HB; have HO258 := n0_; have HB := n1_; clear n0_ n1_; clear hb ho18; obtain ⟨i019, hi019, _, hsz19, _⟩ := info_parts info5; obtain ⟨A19, hcut19, hA19, hC19⟩ := print_drop_of (P := Try.prog) (Value.int .u8) 0 22 5 .i64 Try.underlying22 hi019 hsz19 A0 c0 l0 a1 (of_decide_eq_true (by first | (with_reducible assumption) | assumption)) (of_decide_eq_true (by first | (with_reducible assumption) | assumption)) HC0.out; have HR259 := am_ (Kd.C_of_reads (h1 := fun _ => rfl) (hA19 _ (Kd.reads_of_C HR0.out))); have HC259 := am_ hC19; clear hA19 hC19 hi019 hsz19) | ((with_reducible refine gate_builtin (b := .append) (xs := #[.tmp 11, .tmp 14]) rfl ?_); at_builtin; refine Kd.R_append_rows (Kd.int .u8) (w0 := w) w.heap.size rfl (.tmp 11) (.tmp 14) 22 5 (.int .u8 0) 1 rfl Try.underlying22 info5 rfl (by decide) (by omega) v257 y256 (l0.drop (a1 : Int).toNat) _ _ _ (fun _ => True) (fun _ => False) rfl rfl ?aO ?aR (fun _ _ h => h) (fun _ h => h.elim) ?aF ?aB ?aS ?aL ?_; (case aR => first | (rw [← show (l0.drop (a1 : Int).toNat).length = (l0.length - a1.toNat) from List.length_drop]; repeat (first | exact (Kd.C_below HR259.out HB.out) | (with_reducible refine ca_ ?_ _) | (with_reducible refine cn_ ?_ _) | (with_reducible refine cd_ ?_))) | (repeat (first | exact (Kd.C_below HR259.out HB.out) | (with_reducible refine ca_ ?_ _) | (with_reducible refine cn_ ?_ _) | (with_reducible refine cd_ ?_)))); (case aB => exact (by repeat (first | (with_reducible first | exact HB.out | apply ba_ | apply pw_below_drewN | apply bd_) | exact HB.out))); (case aF => exact (fun _ _ => trivial)); (case aO => exact (by (with_reducible repeat (first | apply ra_ | apply rn_ | apply rd_)); exact HO258.out)); (case aS => exact (bz_ (by repeat (first | (with_reducible first | exact HB.out | apply ba_ | apply pw_below_drewN | apply bd_) | exact HB.out)))); (case aL => have := LMc15.out; have hlx_ := (show (l0.drop (a1 : Int).toNat).length = (l0.length - a1.toNat) from List.length_drop); omega); intro v261 w20 ho hb hg hat; rw [← Ny260.out] at ho; have n0_ := am_ (hb); have n1_ := am_ (ho); clear HB; clear HO258; have HB := n0_; have HO262 := n1_; clear n0_ n1_; clear ho hb hg hat) | ((with_reducible refine gate_builtin (b := .append) (xs := #[.tmp 15, .tmp 18]) rfl ?_); at_builtin; refine Kd.R_append (Kd.int .u8) (w0 := w) w.heap.size rfl (.tmp 15) (.tmp 18) 22 5 (.int .u8 0) 1 rfl Try.underlying22 info5 rfl (by decide) (by omega) v261 y260 ((a1) % 256) [.int .u8 ((a1) % 256)] (fun _ => True) (fun _ => False) rfl rfl ?aP (fun _ hk => hk.elim) ?aF ?aO ?aB ?aS ?aL ?_; (case aP => exact rfl); (case aB => exact (by repeat (first | (with_reducible first | exact HB.out | apply ba_ | apply pw_below_drewN | apply bd_) | exact HB.out))); (case aF => exact (fun _ _ => trivial)); (case aO => exact (by (with_reducible repeat (first | apply ra_ | apply rn_ | apply rd_)); exact HO262.out)); (case aS => exact (bz_ (by repeat (first | (with_reducible first | exact HB.out | apply ba_ | apply pw_below_drewN | apply bd_) | exact HB.out)))); (case aL => have := LMc16.out; omega); intro v264 w21 ho hb hg hat; rw [← Ny263.out] at ho; have n0_ := am_ (hb); have n1_ := am_ (ho); clear HB; clear HO262; have HB := n0_; have HO265 := n1_; clear n0_ n1_; clear ho hb hg hat))
      go_ret
      exact ⟨_, by first | rfl | (simp [errW_none, errW_some] <;> rfl) | (simp [*, errW_none, errW_some] <;> rfl), by (with_reducible repeat (first | apply ra_ | apply rn_ | apply rd_)); exact HO265.out, by repeat (first | (with_reducible first | exact HB.out | apply ba_ | apply pw_below_drewN | apply bd_) | exact HB.out)⟩
     ·
      rw [if_neg c16] at H
      exact absurd H (by simp)
    ·
     rw [if_neg c15] at H
     exact absurd H (by simp)
   ·
    rw [if_neg c14] at H
    exact absurd H (by simp)
  ·
   rw [if_neg c13] at H
   exact absurd H (by simp)

/-! ### spec_l1Most: function 46 -/
def spec_l1Most.f (a0 : Int) (a1 : Int) : Option (Int) := if a0 > a1 then (some a0) else (some a1)
set_option maxHeartbeats 8000000 in
set_option maxRecDepth 100000 in
theorem spec_l1Most.calls (a0 : Int) (a1 : Int) (r : Int) (w : World) (h : spec_l1Most.f a0 a1 = some r) :
  Calls Try.prog 46 #[.int .i64 a0, .int .i64 a1] w fun e w' => e = .returned (.int .i64 r) ∧ Drawn0 w w' := by
 have H : (if a0 > a1 then (some a0) else (some a1)) = some r := h
 clear h
 by_cases c3 : a0 > a1
 ·
  rw [if_pos c3] at H
  have c3b0 : decide (a1 < a0) = true := decide_eq_true c3
  clear c3
  obtain rfl := Option.some.inj H
  go_enter Try.func46, Try.ntmps46
  go_wp2
  go_ret
  exact ⟨by first | rfl | (simp; done) | (simp [*]; done), by repeat (first | exact Drawn0.refl _ | apply Drawn0.step)⟩
 ·
  rw [if_neg c3] at H
  have c3b0 : decide (a1 < a0) = false := decide_eq_false c3
  clear c3
  obtain rfl := Option.some.inj H
  go_enter Try.func46, Try.ntmps46
  go_wp2
  go_ret
  exact ⟨by first | rfl | (simp; done) | (simp [*]; done), by repeat (first | exact Drawn0.refl _ | apply Drawn0.step)⟩

/-! ### impl_weighted: function 43 -/
def impl_weighted.l0 (g : Int → Option Int) : Nat → Int → List Int → Int → Int → Option (Int)
 | 0, _, _, _, _ => none
 | k + 1, x5, x8, x9, x10 => if x10 < x9 then (if 0 ≤ x10 then (if x10 < (x8.length : Int) then ((g x10).bind fun t205 => (impl_weighted.l0 g k (wrap64 (x5 + (wrap64 ((rd x8 x10) * t205)))) x8 x9 (wrap64 (x10 + 1)))) else (none)) else (none)) else (some x5)
def impl_weighted.f (k : Nat) (l0 : List Int) (g : Int → Option Int) : Option (Int) := impl_weighted.l0 g k 0 l0 (l0.length : Int) 0
theorem impl_weighted.mono_l (g : Int → Option Int) : ∀ k, (∀ y0 y1 y2 y3, LeO (impl_weighted.l0 g k y0 y1 y2 y3) (impl_weighted.l0 g (k + 1) y0 y1 y2 y3))
 | 0 => fun _ _ _ _ r h => by simp [impl_weighted.l0] at h
 | k + 1 => by
  have ih0 := impl_weighted.mono_l g k
  ·
   intro y0 y1 y2 y3
   unfold impl_weighted.l0
   repeat' first
   | (with_reducible exact ih0 _ _ _ _)
   | (with_reducible exact LeO.refl _)
   | (with_reducible exact LeO.none _)
   | (with_reducible refine LeO.ite ?_ ?_)
   | (with_reducible refine LeO.bind ?_ (fun _ => ?_))
   | exact ih0 _ _ _ _
   | exact LeO.none _
   | refine LeO.ite ?_ ?_
   | refine LeO.bind ?_ (fun _ => ?_)
theorem impl_weighted.mono : ∀ a0 g k, LeO (impl_weighted.f k a0 g) (impl_weighted.f (k + 1) a0 g) := by
 intro a0 g k
 have ih0 := impl_weighted.mono_l g k
 unfold impl_weighted.f
 exact ih0 _ _ _ _
set_option maxHeartbeats 8000000 in
set_option maxRecDepth 100000 in
theorem impl_weighted.calls (k : Nat) (A0 : Option Addr) (c0 : Nat) (l0 : List Int) (g : Int → Option Int) (r : Int) (w : World) {f : FuncId} {fn : Func} {first cap : Array Value} (hf : Try.prog.funcs[f]? = some fn) (hname : (fn.name == "runtime.NumGoroutine") = false) (hbody : fn.body.isSome = true)
  (hfc : ∀ n p : Int, g n = some p → ∀ m, Calls Try.prog f (first ++ #[.int .i64 n] ++ cap) (w.drewN m) fun e w' => e = .returned (.int .i64 p) ∧ Drawn0 (w.drewN m) w')
  (hr0 : Kd.C (Kd.int .i64) w A0 l0.length l0) (hc0 : l0.length ≤ c0) (h : impl_weighted.f k l0 g = some r) :
  Calls Try.prog 43 #[.slice A0 l0.length c0, .func (.func f) first cap] w fun e w' => e = .returned (.int .i64 r) ∧ Drawn0 w w' := by
 have HF := am_ hf
 have HN := am_ hname
 have HBD := am_ hbody
 have HFC := am_ hfc
 clear hf hname hbody hfc
 have HR0 := am_ hr0
 have HC0 := am_ hc0
 clear hr0 hc0
 have H : (impl_weighted.l0 g k 0 l0 (l0.length : Int) 0) = some r := h
 clear h
 have H' := am_ H
 clear H
 go_enter Try.func43, Try.ntmps43
 go_wp2
 go_loopg [5, 10] k (fun kq v5 v10 w' => ∃ (x5_1 : Int) (x10_1 : Int), v5 = .int .i64 x5_1 ∧ v10 = .int .i64 x10_1 ∧ Aside0 (impl_weighted.l0 g kq x5_1 l0 (l0.length : Int) x10_1 = some r) ∧ Aside0 (kq ≤ k) ∧ Drawn0 w w')
 case atStart => exact ⟨(0), (0), (by first | rfl | (simp; done) | (simp [*]; done)), (by first | rfl | (simp; done) | (simp [*]; done)), H', ⟨Nat.le_refl _⟩, by repeat (first | exact Drawn0.refl _ | apply Drawn0.step)⟩
 case round =>
  clear H'
  obtain ⟨x5_1, x10_1, rfl, rfl, HA, HK1, ⟨m1, rfl⟩⟩ := hrel
  cases gk with
  | zero => exact absurd HA.out (by simp [impl_weighted.l0])
  | succ k1 =>
   have H := HA.out
   clear HA
   simp only [impl_weighted.l0] at H
   by_cases c3 : x10_1 < (l0.length : Int)
   ·
    rw [if_pos c3] at H
    have c3b0 : decide (x10_1 < (l0.length : Int)) = true := decide_eq_true c3
    clear c3
    by_cases c4 : 0 ≤ x10_1
    ·
     rw [if_pos c4] at H
     have c4b0 : decide (0 ≤ x10_1) = true := decide_eq_true c4
     clear c4
     by_cases c5 : x10_1 < (l0.length : Int)
     ·
      rw [if_pos c5] at H
      have c5b0 : decide (x10_1 < (l0.length : Int)) = true := decide_eq_true c5
      clear c5
      replace H := Option.bind_eq_some_iff.mp H
      obtain ⟨t205, A60, H⟩ := H
      replace H : (impl_weighted.l0 g k1 (wrap64 (x5_1 + (wrap64 ((rd l0 x10_1) * t205)))) l0 (l0.length : Int) (wrap64 (x10_1 + 1))) = some r := H
      have A6 := am_ A60
      clear A60
      have H' := am_ H
      clear H
      have p204 : 0 ≤ (x10_1 : Int) := of_decide_eq_true (by first | (with_reducible assumption) | assumption)
      have q204 : x10_1 < (l0.length : Int) := of_decide_eq_true (by first | (with_reducible assumption) | assumption)
      obtain ⟨ad204, e204, hx204_0⟩ := Kd.at_int HR0.out x10_1 p204 q204
      cases e204
      replace p204 := eq_true p204
      replace q204 := eq_true q204
      go_wp2_with (first | ((with_reducible refine gate_dst (N := 19) rfl ?_); refine goesD_ (some 19) rfl rfl HF.out HN.out HBD.out (x := Operand.tmp 17) first cap #[.int .i64 x10_1] rfl rfl (by first | (rfl; done) | (simp [Act.eval, Act.put]; done)) ?_; refine (HFC.out _ _ A6.out _).mono ?_; rintro e w' ⟨rfl, ⟨nd, rfl⟩⟩; refine ⟨_, rfl, ?_⟩))
      go_roundg k1
      case measure => have := HK1.out; omega
      case rel => exact ⟨(wrap64 (x5_1 + (wrap64 ((rd l0 x10_1) * t205)))), (wrap64 (x10_1 + 1)), (by first | rfl | (simp; done) | (simp [*]; done)), (by first | rfl | (simp; done) | (simp [*]; done)), H', ⟨by have := HK1.out; omega⟩, by repeat (first | exact Drawn0.refl _ | apply Drawn0.step)⟩
     ·
      rw [if_neg c5] at H
      exact absurd H (by simp)
    ·
     rw [if_neg c4] at H
     exact absurd H (by simp)
   ·
    rw [if_neg c3] at H
    have c3b0 : decide (x10_1 < (l0.length : Int)) = false := decide_eq_false c3
    clear c3
    obtain rfl := Option.some.inj H
    go_wp2
    go_ret
    exact ⟨by first | rfl | (simp; done) | (simp [*]; done), by repeat (first | exact Drawn0.refl _ | apply Drawn0.step)⟩
/-- The function that impl_meanSum_lit makes. -/
theorem impl_meanSum_lit.calls (d p : Int) (w : World) (h : (some d : Option Int) = some p) : Calls Try.prog 44 #[.int .i64 d] w fun e w' => e = .returned (.int .i64 p) ∧ Drawn0 w w' := by
 obtain rfl := Option.some.inj h
 clear h
 go_enter Try.func44, Try.ntmps44
 go_wp2
 go_ret
 exact ⟨rfl, Drawn0.refl _⟩
/-! ### impl_meanSum: function 31 -/
def impl_meanSum.f (k : Nat) (l0 : List Int) : Option (Int) := (impl_weighted.f k l0 (fun d_ => some d_)).bind fun t268 => (some t268)
theorem impl_meanSum.mono : ∀ a0 k, LeO (impl_meanSum.f k a0) (impl_meanSum.f (k + 1) a0) := by
 intro a0 k
 unfold impl_meanSum.f
 repeat' first
   | (with_reducible exact impl_weighted.mono _ _ _)
   | (with_reducible exact LeO.refl _)
   | (with_reducible exact LeO.none _)
   | (with_reducible refine LeO.ite ?_ ?_)
   | (with_reducible refine LeO.bind ?_ (fun _ => ?_))
   | exact impl_weighted.mono _ _ _
   | exact LeO.none _
   | refine LeO.ite ?_ ?_
   | refine LeO.bind ?_ (fun _ => ?_)
set_option maxHeartbeats 8000000 in
set_option maxRecDepth 100000 in
theorem impl_meanSum.calls (k : Nat) (A0 : Option Addr) (c0 : Nat) (l0 : List Int) (r : Int) (w : World) (hr0 : Kd.C (Kd.int .i64) w A0 l0.length l0) (hc0 : l0.length ≤ c0) (h : impl_meanSum.f k l0 = some r) :
  Calls Try.prog 31 #[.slice A0 l0.length c0] w fun e w' => e = .returned (.int .i64 r) ∧ Drawn0 w w' := by
 have HR0 := am_ hr0
 have HC0 := am_ hc0
 clear hr0 hc0
 have H : ((impl_weighted.f k l0 (fun d_ => some d_)).bind fun t268 => (some t268)) = some r := h
 clear h
 replace H := Option.bind_eq_some_iff.mp H
 obtain ⟨t268, A20, H⟩ := H
 replace H : (some t268) = some r := H
 have A2 := am_ A20
 clear A20
 obtain rfl := Option.some.inj H
 go_enter Try.func31, Try.ntmps31
 go_wp2_with (first | ((with_reducible refine gc_ (f := 43) rfl ?_); refine goesL_ (some 4) rfl rfl Try.func43 (by kernel_rfl) rfl #[.slice A0 l0.length c0, .func (.func 44) #[] #[]] rfl (by (try simp only [List.map_toArray, List.map_cons, List.map_nil]); first | done | rfl | (simp only [List.length_drop, List.length_take]; rfl)) ?_; (refine (impl_weighted.calls k _ _ l0 (fun d_ => some d_) t268 _ (f := 44) (first := #[]) (cap := #[]) Try.func44 (by kernel_rfl) rfl (fun n_ p_ h_ m_ => impl_meanSum_lit.calls n_ p_ _ h_) ?side1 ?side2 A2.out).mono ?_); (case side1 => repeat (first | exact HR0.out | (with_reducible refine ca_ ?_ _) | (with_reducible refine cn_ ?_ _) | (with_reducible refine cd_ ?_))); (case side2 => exact HC0.out); rintro e w' ⟨rfl, ⟨nd, rfl⟩⟩; refine ⟨_, rfl, ?_⟩))
 go_ret
 exact ⟨by first | rfl | (simp; done) | (simp [*]; done), by repeat (first | exact Drawn0.refl _ | apply Drawn0.step)⟩

-- NOT PRINTED: function 45 (impl_shortSum_1)

/-- The function that impl_shortSum_lit makes: it reads the order in its cell. -/
theorem impl_shortSum_lit.calls (q d p : Int) (w : World) (gq : Nat) (hq : w.heap[gq]? = some (.cells #[.int .i64 q] 3 (0, 0))) (h : (some (if 0 < wrap64 (d - q) then wrap64 (d - q) else 0) : Option Int) = some p) :
  Calls Try.prog 45 #[.int .i64 d, .pointer (some ⟨gq, 0, none⟩)] w fun e w' => e = .returned (.int .i64 p) ∧ Drawn0 w w' := by
 have hcz : w.cell? ⟨gq, 0, none⟩ = some (.int .i64 q) := (blk_cell hq 0).trans rfl
 obtain rfl := Option.some.inj h
 clear h hq
 go_enter Try.func45, Try.ntmps45
 go_wp2
 all_goals
  go_ret
  exact ⟨by first | rfl | (simp [*]; done) | (simp [i64_w, *]; done), Drawn0.refl _⟩
/-! ### impl_shortSum: function 32 -/
def impl_shortSum.f (k : Nat) (l0 : List Int) (a1 : Int) : Option (Int) := (impl_weighted.f k l0 (fun d_ => some (if 0 < wrap64 (d_ - a1) then wrap64 (d_ - a1) else 0))).bind fun t270 => (some t270)
theorem impl_shortSum.mono : ∀ a0 a1 k, LeO (impl_shortSum.f k a0 a1) (impl_shortSum.f (k + 1) a0 a1) := by
 intro a0 a1 k
 unfold impl_shortSum.f
 repeat' first
   | (with_reducible exact impl_weighted.mono _ _ _)
   | (with_reducible exact LeO.refl _)
   | (with_reducible exact LeO.none _)
   | (with_reducible refine LeO.ite ?_ ?_)
   | (with_reducible refine LeO.bind ?_ (fun _ => ?_))
   | exact impl_weighted.mono _ _ _
   | exact LeO.none _
   | refine LeO.ite ?_ ?_
   | refine LeO.bind ?_ (fun _ => ?_)
set_option maxHeartbeats 8000000 in
set_option maxRecDepth 100000 in
theorem impl_shortSum.calls (k : Nat) (A0 : Option Addr) (c0 : Nat) (l0 : List Int) (a1 : Int) (r : Int) (w : World) (hr0 : Kd.C (Kd.int .i64) w A0 l0.length l0) (hc0 : l0.length ≤ c0) (h : impl_shortSum.f k l0 a1 = some r) :
  Calls Try.prog 32 #[.slice A0 l0.length c0, .int .i64 a1] w fun e w' => e = .returned (.int .i64 r) ∧ Below w.heap.size w w' := by
 have HR0 := am_ hr0
 have HC0 := am_ hc0
 clear hr0 hc0
 have HB := am_ (Below.refl w.heap.size w)
 have H : ((impl_weighted.f k l0 (fun d_ => some (if 0 < wrap64 (d_ - a1) then wrap64 (d_ - a1) else 0))).bind fun t270 => (some t270)) = some r := h
 clear h
 replace H := Option.bind_eq_some_iff.mp H
 obtain ⟨t270, A30, H⟩ := H
 replace H : (some t270) = some r := H
 have A3 := am_ A30
 clear A30
 obtain rfl := Option.some.inj H
 go_enter Try.func32, Try.ntmps32
 go_wp2_with (first | ((with_reducible refine gate_dst (N := 3) rfl ?_); refine box_event ?hg (N := 3) ?hd (cs := #[.int .i64 a1]) (t := 3) ?hr ?_; (case hd => rfl); (case hg => rfl); (case hr => first | (go_simp; done) | (go_simp; rfl)); intro gb269 hg w4 hbox hb; have n0_ := am_ (bp_ (by repeat (first | (with_reducible first | exact HB.out | apply ba_ | apply pw_below_drewN | apply bd_) | exact HB.out)) hb); have n1_ := am_ (hbox); have n2_ := am_ ((by rw [hg]; exact (bz_ (by repeat (first | (with_reducible first | exact HB.out | apply ba_ | apply pw_below_drewN | apply bd_) | exact HB.out))) : w.heap.size ≤ gb269)); have n3_ := am_ ((by rw [hg]; exact (bz_ (by repeat (first | (with_reducible first | exact HB.out | apply ba_ | apply pw_below_drewN | apply bd_) | exact HB.out))) : w.heap.size ≤ gb269)); clear HB; have HB := n0_; have BK269 := n1_; have GW269 := n2_; have GE269 := n3_; clear n0_ n1_ n2_ n3_; clear hb hbox hg) | ((with_reducible refine gc_ (f := 43) rfl ?_); refine goesL_ (some 7) rfl rfl Try.func43 (by kernel_rfl) rfl #[.slice A0 l0.length c0, .func (.func 45) #[] #[.pointer (some ⟨gb269, 0, none⟩)]] rfl (by (try simp only [List.map_toArray, List.map_cons, List.map_nil]); first | done | rfl | (simp only [List.length_drop, List.length_take]; rfl)) ?_; (refine (impl_weighted.calls k _ _ l0 (fun d_ => some (if 0 < wrap64 (d_ - a1) then wrap64 (d_ - a1) else 0)) t270 _ (f := 45) (first := #[]) (cap := #[.pointer (some ⟨gb269, 0, none⟩)]) Try.func45 (by kernel_rfl) rfl (fun n_ p_ h_ m_ => impl_shortSum_lit.calls a1 n_ p_ _ gb269 (blk_drewN BK269.out m_) h_) ?side1 ?side2 A3.out).mono ?_); (case side1 => repeat (first | exact (Kd.C_below HR0.out HB.out) | (with_reducible refine ca_ ?_ _) | (with_reducible refine cn_ ?_ _) | (with_reducible refine cd_ ?_))); (case side2 => exact HC0.out); rintro e w' ⟨rfl, ⟨nd, rfl⟩⟩; refine ⟨_, rfl, ?_⟩))
 go_ret
 exact ⟨by first | rfl | (simp [errW_none, errW_some] <;> rfl) | (simp [*, errW_none, errW_some] <;> rfl), by repeat (first | (with_reducible first | exact HB.out | apply ba_ | apply pw_below_drewN | apply bd_ | refine bs_ ?_ GE269.out) | exact HB.out)⟩

end Go.Proofs.Ytecciinjpimmmaa.PFnDistributions
