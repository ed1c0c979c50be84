-- Made by wip/xprint.py: the print of the kit, called over a changed copy of what it reads.
-- PRINTED by print.py (a twelfth state) out of the translation. Not trusted: Lean checks it.
import Derived.Test.YtgmoljiehdeelaaXFnExactStageCasex0
import Derived.Test.YtgmoljiehdeelaaXFnExactStageCasex1
namespace Go.Proofs.Ytgmoljiehdeelaa.PFnExactStageCase
open Go.RowKit Go.Proofs.YtgmoljiehdeelaaW.PrintWords Go.Proofs.YtgmoljiehdeelaaW.PrintLast Go.Proofs.YtgmoljiehdeelaaW.PrintMore
open Go.Proofs.YtgmoljiehdeelaaW.PrintWords.Aside0 renaming mk → am_
open Go.Proofs.YtgmoljiehdeelaaW.PrintWords renaming below_drew1 → bd_, below_alloc → ba_, below_set → bs_, below_size → bz_, blk_frozen → kf_, blk_alloc → ka_, blk_drewN → kn_, blk_drew → kd_, blk_cell → kc_
open Go.Proofs.YtgmoljiehdeelaaW.PrintWords.Kd renaming R_alloc → ra_, R_drewN → rn_, R_drew → rd_, R_far → rf_, R_mono → rm_, R_types → rt_, R_slice → rs_, C_alloc → ca_, C_drewN → cn_, C_drew → cd_, C_below → cb_
attribute [local go_sem] max2_int min2_int max_two min_two max_three min_three max_four min_four   -- for this text's walks alone
set_option linter.unusedVariables false
set_option linter.unusedSimpArgs false

/-! ### spec_l7Good: function 35 -/
mutual
def spec_l7Good.j0 : Nat → Bool → List Int → List Int → List Int → Option (Bool)
 | 0, _, _, _, _ => none
 | k + 1, x23, x140000, x140001, x140002 => if x23 = true then (some false) else ((spec_l2Row.f k x140001 (x140001.length : Int) 99).bind fun t142 => (if t142 = true then ((spec_l2Row.f k x140002 (x140001.length : Int) 9).bind fun t143 => (spec_l7Good.j1 k (!t143) x140000 x140001 x140002)) else (spec_l7Good.j1 k true x140000 x140001 x140002)))
def spec_l7Good.j1 : Nat → Bool → List Int → List Int → List Int → Option (Bool)
 | 0, _, _, _, _ => none
 | k + 1, x39, x140000, x140001, x140002 => if x39 = true then (some false) else (spec_l7Good.l0 k 1 x140000 x140001 x140002)
def spec_l7Good.l0 : Nat → Int → List Int → List Int → List Int → Option (Bool)
 | 0, _, _, _, _ => none
 | k + 1, x3, x140000, x140001, x140002 => if x3 < (x140002.length : Int) then (if 0 ≤ x3 then (if 0 ≤ (wrap64 (x3 - 1)) then (if (wrap64 (x3 - 1)) < (x140002.length : Int) then (if (rd x140002 x3) < (rd x140002 (wrap64 (x3 - 1))) then (some false) else (spec_l7Good.l0 k (wrap64 (x3 + 1)) x140000 x140001 x140002)) else (none)) else (none)) else (none)) else (some true)
end
def spec_l7Good.f (k : Nat) (l0_0 : List Int) (l0_1 : List Int) (l0_2 : List Int) : Option (Bool) := if (l0_0.length : Int) > 6 then (spec_l7Good.j0 k true l0_0 l0_1 l0_2) else ((spec_l2Row.f k l0_0 (l0_0.length : Int) 20).bind fun t140 => (if t140 = true then ((spec_l1In.f (l0_1.length : Int) 1 3).bind fun t141 => (spec_l7Good.j0 k (!t141) l0_0 l0_1 l0_2)) else (spec_l7Good.j0 k true l0_0 l0_1 l0_2)))
theorem spec_l7Good.mono_l : ∀ k, (∀ y0 y1 y2 y3, LeO (spec_l7Good.j0 k y0 y1 y2 y3) (spec_l7Good.j0 (k + 1) y0 y1 y2 y3)) ∧ (∀ y0 y1 y2 y3, LeO (spec_l7Good.j1 k y0 y1 y2 y3) (spec_l7Good.j1 (k + 1) y0 y1 y2 y3)) ∧ (∀ y0 y1 y2 y3, LeO (spec_l7Good.l0 k y0 y1 y2 y3) (spec_l7Good.l0 (k + 1) y0 y1 y2 y3))
 | 0 => ⟨fun _ _ _ _ r h => by simp [spec_l7Good.j0] at h, fun _ _ _ _ r h => by simp [spec_l7Good.j1] at h, fun _ _ _ _ r h => by simp [spec_l7Good.l0] at h⟩
 | k + 1 => by
  obtain ⟨ih0, ih1, ih2⟩ := spec_l7Good.mono_l k
  refine ⟨?_, ?_, ?_⟩
  ·
   intro y0 y1 y2 y3
   unfold spec_l7Good.j0
   repeat' first
   | (with_reducible exact ih0 _ _ _ _)
   | (with_reducible exact ih1 _ _ _ _)
   | (with_reducible exact ih2 _ _ _ _)
   | (with_reducible exact spec_l2Row.mono _ _ _ _)
   | (with_reducible exact LeO.refl _)
   | (with_reducible exact LeO.none _)
   | (with_reducible refine LeO.ite ?_ ?_)
   | (with_reducible refine LeO.bind ?_ (fun _ => ?_))
   | exact ih0 _ _ _ _
   | exact ih1 _ _ _ _
   | exact ih2 _ _ _ _
   | exact spec_l2Row.mono _ _ _ _
   | exact LeO.none _
   | refine LeO.ite ?_ ?_
   | refine LeO.bind ?_ (fun _ => ?_)
  ·
   intro y0 y1 y2 y3
   unfold spec_l7Good.j1
   repeat' first
   | (with_reducible exact ih0 _ _ _ _)
   | (with_reducible exact ih1 _ _ _ _)
   | (with_reducible exact ih2 _ _ _ _)
   | (with_reducible exact spec_l2Row.mono _ _ _ _)
   | (with_reducible exact LeO.refl _)
   | (with_reducible exact LeO.none _)
   | (with_reducible refine LeO.ite ?_ ?_)
   | (with_reducible refine LeO.bind ?_ (fun _ => ?_))
   | exact ih0 _ _ _ _
   | exact ih1 _ _ _ _
   | exact ih2 _ _ _ _
   | exact spec_l2Row.mono _ _ _ _
   | exact LeO.none _
   | refine LeO.ite ?_ ?_
   | refine LeO.bind ?_ (fun _ => ?_)
  ·
   intro y0 y1 y2 y3
   unfold spec_l7Good.l0
   repeat' first
   | (with_reducible exact ih0 _ _ _ _)
   | (with_reducible exact ih1 _ _ _ _)
   | (with_reducible exact ih2 _ _ _ _)
   | (with_reducible exact spec_l2Row.mono _ _ _ _)
   | (with_reducible exact LeO.refl _)
   | (with_reducible exact LeO.none _)
   | (with_reducible refine LeO.ite ?_ ?_)
   | (with_reducible refine LeO.bind ?_ (fun _ => ?_))
   | exact ih0 _ _ _ _
   | exact ih1 _ _ _ _
   | exact ih2 _ _ _ _
   | exact spec_l2Row.mono _ _ _ _
   | exact LeO.none _
   | refine LeO.ite ?_ ?_
   | refine LeO.bind ?_ (fun _ => ?_)
theorem spec_l7Good.mono : ∀ a0 a1 a2 k, LeO (spec_l7Good.f k a0 a1 a2) (spec_l7Good.f (k + 1) a0 a1 a2) := by
 intro a0 a1 a2 k
 obtain ⟨ih0, ih1, ih2⟩ := spec_l7Good.mono_l k
 unfold spec_l7Good.f
 repeat' first
   | (with_reducible exact ih0 _ _ _ _)
   | (with_reducible exact ih1 _ _ _ _)
   | (with_reducible exact ih2 _ _ _ _)
   | (with_reducible exact spec_l2Row.mono _ _ _ _)
   | (with_reducible exact LeO.refl _)
   | (with_reducible exact LeO.none _)
   | (with_reducible refine LeO.ite ?_ ?_)
   | (with_reducible refine LeO.bind ?_ (fun _ => ?_))
   | exact ih0 _ _ _ _
   | exact ih1 _ _ _ _
   | exact ih2 _ _ _ _
   | exact spec_l2Row.mono _ _ _ _
   | exact LeO.none _
   | refine LeO.ite ?_ ?_
   | refine LeO.bind ?_ (fun _ => ?_)
set_option maxHeartbeats 8000000 in
set_option maxRecDepth 100000 in
theorem spec_l7Good.calls (k : Nat) (A0_0 : Option Addr) (c0_0 : Nat) (l0_0 : List Int) (A0_1 : Option Addr) (c0_1 : Nat) (l0_1 : List Int) (A0_2 : Option Addr) (c0_2 : Nat) (l0_2 : List Int) (r : Bool) (w : World) (hr0_0 : Kd.C (Kd.int .i64) w A0_0 l0_0.length l0_0) (hc0_0 : l0_0.length ≤ c0_0) (hr0_1 : Kd.C (Kd.int .i64) w A0_1 l0_1.length l0_1) (hc0_1 : l0_1.length ≤ c0_1) (hr0_2 : Kd.C (Kd.int .i64) w A0_2 l0_2.length l0_2) (hc0_2 : l0_2.length ≤ c0_2) (h : spec_l7Good.f k l0_0 l0_1 l0_2 = some r) :
  Calls Try.prog 35 #[.agg #[.slice A0_0 l0_0.length c0_0, .slice A0_1 l0_1.length c0_1, .slice A0_2 l0_2.length c0_2]] w fun e w' => e = .returned (.bool r) ∧ Below w.heap.size w w' := by
 have hu30 := Try.underlying30
 have HR0_0 := am_ hr0_0
 have HC0_0 := am_ hc0_0
 clear hr0_0 hc0_0
 have HR0_1 := am_ hr0_1
 have HC0_1 := am_ hc0_1
 clear hr0_1 hc0_1
 have HR0_2 := am_ hr0_2
 have HC0_2 := am_ hc0_2
 clear hr0_2 hc0_2
 have HB := am_ (Below.refl w.heap.size w)
 have H : (if (l0_0.length : Int) > 6 then (spec_l7Good.j0 k true l0_0 l0_1 l0_2) else ((spec_l2Row.f k l0_0 (l0_0.length : Int) 20).bind fun t140 => (if t140 = true then ((spec_l1In.f (l0_1.length : Int) 1 3).bind fun t141 => (spec_l7Good.j0 k (!t141) l0_0 l0_1 l0_2)) else (spec_l7Good.j0 k true l0_0 l0_1 l0_2)))) = some r := h
 clear h
 have HC2 := am_ H
 clear H
 go_enter Try.func35, Try.ntmps35
 go_upto_region 1 with (first | ((with_reducible refine gate_dst (N := 1) rfl ?_); (try (refine gate_guard (by rfl) ?_; dsimp only)); refine box_event ?hg (N := 1) ?hd (cs := #[.slice A0_0 l0_0.length c0_0, .slice A0_1 l0_1.length c0_1, .slice A0_2 l0_2.length c0_2]) (t := 30) ?hr ?_; (case hd => rfl); (case hg => rfl); (case hr => first | (go_simp; done) | (go_simp; rfl)); intro gb139 hg w3 hbox hb; have n0_ := am_ (below_step (by repeat (first | (with_reducible first | exact HB.out | apply ba_ | apply pw_below_drewN | apply bd_) | exact HB.out)) hb); have n1_ := am_ (hbox); have n2_ := am_ ((by rw [hg]; exact (bz_ (by repeat (first | (with_reducible first | exact HB.out | apply ba_ | apply pw_below_drewN | apply bd_) | exact HB.out))) : w.heap.size ≤ gb139)); have n3_ := am_ ((by rw [hg]; exact (bz_ (by repeat (first | (with_reducible first | exact HB.out | apply ba_ | apply pw_below_drewN | apply bd_) | exact HB.out))) : w.heap.size ≤ gb139)); clear HB; have HB := n0_; have BK139 := n1_; have GW139 := n2_; have GE139 := n3_; clear n0_ n1_ n2_ n3_; clear hb hbox hg))
 repeat (go_quiet (first | ((with_reducible refine gate_dst (N := 1) rfl ?_); (try (refine gate_guard (by rfl) ?_; dsimp only)); refine box_event ?hg (N := 1) ?hd (cs := #[.slice A0_0 l0_0.length c0_0, .slice A0_1 l0_1.length c0_1, .slice A0_2 l0_2.length c0_2]) (t := 30) ?hr ?_; (case hd => rfl); (case hg => rfl); (case hr => first | (go_simp; done) | (go_simp; rfl)); intro gb139 hg w3 hbox hb; have n0_ := am_ (below_step (by repeat (first | (with_reducible first | exact HB.out | apply ba_ | apply pw_below_drewN | apply bd_) | exact HB.out)) hb); have n1_ := am_ (hbox); have n2_ := am_ ((by rw [hg]; exact (bz_ (by repeat (first | (with_reducible first | exact HB.out | apply ba_ | apply pw_below_drewN | apply bd_) | exact HB.out))) : w.heap.size ≤ gb139)); have n3_ := am_ ((by rw [hg]; exact (bz_ (by repeat (first | (with_reducible first | exact HB.out | apply ba_ | apply pw_below_drewN | apply bd_) | exact HB.out))) : w.heap.size ≤ gb139)); clear HB; have HB := n0_; have BK139 := n1_; have GW139 := n2_; have GE139 := n3_; clear n0_ n1_ n2_ n3_; clear hb hbox hg)); go_upto_region 1 with (first | ((with_reducible refine gate_dst (N := 1) rfl ?_); (try (refine gate_guard (by rfl) ?_; dsimp only)); refine box_event ?hg (N := 1) ?hd (cs := #[.slice A0_0 l0_0.length c0_0, .slice A0_1 l0_1.length c0_1, .slice A0_2 l0_2.length c0_2]) (t := 30) ?hr ?_; (case hd => rfl); (case hg => rfl); (case hr => first | (go_simp; done) | (go_simp; rfl)); intro gb139 hg w3 hbox hb; have n0_ := am_ (below_step (by repeat (first | (with_reducible first | exact HB.out | apply ba_ | apply pw_below_drewN | apply bd_) | exact HB.out)) hb); have n1_ := am_ (hbox); have n2_ := am_ ((by rw [hg]; exact (bz_ (by repeat (first | (with_reducible first | exact HB.out | apply ba_ | apply pw_below_drewN | apply bd_) | exact HB.out))) : w.heap.size ≤ gb139)); have n3_ := am_ ((by rw [hg]; exact (bz_ (by repeat (first | (with_reducible first | exact HB.out | apply ba_ | apply pw_below_drewN | apply bd_) | exact HB.out))) : w.heap.size ≤ gb139)); clear HB; have HB := n0_; have BK139 := n1_; have GW139 := n2_; have GE139 := n3_; clear n0_ n1_ n2_ n3_; clear hb hbox hg)))
 (try simp only [Act.put, List.setIfInBounds_toArray, List.set_cons_zero, List.set_cons_succ])
 go_cut [23] (fun v23 wc => ∃ (kq : Nat) (x23_1 : Bool), v23 = .bool x23_1 ∧ Aside0 (spec_l7Good.j0 kq x23_1 l0_0 l0_1 l0_2 = some r) ∧ Aside0 (kq ≤ k) ∧ Aside0 (wc.heap[gb139]? = some (.cells #[(.slice A0_0 l0_0.length c0_0), (.slice A0_1 l0_1.length c0_1), (.slice A0_2 l0_2.length c0_2)] 30 (0, 0))) ∧ Aside0 (Below w.heap.size w wc))
 case first =>
  have H := HC2.out
  clear HC2
  by_cases c4 : (l0_0.length : Int) > 6
  ·
   rw [if_pos c4] at H
   have c4b0 : decide (6 < (l0_0.length : Int)) = true := decide_eq_true c4
   have c4b1 : decide (6 < l0_0.length) = true := decide_eq_true (by omega)
   clear c4
   (first | rw [c4b0] | (simp only [i64_w, i32_w]; rw [c4b0]) | skip)
   have H' := am_ H
   clear H
   have hcz5_0 : w3.cell? ⟨gb139, 0, none⟩ = some (.slice A0_0 l0_0.length c0_0) := (kc_ BK139.out 0).trans rfl
   have hcz5_1 : w3.cell? ⟨gb139, 1, none⟩ = some (.slice A0_1 l0_1.length c0_1) := (kc_ BK139.out 1).trans rfl
   have hcz5_2 : w3.cell? ⟨gb139, 2, none⟩ = some (.slice A0_2 l0_2.length c0_2) := (kc_ BK139.out 2).trans rfl
   have hfz5_0 := kf_ BK139.out 0
   have hfz5_1 := kf_ BK139.out 1
   have hfz5_2 := kf_ BK139.out 2
   go_wp2
   repeat (go_quiet (fail); try go_wp2)
   go_meet
   case rel => exact ⟨_, (true), (by first | rfl | (simp; done) | (simp [*]; done)), H', ⟨by first | omega | exact Nat.le_refl _⟩, ⟨by (with_reducible repeat (first | refine kn_ ?_ _ | refine kd_ ?_ | refine ka_ ?_ _)); exact BK139.out⟩, ⟨by repeat (first | (with_reducible first | exact HB.out | apply ba_ | apply pw_below_drewN | apply bd_ | refine bs_ ?_ GE139.out) | exact HB.out)⟩⟩
  ·
   rw [if_neg c4] at H
   have c4b0 : decide (6 < (l0_0.length : Int)) = false := decide_eq_false c4
   have c4b1 : decide (6 < l0_0.length) = false := decide_eq_false (by omega)
   clear c4
   (first | rw [c4b0] | (simp only [i64_w, i32_w]; rw [c4b0]) | skip)
   replace H := Option.bind_eq_some_iff.mp H
   obtain ⟨t140, A60, H⟩ := H
   replace H : (if t140 = true then ((spec_l1In.f (l0_1.length : Int) 1 3).bind fun t141 => (spec_l7Good.j0 k (!t141) l0_0 l0_1 l0_2)) else (spec_l7Good.j0 k true l0_0 l0_1 l0_2)) = some r := H
   have A6 := am_ A60
   clear A60
   by_cases c7 : t140 = true
   ·
    subst c7
    have H1 : ((spec_l1In.f (l0_1.length : Int) 1 3).bind fun t141 => (spec_l7Good.j0 k (!t141) l0_0 l0_1 l0_2)) = some r := by rw [if_pos rfl] at H; exact H
    clear H
    have H := H1
    clear H1
    replace H := Option.bind_eq_some_iff.mp H
    obtain ⟨t141, A80, H⟩ := H
    replace H : (spec_l7Good.j0 k (!t141) l0_0 l0_1 l0_2) = some r := H
    have A8 := am_ A80
    clear A80
    have H' := am_ H
    clear H
    have hcz9_0 : w3.cell? ⟨gb139, 0, none⟩ = some (.slice A0_0 l0_0.length c0_0) := (kc_ BK139.out 0).trans rfl
    have hcz9_1 : w3.cell? ⟨gb139, 1, none⟩ = some (.slice A0_1 l0_1.length c0_1) := (kc_ BK139.out 1).trans rfl
    have hcz9_2 : w3.cell? ⟨gb139, 2, none⟩ = some (.slice A0_2 l0_2.length c0_2) := (kc_ BK139.out 2).trans rfl
    have hfz9_0 := kf_ BK139.out 0
    have hfz9_1 := kf_ BK139.out 1
    have hfz9_2 := kf_ BK139.out 2
    go_wp2_with (first | (go_at_call 52; (with_reducible refine (spec_l2Row.calls k _ _ l0_0 (l0_0.length : Int) 20 true _ ?side1 ?side2 A6.out).mono ?_); (case side1 => repeat (first | exact (cb_ HR0_0.out HB.out) | (with_reducible refine ca_ ?_ _) | (with_reducible refine cn_ ?_ _) | (with_reducible refine cd_ ?_))); (case side2 => exact HC0_0.out); rintro e w' ⟨rfl, ⟨nd, rfl⟩⟩; (try first | exact ⟨rfl, _, World.drewN_drewN _ _ _⟩ | exact ⟨rfl, _, Eq.trans (World.drewN_drewN _ _ _) (congrArg (World.drewN _) (Nat.add_assoc _ _ _))⟩)) | (go_at_call 44; (with_reducible refine (spec_l1In.calls (l0_1.length : Int) 1 3 t141 _ A8.out).mono ?_); rintro e w' ⟨rfl, ⟨nd, rfl⟩⟩; (try first | exact ⟨rfl, _, World.drewN_drewN _ _ _⟩ | exact ⟨rfl, _, Eq.trans (World.drewN_drewN _ _ _) (congrArg (World.drewN _) (Nat.add_assoc _ _ _))⟩)))
    repeat (go_quiet (first | (go_at_call 52; (with_reducible refine (spec_l2Row.calls k _ _ l0_0 (l0_0.length : Int) 20 true _ ?side1 ?side2 A6.out).mono ?_); (case side1 => repeat (first | exact (cb_ HR0_0.out HB.out) | (with_reducible refine ca_ ?_ _) | (with_reducible refine cn_ ?_ _) | (with_reducible refine cd_ ?_))); (case side2 => exact HC0_0.out); rintro e w' ⟨rfl, ⟨nd, rfl⟩⟩; (try first | exact ⟨rfl, _, World.drewN_drewN _ _ _⟩ | exact ⟨rfl, _, Eq.trans (World.drewN_drewN _ _ _) (congrArg (World.drewN _) (Nat.add_assoc _ _ _))⟩)) | (go_at_call 44; (with_reducible refine (spec_l1In.calls (l0_1.length : Int) 1 3 t141 _ A8.out).mono ?_); rintro e w' ⟨rfl, ⟨nd, rfl⟩⟩; (try first | exact ⟨rfl, _, World.drewN_drewN _ _ _⟩ | exact ⟨rfl, _, Eq.trans (World.drewN_drewN _ _ _) (congrArg (World.drewN _) (Nat.add_assoc _ _ _))⟩))); try go_wp2_with (first | (go_at_call 52; (with_reducible refine (spec_l2Row.calls k _ _ l0_0 (l0_0.length : Int) 20 true _ ?side1 ?side2 A6.out).mono ?_); (case side1 => repeat (first | exact (cb_ HR0_0.out HB.out) | (with_reducible refine ca_ ?_ _) | (with_reducible refine cn_ ?_ _) | (with_reducible refine cd_ ?_))); (case side2 => exact HC0_0.out); rintro e w' ⟨rfl, ⟨nd, rfl⟩⟩; (try first | exact ⟨rfl, _, World.drewN_drewN _ _ _⟩ | exact ⟨rfl, _, Eq.trans (World.drewN_drewN _ _ _) (congrArg (World.drewN _) (Nat.add_assoc _ _ _))⟩)) | (go_at_call 44; (with_reducible refine (spec_l1In.calls (l0_1.length : Int) 1 3 t141 _ A8.out).mono ?_); rintro e w' ⟨rfl, ⟨nd, rfl⟩⟩; (try first | exact ⟨rfl, _, World.drewN_drewN _ _ _⟩ | exact ⟨rfl, _, Eq.trans (World.drewN_drewN _ _ _) (congrArg (World.drewN _) (Nat.add_assoc _ _ _))⟩))))
    go_meet
    case rel => exact ⟨_, (!t141), (by first | rfl | (simp; done) | (simp [*]; done)), H', ⟨by first | omega | exact Nat.le_refl _⟩, ⟨by (with_reducible repeat (first | refine kn_ ?_ _ | refine kd_ ?_ | refine ka_ ?_ _)); exact BK139.out⟩, ⟨by repeat (first | (with_reducible first | exact HB.out | apply ba_ | apply pw_below_drewN | apply bd_ | refine bs_ ?_ GE139.out) | exact HB.out)⟩⟩
   ·
    replace c7 := Bool.eq_false_iff.mpr c7
    subst c7
    have H1 : (spec_l7Good.j0 k true l0_0 l0_1 l0_2) = some r := by rw [if_neg (show ¬ (false = true) by decide)] at H; exact H
    clear H
    have H := H1
    clear H1
    have H' := am_ H
    clear H
    have hcz10_0 : w3.cell? ⟨gb139, 0, none⟩ = some (.slice A0_0 l0_0.length c0_0) := (kc_ BK139.out 0).trans rfl
    have hcz10_1 : w3.cell? ⟨gb139, 1, none⟩ = some (.slice A0_1 l0_1.length c0_1) := (kc_ BK139.out 1).trans rfl
    have hcz10_2 : w3.cell? ⟨gb139, 2, none⟩ = some (.slice A0_2 l0_2.length c0_2) := (kc_ BK139.out 2).trans rfl
    have hfz10_0 := kf_ BK139.out 0
    have hfz10_1 := kf_ BK139.out 1
    have hfz10_2 := kf_ BK139.out 2
    go_wp2_with (first | (go_at_call 52; (with_reducible refine (spec_l2Row.calls k _ _ l0_0 (l0_0.length : Int) 20 false _ ?side1 ?side2 A6.out).mono ?_); (case side1 => repeat (first | exact (cb_ HR0_0.out HB.out) | (with_reducible refine ca_ ?_ _) | (with_reducible refine cn_ ?_ _) | (with_reducible refine cd_ ?_))); (case side2 => exact HC0_0.out); rintro e w' ⟨rfl, ⟨nd, rfl⟩⟩; (try first | exact ⟨rfl, _, World.drewN_drewN _ _ _⟩ | exact ⟨rfl, _, Eq.trans (World.drewN_drewN _ _ _) (congrArg (World.drewN _) (Nat.add_assoc _ _ _))⟩)))
    repeat (go_quiet (first | (go_at_call 52; (with_reducible refine (spec_l2Row.calls k _ _ l0_0 (l0_0.length : Int) 20 false _ ?side1 ?side2 A6.out).mono ?_); (case side1 => repeat (first | exact (cb_ HR0_0.out HB.out) | (with_reducible refine ca_ ?_ _) | (with_reducible refine cn_ ?_ _) | (with_reducible refine cd_ ?_))); (case side2 => exact HC0_0.out); rintro e w' ⟨rfl, ⟨nd, rfl⟩⟩; (try first | exact ⟨rfl, _, World.drewN_drewN _ _ _⟩ | exact ⟨rfl, _, Eq.trans (World.drewN_drewN _ _ _) (congrArg (World.drewN _) (Nat.add_assoc _ _ _))⟩))); try go_wp2_with (first | (go_at_call 52; (with_reducible refine (spec_l2Row.calls k _ _ l0_0 (l0_0.length : Int) 20 false _ ?side1 ?side2 A6.out).mono ?_); (case side1 => repeat (first | exact (cb_ HR0_0.out HB.out) | (with_reducible refine ca_ ?_ _) | (with_reducible refine cn_ ?_ _) | (with_reducible refine cd_ ?_))); (case side2 => exact HC0_0.out); rintro e w' ⟨rfl, ⟨nd, rfl⟩⟩; (try first | exact ⟨rfl, _, World.drewN_drewN _ _ _⟩ | exact ⟨rfl, _, Eq.trans (World.drewN_drewN _ _ _) (congrArg (World.drewN _) (Nat.add_assoc _ _ _))⟩))))
    go_meet
    case rel => exact ⟨_, (true), (by first | rfl | (simp; done) | (simp [*]; done)), H', ⟨by first | omega | exact Nat.le_refl _⟩, ⟨by (with_reducible repeat (first | refine kn_ ?_ _ | refine kd_ ?_ | refine ka_ ?_ _)); exact BK139.out⟩, ⟨by repeat (first | (with_reducible first | exact HB.out | apply ba_ | apply pw_below_drewN | apply bd_ | refine bs_ ?_ GE139.out) | exact HB.out)⟩⟩
 case rest =>
  clear HC2
  try clear p2
  try clear c3
  try clear c4
  try clear c4b0
  try clear c4b1
  try clear c7
  try clear hcz10_0
  try clear hcz10_1
  try clear hcz10_2
  try clear hcz5_0
  try clear hcz5_1
  try clear hcz5_2
  try clear hcz9_0
  try clear hcz9_1
  try clear hcz9_2
  try clear hfz10_0
  try clear hfz10_1
  try clear hfz10_2
  try clear hfz5_0
  try clear hfz5_1
  try clear hfz5_2
  try clear hfz9_0
  try clear hfz9_1
  try clear hfz9_2
  obtain ⟨kq, x23_1, rfl, HA, HJ1, BK139, HB⟩ := hcut
  cases kq with
  | zero => exact absurd HA.out (by simp [spec_l7Good.j0])
  | succ kj1 =>
   have H := HA.out
   clear HA
   simp only [spec_l7Good.j0] at H
   by_cases c11 : x23_1 = true
   ·
    subst c11
    have H1 : (some false) = some r := by rw [if_pos rfl] at H; exact H
    clear H
    have H := H1
    clear H1
    obtain rfl := Option.some.inj H
    go_wp2
    repeat (go_quiet (fail); try go_wp2)
    go_ret
    exact ⟨by first | rfl | (simp [errW_none, errW_some] <;> rfl) | (simp [*, errW_none, errW_some] <;> rfl), by repeat (first | (with_reducible first | exact HB.out | apply ba_ | apply pw_below_drewN | apply bd_ | refine bs_ ?_ GE139.out) | exact HB.out)⟩
   ·
    replace c11 := Bool.eq_false_iff.mpr c11
    subst c11
    have H1 : ((spec_l2Row.f kj1 l0_1 (l0_1.length : Int) 99).bind fun t142 => (if t142 = true then ((spec_l2Row.f kj1 l0_2 (l0_1.length : Int) 9).bind fun t143 => (spec_l7Good.j1 kj1 (!t143) l0_0 l0_1 l0_2)) else (spec_l7Good.j1 kj1 true l0_0 l0_1 l0_2))) = some r := by rw [if_neg (show ¬ (false = true) by decide)] at H; exact H
    clear H
    have H := H1
    clear H1
    have HC12 := am_ H
    clear H
    go_upto_region 3 with (fail)
    repeat (go_quiet (fail); go_upto_region 3 with (fail))
    go_cut [39] (fun v39 wc => ∃ (kq : Nat) (x39_11 : Bool), v39 = .bool x39_11 ∧ Aside0 (spec_l7Good.j1 kq x39_11 l0_0 l0_1 l0_2 = some r) ∧ Aside0 (kq ≤ kj1) ∧ Aside0 (wc.heap[gb139]? = some (.cells #[(.slice A0_0 l0_0.length c0_0), (.slice A0_1 l0_1.length c0_1), (.slice A0_2 l0_2.length c0_2)] 30 (0, 0))) ∧ Aside0 (Below w.heap.size w wc))
    case first =>
     have H := HC12.out
     clear HC12
     replace H := Option.bind_eq_some_iff.mp H
     obtain ⟨t142, A130, H⟩ := H
     replace H : (if t142 = true then ((spec_l2Row.f kj1 l0_2 (l0_1.length : Int) 9).bind fun t143 => (spec_l7Good.j1 kj1 (!t143) l0_0 l0_1 l0_2)) else (spec_l7Good.j1 kj1 true l0_0 l0_1 l0_2)) = some r := H
     have A13 := am_ A130
     clear A130
     by_cases c14 : t142 = true
     ·
      subst c14
      have H1 : ((spec_l2Row.f kj1 l0_2 (l0_1.length : Int) 9).bind fun t143 => (spec_l7Good.j1 kj1 (!t143) l0_0 l0_1 l0_2)) = some r := by rw [if_pos rfl] at H; exact H
      clear H
      have H := H1
      clear H1
      replace H := Option.bind_eq_some_iff.mp H
      obtain ⟨t143, A150, H⟩ := H
      replace H : (spec_l7Good.j1 kj1 (!t143) l0_0 l0_1 l0_2) = some r := H
      have A15 := am_ A150
      clear A150
      have H' := am_ H
      clear H
      have hcz16_0 : wc.cell? ⟨gb139, 0, none⟩ = some (.slice A0_0 l0_0.length c0_0) := (kc_ BK139.out 0).trans rfl
      have hcz16_1 : wc.cell? ⟨gb139, 1, none⟩ = some (.slice A0_1 l0_1.length c0_1) := (kc_ BK139.out 1).trans rfl
      have hcz16_2 : wc.cell? ⟨gb139, 2, none⟩ = some (.slice A0_2 l0_2.length c0_2) := (kc_ BK139.out 2).trans rfl
      have hfz16_0 := kf_ BK139.out 0
      have hfz16_1 := kf_ BK139.out 1
      have hfz16_2 := kf_ BK139.out 2
      go_wp2_with (first | (go_at_call 52; (with_reducible refine (spec_l2Row.calls kj1 _ _ l0_1 (l0_1.length : Int) 99 true _ ?side1 ?side2 A13.out).mono ?_); (case side1 => repeat (first | exact (cb_ HR0_1.out HB.out) | (with_reducible refine ca_ ?_ _) | (with_reducible refine cn_ ?_ _) | (with_reducible refine cd_ ?_))); (case side2 => exact HC0_1.out); rintro e w' ⟨rfl, ⟨nd, rfl⟩⟩; (try first | exact ⟨rfl, _, World.drewN_drewN _ _ _⟩ | exact ⟨rfl, _, Eq.trans (World.drewN_drewN _ _ _) (congrArg (World.drewN _) (Nat.add_assoc _ _ _))⟩)) | (go_at_call 52; (with_reducible refine (spec_l2Row.calls kj1 _ _ l0_2 (l0_1.length : Int) 9 t143 _ ?side1 ?side2 A15.out).mono ?_); (case side1 => repeat (first | exact (cb_ HR0_2.out (by repeat (first | (with_reducible first | exact HB.out | apply ba_ | apply pw_below_drewN | apply bd_ | refine bs_ ?_ GE139.out) | exact HB.out))) | (with_reducible refine ca_ ?_ _) | (with_reducible refine cn_ ?_ _) | (with_reducible refine cd_ ?_))); (case side2 => exact HC0_2.out); rintro e w' ⟨rfl, ⟨nd, rfl⟩⟩; (try first | exact ⟨rfl, _, World.drewN_drewN _ _ _⟩ | exact ⟨rfl, _, Eq.trans (World.drewN_drewN _ _ _) (congrArg (World.drewN _) (Nat.add_assoc _ _ _))⟩)))
      repeat (go_quiet (first | (go_at_call 52; (with_reducible refine (spec_l2Row.calls kj1 _ _ l0_1 (l0_1.length : Int) 99 true _ ?side1 ?side2 A13.out).mono ?_); (case side1 => repeat (first | exact (cb_ HR0_1.out HB.out) | (with_reducible refine ca_ ?_ _) | (with_reducible refine cn_ ?_ _) | (with_reducible refine cd_ ?_))); (case side2 => exact HC0_1.out); rintro e w' ⟨rfl, ⟨nd, rfl⟩⟩; (try first | exact ⟨rfl, _, World.drewN_drewN _ _ _⟩ | exact ⟨rfl, _, Eq.trans (World.drewN_drewN _ _ _) (congrArg (World.drewN _) (Nat.add_assoc _ _ _))⟩)) | (go_at_call 52; (with_reducible refine (spec_l2Row.calls kj1 _ _ l0_2 (l0_1.length : Int) 9 t143 _ ?side1 ?side2 A15.out).mono ?_); (case side1 => repeat (first | exact (cb_ HR0_2.out (by repeat (first | (with_reducible first | exact HB.out | apply ba_ | apply pw_below_drewN | apply bd_ | refine bs_ ?_ GE139.out) | exact HB.out))) | (with_reducible refine ca_ ?_ _) | (with_reducible refine cn_ ?_ _) | (with_reducible refine cd_ ?_))); (case side2 => exact HC0_2.out); rintro e w' ⟨rfl, ⟨nd, rfl⟩⟩; (try first | exact ⟨rfl, _, World.drewN_drewN _ _ _⟩ | exact ⟨rfl, _, Eq.trans (World.drewN_drewN _ _ _) (congrArg (World.drewN _) (Nat.add_assoc _ _ _))⟩))); try go_wp2_with (first | (go_at_call 52; (with_reducible refine (spec_l2Row.calls kj1 _ _ l0_1 (l0_1.length : Int) 99 true _ ?side1 ?side2 A13.out).mono ?_); (case side1 => repeat (first | exact (cb_ HR0_1.out HB.out) | (with_reducible refine ca_ ?_ _) | (with_reducible refine cn_ ?_ _) | (with_reducible refine cd_ ?_))); (case side2 => exact HC0_1.out); rintro e w' ⟨rfl, ⟨nd, rfl⟩⟩; (try first | exact ⟨rfl, _, World.drewN_drewN _ _ _⟩ | exact ⟨rfl, _, Eq.trans (World.drewN_drewN _ _ _) (congrArg (World.drewN _) (Nat.add_assoc _ _ _))⟩)) | (go_at_call 52; (with_reducible refine (spec_l2Row.calls kj1 _ _ l0_2 (l0_1.length : Int) 9 t143 _ ?side1 ?side2 A15.out).mono ?_); (case side1 => repeat (first | exact (cb_ HR0_2.out (by repeat (first | (with_reducible first | exact HB.out | apply ba_ | apply pw_below_drewN | apply bd_ | refine bs_ ?_ GE139.out) | exact HB.out))) | (with_reducible refine ca_ ?_ _) | (with_reducible refine cn_ ?_ _) | (with_reducible refine cd_ ?_))); (case side2 => exact HC0_2.out); rintro e w' ⟨rfl, ⟨nd, rfl⟩⟩; (try first | exact ⟨rfl, _, World.drewN_drewN _ _ _⟩ | exact ⟨rfl, _, Eq.trans (World.drewN_drewN _ _ _) (congrArg (World.drewN _) (Nat.add_assoc _ _ _))⟩))))
      go_meet
      case rel => exact ⟨_, (!t143), (by first | rfl | (simp; done) | (simp [*]; done)), H', ⟨by have := HJ1.out; first | omega | exact Nat.le_refl _⟩, ⟨by (with_reducible repeat (first | refine kn_ ?_ _ | refine kd_ ?_ | refine ka_ ?_ _)); exact BK139.out⟩, ⟨by repeat (first | (with_reducible first | exact HB.out | apply ba_ | apply pw_below_drewN | apply bd_ | refine bs_ ?_ GE139.out) | exact HB.out)⟩⟩
     ·
      replace c14 := Bool.eq_false_iff.mpr c14
      subst c14
      have H1 : (spec_l7Good.j1 kj1 true l0_0 l0_1 l0_2) = some r := by rw [if_neg (show ¬ (false = true) by decide)] at H; exact H
      clear H
      have H := H1
      clear H1
      have H' := am_ H
      clear H
      have hcz17_0 : wc.cell? ⟨gb139, 0, none⟩ = some (.slice A0_0 l0_0.length c0_0) := (kc_ BK139.out 0).trans rfl
      have hcz17_1 : wc.cell? ⟨gb139, 1, none⟩ = some (.slice A0_1 l0_1.length c0_1) := (kc_ BK139.out 1).trans rfl
      have hcz17_2 : wc.cell? ⟨gb139, 2, none⟩ = some (.slice A0_2 l0_2.length c0_2) := (kc_ BK139.out 2).trans rfl
      have hfz17_0 := kf_ BK139.out 0
      have hfz17_1 := kf_ BK139.out 1
      have hfz17_2 := kf_ BK139.out 2
      go_wp2_with (first | (go_at_call 52; (with_reducible refine (spec_l2Row.calls kj1 _ _ l0_1 (l0_1.length : Int) 99 false _ ?side1 ?side2 A13.out).mono ?_); (case side1 => repeat (first | exact (cb_ HR0_1.out HB.out) | (with_reducible refine ca_ ?_ _) | (with_reducible refine cn_ ?_ _) | (with_reducible refine cd_ ?_))); (case side2 => exact HC0_1.out); rintro e w' ⟨rfl, ⟨nd, rfl⟩⟩; (try first | exact ⟨rfl, _, World.drewN_drewN _ _ _⟩ | exact ⟨rfl, _, Eq.trans (World.drewN_drewN _ _ _) (congrArg (World.drewN _) (Nat.add_assoc _ _ _))⟩)))
      repeat (go_quiet (first | (go_at_call 52; (with_reducible refine (spec_l2Row.calls kj1 _ _ l0_1 (l0_1.length : Int) 99 false _ ?side1 ?side2 A13.out).mono ?_); (case side1 => repeat (first | exact (cb_ HR0_1.out HB.out) | (with_reducible refine ca_ ?_ _) | (with_reducible refine cn_ ?_ _) | (with_reducible refine cd_ ?_))); (case side2 => exact HC0_1.out); rintro e w' ⟨rfl, ⟨nd, rfl⟩⟩; (try first | exact ⟨rfl, _, World.drewN_drewN _ _ _⟩ | exact ⟨rfl, _, Eq.trans (World.drewN_drewN _ _ _) (congrArg (World.drewN _) (Nat.add_assoc _ _ _))⟩))); try go_wp2_with (first | (go_at_call 52; (with_reducible refine (spec_l2Row.calls kj1 _ _ l0_1 (l0_1.length : Int) 99 false _ ?side1 ?side2 A13.out).mono ?_); (case side1 => repeat (first | exact (cb_ HR0_1.out HB.out) | (with_reducible refine ca_ ?_ _) | (with_reducible refine cn_ ?_ _) | (with_reducible refine cd_ ?_))); (case side2 => exact HC0_1.out); rintro e w' ⟨rfl, ⟨nd, rfl⟩⟩; (try first | exact ⟨rfl, _, World.drewN_drewN _ _ _⟩ | exact ⟨rfl, _, Eq.trans (World.drewN_drewN _ _ _) (congrArg (World.drewN _) (Nat.add_assoc _ _ _))⟩))))
      go_meet
      case rel => exact ⟨_, (true), (by first | rfl | (simp; done) | (simp [*]; done)), H', ⟨by have := HJ1.out; first | omega | exact Nat.le_refl _⟩, ⟨by (with_reducible repeat (first | refine kn_ ?_ _ | refine kd_ ?_ | refine ka_ ?_ _)); exact BK139.out⟩, ⟨by repeat (first | (with_reducible first | exact HB.out | apply ba_ | apply pw_below_drewN | apply bd_ | refine bs_ ?_ GE139.out) | exact HB.out)⟩⟩
    case rest =>
     clear HC12
     try clear c1
     try clear p2
     try clear c3
     try clear c4
     try clear c4b0
     try clear c4b1
     try clear c7
     try clear c11
     try clear c14
     try clear hcz10_0
     try clear hcz10_1
     try clear hcz10_2
     try clear hcz16_0
     try clear hcz16_1
     try clear hcz16_2
     try clear hcz17_0
     try clear hcz17_1
     try clear hcz17_2
     try clear hcz5_0
     try clear hcz5_1
     try clear hcz5_2
     try clear hcz9_0
     try clear hcz9_1
     try clear hcz9_2
     try clear hfz10_0
     try clear hfz10_1
     try clear hfz10_2
     try clear hfz16_0
     try clear hfz16_1
     try clear hfz16_2
     try clear hfz17_0
     try clear hfz17_1
     try clear hfz17_2
     try clear hfz5_0
     try clear hfz5_1
     try clear hfz5_2
     try clear hfz9_0
     try clear hfz9_1
     try clear hfz9_2
     try clear p2
     obtain ⟨kq, x39_11, rfl, HA, HJ11, BK139, HB⟩ := hcut
     cases kq with
     | zero => exact absurd HA.out (by simp [spec_l7Good.j1])
     | succ kj11 =>
      have H := HA.out
      clear HA
      simp only [spec_l7Good.j1] at H
      by_cases c18 : x39_11 = true
      ·
       subst c18
       have H1 : (some false) = some r := by rw [if_pos rfl] at H; exact H
       clear H
       have H := H1
       clear H1
       obtain rfl := Option.some.inj H
       go_wp2
       repeat (go_quiet (fail); try go_wp2)
       go_ret
       exact ⟨by first | rfl | (simp [errW_none, errW_some] <;> rfl) | (simp [*, errW_none, errW_some] <;> rfl), by repeat (first | (with_reducible first | exact HB.out | apply ba_ | apply pw_below_drewN | apply bd_ | refine bs_ ?_ GE139.out) | exact HB.out)⟩
      ·
       replace c18 := Bool.eq_false_iff.mpr c18
       subst c18
       have H1 : (spec_l7Good.l0 kj11 1 l0_0 l0_1 l0_2) = some r := by rw [if_neg (show ¬ (false = true) by decide)] at H; exact H
       clear H
       have H := H1
       clear H1
       have H' := am_ H
       clear H
       go_wp2
       repeat (go_quiet (fail); try go_wp2)
       go_loopg [3] kj11 (fun kq v3 w' => ∃ (x3_3 : Int), v3 = .int .i64 x3_3 ∧ Aside0 (spec_l7Good.l0 kq x3_3 l0_0 l0_1 l0_2 = some r) ∧ Aside0 (kq ≤ kj11) ∧ Aside0 (w'.heap[gb139]? = some (.cells #[(.slice A0_0 l0_0.length c0_0), (.slice A0_1 l0_1.length c0_1), (.slice A0_2 l0_2.length c0_2)] 30 (0, 0))) ∧ Aside0 (Below w.heap.size w w'))
       case atStart => exact ⟨(1), (by first | rfl | (simp; done) | (simp [*]; done)), H', ⟨Nat.le_refl _⟩, ⟨by (with_reducible repeat (first | refine kn_ ?_ _ | refine kd_ ?_ | refine ka_ ?_ _)); exact BK139.out⟩, ⟨by repeat (first | (with_reducible first | exact HB.out | apply ba_ | apply pw_below_drewN | apply bd_ | refine bs_ ?_ GE139.out) | exact HB.out)⟩⟩
       case round =>
        clear H'
        try clear c1
        try clear p2
        try clear c3
        try clear c4
        try clear c4b0
        try clear c4b1
        try clear c7
        try clear c11
        try clear c14
        try clear c18
        try clear hcz10_0
        try clear hcz10_1
        try clear hcz10_2
        try clear hcz16_0
        try clear hcz16_1
        try clear hcz16_2
        try clear hcz17_0
        try clear hcz17_1
        try clear hcz17_2
        try clear hcz5_0
        try clear hcz5_1
        try clear hcz5_2
        try clear hcz9_0
        try clear hcz9_1
        try clear hcz9_2
        try clear hfz10_0
        try clear hfz10_1
        try clear hfz10_2
        try clear hfz16_0
        try clear hfz16_1
        try clear hfz16_2
        try clear hfz17_0
        try clear hfz17_1
        try clear hfz17_2
        try clear hfz5_0
        try clear hfz5_1
        try clear hfz5_2
        try clear hfz9_0
        try clear hfz9_1
        try clear hfz9_2
        try clear p2
        obtain ⟨x3_3, rfl, HA, HK3, BK139, HB⟩ := hrel
        cases gk with
        | zero => exact absurd HA.out (by simp [spec_l7Good.l0])
        | succ k3 =>
         have H := HA.out
         clear HA
         simp only [spec_l7Good.l0] at H
         by_cases c19 : x3_3 < (l0_2.length : Int)
         ·
          rw [if_pos c19] at H
          have c19b0 : decide (x3_3 < (l0_2.length : Int)) = true := decide_eq_true c19
          clear c19
          by_cases c20 : 0 ≤ x3_3
          ·
           rw [if_pos c20] at H
           have c20b0 : decide (0 ≤ x3_3) = true := decide_eq_true c20
           clear c20
           obtain ⟨ji21, hji21⟩ : ∃ j_ : Int, (wrap64 (x3_3 - 1)) = j_ := ⟨_, rfl⟩
           replace H : (if 0 ≤ (ji21) then (if (ji21) < (l0_2.length : Int) then (if (rd l0_2 x3_3) < (rd l0_2 (ji21)) then (some false) else (spec_l7Good.l0 k3 (wrap64 (x3_3 + 1)) l0_0 l0_1 l0_2)) else (none)) else (none)) = some r := by first | (rw [hji21] at H; exact H) | (simp only [hji21] at H ⊢; exact H)
           have hji21w : (IntKind.i64.wrap (x3_3 - 1)) = ji21 := (i64_w _).trans hji21
           by_cases c22 : 0 ≤ (ji21)
           ·
            rw [if_pos c22] at H
            have c22b0 : decide (0 ≤ (ji21)) = true := decide_eq_true c22
            clear c22
            by_cases c23 : (ji21) < (l0_2.length : Int)
            ·
             rw [if_pos c23] at H
             have c23b0 : decide ((ji21) < (l0_2.length : Int)) = true := decide_eq_true c23
             clear c23
             by_cases c24 : (rd l0_2 x3_3) < (rd l0_2 (ji21))
             ·
              rw [if_pos c24] at H
              have c24b0 : decide ((rd l0_2 x3_3) < (rd l0_2 (ji21))) = true := decide_eq_true c24
              clear c24
              obtain rfl := Option.some.inj H
              have hcz25_0 : wr.cell? ⟨gb139, 0, none⟩ = some (.slice A0_0 l0_0.length c0_0) := (kc_ BK139.out 0).trans rfl
              have hcz25_1 : wr.cell? ⟨gb139, 1, none⟩ = some (.slice A0_1 l0_1.length c0_1) := (kc_ BK139.out 1).trans rfl
              have hcz25_2 : wr.cell? ⟨gb139, 2, none⟩ = some (.slice A0_2 l0_2.length c0_2) := (kc_ BK139.out 2).trans rfl
              have hfz25_0 := kf_ BK139.out 0
              have hfz25_1 := kf_ BK139.out 1
              have hfz25_2 := kf_ BK139.out 2
              have p144 : 0 ≤ (x3_3 : Int) := of_decide_eq_true (by first | (with_reducible assumption) | assumption)
              have q144 : x3_3 < (l0_2.length : Int) := of_decide_eq_true (by first | (with_reducible assumption) | assumption)
              obtain ⟨ad144, e144, hx144_0⟩ := Kd.at_int HR0_2.out x3_3 p144 q144
              cases e144
              replace hx144_0 := (HB.out.cell (World.block_lt_of_cell? w _ hx144_0)).trans hx144_0
              replace p144 := eq_true p144
              replace q144 := eq_true q144
              have p145 : 0 ≤ ((ji21) : Int) := of_decide_eq_true (by first | (with_reducible assumption) | assumption)
              have q145 : (ji21) < (l0_2.length : Int) := of_decide_eq_true (by first | (with_reducible assumption) | assumption)
              obtain ⟨ad145, e145, hx145_0⟩ := Kd.at_int HR0_2.out (ji21) p145 q145
              obtain rfl : ad144 = ad145 := (by injection e145)
              replace hx145_0 := (HB.out.cell (World.block_lt_of_cell? w _ hx145_0)).trans hx145_0
              replace p145 := eq_true p145
              replace q145 := eq_true q145
              go_wp2
              repeat (go_quiet (fail); try go_wp2)
              go_ret
              exact ⟨by first | rfl | (simp [errW_none, errW_some] <;> rfl) | (simp only [← hji21]; first | rfl | (simp [errW_none, errW_some] <;> rfl)) | (simp [*, errW_none, errW_some] <;> rfl), by repeat (first | (with_reducible first | exact HB.out | apply ba_ | apply pw_below_drewN | apply bd_ | refine bs_ ?_ GE139.out) | exact HB.out)⟩
             ·
              rw [if_neg c24] at H
              have c24b0 : decide ((rd l0_2 x3_3) < (rd l0_2 (ji21))) = false := decide_eq_false c24
              clear c24
              have H' := am_ H
              clear H
              have hcz26_0 : wr.cell? ⟨gb139, 0, none⟩ = some (.slice A0_0 l0_0.length c0_0) := (kc_ BK139.out 0).trans rfl
              have hcz26_1 : wr.cell? ⟨gb139, 1, none⟩ = some (.slice A0_1 l0_1.length c0_1) := (kc_ BK139.out 1).trans rfl
              have hcz26_2 : wr.cell? ⟨gb139, 2, none⟩ = some (.slice A0_2 l0_2.length c0_2) := (kc_ BK139.out 2).trans rfl
              have hfz26_0 := kf_ BK139.out 0
              have hfz26_1 := kf_ BK139.out 1
              have hfz26_2 := kf_ BK139.out 2
              have p144 : 0 ≤ (x3_3 : Int) := of_decide_eq_true (by first | (with_reducible assumption) | assumption)
              have q144 : x3_3 < (l0_2.length : Int) := of_decide_eq_true (by first | (with_reducible assumption) | assumption)
              obtain ⟨ad144, e144, hx144_0⟩ := Kd.at_int HR0_2.out x3_3 p144 q144
              cases e144
              replace hx144_0 := (HB.out.cell (World.block_lt_of_cell? w _ hx144_0)).trans hx144_0
              replace p144 := eq_true p144
              replace q144 := eq_true q144
              have p145 : 0 ≤ ((ji21) : Int) := of_decide_eq_true (by first | (with_reducible assumption) | assumption)
              have q145 : (ji21) < (l0_2.length : Int) := of_decide_eq_true (by first | (with_reducible assumption) | assumption)
              obtain ⟨ad145, e145, hx145_0⟩ := Kd.at_int HR0_2.out (ji21) p145 q145
              obtain rfl : ad144 = ad145 := (by injection e145)
              replace hx145_0 := (HB.out.cell (World.block_lt_of_cell? w _ hx145_0)).trans hx145_0
              replace p145 := eq_true p145
              replace q145 := eq_true q145
              go_wp2
              repeat (go_quiet (fail); try go_wp2)
              (try subst hji21)
              go_roundg k3
              case measure => have := HJ1.out; have := HJ11.out; have := HK3.out; omega
              case rel => exact ⟨(wrap64 (x3_3 + 1)), (by first | rfl | (simp; done) | (simp [*]; done)), H', ⟨by have := HJ1.out; have := HJ11.out; have := HK3.out; omega⟩, ⟨by (with_reducible repeat (first | refine kn_ ?_ _ | refine kd_ ?_ | refine ka_ ?_ _)); exact BK139.out⟩, ⟨by repeat (first | (with_reducible first | exact HB.out | apply ba_ | apply pw_below_drewN | apply bd_ | refine bs_ ?_ GE139.out) | exact HB.out)⟩⟩
            ·
             rw [if_neg c23] at H
             exact absurd H (by simp)
           ·
            rw [if_neg c22] at H
            exact absurd H (by simp)
          ·
           rw [if_neg c20] at H
           exact absurd H (by simp)
         ·
          rw [if_neg c19] at H
          have c19b0 : decide (x3_3 < (l0_2.length : Int)) = false := decide_eq_false c19
          clear c19
          obtain rfl := Option.some.inj H
          have hcz27_0 : wr.cell? ⟨gb139, 0, none⟩ = some (.slice A0_0 l0_0.length c0_0) := (kc_ BK139.out 0).trans rfl
          have hcz27_1 : wr.cell? ⟨gb139, 1, none⟩ = some (.slice A0_1 l0_1.length c0_1) := (kc_ BK139.out 1).trans rfl
          have hcz27_2 : wr.cell? ⟨gb139, 2, none⟩ = some (.slice A0_2 l0_2.length c0_2) := (kc_ BK139.out 2).trans rfl
          have hfz27_0 := kf_ BK139.out 0
          have hfz27_1 := kf_ BK139.out 1
          have hfz27_2 := kf_ BK139.out 2
          go_wp2
          repeat (go_quiet (fail); try go_wp2)
          go_ret
          exact ⟨by first | rfl | (simp [errW_none, errW_some] <;> rfl) | (simp [*, errW_none, errW_some] <;> rfl), by repeat (first | (with_reducible first | exact HB.out | apply ba_ | apply pw_below_drewN | apply bd_ | refine bs_ ?_ GE139.out) | exact HB.out)⟩

/-! ### spec_l7Case: function 45 -/
def spec_l7Case.l0 : Nat → List Int → Int → Int → Int → List Int → List Int → List Int → List Int → Option (List Int × List Int × List Int × List Int)
 | 0, _, _, _, _, _, _, _, _ => none
 | k + 1, x0, x1, x2, x8, x148000, x148001, x148002, x148003 => if x8 < (x0.length : Int) then (if 0 ≤ x8 then (if x148000.length < 17592186044416 then (if x148001.length < 17592186044416 then (if x148002.length < 17592186044416 then (if x148003.length < 17592186044416 then (spec_l7Case.l0 k x0 x1 x2 (wrap64 (x8 + 1)) (x148000 ++ [rd x0 x8]) (x148001 ++ [x1]) (x148002 ++ [0]) (x148003 ++ [x2])) else (none)) else (none)) else (none)) else (none)) else (none)) else (some (x148000, x148001, x148002, x148003))
def spec_l7Case.f (k : Nat) (l0 : List Int) (a1 : Int) (a2 : Int) : Option (List Int × List Int × List Int × List Int) := spec_l7Case.l0 k l0 a1 a2 0 ([] : List Int) ([] : List Int) ([] : List Int) ([] : List Int)
theorem spec_l7Case.mono_l : ∀ k, (∀ y0 y1 y2 y3 y4 y5 y6 y7, LeO (spec_l7Case.l0 k y0 y1 y2 y3 y4 y5 y6 y7) (spec_l7Case.l0 (k + 1) y0 y1 y2 y3 y4 y5 y6 y7))
 | 0 => fun _ _ _ _ _ _ _ _ r h => by simp [spec_l7Case.l0] at h
 | k + 1 => by
  have ih0 := spec_l7Case.mono_l k
  ·
   intro y0 y1 y2 y3 y4 y5 y6 y7
   unfold spec_l7Case.l0
   repeat' first
   | (with_reducible exact ih0 _ _ _ _ _ _ _ _)
   | (with_reducible exact LeO.refl _)
   | (with_reducible exact LeO.none _)
   | (with_reducible refine LeO.ite ?_ ?_)
   | (with_reducible refine LeO.bind ?_ (fun _ => ?_))
   | exact ih0 _ _ _ _ _ _ _ _
   | exact LeO.none _
   | refine LeO.ite ?_ ?_
   | refine LeO.bind ?_ (fun _ => ?_)
theorem spec_l7Case.mono : ∀ a0 a1 a2 k, LeO (spec_l7Case.f k a0 a1 a2) (spec_l7Case.f (k + 1) a0 a1 a2) := by
 intro a0 a1 a2 k
 have ih0 := spec_l7Case.mono_l k
 unfold spec_l7Case.f
 repeat' first
   | (with_reducible exact ih0 _ _ _ _ _ _ _ _)
   | (with_reducible exact LeO.refl _)
   | (with_reducible exact LeO.none _)
   | (with_reducible refine LeO.ite ?_ ?_)
   | (with_reducible refine LeO.bind ?_ (fun _ => ?_))
   | exact ih0 _ _ _ _ _ _ _ _
   | exact LeO.none _
   | refine LeO.ite ?_ ?_
   | refine LeO.bind ?_ (fun _ => ?_)
def spec_l7Case.T5 : Bool × List (List Nat × List Nat) := (true, [([], []), ([0], [0]), ([], []), ([], []), ([2, 3], [2, 3]), ([4], [4]), ([5], [5]), ([1, 6], [1, 6]), ([0, 1, 2, 3, 4, 5, 6, 7], []), ([8, 7, 7, 0, 1, 2, 3, 4, 5, 6, 7], [7, 8])])
def spec_l7Case.B5 : List Nat := [0, 1, 0, 0, 12, 28, 60, 127, 255, 511]
theorem spec_l7Case.tab5 : rtab .any (opsOf Try.f45 5) = spec_l7Case.T5 := by kernel_rfl
theorem spec_l7Case.bits5 : waitsOk spec_l7Case.T5.2 spec_l7Case.B5 = true := by kernel_rfl
set_option maxHeartbeats 8000000 in
set_option maxRecDepth 100000 in
theorem spec_l7Case.calls (k : Nat) (A0 : Option Addr) (c0 : Nat) (l0 : List Int) (a1 : Int) (a2 : Int) (r1 : List Int) (r2 : List Int) (r3 : List Int) (r4 : List Int) (w : World) (hr0 : Kd.C (Kd.int .i64) w A0 l0.length l0) (hc0 : l0.length ≤ c0) (h : spec_l7Case.f k l0 a1 a2 = some (r1, r2, r3, r4)) :
  Calls Try.prog 45 #[.slice A0 l0.length c0, .int .i64 a1, .int .i64 a2] w fun e w' => ∃ v0_ v1_ v2_ v3_ : Value, e = .returned (.agg #[v0_, v1_, v2_, v3_]) ∧ Kd.R (Kd.int .i64) 3 w' w.heap.size (fun k_ => some k_ ≠ (v1_ : Value).ownBlock ∧ some k_ ≠ (v2_ : Value).ownBlock ∧ some k_ ≠ (v3_ : Value).ownBlock) v0_ r1 ∧ Kd.R (Kd.int .i64) 3 w' w.heap.size (fun k_ => some k_ ≠ (v0_ : Value).ownBlock ∧ some k_ ≠ (v2_ : Value).ownBlock ∧ some k_ ≠ (v3_ : Value).ownBlock) v1_ r2 ∧ Kd.R (Kd.int .i64) 3 w' w.heap.size (fun k_ => some k_ ≠ (v0_ : Value).ownBlock ∧ some k_ ≠ (v1_ : Value).ownBlock ∧ some k_ ≠ (v3_ : Value).ownBlock) v2_ r3 ∧ Kd.R (Kd.int .i64) 3 w' w.heap.size (fun k_ => some k_ ≠ (v0_ : Value).ownBlock ∧ some k_ ≠ (v1_ : Value).ownBlock ∧ some k_ ≠ (v2_ : Value).ownBlock) v3_ r4 ∧ Below w.heap.size w w' := by
 have hu38 := Try.underlying38
 have HR0 := am_ hr0
 have HC0 := am_ hc0
 clear hr0 hc0
 have HB := am_ (Below.refl w.heap.size w)
 have H : (spec_l7Case.l0 k l0 a1 a2 0 ([] : List Int) ([] : List Int) ([] : List Int) ([] : List Int)) = some (r1, r2, r3, r4) := h
 clear h
 have H' := am_ H
 clear H
 go_enter Try.func45, Try.ntmps45
 go_wp2_with (first | ((with_reducible refine gate_dst (N := 6) rfl ?_); refine box_event ?hg (N := 6) ?hd (cs := #[.slice none 0 0, .slice none 0 0, .slice none 0 0, .slice none 0 0]) (t := 38) ?hr ?_; (case hd => rfl); (case hg => rfl); (case hr => first | (go_simp; done) | (go_simp; rfl)); intro gb146 hg w4 hbox hb; have n0_ := am_ (below_step (by repeat (first | (with_reducible first | exact HB.out | apply ba_ | apply pw_below_drewN | apply bd_) | exact HB.out)) hb); have n1_ := am_ (hbox); have n2_ := am_ ((by rw [hg]; exact (bz_ (by repeat (first | (with_reducible first | exact HB.out | apply ba_ | apply pw_below_drewN | apply bd_) | exact HB.out))) : w.heap.size ≤ gb146)); have n3_ := am_ ((by rw [hg]; exact (bz_ (by repeat (first | (with_reducible first | exact HB.out | apply ba_ | apply pw_below_drewN | apply bd_) | exact HB.out))) : w.heap.size ≤ gb146)); clear HB; have HB := n0_; have BK146 := n1_; have GW146 := n2_; have GE146 := n3_; clear n0_ n1_ n2_ n3_; clear hb hbox hg) | ((with_reducible refine gate_dst (N := 7) rfl ?_); refine box_event ?hg (N := 7) ?hd (cs := #[.slice none 0 0, .slice none 0 0, .slice none 0 0, .slice none 0 0]) (t := 38) ?hr ?_; (case hd => rfl); (case hg => rfl); (case hr => first | (go_simp; done) | (go_simp; rfl)); intro gb147 hg w5 hbox hb; have n0_ := am_ (blk_below (g := gb146) (o := .cells #[.slice none 0 0, .slice none 0 0, .slice none 0 0, .slice none 0 0] 38 (0, 0)) (by (with_reducible repeat (first | refine kn_ ?_ _ | refine kd_ ?_ | refine ka_ ?_ _)); exact BK146.out) hb); have n1_ := am_ (below_step (by repeat (first | (with_reducible first | exact HB.out | apply ba_ | apply pw_below_drewN | apply bd_ | refine bs_ ?_ GE146.out) | exact HB.out)) hb); have n2_ := am_ (hbox); have n3_ := am_ ((by rw [hg]; exact (bz_ (by repeat (first | (with_reducible first | exact HB.out | apply ba_ | apply pw_below_drewN | apply bd_ | refine bs_ ?_ GE146.out) | exact HB.out))) : w.heap.size ≤ gb147)); have n4_ := am_ ((by rw [hg]; exact (bz_ (by repeat (first | (with_reducible first | exact HB.out | apply ba_ | apply pw_below_drewN | apply bd_ | refine bs_ ?_ GE146.out) | exact HB.out))) : w.heap.size ≤ gb147)); have n5_ := am_ ((by rw [hg]; exact Nat.ne_of_lt (blk_lt (g := gb146) (o := .cells #[.slice none 0 0, .slice none 0 0, .slice none 0 0, .slice none 0 0] 38 (0, 0)) (by (with_reducible repeat (first | refine kn_ ?_ _ | refine kd_ ?_ | refine ka_ ?_ _)); exact BK146.out)) : gb146 ≠ gb147)); have n6_ := am_ ((by rw [hg]; exact Nat.ne_of_gt (blk_lt (g := gb146) (o := .cells #[.slice none 0 0, .slice none 0 0, .slice none 0 0, .slice none 0 0] 38 (0, 0)) (by (with_reducible repeat (first | refine kn_ ?_ _ | refine kd_ ?_ | refine ka_ ?_ _)); exact BK146.out)) : gb147 ≠ gb146)); clear BK146; clear HB; have BK146 := n0_; have HB := n1_; have BK147 := n2_; have GW147 := n3_; have GE147 := n4_; have NB146_147 := n5_; have NB147_146 := n6_; clear n0_ n1_ n2_ n3_ n4_ n5_ n6_; clear hb hbox hg; have hnb6 := NB147_146.out; have hnc6 := NB146_147.out; have hcz7_0 : w5.cell? ⟨gb147, 0, none⟩ = some (.slice none 0 0) := (kc_ BK147.out 0).trans rfl; have hcz7_1 : w5.cell? ⟨gb147, 1, none⟩ = some (.slice none 0 0) := (kc_ BK147.out 1).trans rfl; have hcz7_2 : w5.cell? ⟨gb147, 2, none⟩ = some (.slice none 0 0) := (kc_ BK147.out 2).trans rfl; have hcz7_3 : w5.cell? ⟨gb147, 3, none⟩ = some (.slice none 0 0) := (kc_ BK147.out 3).trans rfl; have hfz7_0 := kf_ BK147.out 0; have hfz7_1 := kf_ BK147.out 1; have hfz7_2 := kf_ BK147.out 2; have hfz7_3 := kf_ BK147.out 3))
 go_loopg [8] k (fun kq v8 w' => ∃ (x8_1 : Int) (x148000_1 : List Int) (x148001_1 : List Int) (x148002_1 : List Int) (x148003_1 : List Int) (u148000 : Value) (u148001 : Value) (u148002 : Value) (u148003 : Value), v8 = .int .i64 x8_1 ∧ Aside0 (spec_l7Case.l0 kq l0 a1 a2 x8_1 x148000_1 x148001_1 x148002_1 x148003_1 = some (r1, r2, r3, r4)) ∧ Aside0 (kq ≤ k) ∧ Aside0 (Kd.R (Kd.int .i64) 3 w' w.heap.size (fun k_ => some k_ ≠ (u148001 : Value).ownBlock ∧ some k_ ≠ (u148002 : Value).ownBlock ∧ some k_ ≠ (u148003 : Value).ownBlock) u148000 x148000_1) ∧ Aside0 (Kd.R (Kd.int .i64) 3 w' w.heap.size (fun k_ => some k_ ≠ (u148000 : Value).ownBlock ∧ some k_ ≠ (u148002 : Value).ownBlock ∧ some k_ ≠ (u148003 : Value).ownBlock) u148001 x148001_1) ∧ Aside0 (Kd.R (Kd.int .i64) 3 w' w.heap.size (fun k_ => some k_ ≠ (u148000 : Value).ownBlock ∧ some k_ ≠ (u148001 : Value).ownBlock ∧ some k_ ≠ (u148003 : Value).ownBlock) u148002 x148002_1) ∧ Aside0 (Kd.R (Kd.int .i64) 3 w' w.heap.size (fun k_ => some k_ ≠ (u148000 : Value).ownBlock ∧ some k_ ≠ (u148001 : Value).ownBlock ∧ some k_ ≠ (u148002 : Value).ownBlock) u148003 x148003_1) ∧ Aside0 (w'.heap[gb146]? = some (.cells #[(.slice none 0 0), (.slice none 0 0), (.slice none 0 0), (.slice none 0 0)] 38 (0, 0))) ∧ Aside0 (w'.heap[gb147]? = some (.cells #[u148000, u148001, u148002, u148003] 38 (0, 0))) ∧ Aside0 (Below w.heap.size w w'))
 case atStart => exact ⟨(0), (([] : List Int)), (([] : List Int)), (([] : List Int)), (([] : List Int)), (.slice none 0 0), (.slice none 0 0), (.slice none 0 0), (.slice none 0 0), (by first | rfl | (simp; done) | (simp [*]; done)), H', ⟨Nat.le_refl _⟩, ⟨by first | exact Kd.R_nil _ _ _ _ _ | exact Kd.N_nil _ _ _ _ _ | exact Kd.V_nil _ _ _ _ _ | exact Kd.Q_nil _ _ _ _ _ | exact Kd.S_nil _ _ _ _ _⟩, ⟨by first | exact Kd.R_nil _ _ _ _ _ | exact Kd.N_nil _ _ _ _ _ | exact Kd.V_nil _ _ _ _ _ | exact Kd.Q_nil _ _ _ _ _ | exact Kd.S_nil _ _ _ _ _⟩, ⟨by first | exact Kd.R_nil _ _ _ _ _ | exact Kd.N_nil _ _ _ _ _ | exact Kd.V_nil _ _ _ _ _ | exact Kd.Q_nil _ _ _ _ _ | exact Kd.S_nil _ _ _ _ _⟩, ⟨by first | exact Kd.R_nil _ _ _ _ _ | exact Kd.N_nil _ _ _ _ _ | exact Kd.V_nil _ _ _ _ _ | exact Kd.Q_nil _ _ _ _ _ | exact Kd.S_nil _ _ _ _ _⟩, ⟨by (with_reducible repeat (first | refine kn_ ?_ _ | refine kd_ ?_ | refine ka_ ?_ _)); refine blk_far ?_ NB146_147.out _; (with_reducible repeat (first | refine kn_ ?_ _ | refine kd_ ?_ | refine ka_ ?_ _)); refine blk_far ?_ NB146_147.out _; (with_reducible repeat (first | refine kn_ ?_ _ | refine kd_ ?_ | refine ka_ ?_ _)); refine blk_far ?_ NB146_147.out _; (with_reducible repeat (first | refine kn_ ?_ _ | refine kd_ ?_ | refine ka_ ?_ _)); refine blk_far ?_ NB146_147.out _; (with_reducible repeat (first | refine kn_ ?_ _ | refine kd_ ?_ | refine ka_ ?_ _)); exact BK146.out⟩, ⟨by (with_reducible repeat (first | refine kn_ ?_ _ | refine kd_ ?_ | refine ka_ ?_ _)); refine blk_put (cs := #[.slice none 0 0, .slice none 0 0, .slice none 0 0, .slice none 0 0]) ?_ 3 _ rfl; (with_reducible repeat (first | refine kn_ ?_ _ | refine kd_ ?_ | refine ka_ ?_ _)); refine blk_put (cs := #[.slice none 0 0, .slice none 0 0, .slice none 0 0, .slice none 0 0]) ?_ 2 _ rfl; (with_reducible repeat (first | refine kn_ ?_ _ | refine kd_ ?_ | refine ka_ ?_ _)); refine blk_put (cs := #[.slice none 0 0, .slice none 0 0, .slice none 0 0, .slice none 0 0]) ?_ 1 _ rfl; (with_reducible repeat (first | refine kn_ ?_ _ | refine kd_ ?_ | refine ka_ ?_ _)); refine blk_put (cs := #[.slice none 0 0, .slice none 0 0, .slice none 0 0, .slice none 0 0]) ?_ 0 _ rfl; (with_reducible repeat (first | refine kn_ ?_ _ | refine kd_ ?_ | refine ka_ ?_ _)); exact BK147.out⟩, ⟨by repeat (first | (with_reducible first | exact HB.out | apply ba_ | apply pw_below_drewN | apply bd_ | refine bs_ ?_ GE146.out | refine bs_ ?_ GE147.out) | exact HB.out)⟩⟩
 case round =>
  clear H'
  try clear p2
  try clear c4
  try clear c6
  try clear hcz7_0
  try clear hcz7_1
  try clear hcz7_2
  try clear hcz7_3
  try clear hfz7_0
  try clear hfz7_1
  try clear hfz7_2
  try clear hfz7_3
  obtain ⟨x8_1, x148000_1, x148001_1, x148002_1, x148003_1, u148000, u148001, u148002, u148003, rfl, HA, HK1, HO_148000, HO_148001, HO_148002, HO_148003, BK146, BK147, HB⟩ := hrel
  cases gk with
  | zero => exact absurd HA.out (by simp [spec_l7Case.l0])
  | succ k1 =>
   have H := HA.out
   clear HA
   simp only [spec_l7Case.l0] at H
   by_cases c8 : x8_1 < (l0.length : Int)
   ·
    rw [if_pos c8] at H
    have c8b0 : decide (x8_1 < (l0.length : Int)) = true := decide_eq_true c8
    clear c8
    by_cases c9 : 0 ≤ x8_1
    ·
     rw [if_pos c9] at H
     have c9b0 : decide (0 ≤ x8_1) = true := decide_eq_true c9
     clear c9
     by_cases c10 : x148000_1.length < 17592186044416
     ·
      rw [if_pos c10] at H
      have LMc10 := am_ c10
      clear c10
      obtain ⟨y149, hy149⟩ : ∃ y_ : List Int, y_ = (x148000_1 ++ [rd l0 x8_1]) := ⟨_, rfl⟩
      replace H : (if x148001_1.length < 17592186044416 then (if x148002_1.length < 17592186044416 then (if x148003_1.length < 17592186044416 then (spec_l7Case.l0 k1 l0 a1 a2 (wrap64 (x8_1 + 1)) y149 (x148001_1 ++ [a1]) (x148002_1 ++ [0]) (x148003_1 ++ [a2])) else (none)) else (none)) else (none)) = some (r1, r2, r3, r4) := by first | (rw [hy149]; with_reducible exact H) | (have H2_ := (Option.bind_some _ _).symm.trans H; rw [hy149]; with_reducible exact H2_) | (have H2_ := (Option.bind_some _ _).symm.trans H; with_reducible exact H2_) | with_reducible exact H | (rw [hy149]; exact H) | exact H
      have Ny149 := am_ hy149
      clear hy149
      by_cases c11 : x148001_1.length < 17592186044416
      ·
       rw [if_pos c11] at H
       have LMc11 := am_ c11
       clear c11
       obtain ⟨y152, hy152⟩ : ∃ y_ : List Int, y_ = (x148001_1 ++ [a1]) := ⟨_, rfl⟩
       replace H : (if x148002_1.length < 17592186044416 then (if x148003_1.length < 17592186044416 then (spec_l7Case.l0 k1 l0 a1 a2 (wrap64 (x8_1 + 1)) y149 y152 (x148002_1 ++ [0]) (x148003_1 ++ [a2])) else (none)) else (none)) = some (r1, r2, r3, r4) := by first | (rw [hy152]; with_reducible exact H) | (have H2_ := (Option.bind_some _ _).symm.trans H; rw [hy152]; with_reducible exact H2_) | (have H2_ := (Option.bind_some _ _).symm.trans H; with_reducible exact H2_) | with_reducible exact H | (rw [hy152]; exact H) | exact H
       have Ny152 := am_ hy152
       clear hy152
       by_cases c12 : x148002_1.length < 17592186044416
       ·
        rw [if_pos c12] at H
        have LMc12 := am_ c12
        clear c12
        obtain ⟨y155, hy155⟩ : ∃ y_ : List Int, y_ = (x148002_1 ++ [0]) := ⟨_, rfl⟩
        replace H : (if x148003_1.length < 17592186044416 then (spec_l7Case.l0 k1 l0 a1 a2 (wrap64 (x8_1 + 1)) y149 y152 y155 (x148003_1 ++ [a2])) else (none)) = some (r1, r2, r3, r4) := by first | (rw [hy155]; with_reducible exact H) | (have H2_ := (Option.bind_some _ _).symm.trans H; rw [hy155]; with_reducible exact H2_) | (have H2_ := (Option.bind_some _ _).symm.trans H; with_reducible exact H2_) | with_reducible exact H | (rw [hy155]; exact H) | exact H
        have Ny155 := am_ hy155
        clear hy155
        by_cases c13 : x148003_1.length < 17592186044416
        ·
         rw [if_pos c13] at H
         have LMc13 := am_ c13
         clear c13
         obtain ⟨y158, hy158⟩ : ∃ y_ : List Int, y_ = (x148003_1 ++ [a2]) := ⟨_, rfl⟩
         replace H : (spec_l7Case.l0 k1 l0 a1 a2 (wrap64 (x8_1 + 1)) y149 y152 y155 y158) = some (r1, r2, r3, r4) := by first | (rw [hy158]; with_reducible exact H) | (have H2_ := (Option.bind_some _ _).symm.trans H; rw [hy158]; with_reducible exact H2_) | (have H2_ := (Option.bind_some _ _).symm.trans H; with_reducible exact H2_) | with_reducible exact H | (rw [hy158]; exact H) | exact H
         have Ny158 := am_ hy158
         clear hy158
         have H' := am_ H
         clear H
         try go_wp2
         have n0_ := am_ (rd_ HO_148000.out)
         have n1_ := am_ (rd_ HO_148001.out)
         have n2_ := am_ (rd_ HO_148002.out)
         have n3_ := am_ (rd_ HO_148003.out)
         have n4_ := am_ (kd_ BK146.out)
         have n5_ := am_ (kd_ BK147.out)
         have n6_ := am_ (bd_ HB.out)
         clear HO_148000
         clear HO_148001
         clear HO_148002
         clear HO_148003
         clear BK146
         clear BK147
         clear HB
         have HO_148000 := n0_
         have HO_148001 := n1_
         have HO_148002 := n2_
         have HO_148003 := n3_
         have BK146 := n4_
         have BK147 := n5_
         have HB := n6_
         clear n0_ n1_ n2_ n3_ n4_ n5_ n6_
         have p148 : 0 ≤ (x8_1 : Int) := of_decide_eq_true (by first | (with_reducible assumption) | assumption)
         have q148 : x8_1 < (l0.length : Int) := of_decide_eq_true (by first | (with_reducible assumption) | assumption)
         obtain ⟨ad148, e148, hx148_0⟩ := Kd.at_int HR0.out x8_1 p148 q148
         have hw148_0 := hx148_0
         cases e148
         replace hx148_0 := (HB.out.cell (World.block_lt_of_cell? w _ hx148_0)).trans hx148_0
         replace p148 := eq_true p148
         replace q148 := eq_true q148
         refine start_ (n := 10) (S := fun w' => w'.cell? ⟨gb147, 0, none⟩ = some (u148000) ∧ w'.cell? ⟨gb147, 1, none⟩ = some (u148001) ∧ w'.cell? ⟨gb147, 2, none⟩ = some (u148002) ∧ w'.cell? ⟨gb147, 3, none⟩ = some (u148003) ∧ w'.cell? (ad148.add (x8_1).toNat) = some (.int .i64 (rd l0 x8_1))) (ds := [9]) #[false, false, false, false, false, false, false, false, false, false] (by kernel_rfl) rfl rfl ⟨(kc_ BK147.out 0).trans rfl, (kc_ BK147.out 1).trans rfl, (kc_ BK147.out 2).trans rfl, (kc_ BK147.out 3).trans rfl, ((HB.out.cell (World.block_lt_of_cell? w _ hw148_0)).trans hw148_0)⟩ (fun hHeld => ?_); refine with_tabW spec_l7Case.tab5 spec_l7Case.bits5 (fun HT_ HW_ => ?_)
         generalize wr.drew = w14 at HO_148000 HO_148001 HO_148002 HO_148003 BK146 BK147 HB hx148_0 hHeld ⊢
         refine pure_ (i := 0) (N := some 16) (v := ?_) (a' := ?_) #[true, false, false, false, false, false, false, false, false, false] rfl rfl (any_of HT_.out (by kernel_rfl)) (fun _ _ _ h => h) (Or.inl ⟨by rfl, ?_⟩) ?_ ?_
         rotate_left
         ·
          intro w'
          go_simp
          with_reducible rfl
         rotate_left
         ·
          simp only [Act.put, List.setIfInBounds_toArray, List.set_cons_zero, List.set_cons_succ, i64_w, i32_w]
          rfl
         refine pure_ (i := 2) (N := some 18) (v := ?_) (a' := ?_) #[true, false, true, false, false, false, false, false, false, false] rfl rfl (any_of HT_.out (by kernel_rfl)) (fun _ _ _ h => h) (Or.inl ⟨by rfl, ?_⟩) ?_ ?_
         rotate_left
         ·
          intro w'
          go_simp
          with_reducible rfl
         rotate_left
         ·
          simp only [Act.put, List.setIfInBounds_toArray, List.set_cons_zero, List.set_cons_succ, i64_w, i32_w]
          rfl
         refine pure_ (i := 3) (N := some 19) (v := ?_) (a' := ?_) #[true, false, true, true, false, false, false, false, false, false] rfl rfl (any_of HT_.out (by kernel_rfl)) (fun _ _ _ h => h) (Or.inl ⟨by rfl, ?_⟩) ?_ ?_
         rotate_left
         ·
          intro w'
          go_simp
          with_reducible rfl
         rotate_left
         ·
          simp only [Act.put, List.setIfInBounds_toArray, List.set_cons_zero, List.set_cons_succ, i64_w, i32_w]
          rfl
         refine pure_ (i := 4) (N := some 20) (v := ?_) (a' := ?_) #[true, false, true, true, true, false, false, false, false, false] rfl rfl (any_of HT_.out (by kernel_rfl)) (fun _ _ _ h => h) (Or.inl ⟨by rfl, ?_⟩) ?_ ?_
         rotate_left
         ·
          intro w'
          go_simp
          with_reducible rfl
         rotate_left
         ·
          simp only [Act.put, List.setIfInBounds_toArray, List.set_cons_zero, List.set_cons_succ, i64_w, i32_w]
          rfl
         refine take_ (i := 1) (N := some 17) (v := ?_) (a' := ?_) #[true, true, true, true, true, false, false, false, false, false] rfl rfl (take_ofW HT_.out HW_.out (by kernel_rfl)) (fun _ _ _ h => h) (Or.inl ⟨by rfl, ?_⟩) hHeld ?_ ?_
         rotate_left
         ·
          rintro w' ⟨s0, s1, s2, s3, s4⟩
          go_simp
          with_reducible rfl
         rotate_left
         ·
          simp only [Act.put, List.setIfInBounds_toArray, List.set_cons_zero, List.set_cons_succ, i64_w, i32_w]
          rfl
         refine take_ (i := 5) (N := some 21) (v := ?_) (a' := ?_) #[true, true, true, true, true, true, false, false, false, false] rfl rfl (take_ofW HT_.out HW_.out (by kernel_rfl)) (fun _ _ _ h => h) (Or.inl ⟨by rfl, ?_⟩) hHeld ?_ ?_
         rotate_left
         ·
          rintro w' ⟨s0, s1, s2, s3, s4⟩
          go_simp
          with_reducible rfl
         rotate_left
         ·
          simp only [Act.put, List.setIfInBounds_toArray, List.set_cons_zero, List.set_cons_succ, i64_w, i32_w]
          rfl
         refine one_ (i := 6) (N := some 22) #[true, true, true, true, true, true, true, false, false, false] rfl rfl (one_of HT_.out (by kernel_rfl)) (by decide) (fun K hK => ?_)
         refine value_ (w1 := ?_) (v := ?_) (by rfl) rfl ?_ ?_
         rotate_left 2
         ·
          go_simp
          constructor
          ·
           rfl
          ·
           rfl
         refine hK.out _ _ ⟨(kc_ (ka_ BK147.out _) 0).trans rfl, (kc_ (ka_ BK147.out _) 1).trans rfl, (kc_ (ka_ BK147.out _) 2).trans rfl, (kc_ (ka_ BK147.out _) 3).trans rfl, (World.cell?_alloc_lt _ _ _ (World.block_lt_of_cell? _ _ (((HB.out.cell (World.block_lt_of_cell? w _ hw148_0)).trans hw148_0)))).trans (((HB.out.cell (World.block_lt_of_cell? w _ hw148_0)).trans hw148_0))⟩ (fun hHeld => ?_)
         clear hK K
         refine norm_ (a' := ?_) ?_ ?_
         rotate_left
         ·
          show Act.put _ (some 22) _ = _
          simp only [Act.put, List.setIfInBounds_toArray, List.set_cons_zero, List.set_cons_succ, i64_w, i32_w]
          rfl
         refine one_ (i := 7) (N := some 23) #[true, true, true, true, true, true, true, true, false, false] rfl rfl (one_of HT_.out (by kernel_rfl)) (by decide) (fun K hK => ?_)
         refine Kd.R_append_step (Kd.int .i64) (w0 := w) w.heap.size (by rfl) (.tmp 17) (.tmp 22) 22 3 (.int .i64 0) 8 rfl Try.underlying22 info3 rfl (by decide) (by omega) u148000 x148000_1 (rd l0 x8_1) [.int .i64 (rd l0 x8_1)] (fun k_ => some k_ ≠ (u148001 : Value).ownBlock ∧ some k_ ≠ (u148002 : Value).ownBlock ∧ some k_ ≠ (u148003 : Value).ownBlock) (fun _ => False) rfl rfl ?aP (fun _ hk => hk.elim) ?aF ?aO ?aB ?aS ?aL ?_
         (case aP => exact rfl)
         (case aB => exact (by repeat (first | (with_reducible first | exact HB.out | apply ba_ | apply pw_below_drewN | apply bd_ | refine bs_ ?_ GE146.out | refine bs_ ?_ GE147.out) | exact HB.out)))
         (case aF => exact (fun k_ hk => ⟨Kd.fresh' (Kd.R_lt (by (with_reducible repeat (first | apply ra_ | apply rn_ | apply rd_)); exact HO_148001.out)) k_ hk, Kd.fresh' (Kd.R_lt (by (with_reducible repeat (first | apply ra_ | apply rn_ | apply rd_)); exact HO_148002.out)) k_ hk, Kd.fresh' (Kd.R_lt (by (with_reducible repeat (first | apply ra_ | apply rn_ | apply rd_)); exact HO_148003.out)) k_ hk⟩))
         (case aO => exact (by (with_reducible repeat (first | apply ra_ | apply rn_ | apply rd_)); exact HO_148000.out))
         (case aS => exact (bz_ (by repeat (first | (with_reducible first | exact HB.out | apply ba_ | apply pw_below_drewN | apply bd_ | refine bs_ ?_ GE146.out | refine bs_ ?_ GE147.out) | exact HB.out))))
         (case aL => have := LMc10.out; omega)
         intro v150 w15 ho hb hg hat
         rw [← Ny149.out] at ho
         have n0_ := am_ (Kd.R_after (ok := (fun k_ => some k_ ≠ (u148002 : Value).ownBlock ∧ some k_ ≠ (u148003 : Value).ownBlock)) (by (with_reducible repeat (first | apply ra_ | apply rn_ | apply rd_)); exact rm_ HO_148001.out (fun _ hk => ⟨⟨hk.2.1, hk.2.2⟩, hk.1⟩)) hg hat)
         have n1_ := am_ (Kd.R_after (ok := (fun k_ => some k_ ≠ (u148001 : Value).ownBlock ∧ some k_ ≠ (u148003 : Value).ownBlock)) (by (with_reducible repeat (first | apply ra_ | apply rn_ | apply rd_)); exact rm_ HO_148002.out (fun _ hk => ⟨⟨hk.2.1, hk.2.2⟩, hk.1⟩)) hg hat)
         have n2_ := am_ (Kd.R_after (ok := (fun k_ => some k_ ≠ (u148001 : Value).ownBlock ∧ some k_ ≠ (u148002 : Value).ownBlock)) (by (with_reducible repeat (first | apply ra_ | apply rn_ | apply rd_)); exact rm_ HO_148003.out (fun _ hk => ⟨⟨hk.2.1, hk.2.2⟩, hk.1⟩)) hg hat)
         have n3_ := am_ (blk_grown (g := gb146) (o := .cells #[.slice none 0 0, .slice none 0 0, .slice none 0 0, .slice none 0 0] 38 (0, 0)) (by (with_reducible repeat (first | refine kn_ ?_ _ | refine kd_ ?_ | refine ka_ ?_ _)); exact BK146.out) hg (Kd.R_ne HO_148000.out BK146.out (by decide)))
         have n4_ := am_ (blk_grown (g := gb147) (o := .cells #[u148000, u148001, u148002, u148003] 38 (0, 0)) (by (with_reducible repeat (first | refine kn_ ?_ _ | refine kd_ ?_ | refine ka_ ?_ _)); exact BK147.out) hg (Kd.R_ne HO_148000.out BK147.out (by decide)))
         have n5_ := am_ (hb)
         have n6_ := am_ (ho)
         clear HO_148001
         clear HO_148002
         clear HO_148003
         clear BK146
         clear BK147
         clear HB
         clear HO_148000
         have HO_148001 := n0_
         have HO_148002 := n1_
         have HO_148003 := n2_
         have BK146 := n3_
         have BK147 := n4_
         have HB := n5_
         have HO151 := n6_
         clear n0_ n1_ n2_ n3_ n4_ n5_ n6_
         clear ho hb hg hat
         obtain ⟨Ao16, co16, eo16⟩ := rs_ HO151.out
         (first | subst eo16 | (injection eo16 with f1_ f2_ f3_; have f4_ := f1_.symm; have f5_ := f3_.symm; clear f1_ f2_ f3_; subst f4_; subst f5_))
         refine hK.out _ _ ⟨(kc_ BK147.out 0).trans rfl, (kc_ BK147.out 1).trans rfl, (kc_ BK147.out 2).trans rfl, (kc_ BK147.out 3).trans rfl, ((HB.out.cell (World.block_lt_of_cell? w _ hw148_0)).trans hw148_0)⟩ (fun hHeld => ?_)
         clear hK K
         refine norm_ (a' := ?_) ?_ ?_
         rotate_left
         ·
          show Act.put _ (some 23) _ = _
          simp only [Act.put, List.setIfInBounds_toArray, List.set_cons_zero, List.set_cons_succ, i64_w, i32_w]
          rfl
         refine pure_ (i := 8) (N := some 24) (v := ?_) (a' := ?_) #[true, true, true, true, true, true, true, true, true, false] rfl rfl (any_of HT_.out (by kernel_rfl)) (fun _ _ _ h => h) (Or.inl ⟨by rfl, ?_⟩) ?_ ?_
         rotate_left
         ·
          intro w'
          go_simp
          with_reducible rfl
         rotate_left
         ·
          simp only [Act.put, List.setIfInBounds_toArray, List.set_cons_zero, List.set_cons_succ, i64_w, i32_w]
          rfl
         refine last_ (i := 9) (N := none) #[true, true, true, true, true, true, true, true, true, true] rfl rfl (one_of HT_.out (by kernel_rfl)) (by decide) (fun K hK => ?_)
         have hs17 : w15.cell? ⟨gb147, 0, none⟩ = some (u148000) := (kc_ BK147.out 0).trans rfl
         have hfs17 := kf_ BK147.out 0
         have hns17_0 := NB146_147.out
         have hms17_0 := NB147_146.out
         refine skip_ (w1 := ?_) (by rfl) rfl ?_ ?_
         rotate_left
         ·
          go_simp
          rfl
         refine hK.out _ _ ?_
         clear hK K
         refine done_ (done_of HT_.out (by kernel_rfl)) ?_
         have hnb18 := NB147_146.out
         have hnc18 := NB146_147.out
         have hcz19_0 : w15.cell? ⟨gb147, 0, none⟩ = some (u148000) := (kc_ BK147.out 0).trans rfl
         have hcz19_1 : w15.cell? ⟨gb147, 1, none⟩ = some (u148001) := (kc_ BK147.out 1).trans rfl
         have hcz19_2 : w15.cell? ⟨gb147, 2, none⟩ = some (u148002) := (kc_ BK147.out 2).trans rfl
         have hcz19_3 : w15.cell? ⟨gb147, 3, none⟩ = some (u148003) := (kc_ BK147.out 3).trans rfl
         have hfz19_0 := kf_ BK147.out 0
         have hfz19_1 := kf_ BK147.out 1
         have hfz19_2 := kf_ BK147.out 2
         have hfz19_3 := kf_ BK147.out 3
         try go_wp2_with (first | ((with_reducible refine gate_builtin (b := .append) (xs := #[.tmp 26, .tmp 28]) rfl ?_); at_builtin; refine Kd.R_append (Kd.int .i64) (w0 := w) w.heap.size rfl (.tmp 26) (.tmp 28) 22 3 (.int .i64 0) 8 rfl Try.underlying22 info3 rfl (by decide) (by omega) u148001 x148001_1 a1 [.int .i64 a1] (fun k_ => some k_ ≠ (u148002 : Value).ownBlock ∧ some k_ ≠ (u148003 : Value).ownBlock ∧ some k_ ≠ (.slice Ao16 y149.length co16 : Value).ownBlock) (fun _ => False) rfl (by first | (go_simp; done) | (go_simp; rfl)) ?aP (fun _ hk => hk.elim) ?aF ?aO ?aB ?aS ?aL ?_; (case aP => exact rfl); (case aB => exact (by repeat (first | (with_reducible first | exact HB.out | apply ba_ | apply pw_below_drewN | apply bd_ | refine bs_ ?_ GE146.out | refine bs_ ?_ GE147.out) | exact HB.out))); (case aF => exact (fun k_ hk => ⟨Kd.fresh' (Kd.R_lt (by (with_reducible repeat (first | apply ra_ | apply rn_ | apply rd_)); exact (rm_ (rf_ (p := ⟨gb147, 0, none⟩) (rt_ HO_148002.out BK147.out (by decide)) (fun _ hk => hk.2) (.slice Ao16 y149.length co16)) (fun _ h_ => h_.1)))) k_ hk, Kd.fresh' (Kd.R_lt (by (with_reducible repeat (first | apply ra_ | apply rn_ | apply rd_)); exact (rm_ (rf_ (p := ⟨gb147, 0, none⟩) (rt_ HO_148003.out BK147.out (by decide)) (fun _ hk => hk.2) (.slice Ao16 y149.length co16)) (fun _ h_ => h_.1)))) k_ hk, Kd.fresh' (Kd.R_lt (by (with_reducible repeat (first | apply ra_ | apply rn_ | apply rd_)); exact (rm_ (rf_ (p := ⟨gb147, 0, none⟩) (rt_ HO151.out BK147.out (by decide)) (fun _ hk => hk.2) (.slice Ao16 y149.length co16)) (fun _ h_ => h_.1)))) k_ hk⟩)); (case aO => exact (by (with_reducible repeat (first | apply ra_ | apply rn_ | apply rd_)); exact rm_ (rf_ (p := ⟨gb147, 0, none⟩) (rt_ HO_148001.out BK147.out (by decide)) (fun _ hk => hk.2) (.slice Ao16 y149.length co16)) (fun _ hk => ⟨hk.1.1.1, ⟨hk.1.1.2, hk.1.2⟩⟩))); (case aS => exact (bz_ (by repeat (first | (with_reducible first | exact HB.out | apply ba_ | apply pw_below_drewN | apply bd_ | refine bs_ ?_ GE146.out | refine bs_ ?_ GE147.out) | exact HB.out)))); (case aL => have := LMc11.out; omega); intro v153 w20 ho hb hg hat; rw [← Ny152.out] at ho; have n0_ := am_ (Kd.R_after (ok := (fun k_ => some k_ ≠ (u148003 : Value).ownBlock ∧ some k_ ≠ (.slice Ao16 y149.length co16 : Value).ownBlock)) (by (with_reducible repeat (first | apply ra_ | apply rn_ | apply rd_)); exact rm_ (rf_ (p := ⟨gb147, 0, none⟩) (rt_ HO_148002.out BK147.out (by decide)) (fun _ hk => hk.2) (.slice Ao16 y149.length co16)) (fun _ hk => ⟨⟨hk.1.1.2, hk.1.2⟩, hk.1.1.1⟩)) hg hat); have n1_ := am_ (Kd.R_after (ok := (fun k_ => some k_ ≠ (u148002 : Value).ownBlock ∧ some k_ ≠ (.slice Ao16 y149.length co16 : Value).ownBlock)) (by (with_reducible repeat (first | apply ra_ | apply rn_ | apply rd_)); exact rm_ (rf_ (p := ⟨gb147, 0, none⟩) (rt_ HO_148003.out BK147.out (by decide)) (fun _ hk => hk.2) (.slice Ao16 y149.length co16)) (fun _ hk => ⟨⟨hk.1.1.2, hk.1.2⟩, hk.1.1.1⟩)) hg hat); have n2_ := am_ (blk_grown (g := gb146) (o := .cells #[.slice none 0 0, .slice none 0 0, .slice none 0 0, .slice none 0 0] 38 (0, 0)) (by (with_reducible repeat (first | refine kn_ ?_ _ | refine kd_ ?_ | refine ka_ ?_ _)); refine blk_far ?_ NB146_147.out _; (with_reducible repeat (first | refine kn_ ?_ _ | refine kd_ ?_ | refine ka_ ?_ _)); exact BK146.out) hg (Kd.R_ne HO_148001.out BK146.out (by decide))); have n3_ := am_ (blk_grown (g := gb147) (o := .cells #[.slice Ao16 y149.length co16, u148001, u148002, u148003] 38 (0, 0)) (by (with_reducible repeat (first | refine kn_ ?_ _ | refine kd_ ?_ | refine ka_ ?_ _)); refine blk_put (cs := #[u148000, u148001, u148002, u148003]) ?_ 0 _ rfl; (with_reducible repeat (first | refine kn_ ?_ _ | refine kd_ ?_ | refine ka_ ?_ _)); exact BK147.out) hg (Kd.R_ne HO_148001.out BK147.out (by decide))); have n4_ := am_ (Kd.R_after (ok := (fun k_ => some k_ ≠ (u148002 : Value).ownBlock ∧ some k_ ≠ (u148003 : Value).ownBlock)) (by (with_reducible repeat (first | apply ra_ | apply rn_ | apply rd_)); exact rm_ (rf_ (p := ⟨gb147, 0, none⟩) (rt_ HO151.out BK147.out (by decide)) (fun _ hk => hk.2) (.slice Ao16 y149.length co16)) (fun _ hk => ⟨⟨hk.1.2.1, hk.1.2.2⟩, hk.1.1⟩)) hg hat); have n5_ := am_ (hb); have n6_ := am_ (ho); clear HO_148002; clear HO_148003; clear BK146; clear BK147; clear HO151; clear HB; clear HO_148001; have HO_148002 := n0_; have HO_148003 := n1_; have BK146 := n2_; have BK147 := n3_; have HO151 := n4_; have HB := n5_; have HO154 := n6_; clear n0_ n1_ n2_ n3_ n4_ n5_ n6_; clear ho hb hg hat; obtain ⟨Ao21, co21, eo21⟩ := rs_ HO154.out; subst eo21; have hcz22_0 : w20.cell? ⟨gb147, 0, none⟩ = some (.slice Ao16 y149.length co16) := (kc_ BK147.out 0).trans rfl; have hcz22_1 : w20.cell? ⟨gb147, 1, none⟩ = some (u148001) := (kc_ BK147.out 1).trans rfl; have hcz22_2 : w20.cell? ⟨gb147, 2, none⟩ = some (u148002) := (kc_ BK147.out 2).trans rfl; have hcz22_3 : w20.cell? ⟨gb147, 3, none⟩ = some (u148003) := (kc_ BK147.out 3).trans rfl; have hfz22_0 := kf_ BK147.out 0; have hfz22_1 := kf_ BK147.out 1; have hfz22_2 := kf_ BK147.out 2; have hfz22_3 := kf_ BK147.out 3) | ((with_reducible refine gate_builtin (b := .append) (xs := #[.tmp 32, .tmp 33]) rfl ?_); at_builtin; refine Kd.R_append (Kd.int .i64) (w0 := w) w.heap.size rfl (.tmp 32) (.tmp 33) 22 3 (.int .i64 0) 8 rfl Try.underlying22 info3 rfl (by decide) (by omega) u148002 x148002_1 0 [.int .i64 0] (fun k_ => some k_ ≠ (u148003 : Value).ownBlock ∧ some k_ ≠ (.slice Ao16 y149.length co16 : Value).ownBlock ∧ some k_ ≠ (.slice Ao21 y152.length co21 : Value).ownBlock) (fun _ => False) rfl (by first | (go_simp; done) | (go_simp; rfl)) ?aP (fun _ hk => hk.elim) ?aF ?aO ?aB ?aS ?aL ?_; (case aP => exact rfl); (case aB => exact (by repeat (first | (with_reducible first | exact HB.out | apply ba_ | apply pw_below_drewN | apply bd_ | refine bs_ ?_ GE146.out | refine bs_ ?_ GE147.out) | exact HB.out))); (case aF => exact (fun k_ hk => ⟨Kd.fresh' (Kd.R_lt (by (with_reducible repeat (first | apply ra_ | apply rn_ | apply rd_)); exact (rm_ (rf_ (p := ⟨gb147, 1, none⟩) (rt_ HO_148003.out BK147.out (by decide)) (fun _ hk => hk.2) (.slice Ao21 y152.length co21)) (fun _ h_ => h_.1)))) k_ hk, Kd.fresh' (Kd.R_lt (by (with_reducible repeat (first | apply ra_ | apply rn_ | apply rd_)); exact (rm_ (rf_ (p := ⟨gb147, 1, none⟩) (rt_ HO151.out BK147.out (by decide)) (fun _ hk => hk.2) (.slice Ao21 y152.length co21)) (fun _ h_ => h_.1)))) k_ hk, Kd.fresh' (Kd.R_lt (by (with_reducible repeat (first | apply ra_ | apply rn_ | apply rd_)); exact (rm_ (rf_ (p := ⟨gb147, 1, none⟩) (rt_ HO154.out BK147.out (by decide)) (fun _ hk => hk.2) (.slice Ao21 y152.length co21)) (fun _ h_ => h_.1)))) k_ hk⟩)); (case aO => exact (by (with_reducible repeat (first | apply ra_ | apply rn_ | apply rd_)); exact rm_ (rf_ (p := ⟨gb147, 1, none⟩) (rt_ HO_148002.out BK147.out (by decide)) (fun _ hk => hk.2) (.slice Ao21 y152.length co21)) (fun _ hk => ⟨hk.1.1.1, ⟨hk.1.1.2, hk.1.2⟩⟩))); (case aS => exact (bz_ (by repeat (first | (with_reducible first | exact HB.out | apply ba_ | apply pw_below_drewN | apply bd_ | refine bs_ ?_ GE146.out | refine bs_ ?_ GE147.out) | exact HB.out)))); (case aL => have := LMc12.out; omega); intro v156 w23 ho hb hg hat; rw [← Ny155.out] at ho; have n0_ := am_ (Kd.R_after (ok := (fun k_ => some k_ ≠ (.slice Ao16 y149.length co16 : Value).ownBlock ∧ some k_ ≠ (.slice Ao21 y152.length co21 : Value).ownBlock)) (by (with_reducible repeat (first | apply ra_ | apply rn_ | apply rd_)); exact rm_ (rf_ (p := ⟨gb147, 1, none⟩) (rt_ HO_148003.out BK147.out (by decide)) (fun _ hk => hk.2) (.slice Ao21 y152.length co21)) (fun _ hk => ⟨⟨hk.1.1.2, hk.1.2⟩, hk.1.1.1⟩)) hg hat); have n1_ := am_ (blk_grown (g := gb146) (o := .cells #[.slice none 0 0, .slice none 0 0, .slice none 0 0, .slice none 0 0] 38 (0, 0)) (by (with_reducible repeat (first | refine kn_ ?_ _ | refine kd_ ?_ | refine ka_ ?_ _)); refine blk_far ?_ NB146_147.out _; (with_reducible repeat (first | refine kn_ ?_ _ | refine kd_ ?_ | refine ka_ ?_ _)); exact BK146.out) hg (Kd.R_ne HO_148002.out BK146.out (by decide))); have n2_ := am_ (blk_grown (g := gb147) (o := .cells #[.slice Ao16 y149.length co16, .slice Ao21 y152.length co21, u148002, u148003] 38 (0, 0)) (by (with_reducible repeat (first | refine kn_ ?_ _ | refine kd_ ?_ | refine ka_ ?_ _)); refine blk_put (cs := #[.slice Ao16 y149.length co16, u148001, u148002, u148003]) ?_ 1 _ rfl; (with_reducible repeat (first | refine kn_ ?_ _ | refine kd_ ?_ | refine ka_ ?_ _)); exact BK147.out) hg (Kd.R_ne HO_148002.out BK147.out (by decide))); have n3_ := am_ (Kd.R_after (ok := (fun k_ => some k_ ≠ (u148003 : Value).ownBlock ∧ some k_ ≠ (.slice Ao21 y152.length co21 : Value).ownBlock)) (by (with_reducible repeat (first | apply ra_ | apply rn_ | apply rd_)); exact rm_ (rf_ (p := ⟨gb147, 1, none⟩) (rt_ HO151.out BK147.out (by decide)) (fun _ hk => hk.2) (.slice Ao21 y152.length co21)) (fun _ hk => ⟨⟨hk.1.1.2, hk.1.2⟩, hk.1.1.1⟩)) hg hat); have n4_ := am_ (Kd.R_after (ok := (fun k_ => some k_ ≠ (u148003 : Value).ownBlock ∧ some k_ ≠ (.slice Ao16 y149.length co16 : Value).ownBlock)) (by (with_reducible repeat (first | apply ra_ | apply rn_ | apply rd_)); exact rm_ (rf_ (p := ⟨gb147, 1, none⟩) (rt_ HO154.out BK147.out (by decide)) (fun _ hk => hk.2) (.slice Ao21 y152.length co21)) (fun _ hk => ⟨⟨hk.1.2.1, hk.1.2.2⟩, hk.1.1⟩)) hg hat); have n5_ := am_ (hb); have n6_ := am_ (ho); clear HO_148003; clear BK146; clear BK147; clear HO151; clear HO154; clear HB; clear HO_148002; have HO_148003 := n0_; have BK146 := n1_; have BK147 := n2_; have HO151 := n3_; have HO154 := n4_; have HB := n5_; have HO157 := n6_; clear n0_ n1_ n2_ n3_ n4_ n5_ n6_; clear ho hb hg hat; obtain ⟨Ao24, co24, eo24⟩ := rs_ HO157.out; subst eo24; have hcz25_0 : w23.cell? ⟨gb147, 0, none⟩ = some (.slice Ao16 y149.length co16) := (kc_ BK147.out 0).trans rfl; have hcz25_1 : w23.cell? ⟨gb147, 1, none⟩ = some (.slice Ao21 y152.length co21) := (kc_ BK147.out 1).trans rfl; have hcz25_2 : w23.cell? ⟨gb147, 2, none⟩ = some (u148002) := (kc_ BK147.out 2).trans rfl; have hcz25_3 : w23.cell? ⟨gb147, 3, none⟩ = some (u148003) := (kc_ BK147.out 3).trans rfl; have hfz25_0 := kf_ BK147.out 0; have hfz25_1 := kf_ BK147.out 1; have hfz25_2 := kf_ BK147.out 2; have hfz25_3 := kf_ BK147.out 3) | ((with_reducible refine gate_builtin (b := .append) (xs := #[.tmp 37, .tmp 39]) rfl ?_); at_builtin; refine Kd.R_append (Kd.int .i64) (w0 := w) w.heap.size rfl (.tmp 37) (.tmp 39) 22 3 (.int .i64 0) 8 rfl Try.underlying22 info3 rfl (by decide) (by omega) u148003 x148003_1 a2 [.int .i64 a2] (fun k_ => some k_ ≠ (.slice Ao16 y149.length co16 : Value).ownBlock ∧ some k_ ≠ (.slice Ao21 y152.length co21 : Value).ownBlock ∧ some k_ ≠ (.slice Ao24 y155.length co24 : Value).ownBlock) (fun _ => False) rfl (by first | (go_simp; done) | (go_simp; rfl)) ?aP (fun _ hk => hk.elim) ?aF ?aO ?aB ?aS ?aL ?_; (case aP => exact rfl); (case aB => exact (by repeat (first | (with_reducible first | exact HB.out | apply ba_ | apply pw_below_drewN | apply bd_ | refine bs_ ?_ GE146.out | refine bs_ ?_ GE147.out) | exact HB.out))); (case aF => exact (fun k_ hk => ⟨Kd.fresh' (Kd.R_lt (by (with_reducible repeat (first | apply ra_ | apply rn_ | apply rd_)); exact (rm_ (rf_ (p := ⟨gb147, 2, none⟩) (rt_ HO151.out BK147.out (by decide)) (fun _ hk => hk.2) (.slice Ao24 y155.length co24)) (fun _ h_ => h_.1)))) k_ hk, Kd.fresh' (Kd.R_lt (by (with_reducible repeat (first | apply ra_ | apply rn_ | apply rd_)); exact (rm_ (rf_ (p := ⟨gb147, 2, none⟩) (rt_ HO154.out BK147.out (by decide)) (fun _ hk => hk.2) (.slice Ao24 y155.length co24)) (fun _ h_ => h_.1)))) k_ hk, Kd.fresh' (Kd.R_lt (by (with_reducible repeat (first | apply ra_ | apply rn_ | apply rd_)); exact (rm_ (rf_ (p := ⟨gb147, 2, none⟩) (rt_ HO157.out BK147.out (by decide)) (fun _ hk => hk.2) (.slice Ao24 y155.length co24)) (fun _ h_ => h_.1)))) k_ hk⟩)); (case aO => exact (by (with_reducible repeat (first | apply ra_ | apply rn_ | apply rd_)); exact rm_ (rf_ (p := ⟨gb147, 2, none⟩) (rt_ HO_148003.out BK147.out (by decide)) (fun _ hk => hk.2) (.slice Ao24 y155.length co24)) (fun _ hk => ⟨hk.1.1.1, ⟨hk.1.1.2, hk.1.2⟩⟩))); (case aS => exact (bz_ (by repeat (first | (with_reducible first | exact HB.out | apply ba_ | apply pw_below_drewN | apply bd_ | refine bs_ ?_ GE146.out | refine bs_ ?_ GE147.out) | exact HB.out)))); (case aL => have := LMc13.out; omega); intro v159 w26 ho hb hg hat; rw [← Ny158.out] at ho; have n0_ := am_ (blk_grown (g := gb146) (o := .cells #[.slice none 0 0, .slice none 0 0, .slice none 0 0, .slice none 0 0] 38 (0, 0)) (by (with_reducible repeat (first | refine kn_ ?_ _ | refine kd_ ?_ | refine ka_ ?_ _)); refine blk_far ?_ NB146_147.out _; (with_reducible repeat (first | refine kn_ ?_ _ | refine kd_ ?_ | refine ka_ ?_ _)); exact BK146.out) hg (Kd.R_ne HO_148003.out BK146.out (by decide))); have n1_ := am_ (blk_grown (g := gb147) (o := .cells #[.slice Ao16 y149.length co16, .slice Ao21 y152.length co21, .slice Ao24 y155.length co24, u148003] 38 (0, 0)) (by (with_reducible repeat (first | refine kn_ ?_ _ | refine kd_ ?_ | refine ka_ ?_ _)); refine blk_put (cs := #[.slice Ao16 y149.length co16, .slice Ao21 y152.length co21, u148002, u148003]) ?_ 2 _ rfl; (with_reducible repeat (first | refine kn_ ?_ _ | refine kd_ ?_ | refine ka_ ?_ _)); exact BK147.out) hg (Kd.R_ne HO_148003.out BK147.out (by decide))); have n2_ := am_ (Kd.R_after (ok := (fun k_ => some k_ ≠ (.slice Ao21 y152.length co21 : Value).ownBlock ∧ some k_ ≠ (.slice Ao24 y155.length co24 : Value).ownBlock)) (by (with_reducible repeat (first | apply ra_ | apply rn_ | apply rd_)); exact rm_ (rf_ (p := ⟨gb147, 2, none⟩) (rt_ HO151.out BK147.out (by decide)) (fun _ hk => hk.2) (.slice Ao24 y155.length co24)) (fun _ hk => ⟨⟨hk.1.1.2, hk.1.2⟩, hk.1.1.1⟩)) hg hat); have n3_ := am_ (Kd.R_after (ok := (fun k_ => some k_ ≠ (.slice Ao16 y149.length co16 : Value).ownBlock ∧ some k_ ≠ (.slice Ao24 y155.length co24 : Value).ownBlock)) (by (with_reducible repeat (first | apply ra_ | apply rn_ | apply rd_)); exact rm_ (rf_ (p := ⟨gb147, 2, none⟩) (rt_ HO154.out BK147.out (by decide)) (fun _ hk => hk.2) (.slice Ao24 y155.length co24)) (fun _ hk => ⟨⟨hk.1.1.2, hk.1.2⟩, hk.1.1.1⟩)) hg hat); have n4_ := am_ (Kd.R_after (ok := (fun k_ => some k_ ≠ (.slice Ao16 y149.length co16 : Value).ownBlock ∧ some k_ ≠ (.slice Ao21 y152.length co21 : Value).ownBlock)) (by (with_reducible repeat (first | apply ra_ | apply rn_ | apply rd_)); exact rm_ (rf_ (p := ⟨gb147, 2, none⟩) (rt_ HO157.out BK147.out (by decide)) (fun _ hk => hk.2) (.slice Ao24 y155.length co24)) (fun _ hk => ⟨⟨hk.1.2.1, hk.1.2.2⟩, hk.1.1⟩)) hg hat); have n5_ := am_ (hb); have n6_ := am_ (ho); clear BK146; clear BK147; clear HO151; clear HO154; clear HO157; clear HB; clear HO_148003; have BK146 := n0_; have BK147 := n1_; have HO151 := n2_; have HO154 := n3_; have HO157 := n4_; have HB := n5_; have HO160 := n6_; clear n0_ n1_ n2_ n3_ n4_ n5_ n6_; clear ho hb hg hat; obtain ⟨Ao27, co27, eo27⟩ := rs_ HO160.out; subst eo27; have hcz28_0 : w26.cell? ⟨gb147, 0, none⟩ = some (.slice Ao16 y149.length co16) := (kc_ BK147.out 0).trans rfl; have hcz28_1 : w26.cell? ⟨gb147, 1, none⟩ = some (.slice Ao21 y152.length co21) := (kc_ BK147.out 1).trans rfl; have hcz28_2 : w26.cell? ⟨gb147, 2, none⟩ = some (.slice Ao24 y155.length co24) := (kc_ BK147.out 2).trans rfl; have hcz28_3 : w26.cell? ⟨gb147, 3, none⟩ = some (u148003) := (kc_ BK147.out 3).trans rfl; have hfz28_0 := kf_ BK147.out 0; have hfz28_1 := kf_ BK147.out 1; have hfz28_2 := kf_ BK147.out 2; have hfz28_3 := kf_ BK147.out 3))
         go_roundg k1
         case measure => have := HK1.out; omega
         case rel => exact ⟨(wrap64 (x8_1 + 1)), (y149), (y152), (y155), (y158), (.slice Ao16 y149.length co16), (.slice Ao21 y152.length co21), (.slice Ao24 y155.length co24), (.slice Ao27 y158.length co27), (by first | rfl | (simp; done) | (simp [*]; done)), H', ⟨by have := HK1.out; omega⟩, ⟨by (with_reducible repeat (first | apply ra_ | apply rn_ | apply rd_)); exact rm_ (rf_ (p := ⟨gb147, 3, none⟩) (rt_ HO151.out BK147.out (by decide)) (fun _ hk => hk.2) (.slice Ao27 y158.length co27)) (fun _ hk => ⟨hk.1.1.1, ⟨hk.1.1.2, hk.1.2⟩⟩)⟩, ⟨by (with_reducible repeat (first | apply ra_ | apply rn_ | apply rd_)); exact rm_ (rf_ (p := ⟨gb147, 3, none⟩) (rt_ HO154.out BK147.out (by decide)) (fun _ hk => hk.2) (.slice Ao27 y158.length co27)) (fun _ hk => ⟨hk.1.1.1, ⟨hk.1.1.2, hk.1.2⟩⟩)⟩, ⟨by (with_reducible repeat (first | apply ra_ | apply rn_ | apply rd_)); exact rm_ (rf_ (p := ⟨gb147, 3, none⟩) (rt_ HO157.out BK147.out (by decide)) (fun _ hk => hk.2) (.slice Ao27 y158.length co27)) (fun _ hk => ⟨hk.1.1.1, ⟨hk.1.1.2, hk.1.2⟩⟩)⟩, ⟨by (with_reducible repeat (first | apply ra_ | apply rn_ | apply rd_)); exact rm_ (rf_ (p := ⟨gb147, 3, none⟩) (rt_ HO160.out BK147.out (by decide)) (fun _ hk => hk.2) (.slice Ao27 y158.length co27)) (fun _ hk => ⟨hk.1.1, ⟨hk.1.2.1, hk.1.2.2⟩⟩)⟩, ⟨by (with_reducible repeat (first | refine kn_ ?_ _ | refine kd_ ?_ | refine ka_ ?_ _)); refine blk_far ?_ NB146_147.out _; (with_reducible repeat (first | refine kn_ ?_ _ | refine kd_ ?_ | refine ka_ ?_ _)); exact BK146.out⟩, ⟨by (with_reducible repeat (first | refine kn_ ?_ _ | refine kd_ ?_ | refine ka_ ?_ _)); refine blk_put (cs := #[.slice Ao16 y149.length co16, .slice Ao21 y152.length co21, .slice Ao24 y155.length co24, u148003]) ?_ 3 _ rfl; (with_reducible repeat (first | refine kn_ ?_ _ | refine kd_ ?_ | refine ka_ ?_ _)); exact BK147.out⟩, ⟨by repeat (first | (with_reducible first | exact HB.out | apply ba_ | apply pw_below_drewN | apply bd_ | refine bs_ ?_ GE146.out | refine bs_ ?_ GE147.out) | exact HB.out)⟩⟩
        ·
         rw [if_neg c13] at H
         exact absurd H (by simp)
       ·
        rw [if_neg c12] at H
        exact absurd H (by simp)
      ·
       rw [if_neg c11] at H
       exact absurd H (by simp)
     ·
      rw [if_neg c10] at H
      exact absurd H (by simp)
    ·
     rw [if_neg c9] at H
     exact absurd H (by simp)
   ·
    rw [if_neg c8] at H
    have c8b0 : decide (x8_1 < (l0.length : Int)) = false := decide_eq_false c8
    clear c8
    simp only [Option.some.injEq, Prod.mk.injEq] at H
    obtain ⟨rfl, rfl, rfl, rfl⟩ := H
    have hnb29 := NB147_146.out
    have hnc29 := NB146_147.out
    have hcz30_0 : wr.cell? ⟨gb147, 0, none⟩ = some (u148000) := (kc_ BK147.out 0).trans rfl
    have hcz30_1 : wr.cell? ⟨gb147, 1, none⟩ = some (u148001) := (kc_ BK147.out 1).trans rfl
    have hcz30_2 : wr.cell? ⟨gb147, 2, none⟩ = some (u148002) := (kc_ BK147.out 2).trans rfl
    have hcz30_3 : wr.cell? ⟨gb147, 3, none⟩ = some (u148003) := (kc_ BK147.out 3).trans rfl
    have hfz30_0 := kf_ BK147.out 0
    have hfz30_1 := kf_ BK147.out 1
    have hfz30_2 := kf_ BK147.out 2
    have hfz30_3 := kf_ BK147.out 3
    obtain ⟨Ao31, co31, eo31⟩ := rs_ HO_148000.out
    subst eo31
    have hcz32_0 : wr.cell? ⟨gb146, 0, none⟩ = some (.slice none 0 0) := (kc_ BK146.out 0).trans rfl
    have hcz32_1 : wr.cell? ⟨gb146, 1, none⟩ = some (.slice none 0 0) := (kc_ BK146.out 1).trans rfl
    have hcz32_2 : wr.cell? ⟨gb146, 2, none⟩ = some (.slice none 0 0) := (kc_ BK146.out 2).trans rfl
    have hcz32_3 : wr.cell? ⟨gb146, 3, none⟩ = some (.slice none 0 0) := (kc_ BK146.out 3).trans rfl
    have hfz32_0 := kf_ BK146.out 0
    have hfz32_1 := kf_ BK146.out 1
    have hfz32_2 := kf_ BK146.out 2
    have hfz32_3 := kf_ BK146.out 3
    obtain ⟨Ao33, co33, eo33⟩ := rs_ HO_148001.out
    subst eo33
    obtain ⟨Ao34, co34, eo34⟩ := rs_ HO_148002.out
    subst eo34
    obtain ⟨Ao35, co35, eo35⟩ := rs_ HO_148003.out
    subst eo35
    go_wp2
    refine bodyPost_ret (results_cell_row rfl _ _ gb146 38 #[.slice Ao31 x148000_1.length co31, .slice Ao33 x148001_1.length co33, .slice Ao34 x148002_1.length co34, .slice Ao35 x148003_1.length co35] (0, 0) _ rfl (by (with_reducible repeat (first | refine kn_ ?_ _ | refine kd_ ?_ | refine ka_ ?_ _)); refine blk_put (cs := #[.slice Ao31 x148000_1.length co31, .slice Ao33 x148001_1.length co33, .slice Ao34 x148002_1.length co34, .slice none 0 0]) ?_ 3 _ rfl; (with_reducible repeat (first | refine kn_ ?_ _ | refine kd_ ?_ | refine ka_ ?_ _)); refine blk_put (cs := #[.slice Ao31 x148000_1.length co31, .slice Ao33 x148001_1.length co33, .slice none 0 0, .slice none 0 0]) ?_ 2 _ rfl; (with_reducible repeat (first | refine kn_ ?_ _ | refine kd_ ?_ | refine ka_ ?_ _)); refine blk_put (cs := #[.slice Ao31 x148000_1.length co31, .slice none 0 0, .slice none 0 0, .slice none 0 0]) ?_ 1 _ rfl; (with_reducible repeat (first | refine kn_ ?_ _ | refine kd_ ?_ | refine ka_ ?_ _)); refine blk_put (cs := #[.slice none 0 0, .slice none 0 0, .slice none 0 0, .slice none 0 0]) ?_ 0 _ rfl; (with_reducible repeat (first | refine kn_ ?_ _ | refine kd_ ?_ | refine ka_ ?_ _)); exact BK146.out) Try.underlying38 rfl (by kernel_rfl)) rfl ?_
    exact ⟨_, _, _, _, by first | rfl | (simp [errW_none, errW_some] <;> rfl) | (simp [*, errW_none, errW_some] <;> rfl), by (with_reducible repeat (first | apply ra_ | apply rn_ | apply rd_)); exact rm_ (rf_ (p := ⟨gb146, 3, none⟩) (rf_ (p := ⟨gb146, 2, none⟩) (rf_ (p := ⟨gb146, 1, none⟩) (rf_ (p := ⟨gb146, 0, none⟩) (rt_ HO_148000.out BK146.out (by decide)) (fun _ hk => hk.2) (.slice Ao31 x148000_1.length co31)) (fun _ hk => hk.2) (.slice Ao33 x148001_1.length co33)) (fun _ hk => hk.2) (.slice Ao34 x148002_1.length co34)) (fun _ hk => hk.2) (.slice Ao35 x148003_1.length co35)) (fun _ hk => ⟨hk.1.1, ⟨hk.1.2.1, hk.1.2.2⟩⟩), by (with_reducible repeat (first | apply ra_ | apply rn_ | apply rd_)); exact rm_ (rf_ (p := ⟨gb146, 3, none⟩) (rf_ (p := ⟨gb146, 2, none⟩) (rf_ (p := ⟨gb146, 1, none⟩) (rf_ (p := ⟨gb146, 0, none⟩) (rt_ HO_148001.out BK146.out (by decide)) (fun _ hk => hk.2) (.slice Ao31 x148000_1.length co31)) (fun _ hk => hk.2) (.slice Ao33 x148001_1.length co33)) (fun _ hk => hk.2) (.slice Ao34 x148002_1.length co34)) (fun _ hk => hk.2) (.slice Ao35 x148003_1.length co35)) (fun _ hk => ⟨hk.1.1, ⟨hk.1.2.1, hk.1.2.2⟩⟩), by (with_reducible repeat (first | apply ra_ | apply rn_ | apply rd_)); exact rm_ (rf_ (p := ⟨gb146, 3, none⟩) (rf_ (p := ⟨gb146, 2, none⟩) (rf_ (p := ⟨gb146, 1, none⟩) (rf_ (p := ⟨gb146, 0, none⟩) (rt_ HO_148002.out BK146.out (by decide)) (fun _ hk => hk.2) (.slice Ao31 x148000_1.length co31)) (fun _ hk => hk.2) (.slice Ao33 x148001_1.length co33)) (fun _ hk => hk.2) (.slice Ao34 x148002_1.length co34)) (fun _ hk => hk.2) (.slice Ao35 x148003_1.length co35)) (fun _ hk => ⟨hk.1.1, ⟨hk.1.2.1, hk.1.2.2⟩⟩), by (with_reducible repeat (first | apply ra_ | apply rn_ | apply rd_)); exact rm_ (rf_ (p := ⟨gb146, 3, none⟩) (rf_ (p := ⟨gb146, 2, none⟩) (rf_ (p := ⟨gb146, 1, none⟩) (rf_ (p := ⟨gb146, 0, none⟩) (rt_ HO_148003.out BK146.out (by decide)) (fun _ hk => hk.2) (.slice Ao31 x148000_1.length co31)) (fun _ hk => hk.2) (.slice Ao33 x148001_1.length co33)) (fun _ hk => hk.2) (.slice Ao34 x148002_1.length co34)) (fun _ hk => hk.2) (.slice Ao35 x148003_1.length co35)) (fun _ hk => ⟨hk.1.1, ⟨hk.1.2.1, hk.1.2.2⟩⟩), by repeat (first | (with_reducible first | exact HB.out | apply ba_ | apply pw_below_drewN | apply bd_ | refine bs_ ?_ GE146.out | refine bs_ ?_ GE147.out) | exact HB.out)⟩

end Go.Proofs.Ytgmoljiehdeelaa.PFnExactStageCase
