-- Made by wip/xprint.py: the print of the kit, called over a changed copy of what it reads.
-- PRINTED by print.py (a twelfth state) out of the translation. Not trusted: Lean checks it.
import Derived.Test.YtaejjkgbcajhoaaXFnExactRegularPlanx0
import Derived.Test.YtaejjkgbcajhoaaXFnExactRegularPlanx1
import Derived.Test.YtaejjkgbcajhoaaXFnExactRegularPlanx2
namespace Go.Proofs.Ytaejjkgbcajhoaa.PFnExactRegularPlan
open Go.RowKit Go.Proofs.YtaejjkgbcajhoaaW.PrintWords Go.Proofs.YtaejjkgbcajhoaaW.PrintLast Go.Proofs.YtaejjkgbcajhoaaW.PrintMore
open Go.Proofs.YtaejjkgbcajhoaaW.PrintWords.Aside0 renaming mk → am_
open Go.Proofs.YtaejjkgbcajhoaaW.PrintWords renaming below_drew1 → bd_, below_alloc → ba_, below_set → bs_, below_size → bz_, below_step → bp_, blk_frozen → kf_, blk_alloc → ka_, blk_drewN → kn_, blk_drew → kd_, blk_cell → kc_, blk_below → kb_
open Go.Proofs.YtaejjkgbcajhoaaW.PrintWords.Kd renaming R_alloc → ra_, R_drewN → rn_, R_drew → rd_, R_mono → rm_, C_alloc → ca_, C_drewN → cn_, C_drew → cd_, C_below → cb_
attribute [local go_sem] max2_int min2_int max_two min_two max_three min_three max_four min_four   -- for this text's walks alone
set_option linter.unusedVariables false
set_option linter.unusedSimpArgs false

/-! ### spec_l4Pairs: function 16 -/
mutual
def spec_l4Pairs.l0 : Nat → List Int → Int → List (S45) → Int → List Int → List Int → List Int → List Int → Option ((List (List (S45))))
 | 0, _, _, _, _, _, _, _, _ => none
 | k + 1, x1, x5, x6, x7, x152000, x152001, x152002, x152003 => if x7 ≤ x5 then (if x6.length < 8796093022208 then (spec_l4Pairs.l0 k x1 x5 (x6 ++ [(⟨(-1), (-1)⟩ : S45)]) (wrap64 (x7 + 1)) x152000 x152001 x152002 x152003) else (none)) else (spec_l4Pairs.l1 k x1 x5 (([x6] : List (List (S45)))) (wrap64 ((x152000.length : Int) - 1)) x152000 x152001 x152002 x152003)
def spec_l4Pairs.l1 : Nat → List Int → Int → List (List (S45)) → Int → List Int → List Int → List Int → List Int → Option ((List (List (S45))))
 | 0, _, _, _, _, _, _, _, _ => none
 | k + 1, x1, x5, x8, x9, x152000, x152001, x152002, x152003 => if x9 ≥ 0 then (spec_l4Pairs.l2 k x1 x5 x8 x9 (([] : List (S45))) 0 x152000 x152001 x152002 x152003) else (some x8)
def spec_l4Pairs.l2 : Nat → List Int → Int → List (List (S45)) → Int → List (S45) → Int → List Int → List Int → List Int → List Int → Option ((List (List (S45))))
 | 0, _, _, _, _, _, _, _, _, _, _ => none
 | k + 1, x1, x5, x8, x9, x10, x11, x152000, x152001, x152002, x152003 => if x11 ≤ x5 then (if 0 < (x8.length : Int) then ((spec_l4Rest.f k x152000 x152001 x152002 x152003 x1 (rd_L2 x8 0) x9 x11 false).bind fun t166 => ((spec_l4Rest.f k x152000 x152001 x152002 x152003 x1 (rd_L2 x8 0) x9 x11 true).bind fun t168 => (if x10.length < 8796093022208 then (spec_l4Pairs.l2 k x1 x5 x8 x9 (x10 ++ [(⟨t166, t168⟩ : S45)]) (wrap64 (x11 + 1)) x152000 x152001 x152002 x152003) else (none)))) else (none)) else ((some (([x10] : List (List (S45))) : List (List (S45)))).bind fun y172 => (if y172.length + x8.length < 5864062014805 then (spec_l4Pairs.l1 k x1 x5 (y172 ++ x8) (wrap64 (x9 - 1)) x152000 x152001 x152002 x152003) else (none)))
end
def spec_l4Pairs.f (k : Nat) (l0_0 : List Int) (l0_1 : List Int) (l0_2 : List Int) (l0_3 : List Int) (l1 : List Int) : Option ((List (List (S45)))) := (spec_l2Sum.f k l0_0).bind fun t152 => (spec_l4Pairs.l0 k l1 t152 (([(⟨0, 0⟩ : S45)] : List (S45))) 1 l0_0 l0_1 l0_2 l0_3)
theorem spec_l4Pairs.mono_l : ∀ k, (∀ y0 y1 y2 y3 y4 y5 y6 y7, LeO (spec_l4Pairs.l0 k y0 y1 y2 y3 y4 y5 y6 y7) (spec_l4Pairs.l0 (k + 1) y0 y1 y2 y3 y4 y5 y6 y7)) ∧ (∀ y0 y1 y2 y3 y4 y5 y6 y7, LeO (spec_l4Pairs.l1 k y0 y1 y2 y3 y4 y5 y6 y7) (spec_l4Pairs.l1 (k + 1) y0 y1 y2 y3 y4 y5 y6 y7)) ∧ (∀ y0 y1 y2 y3 y4 y5 y6 y7 y8 y9, LeO (spec_l4Pairs.l2 k y0 y1 y2 y3 y4 y5 y6 y7 y8 y9) (spec_l4Pairs.l2 (k + 1) y0 y1 y2 y3 y4 y5 y6 y7 y8 y9))
 | 0 => ⟨fun _ _ _ _ _ _ _ _ r h => by simp [spec_l4Pairs.l0] at h, fun _ _ _ _ _ _ _ _ r h => by simp [spec_l4Pairs.l1] at h, fun _ _ _ _ _ _ _ _ _ _ r h => by simp [spec_l4Pairs.l2] at h⟩
 | k + 1 => by
  obtain ⟨ih0, ih1, ih2⟩ := spec_l4Pairs.mono_l k
  refine ⟨?_, ?_, ?_⟩
  ·
   intro y0 y1 y2 y3 y4 y5 y6 y7
   unfold spec_l4Pairs.l0
   repeat' first
   | (with_reducible exact ih0 _ _ _ _ _ _ _ _)
   | (with_reducible exact ih1 _ _ _ _ _ _ _ _)
   | (with_reducible exact ih2 _ _ _ _ _ _ _ _ _ _)
   | (with_reducible exact spec_l2Sum.mono _ _)
   | (with_reducible exact spec_l4Rest.mono _ _ _ _ _ _ _ _ _ _)
   | (with_reducible exact LeO.refl _)
   | (with_reducible exact LeO.none _)
   | (with_reducible refine LeO.ite ?_ ?_)
   | (with_reducible refine LeO.bind ?_ (fun _ => ?_))
   | exact ih0 _ _ _ _ _ _ _ _
   | exact ih1 _ _ _ _ _ _ _ _
   | exact ih2 _ _ _ _ _ _ _ _ _ _
   | exact spec_l2Sum.mono _ _
   | exact spec_l4Rest.mono _ _ _ _ _ _ _ _ _ _
   | exact LeO.none _
   | refine LeO.ite ?_ ?_
   | refine LeO.bind ?_ (fun _ => ?_)
  ·
   intro y0 y1 y2 y3 y4 y5 y6 y7
   unfold spec_l4Pairs.l1
   repeat' first
   | (with_reducible exact ih0 _ _ _ _ _ _ _ _)
   | (with_reducible exact ih1 _ _ _ _ _ _ _ _)
   | (with_reducible exact ih2 _ _ _ _ _ _ _ _ _ _)
   | (with_reducible exact spec_l2Sum.mono _ _)
   | (with_reducible exact spec_l4Rest.mono _ _ _ _ _ _ _ _ _ _)
   | (with_reducible exact LeO.refl _)
   | (with_reducible exact LeO.none _)
   | (with_reducible refine LeO.ite ?_ ?_)
   | (with_reducible refine LeO.bind ?_ (fun _ => ?_))
   | exact ih0 _ _ _ _ _ _ _ _
   | exact ih1 _ _ _ _ _ _ _ _
   | exact ih2 _ _ _ _ _ _ _ _ _ _
   | exact spec_l2Sum.mono _ _
   | exact spec_l4Rest.mono _ _ _ _ _ _ _ _ _ _
   | exact LeO.none _
   | refine LeO.ite ?_ ?_
   | refine LeO.bind ?_ (fun _ => ?_)
  ·
   intro y0 y1 y2 y3 y4 y5 y6 y7 y8 y9
   unfold spec_l4Pairs.l2
   repeat' first
   | (with_reducible exact ih0 _ _ _ _ _ _ _ _)
   | (with_reducible exact ih1 _ _ _ _ _ _ _ _)
   | (with_reducible exact ih2 _ _ _ _ _ _ _ _ _ _)
   | (with_reducible exact spec_l2Sum.mono _ _)
   | (with_reducible exact spec_l4Rest.mono _ _ _ _ _ _ _ _ _ _)
   | (with_reducible exact LeO.refl _)
   | (with_reducible exact LeO.none _)
   | (with_reducible refine LeO.ite ?_ ?_)
   | (with_reducible refine LeO.bind ?_ (fun _ => ?_))
   | exact ih0 _ _ _ _ _ _ _ _
   | exact ih1 _ _ _ _ _ _ _ _
   | exact ih2 _ _ _ _ _ _ _ _ _ _
   | exact spec_l2Sum.mono _ _
   | exact spec_l4Rest.mono _ _ _ _ _ _ _ _ _ _
   | exact LeO.none _
   | refine LeO.ite ?_ ?_
   | refine LeO.bind ?_ (fun _ => ?_)
theorem spec_l4Pairs.mono : ∀ a0 a1 a2 a3 a4 k, LeO (spec_l4Pairs.f k a0 a1 a2 a3 a4) (spec_l4Pairs.f (k + 1) a0 a1 a2 a3 a4) := by
 intro a0 a1 a2 a3 a4 k
 obtain ⟨ih0, ih1, ih2⟩ := spec_l4Pairs.mono_l k
 unfold spec_l4Pairs.f
 repeat' first
   | (with_reducible exact ih0 _ _ _ _ _ _ _ _)
   | (with_reducible exact ih1 _ _ _ _ _ _ _ _)
   | (with_reducible exact ih2 _ _ _ _ _ _ _ _ _ _)
   | (with_reducible exact spec_l2Sum.mono _ _)
   | (with_reducible exact spec_l4Rest.mono _ _ _ _ _ _ _ _ _ _)
   | (with_reducible exact LeO.refl _)
   | (with_reducible exact LeO.none _)
   | (with_reducible refine LeO.ite ?_ ?_)
   | (with_reducible refine LeO.bind ?_ (fun _ => ?_))
   | exact ih0 _ _ _ _ _ _ _ _
   | exact ih1 _ _ _ _ _ _ _ _
   | exact ih2 _ _ _ _ _ _ _ _ _ _
   | exact spec_l2Sum.mono _ _
   | exact spec_l4Rest.mono _ _ _ _ _ _ _ _ _ _
   | exact LeO.none _
   | refine LeO.ite ?_ ?_
   | refine LeO.bind ?_ (fun _ => ?_)
def spec_l4Pairs.T14 : Bool × List (List Nat × List Nat) := (true, [([], []), ([], []), ([], []), ([], []), ([3], [3]), ([4], [4]), ([], []), ([], []), ([1, 2, 5, 6, 7], [1, 2, 5, 6, 7]), ([], []), ([], []), ([], []), ([11], [11]), ([12], [12]), ([], []), ([], []), ([9, 10, 13, 14, 15, 8], [9, 10, 13, 14, 15]), ([8, 16], [8, 16]), ([17], [17]), ([0, 18, 16], [0, 18]), ([19, 19, 0, 1, 2, 3, 4, 5, 6, 7, 8, 9, 10, 11, 12, 13, 14, 15, 16, 17, 18, 19], [0, 19])])
def spec_l4Pairs.B14 : List Nat := [0, 0, 0, 0, 8, 24, 0, 0, 254, 0, 0, 0, 2048, 6144, 0, 0, 65534, 131070, 262142, 524287, 1048575]
theorem spec_l4Pairs.tab14 : rtab .any (opsOf Try.f16 14) = spec_l4Pairs.T14 := by kernel_rfl
theorem spec_l4Pairs.bits14 : waitsOk spec_l4Pairs.T14.2 spec_l4Pairs.B14 = true := by kernel_rfl
set_option maxHeartbeats 8000000 in
set_option maxRecDepth 100000 in
theorem spec_l4Pairs.calls (k : Nat) (A0_0 : Option Addr) (c0_0 : Nat) (l0_0 : List Int) (A0_1 : Option Addr) (c0_1 : Nat) (l0_1 : List Int) (A0_2 : Option Addr) (c0_2 : Nat) (l0_2 : List Int) (A0_3 : Option Addr) (c0_3 : Nat) (l0_3 : List Int) (A1 : Option Addr) (c1 : Nat) (l1 : List Int) (r : List (List (S45))) (w : World) (hr0_0 : Kd.C (Kd.int .i64) w A0_0 l0_0.length l0_0) (hc0_0 : l0_0.length ≤ c0_0) (hr0_1 : Kd.C (Kd.int .i64) w A0_1 l0_1.length l0_1) (hc0_1 : l0_1.length ≤ c0_1) (hr0_2 : Kd.C (Kd.int .i64) w A0_2 l0_2.length l0_2) (hc0_2 : l0_2.length ≤ c0_2) (hr0_3 : Kd.C (Kd.int .i64) w A0_3 l0_3.length l0_3) (hc0_3 : l0_3.length ≤ c0_3) (hr1 : Kd.C (Kd.int .i64) w A1 l1.length l1) (hc1 : l1.length ≤ c1) (h : spec_l4Pairs.f k l0_0 l0_1 l0_2 l0_3 l1 = some r) :
  Calls Try.prog 16 #[.agg #[.slice A0_0 l0_0.length c0_0, .slice A0_1 l0_1.length c0_1, .slice A0_2 l0_2.length c0_2, .slice A0_3 l0_3.length c0_3], .slice A1 l1.length c1] w fun e w' => ∃ v0_ : Value, e = .returned (v0_) ∧ Kd.N (Kd.slice 45 k45) 41 w' w.heap.size (fun k_ => (w.heap.size ≤ k_)) v0_ r ∧ Below w.heap.size w w' := by
 have hu28 := Try.underlying28
 have hu45 := Try.underlying45
 have HR0_0 := am_ hr0_0
 have HC0_0 := am_ hc0_0
 clear hr0_0 hc0_0
 have HR0_1 := am_ hr0_1
 have HC0_1 := am_ hc0_1
 clear hr0_1 hc0_1
 have HR0_2 := am_ hr0_2
 have HC0_2 := am_ hc0_2
 clear hr0_2 hc0_2
 have HR0_3 := am_ hr0_3
 have HC0_3 := am_ hc0_3
 clear hr0_3 hc0_3
 have HR1 := am_ hr1
 have HC1 := am_ hc1
 clear hr1 hc1
 have HB := am_ (Below.refl w.heap.size w)
 have H : ((spec_l2Sum.f k l0_0).bind fun t152 => (spec_l4Pairs.l0 k l1 t152 (([(⟨0, 0⟩ : S45)] : List (S45))) 1 l0_0 l0_1 l0_2 l0_3)) = some r := h
 clear h
 replace H := Option.bind_eq_some_iff.mp H
 obtain ⟨t152, A30, H⟩ := H
 replace H : (spec_l4Pairs.l0 k l1 t152 (([(⟨0, 0⟩ : S45)] : List (S45))) 1 l0_0 l0_1 l0_2 l0_3) = some r := H
 have A3 := am_ A30
 clear A30
 obtain ⟨y153, hy153⟩ : ∃ y_ : List (S45), y_ = (([(⟨0, 0⟩ : S45)] : List (S45))) := ⟨_, rfl⟩
 replace H : (spec_l4Pairs.l0 k l1 t152 y153 1 l0_0 l0_1 l0_2 l0_3) = some r := by first | (rw [hy153]; with_reducible exact H) | (have H2_ := (Option.bind_some _ _).symm.trans H; rw [hy153]; with_reducible exact H2_) | (have H2_ := (Option.bind_some _ _).symm.trans H; with_reducible exact H2_) | with_reducible exact H | (rw [hy153]; exact H) | exact H
 have Ny153 := am_ hy153
 clear hy153
 have H' := am_ H
 clear H
 go_enter Try.func16, Try.ntmps16
 go_wp2_with (first | ((with_reducible refine gate_dst (N := 2) rfl ?_); refine box_event ?hg (N := 2) ?hd (cs := #[.slice A0_0 l0_0.length c0_0, .slice A0_1 l0_1.length c0_1, .slice A0_2 l0_2.length c0_2, .slice A0_3 l0_3.length c0_3]) (t := 28) ?hr ?_; (case hd => rfl); (case hg => rfl); (case hr => first | (go_simp; done) | (go_simp; rfl)); intro gb151 hg w4 hbox hb; have n0_ := am_ (bp_ (by repeat (first | (with_reducible first | exact HB.out | apply ba_ | apply pw_below_drewN | apply bd_) | exact HB.out)) hb); have n1_ := am_ (hbox); have n2_ := am_ ((by rw [hg]; exact (bz_ (by repeat (first | (with_reducible first | exact HB.out | apply ba_ | apply pw_below_drewN | apply bd_) | exact HB.out))) : w.heap.size ≤ gb151)); have n3_ := am_ ((by rw [hg]; exact (bz_ (by repeat (first | (with_reducible first | exact HB.out | apply ba_ | apply pw_below_drewN | apply bd_) | exact HB.out))) : w.heap.size ≤ gb151)); clear HB; have HB := n0_; have BK151 := n1_; have GW151 := n2_; have GE151 := n3_; clear n0_ n1_ n2_ n3_; clear hb hbox hg; have hcz5_0 : w4.cell? ⟨gb151, 0, none⟩ = some (.slice A0_0 l0_0.length c0_0) := (kc_ BK151.out 0).trans rfl; have hcz5_1 : w4.cell? ⟨gb151, 1, none⟩ = some (.slice A0_1 l0_1.length c0_1) := (kc_ BK151.out 1).trans rfl; have hcz5_2 : w4.cell? ⟨gb151, 2, none⟩ = some (.slice A0_2 l0_2.length c0_2) := (kc_ BK151.out 2).trans rfl; have hcz5_3 : w4.cell? ⟨gb151, 3, none⟩ = some (.slice A0_3 l0_3.length c0_3) := (kc_ BK151.out 3).trans rfl; have hfz5_0 := kf_ BK151.out 0; have hfz5_1 := kf_ BK151.out 1; have hfz5_2 := kf_ BK151.out 2; have hfz5_3 := kf_ BK151.out 3) | ((with_reducible refine gate_callee (f := 23) rfl ?_); refine goesL_ (some 14) rfl rfl Try.func23 (by kernel_rfl) rfl #[.slice A0_0 l0_0.length c0_0] rfl (by (try simp only [List.map_toArray, List.map_cons, List.map_nil]); first | done | rfl | (simp only [List.length_drop, List.length_take]; rfl)) ?_; (with_reducible refine (spec_l2Sum.calls k _ _ l0_0 t152 _ ?side1 ?side2 A3.out).mono ?_); (case side1 => repeat (first | exact (cb_ HR0_0.out HB.out) | (with_reducible refine ca_ ?_ _) | (with_reducible refine cn_ ?_ _) | (with_reducible refine cd_ ?_))); (case side2 => exact HC0_0.out); rintro e w' ⟨rfl, ⟨nd, rfl⟩⟩; refine ⟨_, rfl, ?_⟩) | ((with_reducible refine gate_dst (N := 16) rfl ?_); refine Kd.R_lit k45 _ 45 ?hg (N := 16) ?hd (xs := ([(⟨0, 0⟩ : S45)] : List (S45))) (inner := [.int .i64 0, .int .i64 0]) (ok := fun _ => True) (okp := fun _ => True) ?hr ?hp (fun _ hk => hk) trivial (Below.refl _ _) (Nat.le_refl _) (by simp) ?_; (case hd => rfl); (case hg => rfl); (case hr => first | (go_simp; done) | (go_simp; rfl)); (case hp => exact (Reps.c2 (show Kd.M k45 _ _ _ (⟨0, 0⟩ : S45) [.int .i64 0, .int .i64 0] from (k45_mkM _ _ _ (⟨0, 0⟩ : S45) )) (Reps.none _ _))); intro v154 w6 ho7 hb hg_ hnew_; clear hg_ hnew_; (first | rw [← Ny153.out] at ho7 | (simp only [Int.reduceToNat] at ho7; rw [← Ny153.out] at ho7)); have n0_ := am_ (Kd.R_lower (Kd.R_newM (M := fun k_ => (w.heap.size ≤ k_)) ho7 (bz_ (by repeat (first | (with_reducible first | exact HB.out | apply ba_ | apply pw_below_drewN | apply bd_ | refine bs_ ?_ GE151.out) | exact HB.out))) (fun k_ h_ => h_)) (bz_ (by repeat (first | (with_reducible first | exact HB.out | apply ba_ | apply pw_below_drewN | apply bd_ | refine bs_ ?_ GE151.out) | exact HB.out)))); have n1_ := am_ (kb_ (g := gb151) (o := .cells #[.slice A0_0 l0_0.length c0_0, .slice A0_1 l0_1.length c0_1, .slice A0_2 l0_2.length c0_2, .slice A0_3 l0_3.length c0_3] 28 (0, 0)) (by (with_reducible repeat (first | refine kn_ ?_ _ | refine kd_ ?_ | refine ka_ ?_ _)); exact BK151.out) hb); have n2_ := am_ (bp_ (by repeat (first | (with_reducible first | exact HB.out | apply ba_ | apply pw_below_drewN | apply bd_ | refine bs_ ?_ GE151.out) | exact HB.out)) hb); clear BK151; clear HB; have HO155 := n0_; have BK151 := n1_; have HB := n2_; clear n0_ n1_ n2_; clear hb ho7))
 go_loopg [6, 7] k (fun kq v6 v7 w' => ∃ (x6_1 : List (S45)) (x7_1 : Int), v7 = .int .i64 x7_1 ∧ Aside0 (spec_l4Pairs.l0 kq l1 t152 x6_1 x7_1 l0_0 l0_1 l0_2 l0_3 = some r) ∧ Aside0 (kq ≤ k) ∧ Aside0 (Kd.R k45 45 w' w.heap.size (fun k_ => (w.heap.size ≤ k_)) v6 x6_1) ∧ Aside0 (w'.heap[gb151]? = some (.cells #[(.slice A0_0 l0_0.length c0_0), (.slice A0_1 l0_1.length c0_1), (.slice A0_2 l0_2.length c0_2), (.slice A0_3 l0_3.length c0_3)] 28 (0, 0))) ∧ Aside0 (Below w.heap.size w w'))
 case atStart => exact ⟨(y153), (1), (by first | rfl | (simp; done) | (simp [*]; done)), H', ⟨Nat.le_refl _⟩, ⟨by (with_reducible repeat (first | apply ra_ | apply rn_ | apply rd_)); exact rm_ HO155.out (fun _ hk => hk.1)⟩, ⟨by (with_reducible repeat (first | refine kn_ ?_ _ | refine kd_ ?_ | refine ka_ ?_ _)); exact BK151.out⟩, ⟨by repeat (first | (with_reducible first | exact HB.out | apply ba_ | apply pw_below_drewN | apply bd_ | refine bs_ ?_ GE151.out) | exact HB.out)⟩⟩
 case round =>
  clear H'
  try clear c1
  try clear c2
  try clear p2
  try clear hcz5_0
  try clear hcz5_1
  try clear hcz5_2
  try clear hcz5_3
  try clear hfz5_0
  try clear hfz5_1
  try clear hfz5_2
  try clear hfz5_3
  obtain ⟨x6_1, x7_1, rfl, HA, HK1, HO_6, BK151, HB⟩ := hrel
  cases gk with
  | zero => exact absurd HA.out (by simp [spec_l4Pairs.l0])
  | succ k1 =>
   have H := HA.out
   clear HA
   simp only [spec_l4Pairs.l0] at H
   by_cases c8 : x7_1 ≤ t152
   ·
    rw [if_pos c8] at H
    have c8b0 : decide (x7_1 ≤ t152) = true := decide_eq_true c8
    clear c8
    by_cases c9 : x6_1.length < 8796093022208
    ·
     rw [if_pos c9] at H
     have LMc9 := am_ c9
     clear c9
     obtain ⟨y156, hy156⟩ : ∃ y_ : List (S45), y_ = (x6_1 ++ [(⟨(-1), (-1)⟩ : S45)]) := ⟨_, rfl⟩
     replace H : (spec_l4Pairs.l0 k1 l1 t152 y156 (wrap64 (x7_1 + 1)) l0_0 l0_1 l0_2 l0_3) = some r := by first | (rw [hy156]; with_reducible exact H) | (have H2_ := (Option.bind_some _ _).symm.trans H; rw [hy156]; with_reducible exact H2_) | (have H2_ := (Option.bind_some _ _).symm.trans H; with_reducible exact H2_) | with_reducible exact H | (rw [hy156]; exact H) | exact H
     have Ny156 := am_ hy156
     clear hy156
     have H' := am_ H
     clear H
     go_wp2_with (first | ((with_reducible refine gate_builtin (b := .append) (xs := #[.tmp 22, .tmp 24]) rfl ?_); at_builtin; refine Kd.R_append k45 (w0 := w) w.heap.size rfl (.tmp 22) (.tmp 24) 41 45 (.agg #[(.int .i64 0), (.int .i64 0)]) 16 rfl Try.underlying41 info45 rfl (by decide) (by omega) u6 x6_1 (⟨(-1), (-1)⟩ : S45) [.int .i64 (-1), .int .i64 (-1)] (fun k_ => (w.heap.size ≤ k_)) (fun _ => False) rfl rfl ?aP (fun _ hk => hk.elim) ?aF ?aO ?aB ?aS ?aL ?_; (case aP => exact k45_mkM _ _ _ (⟨(-1), (-1)⟩ : S45)); (case aB => exact (by repeat (first | (with_reducible first | exact HB.out | apply ba_ | apply pw_below_drewN | apply bd_ | refine bs_ ?_ GE151.out) | exact HB.out))); (case aF => exact (fun k_ hk => (Nat.le_trans (bz_ (by repeat (first | (with_reducible first | exact HB.out | apply ba_ | apply pw_below_drewN | apply bd_ | refine bs_ ?_ GE151.out) | exact HB.out))) hk))); (case aO => exact (by (with_reducible repeat (first | apply ra_ | apply rn_ | apply rd_)); exact HO_6.out)); (case aS => exact (bz_ (by repeat (first | (with_reducible first | exact HB.out | apply ba_ | apply pw_below_drewN | apply bd_ | refine bs_ ?_ GE151.out) | exact HB.out)))); (case aL => have := LMc9.out; omega); intro v157 w10 ho hb hg hat; rw [← Ny156.out] at ho; have n0_ := am_ (blk_grown (g := gb151) (o := .cells #[.slice A0_0 l0_0.length c0_0, .slice A0_1 l0_1.length c0_1, .slice A0_2 l0_2.length c0_2, .slice A0_3 l0_3.length c0_3] 28 (0, 0)) (by (with_reducible repeat (first | refine kn_ ?_ _ | refine kd_ ?_ | refine ka_ ?_ _)); exact BK151.out) hg (Kd.R_ne HO_6.out BK151.out (by decide))); have n1_ := am_ (hb); have n2_ := am_ (ho); clear BK151; clear HB; clear HO_6; have BK151 := n0_; have HB := n1_; have HO158 := n2_; clear n0_ n1_ n2_; clear ho hb hg hat))
     go_roundg k1
     case measure => have := HK1.out; omega
     case rel => exact ⟨(y156), (wrap64 (x7_1 + 1)), (by first | rfl | (simp; done) | (simp [*]; done)), H', ⟨by have := HK1.out; omega⟩, ⟨by (with_reducible repeat (first | apply ra_ | apply rn_ | apply rd_)); exact HO158.out⟩, ⟨by (with_reducible repeat (first | refine kn_ ?_ _ | refine kd_ ?_ | refine ka_ ?_ _)); exact BK151.out⟩, ⟨by repeat (first | (with_reducible first | exact HB.out | apply ba_ | apply pw_below_drewN | apply bd_ | refine bs_ ?_ GE151.out) | exact HB.out)⟩⟩
    ·
     rw [if_neg c9] at H
     exact absurd H (by simp)
   ·
    rw [if_neg c8] at H
    have c8b0 : decide (x7_1 ≤ t152) = false := decide_eq_false c8
    clear c8
    obtain ⟨y159, hy159⟩ : ∃ y_ : List (List (S45)), y_ = (([x6_1] : List (List (S45)))) := ⟨_, rfl⟩
    replace H : (spec_l4Pairs.l1 k1 l1 t152 y159 (wrap64 ((l0_0.length : Int) - 1)) l0_0 l0_1 l0_2 l0_3) = some r := by first | (rw [hy159]; with_reducible exact H) | (have H2_ := (Option.bind_some _ _).symm.trans H; rw [hy159]; with_reducible exact H2_) | (have H2_ := (Option.bind_some _ _).symm.trans H; with_reducible exact H2_) | with_reducible exact H | (rw [hy159]; exact H) | exact H
    have Ny159 := am_ hy159
    clear hy159
    have H' := am_ H
    clear H
    obtain ⟨Ao11, co11, eo11⟩ := Kd.R_slice HO_6.out
    subst eo11
    go_wp2_with (first | ((with_reducible refine gate_dst (N := 27) rfl ?_); refine Kd.N_lit (Kd.slice 45 k45) _ 41 ?hg (N' := 27) ?hd (xs := ([x6_1] : List (List (S45)))) (inner := [.slice Ao11 x6_1.length co11]) (ok := (fun k_ => (w.heap.size ≤ k_) ∧ k_ ≠ gb151)) (okp := (fun k_ => (w.heap.size ≤ k_) ∧ k_ ≠ gb151)) ?hr ?hp (fun _ hk => hk) ((show ∀ k_, wr.heap.size ≤ k_ → (fun k_ => (w.heap.size ≤ k_) ∧ k_ ≠ gb151) k_ from fun k_ hk => ⟨(Nat.le_trans (bz_ (by repeat (first | (with_reducible first | exact HB.out | apply ba_ | apply pw_below_drewN | apply bd_ | refine bs_ ?_ GE151.out) | exact HB.out))) hk), Kd.freshB (g := gb151) (o := .cells #[.slice A0_0 l0_0.length c0_0, .slice A0_1 l0_1.length c0_1, .slice A0_2 l0_2.length c0_2, .slice A0_3 l0_3.length c0_3] 28 (0, 0)) (by (with_reducible repeat (first | refine kn_ ?_ _ | refine kd_ ?_ | refine ka_ ?_ _)); exact BK151.out) k_ hk⟩) _ (Nat.le_refl _)) (Below.refl _ _) (Nat.le_refl _) (by simp) ?_; (case hd => rfl); (case hg => rfl); (case hr => first | (go_simp; done) | (go_simp; rfl)); (case hp => exact (Reps.one (show Kd.FK (Kd.slice 45 k45) _ _ x6_1 [.slice Ao11 x6_1.length co11] from (Kd.FK_slice_mk (Kd.R_reads' (rm_ (ok' := (fun k_ => (w.heap.size ≤ k_) ∧ k_ ≠ gb151)) (Kd.R_types (HO_6.out) BK151.out (by decide)) (fun k_ hk => ⟨hk.1, hk.2⟩))).2.1 (Kd.R_F (rm_ (ok' := (fun k_ => (w.heap.size ≤ k_) ∧ k_ ≠ gb151)) (Kd.R_types (HO_6.out) BK151.out (by decide)) (fun k_ hk => ⟨hk.1, hk.2⟩))))) (Reps.none _ _))); intro v160 w12 ho13 hb hg_ hnew_; clear hg_ hnew_; (first | rw [← Ny159.out] at ho13 | (simp only [Int.reduceToNat] at ho13; rw [← Ny159.out] at ho13)); have n0_ := am_ (Kd.N_lower ho13 (bz_ (by repeat (first | (with_reducible first | exact HB.out | apply ba_ | apply pw_below_drewN | apply bd_ | refine bs_ ?_ GE151.out) | exact HB.out)))); have n1_ := am_ (kb_ (g := gb151) (o := .cells #[.slice A0_0 l0_0.length c0_0, .slice A0_1 l0_1.length c0_1, .slice A0_2 l0_2.length c0_2, .slice A0_3 l0_3.length c0_3] 28 (0, 0)) (by (with_reducible repeat (first | refine kn_ ?_ _ | refine kd_ ?_ | refine ka_ ?_ _)); exact BK151.out) hb); have n2_ := am_ (bp_ (by repeat (first | (with_reducible first | exact HB.out | apply ba_ | apply pw_below_drewN | apply bd_ | refine bs_ ?_ GE151.out) | exact HB.out)) hb); clear BK151; clear HB; clear HO_6; have HO161 := n0_; have BK151 := n1_; have HB := n2_; clear n0_ n1_ n2_; clear hb ho13; have hcz14_0 : w12.cell? ⟨gb151, 0, none⟩ = some (.slice A0_0 l0_0.length c0_0) := (kc_ BK151.out 0).trans rfl; have hcz14_1 : w12.cell? ⟨gb151, 1, none⟩ = some (.slice A0_1 l0_1.length c0_1) := (kc_ BK151.out 1).trans rfl; have hcz14_2 : w12.cell? ⟨gb151, 2, none⟩ = some (.slice A0_2 l0_2.length c0_2) := (kc_ BK151.out 2).trans rfl; have hcz14_3 : w12.cell? ⟨gb151, 3, none⟩ = some (.slice A0_3 l0_3.length c0_3) := (kc_ BK151.out 3).trans rfl; have hfz14_0 := kf_ BK151.out 0; have hfz14_1 := kf_ BK151.out 1; have hfz14_2 := kf_ BK151.out 2; have hfz14_3 := kf_ BK151.out 3))
    go_loopg [8, 9] k1 (fun kq v8 v9 w' => ∃ (x8_2 : List (List (S45))) (x9_2 : Int), v9 = .int .i64 x9_2 ∧ Aside0 (spec_l4Pairs.l1 kq l1 t152 x8_2 x9_2 l0_0 l0_1 l0_2 l0_3 = some r) ∧ Aside0 (kq ≤ k1) ∧ Aside0 (Kd.N (Kd.slice 45 k45) 41 w' w.heap.size (fun k_ => (w.heap.size ≤ k_) ∧ k_ ≠ gb151) v8 x8_2) ∧ Aside0 (w'.heap[gb151]? = some (.cells #[(.slice A0_0 l0_0.length c0_0), (.slice A0_1 l0_1.length c0_1), (.slice A0_2 l0_2.length c0_2), (.slice A0_3 l0_3.length c0_3)] 28 (0, 0))) ∧ Aside0 (Below w.heap.size w w'))
    case atStart => exact ⟨(y159), (wrap64 ((l0_0.length : Int) - 1)), (by first | rfl | (simp; done) | (simp [*]; done)), H', ⟨Nat.le_refl _⟩, ⟨by (with_reducible repeat (first | apply Kd.N_alloc | apply Kd.N_drewN | apply Kd.N_drew)); exact HO161.out⟩, ⟨by (with_reducible repeat (first | refine kn_ ?_ _ | refine kd_ ?_ | refine ka_ ?_ _)); exact BK151.out⟩, ⟨by repeat (first | (with_reducible first | exact HB.out | apply ba_ | apply pw_below_drewN | apply bd_ | refine bs_ ?_ GE151.out) | exact HB.out)⟩⟩
    case round =>
     clear H'
     try clear c1
     try clear c2
     try clear p2
     try clear p6
     try clear c8
     try clear c8b0
     try clear c9
     try clear hcz14_0
     try clear hcz14_1
     try clear hcz14_2
     try clear hcz14_3
     try clear hcz5_0
     try clear hcz5_1
     try clear hcz5_2
     try clear hcz5_3
     try clear hfz14_0
     try clear hfz14_1
     try clear hfz14_2
     try clear hfz14_3
     try clear hfz5_0
     try clear hfz5_1
     try clear hfz5_2
     try clear hfz5_3
     try clear p2
     obtain ⟨x8_2, x9_2, rfl, HA, HK2, HO_8, BK151, HB⟩ := hrel
     cases gk with
     | zero => exact absurd HA.out (by simp [spec_l4Pairs.l1])
     | succ k2 =>
      have H := HA.out
      clear HA
      simp only [spec_l4Pairs.l1] at H
      by_cases c15 : x9_2 ≥ 0
      ·
       rw [if_pos c15] at H
       have c15b0 : decide (0 ≤ x9_2) = true := decide_eq_true c15
       clear c15
       obtain ⟨y162, hy162⟩ : ∃ y_ : List (S45), y_ = (([] : List (S45))) := ⟨_, rfl⟩
       replace H : (spec_l4Pairs.l2 k2 l1 t152 x8_2 x9_2 y162 0 l0_0 l0_1 l0_2 l0_3) = some r := by first | (rw [hy162]; with_reducible exact H) | (have H2_ := (Option.bind_some _ _).symm.trans H; rw [hy162]; with_reducible exact H2_) | (have H2_ := (Option.bind_some _ _).symm.trans H; with_reducible exact H2_) | with_reducible exact H | (rw [hy162]; exact H) | exact H
       have Ny162 := am_ hy162
       clear hy162
       have H' := am_ H
       clear H
       go_wp2_with (first | ((with_reducible refine gate_dst (N := 36) rfl ?_); refine Kd.R_lit k45 _ 45 ?hg (N := 36) ?hd (xs := ([] : List (S45))) (inner := []) (ok := fun _ => True) (okp := fun _ => True) ?hr ?hp (fun _ hk => hk) trivial (Below.refl _ _) (Nat.le_refl _) (by simp) ?_; (case hd => rfl); (case hg => rfl); (case hr => first | (go_simp; done) | (go_simp; rfl)); (case hp => exact (Reps.none _ _)); intro v163 w16 ho17 hb hg_ hnew_; clear hg_ hnew_; (first | rw [← Ny162.out] at ho17 | (simp only [Int.reduceToNat] at ho17; rw [← Ny162.out] at ho17)); have n0_ := am_ (Kd.N_elder' (by (with_reducible repeat (first | apply Kd.N_alloc | apply Kd.N_drewN | apply Kd.N_drew)); exact HO_8.out) (Kd.R_base ho17) hb); have n1_ := am_ (Kd.R_lower (Kd.R_newM (M := fun k_ => (w.heap.size ≤ k_)) ho17 (bz_ (by repeat (first | (with_reducible first | exact HB.out | apply ba_ | apply pw_below_drewN | apply bd_ | refine bs_ ?_ GE151.out) | exact HB.out))) (fun k_ h_ => h_)) (bz_ (by repeat (first | (with_reducible first | exact HB.out | apply ba_ | apply pw_below_drewN | apply bd_ | refine bs_ ?_ GE151.out) | exact HB.out)))); have n2_ := am_ (kb_ (g := gb151) (o := .cells #[.slice A0_0 l0_0.length c0_0, .slice A0_1 l0_1.length c0_1, .slice A0_2 l0_2.length c0_2, .slice A0_3 l0_3.length c0_3] 28 (0, 0)) (by (with_reducible repeat (first | refine kn_ ?_ _ | refine kd_ ?_ | refine ka_ ?_ _)); exact BK151.out) hb); have n3_ := am_ (bp_ (by repeat (first | (with_reducible first | exact HB.out | apply ba_ | apply pw_below_drewN | apply bd_ | refine bs_ ?_ GE151.out) | exact HB.out)) hb); clear HO_8; clear BK151; clear HB; have HO_8 := n0_; have HO164 := n1_; have BK151 := n2_; have HB := n3_; clear n0_ n1_ n2_ n3_; clear hb ho17))
       go_loopg [10, 11] k2 (fun kq v10 v11 w' => ∃ (x10_3 : List (S45)) (x11_3 : Int), v11 = .int .i64 x11_3 ∧ Aside0 (spec_l4Pairs.l2 kq l1 t152 x8_2 x9_2 x10_3 x11_3 l0_0 l0_1 l0_2 l0_3 = some r) ∧ Aside0 (kq ≤ k2) ∧ Aside0 (Kd.N (Kd.slice 45 k45) 41 w' w.heap.size (fun k_ => (w.heap.size ≤ k_) ∧ some k_ ≠ (v10 : Value).ownBlock ∧ k_ ≠ gb151) u8 x8_2) ∧ Aside0 (Kd.R k45 45 w' w.heap.size (fun k_ => (w.heap.size ≤ k_)) v10 x10_3) ∧ Aside0 (w'.heap[gb151]? = some (.cells #[(.slice A0_0 l0_0.length c0_0), (.slice A0_1 l0_1.length c0_1), (.slice A0_2 l0_2.length c0_2), (.slice A0_3 l0_3.length c0_3)] 28 (0, 0))) ∧ Aside0 (Below w.heap.size w w'))
       case atStart => exact ⟨(y162), (0), (by first | rfl | (simp; done) | (simp [*]; done)), H', ⟨Nat.le_refl _⟩, ⟨by (with_reducible repeat (first | apply Kd.N_alloc | apply Kd.N_drewN | apply Kd.N_drew)); exact Kd.N_mono HO_8.out (fun _ hk => ⟨hk.1.1, ⟨hk.2, hk.1.2⟩⟩)⟩, ⟨by (with_reducible repeat (first | apply ra_ | apply rn_ | apply rd_)); exact rm_ HO164.out (fun _ hk => hk.1)⟩, ⟨by (with_reducible repeat (first | refine kn_ ?_ _ | refine kd_ ?_ | refine ka_ ?_ _)); exact BK151.out⟩, ⟨by repeat (first | (with_reducible first | exact HB.out | apply ba_ | apply pw_below_drewN | apply bd_ | refine bs_ ?_ GE151.out) | exact HB.out)⟩⟩
       case round =>
        clear H'
        try clear c1
        try clear c2
        try clear p2
        try clear p6
        try clear c8
        try clear c8b0
        try clear c9
        try clear c15
        try clear c15b0
        try clear c16
        try clear hcz14_0
        try clear hcz14_1
        try clear hcz14_2
        try clear hcz14_3
        try clear hcz5_0
        try clear hcz5_1
        try clear hcz5_2
        try clear hcz5_3
        try clear hfz14_0
        try clear hfz14_1
        try clear hfz14_2
        try clear hfz14_3
        try clear hfz5_0
        try clear hfz5_1
        try clear hfz5_2
        try clear hfz5_3
        try clear p2
        try clear p6
        obtain ⟨x10_3, x11_3, rfl, HA, HK3, HO_8, HO_10, BK151, HB⟩ := hrel
        cases gk with
        | zero => exact absurd HA.out (by simp [spec_l4Pairs.l2])
        | succ k3 =>
         have H := HA.out
         clear HA
         simp only [spec_l4Pairs.l2] at H
         by_cases c18 : x11_3 ≤ t152
         ·
          rw [if_pos c18] at H
          have c18b0 : decide (x11_3 ≤ t152) = true := decide_eq_true c18
          clear c18
          by_cases c19 : 0 < (x8_2.length : Int)
          ·
           rw [if_pos c19] at H
           have c19b0 : decide (0 < (x8_2.length : Int)) = true := decide_eq_true c19
           have c19b1 : decide (0 < x8_2.length) = true := decide_eq_true (by omega)
           clear c19
           replace H := Option.bind_eq_some_iff.mp H
           obtain ⟨t166, A200, H⟩ := H
           replace H : ((spec_l4Rest.f k3 l0_0 l0_1 l0_2 l0_3 l1 (rd_L2 x8_2 0) x9_2 x11_3 true).bind fun t168 => (if x10_3.length < 8796093022208 then (spec_l4Pairs.l2 k3 l1 t152 x8_2 x9_2 (x10_3 ++ [(⟨t166, t168⟩ : S45)]) (wrap64 (x11_3 + 1)) l0_0 l0_1 l0_2 l0_3) else (none))) = some r := H
           have A20 := am_ A200
           clear A200
           replace H := Option.bind_eq_some_iff.mp H
           obtain ⟨t168, A210, H⟩ := H
           replace H : (if x10_3.length < 8796093022208 then (spec_l4Pairs.l2 k3 l1 t152 x8_2 x9_2 (x10_3 ++ [(⟨t166, t168⟩ : S45)]) (wrap64 (x11_3 + 1)) l0_0 l0_1 l0_2 l0_3) else (none)) = some r := H
           have A21 := am_ A210
           clear A210
           by_cases c22 : x10_3.length < 8796093022208
           ·
            rw [if_pos c22] at H
            have LMc22 := am_ c22
            clear c22
            obtain ⟨y169, hy169⟩ : ∃ y_ : List (S45), y_ = (x10_3 ++ [(⟨t166, t168⟩ : S45)]) := ⟨_, rfl⟩
            replace H : (spec_l4Pairs.l2 k3 l1 t152 x8_2 x9_2 y169 (wrap64 (x11_3 + 1)) l0_0 l0_1 l0_2 l0_3) = some r := by first | (rw [hy169]; with_reducible exact H) | (have H2_ := (Option.bind_some _ _).symm.trans H; rw [hy169]; with_reducible exact H2_) | (have H2_ := (Option.bind_some _ _).symm.trans H; with_reducible exact H2_) | with_reducible exact H | (rw [hy169]; exact H) | exact H
            have Ny169 := am_ hy169
            clear hy169
            have H' := am_ H
            clear H
            try go_wp2
            have n0_ := am_ (Kd.N_drew HO_8.out)
            have n1_ := am_ (rd_ HO_10.out)
            have n2_ := am_ (kd_ BK151.out)
            have n3_ := am_ (bd_ HB.out)
            clear HO_8
            clear HO_10
            clear BK151
            clear HB
            have HO_8 := n0_
            have HO_10 := n1_
            have BK151 := n2_
            have HB := n3_
            clear n0_ n1_ n2_ n3_
            obtain ⟨Ao24, co24, eo24⟩ := Kd.N_slice HO_8.out
            (first | subst eo24 | (injection eo24 with f1_ f2_ f3_; have f4_ := f1_.symm; have f5_ := f3_.symm; clear f1_ f2_ f3_; subst f4_; subst f5_))
            have p165 : 0 ≤ (0 : Int) := (by omega)
            have q165 : 0 < (x8_2.length : Int) := of_decide_eq_true (by first | (with_reducible assumption) | assumption)
            obtain ⟨ad165, A165_0, c165_0, e165, hx165_0, hl165_0, hi165_0⟩ := at_L2 (Kd.N_reads' HO_8.out).2.2 0 p165 q165
            cases e165
            obtain ⟨ce165, hce165, hMe165, hcc165⟩ := Kd.N_get HO_8.out [] 0 p165 (by first | exact q165 | exact of_decide_eq_true (by first | (with_reducible assumption) | assumption) | (have e_ := (Kd.N_reads' HO_8.out).1; omega))
            obtain ⟨ua165_0, uc165_0, rfl, ul165_0, ge165_0⟩ := Kd.FK_slice_open hMe165
            have hv165_0 := hcc165 0 _ rfl
            rw [Nat.add_zero, show ((Kd.slice 45 k45)).sz = 1 from rfl, Nat.mul_one] at hv165_0
            replace hv165_0 := Option.some.inj (hv165_0.symm.trans hx165_0)
            injection hv165_0 with hva_ hvn_ hvc_
            rw [hva_] at ge165_0
            rw [hvc_] at ul165_0
            have HL165_0 := am_ (show Kd.V k45 45 _ w.heap.size _ _ (rd_L2 x8_2 0) from Kd.V_mk ul165_0 ge165_0)
            clear hva_ hvn_ hvc_ ge165_0 ul165_0
            clear hcc165 hce165
            have qi165 : (0 < x8_2.length) = True := eq_true (by omega)
            (try rw [show ((0 : Int)).toNat = 0 from rfl] at hx165_0)
            (try rw [Addr.add_zero'] at hx165_0)
            have HR165_0 := am_ hi165_0
            have HC165_0 := am_ hl165_0
            clear hi165_0 hl165_0
            replace p165 := eq_true p165
            replace q165 := eq_true q165
            have p167 : 0 ≤ (0 : Int) := (by omega)
            have q167 : 0 < (x8_2.length : Int) := of_decide_eq_true (by first | (with_reducible assumption) | assumption)
            obtain ⟨ad167, A167_0, c167_0, e167, hx167_0, hl167_0, hi167_0⟩ := at_L2 (Kd.N_reads' HO_8.out).2.2 0 p167 q167
            obtain rfl : ad165 = ad167 := (by injection e167)
            obtain ⟨ce167, hce167, hMe167, hcc167⟩ := Kd.N_get HO_8.out [] 0 p167 (by first | exact q167 | exact of_decide_eq_true (by first | (with_reducible assumption) | assumption) | (have e_ := (Kd.N_reads' HO_8.out).1; omega))
            obtain ⟨ua167_0, uc167_0, rfl, ul167_0, ge167_0⟩ := Kd.FK_slice_open hMe167
            have hv167_0 := hcc167 0 _ rfl
            rw [Nat.add_zero, show ((Kd.slice 45 k45)).sz = 1 from rfl, Nat.mul_one] at hv167_0
            replace hv167_0 := Option.some.inj (hv167_0.symm.trans hx167_0)
            injection hv167_0 with hva_ hvn_ hvc_
            rw [hva_] at ge167_0
            rw [hvc_] at ul167_0
            have HL167_0 := am_ (show Kd.V k45 45 _ w.heap.size _ _ (rd_L2 x8_2 0) from Kd.V_mk ul167_0 ge167_0)
            clear hva_ hvn_ hvc_ ge167_0 ul167_0
            clear hcc167 hce167
            have qi167 : (0 < x8_2.length) = True := eq_true (by omega)
            (try rw [show ((0 : Int)).toNat = 0 from rfl] at hx167_0)
            (try rw [Addr.add_zero'] at hx167_0)
            have HR167_0 := am_ hi167_0
            have HC167_0 := am_ hl167_0
            clear hi167_0 hl167_0
            replace p167 := eq_true p167
            replace q167 := eq_true q167
            have ea_ := Option.some.inj (hx165_0.symm.trans hx167_0)
            injection ea_ with ea_ en_ ec_
            subst ea_
            subst ec_
            clear en_
            refine start_ (n := 21) (S := fun w' => w'.cell? ⟨gb151, 0, none⟩ = some (.slice A0_0 l0_0.length c0_0) ∧ w'.cell? ⟨gb151, 1, none⟩ = some (.slice A0_1 l0_1.length c0_1) ∧ w'.cell? ⟨gb151, 2, none⟩ = some (.slice A0_2 l0_2.length c0_2) ∧ w'.cell? ⟨gb151, 3, none⟩ = some (.slice A0_3 l0_3.length c0_3) ∧ w'.cell? ad165 = some (.slice A165_0 (rd_L2 x8_2 0).length c165_0) ∧ w'.cell? ad165 = some (.slice A165_0 (rd_L2 x8_2 0).length c165_0)) (ds := [18, 19]) #[false, false, false, false, false, false, false, false, false, false, false, false, false, false, false, false, false, false, false, false, false] (by kernel_rfl) rfl rfl ⟨(kc_ BK151.out 0).trans rfl, (kc_ BK151.out 1).trans rfl, (kc_ BK151.out 2).trans rfl, (kc_ BK151.out 3).trans rfl, hx165_0, hx167_0⟩ (fun hHeld => ?_); refine with_tabW spec_l4Pairs.tab14 spec_l4Pairs.bits14 (fun HT_ HW_ => ?_)
            generalize wr.drew = w23 at HO_8 HO_10 BK151 HB HL165_0 HL167_0 HR165_0 HR167_0 hx165_0 hx167_0 hHeld ⊢
            refine pure_ (i := 0) (N := some 42) (v := ?_) (a' := ?_) #[true, false, false, false, false, false, false, false, false, false, false, false, false, false, false, false, false, false, false, false, false] rfl rfl (any_of HT_.out (by kernel_rfl)) (fun _ _ _ h => h) (Or.inl ⟨by rfl, ?_⟩) ?_ ?_
            rotate_left
            ·
             intro w'
             go_simp
             with_reducible rfl
            rotate_left
            ·
             simp only [Act.put, List.setIfInBounds_toArray, List.set_cons_zero, List.set_cons_succ, i64_w, i32_w]
             rfl
            refine pure_ (i := 2) (N := some 44) (v := ?_) (a' := ?_) #[true, false, true, false, false, false, false, false, false, false, false, false, false, false, false, false, false, false, false, false, false] rfl rfl (any_of HT_.out (by kernel_rfl)) (fun _ _ _ h => h) (Or.inl ⟨by rfl, ?_⟩) ?_ ?_
            rotate_left
            ·
             intro w'
             go_simp
             with_reducible rfl
            rotate_left
            ·
             simp only [Act.put, List.setIfInBounds_toArray, List.set_cons_zero, List.set_cons_succ, i64_w, i32_w]
             rfl
            refine pure_ (i := 3) (N := some 45) (v := ?_) (a' := ?_) #[true, false, true, true, false, false, false, false, false, false, false, false, false, false, false, false, false, false, false, false, false] rfl rfl (any_of HT_.out (by kernel_rfl)) (fun _ _ _ h => h) (Or.inl ⟨by rfl, ?_⟩) ?_ ?_
            rotate_left
            ·
             intro w'
             go_simp
             with_reducible rfl
            rotate_left
            ·
             simp only [Act.put, List.setIfInBounds_toArray, List.set_cons_zero, List.set_cons_succ, i64_w, i32_w]
             rfl
            refine pure_ (i := 4) (N := some 46) (v := ?_) (a' := ?_) #[true, false, true, true, true, false, false, false, false, false, false, false, false, false, false, false, false, false, false, false, false] rfl rfl (any_of HT_.out (by kernel_rfl)) (fun _ _ _ h => h) (Or.inl ⟨by rfl, ?_⟩) ?_ ?_
            rotate_left
            ·
             intro w'
             go_simp
             with_reducible rfl
            rotate_left
            ·
             simp only [Act.put, List.setIfInBounds_toArray, List.set_cons_zero, List.set_cons_succ, i64_w, i32_w]
             rfl
            refine pure_ (i := 6) (N := some 48) (v := ?_) (a' := ?_) #[true, false, true, true, true, false, true, false, false, false, false, false, false, false, false, false, false, false, false, false, false] rfl rfl (any_of HT_.out (by kernel_rfl)) (fun _ _ _ h => h) (Or.inl ⟨by rfl, ?_⟩) ?_ ?_
            rotate_left
            ·
             intro w'
             go_simp
             with_reducible rfl
            rotate_left
            ·
             simp only [Act.put, List.setIfInBounds_toArray, List.set_cons_zero, List.set_cons_succ, i64_w, i32_w]
             rfl
            refine pure_ (i := 7) (N := some 49) (v := ?_) (a' := ?_) #[true, false, true, true, true, false, true, true, false, false, false, false, false, false, false, false, false, false, false, false, false] rfl rfl (any_of HT_.out (by kernel_rfl)) (fun _ _ _ h => h) (Or.inl ⟨by rfl, ?_⟩) ?_ ?_
            rotate_left
            ·
             intro w'
             go_simp
             with_reducible rfl
            rotate_left
            ·
             simp only [Act.put, List.setIfInBounds_toArray, List.set_cons_zero, List.set_cons_succ, i64_w, i32_w]
             rfl
            refine pure_ (i := 10) (N := some 52) (v := ?_) (a' := ?_) #[true, false, true, true, true, false, true, true, false, false, true, false, false, false, false, false, false, false, false, false, false] rfl rfl (any_of HT_.out (by kernel_rfl)) (fun _ _ _ h => h) (Or.inl ⟨by rfl, ?_⟩) ?_ ?_
            rotate_left
            ·
             intro w'
             go_simp
             with_reducible rfl
            rotate_left
            ·
             simp only [Act.put, List.setIfInBounds_toArray, List.set_cons_zero, List.set_cons_succ, i64_w, i32_w]
             rfl
            refine pure_ (i := 11) (N := some 53) (v := ?_) (a' := ?_) #[true, false, true, true, true, false, true, true, false, false, true, true, false, false, false, false, false, false, false, false, false] rfl rfl (any_of HT_.out (by kernel_rfl)) (fun _ _ _ h => h) (Or.inl ⟨by rfl, ?_⟩) ?_ ?_
            rotate_left
            ·
             intro w'
             go_simp
             with_reducible rfl
            rotate_left
            ·
             simp only [Act.put, List.setIfInBounds_toArray, List.set_cons_zero, List.set_cons_succ, i64_w, i32_w]
             rfl
            refine pure_ (i := 12) (N := some 54) (v := ?_) (a' := ?_) #[true, false, true, true, true, false, true, true, false, false, true, true, true, false, false, false, false, false, false, false, false] rfl rfl (any_of HT_.out (by kernel_rfl)) (fun _ _ _ h => h) (Or.inl ⟨by rfl, ?_⟩) ?_ ?_
            rotate_left
            ·
             intro w'
             go_simp
             with_reducible rfl
            rotate_left
            ·
             simp only [Act.put, List.setIfInBounds_toArray, List.set_cons_zero, List.set_cons_succ, i64_w, i32_w]
             rfl
            refine pure_ (i := 14) (N := some 56) (v := ?_) (a' := ?_) #[true, false, true, true, true, false, true, true, false, false, true, true, true, false, true, false, false, false, false, false, false] rfl rfl (any_of HT_.out (by kernel_rfl)) (fun _ _ _ h => h) (Or.inl ⟨by rfl, ?_⟩) ?_ ?_
            rotate_left
            ·
             intro w'
             go_simp
             with_reducible rfl
            rotate_left
            ·
             simp only [Act.put, List.setIfInBounds_toArray, List.set_cons_zero, List.set_cons_succ, i64_w, i32_w]
             rfl
            refine pure_ (i := 15) (N := some 57) (v := ?_) (a' := ?_) #[true, false, true, true, true, false, true, true, false, false, true, true, true, false, true, true, false, false, false, false, false] rfl rfl (any_of HT_.out (by kernel_rfl)) (fun _ _ _ h => h) (Or.inl ⟨by rfl, ?_⟩) ?_ ?_
            rotate_left
            ·
             intro w'
             go_simp
             with_reducible rfl
            rotate_left
            ·
             simp only [Act.put, List.setIfInBounds_toArray, List.set_cons_zero, List.set_cons_succ, i64_w, i32_w]
             rfl
            refine take_ (i := 1) (N := some 43) (v := ?_) (a' := ?_) #[true, true, true, true, true, false, true, true, false, false, true, true, true, false, true, true, false, false, false, false, false] rfl rfl (take_ofW HT_.out HW_.out (by kernel_rfl)) (fun _ _ _ h => h) (Or.inl ⟨by rfl, ?_⟩) hHeld ?_ ?_
            rotate_left
            ·
             rintro w' ⟨s0, s1, s2, s3, s4, s5⟩
             go_simp
             with_reducible rfl
            rotate_left
            ·
             simp only [Act.put, List.setIfInBounds_toArray, List.set_cons_zero, List.set_cons_succ, i64_w, i32_w]
             rfl
            refine take_ (i := 5) (N := some 47) (v := ?_) (a' := ?_) #[true, true, true, true, true, true, true, true, false, false, true, true, true, false, true, true, false, false, false, false, false] rfl rfl (take_ofW HT_.out HW_.out (by kernel_rfl)) (fun _ _ _ h => h) (Or.inl ⟨by rfl, ?_⟩) hHeld ?_ ?_
            rotate_left
            ·
             rintro w' ⟨s0, s1, s2, s3, s4, s5⟩
             go_simp
             with_reducible rfl
            rotate_left
            ·
             simp only [Act.put, List.setIfInBounds_toArray, List.set_cons_zero, List.set_cons_succ, i64_w, i32_w]
             rfl
            refine take_ (i := 9) (N := some 51) (v := ?_) (a' := ?_) #[true, true, true, true, true, true, true, true, false, true, true, true, true, false, true, true, false, false, false, false, false] rfl rfl (take_ofW HT_.out HW_.out (by kernel_rfl)) (fun _ _ _ h => h) (Or.inl ⟨by rfl, ?_⟩) hHeld ?_ ?_
            rotate_left
            ·
             rintro w' ⟨s0, s1, s2, s3, s4, s5⟩
             go_simp
             with_reducible rfl
            rotate_left
            ·
             simp only [Act.put, List.setIfInBounds_toArray, List.set_cons_zero, List.set_cons_succ, i64_w, i32_w]
             rfl
            refine take_ (i := 13) (N := some 55) (v := ?_) (a' := ?_) #[true, true, true, true, true, true, true, true, false, true, true, true, true, true, true, true, false, false, false, false, false] rfl rfl (take_ofW HT_.out HW_.out (by kernel_rfl)) (fun _ _ _ h => h) (Or.inl ⟨by rfl, ?_⟩) hHeld ?_ ?_
            rotate_left
            ·
             rintro w' ⟨s0, s1, s2, s3, s4, s5⟩
             go_simp
             with_reducible rfl
            rotate_left
            ·
             simp only [Act.put, List.setIfInBounds_toArray, List.set_cons_zero, List.set_cons_succ, i64_w, i32_w]
             rfl
            refine one_ (i := 8) (N := some 50) #[true, true, true, true, true, true, true, true, true, true, true, true, true, true, true, true, false, false, false, false, false] rfl rfl (one_of HT_.out (by kernel_rfl)) (by decide) (fun K hK => ?_)
            refine goes_ Try.func24 (by kernel_rfl) rfl #[.agg #[.slice A0_0 l0_0.length c0_0, .slice A0_1 l0_1.length c0_1, .slice A0_2 l0_2.length c0_2, .slice A0_3 l0_3.length c0_3], .slice A1 l1.length c1, .slice A165_0 (rd_L2 x8_2 0).length c165_0, .int .i64 x9_2, .int .i64 x11_3, .bool false] (by rfl) rfl rfl (by (try simp only [List.map_toArray, List.map_cons, List.map_nil]); first | done | rfl | (simp only [List.length_drop, List.length_take]; rfl)) ?_
            with_reducible refine (spec_l4Rest.calls k3 _ _ l0_0 _ _ l0_1 _ _ l0_2 _ _ l0_3 _ _ l1 _ _ (rd_L2 x8_2 0) x9_2 x11_3 false t166 _ ?side1 ?side2 ?side3 ?side4 ?side5 ?side6 ?side7 ?side8 ?side9 ?side10 ?side11 ?side12 A20.out).mono ?_
            (case side1 => repeat (first | exact (cb_ HR0_0.out HB.out) | (with_reducible refine ca_ ?_ _) | (with_reducible refine cn_ ?_ _) | (with_reducible refine cd_ ?_)))
            (case side2 => exact HC0_0.out)
            (case side3 => repeat (first | exact (cb_ HR0_1.out HB.out) | (with_reducible refine ca_ ?_ _) | (with_reducible refine cn_ ?_ _) | (with_reducible refine cd_ ?_)))
            (case side4 => exact HC0_1.out)
            (case side5 => repeat (first | exact (cb_ HR0_2.out HB.out) | (with_reducible refine ca_ ?_ _) | (with_reducible refine cn_ ?_ _) | (with_reducible refine cd_ ?_)))
            (case side6 => exact HC0_2.out)
            (case side7 => repeat (first | exact (cb_ HR0_3.out HB.out) | (with_reducible refine ca_ ?_ _) | (with_reducible refine cn_ ?_ _) | (with_reducible refine cd_ ?_)))
            (case side8 => exact HC0_3.out)
            (case side9 => repeat (first | exact (cb_ HR1.out HB.out) | (with_reducible refine ca_ ?_ _) | (with_reducible refine cn_ ?_ _) | (with_reducible refine cd_ ?_)))
            (case side10 => exact HC1.out)
            (case side11 => repeat (first | exact (by repeat (first | (with_reducible exact HR165_0.out) | (with_reducible refine ca_ ?_ _) | (with_reducible refine cn_ ?_ _) | (with_reducible refine cd_ ?_) | exact HR165_0.out)) | (with_reducible refine ca_ ?_ _) | (with_reducible refine cn_ ?_ _) | (with_reducible refine cd_ ?_)))
            (case side12 => exact HC165_0.out)
            rintro e w25 ⟨rfl, hb⟩
            have HS4_ := (hb.cell (World.block_lt_of_cell? _ _ (hHeld.2.2.2.2.1))).trans (hHeld.2.2.2.2.1)
            have HS5_ := (hb.cell (World.block_lt_of_cell? _ _ (hHeld.2.2.2.2.2))).trans (hHeld.2.2.2.2.2)
            refine ⟨_, rfl, ?_⟩
            have n0_ := am_ (Kd.N_below (by (with_reducible repeat (first | apply Kd.N_alloc | apply Kd.N_drewN | apply Kd.N_drew)); exact HO_8.out) hb)
            have n1_ := am_ (Kd.R_below (by (with_reducible repeat (first | apply ra_ | apply rn_ | apply rd_)); exact HO_10.out) hb)
            have n2_ := am_ (Kd.V_below (by (with_reducible repeat (first | apply Kd.V_alloc | apply Kd.V_drewN | apply Kd.V_drew)); exact HL165_0.out) hb)
            have n3_ := am_ (Kd.V_below (by (with_reducible repeat (first | apply Kd.V_alloc | apply Kd.V_drewN | apply Kd.V_drew)); exact HL167_0.out) hb)
            have n4_ := am_ (kb_ (g := gb151) (o := .cells #[.slice A0_0 l0_0.length c0_0, .slice A0_1 l0_1.length c0_1, .slice A0_2 l0_2.length c0_2, .slice A0_3 l0_3.length c0_3] 28 (0, 0)) (by (with_reducible repeat (first | refine kn_ ?_ _ | refine kd_ ?_ | refine ka_ ?_ _)); exact BK151.out) hb)
            have n5_ := am_ (cb_ (by repeat (first | (with_reducible exact HR165_0.out) | (with_reducible refine ca_ ?_ _) | (with_reducible refine cn_ ?_ _) | (with_reducible refine cd_ ?_) | exact HR165_0.out)) hb)
            have n6_ := am_ (cb_ (by repeat (first | (with_reducible exact HR167_0.out) | (with_reducible refine ca_ ?_ _) | (with_reducible refine cn_ ?_ _) | (with_reducible refine cd_ ?_) | exact HR167_0.out)) hb)
            have n7_ := am_ (bp_ (by repeat (first | (with_reducible first | exact HB.out | apply ba_ | apply pw_below_drewN | apply bd_ | refine bs_ ?_ GE151.out) | exact HB.out)) hb)
            clear HO_8
            clear HO_10
            clear HL165_0
            clear HL167_0
            clear BK151
            clear HR165_0
            clear HR167_0
            clear HB
            have HO_8 := n0_
            have HO_10 := n1_
            have HL165_0 := n2_
            have HL167_0 := n3_
            have BK151 := n4_
            have HR165_0 := n5_
            have HR167_0 := n6_
            have HB := n7_
            clear n0_ n1_ n2_ n3_ n4_ n5_ n6_ n7_
            (try clear hb)
            (try clear hb2)
            (try clear hk)
            (try clear hi)
            refine hK.out _ _ ⟨(kc_ BK151.out 0).trans rfl, (kc_ BK151.out 1).trans rfl, (kc_ BK151.out 2).trans rfl, (kc_ BK151.out 3).trans rfl, HS4_, HS5_⟩ (fun hHeld => ?_)
            clear hK K
            refine norm_ (a' := ?_) ?_ ?_
            rotate_left
            ·
             show Act.put _ (some 50) _ = _
             simp only [Act.put, List.setIfInBounds_toArray, List.set_cons_zero, List.set_cons_succ, i64_w, i32_w]
             rfl
            refine one_ (i := 16) (N := some 58) #[true, true, true, true, true, true, true, true, true, true, true, true, true, true, true, true, true, false, false, false, false] rfl rfl (one_of HT_.out (by kernel_rfl)) (by decide) (fun K hK => ?_)
            refine goes_ Try.func24 (by kernel_rfl) rfl #[.agg #[.slice A0_0 l0_0.length c0_0, .slice A0_1 l0_1.length c0_1, .slice A0_2 l0_2.length c0_2, .slice A0_3 l0_3.length c0_3], .slice A1 l1.length c1, .slice A165_0 (rd_L2 x8_2 0).length c165_0, .int .i64 x9_2, .int .i64 x11_3, .bool true] (by rfl) rfl rfl (by (try simp only [List.map_toArray, List.map_cons, List.map_nil]); first | done | rfl | (simp only [List.length_drop, List.length_take]; rfl)) ?_
            with_reducible refine (spec_l4Rest.calls k3 _ _ l0_0 _ _ l0_1 _ _ l0_2 _ _ l0_3 _ _ l1 _ _ (rd_L2 x8_2 0) x9_2 x11_3 true t168 _ ?side1 ?side2 ?side3 ?side4 ?side5 ?side6 ?side7 ?side8 ?side9 ?side10 ?side11 ?side12 A21.out).mono ?_
            (case side1 => repeat (first | exact (cb_ HR0_0.out HB.out) | (with_reducible refine ca_ ?_ _) | (with_reducible refine cn_ ?_ _) | (with_reducible refine cd_ ?_)))
            (case side2 => exact HC0_0.out)
            (case side3 => repeat (first | exact (cb_ HR0_1.out HB.out) | (with_reducible refine ca_ ?_ _) | (with_reducible refine cn_ ?_ _) | (with_reducible refine cd_ ?_)))
            (case side4 => exact HC0_1.out)
            (case side5 => repeat (first | exact (cb_ HR0_2.out HB.out) | (with_reducible refine ca_ ?_ _) | (with_reducible refine cn_ ?_ _) | (with_reducible refine cd_ ?_)))
            (case side6 => exact HC0_2.out)
            (case side7 => repeat (first | exact (cb_ HR0_3.out HB.out) | (with_reducible refine ca_ ?_ _) | (with_reducible refine cn_ ?_ _) | (with_reducible refine cd_ ?_)))
            (case side8 => exact HC0_3.out)
            (case side9 => repeat (first | exact (cb_ HR1.out HB.out) | (with_reducible refine ca_ ?_ _) | (with_reducible refine cn_ ?_ _) | (with_reducible refine cd_ ?_)))
            (case side10 => exact HC1.out)
            (case side11 => repeat (first | exact (by repeat (first | (with_reducible exact HR167_0.out) | (with_reducible refine ca_ ?_ _) | (with_reducible refine cn_ ?_ _) | (with_reducible refine cd_ ?_) | exact HR167_0.out)) | (with_reducible refine ca_ ?_ _) | (with_reducible refine cn_ ?_ _) | (with_reducible refine cd_ ?_)))
            (case side12 => exact HC167_0.out)
            rintro e w26 ⟨rfl, hb⟩
            have HS4_ := (hb.cell (World.block_lt_of_cell? _ _ (hHeld.2.2.2.2.1))).trans (hHeld.2.2.2.2.1)
            have HS5_ := (hb.cell (World.block_lt_of_cell? _ _ (hHeld.2.2.2.2.2))).trans (hHeld.2.2.2.2.2)
            refine ⟨_, rfl, ?_⟩
            have n0_ := am_ (Kd.N_below (by (with_reducible repeat (first | apply Kd.N_alloc | apply Kd.N_drewN | apply Kd.N_drew)); exact HO_8.out) hb)
            have n1_ := am_ (Kd.R_below (by (with_reducible repeat (first | apply ra_ | apply rn_ | apply rd_)); exact HO_10.out) hb)
            have n2_ := am_ (Kd.V_below (by (with_reducible repeat (first | apply Kd.V_alloc | apply Kd.V_drewN | apply Kd.V_drew)); exact HL165_0.out) hb)
            have n3_ := am_ (Kd.V_below (by (with_reducible repeat (first | apply Kd.V_alloc | apply Kd.V_drewN | apply Kd.V_drew)); exact HL167_0.out) hb)
            have n4_ := am_ (kb_ (g := gb151) (o := .cells #[.slice A0_0 l0_0.length c0_0, .slice A0_1 l0_1.length c0_1, .slice A0_2 l0_2.length c0_2, .slice A0_3 l0_3.length c0_3] 28 (0, 0)) (by (with_reducible repeat (first | refine kn_ ?_ _ | refine kd_ ?_ | refine ka_ ?_ _)); exact BK151.out) hb)
            have n5_ := am_ (cb_ (by repeat (first | (with_reducible exact HR165_0.out) | (with_reducible refine ca_ ?_ _) | (with_reducible refine cn_ ?_ _) | (with_reducible refine cd_ ?_) | exact HR165_0.out)) hb)
            have n6_ := am_ (cb_ (by repeat (first | (with_reducible exact HR167_0.out) | (with_reducible refine ca_ ?_ _) | (with_reducible refine cn_ ?_ _) | (with_reducible refine cd_ ?_) | exact HR167_0.out)) hb)
            have n7_ := am_ (bp_ (by repeat (first | (with_reducible first | exact HB.out | apply ba_ | apply pw_below_drewN | apply bd_ | refine bs_ ?_ GE151.out) | exact HB.out)) hb)
            clear HO_8
            clear HO_10
            clear HL165_0
            clear HL167_0
            clear BK151
            clear HR165_0
            clear HR167_0
            clear HB
            have HO_8 := n0_
            have HO_10 := n1_
            have HL165_0 := n2_
            have HL167_0 := n3_
            have BK151 := n4_
            have HR165_0 := n5_
            have HR167_0 := n6_
            have HB := n7_
            clear n0_ n1_ n2_ n3_ n4_ n5_ n6_ n7_
            (try clear hb)
            (try clear hb2)
            (try clear hk)
            (try clear hi)
            refine hK.out _ _ ⟨(kc_ BK151.out 0).trans rfl, (kc_ BK151.out 1).trans rfl, (kc_ BK151.out 2).trans rfl, (kc_ BK151.out 3).trans rfl, HS4_, HS5_⟩ (fun hHeld => ?_)
            clear hK K
            refine norm_ (a' := ?_) ?_ ?_
            rotate_left
            ·
             show Act.put _ (some 58) _ = _
             simp only [Act.put, List.setIfInBounds_toArray, List.set_cons_zero, List.set_cons_succ, i64_w, i32_w]
             rfl
            refine pure_ (i := 17) (N := some 59) (v := ?_) (a' := ?_) #[true, true, true, true, true, true, true, true, true, true, true, true, true, true, true, true, true, true, false, false, false] rfl rfl (any_of HT_.out (by kernel_rfl)) (fun _ _ _ h => h) (Or.inl ⟨by rfl, ?_⟩) ?_ ?_
            rotate_left
            ·
             intro w'
             go_simp
             with_reducible rfl
            rotate_left
            ·
             simp only [Act.put, List.setIfInBounds_toArray, List.set_cons_zero, List.set_cons_succ, i64_w, i32_w]
             rfl
            refine last_ (i := 18) (N := some 60) #[true, true, true, true, true, true, true, true, true, true, true, true, true, true, true, true, true, true, true, false, false] rfl rfl (one_of HT_.out (by kernel_rfl)) (by decide) (fun K hK => ?_)
            refine value_ (w1 := ?_) (v := ?_) (by rfl) rfl ?_ ?_
            rotate_left 2
            ·
             go_simp
             constructor
             ·
              rfl
             ·
              rfl
            refine hK.out _ _ ?_
            clear hK K
            refine norm_ (a' := ?_) ?_ ?_
            rotate_left
            ·
             show Act.put _ (some 60) _ = _
             simp only [Act.put, List.setIfInBounds_toArray, List.set_cons_zero, List.set_cons_succ, i64_w, i32_w]
             rfl
            refine last_ (i := 19) (N := some 61) #[true, true, true, true, true, true, true, true, true, true, true, true, true, true, true, true, true, true, true, true, false] rfl rfl (one_of HT_.out (by kernel_rfl)) (by decide) (fun K hK => ?_)
            refine Kd.R_append_step k45 (w0 := w) w.heap.size (by rfl) (.tmp 42) (.tmp 60) 41 45 (.agg #[(.int .i64 0), (.int .i64 0)]) 16 rfl Try.underlying41 info45 rfl (by decide) (by omega) u10 x10_3 (⟨t166, t168⟩ : S45) [.int .i64 t166, .int .i64 t168] (fun k_ => (w.heap.size ≤ k_)) (fun _ => False) rfl rfl ?aP (fun _ hk => hk.elim) ?aF ?aO ?aB ?aS ?aL ?_
            (case aP => exact k45_mkM _ _ _ (⟨t166, t168⟩ : S45))
            (case aB => exact (by repeat (first | (with_reducible first | exact HB.out | apply ba_ | apply pw_below_drewN | apply bd_ | refine bs_ ?_ GE151.out) | exact HB.out)))
            (case aF => exact (fun k_ hk => (Nat.le_trans (bz_ (by repeat (first | (with_reducible first | exact HB.out | apply ba_ | apply pw_below_drewN | apply bd_ | refine bs_ ?_ GE151.out) | exact HB.out))) hk)))
            (case aO => exact (by (with_reducible repeat (first | apply ra_ | apply rn_ | apply rd_)); exact HO_10.out))
            (case aS => exact (bz_ (by repeat (first | (with_reducible first | exact HB.out | apply ba_ | apply pw_below_drewN | apply bd_ | refine bs_ ?_ GE151.out) | exact HB.out))))
            (case aL => have := LMc22.out; omega)
            intro v170 w27 ho hb hg hat
            rw [← Ny169.out] at ho
            have n0_ := am_ (Kd.N_afterv (ok := (fun k_ => (w.heap.size ≤ k_) ∧ k_ ≠ gb151)) (by (with_reducible repeat (first | apply Kd.N_alloc | apply Kd.N_drewN | apply Kd.N_drew)); exact Kd.N_mono HO_8.out (fun _ hk => ⟨⟨hk.1, hk.2.2⟩, hk.2.1⟩)) hg hat)
            have n1_ := am_ (blk_grown (g := gb151) (o := .cells #[.slice A0_0 l0_0.length c0_0, .slice A0_1 l0_1.length c0_1, .slice A0_2 l0_2.length c0_2, .slice A0_3 l0_3.length c0_3] 28 (0, 0)) (by (with_reducible repeat (first | refine kn_ ?_ _ | refine kd_ ?_ | refine ka_ ?_ _)); exact BK151.out) hg (Kd.R_ne HO_10.out BK151.out (by decide)))
            have n2_ := am_ (Kd.V_afterv (ok := (fun k_ => (w.heap.size ≤ k_) ∧ some k_ ≠ (.slice (some ad165) x8_2.length co24 : Value).ownBlock ∧ k_ ≠ gb151)) (by (with_reducible repeat (first | apply Kd.V_alloc | apply Kd.V_drewN | apply Kd.V_drew)); exact Kd.V_mono HL165_0.out (fun _ hk => ⟨⟨hk.1.1, ⟨hk.2, hk.1.2.2⟩⟩, hk.1.2.1⟩)) hg hat)
            have n3_ := am_ (Kd.V_afterv (ok := (fun k_ => (w.heap.size ≤ k_) ∧ some k_ ≠ (.slice (some ad165) x8_2.length co24 : Value).ownBlock ∧ k_ ≠ gb151)) (by (with_reducible repeat (first | apply Kd.V_alloc | apply Kd.V_drewN | apply Kd.V_drew)); exact Kd.V_mono HL167_0.out (fun _ hk => ⟨⟨hk.1.1, ⟨hk.2, hk.1.2.2⟩⟩, hk.1.2.1⟩)) hg hat)
            have n4_ := am_ (hb)
            have n5_ := am_ (ho)
            clear HO_8
            clear BK151
            clear HL165_0
            clear HL167_0
            clear HB
            clear HO_10
            have HO_8 := n0_
            have BK151 := n1_
            have HL165_0 := n2_
            have HL167_0 := n3_
            have HB := n4_
            have HO171 := n5_
            clear n0_ n1_ n2_ n3_ n4_ n5_
            clear ho hb hg hat
            refine hK.out _ _ ?_
            clear hK K
            refine norm_ (a' := ?_) ?_ ?_
            rotate_left
            ·
             show Act.put _ (some 61) _ = _
             simp only [Act.put, List.setIfInBounds_toArray, List.set_cons_zero, List.set_cons_succ, i64_w, i32_w]
             rfl
            refine pure_ (i := 20) (N := some 10) (v := ?_) (a' := ?_) #[true, true, true, true, true, true, true, true, true, true, true, true, true, true, true, true, true, true, true, true, true] rfl rfl (any_of HT_.out (by kernel_rfl)) (fun _ _ _ h => h) (Or.inl ⟨by rfl, ?_⟩) ?_ ?_
            rotate_left
            ·
             intro w'
             go_simp
             with_reducible rfl
            rotate_left
            ·
             simp only [Act.put, List.setIfInBounds_toArray, List.set_cons_zero, List.set_cons_succ, i64_w, i32_w]
             rfl
            refine done_ (done_of HT_.out (by kernel_rfl)) ?_
            try go_wp2
            go_roundg k3
            case measure => have := HK1.out; have := HK2.out; have := HK3.out; omega
            case rel => exact ⟨(y169), (wrap64 (x11_3 + 1)), (by first | rfl | (simp; done) | (simp [*]; done)), H', ⟨by have := HK1.out; have := HK2.out; have := HK3.out; omega⟩, ⟨by (with_reducible repeat (first | apply Kd.N_alloc | apply Kd.N_drewN | apply Kd.N_drew)); exact Kd.N_mono HO_8.out (fun _ hk => ⟨hk.1.1, ⟨hk.2, hk.1.2⟩⟩)⟩, ⟨by (with_reducible repeat (first | apply ra_ | apply rn_ | apply rd_)); exact HO171.out⟩, ⟨by (with_reducible repeat (first | refine kn_ ?_ _ | refine kd_ ?_ | refine ka_ ?_ _)); exact BK151.out⟩, ⟨by repeat (first | (with_reducible first | exact HB.out | apply ba_ | apply pw_below_drewN | apply bd_ | refine bs_ ?_ GE151.out) | exact HB.out)⟩⟩
           ·
            rw [if_neg c22] at H
            exact absurd H (by simp)
          ·
           rw [if_neg c19] at H
           exact absurd H (by simp)
         ·
          rw [if_neg c18] at H
          have c18b0 : decide (x11_3 ≤ t152) = false := decide_eq_false c18
          clear c18
          obtain ⟨y172, hy172⟩ : ∃ y_ : List (List (S45)), y_ = (([x10_3] : List (List (S45)))) := ⟨_, rfl⟩
          replace H : (if y172.length + x8_2.length < 5864062014805 then (spec_l4Pairs.l1 k3 l1 t152 (y172 ++ x8_2) (wrap64 (x9_2 - 1)) l0_0 l0_1 l0_2 l0_3) else (none)) = some r := by first | (rw [hy172]; with_reducible exact H) | (have H2_ := (Option.bind_some _ _).symm.trans H; rw [hy172]; with_reducible exact H2_) | (have H2_ := (Option.bind_some _ _).symm.trans H; with_reducible exact H2_) | with_reducible exact H | (rw [hy172]; exact H) | exact H
          have Ny172 := am_ hy172
          clear hy172
          by_cases c28 : y172.length + x8_2.length < 5864062014805
          ·
           rw [if_pos c28] at H
           have LMc28 := am_ c28
           clear c28
           obtain ⟨y175, hy175⟩ : ∃ y_ : List (List (S45)), y_ = (y172 ++ x8_2) := ⟨_, rfl⟩
           replace H : (spec_l4Pairs.l1 k3 l1 t152 y175 (wrap64 (x9_2 - 1)) l0_0 l0_1 l0_2 l0_3) = some r := by first | (rw [hy175]; with_reducible exact H) | (have H2_ := (Option.bind_some _ _).symm.trans H; rw [hy175]; with_reducible exact H2_) | (have H2_ := (Option.bind_some _ _).symm.trans H; with_reducible exact H2_) | with_reducible exact H | (rw [hy175]; exact H) | exact H
           have Ny175 := am_ hy175
           clear hy175
           have H' := am_ H
           clear H
           obtain ⟨Ao29, co29, eo29⟩ := Kd.R_slice HO_10.out
           subst eo29
           go_wp2_with (first | ((with_reducible refine gate_dst (N := 63) rfl ?_); refine Kd.N_lit (Kd.slice 45 k45) _ 41 ?hg (N' := 63) ?hd (xs := ([x10_3] : List (List (S45)))) (inner := [.slice Ao29 x10_3.length co29]) (ok := (fun k_ => (w.heap.size ≤ k_) ∧ some k_ ≠ (u8 : Value).ownBlock ∧ k_ ≠ gb151)) (okp := (fun k_ => (w.heap.size ≤ k_) ∧ some k_ ≠ (u8 : Value).ownBlock ∧ k_ ≠ gb151)) ?hr ?hp (fun _ hk => hk) ((show ∀ k_, wr.heap.size ≤ k_ → (fun k_ => (w.heap.size ≤ k_) ∧ some k_ ≠ (u8 : Value).ownBlock ∧ k_ ≠ gb151) k_ from fun k_ hk => ⟨(Nat.le_trans (bz_ (by repeat (first | (with_reducible first | exact HB.out | apply ba_ | apply pw_below_drewN | apply bd_ | refine bs_ ?_ GE151.out) | exact HB.out))) hk), Kd.fresh' (Kd.N_lt (by (with_reducible repeat (first | apply Kd.N_alloc | apply Kd.N_drewN | apply Kd.N_drew)); exact HO_8.out)) k_ hk, Kd.freshB (g := gb151) (o := .cells #[.slice A0_0 l0_0.length c0_0, .slice A0_1 l0_1.length c0_1, .slice A0_2 l0_2.length c0_2, .slice A0_3 l0_3.length c0_3] 28 (0, 0)) (by (with_reducible repeat (first | refine kn_ ?_ _ | refine kd_ ?_ | refine ka_ ?_ _)); exact BK151.out) k_ hk⟩) _ (Nat.le_refl _)) (Below.refl _ _) (Nat.le_refl _) (by simp) ?_; (case hd => rfl); (case hg => rfl); (case hr => first | (go_simp; done) | (go_simp; rfl)); (case hp => exact (Reps.one (show Kd.FK (Kd.slice 45 k45) _ _ x10_3 [.slice Ao29 x10_3.length co29] from (Kd.FK_slice_mk (Kd.R_reads' (rm_ (ok' := (fun k_ => (w.heap.size ≤ k_) ∧ some k_ ≠ (u8 : Value).ownBlock ∧ k_ ≠ gb151)) (Kd.R_types (Kd.R_apart' (HO_10.out) (Kd.N_typed HO_8.out) (by decide)) BK151.out (by decide)) (fun k_ hk => ⟨hk.1.1, ⟨hk.1.2, hk.2⟩⟩))).2.1 (Kd.R_F (rm_ (ok' := (fun k_ => (w.heap.size ≤ k_) ∧ some k_ ≠ (u8 : Value).ownBlock ∧ k_ ≠ gb151)) (Kd.R_types (Kd.R_apart' (HO_10.out) (Kd.N_typed HO_8.out) (by decide)) BK151.out (by decide)) (fun k_ hk => ⟨hk.1.1, ⟨hk.1.2, hk.2⟩⟩))))) (Reps.none _ _))); intro v173 w30 ho31 hb hg_ hnew_; clear hg_ hnew_; (first | rw [← Ny172.out] at ho31 | (simp only [Int.reduceToNat] at ho31; rw [← Ny172.out] at ho31)); have n0_ := am_ (Kd.N_elder' (by (with_reducible repeat (first | apply Kd.N_alloc | apply Kd.N_drewN | apply Kd.N_drew)); exact HO_8.out) (Kd.N_base ho31) hb); have n1_ := am_ (Kd.N_lower ho31 (bz_ (by repeat (first | (with_reducible first | exact HB.out | apply ba_ | apply pw_below_drewN | apply bd_ | refine bs_ ?_ GE151.out) | exact HB.out)))); have n2_ := am_ (kb_ (g := gb151) (o := .cells #[.slice A0_0 l0_0.length c0_0, .slice A0_1 l0_1.length c0_1, .slice A0_2 l0_2.length c0_2, .slice A0_3 l0_3.length c0_3] 28 (0, 0)) (by (with_reducible repeat (first | refine kn_ ?_ _ | refine kd_ ?_ | refine ka_ ?_ _)); exact BK151.out) hb); have n3_ := am_ (bp_ (by repeat (first | (with_reducible first | exact HB.out | apply ba_ | apply pw_below_drewN | apply bd_ | refine bs_ ?_ GE151.out) | exact HB.out)) hb); clear HO_8; clear BK151; clear HB; clear HO_10; have HO_8 := n0_; have HO174 := n1_; have BK151 := n2_; have HB := n3_; clear n0_ n1_ n2_ n3_; clear hb ho31; obtain ⟨Ao33, co33, eo33⟩ := Kd.N_slice HO_8.out; subst eo33) | ((with_reducible refine gate_builtin (b := .append) (xs := #[.tmp 63, .tmp 64]) rfl ?_); at_builtin; refine Kd.N_append_rows (Kd.slice 45 k45) (w0 := w) w.heap.size rfl (.tmp 63) (.tmp 64) 37 41 (.slice none 0 0) 24 rfl Try.underlying37 info41 rfl (by decide) (by omega) v173 y172 x8_2 _ _ _ (fun k_ => (w.heap.size ≤ k_) ∧ k_ ≠ gb151) (fun k_ => ((fun k_ => (w.heap.size ≤ k_) ∧ k_ ≠ gb151)) k_ ∧ some k_ ≠ (v173 : Value).ownBlock) rfl rfl ?aO ?aR (fun _ hk => hk) ?aF ?aB ?aS ?aL ?_; (case aR => exact (by skip; exact Kd.N_F (Kd.N_mono (ok' := (fun k_ => ((fun k_ => (w.heap.size ≤ k_) ∧ k_ ≠ gb151)) k_ ∧ some k_ ≠ (v173 : Value).ownBlock)) (HO_8.out) (fun k_ hk => ⟨⟨hk.1.1, hk.1.2.2⟩, hk.2⟩)))); (case aB => exact (by repeat (first | (with_reducible first | exact HB.out | apply ba_ | apply pw_below_drewN | apply bd_ | refine bs_ ?_ GE151.out) | exact HB.out))); (case aF => exact (fun k_ hk => ⟨(Nat.le_trans (bz_ (by repeat (first | (with_reducible first | exact HB.out | apply ba_ | apply pw_below_drewN | apply bd_ | refine bs_ ?_ GE151.out) | exact HB.out))) hk), Kd.freshB (g := gb151) (o := .cells #[.slice A0_0 l0_0.length c0_0, .slice A0_1 l0_1.length c0_1, .slice A0_2 l0_2.length c0_2, .slice A0_3 l0_3.length c0_3] 28 (0, 0)) (by (with_reducible repeat (first | refine kn_ ?_ _ | refine kd_ ?_ | refine ka_ ?_ _)); exact BK151.out) k_ hk⟩)); (case aO => exact (by (with_reducible repeat (first | apply Kd.N_alloc | apply Kd.N_drewN | apply Kd.N_drew)); exact Kd.N_mono HO174.out (fun _ hk => ⟨hk.1, hk.2.2⟩))); (case aS => exact (bz_ (by repeat (first | (with_reducible first | exact HB.out | apply ba_ | apply pw_below_drewN | apply bd_ | refine bs_ ?_ GE151.out) | exact HB.out)))); (case aL => have := LMc28.out; omega); intro v176 w32 ho hb hg hat; rw [← Ny175.out] at ho; have n0_ := am_ (Kd.N_afterv (ok := (fun k_ => (w.heap.size ≤ k_) ∧ k_ ≠ gb151)) (by (with_reducible repeat (first | apply Kd.N_alloc | apply Kd.N_drewN | apply Kd.N_drew)); exact Kd.N_mono HO_8.out (fun _ hk => ⟨⟨hk.1.1, hk.1.2.2⟩, hk.2⟩)) hg hat); have n1_ := am_ (blk_grown (g := gb151) (o := .cells #[.slice A0_0 l0_0.length c0_0, .slice A0_1 l0_1.length c0_1, .slice A0_2 l0_2.length c0_2, .slice A0_3 l0_3.length c0_3] 28 (0, 0)) (by (with_reducible repeat (first | refine kn_ ?_ _ | refine kd_ ?_ | refine ka_ ?_ _)); exact BK151.out) hg (Kd.N_ne HO174.out BK151.out (by decide))); have n2_ := am_ (hb); have n3_ := am_ (ho); clear HO_8; clear BK151; clear HB; clear HO174; have HO_8 := n0_; have BK151 := n1_; have HB := n2_; have HO177 := n3_; clear n0_ n1_ n2_ n3_; clear ho hb hg hat))
           go_roundg k3
           case measure => have := HK1.out; have := HK2.out; have := HK3.out; omega
           case rel => exact ⟨(y175), (wrap64 (x9_2 - 1)), (by first | rfl | (simp; done) | (simp [*]; done)), H', ⟨by have := HK1.out; have := HK2.out; have := HK3.out; omega⟩, ⟨by (with_reducible repeat (first | apply Kd.N_alloc | apply Kd.N_drewN | apply Kd.N_drew)); exact HO177.out⟩, ⟨by (with_reducible repeat (first | refine kn_ ?_ _ | refine kd_ ?_ | refine ka_ ?_ _)); exact BK151.out⟩, ⟨by repeat (first | (with_reducible first | exact HB.out | apply ba_ | apply pw_below_drewN | apply bd_ | refine bs_ ?_ GE151.out) | exact HB.out)⟩⟩
          ·
           rw [if_neg c28] at H
           exact absurd H (by simp)
      ·
       rw [if_neg c15] at H
       have c15b0 : decide (0 ≤ x9_2) = false := decide_eq_false c15
       clear c15
       obtain rfl := Option.some.inj H
       go_wp2
       go_ret
       exact ⟨_, by first | rfl | (simp [errW_none, errW_some] <;> rfl) | (simp [*, errW_none, errW_some] <;> rfl), by (with_reducible repeat (first | apply Kd.N_alloc | apply Kd.N_drewN | apply Kd.N_drew)); exact Kd.N_mono HO_8.out (fun _ hk => hk.1), by repeat (first | (with_reducible first | exact HB.out | apply ba_ | apply pw_below_drewN | apply bd_ | refine bs_ ?_ GE151.out) | exact HB.out)⟩

/-! ### spec_l1Most: function 17 -/
def spec_l1Most.f (a0 : Int) (a1 : Int) : Option (Int) := if a0 > a1 then (some a0) else (some a1)
set_option maxHeartbeats 8000000 in
set_option maxRecDepth 100000 in
theorem spec_l1Most.calls (a0 : Int) (a1 : Int) (r : Int) (w : World) (h : spec_l1Most.f a0 a1 = some r) :
  Calls Try.prog 17 #[.int .i64 a0, .int .i64 a1] w fun e w' => e = .returned (.int .i64 r) ∧ Drawn0 w w' := by
 have H : (if a0 > a1 then (some a0) else (some a1)) = some r := h
 clear h
 by_cases c3 : a0 > a1
 ·
  rw [if_pos c3] at H
  have c3b0 : decide (a1 < a0) = true := decide_eq_true c3
  clear c3
  obtain rfl := Option.some.inj H
  go_enter Try.func17, Try.ntmps17
  go_wp2
  go_ret
  exact ⟨by first | rfl | (simp; done) | (simp [*]; done), by repeat (first | exact Drawn0.refl _ | apply Drawn0.step)⟩
 ·
  rw [if_neg c3] at H
  have c3b0 : decide (a1 < a0) = false := decide_eq_false c3
  clear c3
  obtain rfl := Option.some.inj H
  go_enter Try.func17, Try.ntmps17
  go_wp2
  go_ret
  exact ⟨by first | rfl | (simp; done) | (simp [*]; done), by repeat (first | exact Drawn0.refl _ | apply Drawn0.step)⟩

end Go.Proofs.Ytaejjkgbcajhoaa.PFnExactRegularPlan
