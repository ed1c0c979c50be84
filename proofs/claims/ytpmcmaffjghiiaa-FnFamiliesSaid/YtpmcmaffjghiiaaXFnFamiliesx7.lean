-- Made by wip/xprint.py: the print of the kit, called over a changed copy of what it reads.
-- PRINTED by print.py (a twelfth state) out of the translation. Not trusted: Lean checks it.
import Derived.Test.YtpmcmaffjghiiaaDyn
import Derived.Test.YtpmcmaffjghiiaaXFnFamiliesx0
import Derived.Test.YtpmcmaffjghiiaaXFnFamiliesx3
import Derived.Test.YtpmcmaffjghiiaaXFnFamiliesx4
import Derived.Test.YtpmcmaffjghiiaaXFnFamiliesx6
namespace Go.Proofs.Ytpmcmaffjghiiaa.PFnFamilies
open Go.Proofs.Ytpmcmaffjghiiaa.Dyn
open Go.Proofs.YtpmcmaffjghiiaaW.PrintWords.Aside0 renaming mk → am_
open Go.Proofs.YtpmcmaffjghiiaaW.PrintWords renaming below_drew1 → bd_, below_alloc → ba_, below_set → bs_, below_size → bz_, below_step → bp_, blk_frozen → kf_, blk_alloc → ka_, blk_drewN → kn_, blk_drew → kd_, blk_cell → kc_, blk_below → kb_, gate_callee → gc_
open Go.Proofs.YtpmcmaffjghiiaaW.PrintWords.Kd renaming R_alloc → ra_, R_drewN → rn_, R_drew → rd_, R_far → rf_
attribute [local go_sem] run_mf events_mf
open Go.RowKit Go.Proofs.YtpmcmaffjghiiaaW.PrintWords Go.Proofs.YtpmcmaffjghiiaaW.PrintLast Go.Proofs.YtpmcmaffjghiiaaW.PrintMore
attribute [local go_sem] max2_int min2_int max_two min_two max_three min_three max_four min_four   -- for this text's walks alone
set_option linter.unusedVariables false
set_option linter.unusedSimpArgs false

/-! ### impl_upFrom: function 33 -/
def impl_upFrom.l0 : Nat → List Int → Int → Int → Option (List Int)
  | 0, _, _, _ => none
  | k + 1, x3, x6, x7 => if x7 < x6 then (if x3.length < 17592186044416 then (impl_upFrom.l0 k (x3 ++ [wrap64 (x7 + 1)]) x6 (wrap64 (x7 + 1))) else (none)) else (some x3)
def impl_upFrom.f (k : Nat) (a0 : Int) : Option (List Int) := impl_upFrom.l0 k (([] : List Int)) a0 0
theorem impl_upFrom.mono_l : ∀ k, (∀ y0 y1 y2, LeO (impl_upFrom.l0 k y0 y1 y2) (impl_upFrom.l0 (k + 1) y0 y1 y2))
  | 0 => fun _ _ _ r h => by simp [impl_upFrom.l0] at h
  | k + 1 => by
    have ih0 := impl_upFrom.mono_l k
    · intro y0 y1 y2
      unfold impl_upFrom.l0
      repeat' first
      | (with_reducible exact ih0 _ _ _)
      | (with_reducible exact LeO.refl _)
      | (with_reducible exact LeO.none _)
      | (with_reducible refine LeO.ite ?_ ?_)
      | (with_reducible refine LeO.bind ?_ (fun _ => ?_))
      | exact ih0 _ _ _
      | exact LeO.none _
      | refine LeO.ite ?_ ?_
      | refine LeO.bind ?_ (fun _ => ?_)
theorem impl_upFrom.mono : ∀ a0 k, LeO (impl_upFrom.f k a0) (impl_upFrom.f (k + 1) a0) := by
  intro a0 k
  have ih0 := impl_upFrom.mono_l k
  unfold impl_upFrom.f
  repeat' first
      | (with_reducible exact ih0 _ _ _)
      | (with_reducible exact LeO.refl _)
      | (with_reducible exact LeO.none _)
      | (with_reducible refine LeO.ite ?_ ?_)
      | (with_reducible refine LeO.bind ?_ (fun _ => ?_))
      | exact ih0 _ _ _
      | exact LeO.none _
      | refine LeO.ite ?_ ?_
      | refine LeO.bind ?_ (fun _ => ?_)
set_option maxHeartbeats 8000000 in
set_option maxRecDepth 100000 in
theorem impl_upFrom.calls (k : Nat) (a0 : Int) (r : List Int) (w : World) (h : impl_upFrom.f k a0 = some r) :
    Calls Try.prog 33 #[.int .i64 a0] w fun e w' => ∃ v0_ : Value, e = .returned (v0_) ∧ Kd.R (Kd.int .i64) 3 w' w.heap.size (fun _ => True) v0_ r ∧ Below w.heap.size w w' := by
  have HB := am_ (Below.refl w.heap.size w)
  have H : (impl_upFrom.l0 k (([] : List Int)) a0 0) = some r := h
  clear h
  obtain ⟨y376, hy376⟩ : ∃ y_ : List Int, y_ = (([] : List Int)) := ⟨_, rfl⟩
  replace H : (impl_upFrom.l0 k y376 a0 0) = some r := by first | (rw [hy376]; with_reducible exact H) | (have H2_ := (Option.bind_some _ _).symm.trans H; rw [hy376]; with_reducible exact H2_) | (have H2_ := (Option.bind_some _ _).symm.trans H; with_reducible exact H2_) | with_reducible exact H | (rw [hy376]; exact H) | exact H
  have Ny376 := am_ hy376
  clear hy376
  have H' := am_ H
  clear H
  go_enter Try.func33, Try.ntmps33
  go_wp2_with (first | ((with_reducible refine gate_dst (N := 5) rfl ?_); refine Kd.R_lit (Kd.int .i64) _ 3 ?hg (N := 5) ?hd (xs := ([] : List Int)) (inner := []) (ok := fun _ => True) (okp := fun _ => True) ?hr ?hp (fun _ hk => hk) trivial (Below.refl _ _) (Nat.le_refl _) (by simp) ?_; (case hd => rfl); (case hg => rfl); (case hr => first | (go_simp; done) | (go_simp; rfl)); (case hp => exact (Reps.none _ _)); intro v377 w2 ho3 hb hg_ hnew_; clear hg_ hnew_; (first | rw [← Ny376.out] at ho3 | (simp only [Int.reduceToNat] at ho3; rw [← Ny376.out] at ho3)); have n0_ := am_ (Kd.R_lower ho3 (bz_ (by repeat (first | (with_reducible first | exact HB.out | apply ba_ | apply pw_below_drewN | apply bd_) | exact HB.out)))); have n1_ := am_ (bp_ (by repeat (first | (with_reducible first | exact HB.out | apply ba_ | apply pw_below_drewN | apply bd_) | exact HB.out)) hb); clear HB; have HO378 := n0_; have HB := n1_; clear n0_ n1_; clear hb ho3))
  go_loopg [3, 7] k (fun kq v3 v7 w' => ∃ (x3_1 : List Int) (x7_1 : Int), v7 = .int .i64 x7_1 ∧ Aside0 (impl_upFrom.l0 kq x3_1 a0 x7_1 = some r) ∧ Aside0 (kq ≤ k) ∧ Aside0 (Kd.R (Kd.int .i64) 3 w' w.heap.size (fun _ => True) v3 x3_1) ∧ Aside0 (Below w.heap.size w w'))
  case atStart => exact ⟨(y376), (0), (by first | rfl | (simp; done) | (simp [*]; done)), H', ⟨Nat.le_refl _⟩, ⟨by (with_reducible repeat (first | apply ra_ | apply rn_ | apply rd_)); exact HO378.out⟩, ⟨by repeat (first | (with_reducible first | exact HB.out | apply ba_ | apply pw_below_drewN | apply bd_) | exact HB.out)⟩⟩
  case round =>
    clear H'
    try clear p2
    try clear c3
    obtain ⟨x3_1, x7_1, rfl, HA, HK1, HO_3, HB⟩ := hrel
    cases gk with
    | zero => exact absurd HA.out (by simp [impl_upFrom.l0])
    | succ k1 =>
      have H := HA.out
      clear HA
      simp only [impl_upFrom.l0] at H
      by_cases c4 : x7_1 < a0
      · rw [if_pos c4] at H
        have c4b0 : decide (x7_1 < a0) = true := decide_eq_true c4
        clear c4
        by_cases c5 : x3_1.length < 17592186044416
        · rw [if_pos c5] at H
          have LMc5 := am_ c5
          clear c5
          obtain ⟨y379, hy379⟩ : ∃ y_ : List Int, y_ = (x3_1 ++ [wrap64 (x7_1 + 1)]) := ⟨_, rfl⟩
          replace H : (impl_upFrom.l0 k1 y379 a0 (wrap64 (x7_1 + 1))) = some r := by first | (rw [hy379]; with_reducible exact H) | (have H2_ := (Option.bind_some _ _).symm.trans H; rw [hy379]; with_reducible exact H2_) | (have H2_ := (Option.bind_some _ _).symm.trans H; with_reducible exact H2_) | with_reducible exact H | (rw [hy379]; exact H) | exact H
          have Ny379 := am_ hy379
          clear hy379
          have H' := am_ H
          clear H
          go_wp2_with (first | ((with_reducible refine gate_builtin (b := .append) (xs := #[.tmp 10, .tmp 13]) rfl ?_); at_builtin; refine Kd.R_append (Kd.int .i64) (w0 := w) w.heap.size rfl (.tmp 10) (.tmp 13) 25 3 (.int .i64 0) 8 rfl Try.underlying25 info3 rfl (by decide) (by omega) u3 x3_1 (wrap64 (x7_1 + 1)) [.int .i64 (wrap64 (x7_1 + 1))] (fun _ => True) (fun _ => False) rfl rfl ?aP (fun _ hk => hk.elim) ?aF ?aO ?aB ?aS ?aL ?_; (case aP => exact rfl); (case aB => exact (by repeat (first | (with_reducible first | exact HB.out | apply ba_ | apply pw_below_drewN | apply bd_) | exact HB.out))); (case aF => exact (fun _ _ => trivial)); (case aO => exact (by (with_reducible repeat (first | apply ra_ | apply rn_ | apply rd_)); exact HO_3.out)); (case aS => exact (bz_ (by repeat (first | (with_reducible first | exact HB.out | apply ba_ | apply pw_below_drewN | apply bd_) | exact HB.out)))); (case aL => have := LMc5.out; omega); intro v380 w6 ho hb hg hat; rw [← Ny379.out] at ho; have n0_ := am_ (hb); have n1_ := am_ (ho); clear HB; clear HO_3; have HB := n0_; have HO381 := n1_; clear n0_ n1_; clear ho hb hg hat))
          go_roundg k1
          case measure => have := HK1.out; omega
          case rel => exact ⟨(y379), (wrap64 (x7_1 + 1)), (by first | rfl | (simp; done) | (simp [*]; done)), H', ⟨by have := HK1.out; omega⟩, ⟨by (with_reducible repeat (first | apply ra_ | apply rn_ | apply rd_)); exact HO381.out⟩, ⟨by repeat (first | (with_reducible first | exact HB.out | apply ba_ | apply pw_below_drewN | apply bd_) | exact HB.out)⟩⟩
        · rw [if_neg c5] at H
          exact absurd H (by simp)
      · rw [if_neg c4] at H
        have c4b0 : decide (x7_1 < a0) = false := decide_eq_false c4
        clear c4
        obtain rfl := Option.some.inj H
        go_wp2
        go_ret
        exact ⟨_, by first | rfl | (simp [errW_none, errW_some] <;> rfl) | (simp [*, errW_none, errW_some] <;> rfl), by (with_reducible repeat (first | apply ra_ | apply rn_ | apply rd_)); exact HO_3.out, by repeat (first | (with_reducible first | exact HB.out | apply ba_ | apply pw_below_drewN | apply bd_) | exact HB.out)⟩

-- NOT PRINTED: function 47 (impl_bestFactors_1)

/-- The function that bestFactors makes: it reads the item and the base in their cells. -/
theorem impl_bestFactors_lit.calls (k : Nat) (a0_0 a0_1 a0_2 a0_3 a0_4 base n p q : Int) (w : World) (gx gb : Nat) (hx : w.heap[gx]? = some (.cells #[.int .i64 a0_0, .int .i64 a0_1, .int .i64 a0_2, .int .i64 a0_3, .int .i64 a0_4] 42 (0, 0))) (hbb : w.heap[gb]? = some (.cells #[.int .i64 base] 3 (0, 0))) (h : impl_Item_daily.f k a0_0 a0_1 a0_2 a0_3 a0_4 (wrap64 (base * n)) = some (p, q)) :
    Calls Try.prog 47 #[.int .i64 n, .pointer (some ⟨gx, 0, none⟩), .pointer (some ⟨gb, 0, none⟩)] w fun e w' => e = .returned (.agg #[.int .i64 p, .int .i64 q]) ∧ Below w.heap.size w w' := by
  have hu1 := Try.underlying42
  have hu2 := Try.underlying28
  have HB := am_ (Below.refl w.heap.size w)
  have A3 := am_ h
  have BX := am_ hx
  have BB := am_ hbb
  clear h hx hbb
  go_enter Try.func47, Try.ntmps47
  go_wp2_with (first | ((with_reducible refine gate_dst (N := 4) rfl ?_); refine box_event ?hg (N := 4) ?hd (cs := #[.int .i64 0, .int .i64 0]) (t := 28) ?hr ?_; (case hd => rfl); (case hg => rfl); (case hr => first | (go_simp; done) | (go_simp; rfl)); intro gb185 hg w5 hbox hb; have n0_ := am_ (kb_ (g := gx) (o := .cells #[.int .i64 a0_0, .int .i64 a0_1, .int .i64 a0_2, .int .i64 a0_3, .int .i64 a0_4] 42 (0, 0)) BX.out hb); have n1_ := am_ (kb_ (g := gb) (o := .cells #[.int .i64 base] 3 (0, 0)) BB.out hb); have n2_ := am_ hbox; have n4_ := am_ ((by rw [hg]; exact (bz_ HB.out)) : w.heap.size ≤ gb185); have n5_ := am_ (bp_ HB.out hb); clear HB BX BB; have BX := n0_; have BB := n1_; have BK185 := n2_; have GE185 := n4_; have HB := n5_; clear n0_ n1_ n2_ n4_ n5_; clear hb hbox hg; have hcz7_0 : w5.cell? ⟨gx, 0, none⟩ = some (.int .i64 a0_0) := (kc_ BX.out 0).trans rfl; have hcz7_1 : w5.cell? ⟨gx, 1, none⟩ = some (.int .i64 a0_1) := (kc_ BX.out 1).trans rfl; have hcz7_2 : w5.cell? ⟨gx, 2, none⟩ = some (.int .i64 a0_2) := (kc_ BX.out 2).trans rfl; have hcz7_3 : w5.cell? ⟨gx, 3, none⟩ = some (.int .i64 a0_3) := (kc_ BX.out 3).trans rfl; have hcz7_4 : w5.cell? ⟨gx, 4, none⟩ = some (.int .i64 a0_4) := (kc_ BX.out 4).trans rfl; have hcz8_0 : w5.cell? ⟨gb, 0, none⟩ = some (.int .i64 base) := (kc_ BB.out 0).trans rfl) | ((with_reducible refine gc_ (f := 37) rfl ?_); refine goesL_ (some 9) rfl rfl Try.func37 (by kernel_rfl) rfl #[.agg #[.int .i64 a0_0, .int .i64 a0_1, .int .i64 a0_2, .int .i64 a0_3, .int .i64 a0_4], .int .i64 (wrap64 (base * n))] rfl (by first | (rfl; done) | (simp [Act.eval, Act.put]; done)) ?_; (with_reducible refine (impl_Item_daily.calls k a0_0 a0_1 a0_2 a0_3 a0_4 (wrap64 (base * n)) p q _ A3.out).mono ?_); rintro e w8 ⟨rfl, hb⟩; refine ⟨_, rfl, ?_⟩; have n1_ := am_ (kb_ (g := gb185) (o := .cells #[.int .i64 0, .int .i64 0] 28 (0, 0)) (by (with_reducible repeat (first | refine kn_ ?_ _ | refine kd_ ?_ | refine ka_ ?_ _)); exact BK185.out) hb); have n2_ := am_ (bp_ (by repeat (first | (with_reducible first | exact HB.out | apply ba_ | apply pw_below_drewN | apply bd_) | exact HB.out)) hb); clear BK185; clear HB; have BK185 := n1_; have HB := n2_; clear n1_ n2_; (try clear hb); have hcz9_0 : w8.cell? ⟨gb185, 0, none⟩ = some (.int .i64 0) := (kc_ BK185.out 0).trans rfl; have hcz9_1 : w8.cell? ⟨gb185, 1, none⟩ = some (.int .i64 0) := (kc_ BK185.out 1).trans rfl; have hfz9_0 := kf_ BK185.out 0; have hfz9_1 := kf_ BK185.out 1))
  refine bodyPost_ret (results_cell_row rfl _ _ gb185 28 #[.int .i64 p, .int .i64 q] (0, 0) _ rfl (by (with_reducible repeat (first | refine kn_ ?_ _ | refine kd_ ?_ | refine ka_ ?_ _)); refine blk_put (cs := #[.int .i64 p, .int .i64 0]) ?_ 1 _ rfl; (with_reducible repeat (first | refine kn_ ?_ _ | refine kd_ ?_ | refine ka_ ?_ _)); refine blk_put (cs := #[.int .i64 0, .int .i64 0]) ?_ 0 _ rfl; (with_reducible repeat (first | refine kn_ ?_ _ | refine kd_ ?_ | refine ka_ ?_ _)); exact BK185.out) Try.underlying28 rfl (by kernel_rfl)) rfl ?_
  exact ⟨rfl, by repeat (first | (with_reducible first | exact HB.out | apply ba_ | apply pw_below_drewN | apply bd_ | refine bs_ ?_ GE185.out) | exact HB.out)⟩
/-! ### impl_bestFactors: function 30 -/
def impl_bestFactors.l0 : Nat → List Int → List (S42) → Int → Int → Int → Option (List Int)
  | 0, _, _, _, _, _ => none
  | k + 1, x5, x9, x10, x11, x383000 => if x11 < x10 then (if 0 ≤ x11 then (if x11 < (x9.length : Int) then ((impl_upFrom.f k 8).bind fun t388 => ((impl_cheapest.f k t388 (fun n_ => impl_Item_daily.f k ((rd_T42 x9 x11).f0) ((rd_T42 x9 x11).f1) ((rd_T42 x9 x11).f2) ((rd_T42 x9 x11).f3) ((rd_T42 x9 x11).f4) (wrap64 (x383000 * n_)))).bind fun t391 => (if x5.length < 17592186044416 then (impl_bestFactors.l0 k (x5 ++ [t391]) x9 x10 (wrap64 (x11 + 1)) x383000) else (none)))) else (none)) else (none)) else (some x5)
def impl_bestFactors.f (k : Nat) (l0 : List (S42)) (a1 : Int) : Option (List Int) := impl_bestFactors.l0 k (([] : List Int)) l0 (l0.length : Int) 0 a1
theorem impl_bestFactors.mono_l : ∀ k, (∀ y0 y1 y2 y3 y4, LeO (impl_bestFactors.l0 k y0 y1 y2 y3 y4) (impl_bestFactors.l0 (k + 1) y0 y1 y2 y3 y4))
  | 0 => fun _ _ _ _ _ r h => by simp [impl_bestFactors.l0] at h
  | k + 1 => by
    have ih0 := impl_bestFactors.mono_l k
    · intro y0 y1 y2 y3 y4
      unfold impl_bestFactors.l0
      repeat' first
      | (with_reducible exact ih0 _ _ _ _ _)
      | (with_reducible exact (impl_cheapest.mono (fun _ => impl_Item_daily.mono _ _ _ _ _ _ _) _ _))
      | (with_reducible exact impl_upFrom.mono _ _)
      | (with_reducible exact LeO.refl _)
      | (with_reducible exact LeO.none _)
      | (with_reducible refine LeO.ite ?_ ?_)
      | (with_reducible refine LeO.bind ?_ (fun _ => ?_))
      | exact ih0 _ _ _ _ _
      | exact (impl_cheapest.mono (fun _ => impl_Item_daily.mono _ _ _ _ _ _ _) _ _)
      | exact impl_upFrom.mono _ _
      | exact LeO.none _
      | refine LeO.ite ?_ ?_
      | refine LeO.bind ?_ (fun _ => ?_)
theorem impl_bestFactors.mono : ∀ a0 a1 k, LeO (impl_bestFactors.f k a0 a1) (impl_bestFactors.f (k + 1) a0 a1) := by
  intro a0 a1 k
  have ih0 := impl_bestFactors.mono_l k
  unfold impl_bestFactors.f
  repeat' first
      | (with_reducible exact ih0 _ _ _ _ _)
      | (with_reducible exact (impl_cheapest.mono (fun _ => impl_Item_daily.mono _ _ _ _ _ _ _) _ _))
      | (with_reducible exact impl_upFrom.mono _ _)
      | (with_reducible exact LeO.refl _)
      | (with_reducible exact LeO.none _)
      | (with_reducible refine LeO.ite ?_ ?_)
      | (with_reducible refine LeO.bind ?_ (fun _ => ?_))
      | exact ih0 _ _ _ _ _
      | exact (impl_cheapest.mono (fun _ => impl_Item_daily.mono _ _ _ _ _ _ _) _ _)
      | exact impl_upFrom.mono _ _
      | exact LeO.none _
      | refine LeO.ite ?_ ?_
      | refine LeO.bind ?_ (fun _ => ?_)
set_option maxHeartbeats 8000000 in
set_option maxRecDepth 100000 in
theorem impl_bestFactors.calls (k : Nat) (A0 : Option Addr) (c0 : Nat) (l0 : List (S42)) (a1 : Int) (r : List Int) (w : World) (hr0 : Kd.C k42 w A0 l0.length l0) (hc0 : l0.length ≤ c0) (h : impl_bestFactors.f k l0 a1 = some r) :
    Calls Try.prog 30 #[.slice A0 l0.length c0, .int .i64 a1] w fun e w' => ∃ v0_ : Value, e = .returned (v0_) ∧ Kd.R (Kd.int .i64) 3 w' w.heap.size (fun _ => True) v0_ r ∧ Below w.heap.size w w' := by
  have hu42 := Try.underlying42
  have HR0 := am_ hr0
  have HC0 := am_ hc0
  clear hr0 hc0
  have HB := am_ (Below.refl w.heap.size w)
  have H : (impl_bestFactors.l0 k (([] : List Int)) l0 (l0.length : Int) 0 a1) = some r := h
  clear h
  obtain ⟨y383, hy383⟩ : ∃ y_ : List Int, y_ = (([] : List Int)) := ⟨_, rfl⟩
  replace H : (impl_bestFactors.l0 k y383 l0 (l0.length : Int) 0 a1) = some r := by first | (rw [hy383]; with_reducible exact H) | (have H2_ := (Option.bind_some _ _).symm.trans H; rw [hy383]; with_reducible exact H2_) | (have H2_ := (Option.bind_some _ _).symm.trans H; with_reducible exact H2_) | with_reducible exact H | (rw [hy383]; exact H) | exact H
  have Ny383 := am_ hy383
  clear hy383
  have H' := am_ H
  clear H
  go_enter Try.func30, Try.ntmps30
  go_wp2_with (first | ((with_reducible refine gate_dst (N := 3) rfl ?_); refine box_event ?hg (N := 3) ?hd (cs := #[.int .i64 a1]) (t := 3) ?hr ?_; (case hd => rfl); (case hg => rfl); (case hr => first | (go_simp; done) | (go_simp; rfl)); intro gb382 hg w3 hbox hb; have n0_ := am_ (bp_ (by repeat (first | (with_reducible first | exact HB.out | apply ba_ | apply pw_below_drewN | apply bd_) | exact HB.out)) hb); have n1_ := am_ (hbox); have n2_ := am_ ((by rw [hg]; exact (bz_ (by repeat (first | (with_reducible first | exact HB.out | apply ba_ | apply pw_below_drewN | apply bd_) | exact HB.out))) : w.heap.size ≤ gb382)); have n3_ := am_ ((by rw [hg]; exact (bz_ (by repeat (first | (with_reducible first | exact HB.out | apply ba_ | apply pw_below_drewN | apply bd_) | exact HB.out))) : w.heap.size ≤ gb382)); clear HB; have HB := n0_; have BK382 := n1_; have GW382 := n2_; have GE382 := n3_; clear n0_ n1_ n2_ n3_; clear hb hbox hg) | ((with_reducible refine gate_dst (N := 8) rfl ?_); refine Kd.R_lit (Kd.int .i64) _ 3 ?hg (N := 8) ?hd (xs := ([] : List Int)) (inner := []) (ok := fun _ => True) (okp := fun _ => True) ?hr ?hp (fun _ hk => hk) trivial (Below.refl _ _) (Nat.le_refl _) (by simp) ?_; (case hd => rfl); (case hg => rfl); (case hr => first | (go_simp; done) | (go_simp; rfl)); (case hp => exact (Reps.none _ _)); intro v384 w4 ho5 hb hg_ hnew_; clear hg_ hnew_; (first | rw [← Ny383.out] at ho5 | (simp only [Int.reduceToNat] at ho5; rw [← Ny383.out] at ho5)); have n0_ := am_ (Kd.R_lower (Kd.R_mono (ok' := fun k_ => k_ ≠ gb382) (Kd.R_bound ho5) (fun k_ hk_ he_ => by have h1_ := hk_.2.1; have h2_ := blk_lt (g := gb382) (o := .cells #[.int .i64 a1] 3 (0, 0)) (by (with_reducible repeat (first | refine kn_ ?_ _ | refine kd_ ?_ | refine ka_ ?_ _)); exact BK382.out); (try simp only [World.drewN, World.drew] at h1_); omega)) (bz_ (by repeat (first | (with_reducible first | exact HB.out | apply ba_ | apply pw_below_drewN | apply bd_ | refine bs_ ?_ GE382.out) | exact HB.out)))); have n1_ := am_ (kb_ (g := gb382) (o := .cells #[.int .i64 a1] 3 (0, 0)) (by (with_reducible repeat (first | refine kn_ ?_ _ | refine kd_ ?_ | refine ka_ ?_ _)); exact BK382.out) hb); have n2_ := am_ (bp_ (by repeat (first | (with_reducible first | exact HB.out | apply ba_ | apply pw_below_drewN | apply bd_ | refine bs_ ?_ GE382.out) | exact HB.out)) hb); clear BK382; clear HB; have HO385 := n0_; have BK382 := n1_; have HB := n2_; clear n0_ n1_ n2_; clear hb ho5))
  go_loopg [5, 11] k (fun kq v5 v11 w' => ∃ (x5_1 : List Int) (x11_1 : Int), v11 = .int .i64 x11_1 ∧ Aside0 (impl_bestFactors.l0 kq x5_1 l0 (l0.length : Int) x11_1 a1 = some r) ∧ Aside0 (kq ≤ k) ∧ Aside0 (Kd.R (Kd.int .i64) 3 w' w.heap.size (fun k_ => k_ ≠ gb382) v5 x5_1) ∧ Aside0 (w'.heap[gb382]? = some (.cells #[.int .i64 a1] 3 (0, 0))) ∧ Aside0 (Below w.heap.size w w'))
  case atStart => exact ⟨(y383), (0), (by first | rfl | (simp; done) | (simp [*]; done)), H', ⟨Nat.le_refl _⟩, ⟨by (with_reducible repeat (first | apply ra_ | apply rn_ | apply rd_)); exact HO385.out⟩, ⟨by (with_reducible repeat (first | refine kn_ ?_ _ | refine kd_ ?_ | refine ka_ ?_ _)); exact BK382.out⟩, ⟨by repeat (first | (with_reducible first | exact HB.out | apply ba_ | apply pw_below_drewN | apply bd_ | refine bs_ ?_ GE382.out) | exact HB.out)⟩⟩
  case round =>
    clear H'
    try clear p2
    try clear c3
    obtain ⟨x5_1, x11_1, rfl, HA, HK1, HO_5, BK382, HB⟩ := hrel
    cases gk with
    | zero => exact absurd HA.out (by simp [impl_bestFactors.l0])
    | succ k1 =>
      have H := HA.out
      clear HA
      simp only [impl_bestFactors.l0] at H
      by_cases c6 : x11_1 < (l0.length : Int)
      · rw [if_pos c6] at H
        have c6b0 : decide (x11_1 < (l0.length : Int)) = true := decide_eq_true c6
        clear c6
        by_cases c7 : 0 ≤ x11_1
        · rw [if_pos c7] at H
          have c7b0 : decide (0 ≤ x11_1) = true := decide_eq_true c7
          clear c7
          by_cases c8 : x11_1 < (l0.length : Int)
          · rw [if_pos c8] at H
            have c8b0 : decide (x11_1 < (l0.length : Int)) = true := decide_eq_true c8
            clear c8
            replace H := Option.bind_eq_some_iff.mp H
            obtain ⟨t388, A90, H⟩ := H
            replace H : ((impl_cheapest.f k1 t388 (fun n_ => impl_Item_daily.f k1 ((rd_T42 l0 x11_1).f0) ((rd_T42 l0 x11_1).f1) ((rd_T42 l0 x11_1).f2) ((rd_T42 l0 x11_1).f3) ((rd_T42 l0 x11_1).f4) (wrap64 (a1 * n_)))).bind fun t391 => (if x5_1.length < 17592186044416 then (impl_bestFactors.l0 k1 (x5_1 ++ [t391]) l0 (l0.length : Int) (wrap64 (x11_1 + 1)) a1) else (none))) = some r := H
            have A9 := am_ A90
            clear A90
            replace H := Option.bind_eq_some_iff.mp H
            obtain ⟨t391, A100, H⟩ := H
            replace H : (if x5_1.length < 17592186044416 then (impl_bestFactors.l0 k1 (x5_1 ++ [t391]) l0 (l0.length : Int) (wrap64 (x11_1 + 1)) a1) else (none)) = some r := H
            have A10 := am_ A100
            clear A100
            by_cases c11 : x5_1.length < 17592186044416
            · rw [if_pos c11] at H
              have LMc11 := am_ c11
              clear c11
              obtain ⟨y392, hy392⟩ : ∃ y_ : List Int, y_ = (x5_1 ++ [t391]) := ⟨_, rfl⟩
              replace H : (impl_bestFactors.l0 k1 y392 l0 (l0.length : Int) (wrap64 (x11_1 + 1)) a1) = some r := by first | (rw [hy392]; with_reducible exact H) | (have H2_ := (Option.bind_some _ _).symm.trans H; rw [hy392]; with_reducible exact H2_) | (have H2_ := (Option.bind_some _ _).symm.trans H; with_reducible exact H2_) | with_reducible exact H | (rw [hy392]; exact H) | exact H
              have Ny392 := am_ hy392
              clear hy392
              have H' := am_ H
              clear H
              have p386 : 0 ≤ (x11_1 : Int) := of_decide_eq_true (by first | (with_reducible assumption) | assumption)
              have q386 : x11_1 < (l0.length : Int) := of_decide_eq_true (by first | (with_reducible assumption) | assumption)
              obtain ⟨ad386, e386, hx386_0, hx386_1, hx386_2, hx386_3, hx386_4⟩ := at_T42 HR0.out x11_1 p386 q386
              cases e386
              replace hx386_0 := (HB.out.cell (World.block_lt_of_cell? w _ hx386_0)).trans hx386_0
              replace hx386_1 := (HB.out.cell (World.block_lt_of_cell? w _ hx386_1)).trans hx386_1
              replace hx386_2 := (HB.out.cell (World.block_lt_of_cell? w _ hx386_2)).trans hx386_2
              replace hx386_3 := (HB.out.cell (World.block_lt_of_cell? w _ hx386_3)).trans hx386_3
              replace hx386_4 := (HB.out.cell (World.block_lt_of_cell? w _ hx386_4)).trans hx386_4
              replace p386 := eq_true p386
              replace q386 := eq_true q386
              go_wp2_with (first | ((with_reducible refine gate_dst (N := 7) rfl ?_); refine box_event ?hg (N := 7) ?hd (cs := #[.int .i64 0, .int .i64 0, .int .i64 0, .int .i64 0, .int .i64 0]) (t := 42) ?hr ?_; (case hd => rfl); (case hg => rfl); (case hr => first | (go_simp; done) | (go_simp; rfl)); intro gb387 hg w12 hbox hb; have n0_ := am_ (Kd.R_below (by (with_reducible repeat (first | apply ra_ | apply rn_ | apply rd_)); exact HO_5.out) hb); have n1_ := am_ (kb_ (g := gb382) (o := .cells #[.int .i64 a1] 3 (0, 0)) (by (with_reducible repeat (first | refine kn_ ?_ _ | refine kd_ ?_ | refine ka_ ?_ _)); exact BK382.out) hb); have n2_ := am_ (bp_ (by repeat (first | (with_reducible first | exact HB.out | apply ba_ | apply pw_below_drewN | apply bd_ | refine bs_ ?_ GE382.out) | exact HB.out)) hb); have n3_ := am_ (hbox); have n4_ := am_ ((by rw [hg]; exact (bz_ (by repeat (first | (with_reducible first | exact HB.out | apply ba_ | apply pw_below_drewN | apply bd_ | refine bs_ ?_ GE382.out) | exact HB.out))) : w.heap.size ≤ gb387)); have n5_ := am_ ((by rw [hg]; exact (bz_ (by repeat (first | (with_reducible first | exact HB.out | apply ba_ | apply pw_below_drewN | apply bd_ | refine bs_ ?_ GE382.out) | exact HB.out))) : w.heap.size ≤ gb387)); have n6_ := am_ ((by rw [hg]; exact Nat.ne_of_lt (blk_lt (g := gb382) (o := .cells #[.int .i64 a1] 3 (0, 0)) (by (with_reducible repeat (first | refine kn_ ?_ _ | refine kd_ ?_ | refine ka_ ?_ _)); exact BK382.out)) : gb382 ≠ gb387)); have n7_ := am_ ((by rw [hg]; exact Nat.ne_of_gt (blk_lt (g := gb382) (o := .cells #[.int .i64 a1] 3 (0, 0)) (by (with_reducible repeat (first | refine kn_ ?_ _ | refine kd_ ?_ | refine ka_ ?_ _)); exact BK382.out)) : gb387 ≠ gb382)); clear HO_5; clear BK382; clear HB; have HO_5 := n0_; have BK382 := n1_; have HB := n2_; have BK387 := n3_; have GW387 := n4_; have GE387 := n5_; have NB382_387 := n6_; have NB387_382 := n7_; clear n0_ n1_ n2_ n3_ n4_ n5_ n6_ n7_; clear hb hbox hg; have hnb13 := NB387_382.out; have hnc13 := NB382_387.out; have hcz14_0 : w12.cell? ⟨gb387, 0, none⟩ = some (.int .i64 0) := (kc_ BK387.out 0).trans rfl; have hcz14_1 : w12.cell? ⟨gb387, 1, none⟩ = some (.int .i64 0) := (kc_ BK387.out 1).trans rfl; have hcz14_2 : w12.cell? ⟨gb387, 2, none⟩ = some (.int .i64 0) := (kc_ BK387.out 2).trans rfl; have hcz14_3 : w12.cell? ⟨gb387, 3, none⟩ = some (.int .i64 0) := (kc_ BK387.out 3).trans rfl; have hcz14_4 : w12.cell? ⟨gb387, 4, none⟩ = some (.int .i64 0) := (kc_ BK387.out 4).trans rfl; have hfz14_0 := kf_ BK387.out 0; have hfz14_1 := kf_ BK387.out 1; have hfz14_2 := kf_ BK387.out 2; have hfz14_3 := kf_ BK387.out 3; have hfz14_4 := kf_ BK387.out 4) | ((with_reducible refine gc_ (f := 33) rfl ?_); refine goesL_ (some 16) rfl rfl Try.func33 (by kernel_rfl) rfl #[.int .i64 8] rfl (by (try simp only [List.map_toArray, List.map_cons, List.map_nil]); first | done | rfl | (simp only [List.length_drop, List.length_take]; rfl)) ?_; (with_reducible refine (impl_upFrom.calls k1 8 t388 _ A9.out).mono ?_); rintro e w15 ⟨v389, rfl, ho0, hb⟩; refine ⟨_, rfl, ?_⟩; have n0_ := am_ (Kd.R_elder' (by (with_reducible repeat (first | apply ra_ | apply rn_ | apply rd_)); exact (Kd.R_mono (rf_ (p := ⟨gb387, 4, none⟩) (rf_ (p := ⟨gb387, 3, none⟩) (rf_ (p := ⟨gb387, 2, none⟩) (rf_ (p := ⟨gb387, 1, none⟩) (rf_ (p := ⟨gb387, 0, none⟩) (Kd.R_types HO_5.out BK387.out (by decide)) (fun _ hk => hk.2) (.int .i64 ((rd_T42 l0 x11_1).f0))) (fun _ hk => hk.2) (.int .i64 ((rd_T42 l0 x11_1).f1))) (fun _ hk => hk.2) (.int .i64 ((rd_T42 l0 x11_1).f2))) (fun _ hk => hk.2) (.int .i64 ((rd_T42 l0 x11_1).f3))) (fun _ hk => hk.2) (.int .i64 ((rd_T42 l0 x11_1).f4))) (fun _ h_ => h_.1))) (Kd.R_base ho0) hb); have n1_ := am_ (Kd.R_lower (Kd.R_new' ho0 (Kd.R_lt (by (with_reducible repeat (first | apply ra_ | apply rn_ | apply rd_)); exact (Kd.R_mono (rf_ (p := ⟨gb387, 4, none⟩) (rf_ (p := ⟨gb387, 3, none⟩) (rf_ (p := ⟨gb387, 2, none⟩) (rf_ (p := ⟨gb387, 1, none⟩) (rf_ (p := ⟨gb387, 0, none⟩) (Kd.R_types HO_5.out BK387.out (by decide)) (fun _ hk => hk.2) (.int .i64 ((rd_T42 l0 x11_1).f0))) (fun _ hk => hk.2) (.int .i64 ((rd_T42 l0 x11_1).f1))) (fun _ hk => hk.2) (.int .i64 ((rd_T42 l0 x11_1).f2))) (fun _ hk => hk.2) (.int .i64 ((rd_T42 l0 x11_1).f3))) (fun _ hk => hk.2) (.int .i64 ((rd_T42 l0 x11_1).f4))) (fun _ h_ => h_.1))))) (bz_ (by repeat (first | (with_reducible first | exact HB.out | apply ba_ | apply pw_below_drewN | apply bd_ | refine bs_ ?_ GE382.out | refine bs_ ?_ GE387.out) | exact HB.out)))); have n2_ := am_ (kb_ (g := gb382) (o := .cells #[.int .i64 a1] 3 (0, 0)) (by (with_reducible repeat (first | refine kn_ ?_ _ | refine kd_ ?_ | refine ka_ ?_ _)); refine blk_far ?_ NB382_387.out _; (with_reducible repeat (first | refine kn_ ?_ _ | refine kd_ ?_ | refine ka_ ?_ _)); refine blk_far ?_ NB382_387.out _; (with_reducible repeat (first | refine kn_ ?_ _ | refine kd_ ?_ | refine ka_ ?_ _)); refine blk_far ?_ NB382_387.out _; (with_reducible repeat (first | refine kn_ ?_ _ | refine kd_ ?_ | refine ka_ ?_ _)); refine blk_far ?_ NB382_387.out _; (with_reducible repeat (first | refine kn_ ?_ _ | refine kd_ ?_ | refine ka_ ?_ _)); refine blk_far ?_ NB382_387.out _; (with_reducible repeat (first | refine kn_ ?_ _ | refine kd_ ?_ | refine ka_ ?_ _)); exact BK382.out) hb); have n3_ := am_ (kb_ (g := gb387) (o := .cells #[.int .i64 ((rd_T42 l0 x11_1).f0), .int .i64 ((rd_T42 l0 x11_1).f1), .int .i64 ((rd_T42 l0 x11_1).f2), .int .i64 ((rd_T42 l0 x11_1).f3), .int .i64 ((rd_T42 l0 x11_1).f4)] 42 (0, 0)) (by (with_reducible repeat (first | refine kn_ ?_ _ | refine kd_ ?_ | refine ka_ ?_ _)); refine blk_put (cs := #[.int .i64 ((rd_T42 l0 x11_1).f0), .int .i64 ((rd_T42 l0 x11_1).f1), .int .i64 ((rd_T42 l0 x11_1).f2), .int .i64 ((rd_T42 l0 x11_1).f3), .int .i64 0]) ?_ 4 _ rfl; (with_reducible repeat (first | refine kn_ ?_ _ | refine kd_ ?_ | refine ka_ ?_ _)); refine blk_put (cs := #[.int .i64 ((rd_T42 l0 x11_1).f0), .int .i64 ((rd_T42 l0 x11_1).f1), .int .i64 ((rd_T42 l0 x11_1).f2), .int .i64 0, .int .i64 0]) ?_ 3 _ rfl; (with_reducible repeat (first | refine kn_ ?_ _ | refine kd_ ?_ | refine ka_ ?_ _)); refine blk_put (cs := #[.int .i64 ((rd_T42 l0 x11_1).f0), .int .i64 ((rd_T42 l0 x11_1).f1), .int .i64 0, .int .i64 0, .int .i64 0]) ?_ 2 _ rfl; (with_reducible repeat (first | refine kn_ ?_ _ | refine kd_ ?_ | refine ka_ ?_ _)); refine blk_put (cs := #[.int .i64 ((rd_T42 l0 x11_1).f0), .int .i64 0, .int .i64 0, .int .i64 0, .int .i64 0]) ?_ 1 _ rfl; (with_reducible repeat (first | refine kn_ ?_ _ | refine kd_ ?_ | refine ka_ ?_ _)); refine blk_put (cs := #[.int .i64 0, .int .i64 0, .int .i64 0, .int .i64 0, .int .i64 0]) ?_ 0 _ rfl; (with_reducible repeat (first | refine kn_ ?_ _ | refine kd_ ?_ | refine ka_ ?_ _)); exact BK387.out) hb); have n4_ := am_ (bp_ (by repeat (first | (with_reducible first | exact HB.out | apply ba_ | apply pw_below_drewN | apply bd_ | refine bs_ ?_ GE382.out | refine bs_ ?_ GE387.out) | exact HB.out)) hb); clear HO_5; clear BK382; clear BK387; clear HB; have HO_5 := n0_; have HO390 := n1_; have BK382 := n2_; have BK387 := n3_; have HB := n4_; clear n0_ n1_ n2_ n3_ n4_; (try clear hb); (try clear hb2); (try clear hk); (try clear hi); (try clear ho0); have hcz16_0 : w15.cell? ⟨gb387, 0, none⟩ = some (.int .i64 ((rd_T42 l0 x11_1).f0)) := (kc_ BK387.out 0).trans rfl; have hcz16_1 : w15.cell? ⟨gb387, 1, none⟩ = some (.int .i64 ((rd_T42 l0 x11_1).f1)) := (kc_ BK387.out 1).trans rfl; have hcz16_2 : w15.cell? ⟨gb387, 2, none⟩ = some (.int .i64 ((rd_T42 l0 x11_1).f2)) := (kc_ BK387.out 2).trans rfl; have hcz16_3 : w15.cell? ⟨gb387, 3, none⟩ = some (.int .i64 ((rd_T42 l0 x11_1).f3)) := (kc_ BK387.out 3).trans rfl; have hcz16_4 : w15.cell? ⟨gb387, 4, none⟩ = some (.int .i64 ((rd_T42 l0 x11_1).f4)) := (kc_ BK387.out 4).trans rfl; have hfz16_0 := kf_ BK387.out 0; have hfz16_1 := kf_ BK387.out 1; have hfz16_2 := kf_ BK387.out 2; have hfz16_3 := kf_ BK387.out 3; have hfz16_4 := kf_ BK387.out 4; have hcz17_0 : w15.cell? ⟨gb382, 0, none⟩ = some (.int .i64 a1) := (kc_ BK382.out 0).trans rfl; have hfz17_0 := kf_ BK382.out 0; obtain ⟨Ao18, co18, eo18⟩ := Kd.R_slice HO390.out; subst eo18) | ((with_reducible refine gc_ (f := 32) rfl ?_); refine goesL_ (some 18) rfl rfl Try.func32 (by kernel_rfl) rfl #[.slice Ao18 t388.length co18, .func (.func 47) #[] #[.pointer (some ⟨gb387, 0, none⟩), .pointer (some ⟨gb382, 0, none⟩)]] rfl (by (try simp only [List.map_toArray, List.map_cons, List.map_nil]); first | done | rfl | (simp only [List.length_drop, List.length_take]; rfl)) ?_; (refine (impl_cheapest.calls k1 _ _ t388 (fun n_ => impl_Item_daily.f k1 ((rd_T42 l0 x11_1).f0) ((rd_T42 l0 x11_1).f1) ((rd_T42 l0 x11_1).f2) ((rd_T42 l0 x11_1).f3) ((rd_T42 l0 x11_1).f4) (wrap64 (a1 * n_))) t391 _ (f := 47) (first := #[]) (cap := #[.pointer (some ⟨gb387, 0, none⟩), .pointer (some ⟨gb382, 0, none⟩)]) Try.func47 (by kernel_rfl) rfl (fun n_ p_ q_ h_ w1_ hb_ => impl_bestFactors_lit.calls k1 ((rd_T42 l0 x11_1).f0) ((rd_T42 l0 x11_1).f1) ((rd_T42 l0 x11_1).f2) ((rd_T42 l0 x11_1).f3) ((rd_T42 l0 x11_1).f4) a1 n_ p_ q_ w1_ gb387 gb382 (kb_ (g := gb387) (o := .cells #[.int .i64 ((rd_T42 l0 x11_1).f0), .int .i64 ((rd_T42 l0 x11_1).f1), .int .i64 ((rd_T42 l0 x11_1).f2), .int .i64 ((rd_T42 l0 x11_1).f3), .int .i64 ((rd_T42 l0 x11_1).f4)] 42 (0, 0)) (by (with_reducible repeat (first | refine kn_ ?_ _ | refine kd_ ?_ | refine ka_ ?_ _)); exact BK387.out) hb_) (kb_ (g := gb382) (o := .cells #[.int .i64 a1] 3 (0, 0)) (by (with_reducible repeat (first | refine kn_ ?_ _ | refine kd_ ?_ | refine ka_ ?_ _)); exact BK382.out) hb_) h_) ?side1 ?side2 A10.out).mono ?_); (case side1 => repeat (first | exact (Kd.R_reads' HO390.out).2.2 | (with_reducible refine Kd.C_alloc ?_ _) | (with_reducible refine Kd.C_drewN ?_ _) | (with_reducible refine Kd.C_drew ?_))); (case side2 => exact (Kd.R_reads' HO390.out).2.1); rintro e w19 ⟨rfl, hb⟩; refine ⟨_, rfl, ?_⟩; have n0_ := am_ (Kd.R_below (by (with_reducible repeat (first | apply ra_ | apply rn_ | apply rd_)); exact HO_5.out) hb); have n1_ := am_ (Kd.R_below (by (with_reducible repeat (first | apply ra_ | apply rn_ | apply rd_)); exact HO390.out) hb); have n2_ := am_ (kb_ (g := gb382) (o := .cells #[.int .i64 a1] 3 (0, 0)) (by (with_reducible repeat (first | refine kn_ ?_ _ | refine kd_ ?_ | refine ka_ ?_ _)); exact BK382.out) hb); have n3_ := am_ (kb_ (g := gb387) (o := .cells #[.int .i64 ((rd_T42 l0 x11_1).f0), .int .i64 ((rd_T42 l0 x11_1).f1), .int .i64 ((rd_T42 l0 x11_1).f2), .int .i64 ((rd_T42 l0 x11_1).f3), .int .i64 ((rd_T42 l0 x11_1).f4)] 42 (0, 0)) (by (with_reducible repeat (first | refine kn_ ?_ _ | refine kd_ ?_ | refine ka_ ?_ _)); exact BK387.out) hb); have n4_ := am_ (bp_ (by repeat (first | (with_reducible first | exact HB.out | apply ba_ | apply pw_below_drewN | apply bd_ | refine bs_ ?_ GE382.out | refine bs_ ?_ GE387.out) | exact HB.out)) hb); clear HO_5; clear HO390; clear BK382; clear BK387; clear HB; have HO_5 := n0_; have HO390 := n1_; have BK382 := n2_; have BK387 := n3_; have HB := n4_; clear n0_ n1_ n2_ n3_ n4_; (try clear hb); (try clear hb2); (try clear hk); (try clear hi)) | ((with_reducible refine gate_builtin (b := .append) (xs := #[.tmp 15, .tmp 19]) rfl ?_); at_builtin; refine Kd.R_append (Kd.int .i64) (w0 := w) w.heap.size rfl (.tmp 15) (.tmp 19) 25 3 (.int .i64 0) 8 rfl Try.underlying25 info3 rfl (by decide) (by omega) u5 x5_1 t391 [.int .i64 t391] (fun k_ => k_ ≠ gb382 ∧ some k_ ≠ (.slice Ao18 t388.length co18 : Value).ownBlock) (fun _ => False) rfl rfl ?aP (fun _ hk => hk.elim) ?aF ?aO ?aB ?aS ?aL ?_; (case aP => exact rfl); (case aB => exact (by repeat (first | (with_reducible first | exact HB.out | apply ba_ | apply pw_below_drewN | apply bd_ | refine bs_ ?_ GE382.out | refine bs_ ?_ GE387.out) | exact HB.out))); (case aF => exact (fun k_ hk => ⟨fun e_ => by have h2_ := blk_lt (g := gb382) (o := .cells #[.int .i64 a1] 3 (0, 0)) (by (with_reducible repeat (first | refine kn_ ?_ _ | refine kd_ ?_ | refine ka_ ?_ _)); exact BK382.out); (try simp only [World.drewN, World.drew] at hk); omega, Kd.fresh' (Kd.R_lt (by (with_reducible repeat (first | apply ra_ | apply rn_ | apply rd_)); exact HO390.out)) k_ hk⟩)); (case aO => exact (by (with_reducible repeat (first | apply ra_ | apply rn_ | apply rd_)); exact HO_5.out)); (case aS => exact (bz_ (by repeat (first | (with_reducible first | exact HB.out | apply ba_ | apply pw_below_drewN | apply bd_ | refine bs_ ?_ GE382.out | refine bs_ ?_ GE387.out) | exact HB.out)))); (case aL => have := LMc11.out; omega); intro v393 w20 ho hb hg hat; rw [← Ny392.out] at ho; have n0_ := am_ (blk_grown (g := gb382) (o := .cells #[.int .i64 a1] 3 (0, 0)) (by (with_reducible repeat (first | refine kn_ ?_ _ | refine kd_ ?_ | refine ka_ ?_ _)); exact BK382.out) hg (fun e_ => (HO_5.out.1 gb382 e_.symm).1 rfl)); have n1_ := am_ (blk_grown (g := gb387) (o := .cells #[.int .i64 ((rd_T42 l0 x11_1).f0), .int .i64 ((rd_T42 l0 x11_1).f1), .int .i64 ((rd_T42 l0 x11_1).f2), .int .i64 ((rd_T42 l0 x11_1).f3), .int .i64 ((rd_T42 l0 x11_1).f4)] 42 (0, 0)) (by (with_reducible repeat (first | refine kn_ ?_ _ | refine kd_ ?_ | refine ka_ ?_ _)); exact BK387.out) hg (Kd.R_ne HO_5.out BK387.out (by decide))); have n2_ := am_ (Kd.R_after (ok := (fun _ => True)) (by (with_reducible repeat (first | apply ra_ | apply rn_ | apply rd_)); exact HO390.out) hg hat); have n3_ := am_ (hb); have n4_ := am_ (ho); clear BK382; clear BK387; clear HO390; clear HB; clear HO_5; have BK382 := n0_; have BK387 := n1_; have HO390 := n2_; have HB := n3_; have HO394 := n4_; clear n0_ n1_ n2_ n3_ n4_; clear ho hb hg hat))
              go_roundg k1
              case measure => have := HK1.out; omega
              case rel => exact ⟨(y392), (wrap64 (x11_1 + 1)), (by first | rfl | (simp; done) | (simp [*]; done)), H', ⟨by have := HK1.out; omega⟩, ⟨by (with_reducible repeat (first | apply ra_ | apply rn_ | apply rd_)); exact Kd.R_mono HO394.out (fun _ hk => hk.1)⟩, ⟨by (with_reducible repeat (first | refine kn_ ?_ _ | refine kd_ ?_ | refine ka_ ?_ _)); exact BK382.out⟩, ⟨by repeat (first | (with_reducible first | exact HB.out | apply ba_ | apply pw_below_drewN | apply bd_ | refine bs_ ?_ GE382.out | refine bs_ ?_ GE387.out) | exact HB.out)⟩⟩
            · rw [if_neg c11] at H
              exact absurd H (by simp)
          · rw [if_neg c8] at H
            exact absurd H (by simp)
        · rw [if_neg c7] at H
          exact absurd H (by simp)
      · rw [if_neg c6] at H
        have c6b0 : decide (x11_1 < (l0.length : Int)) = false := decide_eq_false c6
        clear c6
        obtain rfl := Option.some.inj H
        go_wp2
        go_ret
        exact ⟨_, by first | rfl | (simp [errW_none, errW_some] <;> rfl) | (simp [*, errW_none, errW_some] <;> rfl), by (with_reducible repeat (first | apply ra_ | apply rn_ | apply rd_)); exact Kd.R_mono HO_5.out (fun _ _ => trivial), by repeat (first | (with_reducible first | exact HB.out | apply ba_ | apply pw_below_drewN | apply bd_ | refine bs_ ?_ GE382.out) | exact HB.out)⟩

/-! ### impl_BestFactors: function 9 -/
def impl_BestFactors.f (k : Nat) (l0 : List (S42)) (a1 : Int) : Option (List Int × Bool) := (impl_isFamily.f k l0).bind fun t395 => (if t395 = true then ((impl_within.f a1 1 32).bind fun t396 => (if t396 = true then ((impl_bestFactors.f k l0 a1).bind fun t397 => (some (t397, true))) else (some (([] : List Int), false)))) else (some (([] : List Int), false)))
theorem impl_BestFactors.mono : ∀ a0 a1 k, LeO (impl_BestFactors.f k a0 a1) (impl_BestFactors.f (k + 1) a0 a1) := by
  intro a0 a1 k
  unfold impl_BestFactors.f
  repeat' first
      | (with_reducible exact impl_bestFactors.mono _ _ _)
      | (with_reducible exact impl_isFamily.mono _ _)
      | (with_reducible exact LeO.refl _)
      | (with_reducible exact LeO.none _)
      | (with_reducible refine LeO.ite ?_ ?_)
      | (with_reducible refine LeO.bind ?_ (fun _ => ?_))
      | exact impl_bestFactors.mono _ _ _
      | exact impl_isFamily.mono _ _
      | exact LeO.none _
      | refine LeO.ite ?_ ?_
      | refine LeO.bind ?_ (fun _ => ?_)
set_option maxHeartbeats 8000000 in
set_option maxRecDepth 100000 in
theorem impl_BestFactors.calls (k : Nat) (A0 : Option Addr) (c0 : Nat) (l0 : List (S42)) (a1 : Int) (r1 : List Int) (r2 : Bool) (w : World) (hr0 : Kd.C k42 w A0 l0.length l0) (hc0 : l0.length ≤ c0) (h : impl_BestFactors.f k l0 a1 = some (r1, r2)) :
    Calls Try.prog 9 #[.slice A0 l0.length c0, .int .i64 a1] w fun e w' => ∃ v0_ : Value, e = .returned (.tuple #[v0_, .bool r2]) ∧ Kd.R (Kd.int .i64) 3 w' w.heap.size (fun _ => True) v0_ r1 ∧ Below w.heap.size w w' := by
  have HR0 := am_ hr0
  have HC0 := am_ hc0
  clear hr0 hc0
  have HB := am_ (Below.refl w.heap.size w)
  have H : ((impl_isFamily.f k l0).bind fun t395 => (if t395 = true then ((impl_within.f a1 1 32).bind fun t396 => (if t396 = true then ((impl_bestFactors.f k l0 a1).bind fun t397 => (some (t397, true))) else (some (([] : List Int), false)))) else (some (([] : List Int), false)))) = some (r1, r2) := h
  clear h
  replace H := Option.bind_eq_some_iff.mp H
  obtain ⟨t395, A30, H⟩ := H
  replace H : (if t395 = true then ((impl_within.f a1 1 32).bind fun t396 => (if t396 = true then ((impl_bestFactors.f k l0 a1).bind fun t397 => (some (t397, true))) else (some (([] : List Int), false)))) else (some (([] : List Int), false))) = some (r1, r2) := H
  have A3 := am_ A30
  clear A30
  by_cases c4 : t395 = true
  · subst c4
    have H1 : ((impl_within.f a1 1 32).bind fun t396 => (if t396 = true then ((impl_bestFactors.f k l0 a1).bind fun t397 => (some (t397, true))) else (some (([] : List Int), false)))) = some (r1, r2) := by rw [if_pos rfl] at H; exact H
    clear H
    have H := H1
    clear H1
    replace H := Option.bind_eq_some_iff.mp H
    obtain ⟨t396, A50, H⟩ := H
    replace H : (if t396 = true then ((impl_bestFactors.f k l0 a1).bind fun t397 => (some (t397, true))) else (some (([] : List Int), false))) = some (r1, r2) := H
    have A5 := am_ A50
    clear A50
    by_cases c6 : t396 = true
    · subst c6
      have H1 : ((impl_bestFactors.f k l0 a1).bind fun t397 => (some (t397, true))) = some (r1, r2) := by rw [if_pos rfl] at H; exact H
      clear H
      have H := H1
      clear H1
      replace H := Option.bind_eq_some_iff.mp H
      obtain ⟨t397, A70, H⟩ := H
      replace H : (some (t397, true)) = some (r1, r2) := H
      have A7 := am_ A70
      clear A70
      simp only [Option.some.injEq, Prod.mk.injEq] at H
      obtain ⟨rfl, rfl⟩ := H
      go_enter Try.func9, Try.ntmps9
      go_wp2_with (first | ((with_reducible refine gc_ (f := 22) rfl ?_); refine goesL_ (some 7) rfl rfl Try.func22 (by kernel_rfl) rfl #[.slice A0 l0.length c0] rfl (by (try simp only [List.map_toArray, List.map_cons, List.map_nil]); first | done | rfl | (simp only [List.length_drop, List.length_take]; rfl)) ?_; (with_reducible refine (impl_isFamily.calls k _ _ l0 true _ ?side1 ?side2 A3.out).mono ?_); (case side1 => repeat (first | exact HR0.out | (with_reducible refine Kd.C_alloc ?_ _) | (with_reducible refine Kd.C_drewN ?_ _) | (with_reducible refine Kd.C_drew ?_))); (case side2 => exact HC0.out); rintro e w8 ⟨rfl, hb⟩; refine ⟨_, rfl, ?_⟩; have n0_ := am_ (bp_ (by repeat (first | (with_reducible first | exact HB.out | apply ba_ | apply pw_below_drewN | apply bd_) | exact HB.out)) hb); clear HB; have HB := n0_; clear n0_; (try clear hb); (try clear hb2); (try clear hk); (try clear hi)) | (go_at_call 23; (with_reducible refine (impl_within.calls a1 1 32 true _ A5.out).mono ?_); rintro e w' ⟨rfl, ⟨nd, rfl⟩⟩) | ((with_reducible refine gc_ (f := 30) rfl ?_); refine goesL_ (some 16) rfl rfl Try.func30 (by kernel_rfl) rfl #[.slice A0 l0.length c0, .int .i64 a1] rfl (by (try simp only [List.map_toArray, List.map_cons, List.map_nil]); first | done | rfl | (simp only [List.length_drop, List.length_take]; rfl)) ?_; (with_reducible refine (impl_bestFactors.calls k _ _ l0 a1 t397 _ ?side1 ?side2 A7.out).mono ?_); (case side1 => repeat (first | exact (Kd.C_below HR0.out (by repeat (first | (with_reducible first | exact HB.out | apply ba_ | apply pw_below_drewN | apply bd_) | exact HB.out))) | (with_reducible refine Kd.C_alloc ?_ _) | (with_reducible refine Kd.C_drewN ?_ _) | (with_reducible refine Kd.C_drew ?_))); (case side2 => exact HC0.out); rintro e w9 ⟨v398, rfl, ho0, hb⟩; refine ⟨_, rfl, ?_⟩; have n0_ := am_ (Kd.R_lower ho0 (bz_ (by repeat (first | (with_reducible first | exact HB.out | apply ba_ | apply pw_below_drewN | apply bd_) | exact HB.out)))); have n1_ := am_ (bp_ (by repeat (first | (with_reducible first | exact HB.out | apply ba_ | apply pw_below_drewN | apply bd_) | exact HB.out)) hb); clear HB; have HO399 := n0_; have HB := n1_; clear n0_ n1_; (try clear hb); (try clear hb2); (try clear hk); (try clear hi); (try clear ho0)))
      go_ret2
      exact ⟨_, by first | rfl | (simp [errW_none, errW_some] <;> rfl) | (simp [*, errW_none, errW_some] <;> rfl), by (with_reducible repeat (first | apply ra_ | apply rn_ | apply rd_)); exact HO399.out, by repeat (first | (with_reducible first | exact HB.out | apply ba_ | apply pw_below_drewN | apply bd_) | exact HB.out)⟩
    · replace c6 := Bool.eq_false_iff.mpr c6
      subst c6
      have H1 : (some (([] : List Int), false)) = some (r1, r2) := by rw [if_neg (show ¬ (false = true) by decide)] at H; exact H
      clear H
      have H := H1
      clear H1
      simp only [Option.some.injEq, Prod.mk.injEq] at H
      obtain ⟨rfl, rfl⟩ := H
      go_enter Try.func9, Try.ntmps9
      go_wp2_with (first | ((with_reducible refine gc_ (f := 22) rfl ?_); refine goesL_ (some 7) rfl rfl Try.func22 (by kernel_rfl) rfl #[.slice A0 l0.length c0] rfl (by (try simp only [List.map_toArray, List.map_cons, List.map_nil]); first | done | rfl | (simp only [List.length_drop, List.length_take]; rfl)) ?_; (with_reducible refine (impl_isFamily.calls k _ _ l0 true _ ?side1 ?side2 A3.out).mono ?_); (case side1 => repeat (first | exact HR0.out | (with_reducible refine Kd.C_alloc ?_ _) | (with_reducible refine Kd.C_drewN ?_ _) | (with_reducible refine Kd.C_drew ?_))); (case side2 => exact HC0.out); rintro e w10 ⟨rfl, hb⟩; refine ⟨_, rfl, ?_⟩; have n0_ := am_ (bp_ (by repeat (first | (with_reducible first | exact HB.out | apply ba_ | apply pw_below_drewN | apply bd_) | exact HB.out)) hb); clear HB; have HB := n0_; clear n0_; (try clear hb); (try clear hb2); (try clear hk); (try clear hi)) | (go_at_call 23; (with_reducible refine (impl_within.calls a1 1 32 false _ A5.out).mono ?_); rintro e w' ⟨rfl, ⟨nd, rfl⟩⟩))
      go_ret2
      exact ⟨_, by first | rfl | (simp [errW_none, errW_some] <;> rfl) | (simp [*, errW_none, errW_some] <;> rfl), by first | exact Kd.R_nil _ _ _ _ _ | exact Kd.N_nil _ _ _ _ _ | exact Kd.V_nil _ _ _ _ _ | exact Kd.Q_nil _ _ _ _ _ | exact Kd.S_nil _ _ _ _ _, by repeat (first | (with_reducible first | exact HB.out | apply ba_ | apply pw_below_drewN | apply bd_) | exact HB.out)⟩
  · replace c4 := Bool.eq_false_iff.mpr c4
    subst c4
    have H1 : (some (([] : List Int), false)) = some (r1, r2) := by rw [if_neg (show ¬ (false = true) by decide)] at H; exact H
    clear H
    have H := H1
    clear H1
    simp only [Option.some.injEq, Prod.mk.injEq] at H
    obtain ⟨rfl, rfl⟩ := H
    go_enter Try.func9, Try.ntmps9
    go_wp2_with (first | ((with_reducible refine gc_ (f := 22) rfl ?_); refine goesL_ (some 7) rfl rfl Try.func22 (by kernel_rfl) rfl #[.slice A0 l0.length c0] rfl (by (try simp only [List.map_toArray, List.map_cons, List.map_nil]); first | done | rfl | (simp only [List.length_drop, List.length_take]; rfl)) ?_; (with_reducible refine (impl_isFamily.calls k _ _ l0 false _ ?side1 ?side2 A3.out).mono ?_); (case side1 => repeat (first | exact HR0.out | (with_reducible refine Kd.C_alloc ?_ _) | (with_reducible refine Kd.C_drewN ?_ _) | (with_reducible refine Kd.C_drew ?_))); (case side2 => exact HC0.out); rintro e w11 ⟨rfl, hb⟩; refine ⟨_, rfl, ?_⟩; have n0_ := am_ (bp_ (by repeat (first | (with_reducible first | exact HB.out | apply ba_ | apply pw_below_drewN | apply bd_) | exact HB.out)) hb); clear HB; have HB := n0_; clear n0_; (try clear hb); (try clear hb2); (try clear hk); (try clear hi)))
    go_ret2
    exact ⟨_, by first | rfl | (simp [errW_none, errW_some] <;> rfl) | (simp [*, errW_none, errW_some] <;> rfl), by first | exact Kd.R_nil _ _ _ _ _ | exact Kd.N_nil _ _ _ _ _ | exact Kd.V_nil _ _ _ _ _ | exact Kd.Q_nil _ _ _ _ _ | exact Kd.S_nil _ _ _ _ _, by repeat (first | (with_reducible first | exact HB.out | apply ba_ | apply pw_below_drewN | apply bd_) | exact HB.out)⟩

/-! ### spec_l8Less: function 35 -/
def spec_l8Less.f (a0_0 : Int) (a0_1 : Int) (a1_0 : Int) (a1_1 : Int) : Option (Bool) := some (decide ((wrap64 (a0_0 * a1_1)) < (wrap64 (a1_0 * a0_1))))
set_option maxHeartbeats 8000000 in
set_option maxRecDepth 100000 in
theorem spec_l8Less.calls (a0_0 : Int) (a0_1 : Int) (a1_0 : Int) (a1_1 : Int) (r : Bool) (w : World) (h : spec_l8Less.f a0_0 a0_1 a1_0 a1_1 = some r) :
    Calls Try.prog 35 #[.agg #[.int .i64 a0_0, .int .i64 a0_1], .agg #[.int .i64 a1_0, .int .i64 a1_1]] w fun e w' => e = .returned (.bool r) ∧ Below w.heap.size w w' := by
  have hu28 := Try.underlying28
  have HB := am_ (Below.refl w.heap.size w)
  have H : (some (decide ((wrap64 (a0_0 * a1_1)) < (wrap64 (a1_0 * a0_1))))) = some r := h
  clear h
  obtain rfl := Option.some.inj H
  go_enter Try.func35, Try.ntmps35
  go_wp2_with (first | ((with_reducible refine gate_dst (N := 2) rfl ?_); refine box_event ?hg (N := 2) ?hd (cs := #[.int .i64 a0_0, .int .i64 a0_1]) (t := 28) ?hr ?_; (case hd => rfl); (case hg => rfl); (case hr => first | (go_simp; done) | (go_simp; rfl)); intro gb400 hg w3 hbox hb; have n0_ := am_ (bp_ (by repeat (first | (with_reducible first | exact HB.out | apply ba_ | apply pw_below_drewN | apply bd_) | exact HB.out)) hb); have n1_ := am_ (hbox); have n2_ := am_ ((by rw [hg]; exact (bz_ (by repeat (first | (with_reducible first | exact HB.out | apply ba_ | apply pw_below_drewN | apply bd_) | exact HB.out))) : w.heap.size ≤ gb400)); have n3_ := am_ ((by rw [hg]; exact (bz_ (by repeat (first | (with_reducible first | exact HB.out | apply ba_ | apply pw_below_drewN | apply bd_) | exact HB.out))) : w.heap.size ≤ gb400)); clear HB; have HB := n0_; have BK400 := n1_; have GW400 := n2_; have GE400 := n3_; clear n0_ n1_ n2_ n3_; clear hb hbox hg) | ((with_reducible refine gate_dst (N := 3) rfl ?_); refine box_event ?hg (N := 3) ?hd (cs := #[.int .i64 a1_0, .int .i64 a1_1]) (t := 28) ?hr ?_; (case hd => rfl); (case hg => rfl); (case hr => first | (go_simp; done) | (go_simp; rfl)); intro gb401 hg w4 hbox hb; have n0_ := am_ (kb_ (g := gb400) (o := .cells #[.int .i64 a0_0, .int .i64 a0_1] 28 (0, 0)) (by (with_reducible repeat (first | refine kn_ ?_ _ | refine kd_ ?_ | refine ka_ ?_ _)); exact BK400.out) hb); have n1_ := am_ (bp_ (by repeat (first | (with_reducible first | exact HB.out | apply ba_ | apply pw_below_drewN | apply bd_ | refine bs_ ?_ GE400.out) | exact HB.out)) hb); have n2_ := am_ (hbox); have n3_ := am_ ((by rw [hg]; exact (bz_ (by repeat (first | (with_reducible first | exact HB.out | apply ba_ | apply pw_below_drewN | apply bd_ | refine bs_ ?_ GE400.out) | exact HB.out))) : w.heap.size ≤ gb401)); have n4_ := am_ ((by rw [hg]; exact (bz_ (by repeat (first | (with_reducible first | exact HB.out | apply ba_ | apply pw_below_drewN | apply bd_ | refine bs_ ?_ GE400.out) | exact HB.out))) : w.heap.size ≤ gb401)); have n5_ := am_ ((by rw [hg]; exact Nat.ne_of_lt (blk_lt (g := gb400) (o := .cells #[.int .i64 a0_0, .int .i64 a0_1] 28 (0, 0)) (by (with_reducible repeat (first | refine kn_ ?_ _ | refine kd_ ?_ | refine ka_ ?_ _)); exact BK400.out)) : gb400 ≠ gb401)); have n6_ := am_ ((by rw [hg]; exact Nat.ne_of_gt (blk_lt (g := gb400) (o := .cells #[.int .i64 a0_0, .int .i64 a0_1] 28 (0, 0)) (by (with_reducible repeat (first | refine kn_ ?_ _ | refine kd_ ?_ | refine ka_ ?_ _)); exact BK400.out)) : gb401 ≠ gb400)); clear BK400; clear HB; have BK400 := n0_; have HB := n1_; have BK401 := n2_; have GW401 := n3_; have GE401 := n4_; have NB400_401 := n5_; have NB401_400 := n6_; clear n0_ n1_ n2_ n3_ n4_ n5_ n6_; clear hb hbox hg; have hnb5 := NB400_401.out; have hnc5 := NB401_400.out; have hcz6_0 : w4.cell? ⟨gb400, 0, none⟩ = some (.int .i64 a0_0) := (kc_ BK400.out 0).trans rfl; have hcz6_1 : w4.cell? ⟨gb400, 1, none⟩ = some (.int .i64 a0_1) := (kc_ BK400.out 1).trans rfl; have hfz6_0 := kf_ BK400.out 0; have hfz6_1 := kf_ BK400.out 1; have hcz7_0 : w4.cell? ⟨gb401, 0, none⟩ = some (.int .i64 a1_0) := (kc_ BK401.out 0).trans rfl; have hcz7_1 : w4.cell? ⟨gb401, 1, none⟩ = some (.int .i64 a1_1) := (kc_ BK401.out 1).trans rfl; have hfz7_0 := kf_ BK401.out 0; have hfz7_1 := kf_ BK401.out 1))
  go_ret
  exact ⟨by first | rfl | (simp [errW_none, errW_some] <;> rfl) | (simp [*, errW_none, errW_some] <;> rfl), by repeat (first | (with_reducible first | exact HB.out | apply ba_ | apply pw_below_drewN | apply bd_ | refine bs_ ?_ GE400.out | refine bs_ ?_ GE401.out) | exact HB.out)⟩

end Go.Proofs.Ytpmcmaffjghiiaa.PFnFamilies
